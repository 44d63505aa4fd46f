import Derived.Test.YtkkecoodefjnbaaSpanI
import Derived.Test.YtkkecoodefjnbaaLaw
namespace Go.Proofs.Ytkkecoodefjnbaa
open Go Go.RowKit Go.Own Go.Shelf

theorem putAt_above {s t e : Int} {v : Option Int × Option Int} (h1 : s ≤ e) (h2 : t ≤ e) : putAt s t e v = v := by
  unfold putAt; rw [if_neg (by omega), if_neg (by omega)]

/-- An error of New, Move and Put once more, with the answer's number at hand. -/
theorem move_any (b : Nat) (W E e : Int) (w : World) (FP : Nat → Prop) (view : Int → Option Int × Option Int) (h : SpanView w FP b W E view) (hv : ∀ x, E < x → view x = (none, none)) (r E' : Int) (hr : moveErr E e = r) (hE : (if r = 0 then e else E) = E') :
    Calls Try.prog 12 #[.pointer (some ⟨b, 0, none⟩), .int .i64 e] w fun v w' => v = .returned (.int .i64 r) ∧ SpanView w' FP b W E' view ∧ Keeps (One b) w w' := by
  subst hr; subst hE; exact span_move b W E e w FP view h hv
theorem put_no (b : Nat) (W E s t : Int) (w : World) (FP : Nat → Prop) (view : Int → Option Int × Option Int) (h : SpanView w FP b W E view) (r : Int) (hr : putErr W E s t = r) (h0 : r ≠ 0) :
    Calls Try.prog 14 #[.pointer (some ⟨b, 0, none⟩), .int .i64 s, .int .i64 t] w fun v w' => v = .returned (.int .i64 r) ∧ SpanView w' FP b W E view ∧ Keeps (One b) w w' := by
  refine (span_put_no b W E s t w FP view h (by unfold putErr at hr; (repeat' split at hr) <;> first | omega | exact absurd hr.symm h0)).mono ?_
  rintro v w' ⟨rfl, hk⟩
  refine ⟨by rw [hr], h.of_keeps hk (fun x => x) (fun _ _ x => x) (fun _ x => x) h.nb (fun j hj => Nat.lt_of_lt_of_le (h.fp j hj) hk.size), hk.mono (fun _ _ x => x.elim)⟩
theorem put_yes (b : Nat) (W E s t : Int) (w : World) (FP : Nat → Prop) (view : Int → Option Int × Option Int) (h : SpanView w FP b W E view) (hr : putErr W E s t = 0) :
    Calls Try.prog 14 #[.pointer (some ⟨b, 0, none⟩), .int .i64 s, .int .i64 t] w fun v w' => v = .returned (.int .i64 0) ∧ SpanView w' (fun j => FP j ∨ j = w.heap.size + 1 + 1) b W E (fun e => putAt s t e (view e)) ∧ Keeps (One b) w w' := by
  unfold putErr at hr
  refine span_put_ok b W E s t w FP view h ?_ ?_ ?_ ?_ <;> intro hx <;> (repeat' split at hr) <;> omega

def view2 : Int → Option Int × Option Int := fun e => putAt 1 5 e (view1 e)
theorem view1_above (x : Int) (h : 3 < x) : view1 x = (none, none) := by unfold view1; rw [putAt_above (by omega) (by omega), putAt_above (by omega) (by omega)]
theorem view2_above (x : Int) (h : 5 < x) : view2 x = (none, none) := by unfold view2; rw [putAt_above (by omega) (by omega), view1_above _ (by omega)]

set_option maxRecDepth 100000 in
set_option maxHeartbeats 4000000 in
theorem known_ok (w : World) : Calls Try.prog 3 #[] w fun e w' => e = .returned (.bool true) ∧ Keeps Nob w w' := by
  go_enter Try.func3, Try.ntmps3
  go_wp2_with fail
  refine (first_ok _).mono ?_
  rintro v V1 ⟨b, FP, rfl, hb, hfp, hv, hk⟩
  have hkk := Keeps.refl (Own.One b) V1
  go_wp2_with fail
  refine (maxs_yes b 4 3 2 3 _ _ view1 hv (by omega) rfl).mono ?_
  clear hv
  rintro v V ⟨rfl, hv, hk'⟩
  replace hkk := hkk.trans hk'
  clear hk'
  go_wp2_with fail
  refine (mins_yes b 4 3 1 2 _ _ view1 hv (by omega) rfl).mono ?_
  clear hv
  rintro v V ⟨rfl, hv, hk'⟩
  replace hkk := hkk.trans hk'
  clear hk'
  go_wp2_with fail
  refine (clash_yes b 4 3 _ _ view1 hv 0 3 3 2 rfl).mono ?_
  clear hv
  rintro v V ⟨rfl, hv, hk'⟩
  replace hkk := hkk.trans hk'
  clear hk'
  go_wp2_with fail
  refine (clash_yes b 4 3 _ _ view1 hv 2 2 4 3 rfl).mono ?_
  clear hv
  rintro v V ⟨rfl, hv, hk'⟩
  replace hkk := hkk.trans hk'
  clear hk'
  go_wp2_with fail
  refine (clash_yes b 4 3 _ _ view1 hv 3 3 0 0 rfl).mono ?_
  clear hv
  rintro v V ⟨rfl, hv, hk'⟩
  replace hkk := hkk.trans hk'
  clear hk'
  go_wp2_with fail
  refine (move_any b 4 3 5 _ _ view1 hv view1_above 0 5 rfl rfl).mono ?_
  clear hv
  rintro v V ⟨rfl, hv, hk'⟩
  replace hkk := hkk.trans hk'
  clear hk'
  go_wp2_with fail
  refine (span_low b 4 5 _ hv.cells.1 hv.cells.2.1 rfl (by omega) (by omega) (by omega) (by omega)).mono ?_
  rintro v V ⟨rfl, rfl⟩
  replace hv := hv.drewN 1
  replace hkk := hkk.drew
  go_wp2_with fail
  refine (maxs_yes b 4 5 2 3 _ _ view1 hv (by omega) rfl).mono ?_
  clear hv
  rintro v V ⟨rfl, hv, hk'⟩
  replace hkk := hkk.trans hk'
  clear hk'
  go_wp2_with fail
  refine (maxs_no b 4 5 3 (-1) _ _ view1 hv (by omega) rfl).mono ?_
  clear hv
  rintro v V ⟨rfl, hv, hk'⟩
  replace hkk := hkk.trans hk'
  clear hk'
  go_wp2_with fail
  refine (mins_no b 4 5 1 (-1) _ _ view1 hv (by omega) rfl).mono ?_
  clear hv
  rintro v V ⟨rfl, hv, hk'⟩
  replace hkk := hkk.trans hk'
  clear hk'
  go_wp2_with fail
  refine (put_no b 4 5 0 1 _ _ view1 hv 16 rfl (by omega)).mono ?_
  clear hv
  rintro v V ⟨rfl, hv, hk'⟩
  replace hkk := hkk.trans hk'
  clear hk'
  go_wp2_with fail
  refine (put_no b 4 5 0 6 _ _ view1 hv 17 rfl (by omega)).mono ?_
  clear hv
  rintro v V ⟨rfl, hv, hk'⟩
  replace hkk := hkk.trans hk'
  clear hk'
  go_wp2_with fail
  refine (put_no b 4 5 4 3 _ _ view1 hv 9 rfl (by omega)).mono ?_
  clear hv
  rintro v V ⟨rfl, hv, hk'⟩
  replace hkk := hkk.trans hk'
  clear hk'
  go_wp2_with fail
  refine (put_no b 4 5 (-1) 4 _ _ view1 hv 3 rfl (by omega)).mono ?_
  clear hv
  rintro v V ⟨rfl, hv, hk'⟩
  replace hkk := hkk.trans hk'
  clear hk'
  go_wp2_with fail
  refine (put_yes b 4 5 1 5 _ _ view1 hv rfl).mono ?_
  clear hv
  rintro v V ⟨rfl, hv, hk'⟩
  replace hkk := hkk.trans hk'
  clear hk'
  go_wp2_with fail
  refine (maxs_yes b 4 5 2 5 _ _ view2 hv (by omega) rfl).mono ?_
  clear hv
  rintro v V ⟨rfl, hv, hk'⟩
  replace hkk := hkk.trans hk'
  clear hk'
  go_wp2_with fail
  refine (maxs_yes b 4 5 4 5 _ _ view2 hv (by omega) rfl).mono ?_
  clear hv
  rintro v V ⟨rfl, hv, hk'⟩
  replace hkk := hkk.trans hk'
  clear hk'
  go_wp2_with fail
  refine (move_any b 4 5 4 _ _ view2 hv view2_above 9 5 rfl rfl).mono ?_
  clear hv
  rintro v V ⟨rfl, hv, hk'⟩
  replace hkk := hkk.trans hk'
  clear hk'
  go_wp2_with fail
  refine (move_any b 4 5 4294967297 _ _ view2 hv view2_above 3 5 rfl rfl).mono ?_
  clear hv
  rintro v V ⟨rfl, hv, hk'⟩
  replace hkk := hkk.trans hk'
  clear hk'
  go_wp2_with fail
  refine (move_any b 4 5 300 _ _ view2 hv view2_above 0 300 rfl rfl).mono ?_
  clear hv
  rintro v V ⟨rfl, hv, hk'⟩
  replace hkk := hkk.trans hk'
  clear hk'
  go_wp2_with fail
  refine (maxs_no b 4 300 4 (-1) _ _ view2 hv (by omega) rfl).mono ?_
  clear hv
  rintro v V ⟨rfl, hv, hk'⟩
  replace hkk := hkk.trans hk'
  clear hk'
  go_wp2_with fail
  refine (span_epoch b 4 300 _ hv.cells.1 hv.cells.2.1 rfl).mono ?_
  rintro v V ⟨rfl, rfl⟩
  go_wp2_with fail
  refine (span_new_no 0 _ (by omega)).mono ?_
  rintro v V ⟨rfl, rfl⟩
  go_wp2_with fail
  refine (span_new_no 257 _ (by omega)).mono ?_
  rintro v V ⟨rfl, rfl⟩
  go_wp2_with fail
  refine (awake_ok _).mono ?_
  rintro v V ⟨rfl, hk2⟩
  go_wp2_with fail
  go_ret
  exact ⟨rfl, (hk.then hkk (fun i hi hx => by unfold Own.One at hx; omega)).trans hk2⟩
end Go.Proofs.Ytkkecoodefjnbaa
