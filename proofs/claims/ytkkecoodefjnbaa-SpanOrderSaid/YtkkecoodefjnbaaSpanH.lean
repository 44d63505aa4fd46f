import Derived.Test.YtkkecoodefjnbaaSpanG
namespace Go.Proofs.Ytkkecoodefjnbaa
open Go Go.RowKit Go.Own Go.Shelf

section
variable (b : Nat) (W E e want : Int) (w : World) (FP : Nat → Prop) (view : Int → Option Int × Option Int) (h : SpanView w FP b W E view)
include h

set_option maxHeartbeats 1000000 in
theorem maxs_yes (hw : 0 ≤ want) (ht : tellOf W E e (view e).2 = (want, true)) :
    Calls Try.prog 9 #[.pointer (some ⟨b, 0, none⟩), .int .i64 e, .int .i64 want] w fun v w' => v = .returned (.bool true) ∧ SpanView w' FP b W E view ∧ Keeps (One b) w w' := by
  have hm := span_max b W E e w FP view h
  rw [ht] at hm
  have HM := Lib.hid hm; clear hm ht
  go_enter Try.func9, Try.ntmps9
  go_wp2_with (go_at_call 30; refine HM.out.mono ?_; rintro v V1 ⟨rfl, hv1, hk1⟩)
  all_goals
    go_ret
    refine ⟨?_, hv1, hk1⟩
    first | rfl | (simp; omega)
set_option maxHeartbeats 1000000 in
theorem maxs_no (hw : want < 0) (ht : tellOf W E e (view e).2 = (0, false)) :
    Calls Try.prog 9 #[.pointer (some ⟨b, 0, none⟩), .int .i64 e, .int .i64 want] w fun v w' => v = .returned (.bool true) ∧ SpanView w' FP b W E view ∧ Keeps (One b) w w' := by
  have hm := span_max b W E e w FP view h
  rw [ht] at hm
  have HM := Lib.hid hm; clear hm ht
  go_enter Try.func9, Try.ntmps9
  go_wp2_with (go_at_call 30; refine HM.out.mono ?_; rintro v V1 ⟨rfl, hv1, hk1⟩)
  all_goals
    go_ret
    refine ⟨?_, hv1, hk1⟩
    first | rfl | (simp; omega)
set_option maxHeartbeats 1000000 in
theorem mins_yes (hw : 0 ≤ want) (ht : tellOf W E e (view e).1 = (want, true)) :
    Calls Try.prog 10 #[.pointer (some ⟨b, 0, none⟩), .int .i64 e, .int .i64 want] w fun v w' => v = .returned (.bool true) ∧ SpanView w' FP b W E view ∧ Keeps (One b) w w' := by
  have hm := span_min b W E e w FP view h
  rw [ht] at hm
  have HM := Lib.hid hm; clear hm ht
  go_enter Try.func10, Try.ntmps10
  go_wp2_with (go_at_call 29; refine HM.out.mono ?_; rintro v V1 ⟨rfl, hv1, hk1⟩)
  all_goals
    go_ret
    refine ⟨?_, hv1, hk1⟩
    first | rfl | (simp; omega)
set_option maxHeartbeats 1000000 in
theorem mins_no (hw : want < 0) (ht : tellOf W E e (view e).1 = (0, false)) :
    Calls Try.prog 10 #[.pointer (some ⟨b, 0, none⟩), .int .i64 e, .int .i64 want] w fun v w' => v = .returned (.bool true) ∧ SpanView w' FP b W E view ∧ Keeps (One b) w w' := by
  have hm := span_min b W E e w FP view h
  rw [ht] at hm
  have HM := Lib.hid hm; clear hm ht
  go_enter Try.func10, Try.ntmps10
  go_wp2_with (go_at_call 29; refine HM.out.mono ?_; rintro v V1 ⟨rfl, hv1, hk1⟩)
  all_goals
    go_ret
    refine ⟨?_, hv1, hk1⟩
    first | rfl | (simp; omega)

set_option maxHeartbeats 1000000 in
theorem clash_yes (s t fl wi : Int) (ht : clashOf W E s t view = (fl, wi)) :
    Calls Try.prog 11 #[.pointer (some ⟨b, 0, none⟩), .int .i64 s, .int .i64 t, .int .i64 fl, .int .i64 wi] w fun v w' => v = .returned (.bool true) ∧ SpanView w' FP b W E view ∧ Keeps (One b) w w' := by
  have hm := span_clash b W E s t w FP view h
  rw [ht] at hm
  have HM := Lib.hid hm; clear hm ht
  go_enter Try.func11, Try.ntmps11
  go_wp2_with (go_at_call 20; refine HM.out.mono ?_; rintro v V1 ⟨rfl, hv1, hk1⟩)
  all_goals
    go_ret
    refine ⟨?_, hv1, hk1⟩
    first | rfl | (simp; omega)

set_option maxHeartbeats 1000000 in
theorem put_any (s t : Int) : ∀ r : Int, putErr W E s t = r →
    Calls Try.prog 14 #[.pointer (some ⟨b, 0, none⟩), .int .i64 s, .int .i64 t] w fun v w' => v = .returned (.int .i64 r) ∧
      SpanView w' (fun j => FP j ∨ j = w.heap.size + 1 + 1 ∧ r = 0) b W E (fun e => if r = 0 then putAt s t e (view e) else view e) ∧ Keeps (One b) w w' := by
  intro r hr
  by_cases h1 : s < 0 ∨ t < s ∨ t < lowOf W E ∨ E < t
  · refine (span_put_no b W E s t w FP view h h1).mono ?_
    rintro v w' ⟨rfl, hk⟩
    have h0 : r ≠ 0 := by
      rw [← hr]; unfold putErr; repeat' split
      all_goals first | decide | omega
    refine ⟨by rw [hr], ?_, hk.mono (fun _ _ x => x.elim)⟩
    refine (h.of_keeps hk (fun x => x) (fun _ _ x => x) (FP' := fun j => FP j ∨ j = w.heap.size + 1 + 1 ∧ r = 0) (fun _ x => .inl x) (fun x => x.elim h.nb (fun y => h0 y.2)) (fun j hj => hj.elim (fun x => Nat.lt_of_lt_of_le (h.fp j x) hk.size) (fun y => absurd y.2 h0))).congr fun e _ _ => by rw [if_neg h0]
  · have h0 : r = 0 := by rw [← hr]; unfold putErr; rw [if_neg (by omega), if_neg (by omega), if_neg (by omega), if_neg (by omega)]
    refine (span_put_ok b W E s t w FP view h (by omega) (by omega) (by omega) (by omega)).mono ?_
    rintro v w' ⟨rfl, hv, hk⟩
    subst h0
    refine ⟨rfl, ?_, hk⟩
    simpa using hv
end

/-- The two votes of the chapter's first span. -/
def view1 : Int → Option Int × Option Int := fun e => putAt 2 2 e (putAt 0 3 e (none, none))

/-- A new span, out of the heap's end. -/
def NewSpan (w : World) (W E : Int) (view : Int → Option Int × Option Int) (e : Ending) (w' : World) : Prop :=
  ∃ (b : Nat) (FP : Nat → Prop), e = .returned (.pointer (some ⟨b, 0, none⟩)) ∧ w.heap.size ≤ b ∧ (∀ j, FP j → w.heap.size ≤ j) ∧ SpanView w' FP b W E view ∧ Keeps Nob w w'

set_option maxHeartbeats 1000000 in
theorem first_ok (w : World) : Calls Try.prog 8 #[] w (NewSpan w 4 3 view1) := by
  go_enter Try.func8, Try.ntmps8
  go_wp2_with (first
    | (go_at_call 16; refine (span_new_view 4 _ (by omega) (by omega)).mono ?_; rintro v V1 ⟨rfl, hv1, hk1, hs1⟩)
    | (go_at_call 12; refine (span_move w.heap.size 4 0 3 _ Nob _ hv1 (fun _ _ => rfl)).mono ?_; rintro v V2 ⟨rfl, hv2, hk2⟩)
    | (go_at_call 14; refine (put_any w.heap.size 4 3 _ Nob _ hv2 0 3 0 rfl).mono ?_; rintro v V3 ⟨rfl, hv3, hk3⟩; clear hv2)
    | (go_at_call 14; refine (put_any w.heap.size 4 3 _ _ _ hv3 2 2 0 rfl).mono ?_; rintro v V4 ⟨rfl, hv4, hk4⟩; clear hv3))
  go_ret
  have hk : Keeps (Own.One w.heap.size) V1 V4 := (hk2.trans hk3).trans hk4
  have s2 := hk2.size
  have s3 := hk3.size
  exact ⟨_, _, rfl, Nat.le_refl _, fun j hj => by rcases hj with (hj | hj) | hj <;> first | exact hj.elim | omega, hv4, hk1.then hk (fun i hi hx => by unfold Own.One at hx; omega)⟩

set_option maxHeartbeats 2000000 in
theorem awake_ok (w : World) : Calls Try.prog 17 #[] w fun e w' => e = .returned (.bool true) ∧ Keeps Nob w w' := by
  go_enter Try.func17, Try.ntmps17
  go_wp2_with fail
  refine (first_ok _).mono ?_
  rintro v V1 ⟨b, FP, rfl, hb, hfp, hv, hk⟩
  have hkk := Keeps.refl (Own.One b) V1
  go_wp2_with fail
  refine (maxs_yes b 4 3 1 3 _ FP _ hv (by omega) rfl).mono ?_
  clear hv
  rintro v V ⟨rfl, hv, hk'⟩
  replace hkk := hkk.trans hk'
  clear hk'
  go_wp2_with fail
  refine (maxs_no b 4 3 3 (-1) _ FP _ hv (by omega) rfl).mono ?_
  clear hv
  rintro v V ⟨rfl, hv, hk'⟩
  replace hkk := hkk.trans hk'
  clear hk'
  go_wp2_with fail
  refine (mins_yes b 4 3 0 2 _ FP _ hv (by omega) rfl).mono ?_
  clear hv
  rintro v V ⟨rfl, hv, hk'⟩
  replace hkk := hkk.trans hk'
  clear hk'
  go_wp2_with fail
  refine (mins_no b 4 3 2 (-1) _ FP _ hv (by omega) rfl).mono ?_
  clear hv
  rintro v V ⟨rfl, hv, hk'⟩
  replace hkk := hkk.trans hk'
  clear hk'
  go_wp2_with fail
  refine (clash_yes b 4 3 _ FP _ hv 1 2 4 3 rfl).mono ?_
  clear hv
  rintro v V ⟨rfl, hv, hk'⟩
  replace hkk := hkk.trans hk'
  clear hk'
  go_wp2_with fail
  refine (clash_yes b 4 3 _ FP _ hv 1 3 3 2 rfl).mono ?_
  clear hv
  rintro v V ⟨rfl, hv, hk'⟩
  replace hkk := hkk.trans hk'
  clear hk'
  go_wp2_with fail
  refine (clash_yes b 4 3 _ FP _ hv 2 3 0 0 rfl).mono ?_
  clear hv
  rintro v V ⟨rfl, hv, hk'⟩
  replace hkk := hkk.trans hk'
  clear hk'
  go_wp2_with fail
  go_ret
  exact ⟨rfl, hk.then hkk (fun i hi hx => by unfold Own.One at hx; omega)⟩
end Go.Proofs.Ytkkecoodefjnbaa
