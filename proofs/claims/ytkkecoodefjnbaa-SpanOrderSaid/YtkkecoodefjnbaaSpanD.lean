import Derived.Test.YtkkecoodefjnbaaSpanC
namespace Go.Proofs.Ytkkecoodefjnbaa
open Go Go.RowKit Go.Own Go.Shelf
attribute [local go_sem] Oper.semAt_some

set_option maxHeartbeats 1000000 in
/-- The numbers of an epoch of the window: up to date behind the call. -/
theorem span_at_view (b : Nat) (W E e : Int) (w : World) (FP : Nat → Prop) (view : Int → Option Int × Option Int) (h : SpanView w FP b W E view) (h1 : lowOf W E ≤ e) (h2 : e ≤ E) :
    Calls Try.prog 33 #[.pointer (some ⟨b, 0, none⟩), .int .i64 e] w fun v w' => v = .returned (.pointer (some ⟨b, 2 + slotOf W e * 3, none⟩)) ∧
      SpanView w' FP b W E view ∧ w'.cell? ⟨b, 2 + slotOf W e * 3, none⟩ = some (.int .i64 e) ∧ Keeps (One b) w w' := by
  obtain ⟨r, ha, hr, hv⟩ := h.ring
  have w0 := h.w1; have w1 := h.w2; have e0 : 0 ≤ e := by unfold lowOf at h1; omega
  have e1 : e ≤ 4294967296 := by have := h.e2; omega
  have hW : (W == 0) = false := by simp; omega
  have hc0 := ha.win
  have hi2 : 0 ≤ e % W := Int.emod_nonneg _ (by omega)
  have hi3 : e % W < W := Int.emod_lt_of_pos _ (by omega)
  have hi : (e % W).toNat < 256 := by omega
  have hr0 := ha.c0 _ hi
  have hr1 := ha.c1 _ hi
  have hr2 := ha.c2 _ hi
  have hf := ha.unfrozen
  by_cases heq : (r (slotOf W e)).1 = e
  · have hne : ((r (e % W).toNat).1 != e) = false := by simpa [slotOf] using heq
    have HV := Lib.hid h; have HR := Lib.hid hr; have HQ := Lib.hid heq
    clear h hr hv heq
    go_enter Try.func33, Try.ntmps33
    go_wp2_with fail
    go_quiet ((go_at_call 39; exact Calls.quiet_eq (place_in e W _ w0 w1 e0 e1)))
    go_wp2
    go_ret
    have k := (Keeps.refl (One b) w).drewN nq
    exact ⟨rfl, HV.out.of_keeps ((Keeps.refl Nob w).drewN nq) (fun x => x) (fun _ _ x => x) (fun _ x => x) HV.out.nb HV.out.fp, hr0.trans (congrArg (fun z => some (Value.int .i64 z)) HQ.out), k⟩
  · have hne : ((r (e % W).toNat).1 != e) = true := by simpa [slotOf] using heq
    have HV := Lib.hid h; have HR := Lib.hid hr; have HQ := Lib.hid heq
    clear h hr hv heq
    go_enter Try.func33, Try.ntmps33
    go_wp2_with fail
    go_quiet ((go_at_call 39; exact Calls.quiet_eq (place_in e W _ w0 w1 e0 e1)))
    go_wp2
    go_ret
    refine ⟨rfl, ?_⟩
    have hd : SpanView (w.drewN nq) FP b W E view := HV.out.of_keeps ((Keeps.refl Nob w).drewN nq) (fun x => x) (fun _ _ x => x) (fun _ x => x) HV.out.nb HV.out.fp
    have hres := hd.reset h1 h2 (fun r' ha' hx => HQ.out (by
      have c := (ha'.c0 _ hi).symm.trans hr0
      simp at c
      unfold slotOf at hx ⊢
      rw [← c]; exact hx))
    refine ⟨hres.1, ?_, ?_⟩
    · rw [World.cell?_setCell_other _ _ _ _ (by simp [slotOf]), World.cell?_setCell_other _ _ _ _ (by simp [slotOf])]
      exact World.cell?_setCell_same _ _ _ hr0
    · exact ((((Keeps.refl (One b) w).drewN nq).setOne _).setOne _).setOne _

set_option maxHeartbeats 1000000 in
theorem span_told_any (v : Value) (o : Option Int) (FP : Nat → Prop) (w : World) (h : ValIs w FP v o) :
    Calls Try.prog 37 #[v] w fun e w' => e = .returned (.tuple #[.int .i64 (o.getD 0), .bool o.isSome]) ∧ w = w' := by
  cases o with
  | none => obtain rfl : v = .pointer none := h; exact span_told_nil w
  | some n => obtain ⟨k, _, rfl, hc⟩ := h; exact span_told k n w hc

theorem SpanView.cells {w : World} {FP : Nat → Prop} {b : Nat} {W E : Int} {view : Int → Option Int × Option Int} (h : SpanView w FP b W E view) :
    w.cell? ⟨b, 0, none⟩ = some (.int .i64 W) ∧ w.cell? ⟨b, 1, none⟩ = some (.int .i64 E) ∧ (W == 0) = false ∧ b < w.heap.size ∧ ∀ o, w.frozen? ⟨b, o, none⟩ = false := by
  obtain ⟨r, ha, _⟩ := h.ring
  refine ⟨ha.win, ha.ep, ?_, World.block_lt_of_cell? w _ ha.win, ha.unfrozen⟩
  have := h.w1
  simp; omega

/-- What a span tells of an epoch. -/
def tellOf (W E e : Int) (o : Option Int) : Int × Bool := if lowOf W E ≤ e ∧ e ≤ E then (o.getD 0, o.isSome) else (0, false)

set_option maxHeartbeats 1000000 in
theorem span_min (b : Nat) (W E e : Int) (w : World) (FP : Nat → Prop) (view : Int → Option Int × Option Int) (h : SpanView w FP b W E view) :
    Calls Try.prog 29 #[.pointer (some ⟨b, 0, none⟩), .int .i64 e] w fun v w' => v = .returned (.tuple #[.int .i64 (tellOf W E e (view e).1).1, .bool (tellOf W E e (view e).1).2]) ∧
      SpanView w' FP b W E view ∧ Keeps (One b) w w' := by
  obtain ⟨c0, c1, hW, hb, _⟩ := h.cells
  have w0 := h.w1; have w1 := h.w2; have e0 := h.e1; have e1 := h.e2
  by_cases hin : lowOf W E ≤ e ∧ e ≤ E
  · have ht : tellOf W E e (view e).1 = ((view e).1.getD 0, (view e).1.isSome) := by simp [tellOf, hin]
    rw [ht]; clear ht
    go_enter Try.func29, Try.ntmps29
    go_wp2_with (go_at_call 36; refine (span_has_in b W E e _ c0 c1 hW w0 w1 e0 e1 (by unfold lowOf at hin; omega) (by omega)).mono ?_; rintro v V1 ⟨rfl, hk1⟩)
    have h1 := h.of_keeps hk1 (fun x => x) (fun _ _ x => x) (fun _ x => x) h.nb (fun j hj => Nat.lt_of_lt_of_le (h.fp j hj) hk1.size)
    go_wp2_with (first
      | (go_at_call 33; refine (span_at_view b W E e _ FP view h1 hin.1 hin.2).mono ?_; rintro v V2 ⟨rfl, hv2, hc2, hk2⟩; obtain ⟨mn, mx, d1, d2, v1, v2⟩ := hv2.here hin.1 hin.2 hc2)
      | (go_at_call 37; refine (span_told_any mn _ FP _ v1).mono ?_; rintro v V3 ⟨rfl, rfl⟩))
    go_ret2
    exact ⟨rfl, hv2, (hk1.mono (fun _ _ x => x.elim)).trans hk2⟩
  · have ht : tellOf W E e (view e).1 = (0, false) := by simp [tellOf, hin]
    rw [ht]; clear ht
    go_enter Try.func29, Try.ntmps29
    go_wp2_with (go_at_call 36; refine (span_has_out b W E e _ c0 c1 hW w0 w1 e0 e1 (by unfold lowOf at hin; omega)).mono ?_; rintro v V1 ⟨rfl, hk1⟩)
    go_ret2
    exact ⟨rfl, h.of_keeps hk1 (fun x => x) (fun _ _ x => x) (fun _ x => x) h.nb (fun j hj => Nat.lt_of_lt_of_le (h.fp j hj) hk1.size), hk1.mono (fun _ _ x => x.elim)⟩

set_option maxHeartbeats 1000000 in
theorem span_max (b : Nat) (W E e : Int) (w : World) (FP : Nat → Prop) (view : Int → Option Int × Option Int) (h : SpanView w FP b W E view) :
    Calls Try.prog 30 #[.pointer (some ⟨b, 0, none⟩), .int .i64 e] w fun v w' => v = .returned (.tuple #[.int .i64 (tellOf W E e (view e).2).1, .bool (tellOf W E e (view e).2).2]) ∧
      SpanView w' FP b W E view ∧ Keeps (One b) w w' := by
  obtain ⟨c0, c1, hW, hb, _⟩ := h.cells
  have w0 := h.w1; have w1 := h.w2; have e0 := h.e1; have e1 := h.e2
  by_cases hin : lowOf W E ≤ e ∧ e ≤ E
  · have ht : tellOf W E e (view e).2 = ((view e).2.getD 0, (view e).2.isSome) := by simp [tellOf, hin]
    rw [ht]; clear ht
    go_enter Try.func30, Try.ntmps30
    go_wp2_with (go_at_call 36; refine (span_has_in b W E e _ c0 c1 hW w0 w1 e0 e1 (by unfold lowOf at hin; omega) (by omega)).mono ?_; rintro v V1 ⟨rfl, hk1⟩)
    have h1 := h.of_keeps hk1 (fun x => x) (fun _ _ x => x) (fun _ x => x) h.nb (fun j hj => Nat.lt_of_lt_of_le (h.fp j hj) hk1.size)
    go_wp2_with (first
      | (go_at_call 33; refine (span_at_view b W E e _ FP view h1 hin.1 hin.2).mono ?_; rintro v V2 ⟨rfl, hv2, hc2, hk2⟩; obtain ⟨mn, mx, d1, d2, v1, v2⟩ := hv2.here hin.1 hin.2 hc2)
      | (go_at_call 37; refine (span_told_any mx _ FP _ v2).mono ?_; rintro v V3 ⟨rfl, rfl⟩))
    go_ret2
    exact ⟨rfl, hv2, (hk1.mono (fun _ _ x => x.elim)).trans hk2⟩
  · have ht : tellOf W E e (view e).2 = (0, false) := by simp [tellOf, hin]
    rw [ht]; clear ht
    go_enter Try.func30, Try.ntmps30
    go_wp2_with (go_at_call 36; refine (span_has_out b W E e _ c0 c1 hW w0 w1 e0 e1 (by unfold lowOf at hin; omega)).mono ?_; rintro v V1 ⟨rfl, hk1⟩)
    go_ret2
    exact ⟨rfl, h.of_keeps hk1 (fun x => x) (fun _ _ x => x) (fun _ x => x) h.nb (fun j hj => Nat.lt_of_lt_of_le (h.fp j hj) hk1.size), hk1.mono (fun _ _ x => x.elim)⟩
end Go.Proofs.Ytkkecoodefjnbaa
