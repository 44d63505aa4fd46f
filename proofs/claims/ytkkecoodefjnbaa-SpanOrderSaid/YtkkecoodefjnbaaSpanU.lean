import Derived.Test.YtkkecoodefjnbaaSpanT
namespace Go.Proofs.Ytkkecoodefjnbaa
open Go Go.RowKit Go.Own Go.Shelf

/-- The program's span and the reference's, of the same votes. -/
structure Both (w : World) (FP M : Nat → Prop) (b bw : Nat) (W E : Int) (L : List (Int × Int)) : Prop where
  sp : SpanView w FP b W E (viewOf L)
  rf : RefSpan w M bw W E L
  mb : ¬ M b
  fm : ∀ j, FP j → ¬ M j
  top : ∀ v ∈ L, v.1 ≤ v.2 ∧ v.2 ≤ E

theorem viewOf_above (L : List (Int × Int)) (E x : Int) (h : ∀ v ∈ L, v.1 ≤ v.2 ∧ v.2 ≤ E) (hx : E < x) : viewOf L x = (none, none) := by
  unfold viewOf
  suffices ∀ p, L.foldl (fun p v => putAt v.1 v.2 x p) p = p from this _
  induction L with
  | nil => intro p; rfl
  | cons v L ih =>
    intro p
    have := h v (by simp)
    rw [List.foldl_cons, putAt_above (by omega) (by omega)]
    exact ih (fun u hu => h u (by simp [hu])) p

section
variable {w w' : World} {FP M : Nat → Prop} {b bw : Nat} {W E : Int} {L : List (Int × Int)}
/-- Behind a step that turns the program's span alone. -/
theorem Both.left (h : Both w FP M b bw W E L) (hs : SpanView w' FP b W E (viewOf L)) (k : Keeps (One b) w w') : Both w' FP M b bw W E L :=
  ⟨hs, h.rf.of_keeps k (fun j hj e => h.mb (show M b from e ▸ hj)), h.mb, h.fm, h.top⟩
/-- Behind a step that turns neither. -/
theorem Both.none (h : Both w FP M b bw W E L) (k : Keeps Nob w w') : Both w' FP M b bw W E L :=
  ⟨h.sp.of_keeps k (fun x => x) (fun _ _ x => x) (fun _ x => x) h.sp.nb (fun j hj => Nat.lt_of_lt_of_le (h.sp.fp j hj) k.size), h.rf.of_keeps k (fun _ _ x => x), h.mb, h.fm, h.top⟩
end

set_option maxRecDepth 100000 in
set_option maxHeartbeats 2000000 in
theorem alike_ok (b bw : Nat) (W E e : Int) (L : List (Int × Int)) (FP M : Nat → Prop) (w : World) (h : Both w FP M b bw W E L) (hL : L.length ≤ 1000000) :
    Calls Try.prog 27 #[.pointer (some ⟨b, 0, none⟩), .pointer (some ⟨bw, 0, none⟩), .int .i64 e] w fun v w' => v = .returned (.bool true) ∧ Both w' FP M b bw W E L ∧ Keeps (One b) w w' := by
  obtain ⟨b1, hb1⟩ : ∃ x, x = (tellOf W E e (viewOf L e).1).2 := ⟨_, rfl⟩
  obtain ⟨n1, hn1⟩ : ∃ x, x = (tellOf W E e (viewOf L e).1).1 := ⟨_, rfl⟩
  obtain ⟨b2, hb2⟩ : ∃ x, x = (tellOf W E e (viewOf L e).2).2 := ⟨_, rfl⟩
  obtain ⟨n2, hn2⟩ : ∃ x, x = (tellOf W E e (viewOf L e).2).1 := ⟨_, rfl⟩
  have hmin := fun V (hV : Both V FP M b bw W E L) => span_min b W E e V FP (viewOf L) hV.sp
  have hmax := fun V (hV : Both V FP M b bw W E L) => span_max b W E e V FP (viewOf L) hV.sp
  have rmin := fun V (hV : Both V FP M b bw W E L) => ref_min bw W E e V M L hV.rf hL
  have rmax := fun V (hV : Both V FP M b bw W E L) => ref_max bw W E e V M L hV.rf hL
  rw [← hb1, ← hn1] at hmin rmin
  rw [← hb2, ← hn2] at hmax rmax
  clear hb1 hb2 hn1 hn2
  have HM := Lib.hid hmin; have HX := Lib.hid hmax; have RM := Lib.hid rmin; have RX := Lib.hid rmax
  clear hmin hmax rmin rmax
  have w0 := h.sp.w1; have w1 := h.sp.w2; have e0 := h.sp.e1; have e1 := h.sp.e2
  have HH := Lib.hid h; clear h
  go_enter Try.func27, Try.ntmps27
  go_wp2_with (first
    | (go_at_call 29; refine (HM.out _ HH.out).mono ?_; rintro v V1 ⟨rfl, hv1, hk1⟩; have H1 := Lib.hid (HH.out.left hv1 hk1); clear hv1)
    | (go_at_call 34; refine (RM.out _ H1.out).mono ?_; rintro v V2 ⟨rfl, hk2⟩; have H2 := Lib.hid (H1.out.none hk2))
    | (go_at_call 30; refine (HX.out _ H2.out).mono ?_; rintro v V3 ⟨rfl, hv3, hk3⟩; have H3 := Lib.hid (H2.out.left hv3 hk3); clear hv3)
    | (go_at_call 35; refine (RX.out _ H3.out).mono ?_; rintro v V4 ⟨rfl, hk4⟩; have H4 := Lib.hid (H3.out.none hk4)))
  obtain ⟨c0, c1, hW, _, _⟩ := H4.out.sp.cells
  have r0 := H4.out.rf.cW; have r1 := H4.out.rf.cE
  go_quiet (first | (go_at_call 15; exact Calls.quiet_eq (span_epoch b W E _ c0 c1 hW)) | (go_at_call 13; exact Calls.quiet_drew (span_low b W E _ c0 c1 hW w0 w1 e0 e1)) | (go_at_call 28; exact Calls.quiet_drew (ref_low bw W E _ r0 r1 w0 w1 e0 e1)))
  go_wp2
  go_ret
  refine ⟨rfl, H4.out.none ((Keeps.refl _ _).drewN _), ?_⟩
  exact (((hk1.trans (hk2.mono (fun _ _ x => x.elim))).trans hk3).trans (hk4.mono (fun _ _ x => x.elim))).drewN _
end Go.Proofs.Ytkkecoodefjnbaa
