/-
  Records: acts that come in; a record, its copy, and the document's record. Conditions: none.
-/
import Derived.Test.YtgipooedgbbliaaRecO
import Derived.Test.YtgipooedgbbliaaRecR
import Derived.Test.YtgipooedgbbliaaRecT
namespace Go.Proofs.Ytgipooedgbbliaa
open Go Go.RowKit Go.Own Go.ChangeShapes Go.WideShapes Go.ChangeAt Go.WideElems
theorem qrNew_no (v win blk : Int) (w : World) (h : ¬ newOk v win blk) : Calls Try.prog 20 #[.int .i64 v, .int .i64 win, .int .i64 blk] w fun e w' => e = .returned (.tuple #[.pointer none, .int .i64 3]) ∧ Keeps Nob w w' := by
  unfold newOk at h
  by_cases g0 : v < 0
  · exact qrNew_bad0 v win blk w g0
  by_cases g1 : v ≥ 32
  · exact qrNew_bad1 v win blk w g0 g1
  by_cases g2 : win < 1
  · exact qrNew_bad2 v win blk w g0 g1 g2
  by_cases g3 : win > 256
  · exact qrNew_bad3 v win blk w g0 g1 g2 g3
  by_cases g4 : blk < 1
  · exact qrNew_bad4 v win blk w g0 g1 g2 g3 g4
  by_cases g5 : blk > 256000
  · exact qrNew_bad5 v win blk w g0 g1 g2 g3 g4 g5
  exact absurd ⟨by omega, by omega, by omega, by omega, by omega, by omega⟩ h
theorem items_none {α : Type} (low n : Nat) : items (fun _ => (none : Option α)) low n = [] := by
  induction n with
  | zero => rfl
  | succ n ih => rw [items_succ, ih]; rfl
theorem RefAt.base {w : World} {q b b0 : Nat} {d : DRec} (h : RefAt w q b d) (hb : b0 ≤ b) : RefAt w q b0 d :=
  let ⟨⟨va, vb, h1, h2, h3, h4, h5⟩, h6, h7⟩ := h
  ⟨⟨va, vb, h1, h2, fun j hj => Nat.le_trans hb (h3 j hj), h4, fun j hj => Nat.le_trans hb (h5 j hj)⟩, h6, h7⟩
theorem both_of {w W : World} {r q b : Nat} {v win blk : Int} (h : RSt w W r v ⟨0, win.toNat, 1, blk.toNat, fun _ => none, fun _ => none⟩) (hq : RefAt W q b ⟨v, win, blk, 0, 1, [], []⟩) (hb : w.heap.size ≤ b) (hn : w.heap.size ≤ q) (k : Keeps Nob w W) (ho : newOk v win blk) : Both w W r q v := by
  obtain ⟨h1, h2, h3, h4, h5, h6⟩ := ho
  obtain ⟨A, B, q1, q2, e1, e2, e3, e4, e5, e6⟩ := h.ex
  refine ⟨⟨h1, by omega⟩, A, B, _, q1, hq.base hb, q2, hn, ⟨rfl, ?_, ?_, ?_, ?_, ?_, ?_⟩, k⟩
  · show win = _; rw [e2]; show win = ((win.toNat : Nat) : Int); omega
  · show blk = _; rw [e5]; show blk = ((blk.toNat : Nat) : Int); omega
  · show (0 : Int) = _; rw [e1]; rfl
  · show (1 : Int) = _; rw [e4]; rfl
  · show [] = _; rw [e3]; exact (items_none _ _).symm
  · show [] = _; rw [e6]; exact (items_none _ _).symm
/-- A record and a copy of it; the copy goes on beside the document's. -/
structure Trio (w0 w : World) (r1 r q : Nat) (v : Int) : Prop where
  hv : 0 ≤ v ∧ v ≤ 31
  ex : ∃ A1 B1 A B d, RecAt w r1 v A1 B1 ∧ (∀ j, FR A1 B1 j → w0.heap.size ≤ j) ∧ (∀ j, FR A1 B1 j → ¬ FR A B j) ∧ Two w0 w r q v A B d
section
variable {w0 w w' : World} {r1 r q : Nat} {v : Int}
theorem Trio.keepsN (h : Trio w0 w r1 r q v) (k : Keeps Nob w w') : Trio w0 w' r1 r q v := let ⟨A1, B1, A, B, d, q1, q2, q3, q4⟩ := h.ex; ⟨h.hv, A1, B1, A, B, d, q1.keepsN k, q2, q3, q4.keepsN k⟩
theorem Trio.both (h : Trio w0 w r1 r q v) : Both w0 w r q v := let ⟨_, _, A, B, d, _, _, _, q4⟩ := h.ex; ⟨h.hv, A, B, d, q4⟩
theorem Both.copy (h : Both w0 w r q v) : Calls Try.prog 21 #[.pointer (some ⟨r, 0, none⟩)] w fun e w' => ∃ r2, e = .returned (.pointer (some ⟨r2, 0, none⟩)) ∧ Trio w0 w' r r2 q v ∧ Keeps Nob w w' := by
  obtain ⟨hv, A, B, d, T⟩ := h
  refine (qCopy_ok r v A B w T.rec_).mono fun e w' ⟨r2, A2, B2, he, hr, e1, e2, e3, e4, e5, e6, hn, _, k⟩ => ⟨r2, he, ⟨hv, A, B, A2, B2, d, T.rec_.keepsN k, T.new, fun j hm hj => ?_, hr, T.ref.keepsN k, fun j hj => Nat.le_trans T.keeps.size (hn j hj), T.newq, ⟨T.same.v, by rw [e2]; exact T.same.win, by rw [e5]; exact T.same.span, by rw [e1]; exact T.same.l, by rw [e4]; exact T.same.f, by rw [e1, e2, e3]; exact T.same.a, by rw [e4, e5, e6]; exact T.same.b⟩, T.keeps.then k (fun _ _ x => x.elim)⟩, k⟩
  have h1 := hn j hj
  have h2 : j < w.heap.size := by
    rcases hm with rfl | rfl | rfl | rfl
    · exact lt_of_block T.rec_.a.ring
    · exact lt_of_block T.rec_.a.slots
    · exact lt_of_block T.rec_.b.ring
    · exact lt_of_block T.rec_.b.slots
  omega
/-- The first turns: the others stay. -/
theorem Trio.turn {A1 A1' : RD Att} {B1 B1' : RD Pro} {A : RD Att} {B : RD Pro} {d : DRec} (hv : 0 ≤ v ∧ v ≤ 31) (h1 : RecAt w r1 v A1 B1) (h2 : ∀ j, FR A1 B1 j → w0.heap.size ≤ j) (h3 : ∀ j, FR A1 B1 j → ¬ FR A B j) (T : Two w0 w r q v A B d) (hr : RecAt w' r1 v A1' B1') (hF : ∀ j, FR A1' B1' j ↔ FR A1 B1 j) (k : Keeps (FR A1 B1) w w') : Trio w0 w' r1 r q v ∧ Keeps (fun j => w0.heap.size ≤ j) w w' := by
  have hk : Keeps (fun j => w0.heap.size ≤ j) w w' := k.mono (fun j _ hj => h2 j hj)
  exact ⟨⟨hv, A1', B1', A, B, d, hr, fun j hj => h2 j ((hF j).1 hj), fun j hj => h3 j ((hF j).1 hj), h1.other T.rec_ k (fun j ha hb => h3 j hb ha), T.ref.byRec h1 k, T.new, T.newq, T.same, T.keeps.then hk (fun j hj hm => absurd hj (by omega))⟩, hk⟩
theorem Trio.low (h : Trio w0 w r1 r q v) : Calls Try.prog 15 #[.pointer (some ⟨r1, 0, none⟩)] w fun e w' => ∃ x : Int, e = .returned (.int .i64 x) ∧ i64b x ∧ Keeps Nob w w' := by
  obtain ⟨A1, B1, _, _, _, q1, _⟩ := h.ex
  exact (qLow_ok r1 v A1 B1 w q1).mono fun e w' ⟨he, hw⟩ => ⟨_, he, by have := q1.a.l2; constructor <;> omega, hw ▸ Keeps.refl _ _⟩
theorem Trio.floor (h : Trio w0 w r1 r q v) : Calls Try.prog 16 #[.pointer (some ⟨r1, 0, none⟩)] w fun e w' => ∃ x : Int, e = .returned (.int .i64 x) ∧ i64b x ∧ Keeps Nob w w' := by
  obtain ⟨A1, B1, _, _, _, q1, _⟩ := h.ex
  exact (qFloor_ok r1 v A1 B1 w q1).mono fun e w' ⟨he, hw⟩ => ⟨_, he, by have := q1.b.l2; constructor <;> omega, hw ▸ Keeps.refl _ _⟩
theorem Trio.put (h : Trio w0 w r1 r q v) (a : Att) (ha : a.Ok) : Calls Try.prog 9 #[.pointer (some ⟨r1, 0, none⟩), .agg (Att.c a)] w fun e w' => ∃ x : Int, e = .returned (.int .i64 x) ∧ Trio w0 w' r1 r q v ∧ Keeps (fun j => w0.heap.size ≤ j) w w' := by
  obtain ⟨A1, B1, A, B, d, q1, q2, q3, T⟩ := h.ex
  refine (qPut_ok r1 v A1 B1 a w q1 ha).mono fun e w' ⟨he, hb, hg, k⟩ => ⟨_, he, ?_⟩
  have k1 : Keeps (FR A1 B1) w w' := k.mono (fun j _ (e : j = A1.s) => .inr (.inl e))
  by_cases h0 : qPutErr v A1 a = 0
  · obtain ⟨S', hr⟩ := hg h0
    exact Trio.turn h.hv q1 q2 q3 T hr (fun j => Iff.rfl) k1
  · exact Trio.turn h.hv q1 q2 q3 T (hb h0) (fun j => Iff.rfl) k1
theorem Trio.putB (h : Trio w0 w r1 r q v) (a : Pro) (ha : a.Ok) : Calls Try.prog 12 #[.pointer (some ⟨r1, 0, none⟩), .agg (Pro.c a)] w fun e w' => ∃ x : Int, e = .returned (.int .i64 x) ∧ Trio w0 w' r1 r q v ∧ Keeps (fun j => w0.heap.size ≤ j) w w' := by
  obtain ⟨A1, B1, A, B, d, q1, q2, q3, T⟩ := h.ex
  refine (qPutBlock_ok r1 v A1 B1 a w q1 ha).mono fun e w' ⟨he, hb, hg, k⟩ => ⟨_, he, ?_⟩
  have k1 : Keeps (FR A1 B1) w w' := k.mono (fun j _ (e : j = B1.s) => .inr (.inr (.inr e)))
  by_cases h0 : qPutBlockErr v B1 a = 0
  · obtain ⟨S', hr⟩ := hg h0
    exact Trio.turn h.hv q1 q2 q3 T hr (fun j => Iff.rfl) k1
  · exact Trio.turn h.hv q1 q2 q3 T (hb h0) (fun j => Iff.rfl) k1
theorem Trio.move (h : Trio w0 w r1 r q v) (l f : Int) : Calls Try.prog 14 #[.pointer (some ⟨r1, 0, none⟩), .int .i64 l, .int .i64 f] w fun e w' => ∃ x : Int, e = .returned (.int .i64 x) ∧ Trio w0 w' r1 r q v ∧ Keeps (fun j => w0.heap.size ≤ j) w w' := by
  obtain ⟨A1, B1, A, B, d, q1, q2, q3, T⟩ := h.ex
  refine (qMove_ok r1 v A1 B1 l f w q1).mono fun e w' ⟨he, hb, hg, k⟩ => ⟨_, he, ?_⟩
  by_cases h0 : qMoveErr A1 B1 l f = 0
  · obtain ⟨S1, S2, hr⟩ := hg h0
    exact Trio.turn h.hv q1 q2 q3 T hr (fun j => Iff.rfl) k
  · exact Trio.turn h.hv q1 q2 q3 T (hb h0) (fun j => Iff.rfl) k
end
end Go.Proofs.Ytgipooedgbbliaa
