/-
  Records: what a record holds, and what each call makes of it, without its blocks. Conditions: none.
-/
import Derived.Test.YtgipooedgbbliaaRecI
import Derived.Test.YtgipooedgbbliaaLaw
namespace Go.Proofs.Ytgipooedgbbliaa
open Go Go.RowKit Go.Own Go.Shelf
structure RSpec where
  (la na lb nb : Nat) (VA : Int → Option Att) (VB : Int → Option Pro)
namespace RSpec
def putErr (s : RSpec) (v : Int) (a : Att) : Int := if whoErr v a.err a.v ≠ 0 then whoErr v a.err a.v else if a.t < (s.la : Int) then 16 else if (s.la : Int) + s.na ≤ a.t then 17 else if (s.VA a.t).isSome then 8 else 0
def putErrB (s : RSpec) (v : Int) (a : Pro) : Int := if whoErr v a.err a.v ≠ 0 then whoErr v a.err a.v else if a.h < (s.lb : Int) then 16 else if (s.lb : Int) + s.nb ≤ a.h then 17 else if (s.VB a.h).isSome then 8 else 0
def moveErr (s : RSpec) (l f : Int) : Int := if l < 0 ∨ l > 4294967296 ∨ f < 1 ∨ f > 4294967296 then 3 else if l < (s.la : Int) ∨ f < (s.lb : Int) then 9 else 0
def put (s : RSpec) (v : Int) (a : Att) : RSpec := if s.putErr v a = 0 then { s with VA := upV s.VA a.t a } else s
def putB (s : RSpec) (v : Int) (a : Pro) : RSpec := if s.putErrB v a = 0 then { s with VB := upV s.VB a.h a } else s
def move (s : RSpec) (l f : Int) : RSpec := if s.moveErr l f = 0 then { s with la := l.toNat, lb := f.toNat, VA := mvV s.VA l, VB := mvV s.VB f } else s
def all (s : RSpec) : List Att := items s.VA s.la s.na
def allB (s : RSpec) : List Pro := items s.VB s.lb s.nb
end RSpec
/-- A record of v that holds s; its blocks that may turn are new since w0. -/
structure RSt (w0 w : World) (r : Nat) (v : Int) (s : RSpec) : Prop where
  ex : ∃ A B, RecAt w r v A B ∧ (∀ j, FR A B j → w0.heap.size ≤ j) ∧ A.low = s.la ∧ A.n = s.na ∧ A.V = s.VA ∧ B.low = s.lb ∧ B.n = s.nb ∧ B.V = s.VB
/-- New blocks of rings. -/
def Rings (w0 w : World) : Nat → Prop := fun j => w0.heap.size ≤ j ∧ ∃ cs T, w.heap[j]? = some (.cells cs T (0, 0)) ∧ (T = 79 ∨ T = 71 ∨ T = 83 ∨ T = 74)
theorem Rings.not {w0 w : World} {g : Nat} {cs : Array Value} {T : TypeId} {fr : Nat × Nat} (h : w.heap[g]? = some (.cells cs T fr)) (h1 : T ≠ 79) (h2 : T ≠ 71) (h3 : T ≠ 83) (h4 : T ≠ 74) : ¬ Rings w0 w g := fun ⟨_, cs', T', e, hT⟩ => by
  rw [h] at e
  simp only [Option.some.injEq, Obj.cells.injEq] at e
  rw [← e.2.1] at hT
  rcases hT with e | e | e | e
  · exact h1 e
  · exact h2 e
  · exact h3 e
  · exact h4 e
theorem RecAt.rings {w0 w : World} {r : Nat} {v : Int} {A : RD Att} {B : RD Pro} (h : RecAt w r v A B) (hn : ∀ j, FR A B j → w0.heap.size ≤ j) : ∀ j, FR A B j → Rings w0 w j := fun j hj => ⟨hn j hj, by
  rcases hj with rfl | rfl | rfl | rfl
  · exact ⟨_, _, h.a.ring, .inl rfl⟩
  · exact ⟨_, _, h.a.slots, .inr (.inl rfl)⟩
  · exact ⟨_, _, h.b.ring, .inr (.inr (.inl rfl))⟩
  · exact ⟨_, _, h.b.slots, .inr (.inr (.inr rfl))⟩⟩
section
variable {w0 w w' : World} {r : Nat} {v : Int} {s : RSpec}
theorem RSt.keepsN (h : RSt w0 w r v s) (k : Keeps Nob w w') : RSt w0 w' r v s := let ⟨A, B, q1, q2⟩ := h.ex; ⟨⟨A, B, q1.keepsN k, q2⟩⟩
theorem RSt.at_ (h : RSt w0 w r v s) (i : Int) : Calls Try.prog 8 #[.pointer (some ⟨r, 0, none⟩), .int .i64 i] w fun e w' => e = .returned (.tuple #[.agg (Att.c ((s.VA i).getD zAtt)), .bool (s.VA i).isSome]) ∧ Keeps Nob w w' := by
  obtain ⟨A, B, q1, _, _, _, q2, _⟩ := h.ex
  rw [← q2]; exact qAt_ok r v A B i w q1
theorem RSt.block (h : RSt w0 w r v s) (i : Int) : Calls Try.prog 11 #[.pointer (some ⟨r, 0, none⟩), .int .i64 i] w fun e w' => e = .returned (.tuple #[.agg (Pro.c ((s.VB i).getD zPro)), .bool (s.VB i).isSome]) ∧ Keeps Nob w w' := by
  obtain ⟨A, B, q1, _, _, _, _, _, _, q2⟩ := h.ex
  rw [← q2]; exact qBlock_ok r v A B i w q1
theorem RSt.low (h : RSt w0 w r v s) : Calls Try.prog 15 #[.pointer (some ⟨r, 0, none⟩)] w fun e w' => e = .returned (.int .i64 ((s.la : Nat) : Int)) ∧ w = w' := by
  obtain ⟨A, B, q1, _, q2, _⟩ := h.ex
  rw [← q2]; exact qLow_ok r v A B w q1
theorem RSt.floor (h : RSt w0 w r v s) : Calls Try.prog 16 #[.pointer (some ⟨r, 0, none⟩)] w fun e w' => e = .returned (.int .i64 ((s.lb : Nat) : Int)) ∧ w = w' := by
  obtain ⟨A, B, q1, _, _, _, _, q2, _⟩ := h.ex
  rw [← q2]; exact qFloor_ok r v A B w q1
theorem RSt.all (h : RSt w0 w r v s) : Calls Try.prog 24 #[.pointer (some ⟨r, 0, none⟩)] w fun e w' => ∃ v, e = .returned v ∧ Row w' 28 36 v s.all.length (s.all.flatMap Att.cl) ∧ NewFrom w.heap.size v ∧ Keeps Nob w w' := by
  obtain ⟨A, B, q1, _, q2, q3, q4, _⟩ := h.ex
  unfold RSpec.all
  rw [← q2, ← q3, ← q4]; exact qAll_ok r v A B w q1
theorem RSt.blocks (h : RSt w0 w r v s) : Calls Try.prog 25 #[.pointer (some ⟨r, 0, none⟩)] w fun e w' => ∃ v, e = .returned v ∧ Row w' 35 35 v s.allB.length (s.allB.flatMap Pro.cl) ∧ NewFrom w.heap.size v ∧ Keeps Nob w w' := by
  obtain ⟨A, B, q1, _, _, _, _, q2, q3, q4⟩ := h.ex
  unfold RSpec.allB
  rw [← q2, ← q3, ← q4]; exact qBlocks_ok r v A B w q1
theorem RSt.put (h : RSt w0 w r v s) (a : Att) (ha : a.Ok) : Calls Try.prog 9 #[.pointer (some ⟨r, 0, none⟩), .agg (Att.c a)] w fun e w' => e = .returned (.int .i64 (s.putErr v a)) ∧ RSt w0 w' r v (s.put v a) ∧ Keeps (Rings w0 w) w w' := by
  obtain ⟨A, B, q1, q2, q3, q4, q5, q6⟩ := h.ex
  have he : qPutErr v A a = s.putErr v a := by unfold qPutErr gputErr RSpec.putErr; rw [q3, q4, q5]
  refine (qPut_ok r v A B a w q1 ha).mono fun e w' ⟨e1, hb, hg, k⟩ => ⟨by rw [← he]; exact e1, ⟨?_⟩, k.mono (fun j _ (e : j = A.s) => q1.rings q2 j (.inr (.inl e)))⟩
  rw [he] at hb hg
  unfold RSpec.put
  by_cases h0 : s.putErr v a = 0
  · obtain ⟨S', hr⟩ := hg h0
    rw [if_pos h0]
    exact ⟨_, _, hr, q2, q3, q4, by rw [q5], q6⟩
  · rw [if_neg h0]
    exact ⟨_, _, hb h0, q2, q3, q4, q5, q6⟩
theorem RSt.putB (h : RSt w0 w r v s) (a : Pro) (ha : a.Ok) : Calls Try.prog 12 #[.pointer (some ⟨r, 0, none⟩), .agg (Pro.c a)] w fun e w' => e = .returned (.int .i64 (s.putErrB v a)) ∧ RSt w0 w' r v (s.putB v a) ∧ Keeps (Rings w0 w) w w' := by
  obtain ⟨A, B, q1, q2, q3, q4, q5, q6, q7, q8⟩ := h.ex
  have he : qPutBlockErr v B a = s.putErrB v a := by unfold qPutBlockErr gputBErr RSpec.putErrB; rw [q6, q7, q8]
  refine (qPutBlock_ok r v A B a w q1 ha).mono fun e w' ⟨e1, hb, hg, k⟩ => ⟨by rw [← he]; exact e1, ⟨?_⟩, k.mono (fun j _ (e : j = B.s) => q1.rings q2 j (.inr (.inr (.inr e))))⟩
  rw [he] at hb hg
  unfold RSpec.putB
  by_cases h0 : s.putErrB v a = 0
  · obtain ⟨S', hr⟩ := hg h0
    rw [if_pos h0]
    exact ⟨_, _, hr, q2, q3, q4, q5, q6, q7, by rw [q8]⟩
  · rw [if_neg h0]
    exact ⟨_, _, hb h0, q2, q3, q4, q5, q6, q7, q8⟩
theorem RSt.move (h : RSt w0 w r v s) (l f : Int) : Calls Try.prog 14 #[.pointer (some ⟨r, 0, none⟩), .int .i64 l, .int .i64 f] w fun e w' => e = .returned (.int .i64 (s.moveErr l f)) ∧ RSt w0 w' r v (s.move l f) ∧ Keeps (Rings w0 w) w w' := by
  obtain ⟨A, B, q1, q2, q3, q4, q5, q6, q7, q8⟩ := h.ex
  have he : qMoveErr A B l f = s.moveErr l f := by unfold qMoveErr RSpec.moveErr; rw [q3, q6]
  refine (qMove_ok r v A B l f w q1).mono fun e w' ⟨e1, hb, hg, k⟩ => ⟨by rw [← he]; exact e1, ⟨?_⟩, k.mono (fun j _ e => q1.rings q2 j e)⟩
  rw [he] at hb hg
  unfold RSpec.move
  by_cases h0 : s.moveErr l f = 0
  · obtain ⟨S1, S2, hr⟩ := hg h0
    rw [if_pos h0]
    exact ⟨_, _, hr, q2, rfl, q4, by rw [q5], rfl, q7, by rw [q8]⟩
  · rw [if_neg h0]
    exact ⟨_, _, hb h0, q2, q3, q4, q5, q6, q7, q8⟩
theorem RSt.ok (h : RSt w0 w r v s) : (∀ x ∈ s.all, x.Ok) ∧ (∀ x ∈ s.allB, x.Ok) ∧ s.all.length ≤ 256000 ∧ s.allB.length ≤ 256000 ∧ Held (·.t) s.VA s.la s.na ∧ Held (·.h) s.VB s.lb s.nb ∧ s.la ≤ 4294967296 ∧ s.lb ≤ 4294967296 := by
  obtain ⟨A, B, q1, q2, q3, q4, q5, q6, q7, q8⟩ := h.ex
  have i1 := items_ok q1.a
  have i2 := items_ok q1.b
  have l1 := items_len A.V A.low A.n
  have l2 := items_len B.V B.low B.n
  have n1 := q1.a.n2
  have n2 := q1.b.n2
  have h1 := q1.a.held
  have h2 := q1.b.held
  have m1 := q1.a.l2
  have m2 := q1.b.l2
  rw [q3, q4, q5] at i1 l1 h1
  rw [q6, q7, q8] at i2 l2 h2
  exact ⟨i1, i2, by unfold RSpec.all; omega, by unfold RSpec.allB; omega, h1, h2, by omega, by omega⟩
end
/-- A copy, and the record that it was made of. -/
structure RSt2 (w0 w : World) (r r2 : Nat) (v : Int) (s s2 : RSpec) : Prop where
  ex : ∃ A B A2 B2, RecAt w r v A B ∧ RecAt w r2 v A2 B2 ∧ (∀ j, FR A B j → w0.heap.size ≤ j) ∧ (∀ j, FR A2 B2 j → w0.heap.size ≤ j) ∧ (∀ j, FR A2 B2 j → ¬ FR A B j) ∧
    (A.low = s.la ∧ A.n = s.na ∧ A.V = s.VA ∧ B.low = s.lb ∧ B.n = s.nb ∧ B.V = s.VB) ∧ (A2.low = s2.la ∧ A2.n = s2.na ∧ A2.V = s2.VA ∧ B2.low = s2.lb ∧ B2.n = s2.nb ∧ B2.V = s2.VB)
section
variable {w0 w w' : World} {r r2 : Nat} {v : Int} {s s2 : RSpec}
theorem RSt2.keepsN (h : RSt2 w0 w r r2 v s s2) (k : Keeps Nob w w') : RSt2 w0 w' r r2 v s s2 := let ⟨A, B, A2, B2, q1, q2, q3⟩ := h.ex; ⟨⟨A, B, A2, B2, q1.keepsN k, q2.keepsN k, q3⟩⟩
theorem RSt2.fst (h : RSt2 w0 w r r2 v s s2) : RSt w0 w r v s := let ⟨A, B, _, _, q1, _, q3, _, _, q6, _⟩ := h.ex; ⟨⟨A, B, q1, q3, q6⟩⟩
theorem RSt2.snd (h : RSt2 w0 w r r2 v s s2) : RSt w0 w r2 v s2 := let ⟨_, _, A2, B2, _, q2, _, q4, _, _, q7⟩ := h.ex; ⟨⟨A2, B2, q2, q4, q7⟩⟩
theorem RSt2.swap (h : RSt2 w0 w r r2 v s s2) : RSt2 w0 w r2 r v s2 s := let ⟨A, B, A2, B2, q1, q2, q3, q4, q5, q6, q7⟩ := h.ex; ⟨⟨A2, B2, A, B, q2, q1, q4, q3, fun j h1 h2 => q5 j h2 h1, q7, q6⟩⟩
theorem RSt.copy (h : RSt w0 w r v s) (hw : w0.heap.size ≤ w.heap.size) : Calls Try.prog 21 #[.pointer (some ⟨r, 0, none⟩)] w fun e w' => ∃ r2, e = .returned (.pointer (some ⟨r2, 0, none⟩)) ∧ RSt2 w0 w' r r2 v s s ∧ Keeps Nob w w' := by
  obtain ⟨A, B, q1, q2, q3, q4, q5, q6, q7, q8⟩ := h.ex
  refine (qCopy_ok r v A B w q1).mono fun e w' ⟨r2, A2, B2, he, hr, e1, e2, e3, e4, e5, e6, hn, _, k⟩ => ⟨r2, he, ⟨⟨A, B, A2, B2, q1.keepsN k, hr, q2, fun j hj => Nat.le_trans hw (hn j hj), fun j hj hm => ?_, ⟨q3, q4, q5, q6, q7, q8⟩, ⟨by rw [e1, q3], by rw [e2, q4], by rw [e3, q5], by rw [e4, q6], by rw [e5, q7], by rw [e6, q8]⟩⟩⟩, k⟩
  have h1 := hn j hj
  have h2 : j < w.heap.size := by
    rcases hm with rfl | rfl | rfl | rfl
    · exact lt_of_block q1.a.ring
    · exact lt_of_block q1.a.slots
    · exact lt_of_block q1.b.ring
    · exact lt_of_block q1.b.slots
  omega
/-- What moves the second one leaves the first. -/
theorem RSt2.move2 (h : RSt2 w0 w r r2 v s s2) (l f : Int) : Calls Try.prog 14 #[.pointer (some ⟨r2, 0, none⟩), .int .i64 l, .int .i64 f] w fun e w' => e = .returned (.int .i64 (s2.moveErr l f)) ∧ RSt2 w0 w' r r2 v s (s2.move l f) ∧ Keeps (Rings w0 w) w w' := by
  obtain ⟨A, B, A2, B2, p1, p2, p3, p4, p5, p6, q3, q4, q5, q6, q7, q8⟩ := h.ex
  have he : qMoveErr A2 B2 l f = s2.moveErr l f := by unfold qMoveErr RSpec.moveErr; rw [q3, q6]
  refine (qMove_ok r2 v A2 B2 l f w p2).mono fun e w' ⟨e1, hb, hg, k⟩ => ⟨by rw [← he]; exact e1, ⟨?_⟩, k.mono (fun j _ e => p2.rings p4 j e)⟩
  have p1' := p2.other p1 k (fun j h1 h2 => p5 j h2 h1)
  rw [he] at hb hg
  unfold RSpec.move
  by_cases h0 : s2.moveErr l f = 0
  · obtain ⟨S1, S2, hr⟩ := hg h0
    rw [if_pos h0]
    exact ⟨_, _, _, _, p1', hr, p3, p4, p5, p6, ⟨rfl, q4, by rw [q5], rfl, q7, by rw [q8]⟩⟩
  · rw [if_neg h0]
    exact ⟨_, _, _, _, p1', hb h0, p3, p4, p5, p6, ⟨q3, q4, q5, q6, q7, q8⟩⟩
end
/-- Is a record to be had so? -/
def newOk (v win blk : Int) : Prop := 0 ≤ v ∧ v < 32 ∧ 1 ≤ win ∧ win ≤ 256 ∧ 1 ≤ blk ∧ blk ≤ 256000
theorem qNew_no (v win blk : Int) (w : World) (h : ¬ newOk v win blk) : Calls Try.prog 18 #[.int .i64 v, .int .i64 win, .int .i64 blk] w fun e w' => e = .returned (.tuple #[.pointer none, .int .i64 3]) ∧ Keeps Nob w w' := by
  unfold newOk at h
  by_cases g0 : v < 0
  · exact qNew_bad0 v win blk w g0
  by_cases g1 : v ≥ 32
  · exact qNew_bad1 v win blk w g0 g1
  by_cases g2 : win < 1
  · exact qNew_bad2 v win blk w g0 g1 g2
  by_cases g3 : win > 256
  · exact qNew_bad3 v win blk w g0 g1 g2 g3
  by_cases g4 : blk < 1
  · exact qNew_bad4 v win blk w g0 g1 g2 g3 g4
  by_cases g5 : blk > 256000
  · exact qNew_bad5 v win blk w g0 g1 g2 g3 g4 g5
  exact absurd ⟨by omega, by omega, by omega, by omega, by omega, by omega⟩ h
theorem qNew_yes (v win blk : Int) (w : World) (h : newOk v win blk) : Calls Try.prog 18 #[.int .i64 v, .int .i64 win, .int .i64 blk] w fun e w' => ∃ r, e = .returned (.tuple #[.pointer (some ⟨r, 0, none⟩), .int .i64 0]) ∧ RSt w w' r v ⟨0, win.toNat, 1, blk.toNat, fun _ => none, fun _ => none⟩ ∧ w.heap.size ≤ r ∧ Keeps Nob w w' := by
  obtain ⟨h1, h2, h3, h4, h5, h6⟩ := h
  obtain ⟨win, rfl⟩ : ∃ n : Nat, win = (n : Int) := ⟨win.toNat, by omega⟩
  obtain ⟨blk, rfl⟩ : ∃ n : Nat, blk = (n : Int) := ⟨blk.toNat, by omega⟩
  exact (qNew_fine v win blk w (by omega) (by omega) (by omega) (by omega) (by omega) (by omega)).mono fun e w' ⟨r, A, B, he, hr, e1, e2, e3, e4, e5, e6, hn, hr2, k⟩ => ⟨r, he, ⟨⟨A, B, hr, hn, e1, by rw [e2]; rfl, e3, e4, by rw [e5]; rfl, e6⟩⟩, hr2, k⟩
end Go.Proofs.Ytgipooedgbbliaa
