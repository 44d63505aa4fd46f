/-
  Records: the program's and the document's record side by side; acts. Conditions: none.
-/
import Derived.Test.YtgipooedgbbliaaRecM
import Derived.Test.YtgipooedgbbliaaRecU
namespace Go.Proofs.Ytgipooedgbbliaa
open Go Go.RowKit Go.Own Go.Shelf
/-- The program's record and the document's hold the same. -/
structure Alike (v : Int) (A : RD Att) (B : RD Pro) (d : DRec) : Prop where
  v : d.v = v
  win : d.win = (A.n : Int)
  span : d.span = (B.n : Int)
  l : d.l = (A.low : Int)
  f : d.f = (B.low : Int)
  a : d.a = items A.V A.low A.n
  b : d.b = items B.V B.low B.n
structure Two (w0 w : World) (r q : Nat) (v : Int) (A : RD Att) (B : RD Pro) (d : DRec) : Prop where
  rec_ : RecAt w r v A B
  ref : RefAt w q w0.heap.size d
  new : ∀ j, FR A B j → w0.heap.size ≤ j
  newq : w0.heap.size ≤ q
  same : Alike v A B d
  keeps : Keeps Nob w0 w
section
variable {w0 w w' : World} {r q : Nat} {v : Int} {A A' : RD Att} {B B' : RD Pro} {d : DRec} {M : Nat → Prop}
theorem RefAt.other {base : Nat} (h : RefAt w q base d) (k : Keeps M w w') (h1 : Odd w M 90) (h2 : Odd w M 28) (h3 : Odd w M 35) : RefAt w' q base d := by
  obtain ⟨⟨va, vb, q1, q2, q3, q4, q5⟩, q6, q7⟩ := h
  exact ⟨⟨va, vb, k.odd h1 q1, q2.keeps k (fun j hj hm => by obtain ⟨cs, hc⟩ := q2.elem hj; exact h2 j _ _ hm hc), q3, q4.keeps k (fun j hj hm => by obtain ⟨cs, hc⟩ := q4.elem hj; exact h3 j _ _ hm hc), q5⟩, q6, q7⟩
theorem RefAt.odd {base : Nat} (h : RefAt w q base d) {T : TypeId} (hne : 90 ≠ T) : Odd w (One q) T := let ⟨⟨_, _, q1, _⟩, _, _⟩ := h; Odd.one q1 hne
theorem RecAt.odds (h : RecAt w r v A B) (k : Keeps M w w') (h1 : Odd w M 57) (h2 : Odd w M 79) (h3 : Odd w M 71) (h4 : Odd w M 28) (h5 : Odd w M 83) (h6 : Odd w M 74) (h7 : Odd w M 35) : RecAt w' r v A B :=
  ⟨k.odd h1 h.rec_, h.a.odd k h2 h3 h4, h.b.odd k h5 h6 h7⟩
/-- The document's record turns: the program's stays. -/
theorem RecAt.byRef {base : Nat} (h : RecAt w r v A B) (hr : RefAt w q base d) (k : Keeps (One q) w w') : RecAt w' r v A B :=
  h.odds k (hr.odd (by decide)) (hr.odd (by decide)) (hr.odd (by decide)) (hr.odd (by decide)) (hr.odd (by decide)) (hr.odd (by decide)) (hr.odd (by decide))
/-- The program's record turns: the document's stays. -/
theorem RefAt.byRec {base : Nat} (h : RefAt w q base d) (hr : RecAt w r v A B) (k : Keeps (FR A B) w w') : RefAt w' q base d :=
  h.other k (hr.odd (by decide) (by decide) (by decide) (by decide)) (hr.odd (by decide) (by decide) (by decide) (by decide)) (hr.odd (by decide) (by decide) (by decide) (by decide))
theorem Two.keepsN (h : Two w0 w r q v A B d) (k : Keeps Nob w w') : Two w0 w' r q v A B d := ⟨h.rec_.keepsN k, h.ref.keepsN k, h.new, h.newq, h.same, h.keeps.then k (fun _ _ x => x.elim)⟩
/-- One step of both. -/
theorem Two.step {w1 w2 : World} {d' : DRec} (h : Two w0 w r q v A B d) (h1 : RecAt w1 r v A' B') (hF : ∀ j, FR A' B' j ↔ FR A B j) (k1 : Keeps (FR A B) w w1) (h2 : RefAt w1 q w0.heap.size d → RefAt w2 q w0.heap.size d') (k2 : Keeps (One q) w1 w2) (hs : Alike v A' B' d') :
    Two w0 w2 r q v A' B' d' ∧ Keeps (fun j => w0.heap.size ≤ j) w w2 := by
  have hr1 := h.ref.byRec h.rec_ k1
  have hk : Keeps (fun j => w0.heap.size ≤ j) w w2 := (k1.mono (fun j _ hj => h.new j hj)).then k2 (fun j _ (hj : j = q) => by have := h.newq; omega)
  exact ⟨⟨h1.byRef hr1 k2, h2 hr1, fun j hj => h.new j ((hF j).1 hj), h.newq, hs, h.keeps.then hk (fun j hj hm => absurd hj (by omega))⟩, hk⟩
theorem putErrA (hv : 0 ≤ v ∧ v ≤ 31) (hr : RecAt w r v A B) (hs : Alike v A B d) (a : Att) : qPutErr v A a = qrPutErr d a := by
  unfold qPutErr whoErr qrPutErr gputErr
  rw [hs.v, hs.l, hs.win, hs.a, items_find hr.a.held]
  by_cases h1 : a.err = 0
  · by_cases h2 : a.v = v
    · simp [h1, h2]
    · simp [h1, h2]
  · simp [h1]
theorem putErrB (hv : 0 ≤ v ∧ v ≤ 31) (hr : RecAt w r v A B) (hs : Alike v A B d) (a : Pro) : qPutBlockErr v B a = qrPutBlockErr d a := by
  unfold qPutBlockErr whoErr qrPutBlockErr gputBErr
  rw [hs.v, hs.f, hs.span, hs.b, items_find hr.b.held]
  by_cases h1 : a.err = 0
  · by_cases h2 : a.v = v
    · simp [h1, h2]
    · simp [h1, h2]
  · simp [h1]
theorem moveErr (hs : Alike v A B d) (l f : Int) : qMoveErr A B l f = qrMoveErr d l f := by unfold qMoveErr qrMoveErr; rw [hs.l, hs.f]
/-- What a put that is taken asks for. -/
theorem put0A {a : Att} (h : qPutErr v A a = 0) : (A.low : Int) ≤ a.t ∧ a.t < (A.low : Int) + A.n ∧ A.V a.t = none := by
  unfold qPutErr gputErr at h
  by_cases h0 : whoErr v a.err a.v = 0
  · rw [if_neg (by omega)] at h
    by_cases h1 : a.t < (A.low : Int)
    · rw [if_pos h1] at h; omega
    · rw [if_neg h1] at h
      by_cases h2 : (A.low : Int) + A.n ≤ a.t
      · rw [if_pos h2] at h; omega
      · rw [if_neg h2] at h
        cases hv : A.V a.t with
        | none => exact ⟨by omega, by omega, rfl⟩
        | some b => rw [hv] at h; simp at h
  · rw [if_pos h0] at h; exact absurd h h0
theorem put0B {a : Pro} (h : qPutBlockErr v B a = 0) : (B.low : Int) ≤ a.h ∧ a.h < (B.low : Int) + B.n ∧ B.V a.h = none := by
  unfold qPutBlockErr gputBErr at h
  by_cases h0 : whoErr v a.err a.v = 0
  · rw [if_neg (by omega)] at h
    by_cases h1 : a.h < (B.low : Int)
    · rw [if_pos h1] at h; omega
    · rw [if_neg h1] at h
      by_cases h2 : (B.low : Int) + B.n ≤ a.h
      · rw [if_pos h2] at h; omega
      · rw [if_neg h2] at h
        cases hv : B.V a.h with
        | none => exact ⟨by omega, by omega, rfl⟩
        | some b => rw [hv] at h; simp at h
  · rw [if_pos h0] at h; exact absurd h h0
theorem Alike.putA {S' : Nat → Option Nat} (hr : RecAt w r v A B) (hs : Alike v A B d) {a : Att} (h : qPutErr v A a = 0) : Alike v { A with V := upV A.V a.t a, S := S' } B { d with a := insK (·.t) d.a a } := by
  obtain ⟨h1, h2, h3⟩ := put0A h
  obtain ⟨t, ht⟩ : ∃ t : Nat, a.t = (t : Int) := ⟨a.t.toNat, by omega⟩
  rw [ht] at h1 h2 h3
  refine ⟨hs.v, hs.win, hs.span, hs.l, hs.f, ?_, hs.b⟩
  show insK (·.t) d.a a = items (upV A.V a.t a) A.low A.n
  rw [hs.a, ht, items_put hr.a.held (by omega) (by omega) ht h3]
theorem Alike.putB {S' : Nat → Option Nat} (hr : RecAt w r v A B) (hs : Alike v A B d) {a : Pro} (h : qPutBlockErr v B a = 0) : Alike v A { B with V := upV B.V a.h a, S := S' } { d with b := insK (·.h) d.b a } := by
  obtain ⟨h1, h2, h3⟩ := put0B h
  obtain ⟨t, ht⟩ : ∃ t : Nat, a.h = (t : Int) := ⟨a.h.toNat, by omega⟩
  rw [ht] at h1 h2 h3
  refine ⟨hs.v, hs.win, hs.span, hs.l, hs.f, hs.a, ?_⟩
  show insK (·.h) d.b a = items (upV B.V a.h a) B.low B.n
  rw [hs.b, ht, items_put hr.b.held (by omega) (by omega) ht h3]
theorem move0 {l f : Int} (h : qMoveErr A B l f = 0) : (A.low : Int) ≤ l ∧ l ≤ 4294967296 ∧ (B.low : Int) ≤ f ∧ f ≤ 4294967296 ∧ 1 ≤ f := by
  unfold qMoveErr at h
  split at h
  · omega
  · split at h
    · omega
    · omega
theorem Alike.move {S1 S2 : Nat → Option Nat} (hr : RecAt w r v A B) (hs : Alike v A B d) {l f : Int} (h : qMoveErr A B l f = 0) :
    Alike v { A with low := l.toNat, V := mvV A.V l, S := S1 } { B with low := f.toNat, V := mvV B.V f, S := S2 } { d with l := l, f := f, a := d.a.filter (geA l), b := d.b.filter (geB f) } := by
  obtain ⟨h1, h2, h3, h4, _⟩ := move0 h
  obtain ⟨l, rfl⟩ : ∃ t : Nat, l = (t : Int) := ⟨l.toNat, by omega⟩
  obtain ⟨f, rfl⟩ : ∃ t : Nat, f = (t : Int) := ⟨f.toNat, by omega⟩
  refine ⟨hs.v, hs.win, hs.span, by simp, by simp, ?_, ?_⟩
  · show d.a.filter (geA l) = items (mvV A.V l) (Int.toNat l) A.n
    rw [Int.toNat_natCast, items_move hr.a.held (by omega), hs.a]; rfl
  · show d.b.filter (geB f) = items (mvV B.V f) (Int.toNat f) B.n
    rw [Int.toNat_natCast, items_move hr.b.held (by omega), hs.b]; rfl
theorem Two.la (h : Two w0 w r q v A B d) : d.a.length ≤ 300000 := by have := items_len A.V A.low A.n; have := h.rec_.a.n2; rw [h.same.a]; omega
theorem Two.lb (h : Two w0 w r q v A B d) : d.b.length ≤ 300000 := by have := items_len B.V B.low B.n; have := h.rec_.b.n2; rw [h.same.b]; omega
theorem Two.ba (h : Two w0 w r q v A B d) : i64b (d.l + d.win) := by have := h.rec_.a.n2; have := h.rec_.a.l2; rw [h.same.l, h.same.win]; constructor <;> omega
theorem Two.bb (h : Two w0 w r q v A B d) : i64b (d.f + d.span) := by have := h.rec_.b.n2; have := h.rec_.b.l2; rw [h.same.f, h.same.span]; constructor <;> omega
end
/-- Both, whatever they hold. -/
def Both (w0 w : World) (r q : Nat) (v : Int) : Prop := (0 ≤ v ∧ v ≤ 31) ∧ ∃ A B d, Two w0 w r q v A B d
theorem Both.keepsN {w0 w w' : World} {r q : Nat} {v : Int} (h : Both w0 w r q v) (k : Keeps Nob w w') : Both w0 w' r q v := ⟨h.1, let ⟨A, B, d, t⟩ := h.2; ⟨A, B, d, t.keepsN k⟩⟩
end Go.Proofs.Ytgipooedgbbliaa
