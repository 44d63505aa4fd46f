/-
  What votes make of an epoch, as least and greatest numbers: plain lists. Conditions: none.
-/
import Derived.Test.YtkkecoodefjnbaaSpanS
namespace Go.Proofs.Ytkkecoodefjnbaa
open Go Go.RowKit Go.Own

/-- What the look through all votes has found. -/
def found (src tgt : Int) (p : Option Int × Option Int) : Int × Int × Int :=
  (match p.1 with | some m => if m < tgt then 1 else 0 | none => 0, match p.2 with | some m => if tgt < m then m else 0 | none => 0, p.1.getD 0)

theorem found_step (src tgt s t : Int) (p : Option Int × Option Int) (h0 : 0 ≤ src) (hst : src ≤ tgt) (hs : 0 ≤ s) (ht : s ≤ t) (hp1 : ∀ m, p.1 = some m → 1 ≤ m) (hp2 : ∀ m, p.2 = some m → 0 ≤ m) :
    found src tgt (putAt s t src p) =
      ((if src < s ∧ t < tgt then 1 else (found src tgt p).1), (if s < src ∧ tgt < t then max (found src tgt p).2.1 t else (found src tgt p).2.1), (if src < s ∧ ((found src tgt p).2.2 = 0 ∨ t < (found src tgt p).2.2) then t else (found src tgt p).2.2)) := by
  obtain ⟨o1, o2⟩ := p
  by_cases c1 : src < s
  · have c2 : ¬ s < src := by omega
    cases o1 with
    | none => simp [found, putAt, c1, c2, optMin]
    | some m =>
      have hm := hp1 m rfl
      by_cases c3 : t < m
      · have : ¬ m = 0 := by omega
        by_cases c4 : t < tgt <;> simp [found, putAt, c1, c2, c3, c4, optMin, this] <;> omega
      · have : ¬ m = 0 := by omega
        by_cases c4 : t < tgt <;> simp [found, putAt, c1, c2, c3, c4, optMin, this] <;> omega
  · by_cases c2 : s < src
    · by_cases c3 : src < t
      · cases o2 with
        | none =>
          by_cases c4 : tgt < t <;> simp [found, putAt, c1, c2, c3, c4, optMax] <;> omega
        | some m =>
          have hm := hp2 m rfl
          by_cases c5 : m < t
          · by_cases c4 : tgt < t <;> by_cases c6 : tgt < m <;> simp [found, putAt, c1, c2, c3, c4, c5, c6, optMax] <;> omega
          · by_cases c4 : tgt < t <;> by_cases c6 : tgt < m <;> simp [found, putAt, c1, c2, c3, c4, c5, c6, optMax] <;> omega
      · have c4 : ¬ tgt < t := by omega
        simp [found, putAt, c1, c2, c3, c4]
    · simp [found, putAt, c1, c2]

/-- Votes as they may be. -/
def Fit (L : List (Int × Int)) : Prop := ∀ v ∈ L, 0 ≤ v.1 ∧ v.1 ≤ v.2

theorem view_pos (L : List (Int × Int)) (e : Int) (he : 0 ≤ e) (h : Fit L) : (∀ m, (viewOf L e).1 = some m → 1 ≤ m) ∧ (∀ m, (viewOf L e).2 = some m → 0 ≤ m) := by
  unfold viewOf
  suffices ∀ p : Option Int × Option Int, ((∀ m, p.1 = some m → 1 ≤ m) ∧ (∀ m, p.2 = some m → 0 ≤ m)) → (∀ m, (L.foldl (fun p v => putAt v.1 v.2 e p) p).1 = some m → 1 ≤ m) ∧ (∀ m, (L.foldl (fun p v => putAt v.1 v.2 e p) p).2 = some m → 0 ≤ m) from
    this _ ⟨fun m h => by simp at h, fun m h => by simp at h⟩
  induction L with
  | nil => intro p hp; exact hp
  | cons v L ih =>
    intro p hp
    rw [List.foldl_cons]
    refine ih (fun u hu => h u (by simp [hu])) _ ?_
    obtain ⟨v1, v2⟩ := h v (by simp)
    obtain ⟨o1, o2⟩ := p
    obtain ⟨hp1, hp2⟩ := hp
    unfold putAt
    split
    · refine ⟨fun m hm => ?_, hp2⟩
      cases o1 with
      | none => simp [optMin] at hm; omega
      | some k => have := hp1 k rfl; simp only [optMin] at hm; split at hm <;> simp at hm <;> omega
    · split
      · refine ⟨hp1, fun m hm => ?_⟩
        cases o2 with
        | none => simp [optMax] at hm; omega
        | some k => have := hp2 k rfl; simp only [optMax] at hm; split at hm <;> simp at hm <;> omega
      · exact ⟨hp1, hp2⟩

/-- The answer of the law's look. -/
theorem clash_found (W E src tgt : Int) (L : List (Int × Int)) (h1 : lowOf W E ≤ src) (h2 : src ≤ E) (hst : src ≤ tgt) (h : Fit L) (h0 : 0 ≤ src) :
    (0 < (found src tgt (viewOf L src)).1 → (clashOf W E src tgt (viewOf L)).1 = 3 ∧ (clashOf W E src tgt (viewOf L)).2 = (found src tgt (viewOf L src)).2.2 ∧ (clashOf W E src tgt (viewOf L)).2 < tgt) ∧
    (¬ 0 < (found src tgt (viewOf L src)).1 → 0 < (found src tgt (viewOf L src)).2.1 → (clashOf W E src tgt (viewOf L)).1 = 4 ∧ (clashOf W E src tgt (viewOf L)).2 = (found src tgt (viewOf L src)).2.1) ∧
    (¬ 0 < (found src tgt (viewOf L src)).1 → ¬ 0 < (found src tgt (viewOf L src)).2.1 → (clashOf W E src tgt (viewOf L)).1 = 0 ∧ (clashOf W E src tgt (viewOf L)).2 = 0) := by
  obtain ⟨hp1, hp2⟩ := view_pos L src h0 h
  have ht1 : tellOf W E src (viewOf L src).1 = ((viewOf L src).1.getD 0, (viewOf L src).1.isSome) := by simp [tellOf, h1, h2]
  have ht2 : tellOf W E src (viewOf L src).2 = ((viewOf L src).2.getD 0, (viewOf L src).2.isSome) := by simp [tellOf, h1, h2]
  unfold clashOf
  rw [ht1, ht2]
  cases e1 : (viewOf L src).1 with
  | none =>
    cases e2 : (viewOf L src).2 with
    | none => simp [found, e1, e2]
    | some k =>
      have := hp2 k e2
      by_cases c : tgt < k <;> simp [found, e1, e2, c]
      omega
  | some m =>
    have := hp1 m e1
    by_cases c0 : m < tgt
    · simp [found, e1, c0]
    · cases e2 : (viewOf L src).2 with
      | none => simp [found, e1, e2, c0]
      | some k =>
        have := hp2 k e2
        by_cases c : tgt < k <;> simp [found, e1, e2, c, c0]
        omega
end Go.Proofs.Ytkkecoodefjnbaa
