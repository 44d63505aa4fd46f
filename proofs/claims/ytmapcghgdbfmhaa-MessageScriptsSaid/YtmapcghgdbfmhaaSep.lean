/-
  Objects and the blocks that they own: a step turns its own object's blocks alone and lays new ones. Conditions: none.
-/
import Derived.Test.YtmapcghgdbfmhaaBase
namespace Go.Own
open Go Go.RowKit

/-- A step of an object with the blocks F; behind it has the blocks F'. -/
def Step (w w' : World) (F F' : Nat → Prop) : Prop := Keeps F w w' ∧ ∀ j, F' j → F j ∨ (w.heap.size ≤ j ∧ j < w'.heap.size)
def Dis (F G : Nat → Prop) : Prop := ∀ j, F j → ¬ G j
def Lt (F : Nat → Prop) (w : World) : Prop := ∀ j, F j → j < w.heap.size
def Ge (F : Nat → Prop) (w : World) : Prop := ∀ j, F j → w.heap.size ≤ j
section
variable {w0 w w' w'' : World} {F F' F'' G M : Nat → Prop}
theorem Dis.symm (h : Dis F G) : Dis G F := fun j hg hf => h j hf hg
theorem Lt.mono (h : Lt F w) (k : w.heap.size ≤ w'.heap.size) : Lt F w' := fun j hj => Nat.lt_of_lt_of_le (h j hj) k
theorem Lt.keeps (h : Lt F w) (k : Keeps M w w') : Lt F w' := h.mono k.size
theorem Ge.keeps (h : Ge F w') (k : Keeps M w w') : Ge F w := fun j hj => Nat.le_trans k.size (h j hj)
theorem Ge.dis (h : Ge F w) (k : Lt G w) : Dis F G := fun j hf hg => by have := h j hf; have := k j hg; omega
theorem Step.refl (w : World) (F : Nat → Prop) : Step w w F F := ⟨Keeps.refl _ _, fun _ h => .inl h⟩
theorem Step.nob (k : Keeps Nob w w') : Step w w' F F := ⟨k.mono (fun _ _ x => x.elim), fun _ h => .inl h⟩
theorem Step.trans (h : Step w w' F F') (k : Step w' w'' F' F'') : Step w w'' F F'' :=
  ⟨h.1.then k.1 (fun i hi hm => (h.2 i hm).elim id (fun x => absurd x.1 (by omega))), fun j hj => by
    rcases k.2 j hj with h1 | ⟨h1, h2⟩
    · rcases h.2 j h1 with h3 | ⟨h3, h4⟩
      · exact .inl h3
      · exact .inr ⟨h3, Nat.lt_of_lt_of_le h4 k.1.size⟩
    · exact .inr ⟨Nat.le_trans h.1.size h1, h2⟩⟩
theorem Step.size (h : Step w w' F F') : w.heap.size ≤ w'.heap.size := h.1.size
/-- Another object stays apart. -/
theorem Step.dis (h : Step w w' F F') (d : Dis F G) (l : Lt G w) : Dis F' G := fun j hj hg => by
  rcases h.2 j hj with h1 | ⟨h1, _⟩
  · exact d j h1 hg
  · have := l j hg; omega
theorem Step.ge (h : Step w w' F F') (g : Ge F w0) (k : w0.heap.size ≤ w.heap.size) : Ge F' w0 := fun j hj => by
  rcases h.2 j hj with h1 | ⟨h1, _⟩
  · exact g j h1
  · omega
/-- What was there at the start is as it was. -/
theorem Step.keeps (h : Step w w' F F') (k : Keeps Nob w0 w) (g : Ge F w0) : Keeps Nob w0 w' := k.then h.1 (fun i hi hm => by have := g i hm; omega)
theorem Step.lt (h : Step w w' F F') (l : Lt F w) : Lt F' w' := fun j hj => by
  rcases h.2 j hj with h1 | ⟨_, h1⟩
  · exact Nat.lt_of_lt_of_le (l j h1) h.1.size
  · exact h1
/-- Two objects side by side. -/
def Or2 (F G : Nat → Prop) : Nat → Prop := fun j => F j ∨ G j
end
end Go.Own
