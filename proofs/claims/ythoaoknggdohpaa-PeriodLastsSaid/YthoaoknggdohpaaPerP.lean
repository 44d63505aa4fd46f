/-
  Period: each height is of one epoch; windows go on by at most one (plain law). Conditions: none.
-/
import Derived.Test.YthoaoknggdohpaaPerN
namespace Go.Proofs.Ythoaoknggdohpaa
open Go Go.RowKit Go.Own Go.Shelf

theorem Par.fine_in (p : Par) (l : List Int) (h0 : p.check.1 = 0) (h : ∀ x ∈ l, hOk x) : p.fine l = 0 :=
  p.fine_ok l (fun k x hx => h x (List.mem_of_getElem? hx)) h0
theorem ep_bounds (h m : Int) (h1 : 1 ≤ h) (m1 : 1 ≤ m) : 0 ≤ (h - 1) / m ∧ (h - 1) / m * m + 1 ≤ h ∧ h ≤ ((h - 1) / m + 1) * m ∧ (h - 1) / m ≤ h - 1 := by
  have a := Int.emod_add_mul_ediv (h - 1) m
  have b := Int.emod_nonneg (h - 1) (show m ≠ 0 by omega)
  have c := Int.emod_lt_of_pos (h - 1) (show 0 < m by omega)
  have d : 0 ≤ (h - 1) / m := Int.ediv_nonneg (by omega) (by omega)
  have e : (h - 1) / m ≤ h - 1 := Int.ediv_le_self _ (by omega)
  rw [Int.add_mul, Int.one_mul]
  rw [Int.mul_comm m] at a
  exact ⟨d, by omega, by omega, e⟩
/-- What a height's epoch is, told by First and Last. -/
theorem Par.of_epoch (p : Par) (h : Int) (hf : p.fine [h] = 0) : ∃ q a b : Int, p.epoch h = (q, 0) ∧ i64ok q ∧ 0 ≤ q ∧ q ≤ 4294967295 ∧ p.first q = (a, 0) ∧ p.last q = (b, 0) ∧ a ≤ h ∧ h ≤ b ∧ 1 ≤ h ∧ h ≤ 4294967296 ∧ q = (h - 1) / p.elen := by
  obtain ⟨hc, hall⟩ := p.fine_zero [h] hf
  obtain ⟨_, _, ⟨x5, x6⟩, _⟩ := p.bounds hc
  obtain ⟨r1, r2⟩ := hall h (by simp)
  obtain ⟨a1, a2, a3, a4⟩ := ep_bounds h p.elen r1 x5
  have f0 : p.fine [] = 0 := p.fine_in [] hc (fun x hx => by cases hx)
  have e1 : p.epoch h = ((h - 1) / p.elen, 0) := by unfold Par.epoch; rw [if_pos hf]
  generalize hq : (h - 1) / p.elen = q at *
  have e2 : p.first q = (q * p.elen + 1, 0) := by unfold Par.first; rw [if_pos f0, if_pos (by omega)]
  have e3 : p.last q = (min 4294967296 ((q + 1) * p.elen), 0) := by unfold Par.last; rw [e2]; exact if_pos rfl
  exact ⟨q, _, _, e1, by unfold i64ok; omega, a1, by omega, e2, e3, a2, by omega, r1, r2, rfl⟩
/-- Another epoch has not that height. -/
theorem Par.other (p : Par) (h e q : Int) (hf : p.fine [h] = 0) (hq : q = (h - 1) / p.elen) (he : (p.first e).2 = 0) (hne : e ≠ q) : ∃ c d : Int, p.first e = (c, 0) ∧ p.last e = (d, 0) ∧ c ≤ d ∧ (h < c ∨ d < h) := by
  obtain ⟨hc, hall⟩ := p.fine_zero [h] hf
  obtain ⟨_, _, ⟨x5, x6⟩, _⟩ := p.bounds hc
  obtain ⟨r1, r2⟩ := hall h (by simp)
  obtain ⟨a1, a2, a3, a4⟩ := ep_bounds h p.elen r1 x5
  obtain ⟨_, y1, y2, y3, y4⟩ := p.first_zero e he
  have e1 : p.first e = (e * p.elen + 1, 0) := Prod.ext y4 he
  have e3 : p.last e = (min 4294967296 ((e + 1) * p.elen), 0) := by unfold Par.last; rw [e1]; exact if_pos rfl
  refine ⟨_, _, e1, e3, ?_, ?_⟩
  · rw [Int.add_mul, Int.one_mul]; omega
  · rw [← hq] at a2 a3
    rcases Int.lt_or_gt_of_ne hne with hlt | hgt
    · right
      have : (e + 1) * p.elen ≤ q * p.elen := Int.mul_le_mul_of_nonneg_right (by omega) (by omega)
      omega
    · left
      have : (q + 1) * p.elen ≤ e * p.elen := Int.mul_le_mul_of_nonneg_right (by omega) (by omega)
      omega
theorem ep_next (h m : Int) (h1 : 1 ≤ h) (m1 : 1 ≤ m) : (h - 1) / m ≤ (h + 1 - 1) / m ∧ (h + 1 - 1) / m ≤ (h - 1) / m + 1 := by
  have a := ep_bounds h m h1 m1
  have b := ep_bounds (h + 1) m (by omega) m1
  generalize (h - 1) / m = q at *
  generalize (h + 1 - 1) / m = q' at *
  constructor
  · rcases (show q' < q ∨ q ≤ q' by omega) with h' | h'
    · have : (q' + 1) * m ≤ q * m := Int.mul_le_mul_of_nonneg_right (by omega) (by omega)
      omega
    · exact h'
  · rcases (show q + 1 < q' ∨ q' ≤ q + 1 by omega) with h' | h'
    · have : (q + 1) * m ≤ (q' - 1) * m := Int.mul_le_mul_of_nonneg_right (by omega) (by omega)
      have e : (q' - 1) * m = q' * m - m := by rw [Int.sub_mul, Int.one_mul]
      omega
    · exact h'
/-- Low and Floor from one height to the next one. -/
theorem Par.steps (p : Par) (h : Int) (hf : p.fine [h] = 0) (hm : h < 4294967296) : ∃ lo nx fl th : Int, p.low h = (lo, 0) ∧ p.low (h + 1) = (nx, 0) ∧ p.floor h = (fl, 0) ∧ p.floor (h + 1) = (th, 0) ∧
    0 ≤ lo ∧ lo ≤ (h - 1) / p.elen ∧ lo ≤ nx ∧ nx ≤ lo + 1 ∧ 1 ≤ fl ∧ fl ≤ h ∧ fl ≤ th ∧ th ≤ fl + 1 := by
  obtain ⟨hc, hall⟩ := p.fine_zero [h] hf
  obtain ⟨_, _, ⟨x5, x6⟩, ⟨x7, x8⟩, _⟩ := p.bounds hc
  obtain ⟨r1, r2⟩ := hall h (by simp)
  have hf1 : p.fine [h + 1] = 0 := p.fine_in _ hc (fun x hx => by simp at hx; subst hx; unfold hOk; omega)
  have b := ep_next h p.elen r1 x5
  have a := ep_bounds h p.elen r1 x5
  have m1 : 1 ≤ p.win * p.elen := by have := Int.mul_le_mul x7 x5 (by omega) (by omega); omega
  refine ⟨max 0 ((h - 1) / p.elen - p.win + 1), max 0 ((h + 1 - 1) / p.elen - p.win + 1), max 1 (h - p.win * p.elen + 1), max 1 (h + 1 - p.win * p.elen + 1), ?_, ?_, ?_, ?_, ?_⟩
  · unfold Par.low; rw [if_pos hf]
  · unfold Par.low; rw [if_pos hf1]
  · unfold Par.floor; rw [if_pos hf]
  · unfold Par.floor; rw [if_pos hf1]
  · omega
end Go.Proofs.Ythoaoknggdohpaa
