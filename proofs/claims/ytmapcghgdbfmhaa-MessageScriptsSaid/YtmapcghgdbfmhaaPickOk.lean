/-
  The laws' Pick. Conditions: none.
-/
import Derived.Test.YtmapcghgdbfmhaaBytes
import Derived.Test.YtmapcghgdbfmhaaRows
import Derived.Lib.Hide
import Derived.Laws.BitsAllLaws
import Derived.Deep.RegionHeld3
namespace Go.Proofs.Ytmapcghgdbfmhaa
open Go Go.RowKit Go.Own
set_option maxRecDepth 100000 in
set_option maxHeartbeats 1000000 in
/-- Pick: the number's remainder, from 0 on; 0 of none. -/
theorem pick_ok (x n : Int) (w : World) (hx : -9223372036854775808 ≤ x ∧ x ≤ 9223372036854775807) (hn : n ≤ 9223372036854775807) :
    Calls Try.prog 28 #[.int .i64 x, .int .i64 n] w fun e w' => e = .returned (.int .i64 (if n ≤ 0 then 0 else x % n)) ∧ w = w' := by
  obtain ⟨hx1, hx2⟩ := hx
  by_cases h0 : n ≤ 0
  · rw [if_pos h0]
    have d0 : decide (n ≤ 0) = true := by simpa using h0
    go_enter Try.func28, Try.ntmps28
    go_wp2
    go_ret
    exact ⟨rfl, rfl⟩
  · rw [if_neg h0]
    have d0 : decide (n ≤ 0) = false := by simpa using h0
    have hnz : (n == 0) = false := by simp; omega
    have hnz2 : n ≠ 0 := by omega
    have e1 : x.tmod n = if x < 0 ∧ x % n ≠ 0 then x % n - n else x % n := by
      have h1 := Int.emod_nonneg x (show n ≠ 0 by omega)
      have h2 := Int.emod_lt_of_pos x (show 0 < n by omega)
      rw [Int.tmod_eq_emod]
      split
      · rename_i h
        rw [if_neg]
        · simp
        · intro h3
          rcases h with h | h
          · omega
          · exact h3.2 (Int.emod_eq_zero_of_dvd h)
      · rename_i h
        have h4 : ¬ n ∣ x := fun hd => h (.inr hd)
        rw [if_pos ⟨by omega, fun he => h4 (Int.dvd_of_emod_eq_zero he)⟩]
        omega
    have h1 := Int.emod_nonneg x (show n ≠ 0 by omega)
    have h2 := Int.emod_lt_of_pos x (show 0 < n by omega)
    by_cases hc : x < 0 ∧ x % n ≠ 0
    · have e2 : x.tmod n = x % n - n := by rw [e1, if_pos hc]
      have d1 : decide (x.tmod n < 0) = true := by simp; omega
      have w1 : wrap64 (x.tmod n + n) = x.tmod n + n := IntWalk.wrap64_in _ ⟨by omega, by omega⟩
      have E2 := Lib.hid e2
      clear e1 e2 hc h1 h2
      go_enter Try.func28, Try.ntmps28
      go_wp2
      go_ret
      exact ⟨ret_int (by rw [E2.out]; omega), rfl⟩
    · have e2 : x.tmod n = x % n := by rw [e1, if_neg hc]
      have d1 : decide (x.tmod n < 0) = false := by simp; omega
      have E2 := Lib.hid e2
      clear e1 e2 hc h1 h2
      go_enter Try.func28, Try.ntmps28
      go_wp2
      go_ret
      exact ⟨ret_int (by rw [E2.out]), rfl⟩
end Go.Proofs.Ytmapcghgdbfmhaa
