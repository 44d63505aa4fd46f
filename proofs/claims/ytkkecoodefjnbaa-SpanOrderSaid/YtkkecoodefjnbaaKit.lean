/-
  The laws' own small functions: Pick. Conditions: none.
-/
import Derived.Test.YtkkecoodefjnbaaBase
import Derived.Test.YtkkecoodefjnbaaRows
import Derived.Lib.Hide
namespace Go.Proofs.Ytkkecoodefjnbaa
open Go Go.RowKit Go.Own

theorem tmod_emod (x n : Int) (hn : 0 < n) : (if x.tmod n < 0 then x.tmod n + n else x.tmod n) = x % n := by
  rcases Int.le_total 0 x with hx | hx
  · have h1 := Int.emod_nonneg x (show n ≠ 0 by omega)
    rw [Int.tmod_eq_emod_of_nonneg hx, if_neg (by omega)]
  · have h1 := Int.emod_nonneg x (show n ≠ 0 by omega)
    have h2 := Int.emod_lt_of_pos x hn
    have h3 := Int.tmod_eq_emod (a := x) (b := n)
    rw [h3]
    have hab : (n.natAbs : Int) = n := by omega
    split <;> split <;> omega

set_option maxHeartbeats 400000 in
theorem pick_ok (x n : Int) (w : World) (hx : -9223372036854775808 ≤ x ∧ x ≤ 9223372036854775807) (hn : 1 ≤ n) (hn2 : n ≤ 4611686018427387904) :
    Calls Try.prog 18 #[.int .i64 x, .int .i64 n] w fun e w' => e = .returned (.int .i64 (x % n)) ∧ w = w' := by
  obtain ⟨h1, h2⟩ := hx
  have ht := tmod_emod x n (by omega)
  have b1 := Int.emod_nonneg x (show n ≠ 0 by omega)
  have b2 := Int.emod_lt_of_pos x (show 0 < n by omega)
  have hne : (n == 0) = false := by simp; omega
  rcases Int.le_total 0 x with hx | hx
  · have hq : ¬ x % n < 0 := by omega
    clear ht
    go_enter Try.func18, Try.ntmps18
    go_wp2
    go_ret
    exact ⟨rfl, rfl⟩
  · obtain ⟨m, hm⟩ : ∃ m, x.tmod n = m := ⟨_, rfl⟩
    have hm0 := hm
    rw [hm] at ht
    have hlo : -n ≤ m := by
      split at ht <;> omega
    have hhi : m < n := by split at ht <;> omega
    have HT := Lib.hid ht; clear ht
    go_enter Try.func18, Try.ntmps18
    go_wp2
    · go_ret
      exact ⟨ret_int (by have h3 := HT.out; split at h3 <;> omega), rfl⟩
    · go_ret
      exact ⟨ret_int (by have h3 := HT.out; split at h3 <;> omega), rfl⟩
end Go.Proofs.Ytkkecoodefjnbaa
