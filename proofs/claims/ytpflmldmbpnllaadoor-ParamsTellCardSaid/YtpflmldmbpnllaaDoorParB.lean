/-
  Params: a field's readers, and its bounds. Conditions: none.
-/
import Derived.Test.YtpflmldmbpnllaaDoorParA
namespace Go.Proofs.YtpflmldmbpnllaaDoor
open Go Go.RowKit Go.Own Go.Shelf

set_option maxHeartbeats 1000000 in
theorem of1_ok (k : Nat) (q : Addr) (x : Int) (w : World) (h1 : w.cell? ⟨k, 0, none⟩ = some (.pointer (some q))) (h2 : w.cell? q = some (.int .i64 x)) (b1 : -9223372036854775808 ≤ x) (b2 : x ≤ 9223372036854775807) :
    Calls Tryd.prog 82 #[.pointer (some ⟨k, 0, none⟩)] w fun e w' => e = .returned (.tuple #[.int .u64 (max x 0), .bool (decide (0 ≤ x))]) ∧ Keeps Nob w w' := by
  by_cases hx : 0 ≤ x
  · have hm : max x 0 = x := by omega
    rw [hm]
    go_enter Tryd.func82, Tryd.ntmps82
    go_wp2
    go_region
    go_wp2
    all_goals (go_ret2; exact ⟨by simp [hx], (Keeps.refl _ _).drew⟩)
  · have hm : max x 0 = 0 := by omega
    rw [hm]
    have hd : decide (0 ≤ x) = false := by simpa using hx
    go_enter Tryd.func82, Tryd.ntmps82
    go_wp2
    go_region
    go_wp2
    all_goals (go_ret2; exact ⟨by simp [hd], (Keeps.refl _ _).drew⟩)

set_option maxHeartbeats 1000000 in
theorem word1_ok (k : Nat) (q : Addr) (x : Int) (w : World) (h1 : w.cell? ⟨k, 0, none⟩ = some (.pointer (some q))) (h2 : w.cell? q = some (.int .u64 x)) :
    Calls Tryd.prog 84 #[.pointer (some ⟨k, 0, none⟩)] w fun e w' => e = .returned (.tuple #[.int .u64 x, .bool true]) ∧ Keeps Nob w w' := by
  go_enter Tryd.func84, Tryd.ntmps84
  go_wp2
  go_ret2
  exact ⟨rfl, Keeps.refl _ _⟩

set_option maxHeartbeats 1000000 in
theorem within_ok (nm f g : Value) (lo hi n : Int) (w : World) :
    Calls Tryd.prog 38 #[.agg #[nm, .int .u64 lo, .int .u64 hi, f, g], .int .u64 n] w fun e w' => e = .returned (.bool (decide (lo ≤ n) && decide (n ≤ hi))) ∧ Keeps Nob w w' := by
  by_cases h1 : lo ≤ n
  · go_enter Tryd.func38, Tryd.ntmps38
    go_wp2
    go_ret
    exact ⟨by simp [h1], (Keeps.refl _ _).alloc _⟩
  · have h2 : decide (lo ≤ n) = false := by simpa using h1
    go_enter Tryd.func38, Tryd.ntmps38
    go_wp2
    go_ret
    exact ⟨by simp [h2], (Keeps.refl _ _).alloc _⟩
end Go.Proofs.YtpflmldmbpnllaaDoor
