/-
  Period: the program's functions of one height. Conditions: none.
-/
import Derived.Test.YthoaoknggdohpaaPerI
namespace Go.Proofs.Ythoaoknggdohpaa
open Go Go.RowKit Go.Own Go.Shelf

set_option maxHeartbeats 1000000 in
theorem hepoch_ok (p : Par) (h : Int) (w : World) (h1 : 1 ≤ h) (h2 : h ≤ 4294967296) (e1 : 1 ≤ p.elen) (e2 : p.elen ≤ 1000) :
    Calls Try.prog 37 #[.int .i64 h, p.v] w fun e w' => e = .returned (.int .i64 ((h - 1) / p.elen)) ∧ Keeps Nob w w' := by
  have hpv : p.v = .agg p.cells := rfl
  rw [hpv]
  unfold Par.cells
  have hne : p.elen ≠ 0 := by omega
  have hq0 : 0 ≤ (h - 1) / p.elen := Int.ediv_nonneg (by omega) (by omega)
  have hq1 : (h - 1) / p.elen ≤ h - 1 := Int.ediv_le_self _ (by omega)
  go_enter Try.func37, Try.ntmps37
  go_wp2
  go_ret
  exact ⟨rfl, (Keeps.refl _ _).alloc _⟩
set_option maxHeartbeats 1000000 in
theorem up_ok (h n : Int) (w : World) (h1 : 1 ≤ h) (h2 : h ≤ 4294967296) (e1 : -1048576 ≤ n) (e2 : n ≤ 1048576) :
    Calls Try.prog 34 #[.int .i64 h, .int .i64 n] w fun e w' => e = .returned (.int .i64 (h + n)) ∧ w = w' := by
  go_enter Try.func34, Try.ntmps34
  go_wp2
  go_ret
  exact ⟨rfl, rfl⟩
set_option maxHeartbeats 1000000 in
theorem down_ok (h n : Int) (w : World) (h1 : 1 ≤ h) (h2 : h ≤ 4294967296) (e1 : -4294967296 ≤ n) (e2 : n ≤ 4294967296) :
    Calls Try.prog 36 #[.int .i64 h, .int .i64 n] w fun e w' => e = .returned (.int .i64 (h - n)) ∧ w = w' := by
  go_enter Try.func36, Try.ntmps36
  go_wp2
  go_ret
  exact ⟨rfl, rfl⟩

end Go.Proofs.Ythoaoknggdohpaa
