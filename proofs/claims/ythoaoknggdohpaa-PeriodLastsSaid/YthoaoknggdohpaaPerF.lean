/-
  Period: the document's First. Conditions: none.
-/
import Derived.Test.YthoaoknggdohpaaPerE
namespace Go.Proofs.Ythoaoknggdohpaa
open Go Go.RowKit Go.Own Go.Shelf

theorem ints_none (w : World) : IntsAt w (.slice none 0 0) [] := ⟨⟨_, _, rfl⟩, fun k x hk => by simp at hk⟩

set_option maxHeartbeats 2000000 in
theorem rFirst_ok (p : Par) (hp : p.Ok) (e : Int) (he : i64ok e) (w : World) :
    Calls Try.prog 26 #[p.v, .int .i64 e] w fun x w' => x = .returned (.tuple #[.int .i64 (p.first e).1, .int .i64 (p.first e).2]) ∧ Keeps Nob w w' := by
  have FN := fun V v hv => rfine_ok p hp v [] V (by simp) hv
  have hb := fun hc => p.bounds (p.fine_zero [] hc).1
  unfold Par.first
  generalize p.fine [] = er at *
  have hpv : p.v = .agg p.cells := rfl
  rw [hpv] at FN ⊢
  unfold Par.cells at FN ⊢
  have FH := Lib.hid FN; clear FN hpv
  obtain ⟨he1, he2⟩ := he
  by_cases hc : er = 0
  · subst hc
    obtain ⟨_, _, ⟨x5, x6⟩, _⟩ := hb rfl
    clear hb
    rw [if_pos rfl]
    by_cases k1 : e < 0
    · rw [if_neg (by omega)]
      go_enter Try.func26, Try.ntmps26
      go_wp2_with (go_at_call 35; refine (FH.out _ _ (ints_none _)).mono ?_; rintro x V ⟨rfl, hk⟩)
      go_ret2
      exact ⟨rfl, ((Keeps.refl Nob w).alloc _).trans hk⟩
    · have k1d : decide (e < 0) = false := by simpa using k1
      by_cases k2 : 4294967296 < e
      · rw [if_neg (by omega)]
        go_enter Try.func26, Try.ntmps26
        go_wp2_with (go_at_call 35; refine (FH.out _ _ (ints_none _)).mono ?_; rintro x V ⟨rfl, hk⟩)
        go_ret2
        exact ⟨rfl, ((Keeps.refl Nob w).alloc _).trans hk⟩
      · have k2d : decide (4294967296 < e) = false := by simpa using k2
        have m1 : 0 ≤ e * p.elen := Int.mul_nonneg (by omega) (by omega)
        have m2 : e * p.elen ≤ 4294967296000 := by have := Int.mul_le_mul (show e ≤ 4294967296 by omega) x6 (by omega) (by omega); omega
        by_cases k3 : e * p.elen + 1 ≤ 4294967296
        · rw [if_pos ⟨by omega, by omega, k3⟩]
          have k3d : decide (4294967296 < e * p.elen + 1) = false := by simp; omega
          go_enter Try.func26, Try.ntmps26
          go_wp2_with (go_at_call 35; refine (FH.out _ _ (ints_none _)).mono ?_; rintro x V ⟨rfl, hk⟩; have q2 := par_cell p w V 24 hk 2 (.int .i64 p.elen) rfl)
          go_ret2
          exact ⟨rfl, ((Keeps.refl Nob w).alloc _).trans hk⟩
        · rw [if_neg (by omega)]
          have k3d : 4294967296 < e * p.elen + 1 := by omega
          go_enter Try.func26, Try.ntmps26
          go_wp2_with (go_at_call 35; refine (FH.out _ _ (ints_none _)).mono ?_; rintro x V ⟨rfl, hk⟩; have q2 := par_cell p w V 24 hk 2 (.int .i64 p.elen) rfl)
          go_ret2
          exact ⟨rfl, ((Keeps.refl Nob w).alloc _).trans hk⟩
  · have hcd : (er == 0) = false := by simpa using hc
    rw [if_neg hc]
    clear hb
    go_enter Try.func26, Try.ntmps26
    go_wp2_with (go_at_call 35; refine (FH.out _ _ (ints_none _)).mono ?_; rintro x V ⟨rfl, hk⟩)
    go_ret2
    exact ⟨rfl, ((Keeps.refl Nob w).alloc _).trans hk⟩
end Go.Proofs.Ythoaoknggdohpaa
