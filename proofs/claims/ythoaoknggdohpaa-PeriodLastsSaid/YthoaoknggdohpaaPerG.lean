/-
  Period: the document's Last. Conditions: none.
-/
import Derived.Test.YthoaoknggdohpaaPerF
namespace Go.Proofs.Ythoaoknggdohpaa
open Go Go.RowKit Go.Own Go.Shelf

theorem Par.first_zero (p : Par) (e : Int) (h : (p.first e).2 = 0) : p.fine [] = 0 ∧ 0 ≤ e ∧ e ≤ 4294967296 ∧ e * p.elen + 1 ≤ 4294967296 ∧ (p.first e).1 = e * p.elen + 1 := by
  unfold Par.first at h ⊢
  split at h
  · rename_i h0
    split at h
    · rename_i h1
      rw [if_pos h0, if_pos h1]; exact ⟨h0, h1.1, h1.2.1, h1.2.2, rfl⟩
    · simp at h
  · rename_i h0; exact absurd h h0
def Par.last (p : Par) (e : Int) : Int × Int := if (p.first e).2 = 0 then (min 4294967296 ((e + 1) * p.elen), 0) else (0, (p.first e).2)

set_option maxHeartbeats 2000000 in
theorem rLast_ok (p : Par) (hp : p.Ok) (e : Int) (he : i64ok e) (w : World) :
    Calls Try.prog 28 #[p.v, .int .i64 e] w fun x w' => x = .returned (.tuple #[.int .i64 (p.last e).1, .int .i64 (p.last e).2]) ∧ Keeps Nob w w' := by
  have FN := fun V => rFirst_ok p hp e he V
  have hb := fun hc => p.bounds (p.fine_zero [] (p.first_zero e hc).1).1
  have hz := p.first_zero e
  unfold Par.last
  generalize (p.first e).1 = f1 at *
  generalize (p.first e).2 = er at *
  have hpv : p.v = .agg p.cells := rfl
  rw [hpv] at FN ⊢
  unfold Par.cells at FN ⊢
  have FH := Lib.hid FN; clear FN hpv
  by_cases hc : er = 0
  · subst hc
    obtain ⟨_, _, ⟨x5, x6⟩, _⟩ := hb rfl
    obtain ⟨_, y1, y2, y3, _⟩ := hz rfl
    clear hb hz
    rw [if_pos rfl]
    have m1 : (e + 1) * p.elen = e * p.elen + p.elen := by rw [Int.add_mul, Int.one_mul]
    have m2 : 0 ≤ e * p.elen := Int.mul_nonneg (by omega) (by omega)
    by_cases k1 : 4294967296 ≤ (e + 1) * p.elen
    · have hm : min 4294967296 ((e + 1) * p.elen) = 4294967296 := by omega
      rw [hm]
      go_enter Try.func28, Try.ntmps28
      go_wp2_with (go_at_call 26; refine (FH.out _).mono ?_; rintro x V ⟨rfl, hk⟩; have q2 := par_cell p w V 24 hk 2 (.int .i64 p.elen) rfl)
      go_ret2
      exact ⟨rfl, ((Keeps.refl Nob w).alloc _).trans hk⟩
    · have hm : min 4294967296 ((e + 1) * p.elen) = (e + 1) * p.elen := by omega
      rw [hm]
      have k2 : (e + 1) * p.elen ≤ 4294967296 := by omega
      go_enter Try.func28, Try.ntmps28
      go_wp2_with (go_at_call 26; refine (FH.out _).mono ?_; rintro x V ⟨rfl, hk⟩; have q2 := par_cell p w V 24 hk 2 (.int .i64 p.elen) rfl)
      go_ret2
      exact ⟨by rw [m1]; rfl, ((Keeps.refl Nob w).alloc _).trans hk⟩
  · have hcd : (er == 0) = false := by simpa using hc
    rw [if_neg hc]
    clear hb hz
    go_enter Try.func28, Try.ntmps28
    go_wp2_with (go_at_call 26; refine (FH.out _).mono ?_; rintro x V ⟨rfl, hk⟩)
    go_ret2
    exact ⟨rfl, ((Keeps.refl Nob w).alloc _).trans hk⟩
end Go.Proofs.Ythoaoknggdohpaa
