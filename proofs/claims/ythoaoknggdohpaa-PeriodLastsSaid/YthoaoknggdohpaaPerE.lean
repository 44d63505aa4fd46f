/-
  Period: the document's Low and First. Conditions: none.
-/
import Derived.Test.YthoaoknggdohpaaPerD
namespace Go.Proofs.Ythoaoknggdohpaa
open Go Go.RowKit Go.Own Go.Shelf

def Par.low (p : Par) (h : Int) : Int × Int := if p.fine [h] = 0 then (max 0 ((h - 1) / p.elen - p.win + 1), 0) else (0, p.fine [h])
def Par.first (p : Par) (e : Int) : Int × Int := if p.fine [] = 0 then (if 0 ≤ e ∧ e ≤ 4294967296 ∧ e * p.elen + 1 ≤ 4294967296 then (e * p.elen + 1, 0) else (0, 3)) else (0, p.fine [])

set_option maxHeartbeats 2000000 in
theorem rLow_ok (p : Par) (hp : p.Ok) (h : Int) (hh : i64ok h) (w : World) :
    Calls Try.prog 20 #[p.v, .int .i64 h] w fun e w' => e = .returned (.tuple #[.int .i64 (p.low h).1, .int .i64 (p.low h).2]) ∧ Keeps Nob w w' := by
  have FN := fun V => rEpoch_ok p hp h hh V
  have hb := fun hc => p.bounds (p.fine_zero [h] hc).1
  have hr2 := fun hc => (p.fine_zero [h] hc).2 h (by simp)
  unfold Par.low
  unfold Par.epoch at FN
  generalize p.fine [h] = er at *
  have hpv : p.v = .agg p.cells := rfl
  rw [hpv] at FN ⊢
  unfold Par.cells at FN ⊢
  by_cases hc : er = 0
  · subst hc
    obtain ⟨r3, r4⟩ := hr2 rfl
    obtain ⟨⟨x1, x2⟩, ⟨x3, x4⟩, ⟨x5, x6⟩, ⟨x7, x8⟩, ⟨x9, x10⟩, ⟨x11, x12⟩, _⟩ := hb rfl
    clear hb hr2
    simp only [if_true] at FN ⊢
    have FH := Lib.hid FN; clear FN hpv
    have q0 : 0 ≤ (h - 1) / p.elen := Int.ediv_nonneg (by omega) (by omega)
    have q1 : (h - 1) / p.elen ≤ h - 1 := Int.ediv_le_self _ (by omega)
    generalize (h - 1) / p.elen = e at *
    by_cases k1 : e - p.win + 1 ≤ 0
    · have hm : max 0 (e - p.win + 1) = 0 := by omega
      rw [hm]
      go_enter Try.func20, Try.ntmps20
      go_wp2_with (go_at_call 18; refine (FH.out _).mono ?_; rintro e V ⟨rfl, hk⟩; have q3 := par_cell p w V 24 hk 3 (.int .i64 p.win) rfl)
      go_ret2
      exact ⟨rfl, ((Keeps.refl Nob w).alloc _).trans hk⟩
    · have hm : max 0 (e - p.win + 1) = e - p.win + 1 := by omega
      rw [hm]
      go_enter Try.func20, Try.ntmps20
      go_wp2_with (go_at_call 18; refine (FH.out _).mono ?_; rintro e V ⟨rfl, hk⟩; have q3 := par_cell p w V 24 hk 3 (.int .i64 p.win) rfl)
      go_ret2
      exact ⟨rfl, ((Keeps.refl Nob w).alloc _).trans hk⟩
  · have hcd : (er == 0) = false := by simpa using hc
    rw [if_neg hc]
    simp only [if_neg hc] at FN
    have FH := Lib.hid FN; clear FN hpv hb hr2
    go_enter Try.func20, Try.ntmps20
    go_wp2_with (go_at_call 18; refine (FH.out _).mono ?_; rintro e V ⟨rfl, hk⟩)
    go_ret2
    exact ⟨rfl, ((Keeps.refl Nob w).alloc _).trans hk⟩
end Go.Proofs.Ythoaoknggdohpaa
