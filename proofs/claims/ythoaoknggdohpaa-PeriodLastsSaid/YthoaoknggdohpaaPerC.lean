/-
  Period: the document's functions of two heights. Conditions: none.
-/
import Derived.Test.YthoaoknggdohpaaPerB
namespace Go.Proofs.Ythoaoknggdohpaa
open Go Go.RowKit Go.Own Go.Shelf

def Par.until_ (p : Par) (h : Int) : Int × Int := if p.fine [h] = 0 then (h + p.jail, 0) else (0, p.fine [h])
def Par.ripe (p : Par) (c h : Int) : Bool × Int := (decide (p.fine [c, h] = 0) && decide (c + p.unb ≤ h), p.fine [c, h])
def Par.alive (p : Par) (c h : Int) : Bool × Int := (decide (p.fine [c, h] = 0) && decide (h ≤ c + p.unb), p.fine [c, h])

set_option maxHeartbeats 1000000 in
theorem rUntil_ok (p : Par) (hp : p.Ok) (h : Int) (hh : i64ok h) (w : World) :
    Calls Try.prog 24 #[p.v, .int .i64 h] w fun e w' => e = .returned (.tuple #[.int .i64 (p.until_ h).1, .int .i64 (p.until_ h).2]) ∧ Keeps Nob w w' := by
  have FN := fun V v hv => rfine_ok p hp v [h] V (by simp) hv
  have hb := fun hc => p.bounds (p.fine_zero [h] hc).1
  have hr := fun hc => (p.fine_zero [h] hc).2 h (by simp)
  unfold Par.until_
  generalize p.fine [h] = er at *
  have hpv : p.v = .agg p.cells := rfl
  rw [hpv] at FN ⊢
  unfold Par.cells at FN ⊢
  have FH := Lib.hid FN; clear FN hpv
  obtain ⟨hh1, hh2⟩ := hh
  by_cases hc : er = 0
  · subst hc
    obtain ⟨_, _, _, _, ⟨e1, e2⟩, _⟩ := hb rfl
    obtain ⟨r1, r2⟩ := hr rfl
    clear hb hr
    try simp only [if_true, if_pos rfl]
    go_enter Try.func24, Try.ntmps24
    go_wp2_with (go_at_call 35; refine (FH.out _ _ (by have := ints_one (w.alloc (.cells p.cells 24)) h hh1 hh2 3; simpa [Par.cells] using this)).mono ?_; rintro e V ⟨rfl, hk⟩; have q2 := par_cell p w V 24 (((Keeps.refl _ _).alloc _).trans hk) 6 (.int .i64 p.jail) rfl)
    go_ret2
    exact ⟨rfl, (((Keeps.refl Nob w).alloc _).alloc _).trans hk⟩
  · have hcd : (er == 0) = false := by simpa using hc
    rw [if_neg hc]
    clear hb hr
    go_enter Try.func24, Try.ntmps24
    go_wp2_with (go_at_call 35; refine (FH.out _ _ (by have := ints_one (w.alloc (.cells p.cells 24)) h hh1 hh2 3; simpa [Par.cells] using this)).mono ?_; rintro e V ⟨rfl, hk⟩)
    go_ret2
    exact ⟨rfl, (((Keeps.refl Nob w).alloc _).alloc _).trans hk⟩

set_option maxHeartbeats 1000000 in
theorem rRipe_ok (p : Par) (hp : p.Ok) (c h : Int) (cc : i64ok c) (hh : i64ok h) (w : World) :
    Calls Try.prog 9 #[p.v, .int .i64 c, .int .i64 h] w fun e w' => e = .returned (.tuple #[.bool (p.ripe c h).1, .int .i64 (p.ripe c h).2]) ∧ Keeps Nob w w' := by
  have FN := fun V v hv => rfine_ok p hp v [c, h] V (by simp) hv
  have hb := fun hc => p.bounds (p.fine_zero [c, h] hc).1
  have hr1 := fun hc => (p.fine_zero [c, h] hc).2 c (by simp)
  have hr2 := fun hc => (p.fine_zero [c, h] hc).2 h (by simp)
  unfold Par.ripe
  generalize p.fine [c, h] = er at *
  have hpv : p.v = .agg p.cells := rfl
  rw [hpv] at FN ⊢
  unfold Par.cells at FN ⊢
  have FH := Lib.hid FN; clear FN hpv
  by_cases hc : er = 0
  · subst hc
    obtain ⟨⟨e1, e2⟩, _⟩ := hb rfl
    obtain ⟨r1, r2⟩ := hr1 rfl
    obtain ⟨r3, r4⟩ := hr2 rfl
    clear hb hr1 hr2
    go_enter Try.func9, Try.ntmps9
    go_wp2_with (go_at_call 35; refine (FH.out _ _ (by have := ints_two (w.alloc (.cells p.cells 24)) c h cc hh 3; simpa [Par.cells] using this)).mono ?_; rintro e V ⟨rfl, hk⟩; have q2 := par_cell p w V 24 (((Keeps.refl _ _).alloc _).trans hk) 0 (.int .i64 p.unb) rfl)
    go_ret2
    exact ⟨by simp, (((Keeps.refl Nob w).alloc _).alloc _).trans hk⟩
  · have hcd : (er == 0) = false := by simpa using hc
    have hdd : decide (er = 0) = false := by simpa using hc
    clear hb hr1 hr2
    go_enter Try.func9, Try.ntmps9
    go_wp2_with (go_at_call 35; refine (FH.out _ _ (by have := ints_two (w.alloc (.cells p.cells 24)) c h cc hh 3; simpa [Par.cells] using this)).mono ?_; rintro e V ⟨rfl, hk⟩)
    go_ret2
    exact ⟨by simp [hc], (((Keeps.refl Nob w).alloc _).alloc _).trans hk⟩
end Go.Proofs.Ythoaoknggdohpaa
