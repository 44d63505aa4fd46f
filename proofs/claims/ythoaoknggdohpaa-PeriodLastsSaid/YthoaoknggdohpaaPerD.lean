/-
  Period: the document's other functions (printed by perref.py). Conditions: none.
-/
import Derived.Test.YthoaoknggdohpaaPerC
namespace Go.Proofs.Ythoaoknggdohpaa
open Go Go.RowKit Go.Own Go.Shelf

def Par.noted (p : Par) (g h : Int) : Bool × Int := (decide (p.fine [g, h] = 0) && decide (g ≤ h) && decide (h - g < p.corr), p.fine [g, h])
def Par.aged (p : Par) (g h : Int) : Int := if p.fine [g, h] = 0 then (if h < g then 17 else if p.mage < h - g then 16 else 0) else p.fine [g, h]
def Par.floor (p : Par) (h : Int) : Int × Int := if p.fine [h] = 0 then (max 1 (h - p.win * p.elen + 1), 0) else (0, p.fine [h])

set_option maxHeartbeats 2000000 in
theorem rAlive_ok (p : Par) (hp : p.Ok) (c h : Int) (cc : i64ok c) (hh : i64ok h) (w : World) :
    Calls Try.prog 11 #[p.v, .int .i64 c, .int .i64 h] w fun e w' => e = .returned (.tuple #[.bool (p.alive c h).1, .int .i64 (p.alive c h).2]) ∧ Keeps Nob w w' := by
  have FN := fun V v hv => rfine_ok p hp v [c, h] V (by simp) hv
  have hb := fun hc => p.bounds (p.fine_zero [c, h] hc).1
  have hr1 := fun hc => (p.fine_zero [c, h] hc).2 c (by simp)
  have hr2 := fun hc => (p.fine_zero [c, h] hc).2 h (by simp)
  unfold Par.alive
  generalize p.fine [c, h] = er at *
  have hpv : p.v = .agg p.cells := rfl
  rw [hpv] at FN ⊢
  unfold Par.cells at FN ⊢
  have FH := Lib.hid FN; clear FN hpv
  by_cases hc : er = 0
  · subst hc
    obtain ⟨r1, r2⟩ := hr1 rfl
    obtain ⟨r3, r4⟩ := hr2 rfl
    obtain ⟨⟨x1, x2⟩, ⟨x3, x4⟩, ⟨x5, x6⟩, ⟨x7, x8⟩, ⟨x9, x10⟩, ⟨x11, x12⟩, _⟩ := hb rfl
    clear hb hr1 hr2
    go_enter Try.func11, Try.ntmps11
    go_wp2_with (go_at_call 35; refine (FH.out _ _ (by have := ints_two (w.alloc (.cells p.cells 24)) c h cc hh 3; simpa [Par.cells] using this)).mono ?_; rintro e V ⟨rfl, hk⟩; have q0 := par_cell p w V 24 (((Keeps.refl _ _).alloc _).trans hk) 0 (.int .i64 p.unb) rfl)
    go_ret2
    exact ⟨by simp, (((Keeps.refl Nob w).alloc _).alloc _).trans hk⟩
  · have hcd : (er == 0) = false := by simpa using hc
    have hdd : decide (er = 0) = false := by simpa using hc
    clear hb hr1 hr2
    try rw [if_neg hc]
    go_enter Try.func11, Try.ntmps11
    go_wp2_with (go_at_call 35; refine (FH.out _ _ (by have := ints_two (w.alloc (.cells p.cells 24)) c h cc hh 3; simpa [Par.cells] using this)).mono ?_; rintro e V ⟨rfl, hk⟩)
    go_ret2
    exact ⟨by simp [hc], (((Keeps.refl Nob w).alloc _).alloc _).trans hk⟩

set_option maxHeartbeats 2000000 in
theorem rNoted_ok (p : Par) (hp : p.Ok) (c h : Int) (cc : i64ok c) (hh : i64ok h) (w : World) :
    Calls Try.prog 13 #[p.v, .int .i64 c, .int .i64 h] w fun e w' => e = .returned (.tuple #[.bool (p.noted c h).1, .int .i64 (p.noted c h).2]) ∧ Keeps Nob w w' := by
  have FN := fun V v hv => rfine_ok p hp v [c, h] V (by simp) hv
  have hb := fun hc => p.bounds (p.fine_zero [c, h] hc).1
  have hr1 := fun hc => (p.fine_zero [c, h] hc).2 c (by simp)
  have hr2 := fun hc => (p.fine_zero [c, h] hc).2 h (by simp)
  unfold Par.noted
  generalize p.fine [c, h] = er at *
  have hpv : p.v = .agg p.cells := rfl
  rw [hpv] at FN ⊢
  unfold Par.cells at FN ⊢
  have FH := Lib.hid FN; clear FN hpv
  by_cases hc : er = 0
  · subst hc
    obtain ⟨r1, r2⟩ := hr1 rfl
    obtain ⟨r3, r4⟩ := hr2 rfl
    obtain ⟨⟨x1, x2⟩, ⟨x3, x4⟩, ⟨x5, x6⟩, ⟨x7, x8⟩, ⟨x9, x10⟩, ⟨x11, x12⟩, _⟩ := hb rfl
    clear hb hr1 hr2
    by_cases k1 : c ≤ h
    · skip
      go_enter Try.func13, Try.ntmps13
      go_wp2_with (go_at_call 35; refine (FH.out _ _ (by have := ints_two (w.alloc (.cells p.cells 24)) c h cc hh 3; simpa [Par.cells] using this)).mono ?_; rintro e V ⟨rfl, hk⟩; have q9 := par_cell p w V 24 (((Keeps.refl _ _).alloc _).trans hk) 9 (.int .i64 p.corr) rfl)
      go_ret2
      exact ⟨by simp [k1], (((Keeps.refl Nob w).alloc _).alloc _).trans hk⟩
    · have k2 : decide (c ≤ h) = false := by simpa using k1
      go_enter Try.func13, Try.ntmps13
      go_wp2_with (go_at_call 35; refine (FH.out _ _ (by have := ints_two (w.alloc (.cells p.cells 24)) c h cc hh 3; simpa [Par.cells] using this)).mono ?_; rintro e V ⟨rfl, hk⟩)
      go_ret2
      exact ⟨by simp [k2], (((Keeps.refl Nob w).alloc _).alloc _).trans hk⟩
  · have hcd : (er == 0) = false := by simpa using hc
    have hdd : decide (er = 0) = false := by simpa using hc
    clear hb hr1 hr2
    try rw [if_neg hc]
    go_enter Try.func13, Try.ntmps13
    go_wp2_with (go_at_call 35; refine (FH.out _ _ (by have := ints_two (w.alloc (.cells p.cells 24)) c h cc hh 3; simpa [Par.cells] using this)).mono ?_; rintro e V ⟨rfl, hk⟩)
    go_ret2
    exact ⟨by simp [hc], (((Keeps.refl Nob w).alloc _).alloc _).trans hk⟩

set_option maxHeartbeats 2000000 in
theorem rAged_ok (p : Par) (hp : p.Ok) (c h : Int) (cc : i64ok c) (hh : i64ok h) (w : World) :
    Calls Try.prog 15 #[p.v, .int .i64 c, .int .i64 h] w fun e w' => e = .returned (.int .i64 (p.aged c h)) ∧ Keeps Nob w w' := by
  have FN := fun V v hv => rfine_ok p hp v [c, h] V (by simp) hv
  have hb := fun hc => p.bounds (p.fine_zero [c, h] hc).1
  have hr1 := fun hc => (p.fine_zero [c, h] hc).2 c (by simp)
  have hr2 := fun hc => (p.fine_zero [c, h] hc).2 h (by simp)
  unfold Par.aged
  generalize p.fine [c, h] = er at *
  have hpv : p.v = .agg p.cells := rfl
  rw [hpv] at FN ⊢
  unfold Par.cells at FN ⊢
  have FH := Lib.hid FN; clear FN hpv
  by_cases hc : er = 0
  · subst hc
    obtain ⟨r1, r2⟩ := hr1 rfl
    obtain ⟨r3, r4⟩ := hr2 rfl
    obtain ⟨⟨x1, x2⟩, ⟨x3, x4⟩, ⟨x5, x6⟩, ⟨x7, x8⟩, ⟨x9, x10⟩, ⟨x11, x12⟩, _⟩ := hb rfl
    clear hb hr1 hr2
    rw [if_pos rfl]
    by_cases k1 : h < c
    · rw [if_pos k1]
      go_enter Try.func15, Try.ntmps15
      go_wp2_with (go_at_call 35; refine (FH.out _ _ (by have := ints_two (w.alloc (.cells p.cells 24)) c h cc hh 3; simpa [Par.cells] using this)).mono ?_; rintro e V ⟨rfl, hk⟩)
      go_ret
      exact ⟨rfl, (((Keeps.refl Nob w).alloc _).alloc _).trans hk⟩
    · have k2 : decide (h < c) = false := by simpa using k1
      rw [if_neg k1]
      by_cases k3 : p.mage < h - c
      · rw [if_pos k3]
        go_enter Try.func15, Try.ntmps15
        go_wp2_with (go_at_call 35; refine (FH.out _ _ (by have := ints_two (w.alloc (.cells p.cells 24)) c h cc hh 3; simpa [Par.cells] using this)).mono ?_; rintro e V ⟨rfl, hk⟩; have q1 := par_cell p w V 24 (((Keeps.refl _ _).alloc _).trans hk) 1 (.int .i64 p.mage) rfl)
        go_ret
        exact ⟨rfl, (((Keeps.refl Nob w).alloc _).alloc _).trans hk⟩
      · have k4 : decide (p.mage < h - c) = false := by simpa using k3
        rw [if_neg k3]
        go_enter Try.func15, Try.ntmps15
        go_wp2_with (go_at_call 35; refine (FH.out _ _ (by have := ints_two (w.alloc (.cells p.cells 24)) c h cc hh 3; simpa [Par.cells] using this)).mono ?_; rintro e V ⟨rfl, hk⟩; have q1 := par_cell p w V 24 (((Keeps.refl _ _).alloc _).trans hk) 1 (.int .i64 p.mage) rfl)
        go_ret
        exact ⟨rfl, (((Keeps.refl Nob w).alloc _).alloc _).trans hk⟩
  · have hcd : (er == 0) = false := by simpa using hc
    have hdd : decide (er = 0) = false := by simpa using hc
    clear hb hr1 hr2
    try rw [if_neg hc]
    go_enter Try.func15, Try.ntmps15
    go_wp2_with (go_at_call 35; refine (FH.out _ _ (by have := ints_two (w.alloc (.cells p.cells 24)) c h cc hh 3; simpa [Par.cells] using this)).mono ?_; rintro e V ⟨rfl, hk⟩)
    go_ret
    exact ⟨rfl, (((Keeps.refl Nob w).alloc _).alloc _).trans hk⟩

set_option maxHeartbeats 2000000 in
theorem rFloor_ok (p : Par) (hp : p.Ok) (h : Int) (hh : i64ok h) (w : World) :
    Calls Try.prog 22 #[p.v, .int .i64 h] w fun e w' => e = .returned (.tuple #[.int .i64 (p.floor h).1, .int .i64 (p.floor h).2]) ∧ Keeps Nob w w' := by
  have FN := fun V v hv => rfine_ok p hp v [h] V (by simp) hv
  have hb := fun hc => p.bounds (p.fine_zero [h] hc).1
  have hr2 := fun hc => (p.fine_zero [h] hc).2 h (by simp)
  unfold Par.floor
  generalize p.fine [h] = er at *
  have hpv : p.v = .agg p.cells := rfl
  rw [hpv] at FN ⊢
  unfold Par.cells at FN ⊢
  have FH := Lib.hid FN; clear FN hpv
  by_cases hc : er = 0
  · subst hc
    obtain ⟨r3, r4⟩ := hr2 rfl
    obtain ⟨⟨x1, x2⟩, ⟨x3, x4⟩, ⟨x5, x6⟩, ⟨x7, x8⟩, ⟨x9, x10⟩, ⟨x11, x12⟩, _⟩ := hb rfl
    clear hb hr2
    simp only [if_true]
    have m1 : 1 ≤ p.win * p.elen := by have := Int.mul_le_mul x7 x5 (by omega) (by omega); omega
    have m2 : p.win * p.elen ≤ 256000 := by have := Int.mul_le_mul x8 x6 (by omega) (by omega); omega
    by_cases k1 : h - p.win * p.elen + 1 ≤ 1
    · have hm : max 1 (h - p.win * p.elen + 1) = 1 := by omega
      rw [hm]
      go_enter Try.func22, Try.ntmps22
      go_wp2_with (go_at_call 35; refine (FH.out _ _ (by have := ints_one (w.alloc (.cells p.cells 24)) h hh.1 hh.2 3; simpa [Par.cells] using this)).mono ?_; rintro e V ⟨rfl, hk⟩; have q3 := par_cell p w V 24 (((Keeps.refl _ _).alloc _).trans hk) 3 (.int .i64 p.win) rfl; have q2 := par_cell p w V 24 (((Keeps.refl _ _).alloc _).trans hk) 2 (.int .i64 p.elen) rfl)
      go_ret2
      exact ⟨rfl, (((Keeps.refl Nob w).alloc _).alloc _).trans hk⟩
    · have hm : max 1 (h - p.win * p.elen + 1) = h - p.win * p.elen + 1 := by omega
      rw [hm]
      go_enter Try.func22, Try.ntmps22
      go_wp2_with (go_at_call 35; refine (FH.out _ _ (by have := ints_one (w.alloc (.cells p.cells 24)) h hh.1 hh.2 3; simpa [Par.cells] using this)).mono ?_; rintro e V ⟨rfl, hk⟩; have q3 := par_cell p w V 24 (((Keeps.refl _ _).alloc _).trans hk) 3 (.int .i64 p.win) rfl; have q2 := par_cell p w V 24 (((Keeps.refl _ _).alloc _).trans hk) 2 (.int .i64 p.elen) rfl)
      go_ret2
      exact ⟨rfl, (((Keeps.refl Nob w).alloc _).alloc _).trans hk⟩
  · have hcd : (er == 0) = false := by simpa using hc
    have hdd : decide (er = 0) = false := by simpa using hc
    clear hb hr2
    try rw [if_neg hc]
    go_enter Try.func22, Try.ntmps22
    go_wp2_with (go_at_call 35; refine (FH.out _ _ (by have := ints_one (w.alloc (.cells p.cells 24)) h hh.1 hh.2 3; simpa [Par.cells] using this)).mono ?_; rintro e V ⟨rfl, hk⟩)
    go_ret2
    exact ⟨rfl, (((Keeps.refl Nob w).alloc _).alloc _).trans hk⟩
end Go.Proofs.Ythoaoknggdohpaa
