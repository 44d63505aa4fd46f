/-
  Period: the program's functions (printed by perprog.py). Conditions: none.
-/
import Derived.Test.YthoaoknggdohpaaPerJ
namespace Go.Proofs.Ythoaoknggdohpaa
open Go Go.RowKit Go.Own Go.Shelf


set_option maxRecDepth 100000 in
set_option maxHeartbeats 4000000 in
theorem pEpoch_ok (p : Par) (hp : p.Ok) (h : Int) (hh : i64ok h) (w : World) :
    Calls Try.prog 17 #[p.v, .int .i64 h] w fun e w' => e = .returned (.tuple #[.int .i64 (p.epoch h).1, .int .i64 (p.epoch h).2]) ∧ Keeps Nob w w' := by
  have FN := fun V v hv => good_ok p hp v [h] V (by simp) hv
  have hb := fun hc => p.bounds (p.fine_zero [h] hc).1
  have EP := fun W a b c d => hepoch_ok p h W a b c d
  have hr2 := fun hc => (p.fine_zero [h] hc).2 h (by simp)
  unfold Par.epoch
  generalize p.fine [h] = er at *
  have hpv : p.v = .agg p.cells := rfl
  rw [hpv] at FN EP ⊢
  unfold Par.cells at FN EP ⊢
  have FH := Lib.hid FN; clear FN hpv
  by_cases hc : er = 0
  · subst hc
    obtain ⟨r3, r4⟩ := hr2 rfl
    obtain ⟨⟨x1, x2⟩, ⟨x3, x4⟩, ⟨x5, x6⟩, ⟨x7, x8⟩, ⟨x9, x10⟩, ⟨x11, x12⟩, _⟩ := hb rfl
    have EH := Lib.hid (fun W => EP W r3 r4 x5 x6)
    clear hb EP hr2
    try simp only [if_true, if_pos rfl]
    go_enter Try.func17, Try.ntmps17
    go_wp2_with (first | (go_at_call 33; refine (FH.out _ _ (by have := ints_one (w.alloc (.cells p.cells 24)) h hh.1 hh.2 3; simpa [Par.cells] using this)).mono ?_; rintro e V ⟨rfl, hk⟩) | (go_at_call 37; refine (EH.out _).mono ?_; rintro e V2 ⟨rfl, hk2⟩))
    go_ret2
    exact ⟨rfl, (((((Keeps.refl Nob w).alloc _).alloc _).trans hk).alloc _).trans hk2⟩
  · have hcd : (er == 0) = false := by simpa using hc
    have hce : (er != 0) = true := by simpa using hc
    clear hb EP hr2
    try rw [if_neg hc]
    go_enter Try.func17, Try.ntmps17
    go_wp2_with (first | (go_at_call 33; refine (FH.out _ _ (by have := ints_one (w.alloc (.cells p.cells 24)) h hh.1 hh.2 3; simpa [Par.cells] using this)).mono ?_; rintro e V ⟨rfl, hk⟩))
    go_ret2
    exact ⟨rfl, ((((Keeps.refl Nob w).alloc _).alloc _).trans hk).alloc _⟩

set_option maxRecDepth 100000 in
set_option maxHeartbeats 4000000 in
theorem pUntil_ok (p : Par) (hp : p.Ok) (h : Int) (hh : i64ok h) (w : World) :
    Calls Try.prog 23 #[p.v, .int .i64 h] w fun e w' => e = .returned (.tuple #[.int .i64 (p.until_ h).1, .int .i64 (p.until_ h).2]) ∧ Keeps Nob w w' := by
  have FN := fun V v hv => good_ok p hp v [h] V (by simp) hv
  have hb := fun hc => p.bounds (p.fine_zero [h] hc).1
  have EP := fun W a b c d => hepoch_ok p h W a b c d
  have hr2 := fun hc => (p.fine_zero [h] hc).2 h (by simp)
  unfold Par.until_
  generalize p.fine [h] = er at *
  have hpv : p.v = .agg p.cells := rfl
  rw [hpv] at FN EP ⊢
  unfold Par.cells at FN EP ⊢
  have FH := Lib.hid FN; clear FN hpv
  by_cases hc : er = 0
  · subst hc
    obtain ⟨r3, r4⟩ := hr2 rfl
    obtain ⟨⟨x1, x2⟩, ⟨x3, x4⟩, ⟨x5, x6⟩, ⟨x7, x8⟩, ⟨x9, x10⟩, ⟨x11, x12⟩, _⟩ := hb rfl
    have EH := Lib.hid (fun W => EP W r3 r4 x5 x6)
    clear hb EP hr2
    try simp only [if_true, if_pos rfl]
    go_enter Try.func23, Try.ntmps23
    go_wp2_with (first | (go_at_call 33; refine (FH.out _ _ (by have := ints_one (w.alloc (.cells p.cells 24)) h hh.1 hh.2 3; simpa [Par.cells] using this)).mono ?_; rintro e V ⟨rfl, hk⟩) | (go_at_call 34; refine (up_ok _ _ _ (by omega) (by omega) (by omega) (by omega)).mono ?_; rintro e w' ⟨rfl, rfl⟩))
    go_ret2
    exact ⟨rfl, ((((Keeps.refl Nob w).alloc _).alloc _).trans hk).alloc _⟩
  · have hcd : (er == 0) = false := by simpa using hc
    have hce : (er != 0) = true := by simpa using hc
    clear hb EP hr2
    try rw [if_neg hc]
    go_enter Try.func23, Try.ntmps23
    go_wp2_with (first | (go_at_call 33; refine (FH.out _ _ (by have := ints_one (w.alloc (.cells p.cells 24)) h hh.1 hh.2 3; simpa [Par.cells] using this)).mono ?_; rintro e V ⟨rfl, hk⟩))
    go_ret2
    exact ⟨rfl, ((((Keeps.refl Nob w).alloc _).alloc _).trans hk).alloc _⟩

set_option maxRecDepth 100000 in
set_option maxHeartbeats 4000000 in
theorem pFloor_ok (p : Par) (hp : p.Ok) (h : Int) (hh : i64ok h) (w : World) :
    Calls Try.prog 21 #[p.v, .int .i64 h] w fun e w' => e = .returned (.tuple #[.int .i64 (p.floor h).1, .int .i64 (p.floor h).2]) ∧ Keeps Nob w w' := by
  have FN := fun V v hv => good_ok p hp v [h] V (by simp) hv
  have hb := fun hc => p.bounds (p.fine_zero [h] hc).1
  have EP := fun W a b c d => hepoch_ok p h W a b c d
  have hr2 := fun hc => (p.fine_zero [h] hc).2 h (by simp)
  unfold Par.floor
  generalize p.fine [h] = er at *
  have hpv : p.v = .agg p.cells := rfl
  rw [hpv] at FN EP ⊢
  unfold Par.cells at FN EP ⊢
  have FH := Lib.hid FN; clear FN hpv
  by_cases hc : er = 0
  · subst hc
    obtain ⟨r3, r4⟩ := hr2 rfl
    obtain ⟨⟨x1, x2⟩, ⟨x3, x4⟩, ⟨x5, x6⟩, ⟨x7, x8⟩, ⟨x9, x10⟩, ⟨x11, x12⟩, _⟩ := hb rfl
    have EH := Lib.hid (fun W => EP W r3 r4 x5 x6)
    clear hb EP hr2
    simp only [if_true]
    have m1 : 1 ≤ p.win * p.elen := by have := Int.mul_le_mul x7 x5 (by omega) (by omega); omega
    have m2 : p.win * p.elen ≤ 256000 := by have := Int.mul_le_mul x8 x6 (by omega) (by omega); omega
    by_cases k1 : h - p.win * p.elen + 1 ≤ 1
    · have hm : max 1 (h - p.win * p.elen + 1) = 1 := by omega
      rw [hm]
      go_enter Try.func21, Try.ntmps21
      go_wp2_with (first | (go_at_call 33; refine (FH.out _ _ (by have := ints_one (w.alloc (.cells p.cells 24)) h hh.1 hh.2 3; simpa [Par.cells] using this)).mono ?_; rintro e V ⟨rfl, hk⟩) | (go_at_call 36; refine (down_ok _ _ _ (by omega) (by omega) (by omega) (by omega)).mono ?_; rintro e w' ⟨rfl, rfl⟩))
      go_ret2
      exact ⟨rfl, ((((Keeps.refl Nob w).alloc _).alloc _).trans hk).alloc _⟩
    · have hm : max 1 (h - p.win * p.elen + 1) = h - p.win * p.elen + 1 := by omega
      rw [hm]
      go_enter Try.func21, Try.ntmps21
      go_wp2_with (first | (go_at_call 33; refine (FH.out _ _ (by have := ints_one (w.alloc (.cells p.cells 24)) h hh.1 hh.2 3; simpa [Par.cells] using this)).mono ?_; rintro e V ⟨rfl, hk⟩) | (go_at_call 36; refine (down_ok _ _ _ (by omega) (by omega) (by omega) (by omega)).mono ?_; rintro e w' ⟨rfl, rfl⟩))
      go_ret2
      exact ⟨rfl, ((((Keeps.refl Nob w).alloc _).alloc _).trans hk).alloc _⟩
  · have hcd : (er == 0) = false := by simpa using hc
    have hce : (er != 0) = true := by simpa using hc
    clear hb EP hr2
    try rw [if_neg hc]
    go_enter Try.func21, Try.ntmps21
    go_wp2_with (first | (go_at_call 33; refine (FH.out _ _ (by have := ints_one (w.alloc (.cells p.cells 24)) h hh.1 hh.2 3; simpa [Par.cells] using this)).mono ?_; rintro e V ⟨rfl, hk⟩))
    go_ret2
    exact ⟨rfl, ((((Keeps.refl Nob w).alloc _).alloc _).trans hk).alloc _⟩

set_option maxRecDepth 100000 in
set_option maxHeartbeats 4000000 in
theorem pRipe_ok (p : Par) (hp : p.Ok) (c h : Int) (cc : i64ok c) (hh : i64ok h) (w : World) :
    Calls Try.prog 8 #[p.v, .int .i64 c, .int .i64 h] w fun e w' => e = .returned (.tuple #[.bool (p.ripe c h).1, .int .i64 (p.ripe c h).2]) ∧ Keeps Nob w w' := by
  have FN := fun V v hv => good_ok p hp v [c, h] V (by simp) hv
  have hb := fun hc => p.bounds (p.fine_zero [c, h] hc).1
  have EP := fun W a b c d => hepoch_ok p h W a b c d
  have hr1 := fun hc => (p.fine_zero [c, h] hc).2 c (by simp)
  have hr2 := fun hc => (p.fine_zero [c, h] hc).2 h (by simp)
  unfold Par.ripe
  generalize p.fine [c, h] = er at *
  have hpv : p.v = .agg p.cells := rfl
  rw [hpv] at FN EP ⊢
  unfold Par.cells at FN EP ⊢
  have FH := Lib.hid FN; clear FN hpv
  by_cases hc : er = 0
  · subst hc
    obtain ⟨r1, r2⟩ := hr1 rfl
    obtain ⟨r3, r4⟩ := hr2 rfl
    obtain ⟨⟨x1, x2⟩, ⟨x3, x4⟩, ⟨x5, x6⟩, ⟨x7, x8⟩, ⟨x9, x10⟩, ⟨x11, x12⟩, _⟩ := hb rfl
    have EH := Lib.hid (fun W => EP W r3 r4 x5 x6)
    clear hb EP hr1 hr2
    go_enter Try.func8, Try.ntmps8
    go_wp2_with (first | (go_at_call 33; refine (FH.out _ _ (by have := ints_two (w.alloc (.cells p.cells 24)) c h cc hh 3; simpa [Par.cells] using this)).mono ?_; rintro e V ⟨rfl, hk⟩) | (go_at_call 34; refine (up_ok _ _ _ (by omega) (by omega) (by omega) (by omega)).mono ?_; rintro e w' ⟨rfl, rfl⟩))
    go_ret2
    exact ⟨by simp, ((((Keeps.refl Nob w).alloc _).alloc _).trans hk).alloc _⟩
  · have hcd : (er == 0) = false := by simpa using hc
    have hce : (er != 0) = true := by simpa using hc
    clear hb EP hr1 hr2
    try rw [if_neg hc]
    go_enter Try.func8, Try.ntmps8
    go_wp2_with (first | (go_at_call 33; refine (FH.out _ _ (by have := ints_two (w.alloc (.cells p.cells 24)) c h cc hh 3; simpa [Par.cells] using this)).mono ?_; rintro e V ⟨rfl, hk⟩))
    go_ret2
    exact ⟨by simp [hc], ((((Keeps.refl Nob w).alloc _).alloc _).trans hk).alloc _⟩

set_option maxRecDepth 100000 in
set_option maxHeartbeats 4000000 in
theorem pAlive_ok (p : Par) (hp : p.Ok) (c h : Int) (cc : i64ok c) (hh : i64ok h) (w : World) :
    Calls Try.prog 10 #[p.v, .int .i64 c, .int .i64 h] w fun e w' => e = .returned (.tuple #[.bool (p.alive c h).1, .int .i64 (p.alive c h).2]) ∧ Keeps Nob w w' := by
  have FN := fun V v hv => good_ok p hp v [c, h] V (by simp) hv
  have hb := fun hc => p.bounds (p.fine_zero [c, h] hc).1
  have EP := fun W a b c d => hepoch_ok p h W a b c d
  have hr1 := fun hc => (p.fine_zero [c, h] hc).2 c (by simp)
  have hr2 := fun hc => (p.fine_zero [c, h] hc).2 h (by simp)
  unfold Par.alive
  generalize p.fine [c, h] = er at *
  have hpv : p.v = .agg p.cells := rfl
  rw [hpv] at FN EP ⊢
  unfold Par.cells at FN EP ⊢
  have FH := Lib.hid FN; clear FN hpv
  by_cases hc : er = 0
  · subst hc
    obtain ⟨r1, r2⟩ := hr1 rfl
    obtain ⟨r3, r4⟩ := hr2 rfl
    obtain ⟨⟨x1, x2⟩, ⟨x3, x4⟩, ⟨x5, x6⟩, ⟨x7, x8⟩, ⟨x9, x10⟩, ⟨x11, x12⟩, _⟩ := hb rfl
    have EH := Lib.hid (fun W => EP W r3 r4 x5 x6)
    clear hb EP hr1 hr2
    go_enter Try.func10, Try.ntmps10
    go_wp2_with (first | (go_at_call 33; refine (FH.out _ _ (by have := ints_two (w.alloc (.cells p.cells 24)) c h cc hh 3; simpa [Par.cells] using this)).mono ?_; rintro e V ⟨rfl, hk⟩) | (go_at_call 34; refine (up_ok _ _ _ (by omega) (by omega) (by omega) (by omega)).mono ?_; rintro e w' ⟨rfl, rfl⟩))
    go_ret2
    exact ⟨by simp, ((((Keeps.refl Nob w).alloc _).alloc _).trans hk).alloc _⟩
  · have hcd : (er == 0) = false := by simpa using hc
    have hce : (er != 0) = true := by simpa using hc
    clear hb EP hr1 hr2
    try rw [if_neg hc]
    go_enter Try.func10, Try.ntmps10
    go_wp2_with (first | (go_at_call 33; refine (FH.out _ _ (by have := ints_two (w.alloc (.cells p.cells 24)) c h cc hh 3; simpa [Par.cells] using this)).mono ?_; rintro e V ⟨rfl, hk⟩))
    go_ret2
    exact ⟨by simp [hc], ((((Keeps.refl Nob w).alloc _).alloc _).trans hk).alloc _⟩

set_option maxRecDepth 100000 in
set_option maxHeartbeats 4000000 in
theorem pNoted_ok (p : Par) (hp : p.Ok) (c h : Int) (cc : i64ok c) (hh : i64ok h) (w : World) :
    Calls Try.prog 12 #[p.v, .int .i64 c, .int .i64 h] w fun e w' => e = .returned (.tuple #[.bool (p.noted c h).1, .int .i64 (p.noted c h).2]) ∧ Keeps Nob w w' := by
  have FN := fun V v hv => good_ok p hp v [c, h] V (by simp) hv
  have hb := fun hc => p.bounds (p.fine_zero [c, h] hc).1
  have EP := fun W a b c d => hepoch_ok p h W a b c d
  have hr1 := fun hc => (p.fine_zero [c, h] hc).2 c (by simp)
  have hr2 := fun hc => (p.fine_zero [c, h] hc).2 h (by simp)
  unfold Par.noted
  generalize p.fine [c, h] = er at *
  have hpv : p.v = .agg p.cells := rfl
  rw [hpv] at FN EP ⊢
  unfold Par.cells at FN EP ⊢
  have FH := Lib.hid FN; clear FN hpv
  by_cases hc : er = 0
  · subst hc
    obtain ⟨r1, r2⟩ := hr1 rfl
    obtain ⟨r3, r4⟩ := hr2 rfl
    obtain ⟨⟨x1, x2⟩, ⟨x3, x4⟩, ⟨x5, x6⟩, ⟨x7, x8⟩, ⟨x9, x10⟩, ⟨x11, x12⟩, _⟩ := hb rfl
    have EH := Lib.hid (fun W => EP W r3 r4 x5 x6)
    clear hb EP hr1 hr2
    by_cases k1 : c ≤ h
    · have k1d : decide (c ≤ h) = true := by simpa using k1
      go_enter Try.func12, Try.ntmps12
      go_wp2_with (first | (go_at_call 33; refine (FH.out _ _ (by have := ints_two (w.alloc (.cells p.cells 24)) c h cc hh 3; simpa [Par.cells] using this)).mono ?_; rintro e V ⟨rfl, hk⟩))
      go_quiet ((go_at_call 36; exact Calls.quiet_eq (down_ok _ _ _ (by omega) (by omega) (by omega) (by omega))))
      go_wp2
      go_ret2
      exact ⟨by simp [k1], (((((Keeps.refl Nob w).alloc _).alloc _).trans hk).alloc _).drewN _⟩
    · have k2 : decide (c ≤ h) = false := by simpa using k1
      go_enter Try.func12, Try.ntmps12
      go_wp2_with (first | (go_at_call 33; refine (FH.out _ _ (by have := ints_two (w.alloc (.cells p.cells 24)) c h cc hh 3; simpa [Par.cells] using this)).mono ?_; rintro e V ⟨rfl, hk⟩))
      go_quiet (fail)
      go_wp2
      go_ret2
      exact ⟨by simp [k2], (((((Keeps.refl Nob w).alloc _).alloc _).trans hk).alloc _).drewN _⟩
  · have hcd : (er == 0) = false := by simpa using hc
    have hce : (er != 0) = true := by simpa using hc
    clear hb EP hr1 hr2
    try rw [if_neg hc]
    go_enter Try.func12, Try.ntmps12
    go_wp2_with (first | (go_at_call 33; refine (FH.out _ _ (by have := ints_two (w.alloc (.cells p.cells 24)) c h cc hh 3; simpa [Par.cells] using this)).mono ?_; rintro e V ⟨rfl, hk⟩))
    go_quiet (fail)
    go_wp2
    go_ret2
    exact ⟨by simp [hc], (((((Keeps.refl Nob w).alloc _).alloc _).trans hk).alloc _).drewN _⟩

set_option maxRecDepth 100000 in
set_option maxHeartbeats 4000000 in
theorem pAged_ok (p : Par) (hp : p.Ok) (c h : Int) (cc : i64ok c) (hh : i64ok h) (w : World) :
    Calls Try.prog 14 #[p.v, .int .i64 c, .int .i64 h] w fun e w' => e = .returned (.int .i64 (p.aged c h)) ∧ Keeps Nob w w' := by
  have FN := fun V v hv => good_ok p hp v [c, h] V (by simp) hv
  have hb := fun hc => p.bounds (p.fine_zero [c, h] hc).1
  have EP := fun W a b c d => hepoch_ok p h W a b c d
  have hr1 := fun hc => (p.fine_zero [c, h] hc).2 c (by simp)
  have hr2 := fun hc => (p.fine_zero [c, h] hc).2 h (by simp)
  unfold Par.aged
  generalize p.fine [c, h] = er at *
  have hpv : p.v = .agg p.cells := rfl
  rw [hpv] at FN EP ⊢
  unfold Par.cells at FN EP ⊢
  have FH := Lib.hid FN; clear FN hpv
  by_cases hc : er = 0
  · subst hc
    obtain ⟨r1, r2⟩ := hr1 rfl
    obtain ⟨r3, r4⟩ := hr2 rfl
    obtain ⟨⟨x1, x2⟩, ⟨x3, x4⟩, ⟨x5, x6⟩, ⟨x7, x8⟩, ⟨x9, x10⟩, ⟨x11, x12⟩, _⟩ := hb rfl
    have EH := Lib.hid (fun W => EP W r3 r4 x5 x6)
    clear hb EP hr1 hr2
    rw [if_pos rfl]
    by_cases k1 : h < c
    · rw [if_pos k1]
      go_enter Try.func14, Try.ntmps14
      go_wp2_with (first | (go_at_call 33; refine (FH.out _ _ (by have := ints_two (w.alloc (.cells p.cells 24)) c h cc hh 3; simpa [Par.cells] using this)).mono ?_; rintro e V ⟨rfl, hk⟩))
      go_ret
      exact ⟨rfl, ((((Keeps.refl Nob w).alloc _).alloc _).trans hk).alloc _⟩
    · have k2 : decide (h < c) = false := by simpa using k1
      rw [if_neg k1]
      by_cases k3 : p.mage < h - c
      · rw [if_pos k3]
        go_enter Try.func14, Try.ntmps14
        go_wp2_with (first | (go_at_call 33; refine (FH.out _ _ (by have := ints_two (w.alloc (.cells p.cells 24)) c h cc hh 3; simpa [Par.cells] using this)).mono ?_; rintro e V ⟨rfl, hk⟩))
        go_quiet ((go_at_call 36; exact Calls.quiet_eq (down_ok _ _ _ (by omega) (by omega) (by omega) (by omega))))
        go_wp2
        go_ret
        exact ⟨rfl, (((((Keeps.refl Nob w).alloc _).alloc _).trans hk).alloc _).drewN _⟩
      · have k4 : decide (p.mage < h - c) = false := by simpa using k3
        rw [if_neg k3]
        go_enter Try.func14, Try.ntmps14
        go_wp2_with (first | (go_at_call 33; refine (FH.out _ _ (by have := ints_two (w.alloc (.cells p.cells 24)) c h cc hh 3; simpa [Par.cells] using this)).mono ?_; rintro e V ⟨rfl, hk⟩))
        go_quiet ((go_at_call 36; exact Calls.quiet_eq (down_ok _ _ _ (by omega) (by omega) (by omega) (by omega))))
        go_wp2
        go_ret
        exact ⟨rfl, (((((Keeps.refl Nob w).alloc _).alloc _).trans hk).alloc _).drewN _⟩
  · have hcd : (er == 0) = false := by simpa using hc
    have hce : (er != 0) = true := by simpa using hc
    clear hb EP hr1 hr2
    try rw [if_neg hc]
    go_enter Try.func14, Try.ntmps14
    go_wp2_with (first | (go_at_call 33; refine (FH.out _ _ (by have := ints_two (w.alloc (.cells p.cells 24)) c h cc hh 3; simpa [Par.cells] using this)).mono ?_; rintro e V ⟨rfl, hk⟩))
    go_ret
    exact ⟨rfl, ((((Keeps.refl Nob w).alloc _).alloc _).trans hk).alloc _⟩
end Go.Proofs.Ythoaoknggdohpaa
