/-
  Period: what is told, as plain law; the document's functions. Conditions: none.
-/
import Derived.Test.YthoaoknggdohpaaPerA
namespace Go.Proofs.Ythoaoknggdohpaa
open Go Go.RowKit Go.Own Go.Shelf

/-- What good params are. -/
theorem Par.bounds (p : Par) (h : p.check.1 = 0) : (1 ≤ p.unb ∧ p.unb ≤ 1048576) ∧ (0 ≤ p.mage ∧ p.mage ≤ 1048576) ∧ (1 ≤ p.elen ∧ p.elen ≤ 1000) ∧ (1 ≤ p.win ∧ p.win ≤ 256) ∧ (1 ≤ p.jail ∧ p.jail ≤ 1048576) ∧ (1 ≤ p.corr ∧ p.corr ≤ 1048576) ∧ p.mage ≤ p.unb := by
  unfold Par.check at h
  split at h
  · simp at h
  · rename_i hn
    rw [List.find?_eq_none] at hn
    have g : ∀ i, i < 11 → p.good i := fun i hi => by simpa using hn i (by simpa using hi)
    have g0 := g 0 (by omega); have g1 := g 1 (by omega); have g2 := g 2 (by omega); have g3 := g 3 (by omega); have g6 := g 6 (by omega); have g9 := g 9 (by omega)
    simp [Par.good, parLo, parHi, Par.l] at g0 g1 g2 g3 g6 g9
    refine ⟨g0, g1, g2, g3, g6, g9, ?_⟩
    split at h
    · simp at h
    · omega
theorem Par.fine_zero (p : Par) (l : List Int) (h : p.fine l = 0) : p.check.1 = 0 ∧ ∀ x ∈ l, hOk x := by
  unfold Par.fine at h
  split at h
  · rename_i hc
    refine ⟨hc, ?_⟩
    split at h
    · rename_i ha
      rw [List.all_eq_true] at ha
      intro x hx; simpa using ha x hx
    · simp at h
  · rename_i hc; exact absurd h hc

def Par.epoch (p : Par) (h : Int) : Int × Int := if p.fine [h] = 0 then ((h - 1) / p.elen, 0) else (0, p.fine [h])

theorem ints_one (w : World) (x : Int) (b1 : -9223372036854775808 ≤ x) (b2 : x ≤ 9223372036854775807) (t : TypeId) : IntsAt (w.alloc (.cells #[.int .i64 x] t)) (.slice (some ⟨w.heap.size, 0, none⟩) 1 1) [x] :=
  ⟨⟨_, _, rfl⟩, fun k y hk => by
    match k, hk with
    | 0, hk => simp at hk; subst hk; exact ⟨b1, b2, _, _, _, rfl, by simp, (World.cell?_alloc_at _ _ _ _ rfl).trans rfl⟩⟩
theorem ints_two (w : World) (x z : Int) (b1 : i64ok x) (b2 : i64ok z) (t : TypeId) : IntsAt (w.alloc (.cells #[.int .i64 x, .int .i64 z] t)) (.slice (some ⟨w.heap.size, 0, none⟩) 2 2) [x, z] :=
  ⟨⟨_, _, rfl⟩, fun k y hk => by
    match k, hk with
    | 0, hk => simp at hk; subst hk; exact ⟨b1.1, b1.2, _, _, _, rfl, by simp, (World.cell?_alloc_at _ _ _ _ rfl).trans rfl⟩
    | 1, hk => simp at hk; subst hk; exact ⟨b2.1, b2.2, _, _, _, rfl, by simp, (World.cell?_alloc_at _ _ _ _ rfl).trans rfl⟩⟩

theorem par_cell (p : Par) (w w' : World) (t : TypeId) (hk : Keeps Nob (w.alloc (.cells p.cells t)) w') (i : Nat) (x : Value) (hx : p.cells[i]? = some x) : w'.cell? ⟨w.heap.size, i, none⟩ = some x :=
  (hk.cell (by simp) (fun x => x)).trans ((World.cell?_alloc_at _ _ _ _ rfl).trans hx)

set_option maxHeartbeats 1000000 in
theorem rEpoch_ok (p : Par) (hp : p.Ok) (h : Int) (hh : i64ok h) (w : World) :
    Calls Try.prog 18 #[p.v, .int .i64 h] w fun e w' => e = .returned (.tuple #[.int .i64 (p.epoch h).1, .int .i64 (p.epoch h).2]) ∧ Keeps Nob w w' := by
  have FN := fun V v hv => rfine_ok p hp v [h] V (by simp) hv
  have hb := fun hc => p.bounds (p.fine_zero [h] hc).1
  have hr := fun hc => (p.fine_zero [h] hc).2 h (by simp)
  unfold Par.epoch
  generalize p.fine [h] = er at *
  have hpv : p.v = .agg p.cells := rfl
  rw [hpv] at FN ⊢
  unfold Par.cells at FN ⊢
  have FH := Lib.hid FN; clear FN hpv
  obtain ⟨hh1, hh2⟩ := hh
  by_cases hc : er = 0
  · subst hc
    obtain ⟨_, _, ⟨e1, e2⟩, _⟩ := hb rfl
    obtain ⟨r1, r2⟩ := hr rfl
    clear hb hr
    have hne : p.elen ≠ 0 := by omega
    have hq0 : 0 ≤ (h - 1) / p.elen := Int.ediv_nonneg (by omega) (by omega)
    have hq1 : (h - 1) / p.elen ≤ h - 1 := Int.ediv_le_self _ (by omega)
    try simp only [if_true, if_pos rfl]
    go_enter Try.func18, Try.ntmps18
    go_wp2_with (go_at_call 35; refine (FH.out _ _ (by have := ints_one (w.alloc (.cells p.cells 24)) h hh1 hh2 3; simpa [Par.cells] using this)).mono ?_; rintro e V ⟨rfl, hk⟩; have q2 := par_cell p w V 24 (((Keeps.refl _ _).alloc _).trans hk) 2 (.int .i64 p.elen) rfl)
    go_ret2
    exact ⟨rfl, (((Keeps.refl Nob w).alloc _).alloc _).trans hk⟩
  · have hcd : (er == 0) = false := by simpa using hc
    rw [if_neg hc]
    clear hb hr
    go_enter Try.func18, Try.ntmps18
    go_wp2_with (go_at_call 35; refine (FH.out _ _ (by have := ints_one (w.alloc (.cells p.cells 24)) h hh1 hh2 3; simpa [Par.cells] using this)).mono ?_; rintro e V ⟨rfl, hk⟩)
    go_ret2
    exact ⟨rfl, (((Keeps.refl Nob w).alloc _).alloc _).trans hk⟩
end Go.Proofs.Ythoaoknggdohpaa
