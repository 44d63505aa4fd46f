/-
  The document's params: bounds and numbers. Conditions: none.
-/
import Derived.Test.YtpflmldmbpnllaaDoorParB
namespace Go.Proofs.YtpflmldmbpnllaaDoor
open Go Go.RowKit Go.Own Go.Shelf

/-- Eleven params. -/
structure Par where
  (unb mage elen win ent act jail base mult corr rew : Int)
def Par.cells (p : Par) : Array Value := #[.int .i64 p.unb, .int .i64 p.mage, .int .i64 p.elen, .int .i64 p.win, .int .i64 p.ent, .int .i64 p.act, .int .i64 p.jail, .int .u64 p.base, .int .u64 p.mult, .int .i64 p.corr, .int .u64 p.rew]
def Par.v (p : Par) : Value := .agg p.cells
def i64ok (x : Int) : Prop := -9223372036854775808 ≤ x ∧ x ≤ 9223372036854775807
def u64ok (x : Int) : Prop := 0 ≤ x ∧ x ≤ 18446744073709551615
structure Par.Ok (p : Par) : Prop where
  unb : i64ok p.unb
  mage : i64ok p.mage
  elen : i64ok p.elen
  win : i64ok p.win
  ent : i64ok p.ent
  act : i64ok p.act
  jail : i64ok p.jail
  base : u64ok p.base
  mult : u64ok p.mult
  corr : i64ok p.corr
  rew : u64ok p.rew

/-- Its numbers, bounds. -/
def Par.l (p : Par) : List Int := [p.unb, p.mage, p.elen, p.win, p.ent, p.act, p.jail, p.base, p.mult, p.corr, p.rew]
def parLo : List Int := [1, 0, 1, 1, 1, 1, 1, 0, 0, 1, 0]
def parHi : List Int := [1048576, 1048576, 1000, 256, 16, 32, 1048576, 1000000000, 1000, 1048576, 1000000000]
def Par.good (p : Par) (i : Nat) : Prop := parLo[i]?.getD 0 ≤ p.l[i]?.getD 0 ∧ p.l[i]?.getD 0 ≤ parHi[i]?.getD 0
instance (p : Par) (i : Nat) : Decidable (p.good i) := by unfold Par.good; infer_instance
/-- What Check tells. -/
def Par.check (p : Par) : Int × Int := match (List.range 11).find? (fun i => decide (¬ p.good i)) with | some i => (3, i) | none => if p.unb < p.mage then (9, 1) else (0, 0)
theorem Par.check_bad (p : Par) (i : Nat) (hi : i < 11) (h : ∀ j, j < i → p.good j) (hb : ¬ p.good i) : p.check = (3, (i : Int)) := by
  have : (List.range 11).find? (fun i => decide (¬ p.good i)) = some i := by
    rw [List.find?_range_eq_some]
    exact ⟨by simpa using hb, by simpa using hi, fun j hj => by simpa using h j hj⟩
  unfold Par.check; rw [this]
theorem Par.check_good (p : Par) (h : ∀ j, j < 11 → p.good j) : p.check = if p.unb < p.mage then (9, 1) else (0, 0) := by
  have : (List.range 11).find? (fun i => decide (¬ p.good i)) = none := by
    rw [List.find?_eq_none]
    intro j hj
    simpa using h j (by simpa using hj)
  unfold Par.check; rw [this]

/-- What the reference's numbers are: words are cut at 1 << 40. -/
def Par.r (p : Par) : List Int := [p.unb, p.mage, p.elen, p.win, p.ent, p.act, p.jail, min p.base 1099511627776, min p.mult 1099511627776, p.corr, min p.rew 1099511627776]
theorem Par.good_r (p : Par) (i : Nat) (hi : i < 11) : p.good i ↔ parLo[i]?.getD 0 ≤ p.r[i]?.getD 0 ∧ p.r[i]?.getD 0 ≤ parHi[i]?.getD 0 := by
  have h : i = 0 ∨ i = 1 ∨ i = 2 ∨ i = 3 ∨ i = 4 ∨ i = 5 ∨ i = 6 ∨ i = 7 ∨ i = 8 ∨ i = 9 ∨ i = 10 := by omega
  rcases h with rfl | rfl | rfl | rfl | rfl | rfl | rfl | rfl | rfl | rfl | rfl <;> simp [Par.good, Par.l, Par.r, parLo, parHi] <;> omega

theorem least_ok (w : World) : Calls Tryd.prog 61 #[] w fun e w' => ∃ cap, e = .returned (.slice (some ⟨w.heap.size, 0, none⟩) 11 cap) ∧ (∀ i : Nat, i < 11 → w'.cell? ⟨w.heap.size, i, none⟩ = some (.int .i64 (parLo[i]?.getD 0))) ∧ Keeps Nob w w' ∧ w.heap.size < w'.heap.size := by
  go_enter Tryd.func61, Tryd.ntmps61
  go_wp2
  go_ret
  refine ⟨_, rfl, fun i hi => ?_, (Keeps.refl _ _).alloc _, by simp⟩
  refine (World.cell?_alloc_at _ _ _ _ rfl).trans ?_
  have h : i = 0 ∨ i = 1 ∨ i = 2 ∨ i = 3 ∨ i = 4 ∨ i = 5 ∨ i = 6 ∨ i = 7 ∨ i = 8 ∨ i = 9 ∨ i = 10 := by omega
  rcases h with rfl | rfl | rfl | rfl | rfl | rfl | rfl | rfl | rfl | rfl | rfl <;> rfl
theorem most_ok (w : World) : Calls Tryd.prog 62 #[] w fun e w' => ∃ cap, e = .returned (.slice (some ⟨w.heap.size, 0, none⟩) 11 cap) ∧ (∀ i : Nat, i < 11 → w'.cell? ⟨w.heap.size, i, none⟩ = some (.int .i64 (parHi[i]?.getD 0))) ∧ Keeps Nob w w' ∧ w.heap.size < w'.heap.size := by
  go_enter Tryd.func62, Tryd.ntmps62
  go_wp2
  go_ret
  refine ⟨_, rfl, fun i hi => ?_, (Keeps.refl _ _).alloc _, by simp⟩
  refine (World.cell?_alloc_at _ _ _ _ rfl).trans ?_
  have h : i = 0 ∨ i = 1 ∨ i = 2 ∨ i = 3 ∨ i = 4 ∨ i = 5 ∨ i = 6 ∨ i = 7 ∨ i = 8 ∨ i = 9 ∨ i = 10 := by omega
  rcases h with rfl | rfl | rfl | rfl | rfl | rfl | rfl | rfl | rfl | rfl | rfl <;> rfl
end Go.Proofs.YtpflmldmbpnllaaDoor
