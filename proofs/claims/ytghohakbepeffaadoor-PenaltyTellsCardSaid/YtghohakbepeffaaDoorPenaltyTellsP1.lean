import Derived.WalkKit
import Derived.WalkSpells
import Derived.WalkLawsBesides
import Derived.Deep.QuietTactic
import Derived.BigQuiet
import Derived.BigRegion
import Derived.Test.YtghohakbepeffaaDoorRows
import Derived.RangeFuncRecord
import Derived.Deep.WholeRow
import Derived.Shelf.RegionOpen
import Derived.Lib.Hide
import Derived.Deep.LoopGhost
namespace Go.Own
open Go Go.RowKit
/-- Of the blocks that were there, those outside M are as they were; none has gone. -/
structure Keeps (M : Nat → Prop) (w w' : World) : Prop where
  os : w'.os = w.os
  tape : w'.tape = w.tape
  output : w'.output = w.output
  size : w.heap.size ≤ w'.heap.size
  block : ∀ k, k < w.heap.size → ¬ M k → w'.heap[k]? = w.heap[k]?
/-- No block that was there is turned. -/
def Nob : Nat → Prop := fun _ => False
/-- One block alone. -/
def One (b : Nat) : Nat → Prop := fun k => k = b
theorem Keeps.refl (M : Nat → Prop) (w : World) : Keeps M w w := ⟨rfl, rfl, rfl, Nat.le_refl _, fun _ _ _ => rfl⟩
theorem Keeps.trans {M : Nat → Prop} {a b c : World} (h : Keeps M a b) (k : Keeps M b c) : Keeps M a c :=
  ⟨k.os.trans h.os, k.tape.trans h.tape, k.output.trans h.output, Nat.le_trans h.size k.size,
    fun i hi hm => (k.block i (Nat.lt_of_lt_of_le hi h.size) hm).trans (h.block i hi hm)⟩
theorem Keeps.mono {M M' : Nat → Prop} {w w' : World} (h : Keeps M w w') (hm : ∀ k, k < w.heap.size → M k → M' k) : Keeps M' w w' :=
  ⟨h.os, h.tape, h.output, h.size, fun k hk hn => h.block k hk (fun x => hn (hm k hk x))⟩
theorem Keeps.drew {M : Nat → Prop} {a w : World} (h : Keeps M a w) : Keeps M a w.drew := ⟨h.os, h.tape, h.output, h.size, h.block⟩
theorem Keeps.drewN {M : Nat → Prop} {a w : World} (n : Nat) (h : Keeps M a w) : Keeps M a (w.drewN n) := ⟨h.os, h.tape, h.output, h.size, h.block⟩
theorem Keeps.alloc {M : Nat → Prop} {a w : World} (h : Keeps M a w) (o : Obj) : Keeps M a (w.alloc o) :=
  ⟨h.os, h.tape, h.output, by have := h.size; simp; omega, fun k hk hm => (Below.heap_alloc w o k (Nat.lt_of_lt_of_le hk h.size)).trans (h.block k hk hm)⟩
theorem Keeps.setCell {M : Nat → Prop} {a w : World} (h : Keeps M a w) {p : Addr} (hp : p.block < a.heap.size → M p.block) (u : Value) : Keeps M a (w.setCell p u) :=
  ⟨h.os, h.tape, h.output, by have := h.size; simp; omega, fun k hk hm => (Below.heap_setCell w p u k (fun e => hm (e ▸ hp (e ▸ hk)))).trans (h.block k hk hm)⟩
theorem Keeps.setOne {b i : Nat} {a w : World} (h : Keeps (One b) a w) (u : Value) : Keeps (One b) a (w.setCell ⟨b, i, none⟩ u) := h.setCell (p := ⟨b, i, none⟩) (fun _ => rfl) u
theorem Keeps.setRow {M : Nat → Prop} {a w : World} (h : Keeps M a w) {g : Nat} (hg : g < a.heap.size → M g) (cs : Array Value) : Keeps M a (w.setRow g cs) :=
  ⟨h.os, h.tape, h.output, by have := h.size; simp; omega, fun k hk hm => (setRow_other w g k cs (fun e => hm (e ▸ hg (e ▸ hk)))).trans (h.block k hk hm)⟩
theorem Keeps.cell {M : Nat → Prop} {w w' : World} (h : Keeps M w w') {k i : Nat} (hk : k < w.heap.size) (hm : ¬ M k) : w'.cell? ⟨k, i, none⟩ = w.cell? ⟨k, i, none⟩ :=
  World.cell?_of_block (w := w) (h.block k hk hm)
theorem Keeps.frozen {M : Nat → Prop} {w w' : World} (h : Keeps M w w') {k i : Nat} (hk : k < w.heap.size) (hm : ¬ M k) : w'.frozen? ⟨k, i, none⟩ = w.frozen? ⟨k, i, none⟩ :=
  World.frozen?_of_block (w := w) (h.block k hk hm)
theorem Keeps.below {M : Nat → Prop} {w w' : World} {B : Nat} (h : Keeps M w w') (hB : B ≤ w.heap.size) (hm : ∀ k, k < B → ¬ M k) : Below B w w' :=
  ⟨h.os, h.tape, h.output, h.size, fun k hk => h.block k (Nat.lt_of_lt_of_le hk hB) (hm k hk)⟩
theorem Keeps.grown {M : Nat → Prop} {a w w' : World} {row : Option Nat} (h : Keeps M a w) (hg : w.grownBy w' row) (hr : ∀ k, row = some k → k < a.heap.size → M k) : Keeps M a w' :=
  ⟨hg.os.trans h.os, hg.tape.trans h.tape, hg.output.trans h.output, Nat.le_trans h.size hg.size, fun k hk hn =>
    (hg.block k (Nat.lt_of_lt_of_le hk h.size) (fun e => hn (hr k e.symm hk))).trans (h.block k hk hn)⟩
/-- Two steps: the second may turn what is new. -/
theorem Keeps.then {M M' : Nat → Prop} {a b c : World} (h : Keeps M a b) (k : Keeps M' b c) (hm : ∀ i, i < a.heap.size → M' i → M i) : Keeps M a c :=
  ⟨k.os.trans h.os, k.tape.trans h.tape, k.output.trans h.output, Nat.le_trans h.size k.size,
    fun i hi hn => (k.block i (Nat.lt_of_lt_of_le hi h.size) (fun x => hn (hm i hi x))).trans (h.block i hi hn)⟩
section
variable {P : Program} {ops : Array Oper} {rest : List Oper} {o : Oper} {a : Act} {w : World} {Q : Exit → Act → World → Prop}
end
theorem Calls.quiet_eq {P : Program} {f : FuncId} {args : Array Value} {w : World} {n : Nat} {v : Value}
    (h : Calls P f args (w.drewN n) fun e w' => e = .returned v ∧ w.drewN n = w') : Calls P f args (w.drewN n) fun e w'' => e = .returned v ∧ ∃ m, w'' = w.drewN m :=
  h.mono fun _ _ ⟨he, hm⟩ => ⟨he, n, hm.symm⟩
end Go.Own
namespace Go.Proofs.YtghohakbepeffaaDoor
open Go Go.RowKit Go.Own Go.Shelf
/-- A field as it is made: name, bounds, reader, setter, and the box that both hold. -/
def fieldV (nm : Value) (lo hi : Int) (f g : Nat) (k : Nat) : Value :=
  .agg #[nm, .int .u64 lo, .int .u64 hi, .func (.func f) #[] #[.pointer (some ⟨k, 0, none⟩)], .func (.func g) #[] #[.pointer (some ⟨k, 0, none⟩)]]
theorem mf_run : ∀ (fn : Fn) (first cap : Array Value) (w : World), (Instr.makeFunc fn first cap).run Tryd.prog w = .ok (.func fn first cap) w := fun _ _ _ _ => rfl
theorem field_info : (Tryd.prog.info? 103).map (·.size) = some 5 := by kernel_rfl
set_option maxHeartbeats 1000000 in
theorem of_ok (nm : ByteArray) (lo hi : Int) (q : Addr) (w : World) :
    Calls Tryd.prog 65 #[.string nm, .int .u64 lo, .int .u64 hi, .pointer (some q)] w fun e w' => e = .returned (fieldV (.string nm) lo hi 70 71 w.heap.size) ∧ w'.cell? ⟨w.heap.size, 0, none⟩ = some (.pointer (some q)) ∧ w.heap.size < w'.heap.size ∧ Keeps Nob w w' := by
  have hmf := mf_run
  go_enter Tryd.func65, Tryd.ntmps65
  go_wp2_with (refine wpList_store_row rfl 103 _ _ rfl (w.heap.size + 1) #[.string nm, .int .u64 lo, .int .u64 hi, .func (.func 70) #[] #[.pointer (some ⟨w.heap.size, 0, none⟩)], .func (.func 71) #[] #[.pointer (some ⟨w.heap.size, 0, none⟩)]] rfl rfl 103 #[.string ⟨#[]⟩, .int .u64 0, .int .u64 0, .nilFunc, .nilFunc] (by rw [show w.heap.size + 1 = (w.alloc (.cells #[.pointer (some q)] 128)).heap.size by simp]; exact World.alloc_heap_new _ _) field_info rfl (by simp [Value.oneCell']) ?_)
  have k1 : Keeps Nob w (w.alloc (.cells #[.pointer (some q)] 128)) := (Keeps.refl _ _).alloc _
  have c1 : (w.alloc (.cells #[.pointer (some q)] 128)).cell? ⟨w.heap.size, 0, none⟩ = some (.pointer (some q)) := (World.cell?_alloc_at _ _ _ _ rfl).trans rfl
  have s1 : (w.alloc (.cells #[.pointer (some q)] 128)).heap.size = w.heap.size + 1 := by simp
  (try simp only [Exit.inBlock, Exit.then])
  refine bodyPost_ret (v := .agg #[.string nm, .int .u64 lo, .int .u64 hi, .func (.func 70) #[] #[.pointer (some ⟨w.heap.size, 0, none⟩)], .func (.func 71) #[] #[.pointer (some ⟨w.heap.size, 0, none⟩)]]) ?_ rfl ?_
  · exact results_cell_row rfl _ _ (w.heap.size + 1) 103 #[.string nm, .int .u64 lo, .int .u64 hi, .func (.func 70) #[] #[.pointer (some ⟨w.heap.size, 0, none⟩)], .func (.func 71) #[] #[.pointer (some ⟨w.heap.size, 0, none⟩)]] (0, 0) _ rfl (setRow_heap _ _ #[.string ⟨#[]⟩, .int .u64 0, .int .u64 0, .nilFunc, .nilFunc] _ _ _ (by rw [show w.heap.size + 1 = (w.alloc (.cells #[.pointer (some q)] 128)).heap.size by simp]; exact World.alloc_heap_new _ _)) Tryd.underlying103 rfl field_info
  have k2 : ∀ o cs, Keeps Nob (w.alloc (.cells #[.pointer (some q)] 128)) (((w.alloc (.cells #[.pointer (some q)] 128)).alloc o).setRow (w.heap.size + 1) cs) := fun o cs => ((Keeps.refl _ _).alloc _).setRow (fun x => absurd x (by omega)) cs
  exact ⟨rfl, ((k2 _ _).cell (by omega) (fun x => x)).trans c1, Nat.lt_of_lt_of_le (by omega) (k2 _ _).size, k1.trans (k2 _ _)⟩
set_option maxHeartbeats 1000000 in
theorem word_ok (nm : ByteArray) (hi : Int) (q : Addr) (w : World) :
    Calls Tryd.prog 66 #[.string nm, .int .u64 hi, .pointer (some q)] w fun e w' => e = .returned (fieldV (.string nm) 0 hi 72 73 w.heap.size) ∧ w'.cell? ⟨w.heap.size, 0, none⟩ = some (.pointer (some q)) ∧ w.heap.size < w'.heap.size ∧ Keeps Nob w w' := by
  have hmf := mf_run
  go_enter Tryd.func66, Tryd.ntmps66
  go_wp2_with (refine wpList_store_row rfl 103 _ _ rfl (w.heap.size + 1) #[.string nm, .int .u64 0, .int .u64 hi, .func (.func 72) #[] #[.pointer (some ⟨w.heap.size, 0, none⟩)], .func (.func 73) #[] #[.pointer (some ⟨w.heap.size, 0, none⟩)]] rfl rfl 103 #[.string ⟨#[]⟩, .int .u64 0, .int .u64 0, .nilFunc, .nilFunc] (by rw [show w.heap.size + 1 = (w.alloc (.cells #[.pointer (some q)] 130)).heap.size by simp]; exact World.alloc_heap_new _ _) field_info rfl (by simp [Value.oneCell']) ?_)
  have k1 : Keeps Nob w (w.alloc (.cells #[.pointer (some q)] 130)) := (Keeps.refl _ _).alloc _
  have c1 : (w.alloc (.cells #[.pointer (some q)] 130)).cell? ⟨w.heap.size, 0, none⟩ = some (.pointer (some q)) := (World.cell?_alloc_at _ _ _ _ rfl).trans rfl
  have s1 : (w.alloc (.cells #[.pointer (some q)] 130)).heap.size = w.heap.size + 1 := by simp
  (try simp only [Exit.inBlock, Exit.then])
  refine bodyPost_ret (v := .agg #[.string nm, .int .u64 0, .int .u64 hi, .func (.func 72) #[] #[.pointer (some ⟨w.heap.size, 0, none⟩)], .func (.func 73) #[] #[.pointer (some ⟨w.heap.size, 0, none⟩)]]) ?_ rfl ?_
  · exact results_cell_row rfl _ _ (w.heap.size + 1) 103 #[.string nm, .int .u64 0, .int .u64 hi, .func (.func 72) #[] #[.pointer (some ⟨w.heap.size, 0, none⟩)], .func (.func 73) #[] #[.pointer (some ⟨w.heap.size, 0, none⟩)]] (0, 0) _ rfl (setRow_heap _ _ #[.string ⟨#[]⟩, .int .u64 0, .int .u64 0, .nilFunc, .nilFunc] _ _ _ (by rw [show w.heap.size + 1 = (w.alloc (.cells #[.pointer (some q)] 130)).heap.size by simp]; exact World.alloc_heap_new _ _)) Tryd.underlying103 rfl field_info
  have k2 : ∀ o cs, Keeps Nob (w.alloc (.cells #[.pointer (some q)] 130)) (((w.alloc (.cells #[.pointer (some q)] 130)).alloc o).setRow (w.heap.size + 1) cs) := fun o cs => ((Keeps.refl _ _).alloc _).setRow (fun x => absurd x (by omega)) cs
  exact ⟨rfl, ((k2 _ _).cell (by omega) (fun x => x)).trans c1, Nat.lt_of_lt_of_le (by omega) (k2 _ _).size, k1.trans (k2 _ _)⟩
end Go.Proofs.YtghohakbepeffaaDoor
namespace Go.Proofs.YtghohakbepeffaaDoor
open Go Go.RowKit Go.Own Go.Shelf
set_option maxHeartbeats 1000000 in
theorem of1_ok (k : Nat) (q : Addr) (x : Int) (w : World) (h1 : w.cell? ⟨k, 0, none⟩ = some (.pointer (some q))) (h2 : w.cell? q = some (.int .i64 x)) (b1 : -9223372036854775808 ≤ x) (b2 : x ≤ 9223372036854775807) :
    Calls Tryd.prog 70 #[.pointer (some ⟨k, 0, none⟩)] w fun e w' => e = .returned (.tuple #[.int .u64 (max x 0), .bool (decide (0 ≤ x))]) ∧ Keeps Nob w w' := by
  by_cases hx : 0 ≤ x
  · have hm : max x 0 = x := by omega
    rw [hm]
    go_enter Tryd.func70, Tryd.ntmps70
    go_wp2
    go_region
    go_wp2
    all_goals (go_ret2; exact ⟨by simp [hx], (Keeps.refl _ _).drew⟩)
  · have hm : max x 0 = 0 := by omega
    rw [hm]
    have hd : decide (0 ≤ x) = false := by simpa using hx
    go_enter Tryd.func70, Tryd.ntmps70
    go_wp2
    go_region
    go_wp2
    all_goals (go_ret2; exact ⟨by simp [hd], (Keeps.refl _ _).drew⟩)
set_option maxHeartbeats 1000000 in
theorem word1_ok (k : Nat) (q : Addr) (x : Int) (w : World) (h1 : w.cell? ⟨k, 0, none⟩ = some (.pointer (some q))) (h2 : w.cell? q = some (.int .u64 x)) :
    Calls Tryd.prog 72 #[.pointer (some ⟨k, 0, none⟩)] w fun e w' => e = .returned (.tuple #[.int .u64 x, .bool true]) ∧ Keeps Nob w w' := by
  go_enter Tryd.func72, Tryd.ntmps72
  go_wp2
  go_ret2
  exact ⟨rfl, Keeps.refl _ _⟩
set_option maxHeartbeats 1000000 in
theorem within_ok (nm f g : Value) (lo hi n : Int) (w : World) :
    Calls Tryd.prog 56 #[.agg #[nm, .int .u64 lo, .int .u64 hi, f, g], .int .u64 n] w fun e w' => e = .returned (.bool (decide (lo ≤ n) && decide (n ≤ hi))) ∧ Keeps Nob w w' := by
  by_cases h1 : lo ≤ n
  · go_enter Tryd.func56, Tryd.ntmps56
    go_wp2
    go_ret
    exact ⟨by simp [h1], (Keeps.refl _ _).alloc _⟩
  · have h2 : decide (lo ≤ n) = false := by simpa using h1
    go_enter Tryd.func56, Tryd.ntmps56
    go_wp2
    go_ret
    exact ⟨by simp [h2], (Keeps.refl _ _).alloc _⟩
end Go.Proofs.YtghohakbepeffaaDoor
namespace Go.Proofs.YtghohakbepeffaaDoor
open Go Go.RowKit Go.Own Go.Shelf
/-- Eleven params. -/
structure Par where
  (unb mage elen win ent act jail base mult corr rew : Int)
def Par.cells (p : Par) : Array Value := #[.int .i64 p.unb, .int .i64 p.mage, .int .i64 p.elen, .int .i64 p.win, .int .i64 p.ent, .int .i64 p.act, .int .i64 p.jail, .int .u64 p.base, .int .u64 p.mult, .int .i64 p.corr, .int .u64 p.rew]
def Par.v (p : Par) : Value := .agg p.cells
def i64ok (x : Int) : Prop := -9223372036854775808 ≤ x ∧ x ≤ 9223372036854775807
def u64ok (x : Int) : Prop := 0 ≤ x ∧ x ≤ 18446744073709551615
structure Par.Ok (p : Par) : Prop where
  unb : i64ok p.unb
  mage : i64ok p.mage
  elen : i64ok p.elen
  win : i64ok p.win
  ent : i64ok p.ent
  act : i64ok p.act
  jail : i64ok p.jail
  base : u64ok p.base
  mult : u64ok p.mult
  corr : i64ok p.corr
  rew : u64ok p.rew
/-- Its numbers, bounds. -/
def Par.l (p : Par) : List Int := [p.unb, p.mage, p.elen, p.win, p.ent, p.act, p.jail, p.base, p.mult, p.corr, p.rew]
def parLo : List Int := [1, 0, 1, 1, 1, 1, 1, 0, 0, 1, 0]
def parHi : List Int := [1048576, 1048576, 1000, 256, 16, 32, 1048576, 1000000000, 1000, 1048576, 1000000000]
def Par.good (p : Par) (i : Nat) : Prop := parLo[i]?.getD 0 ≤ p.l[i]?.getD 0 ∧ p.l[i]?.getD 0 ≤ parHi[i]?.getD 0
instance (p : Par) (i : Nat) : Decidable (p.good i) := by unfold Par.good; infer_instance
/-- What Check tells. -/
def Par.check (p : Par) : Int × Int := match (List.range 11).find? (fun i => decide (¬ p.good i)) with | some i => (3, i) | none => if p.unb < p.mage then (9, 1) else (0, 0)
theorem Par.check_bad (p : Par) (i : Nat) (hi : i < 11) (h : ∀ j, j < i → p.good j) (hb : ¬ p.good i) : p.check = (3, (i : Int)) := by
  have : (List.range 11).find? (fun i => decide (¬ p.good i)) = some i := by
    rw [List.find?_range_eq_some]
    exact ⟨by simpa using hb, by simpa using hi, fun j hj => by simpa using h j hj⟩
  unfold Par.check; rw [this]
theorem Par.check_good (p : Par) (h : ∀ j, j < 11 → p.good j) : p.check = if p.unb < p.mage then (9, 1) else (0, 0) := by
  have : (List.range 11).find? (fun i => decide (¬ p.good i)) = none := by
    rw [List.find?_eq_none]
    intro j hj
    simpa using h j (by simpa using hj)
  unfold Par.check; rw [this]
/-- What the reference's numbers are: words are cut at 1 << 40. -/
def Par.r (p : Par) : List Int := [p.unb, p.mage, p.elen, p.win, p.ent, p.act, p.jail, min p.base 1099511627776, min p.mult 1099511627776, p.corr, min p.rew 1099511627776]
theorem Par.good_r (p : Par) (i : Nat) (hi : i < 11) : p.good i ↔ parLo[i]?.getD 0 ≤ p.r[i]?.getD 0 ∧ p.r[i]?.getD 0 ≤ parHi[i]?.getD 0 := by
  have h : i = 0 ∨ i = 1 ∨ i = 2 ∨ i = 3 ∨ i = 4 ∨ i = 5 ∨ i = 6 ∨ i = 7 ∨ i = 8 ∨ i = 9 ∨ i = 10 := by omega
  rcases h with rfl | rfl | rfl | rfl | rfl | rfl | rfl | rfl | rfl | rfl | rfl <;> simp [Par.good, Par.l, Par.r, parLo, parHi] <;> omega
theorem least_ok (w : World) : Calls Tryd.prog 67 #[] w fun e w' => ∃ cap, e = .returned (.slice (some ⟨w.heap.size, 0, none⟩) 11 cap) ∧ (∀ i : Nat, i < 11 → w'.cell? ⟨w.heap.size, i, none⟩ = some (.int .i64 (parLo[i]?.getD 0))) ∧ Keeps Nob w w' ∧ w.heap.size < w'.heap.size := by
  go_enter Tryd.func67, Tryd.ntmps67
  go_wp2
  go_ret
  refine ⟨_, rfl, fun i hi => ?_, (Keeps.refl _ _).alloc _, by simp⟩
  refine (World.cell?_alloc_at _ _ _ _ rfl).trans ?_
  have h : i = 0 ∨ i = 1 ∨ i = 2 ∨ i = 3 ∨ i = 4 ∨ i = 5 ∨ i = 6 ∨ i = 7 ∨ i = 8 ∨ i = 9 ∨ i = 10 := by omega
  rcases h with rfl | rfl | rfl | rfl | rfl | rfl | rfl | rfl | rfl | rfl | rfl <;> rfl
theorem most_ok (w : World) : Calls Tryd.prog 68 #[] w fun e w' => ∃ cap, e = .returned (.slice (some ⟨w.heap.size, 0, none⟩) 11 cap) ∧ (∀ i : Nat, i < 11 → w'.cell? ⟨w.heap.size, i, none⟩ = some (.int .i64 (parHi[i]?.getD 0))) ∧ Keeps Nob w w' ∧ w.heap.size < w'.heap.size := by
  go_enter Tryd.func68, Tryd.ntmps68
  go_wp2
  go_ret
  refine ⟨_, rfl, fun i hi => ?_, (Keeps.refl _ _).alloc _, by simp⟩
  refine (World.cell?_alloc_at _ _ _ _ rfl).trans ?_
  have h : i = 0 ∨ i = 1 ∨ i = 2 ∨ i = 3 ∨ i = 4 ∨ i = 5 ∨ i = 6 ∨ i = 7 ∨ i = 8 ∨ i = 9 ∨ i = 10 := by omega
  rcases h with rfl | rfl | rfl | rfl | rfl | rfl | rfl | rfl | rfl | rfl | rfl <;> rfl
end Go.Proofs.YtghohakbepeffaaDoor
namespace Go.Proofs.YtghohakbepeffaaDoor
open Go Go.RowKit Go.Own Go.Shelf
set_option maxHeartbeats 1000000 in
theorem r7within_ok (i : Nat) (n : Int) (w : World) (hi : i < 11) :
    Calls Tryd.prog 60 #[.int .i64 i, .int .i64 n] w fun e w' => e = .returned (.bool (decide (parLo[i]?.getD 0 ≤ n ∧ n ≤ parHi[i]?.getD 0))) ∧ Keeps Nob w w' := by
  obtain ⟨lo, hlo⟩ : ∃ lo, parLo[i]?.getD 0 = lo := ⟨_, rfl⟩
  obtain ⟨hh, hhi⟩ : ∃ h, parHi[i]?.getD 0 = h := ⟨_, rfl⟩
  rw [hlo, hhi]
  by_cases h1 : lo ≤ n
  · go_enter Tryd.func60, Tryd.ntmps60
    go_wp2_with (first
      | (go_at_call 67; refine (least_ok _).mono ?_; rintro e V ⟨cap, rfl, hc, hk, hs⟩; have c1 := hc i hi; rw [hlo] at c1)
      | (go_at_call 68; refine (most_ok _).mono ?_; rintro e V2 ⟨cap2, rfl, hc2, hk2, hs2⟩; have c2 := hc2 i hi; rw [hhi] at c2))
    go_ret
    exact ⟨by simp [h1], hk.trans hk2⟩
  · have h2 : decide (lo ≤ n) = false := by simpa using h1
    go_enter Tryd.func60, Tryd.ntmps60
    go_wp2_with (first
      | (go_at_call 67; refine (least_ok _).mono ?_; rintro e V ⟨cap, rfl, hc, hk, hs⟩; have c1 := hc i hi; rw [hlo] at c1))
    go_ret
    exact ⟨by simp; intro h; exact absurd h (by omega), hk⟩
set_option maxHeartbeats 2000000 in
theorem kFields_ok (p : Par) (hp : p.Ok) (w : World) :
    Calls Tryd.prog 59 #[p.v] w fun e w' => ∃ g, (∃ cap, e = .returned (.slice (some ⟨g, 0, none⟩) 11 cap)) ∧ (∀ i : Nat, i < 11 → w'.cell? ⟨g, i, none⟩ = some (.int .i64 (p.r[i]?.getD 0))) ∧ g < w'.heap.size ∧ Keeps Nob w w' := by
  obtain ⟨b1, b2⟩ := hp.base
  obtain ⟨m1, m2⟩ := hp.mult
  obtain ⟨r1, r2⟩ := hp.rew
  unfold Par.v Par.cells Par.r
  obtain ⟨unb, mage, elen, win, ent, act, jail, base, mult, corr, rew⟩ := p
  simp only at b1 b2 m1 m2 r1 r2 ⊢
  clear hp
  have key : ∀ x : Int, (x ≤ 1099511627776 ∧ min x 1099511627776 = x) ∨ (¬ x ≤ 1099511627776 ∧ min x 1099511627776 = 1099511627776) := fun x => by omega
  rcases key base with ⟨k1, e1⟩ | ⟨k1, e1⟩ <;> rcases key mult with ⟨k2, e2⟩ | ⟨k2, e2⟩ <;> rcases key rew with ⟨k3, e3⟩ | ⟨k3, e3⟩
  all_goals
    rw [e1, e2, e3]
    clear key e1 e2 e3
    go_enter Tryd.func59, Tryd.ntmps59
    go_wp2
    go_ret
    refine ⟨w.heap.size + 1, ⟨_, rfl⟩, fun i hi => ?_, by simp, ((Keeps.refl _ _).alloc _).alloc _⟩
    refine (World.cell?_alloc_at _ _ _ _ (by simp)).trans ?_
    have h : i = 0 ∨ i = 1 ∨ i = 2 ∨ i = 3 ∨ i = 4 ∨ i = 5 ∨ i = 6 ∨ i = 7 ∨ i = 8 ∨ i = 9 ∨ i = 10 := by omega
    rcases h with rfl | rfl | rfl | rfl | rfl | rfl | rfl | rfl | rfl | rfl | rfl <;> rfl
set_option maxRecDepth 100000 in
set_option maxHeartbeats 4000000 in
theorem r7Check_ok (p : Par) (hp : p.Ok) (w : World) :
    Calls Tryd.prog 46 #[p.v] w fun e w' => e = .returned (.tuple #[.int .i64 p.check.1, .int .i64 p.check.2]) ∧ Keeps Nob w w' := by
  have FL := fun V => kFields_ok p hp V
  obtain ⟨ce, hce⟩ : ∃ c, p.check = c := ⟨_, rfl⟩
  rw [hce]
  have HCE := Lib.hid hce; clear hce
  obtain ⟨cs, hcs⟩ : ∃ cs, p.cells = cs := ⟨_, rfl⟩
  have hv : p.v = .agg p.cells := rfl
  rw [hv] at FL ⊢
  unfold Par.cells at FL ⊢
  have FLH := Lib.hid FL; clear FL hv hcs
  go_enter Tryd.func46, Tryd.ntmps46
  go_wp2_with (go_at_call 59; refine (FLH.out _).mono ?_; rintro e V ⟨g, ⟨cap, rfl⟩, hc, hg, hk⟩)
  have hk0 := ((Keeps.refl Nob w).alloc (.cells p.cells 24)).trans hk
  have hb : w.heap.size < (w.alloc (.cells p.cells 24)).heap.size := by simp
  have c0 : (w.alloc (.cells p.cells 24)).cell? ⟨w.heap.size, 0, none⟩ = some (.int .i64 p.unb) := (World.cell?_alloc_at _ _ _ _ rfl).trans rfl
  have c1 : (w.alloc (.cells p.cells 24)).cell? ⟨w.heap.size, 1, none⟩ = some (.int .i64 p.mage) := (World.cell?_alloc_at _ _ _ _ rfl).trans rfl
  have q0 := (hk.cell (i := 0) hb (fun x => x)).trans c0
  have q1 := (hk.cell (i := 1) hb (fun x => x)).trans c1
  have hsz : w.heap.size < V.heap.size := Nat.lt_of_lt_of_le hb hk.size
  clear hk c0 c1 hb
  go_loopg [5] 11 (fun g i V1 => ∃ k : Nat, k ≤ 11 ∧ g = 11 - k ∧ i = .int .i64 k ∧ Hid (∀ j, j < k → p.good j) ∧ Keeps Nob V V1)
  case atStart => exact ⟨0, by omega, rfl, rfl, Lib.hid (fun j hj => by omega), Keeps.refl _ _⟩
  case round =>
    obtain ⟨k, hk, hgf, rfl, HG, hkp⟩ := hrel
    by_cases hlt : k < 11
    · have c1 := (hkp.cell (i := k) hg (fun x => x)).trans (hc k hlt)
      have hgr := p.good_r k hlt
      obtain ⟨n, hn⟩ : ∃ n, p.r[k]?.getD 0 = n := ⟨_, rfl⟩
      rw [hn] at c1 hgr
      have RW := fun V => r7within_ok k n V hlt
      by_cases hgood : p.good k
      · have hd := decide_eq_true (hgr.1 hgood)
        rw [hd] at RW
        have RWH := Lib.hid RW
        have HG1 := Lib.hid (fun j hj => (Nat.lt_succ_iff_lt_or_eq.1 hj).elim (HG.out j) (fun e => e ▸ hgood) : ∀ j, j < k + 1 → p.good j)
        clear RW hd hgr hgood hc
        go_wp2_with (go_at_call 60; refine (RWH.out _).mono ?_; rintro e V1 ⟨rfl, hk1⟩)
        go_roundg (11 - (k + 1))
        case measure => omega
        case rel => exact ⟨k + 1, by omega, rfl, by go_num, HG1, hkp.trans hk1⟩
      · have hd := decide_eq_false (fun x => hgood (hgr.2 x))
        rw [hd] at RW
        have RWH := Lib.hid RW
        obtain rfl : ce = (3, (k : Int)) := HCE.out.symm.trans (p.check_bad k hlt HG.out hgood)
        clear RW hd hgr hgood hc
        go_wp2_with (go_at_call 60; refine (RWH.out _).mono ?_; rintro e V1 ⟨rfl, hk1⟩)
        go_ret2
        exact ⟨rfl, (hk0.trans hkp).trans hk1⟩
    · have h1 : decide ((k : Int) < 11) = false := by simp; omega
      have hk11 : k = 11 := by omega
      have q0 := (hkp.cell (i := 0) hsz (fun x => x)).trans q0
      have q1 := (hkp.cell (i := 1) hsz (fun x => x)).trans q1
      have hce := HCE.out.symm.trans (p.check_good (fun j hj => HG.out j (by omega)))
      by_cases hm : p.unb < p.mage
      · rw [if_pos hm] at hce
        subst hce
        clear hc HCE
        go_wp2_with fail
        go_ret2
        exact ⟨rfl, hk0.trans hkp⟩
      · rw [if_neg hm] at hce
        subst hce
        clear hc HCE
        have hmd : decide (p.unb < p.mage) = false := by simpa using hm
        go_wp2_with fail
        go_ret2
        exact ⟨rfl, hk0.trans hkp⟩
end Go.Proofs.YtghohakbepeffaaDoor
