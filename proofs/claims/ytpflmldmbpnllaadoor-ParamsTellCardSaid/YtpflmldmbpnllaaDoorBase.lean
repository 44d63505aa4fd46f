/-
  Small laws on worlds, of this prover's own: which blocks a step may have turned ('Keeps'). Conditions: none.
-/
import Derived.WalkKit
import Derived.WalkSpells
import Derived.WalkLawsBesides
import Derived.Deep.QuietTactic
import Derived.BigQuiet
import Derived.BigRegion
namespace Go.Own
open Go Go.RowKit

/-- Of the blocks that were there, those outside M are as they were; none has gone. -/
structure Keeps (M : Nat → Prop) (w w' : World) : Prop where
  os : w'.os = w.os
  tape : w'.tape = w.tape
  output : w'.output = w.output
  size : w.heap.size ≤ w'.heap.size
  block : ∀ k, k < w.heap.size → ¬ M k → w'.heap[k]? = w.heap[k]?

/-- No block that was there is turned. -/
def Nob : Nat → Prop := fun _ => False
/-- One block alone. -/
def One (b : Nat) : Nat → Prop := fun k => k = b

theorem Keeps.refl (M : Nat → Prop) (w : World) : Keeps M w w := ⟨rfl, rfl, rfl, Nat.le_refl _, fun _ _ _ => rfl⟩
theorem Keeps.trans {M : Nat → Prop} {a b c : World} (h : Keeps M a b) (k : Keeps M b c) : Keeps M a c :=
  ⟨k.os.trans h.os, k.tape.trans h.tape, k.output.trans h.output, Nat.le_trans h.size k.size,
    fun i hi hm => (k.block i (Nat.lt_of_lt_of_le hi h.size) hm).trans (h.block i hi hm)⟩
theorem Keeps.mono {M M' : Nat → Prop} {w w' : World} (h : Keeps M w w') (hm : ∀ k, k < w.heap.size → M k → M' k) : Keeps M' w w' :=
  ⟨h.os, h.tape, h.output, h.size, fun k hk hn => h.block k hk (fun x => hn (hm k hk x))⟩
theorem Keeps.drew {M : Nat → Prop} {a w : World} (h : Keeps M a w) : Keeps M a w.drew := ⟨h.os, h.tape, h.output, h.size, h.block⟩
theorem Keeps.drewN {M : Nat → Prop} {a w : World} (n : Nat) (h : Keeps M a w) : Keeps M a (w.drewN n) := ⟨h.os, h.tape, h.output, h.size, h.block⟩
theorem Keeps.alloc {M : Nat → Prop} {a w : World} (h : Keeps M a w) (o : Obj) : Keeps M a (w.alloc o) :=
  ⟨h.os, h.tape, h.output, by have := h.size; simp; omega, fun k hk hm => (Below.heap_alloc w o k (Nat.lt_of_lt_of_le hk h.size)).trans (h.block k hk hm)⟩
theorem Keeps.setCell {M : Nat → Prop} {a w : World} (h : Keeps M a w) {p : Addr} (hp : p.block < a.heap.size → M p.block) (u : Value) : Keeps M a (w.setCell p u) :=
  ⟨h.os, h.tape, h.output, by have := h.size; simp; omega, fun k hk hm => (Below.heap_setCell w p u k (fun e => hm (e ▸ hp (e ▸ hk)))).trans (h.block k hk hm)⟩
theorem Keeps.setOne {b i : Nat} {a w : World} (h : Keeps (One b) a w) (u : Value) : Keeps (One b) a (w.setCell ⟨b, i, none⟩ u) := h.setCell (p := ⟨b, i, none⟩) (fun _ => rfl) u
theorem Keeps.setCell_new {M : Nat → Prop} {a w : World} (h : Keeps M a w) {p : Addr} (hp : a.heap.size ≤ p.block) (u : Value) : Keeps M a (w.setCell p u) :=
  h.setCell (fun x => absurd x (by omega)) u
theorem Keeps.setRow {M : Nat → Prop} {a w : World} (h : Keeps M a w) {g : Nat} (hg : g < a.heap.size → M g) (cs : Array Value) : Keeps M a (w.setRow g cs) :=
  ⟨h.os, h.tape, h.output, by have := h.size; simp; omega, fun k hk hm => (setRow_other w g k cs (fun e => hm (e ▸ hg (e ▸ hk)))).trans (h.block k hk hm)⟩
theorem Keeps.cell {M : Nat → Prop} {w w' : World} (h : Keeps M w w') {k i : Nat} (hk : k < w.heap.size) (hm : ¬ M k) : w'.cell? ⟨k, i, none⟩ = w.cell? ⟨k, i, none⟩ :=
  World.cell?_of_block (w := w) (h.block k hk hm)
theorem Keeps.frozen {M : Nat → Prop} {w w' : World} (h : Keeps M w w') {k i : Nat} (hk : k < w.heap.size) (hm : ¬ M k) : w'.frozen? ⟨k, i, none⟩ = w.frozen? ⟨k, i, none⟩ :=
  World.frozen?_of_block (w := w) (h.block k hk hm)
theorem Keeps.below {M : Nat → Prop} {w w' : World} {B : Nat} (h : Keeps M w w') (hB : B ≤ w.heap.size) (hm : ∀ k, k < B → ¬ M k) : Below B w w' :=
  ⟨h.os, h.tape, h.output, h.size, fun k hk => h.block k (Nat.lt_of_lt_of_le hk hB) (hm k hk)⟩
theorem Keeps.of_below {M : Nat → Prop} {w w' : World} {B : Nat} (h : Below B w w') (hm : ∀ k, k < w.heap.size → B ≤ k → M k) : Keeps M w w' :=
  ⟨h.os, h.tape, h.output, h.size, fun k hk hn => h.block k (Nat.lt_of_not_le (fun hle => hn (hm k hk hle)))⟩
theorem Keeps.grown {M : Nat → Prop} {a w w' : World} {row : Option Nat} (h : Keeps M a w) (hg : w.grownBy w' row) (hr : ∀ k, row = some k → k < a.heap.size → M k) : Keeps M a w' :=
  ⟨hg.os.trans h.os, hg.tape.trans h.tape, hg.output.trans h.output, Nat.le_trans h.size hg.size, fun k hk hn =>
    (hg.block k (Nat.lt_of_lt_of_le hk h.size) (fun e => hn (hr k e.symm hk))).trans (h.block k hk hn)⟩
/-- Two steps: the second may turn what is new. -/
theorem Keeps.then {M M' : Nat → Prop} {a b c : World} (h : Keeps M a b) (k : Keeps M' b c) (hm : ∀ i, i < a.heap.size → M' i → M i) : Keeps M a c :=
  ⟨k.os.trans h.os, k.tape.trans h.tape, k.output.trans h.output, Nat.le_trans h.size k.size,
    fun i hi hn => (k.block i (Nat.lt_of_lt_of_le hi h.size) (fun x => hn (hm i hi x))).trans (h.block i hi hn)⟩

section
variable {P : Program} {ops : Array Oper} {rest : List Oper} {o : Oper} {a : Act} {w : World} {Q : Exit → Act → World → Prop}
/-- An operation whose run is known. -/
theorem own_run (hg : o.guard = none) {v : Value} {w' : World} (hr : (execOp a.eval o).run P w = .ok (.value v) w') (h : wpList P ops Q rest (a.put o.dst v) w') : wpList P ops Q (o :: rest) a w :=
  wpList_plain hg fun K hK => by unfold Oper.wp; rw [hr]; exact hK _ _ h
/-- A composite literal whose run is known. -/
theorem own_build (hg : o.guard = none) (t : TypeId) (ps : Array (Nat × Operand)) (ho : o.op = .build t ps) (qs : Array (Nat × Value)) (hq : (ps.map fun (i, x) => (i, a.eval x)) = qs)
    {v : Value} (hr : (Instr.build t qs).run P w = .ok v w) (h : wpList P ops Q rest (a.put o.dst v) w) : wpList P ops Q (o :: rest) a w :=
  own_run hg (v := v) (w' := w) (by
    subst hq
    unfold execOp
    simp only [ho, Sem.run_bind, hr, Result.andThen_ok, Sem.run_pure]) h
/-- A new variable at its zero value. -/
theorem own_alloc (hg : o.guard = none) (t : TypeId) (ho : o.op = .alloc t) {v : Value} (hr : (zeroValue t).run P w = .ok v w)
    (h : wpList P ops Q rest (a.put o.dst (.pointer (some ⟨w.heap.size, 0, none⟩))) (w.alloc (.cells v.cells t))) : wpList P ops Q (o :: rest) a w :=
  own_run hg (v := .pointer (some ⟨w.heap.size, 0, none⟩)) (w' := w.alloc (.cells v.cells t)) (by
    unfold execOp
    simp only [ho, Instr.alloc, Sem.run_bind, hr, Result.andThen_ok, Sem.run_pure]
    simp [go_sem]) h
/-- A new variable that holds a value. -/
theorem own_box (hg : o.guard = none) (t : TypeId) (x : Operand) (ho : o.op = .box t x)
    (h : wpList P ops Q rest (a.put o.dst (.pointer (some ⟨w.heap.size, 0, none⟩))) (w.alloc (.cells (a.eval x).cells t))) : wpList P ops Q (o :: rest) a w :=
  own_run hg (v := .pointer (some ⟨w.heap.size, 0, none⟩)) (w' := w.alloc (.cells (a.eval x).cells t)) (by
    unfold execOp
    simp only [ho, Instr.box, Sem.run_bind, Result.andThen_ok, Sem.run_pure]
    simp [go_sem]) h
end
theorem Calls.quiet_eq {P : Program} {f : FuncId} {args : Array Value} {w : World} {n : Nat} {v : Value}
    (h : Calls P f args (w.drewN n) fun e w' => e = .returned v ∧ w.drewN n = w') : Calls P f args (w.drewN n) fun e w'' => e = .returned v ∧ ∃ m, w'' = w.drewN m :=
  h.mono fun _ _ ⟨he, hm⟩ => ⟨he, n, hm.symm⟩
theorem Calls.quiet_drew {P : Program} {f : FuncId} {args : Array Value} {w : World} {n : Nat} {v : Value}
    (h : Calls P f args (w.drewN n) fun e w' => e = .returned v ∧ (w.drewN n).drew = w') : Calls P f args (w.drewN n) fun e w'' => e = .returned v ∧ ∃ m, w'' = w.drewN m :=
  h.mono fun _ _ ⟨he, hm⟩ => ⟨he, n + 1, hm.symm⟩
theorem ret_int {k : IntKind} {a b : Int} (h : a = b) : Ending.returned (.int k a) = .returned (.int k b) := by rw [h]
theorem ret_bool {a b : Bool} (h : a = b) : Ending.returned (.bool a) = .returned (.bool b) := by rw [h]

end Go.Own
