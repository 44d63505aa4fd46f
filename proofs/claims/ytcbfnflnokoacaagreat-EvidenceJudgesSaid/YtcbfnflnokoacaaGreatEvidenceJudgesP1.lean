import Derived.WalkKit
import Derived.OrdersHeld
import Derived.Deep.RegionHeld
import Derived.Laws.Rows
import Derived.Laws.Tables
import Derived.WalkSpells
import Derived.WalkLawsBesides
import Derived.Deep.QuietTactic
import Derived.BigQuiet
import Derived.BigRegion
import Derived.Maps.AppendAt
import Derived.OwnWalkIn
import Derived.Laws.BytesArg
import Derived.Laws.OwnMore
import Derived.Laws.CopyRow
import Derived.Laws.Slices
import Derived.Deep.MidRow
import Derived.StillTail
import Derived.Deep.RegionHeld3
import Derived.Shelf.Abstract
import Derived.IntWalk
import Derived.LoopN
import Derived.Lib.SlBytesConst
import Derived.Laws.Concat
import Derived.Laws.Strings
import Derived.Defers
import Derived.Test.YtcbfnflnokoacaaGreatRows
import Derived.Lib.Hide
import Derived.Laws.BitsAllLaws
import Derived.Recover
import Derived.Lib.AppendZerosOnto
import Derived.RangeFuncNested
import Derived.RangeFuncBound
import Derived.RangeFuncCalls
import Derived.RangeFuncLeaves
import Derived.Shelf.RegionOpen
import Derived.TacticsInMore
import Derived.LoopNIn
import Derived.LoopIn
import Derived.Sort.LoopGhostIn
import Derived.OneCell
import Derived.ChangeKeysEq
import Derived.Laws.StructEq
import Derived.Laws.EntriesVeiled
import Derived.RangeFuncRecord
import Derived.Deep.WholeRow
import Derived.Deep.LoopGhost
import Derived.ProofKit
import Derived.OpenShut
import Derived.ShutString
import Derived.Carry
import Derived.Deep.Slices
import Derived.Deep.Fields
import Derived.Lib.SliceRun
import Derived.Laws.MakeOwn
import Derived.Great.BuildSlice
import Derived.Great.FillDense
namespace Go.Own
open Go Go.RowKit
/-- What an operation yields in whatever world, where no memory is looked at. -/
def pureV (P : Program) (ρ : Operand → Value) (o : Oper) : Option Value :=
  match o.op with
  | .move x => some (ρ x)
  | .assign x => some (ρ x)
  | .nilCheck x => match ρ x with | .pointer (some p) => some (.pointer (some p)) | _ => none
  | .fieldAddr s x f => match P.underlying s, ρ x with
    | some (.struct fields), .pointer (some a) => match fields[f]? with
      | some fd => match P.info? fd.type with
        | some i => if i.size = 0 then none else some (.pointer (some (a.add fd.offset)))
        | none => none
      | none => none
    | _, _ => none
  | _ => none
theorem pureV_run {P : Program} {ρ : Operand → Value} {o : Oper} {v : Value} (h : pureV P ρ o = some v) (w : World) : (execOp ρ o).run P w = .ok (.value v) w := by
  unfold pureV at h
  unfold execOp
  split at h
  · rename_i x ho; simp only [ho]; cases h; rfl
  · rename_i x ho; simp only [ho]; cases h; rfl
  · rename_i x ho
    simp only [ho]
    split at h
    · rename_i p hp; cases h; simp only [hp]; rfl
    · cases h
  · rename_i s x f ho
    simp only [ho]
    split at h
    · rename_i fields a hs hx
      split at h
      · rename_i fd hfd
        split at h
        · rename_i i hi
          split at h
          · cases h
          · rename_i hne
            cases h
            simp [Instr.fieldAt, hx, run_underlying hs, hfd, Instr.sureAddr, fieldPlace, sizeOf, typeInfo, hi, hne, go_sem]
        · cases h
      · cases h
    · cases h
  · cases h
/-- Which operations are taken so, and the state behind them. -/
def pureRun (P : Program) (md : Region.Mode) (ops : Array Oper) : List Nat → Array Bool → Act → Option (Array Bool × Act)
  | [], l, a => some (l, a)
  | i :: r, l, a => match ops[i]? with
    | none => none
    | some o => if o.guard = none ∧ Region.free md ops l i = true ∧ (Region.ready md ops l).contains i = true then
        match pureV P a.eval o with
        | some v => pureRun P md ops r (l.setIfInBounds i true) (a.put o.dst v)
        | none => none
      else none
theorem put_defers (a : Act) (d : Option Tmp) (v : Value) : (a.put d v).defers = a.defers := by cases d <;> rfl
section
variable {P : Program} {ops : Array Oper} {Q : Exit → Act → World → Prop} {md : Region.Mode}
theorem wpAny_pure (hs : Region.noSelect ops = true) (hQ : ∀ c (a a' : Act) w, a'.defers = a.defers → Q (.panic c) a' w → Q (.panic c) a w) :
    ∀ (is : List Nat) (l l' : Array Bool) (a a' : Act) (w : World) (fuel : Nat), pureRun P md ops is l a = some (l', a') → wpAny P md ops Q fuel l' a' w → wpAny P md ops Q (fuel + is.length) l a w := by
  intro is
  induction is with
  | nil => intro l l' a a' w fuel h hw; simp only [pureRun, Option.some.injEq, Prod.mk.injEq] at h; obtain ⟨rfl, rfl⟩ := h; exact hw
  | cons i r ih =>
    intro l l' a a' w fuel h hw
    rw [pureRun] at h
    split at h
    · cases h
    · rename_i o ho
      split at h
      · rename_i hc
        obtain ⟨hg, hf, hr⟩ := hc
        split at h
        · rename_i v hv
          have h2 := ih _ _ _ _ w fuel h hw
          refine wpAny_take (i := i) (oi := o) (v := v) (fuel := fuel + r.length) ho hs hf hr (fun c a w hp => hQ c a _ w (put_defers _ _ _) hp) (.inl ⟨by simp [Region.wanted, hg], fun w => pureV_run hv w⟩) h2
        · cases h
      · cases h
/-- A call that alone may come up. -/
theorem wpAny_call {i : Nat} {o : Oper} {f : FuncId} {aas : Array Operand} {ts : Array TypeId} {args : Array Value} {fuel : Nat} {l : Array Bool} {a : Act} {w : World} (hr : Region.ready md ops l = [i]) (ho : ops[i]? = some o) (hg : o.guard = none)
    (hc : o.op = .call { callee := .value (.func f), args := aas, argTypes := ts }) (hargs : aas.map a.eval = args) (he : ∀ args w, (callFunc f args).run P w = .ok (.enter f args) w)
    (h : Calls P f args w fun e w' => ∃ v, e = .returned v ∧ wpAny P md ops Q fuel (l.setIfInBounds i true) (a.put o.dst v) w') : wpAny P md ops Q (fuel + 1) l a w := by
  refine wpAny_all hr (by simp) fun j hj => ?_
  obtain rfl : j = i := by simpa using hj
  unfold wpOp
  simp only [ho, Region.wanted, hg, if_true]
  refine .inl ?_
  unfold Oper.wp execOp
  simp only [hc, resolve, hargs, Act.eval, Sem.run_bind, Deferred.ofValue, Sem.run_pure, Result.andThen_ok, invoke, Array.append_empty, Array.empty_append, he]
  refine Calls.mono h fun e w' ⟨v, he, hv⟩ => ?_
  subst he
  exact hv
def callArgs (o : Oper) : Array Operand := match o.op with | .call c => c.args | _ => #[]
def callTypes (o : Oper) : Array TypeId := match o.op with | .call c => c.argTypes | _ => #[]
/-- The same, all read off the region. -/
theorem wpAny_call' {i : Nat} (o : Oper) (f : FuncId) (args : Array Value) {fuel : Nat} {l : Array Bool} {a : Act} {w : World} (hr : Region.ready md ops l = [i]) (ho : ops[i]? = some o) (hg : o.guard.isNone = true)
    (hc : o.op = .call { callee := .value (.func f), args := callArgs o, argTypes := callTypes o }) (hargs : (callArgs o).map a.eval = args) (he : ∀ args w, (callFunc f args).run P w = .ok (.enter f args) w)
    (h : Calls P f args w fun e w' => ∃ v, e = .returned v ∧ wpAny P md ops Q fuel (l.setIfInBounds i true) (a.put o.dst v) w') : wpAny P md ops Q (fuel + 1) l a w :=
  wpAny_call hr ho (by simpa using hg) hc hargs he h
/-- An operation that alone may come up, whose run is known. -/
theorem wpAny_run {i : Nat} (o : Oper) (v : Value) {fuel : Nat} {l : Array Bool} {a : Act} {w w' : World} (hr : Region.ready md ops l = [i]) (ho : ops[i]? = some o) (hg : o.guard.isNone = true)
    (hrun : (execOp a.eval o).run P w = .ok (.value v) w') (h : wpAny P md ops Q fuel (l.setIfInBounds i true) (a.put o.dst v) w') : wpAny P md ops Q (fuel + 1) l a w := by
  refine wpAny_all hr (by simp) fun j hj => ?_
  obtain rfl : j = i := by simpa using hj
  unfold wpOp
  have hg' : o.guard = none := by simpa using hg
  simp only [ho, Region.wanted, hg', if_true]
  refine .inl ?_
  unfold Oper.wp
  rw [hrun]
  exact h
theorem wpAny_pure' (hs : Region.noSelect ops = true) (hQ : ∀ c (a a' : Act) w, a'.defers = a.defers → Q (.panic c) a' w → Q (.panic c) a w)
    (is : List Nat) (l l' : Array Bool) (a a' : Act) (w : World) (fuel n : Nat) (hn : fuel + is.length = n) (h : pureRun P md ops is l a = some (l', a')) (hw : wpAny P md ops Q fuel l' a' w) : wpAny P md ops Q n l a w := by
  subst hn; exact wpAny_pure hs hQ is l l' a a' w fuel h hw
theorem region_named {id : Nat} {R : Array Oper} {b : Bool} {a : Act} {w : World} (h : ops = R) (hw : (Code.region id R b).wp P Q a w) : (Code.region id ops b).wp P Q a w := h ▸ hw
theorem wp_region_fuel {id : Nat} {a : Act} {w : World} (n : Nat) (l : Array Bool) (hm : P.follows .mixedOrders = true) (hn : ops.size = n) (hl : Array.replicate n false = l) (h : wpAny P .any ops Q n l a w.drew) : (Code.region id ops true).wp P Q a w := by
  subst hn; subst hl; exact wp_region_any hm h
/-! The same moves where a condition S holds of every world of the region. -/
section
variable {S : World → Prop}
/-- Taken first: an operation whose run is known in every world that meets S. -/
theorem wpAnyH_val {i : Nat} (o : Oper) (v : Value) {fuel : Nat} {l : Array Bool} {a : Act} {w : World} (hs : Region.noSelect ops = true) (hQ : ∀ c (a a' : Act) w, a'.defers = a.defers → Q (.panic c) a' w → Q (.panic c) a w)
    (ho : ops[i]? = some o) (hg : Region.wanted o (yielded ops a.tmps) = true) (hf : Region.free md ops l i = true) (hr : (Region.ready md ops l).contains i = true) (hrun : ∀ W, S W → (execOp a.eval o).run P W = .ok (.value v) W) (hS : S w)
    (h : wpAnyH P md ops Q S fuel (l.setIfInBounds i true) (a.put o.dst v) w) : wpAnyH P md ops Q S (fuel + 1) l a w := by
  exact wpAnyH_take ho hs hf hr (fun c a w hp => hQ c a _ w (put_defers _ _ _) hp) (.inl ⟨hg, hrun⟩) hS h
/-- A call that alone may come up. -/
theorem wpAnyH_call {i : Nat} (o : Oper) (f : FuncId) (args : Array Value) {fuel : Nat} {l : Array Bool} {a : Act} {w : World} (hr : Region.ready md ops l = [i]) (ho : ops[i]? = some o) (hg : Region.wanted o (yielded ops a.tmps) = true)
    (hc : o.op = .call { callee := .value (.func f), args := callArgs o, argTypes := callTypes o }) (hargs : (callArgs o).map a.eval = args) (he : ∀ args w, (callFunc f args).run P w = .ok (.enter f args) w)
    (h : Calls P f args w fun e w' => ∃ v, e = .returned v ∧ S w' ∧ wpAnyH P md ops Q S fuel (l.setIfInBounds i true) (a.put o.dst v) w') : wpAnyH P md ops Q S (fuel + 1) l a w := by
  refine wpAnyH_all hr (by simp) fun j hj => ?_
  obtain rfl : j = i := by simpa using hj
  unfold wpOp
  simp only [ho, hg, if_true]
  refine .inl ?_
  unfold Oper.wp execOp
  simp only [hc, resolve, hargs, Act.eval, Sem.run_bind, Deferred.ofValue, Sem.run_pure, Result.andThen_ok, invoke, Array.append_empty, Array.empty_append, he]
  refine Calls.mono h fun e w' ⟨v, he, hv⟩ => ?_
  subst he
  exact hv
/-- An operation that alone may come up, whose run is known. -/
theorem wpAnyH_run {i : Nat} (o : Oper) (v : Value) {fuel : Nat} {l : Array Bool} {a : Act} {w w' : World} (hr : Region.ready md ops l = [i]) (ho : ops[i]? = some o) (hg : Region.wanted o (yielded ops a.tmps) = true)
    (hrun : (execOp a.eval o).run P w = .ok (.value v) w' ∨ ((execOp a.eval o).run P w = .ok .skip w' ∧ v = undef)) (hS : S w') (h : wpAnyH P md ops Q S fuel (l.setIfInBounds i true) (a.put o.dst v) w') : wpAnyH P md ops Q S (fuel + 1) l a w := by
  refine wpAnyH_all hr (by simp) fun j hj => ?_
  obtain rfl : j = i := by simpa using hj
  unfold wpOp
  simp only [ho, hg, if_true]
  refine .inl ?_
  unfold Oper.wp
  rcases hrun with hrun | ⟨hrun, rfl⟩ <;> rw [hrun] <;> exact ⟨hS, h⟩
theorem wp_regionH_fuel {id : Nat} {a : Act} {w : World} (S : World → Prop) (n : Nat) (l : Array Bool) (hm : P.follows .mixedOrders = true) (hn : ops.size = n) (hl : Array.replicate n false = l) (h : wpAnyH P .any ops Q S n l a w.drew) : (Code.region id ops true).wp P Q a w := by
  subst hn; subst hl; exact wp_region_held hm h
end
/-- A whole struct is loaded. -/
theorem exec_load_row {o : Oper} {ρ : Operand → Value} {w : World} (ty : TypeId) (x : Operand) (ho : o.op = .load ty x) (g : Nat) (hx : ρ x = .pointer (some ⟨g, 0, none⟩)) (t : TypeId) (cs : Array Value) (fr : Nat × Nat) (d : TypeDesc) (hg : w.heap[g]? = some (.cells cs t fr))
    (hu : P.underlying ty = some d) (hd : (match d with | .struct _ | .array _ _ => true | _ => false) = true) (hi : (P.info? ty).map (·.size) = some cs.size) :
    (execOp ρ o).run P w = .ok (.value (.agg cs)) w := by
  unfold execOp
  simp only [ho, hx, Instr.loadAt, Instr.sureAddr, Sem.run_bind, Sem.run_pure, Result.andThen_ok, run_loadVar_row w g t ty cs fr d hg hu hd hi]
/-- A whole struct is stored. -/
theorem exec_store_row {o : Oper} {ρ : Operand → Value} {w : World} (ty : TypeId) (x y : Operand) (ho : o.op = .store ty x y) (g : Nat) (cells : Array Value) (hx : ρ x = .pointer (some ⟨g, 0, none⟩)) (hy : ρ y = .agg cells)
    (t : TypeId) (old : Array Value) (hg : w.heap[g]? = some (.cells old t (0, 0))) (hi : (P.info? ty).map (·.size) = some cells.size) (hold : old.size = cells.size) (h1 : cells.all (·.oneCell') = true) :
    (execOp ρ o).run P w = .ok .skip (w.setRow g cells) := by
  unfold execOp
  simp only [ho, hx, hy, Instr.storeAt, Instr.sureAddr, Sem.run_bind, Sem.run_pure, Result.andThen_ok, run_storeVar_row w g t ty old cells hg hi hold h1]
/-- The greater one of two numbers. -/
theorem exec_max {o : Oper} {ρ : Operand → Value} {w : World} (x y : Operand) (ts : Array TypeId) (ho : o.op = .call { callee := .builtin .max, args := #[x, y], argTypes := ts }) (k : IntKind) (a b : Int) (hx : ρ x = .int k a) (hy : ρ y = .int k b) :
    (execOp ρ o).run P w = .ok (.value (.int k (max a b))) w := by
  unfold execOp
  simp [ho, hx, hy, resolve, invoke, builtin, Builtin.max_, Builtin.max2]
  rw [Int.max_def]
  split <;> split <;> omega
/-- One cell is loaded. -/
theorem exec_load_cell {o : Oper} {ρ : Operand → Value} {w : World} (ty : TypeId) (x : Operand) (ho : o.op = .load ty x) (a : Addr) (hx : ρ x = .pointer (some a)) (d : TypeDesc) (v : Value) (hu : P.underlying ty = some d)
    (hd : (match d with | .struct _ | .array _ _ => false | _ => true) = true) (hc : w.cell? a = some v) : (execOp ρ o).run P w = .ok (.value v) w := by
  unfold execOp
  cases d <;> simp at hd <;> (simp [ho, hx, Instr.loadAt, Instr.sureAddr, loadVar, isAgg, run_underlying hu, go_sem]; simp [hc, Result.andThen])
end
end Go.Own
namespace Go.Own
open Go Go.RowKit
/-- Of the blocks that were there, those outside M are as they were; none has gone. -/
structure Keeps (M : Nat → Prop) (w w' : World) : Prop where
  os : w'.os = w.os
  tape : w'.tape = w.tape
  output : w'.output = w.output
  size : w.heap.size ≤ w'.heap.size
  block : ∀ k, k < w.heap.size → ¬ M k → w'.heap[k]? = w.heap[k]?
/-- No block that was there is turned. -/
def Nob : Nat → Prop := fun _ => False
/-- One block alone. -/
def One (b : Nat) : Nat → Prop := fun k => k = b
theorem Keeps.refl (M : Nat → Prop) (w : World) : Keeps M w w := ⟨rfl, rfl, rfl, Nat.le_refl _, fun _ _ _ => rfl⟩
theorem Keeps.trans {M : Nat → Prop} {a b c : World} (h : Keeps M a b) (k : Keeps M b c) : Keeps M a c :=
  ⟨k.os.trans h.os, k.tape.trans h.tape, k.output.trans h.output, Nat.le_trans h.size k.size,
    fun i hi hm => (k.block i (Nat.lt_of_lt_of_le hi h.size) hm).trans (h.block i hi hm)⟩
theorem Keeps.mono {M M' : Nat → Prop} {w w' : World} (h : Keeps M w w') (hm : ∀ k, k < w.heap.size → M k → M' k) : Keeps M' w w' :=
  ⟨h.os, h.tape, h.output, h.size, fun k hk hn => h.block k hk (fun x => hn (hm k hk x))⟩
theorem Keeps.drew {M : Nat → Prop} {a w : World} (h : Keeps M a w) : Keeps M a w.drew := ⟨h.os, h.tape, h.output, h.size, h.block⟩
theorem Keeps.drewN {M : Nat → Prop} {a w : World} (n : Nat) (h : Keeps M a w) : Keeps M a (w.drewN n) := ⟨h.os, h.tape, h.output, h.size, h.block⟩
theorem Keeps.alloc {M : Nat → Prop} {a w : World} (h : Keeps M a w) (o : Obj) : Keeps M a (w.alloc o) :=
  ⟨h.os, h.tape, h.output, by have := h.size; simp; omega, fun k hk hm => (Below.heap_alloc w o k (Nat.lt_of_lt_of_le hk h.size)).trans (h.block k hk hm)⟩
theorem Keeps.setCell {M : Nat → Prop} {a w : World} (h : Keeps M a w) {p : Addr} (hp : p.block < a.heap.size → M p.block) (u : Value) : Keeps M a (w.setCell p u) :=
  ⟨h.os, h.tape, h.output, by have := h.size; simp; omega, fun k hk hm => (Below.heap_setCell w p u k (fun e => hm (e ▸ hp (e ▸ hk)))).trans (h.block k hk hm)⟩
theorem Keeps.setOne {b i : Nat} {a w : World} (h : Keeps (One b) a w) (u : Value) : Keeps (One b) a (w.setCell ⟨b, i, none⟩ u) := h.setCell (p := ⟨b, i, none⟩) (fun _ => rfl) u
theorem Keeps.setCell_new {M : Nat → Prop} {a w : World} (h : Keeps M a w) {p : Addr} (hp : a.heap.size ≤ p.block) (u : Value) : Keeps M a (w.setCell p u) :=
  h.setCell (fun x => absurd x (by omega)) u
theorem Keeps.setRow {M : Nat → Prop} {a w : World} (h : Keeps M a w) {g : Nat} (hg : g < a.heap.size → M g) (cs : Array Value) : Keeps M a (w.setRow g cs) :=
  ⟨h.os, h.tape, h.output, by have := h.size; simp; omega, fun k hk hm => (setRow_other w g k cs (fun e => hm (e ▸ hg (e ▸ hk)))).trans (h.block k hk hm)⟩
theorem Keeps.cell {M : Nat → Prop} {w w' : World} (h : Keeps M w w') {k i : Nat} (hk : k < w.heap.size) (hm : ¬ M k) : w'.cell? ⟨k, i, none⟩ = w.cell? ⟨k, i, none⟩ :=
  World.cell?_of_block (w := w) (h.block k hk hm)
theorem Keeps.frozen {M : Nat → Prop} {w w' : World} (h : Keeps M w w') {k i : Nat} (hk : k < w.heap.size) (hm : ¬ M k) : w'.frozen? ⟨k, i, none⟩ = w.frozen? ⟨k, i, none⟩ :=
  World.frozen?_of_block (w := w) (h.block k hk hm)
theorem Keeps.below {M : Nat → Prop} {w w' : World} {B : Nat} (h : Keeps M w w') (hB : B ≤ w.heap.size) (hm : ∀ k, k < B → ¬ M k) : Below B w w' :=
  ⟨h.os, h.tape, h.output, h.size, fun k hk => h.block k (Nat.lt_of_lt_of_le hk hB) (hm k hk)⟩
theorem Keeps.grown {M : Nat → Prop} {a w w' : World} {row : Option Nat} (h : Keeps M a w) (hg : w.grownBy w' row) (hr : ∀ k, row = some k → k < a.heap.size → M k) : Keeps M a w' :=
  ⟨hg.os.trans h.os, hg.tape.trans h.tape, hg.output.trans h.output, Nat.le_trans h.size hg.size, fun k hk hn =>
    (hg.block k (Nat.lt_of_lt_of_le hk h.size) (fun e => hn (hr k e.symm hk))).trans (h.block k hk hn)⟩
/-- Two steps: the second may turn what is new. -/
theorem Keeps.then {M M' : Nat → Prop} {a b c : World} (h : Keeps M a b) (k : Keeps M' b c) (hm : ∀ i, i < a.heap.size → M' i → M i) : Keeps M a c :=
  ⟨k.os.trans h.os, k.tape.trans h.tape, k.output.trans h.output, Nat.le_trans h.size k.size,
    fun i hi hn => (k.block i (Nat.lt_of_lt_of_le hi h.size) (fun x => hn (hm i hi x))).trans (h.block i hi hn)⟩
section
variable {P : Program} {ops : Array Oper} {rest : List Oper} {o : Oper} {a : Act} {w : World} {Q : Exit → Act → World → Prop}
end
end Go.Own
namespace Go.Own
open Go Go.RowKit
/-- A slice value v of type e's elements (size cells each) that holds the cells xs, n elements. -/
abbrev Row (w : World) (e : TypeId) (size : Nat) (v : Value) (n : Nat) (xs : List Value) : Prop := w.ownsRow 0 e size v n xs
theorem Row.lt {w : World} {e : TypeId} {size n : Nat} {v : Value} {xs : List Value} (h : Row w e size v n xs) {k : Nat} (hk : v.ownBlock = some k) : k < w.heap.size := (World.ownsRow.lt h k hk).2
theorem Row.heap {w w' : World} {size n : Nat} {e : TypeId} {v : Value} {xs : List Value} (h : Row w e size v n xs) (hk : ∀ k, v.ownBlock = some k → w'.heap[k]? = w.heap[k]?) : Row w' e size v n xs := by
  obtain ⟨h1, h2⟩ := h
  refine ⟨h1, ?_⟩
  rcases h2 with h2 | ⟨g, cap, cur, rfl, hb, hg, r⟩
  · exact .inl h2
  · exact .inr ⟨g, cap, cur, rfl, hb, (hk g rfl).trans hg, r⟩
theorem Row.keeps {w w' : World} {M : Nat → Prop} {size n : Nat} {e : TypeId} {v : Value} {xs : List Value} (h : Row w e size v n xs) (k : Keeps M w w') (hm : ∀ j, v.ownBlock = some j → ¬ M j) : Row w' e size v n xs :=
  h.heap fun j hj => k.block j (h.lt hj) (hm j hj)
/-- Which elements' type lies in the row's block. -/
theorem Row.elem {w : World} {e : TypeId} {size n : Nat} {v : Value} {xs : List Value} (h : Row w e size v n xs) {k : Nat} (hk : v.ownBlock = some k) : ∃ cs, w.heap[k]? = some (.cells cs e (0, 0)) := by
  rcases h.2 with ⟨rfl, _⟩ | ⟨g, cap, cur, rfl, _, hg, _⟩
  · cases hk
  · cases hk; exact ⟨_, hg⟩
theorem Row.slice {w : World} {e : TypeId} {size n : Nat} {v : Value} {xs : List Value} (h : Row w e size v n xs) (hn : v ≠ .slice none 0 0) : ∃ g cap, v = .slice (some ⟨g, 0, none⟩) n cap := by
  rcases h.2 with ⟨e, _⟩ | ⟨g, cap, cur, e, _⟩
  · exact absurd e hn
  · exact ⟨g, cap, e⟩
section
variable {P : Program} {w : World}
/-- 'append' to an own row: the new row lies in the old block or in a new one. -/
theorem run_append_row (t ty e : TypeId) (i : TypeInfo) (z : Value) (size bytes : Nat) (ht : P.underlying t = some (.slice e)) (hi : P.info? e = some i) (hz : i.zero = some z)
    (hsize : i.size = size) (hby : i.bytes = bytes) (hzs : z.cells.size = size) (hsz : 0 < size)
    (v : Value) (n : Nat) (xs : List Value) (hown : Row w e size v n xs)
    (a : Addr) (m c : Nat) (news : List Value) (hl : news.length = m * size) (hnews : ∀ j u, news[j]? = some u → w.cell? (a.add j) = some u) (h1 : ∀ u ∈ news, u.oneCell' = true)
    (h63 : n + m ≤ maxLen) (hbytes : (n + m) * bytes ≤ 140737488355328) :
    ∃ v' w', (Builtin.append_ #[t, t] ty #[v, .slice (some a) m c]).run P w = .ok v' w' ∧ Row w' e size v' (n + m) (xs ++ news) ∧ w.grownBy w' v.ownBlock ∧
      (v' = .slice none 0 0 ↔ v = .slice none 0 0 ∧ m = 0) ∧ ∀ k, v'.ownBlock = some k → v.ownBlock = some k ∨ k = w.heap.size ∧ w.heap.size < w'.heap.size := by
  have hown2 := hown
  obtain ⟨v', w', hr, ho, hg, hn⟩ := run_append_own (P := P) w 0 t ty e i z size bytes ht hi hz hsize hby hzs hsz v n xs hown a m c news hl hnews h1 h63 hbytes (Nat.zero_le _)
  refine ⟨v', w', hr, ho, hg, hn, ?_⟩
  subst hsize; subst hby
  rcases hown2.2 with ⟨rfl, rfl⟩ | ⟨g, cap, cur, rfl, hbg, hgc, hnc, hcm, hcs, htake⟩
  · have hx : xs = [] := List.eq_nil_of_length_eq_zero (by simpa using hown.1)
    subst hx
    by_cases hm : m = 0
    · intro k hk
      rw [hn.2 ⟨rfl, hm⟩] at hk
      cases hk
    · have hr2 := run_append_nil (P := P) w t ty e i z ht hi hz a m c news hl hnews (by omega) (by simp only [maxLen] at h63; omega) (by have hb := hbytes; simp only [Nat.zero_add] at hb; omega)
      have e1 := hr.symm.trans hr2
      simp only [Result.ok.injEq] at e1
      intro k hk
      rw [e1.1] at hk
      cases hk
      exact .inr ⟨rfl, by rw [e1.2]; simp⟩
  · by_cases hroom : n + m ≤ cap
    · have hfit : n * i.size + news.length ≤ cur.size := by rw [hl, hcs, ← Nat.add_mul]; exact Nat.mul_le_mul_right _ hroom
      have hr2 := run_append_room (P := P) w t ty e i ht hi g n cap cur hgc a m c news hl hnews h1 hroom hfit
      have e1 := hr.symm.trans hr2
      simp only [Result.ok.injEq] at e1
      intro k hk
      rw [e1.1] at hk
      exact .inl hk
    · have holds : ∀ j u, xs[j]? = some u → w.cell? ((⟨g, 0, none⟩ : Addr).add j) = some u := World.ownsRow.cells hown (g := g) rfl
      have hr2 := run_append_grow (P := P) w t ty e i z ht hi hz ⟨g, 0, none⟩ n cap xs hown.1 holds a m c news hl hnews (by omega) (by simp only [maxLen] at h63; omega) (growslice_fits (by omega) hbytes)
      have e1 := hr.symm.trans hr2
      simp only [Result.ok.injEq] at e1
      intro k hk
      rw [e1.1] at hk
      cases hk
      exact .inr ⟨rfl, by rw [e1.2]; simp⟩
/-- What is appended: none, or cells that lie somewhere. -/
def Src (w : World) (size : Nat) (x : Value) (m : Nat) (news : List Value) : Prop :=
  news.length = m * size ∧ (∀ u ∈ news, u.oneCell' = true) ∧ ((x = .slice none 0 0 ∧ m = 0) ∨ ∃ ad c, x = .slice (some ad) m c ∧ ∀ j u, news[j]? = some u → w.cell? (ad.add j) = some u)
theorem Row.src {e : TypeId} {size n : Nat} {v : Value} {xs : List Value} (h : Row w e size v n xs) (h1 : ∀ u ∈ xs, u.oneCell' = true) : Src w size v n xs := by
  refine ⟨h.1, h1, ?_⟩
  rcases h.2 with ⟨rfl, h0⟩ | ⟨g, cap, cur, rfl, hb, hg, r⟩
  · exact .inl ⟨rfl, h0⟩
  · exact .inr ⟨_, _, rfl, fun j u hj => World.ownsRow.cells h (g := g) rfl j u hj⟩
theorem Src.new (w : World) (size m : Nat) (cs : List Value) (t : TypeId) (hl : cs.length = m * size) (h1 : ∀ u ∈ cs, u.oneCell' = true) (c : Nat) : Src (w.alloc (.cells cs.toArray t)) size (.slice (some ⟨w.heap.size, 0, none⟩) m c) m cs :=
  ⟨hl, h1, .inr ⟨_, _, rfl, fun j u hj => by
    simp only [Addr.add_lit, Nat.zero_add]
    rw [World.cell?_alloc_at _ _ _ _ rfl]
    simpa using hj⟩⟩
theorem Src.heap {w' : World} {size m : Nat} {x : Value} {news : List Value} (h : Src w size x m news) (hc : ∀ a u, w.cell? a = some u → w'.cell? a = some u) : Src w' size x m news :=
  ⟨h.1, h.2.1, h.2.2.elim .inl fun ⟨ad, c, e, hx⟩ => .inr ⟨ad, c, e, fun j u hj => hc _ _ (hx j u hj)⟩⟩
/-- A row that is not empty is spelled out. -/
theorem Row.spell {e : TypeId} {size n : Nat} {v : Value} {xs : List Value} (h : Row w e size v n xs) (hn : 0 < n) : ∃ g cap, v = .slice (some ⟨g, 0, none⟩) n cap ∧ g < w.heap.size := by
  rcases h.2 with ⟨_, h0⟩ | ⟨g, cap, cur, rfl, _, hg, _⟩
  · omega
  · exact ⟨g, cap, rfl, (Array.getElem?_eq_some_iff.1 hg).1⟩
theorem Row.cap {e : TypeId} {size n n' g cap : Nat} {xs : List Value} (h : Row w e size (.slice (some ⟨g, 0, none⟩) n cap) n' xs) : n ≤ cap ∧ cap ≤ 9223372036854775807 := by
  rcases h.2 with ⟨h0, _⟩ | ⟨g, cap, cur, h0, _, _, h1, h2, _⟩
  · cases h0
  · simp only [Value.slice.injEq] at h0
    obtain ⟨_, rfl, rfl⟩ := h0
    exact ⟨h1, by unfold maxLen at h2; omega⟩
theorem Row.one {e : TypeId} {size n : Nat} {v : Value} {xs : List Value} (h : Row w e size v n xs) : v.oneCell' = true := by
  rcases h.2 with ⟨rfl, _⟩ | ⟨g, cap, cur, rfl, _⟩ <;> rfl
/-- Its block is no block of another kind of elements. -/
theorem Row.ne {e t : TypeId} {size n b : Nat} {v : Value} {xs : List Value} {cs : Array Value} {fr : Nat × Nat} (h : Row w e size v n xs) (hb : w.heap[b]? = some (.cells cs t fr)) (hne : e ≠ t) : v.ownBlock ≠ some b := by
  intro he
  obtain ⟨cs', hc⟩ := h.elem he
  rw [hb] at hc
  simp only [Option.some.injEq, Obj.cells.injEq] at hc
  exact hne hc.2.1.symm
theorem run_append_any (t ty e : TypeId) (i : TypeInfo) (z : Value) (size bytes : Nat) (ht : P.underlying t = some (.slice e)) (hi : P.info? e = some i) (hz : i.zero = some z)
    (hsize : i.size = size) (hby : i.bytes = bytes) (hzs : z.cells.size = size) (hsz : 0 < size)
    (v : Value) (n : Nat) (xs : List Value) (hown : Row w e size v n xs) (x : Value) (m : Nat) (news : List Value) (hsrc : Src w size x m news)
    (h63 : n + m ≤ maxLen) (hbytes : (n + m) * bytes ≤ 140737488355328) :
    ∃ v' w', (Builtin.append_ #[t, t] ty #[v, x]).run P w = .ok v' w' ∧ Row w' e size v' (n + m) (xs ++ news) ∧ w.grownBy w' v.ownBlock ∧
      (v' = .slice none 0 0 ↔ v = .slice none 0 0 ∧ m = 0) ∧ ∀ k, v'.ownBlock = some k → v.ownBlock = some k ∨ k = w.heap.size ∧ w.heap.size < w'.heap.size := by
  obtain ⟨hl, h1, ⟨rfl, rfl⟩ | ⟨ad, c, rfl, hc⟩⟩ := hsrc
  · have hn : news = [] := List.eq_nil_of_length_eq_zero (by simpa using hl)
    subst hn
    have hrun := run_append_owned_none (P := P) (w := w) 0 t ty e i size ht hi v n xs hown
    exact ⟨v, w, hrun, by simpa using hown, World.grownBy.refl w _, by simp, fun k hk => .inl hk⟩
  · exact run_append_row t ty e i z size bytes ht hi hz hsize hby hzs hsz v n xs hown ad m c news hl hc h1 h63 hbytes
/-- 'append(v, x...)' to an own row, in a walk. -/
theorem own_append2 {ops : Array Oper} {rest : List Oper} {o : Oper} {a : Act} {Q : Exit → Act → World → Prop} (hgd : o.guard = none) (s x : Operand) (t : TypeId)
    (ho : o.op = .call { callee := .builtin .append, args := #[s, x], argTypes := #[t, t] })
    (e : TypeId) (i : TypeInfo) (z : Value) (size bytes : Nat) (ht : P.underlying t = some (.slice e)) (hi : P.info? e = some i) (hz : i.zero = some z)
    (hsize : i.size = size) (hby : i.bytes = bytes) (hzs : z.cells.size = size) (hsz : 0 < size)
    (v : Value) (n : Nat) (xs : List Value) (hs : a.eval s = v) (hown : Row w e size v n xs)
    (y : Value) (m : Nat) (news : List Value) (hx : a.eval x = y) (hsrc : Src w size y m news)
    (h63 : n + m ≤ maxLen) (hbytes : (n + m) * bytes ≤ 140737488355328)
    (h : ∀ v' w', Row w' e size v' (n + m) (xs ++ news) → w.grownBy w' v.ownBlock → (v' = .slice none 0 0 ↔ v = .slice none 0 0 ∧ m = 0) → (∀ k, v'.ownBlock = some k → v.ownBlock = some k ∨ k = w.heap.size ∧ w.heap.size < w'.heap.size) → wpList P ops Q rest (a.put o.dst v') w') : wpList P ops Q (o :: rest) a w := by
  obtain ⟨v', w', hr, h2, h3, h4, h5⟩ := run_append_any (P := P) t o.type e i z size bytes ht hi hz hsize hby hzs hsz v n xs hown y m news hsrc h63 hbytes
  refine wpList_plain hgd fun K hK => ?_
  unfold Oper.wp execOp
  simp only [ho, resolve, invoke, builtin, Sem.run_bind, Sem.run_pure, Result.andThen_ok, List.map_toArray, List.map_cons, List.map_nil, hs, hx, hr]
  exact hK _ _ (h v' w' h2 h3 h4 h5)
/-- The same, inside a fence. -/
theorem own_append2_in {F : Fence} {N : Nat} {ops : Array Oper} {rest : List Oper} {o : Oper} {a : Act} {Q : Exit → Act → World → Prop} (hgd : o.guard = none) (s x : Operand) (t : TypeId)
    (ho : o.op = .call { callee := .builtin .append, args := #[s, x], argTypes := #[t, t] })
    (e : TypeId) (i : TypeInfo) (z : Value) (size bytes : Nat) (ht : P.underlying t = some (.slice e)) (hi : P.info? e = some i) (hz : i.zero = some z)
    (hsize : i.size = size) (hby : i.bytes = bytes) (hzs : z.cells.size = size) (hsz : 0 < size)
    (v : Value) (n : Nat) (xs : List Value) (hs : a.eval s = v) (hown : Row w e size v n xs)
    (y : Value) (m : Nat) (news : List Value) (hx : a.eval x = y) (hsrc : Src w size y m news)
    (h63 : n + m ≤ maxLen) (hbytes : (n + m) * bytes ≤ 140737488355328)
    (h : ∀ v' w', Row w' e size v' (n + m) (xs ++ news) → w.grownBy w' v.ownBlock → (v' = .slice none 0 0 ↔ v = .slice none 0 0 ∧ m = 0) → (∀ k, v'.ownBlock = some k → v.ownBlock = some k ∨ k = w.heap.size ∧ w.heap.size < w'.heap.size) → wpListIn F N P ops Q rest (a.put o.dst v') w') : wpListIn F N P ops Q (o :: rest) a w := by
  obtain ⟨v', w', hr, h2, h3, h4, h5⟩ := run_append_any (P := P) t o.type e i z size bytes ht hi hz hsize hby hzs hsz v n xs hown y m news hsrc h63 hbytes
  refine wpListIn_plain hgd fun K hK => ?_
  unfold Oper.wpIn
  refine ⟨?_, ?_⟩
  · simp [Oper.about, ho, resolve, Target.leads, Sem.run_pure]
  · rw [Oper.semAt_plain F _ _ (by rw [ho]; intro c hc'; cases hc')]
    simp [execOp, ho, resolve, invoke, builtin, hs, hx, hr, Result.andThen]
    exact hK _ _ (h v' w' h2 h3 h4 h5)
end
end Go.Own
namespace Go.Own
open Go Go.RowKit
/-- The cells of bytes. -/
def B (l : List UInt8) : List Value := l.map fun x => .int .u8 (x.toNat : Int)
theorem B_length (l : List UInt8) : (B l).length = l.length := by simp [B]
theorem B_get (l : List UInt8) (k : Nat) (x : UInt8) (h : l[k]? = some x) : (B l)[k]? = some (.int .u8 (x.toNat : Int)) := by simp [B, h]
theorem B_append (l m : List UInt8) : B (l ++ m) = B l ++ B m := by simp [B]
theorem B_one (l : List UInt8) : ∀ u ∈ B l, u.oneCell' = true := by
  intro u hu
  simp only [B, List.mem_map] at hu
  obtain ⟨x, _, rfl⟩ := hu
  rfl
theorem B_get_inv (l : List UInt8) (k : Nat) (u : Value) (h : (B l)[k]? = some u) : ∃ x, l[k]? = some x ∧ u = .int .u8 (x.toNat : Int) := by
  simp only [B, List.getElem?_map, Option.map_eq_some_iff] at h
  obtain ⟨x, h1, h2⟩ := h
  exact ⟨x, h1, h2.symm⟩
theorem B_take (l : List UInt8) (k : Nat) : (B l).take k = B (l.take k) := by simp [B, List.map_take]
theorem B_drop (l : List UInt8) (k : Nat) : (B l).drop k = B (l.drop k) := by simp [B, List.map_drop]
/-- A slice of bytes that reads as a list; nil too. -/
structure BytesAt (w : World) (v : Value) (l : List UInt8) : Prop where
  form : ∃ A cap, v = .slice A l.length cap ∧ l.length ≤ cap ∧ cap ≤ maxLen ∧ (A = none → cap = 0)
  at_ : ∀ k x, l[k]? = some x → ∃ b o cap, v = .slice (some ⟨b, o, none⟩) l.length cap ∧ b < w.heap.size ∧ w.cell? ⟨b, o + k, none⟩ = some (.int .u8 (x.toNat : Int))
/-- What 's[k:]' is. -/
def cutV (A : Option Addr) (n cap k : Nat) : Value := .slice (if cap = k then A else A.map (·.add k)) (n - k) (cap - k)
section
variable {w w' : World} {v : Value} {l : List UInt8}
theorem BytesAt.len (h : BytesAt w v l) : ∃ A cap, v = .slice A l.length cap := let ⟨A, c, e, _⟩ := h.form; ⟨A, c, e⟩
theorem BytesAt.keeps {M : Nat → Prop} (h : BytesAt w v l) (k : Keeps M w w') (hm : ∀ j, v.ownBlock = some j → ¬ M j) : BytesAt w' v l :=
  ⟨h.form, fun i x hi => by
    obtain ⟨b, o, cap, e, hb, hc⟩ := h.at_ i x hi
    exact ⟨b, o, cap, e, Nat.lt_of_lt_of_le hb k.size, (k.cell hb (hm b (by rw [e]; rfl))).trans hc⟩⟩
theorem BytesAt.keepsN (h : BytesAt w v l) (k : Keeps Nob w w') : BytesAt w' v l := h.keeps k (fun _ _ x => x)
theorem BytesAt.nil (w : World) : BytesAt w (.slice none 0 0) [] := ⟨⟨none, 0, rfl, Nat.le_refl _, by unfold maxLen; omega, fun _ => rfl⟩, fun k x h => by simp at h⟩
theorem Row.bytes {e : TypeId} (h : Row w e 1 v l.length (B l)) : BytesAt w v l := by
  refine ⟨?_, fun k x hk => ?_⟩
  · rcases h.2 with ⟨rfl, h0⟩ | ⟨g, cap, cur, rfl, _, _, hn, hc, _⟩
    · exact ⟨none, 0, by rw [h0], by omega, by unfold maxLen; omega, fun _ => rfl⟩
    · exact ⟨_, _, rfl, hn, hc, fun h => by cases h⟩
  · rcases h.2 with ⟨rfl, h0⟩ | ⟨g, cap, cur, rfl, _, hg, hn, hc, _⟩
    · have : l = [] := List.eq_nil_of_length_eq_zero h0
      subst this; simp at hk
    · refine ⟨g, 0, cap, rfl, (Array.getElem?_eq_some_iff.1 hg).1, ?_⟩
      have := World.ownsRow.cells h (g := g) rfl k _ (B_get l k x hk)
      simpa [Addr.add_lit] using this
theorem Row.newB (w : World) (l : List UInt8) (t : TypeId) (hl : l.length ≤ maxLen) : Row (w.alloc (.cells (B l).toArray t)) t 1 (.slice (some ⟨w.heap.size, 0, none⟩) l.length l.length) l.length (B l) :=
  ⟨by simp [B_length], .inr ⟨_, _, _, rfl, Nat.zero_le _, heap_alloc_new _ _, Nat.le_refl _, hl, by simp [B_length], by rw [Nat.mul_one]; exact List.take_of_length_le (by simp [B_length])⟩⟩
/-- What lies behind a place. -/
theorem BytesAt.drop (h : BytesAt w v l) (k : Nat) (hk : k ≤ l.length) : ∀ A n cap, v = .slice A n cap → BytesAt w (cutV A n cap k) (l.drop k) := by
  intro A n cap hv
  unfold cutV
  obtain ⟨A', cap', e, h1, h2, h3⟩ := h.form
  rw [e] at hv
  simp only [Value.slice.injEq] at hv
  obtain ⟨rfl, rfl, rfl⟩ := hv
  refine ⟨⟨_, _, by rw [List.length_drop], by rw [List.length_drop]; omega, by omega, fun hn => ?_⟩, fun i x hi => ?_⟩
  · split at hn
    · omega
    · cases A' with
      | none => have := h3 rfl; omega
      | some a => cases hn
  rw [List.getElem?_drop] at hi
  obtain ⟨b, o, c, e2, hb, hc⟩ := h.at_ _ x hi
  rw [e] at e2
  simp only [Value.slice.injEq, true_and] at e2
  obtain ⟨rfl, rfl⟩ := e2
  have hlt : k + i < l.length := (List.getElem?_eq_some_iff.1 hi).1
  rw [if_neg (by omega)]
  exact ⟨b, o + k, cap' - k, by simp [Addr.add_lit, List.length_drop], hb, by rw [Nat.add_assoc]; exact hc⟩
theorem BytesAt.take (h : BytesAt w v l) (k : Nat) (hk : k ≤ l.length) : ∀ A n cap, v = .slice A n cap → BytesAt w (.slice A k cap) (l.take k) := by
  intro A n cap hv
  obtain ⟨A', cap', e, h1, h2, h3⟩ := h.form
  rw [e] at hv
  simp only [Value.slice.injEq] at hv
  obtain ⟨rfl, rfl, rfl⟩ := hv
  have hl : (l.take k).length = k := by rw [List.length_take]; omega
  refine ⟨⟨_, _, by rw [hl], by rw [hl]; omega, by omega, h3⟩, fun i x hi => ?_⟩
  have hlt : i < k := by have := (List.getElem?_eq_some_iff.1 hi).1; omega
  rw [List.getElem?_take_of_lt hlt] at hi
  obtain ⟨b, o, c, e2, hb, hc⟩ := h.at_ _ x hi
  rw [e] at e2
  simp only [Value.slice.injEq, true_and] at e2
  obtain ⟨rfl, rfl⟩ := e2
  exact ⟨b, o, _, by rw [hl], hb, hc⟩
/-- It may be appended. -/
theorem BytesAt.src (h : BytesAt w v l) : Src w 1 v l.length (B l) := by
  refine ⟨by simp [B_length], B_one l, ?_⟩
  obtain ⟨A, cap, rfl, h1, h2, h3⟩ := h.form
  cases A with
  | none =>
    have h0 : l = [] := by
      cases l with
      | nil => rfl
      | cons x r => obtain ⟨b, o, c, e, _⟩ := h.at_ 0 x rfl; simp at e
    subst h0
    have := h3 rfl
    subst this
    exact .inl ⟨rfl, rfl⟩
  | some ad =>
    refine .inr ⟨ad, cap, rfl, fun j u hj => ?_⟩
    obtain ⟨x, hx, rfl⟩ := B_get_inv l j u hj
    obtain ⟨b, o, c, e, hb, hc⟩ := h.at_ j x hx
    simp only [Value.slice.injEq, Option.some.injEq] at e
    obtain ⟨rfl, _⟩ := e
    simpa [Addr.add_lit] using hc
end
end Go.Own
namespace Go.Own
open Go Go.RowKit
section
variable {P : Program} {ops : Array Oper} {Q : Exit → Act → World → Prop} {md : Region.Mode} {S : World → Prop}
theorem anyH_two {fuel : Nat} {l : Array Bool} {a : Act} {w : World} (i j : Nat) (hr : Region.ready md ops l = [i, j])
    (h1 : wpOp P ops Q i (fun a' w' => S w' ∧ wpAnyH P md ops Q S fuel (l.setIfInBounds i true) a' w') a w) (h2 : wpOp P ops Q j (fun a' w' => S w' ∧ wpAnyH P md ops Q S fuel (l.setIfInBounds j true) a' w') a w) : wpAnyH P md ops Q S (fuel + 1) l a w := by
  refine wpAnyH_all hr (by simp) fun m hm => ?_
  rcases List.mem_cons.1 hm with rfl | hm
  · exact h1
  · obtain rfl : m = j := by simpa using hm
    exact h2
variable {K : Act → World → Prop} {i : Nat}
theorem opH_run (o : Oper) (v : Value) {a : Act} {w w' : World} (ho : ops[i]? = some o) (hg : Region.wanted o (yielded ops a.tmps) = true)
    (hrun : (execOp a.eval o).run P w = .ok (.value v) w') (h : K (a.put o.dst v) w') : wpOp P ops Q i K a w := by
  unfold wpOp
  simp only [ho, hg, if_true]
  refine .inl ?_
  unfold Oper.wp
  rw [hrun]; exact h
theorem opH_callF (o : Oper) (f : FuncId) (args : Array Value) {a : Act} {w : World} (ho : ops[i]? = some o) (hg : Region.wanted o (yielded ops a.tmps) = true)
    (hc : o.op = .call { callee := .value (.func f), args := callArgs o, argTypes := callTypes o }) (hargs : (callArgs o).map a.eval = args) (he : ∀ args w, (callFunc f args).run P w = .ok (.enter f args) w)
    (h : Calls P f args w fun e w' => ∃ v, e = .returned v ∧ K (a.put o.dst v) w') : wpOp P ops Q i K a w := by
  unfold wpOp
  simp only [ho, hg, if_true]
  refine .inl ?_
  unfold Oper.wp execOp
  simp only [hc, resolve, hargs, Act.eval, Sem.run_bind, Deferred.ofValue, Sem.run_pure, Result.andThen_ok, invoke, Array.append_empty, Array.empty_append, he]
  refine Calls.mono h fun e w' ⟨v, he, hv⟩ => ?_
  subst he
  exact hv
end
/-- A value, spelled otherwise. -/
theorem exec_cast {P : Program} {o : Oper} {ρ : Operand → Value} {w : World} {v v' : Value} (h : v = v') (hr : (execOp ρ o).run P w = .ok (.value v) w) : (execOp ρ o).run P w = .ok (.value v') w := h ▸ hr
end Go.Own
namespace Go.Own
open Go Go.RowKit
variable {P : Program} {ops : Array Oper} {rest : List Oper} {o : Oper} {a : Act} {w w' : World} {Q : Exit → Act → World → Prop}
theorem exec_load_mid {ρ : Operand → Value} (ty : TypeId) (x : Operand) (ho : o.op = .load ty x) (b k : Nat) (hx : ρ x = .pointer (some ⟨b, k, none⟩)) (cs : List Value) (d : TypeDesc) (hc : w.rangeAt b k cs)
    (hu : P.underlying ty = some d) (hd : d.isRow = true) (hi : (P.info? ty).map (·.size) = some cs.length) : (execOp ρ o).run P w = .ok (.value (.agg cs.toArray)) w := by
  unfold execOp
  simp only [ho, hx, Sem.run_bind, run_loadAt_mid w b k ty cs d hc hu hd hi, Result.andThen_ok, Sem.run_pure]
theorem exec_build {ρ : Operand → Value} (t : TypeId) (ps : Array (Nat × Operand)) (ho : o.op = .build t ps) (qs : Array (Nat × Value)) (hq : (ps.map fun (i, x) => (i, ρ x)) = qs)
    {v : Value} (hr : (Instr.build t qs).run P w = .ok v w) : (execOp ρ o).run P w = .ok (.value v) w := by
  subst hq
  unfold execOp
  simp only [ho, Sem.run_bind, hr, Result.andThen_ok, Sem.run_pure]
theorem exec_binop {ρ : Operand → Value} (op : BinOp) (t t' : TypeId) (x y : Operand) (ho : o.op = .binOp op t x y t') (vx vy v : Value) (hx : ρ x = vx) (hy : ρ y = vy) (hg : (eqGuard op t x y vx vy).run P w = .ok () w)
    (hr : (binOp op t vx vy).run P w = .ok v w) : (execOp ρ o).run P w = .ok (.value v) w := by
  unfold execOp
  simp only [ho, hx, hy, Sem.run_bind, hg, hr, Result.andThen_ok, Sem.run_pure]
end Go.Own
namespace Go.Own
open Go Go.RowKit Go.Shelf
/-! Short words of printed walks. -/
abbrev iN (n : Nat) : Value := .int .i64 ((n : Nat) : Int)
abbrev uN (n : Nat) : Value := .int .u64 ((n : Nat) : Int)
abbrev cN (n : Nat) : Value := .int .u8 ((n : Nat) : Int)
abbrev pT (g o : Nat) : Value := .pointer (some ⟨g, o, none⟩)
abbrev zr_i64_25 : Array Value := #[.int .i64 0, .int .i64 0, .int .i64 0, .int .i64 0, .int .i64 0, .int .i64 0, .int .i64 0, .int .i64 0, .int .i64 0, .int .i64 0, .int .i64 0, .int .i64 0, .int .i64 0, .int .i64 0, .int .i64 0, .int .i64 0, .int .i64 0, .int .i64 0, .int .i64 0, .int .i64 0, .int .i64 0, .int .i64 0, .int .i64 0, .int .i64 0, .int .i64 0]
abbrev zr_u64_24 : Array Value := #[.int .u64 0, .int .u64 0, .int .u64 0, .int .u64 0, .int .u64 0, .int .u64 0, .int .u64 0, .int .u64 0, .int .u64 0, .int .u64 0, .int .u64 0, .int .u64 0, .int .u64 0, .int .u64 0, .int .u64 0, .int .u64 0, .int .u64 0, .int .u64 0, .int .u64 0, .int .u64 0, .int .u64 0, .int .u64 0, .int .u64 0, .int .u64 0]
abbrev zr_u64_25 : Array Value := #[.int .u64 0, .int .u64 0, .int .u64 0, .int .u64 0, .int .u64 0, .int .u64 0, .int .u64 0, .int .u64 0, .int .u64 0, .int .u64 0, .int .u64 0, .int .u64 0, .int .u64 0, .int .u64 0, .int .u64 0, .int .u64 0, .int .u64 0, .int .u64 0, .int .u64 0, .int .u64 0, .int .u64 0, .int .u64 0, .int .u64 0, .int .u64 0, .int .u64 0]
abbrev zr_u64_5 : Array Value := #[.int .u64 0, .int .u64 0, .int .u64 0, .int .u64 0, .int .u64 0]
abbrev zr_u8_32 : Array Value := #[.int .u8 0, .int .u8 0, .int .u8 0, .int .u8 0, .int .u8 0, .int .u8 0, .int .u8 0, .int .u8 0, .int .u8 0, .int .u8 0, .int .u8 0, .int .u8 0, .int .u8 0, .int .u8 0, .int .u8 0, .int .u8 0, .int .u8 0, .int .u8 0, .int .u8 0, .int .u8 0, .int .u8 0, .int .u8 0, .int .u8 0, .int .u8 0, .int .u8 0, .int .u8 0, .int .u8 0, .int .u8 0, .int .u8 0, .int .u8 0, .int .u8 0, .int .u8 0]
abbrev zr_u8_8 : Array Value := #[.int .u8 0, .int .u8 0, .int .u8 0, .int .u8 0, .int .u8 0, .int .u8 0, .int .u8 0, .int .u8 0]
theorem Keeps.bk {g : Nat} {W W' : World} (k : Keeps Nob W W') {x : Obj} (h : W.heap[g]? = some x) : W'.heap[g]? = some x := (k.block g (Array.getElem?_eq_some_iff.1 h).1 (fun x => x)).trans h
theorem Keeps.bo {g j : Nat} {W W' : World} (k : Keeps (One j) W W') {x : Obj} (h : W.heap[g]? = some x) (hne : g ≠ j) : W'.heap[g]? = some x := (k.block g (Array.getElem?_eq_some_iff.1 h).1 hne).trans h
theorem Keeps.nn {M : Nat → Prop} {w V V' : World} (K : Keeps M w V) (k : Keeps Nob V V') : Keeps M w V' := K.then k (fun _ _ x => x.elim)
theorem Keeps.no {M : Nat → Prop} {g : Nat} {w V V' : World} (K : Keeps M w V) (k : Keeps (One g) V V') (h : w.heap.size ≤ g) : Keeps M w V' := K.then k (fun i hi hm => absurd hi (by unfold One at hm; omega))
theorem drew_step (W : World) : ∃ V, W.drew = V ∧ Keeps Nob W V := ⟨_, rfl, (Keeps.refl _ _).drew⟩
theorem alloc_step (W : World) (c : Array Value) (T : TypeId) : ∃ V, W.alloc (.cells c T) = V ∧ ∃ g, W.heap.size = g ∧ V.heap[g]? = some (.cells c T (0, 0)) ∧ Keeps Nob W V := ⟨_, rfl, _, rfl, heap_alloc_new _ _, (Keeps.refl _ _).alloc _⟩
theorem cell_step (W : World) (g o : Nat) (v : Value) : ∃ V, W.setCell ⟨g, o, none⟩ v = V ∧ Keeps (One g) W V := ⟨_, rfl, (Keeps.refl _ _).setOne _⟩
theorem rowset_step (W : World) (g : Nat) (c : Array Value) : ∃ V, W.setRow g c = V ∧ Keeps (One g) W V := ⟨_, rfl, (Keeps.refl (One g) _).setRow (fun _ => rfl) _⟩
/-- A part of a body, by its place: a number in base 2 whose first digit is cut off; 0: the left, 1: the right. -/
noncomputable def sub : List Bool → Code → Code
  | [], c => c
  | p :: r, .seq x y => sub r (bif p then y else x)
  | _ :: r, .block _ x => sub r x
  | p :: r, .cond _ x y => sub r (bif p then y else x)
  | _ :: r, .loop x => sub r x
  | p :: r, .rangeFunc _ _ x y => sub r (bif p then y else x)
  | _ :: _, c => c
def placeOf : Nat → Nat → List Bool
  | 0, _ => []
  | f + 1, n => if n ≤ 1 then [] else placeOf f (n / 2) ++ [n % 2 == 1]
noncomputable def partOf (f : Func) (n : Nat) : Code := sub (placeOf 200 n) (f.body.getD .skip)
noncomputable def opsAt (c : Code) : Array Oper := match c with | .region _ ops _ => ops | _ => #[]
section
variable {P : Program} {Q : Exit → Act → World → Prop} {a : Act} {w : World} {c : Code}
theorem sy_enter {f : FuncId} {fn : Func} {args : Array Value} {R : Ending → World → Prop} (c : Code) (a : Act) (hf : P.funcs[f]? = some fn) (hb : fn.body = some c)
    (ha : ({ tmps := args ++ Array.replicate (fn.ntmps - args.size) undef, defers := [] } : Act) = a) (h : c.wp P (bodyPost P fn R) a w) : Calls P f args w R :=
  calls_of_wp hf hb (ha ▸ h)
theorem sy_seq (x y : Code) (hc : c = .seq x y) (h : x.wp P (Exit.then (y.wp P Q) Q) a w) : c.wp P Q a w := hc ▸ wp_seq h
theorem sy_block (id : Nat) (x : Code) (hc : c = .block id x) (h : x.wp P (Exit.inBlock id Q) a w) : c.wp P Q a w := hc ▸ wp_block h
theorem sy_yes (o : Operand) (x y : Code) (hc : c = .cond o x y) (ho : a.eval o = .bool true) (h : x.wp P Q a w) : c.wp P Q a w := hc ▸ wp_cond_true ho h
theorem sy_no (o : Operand) (x y : Code) (hc : c = .cond o x y) (ho : a.eval o = .bool false) (h : y.wp P Q a w) : c.wp P Q a w := hc ▸ wp_cond_false ho h
theorem sy_skip (hc : c = .skip) (h : Q .normal a w) : c.wp P Q a w := hc ▸ wp_skip h
theorem sy_exit (id : Nat) (hc : c = .exit id) (h : Q (.exit id) a w) : c.wp P Q a w := hc ▸ wp_exit h
theorem sy_ret (hc : c = .ret) (h : Q .ret a w) : c.wp P Q a w := hc ▸ wp_ret h
theorem sy_loop (x : Code) (I : Act → World → Prop) (μ : Act → World → Nat) (hc : c = .loop x) (h0 : I a w)
    (round : ∀ a w, I a w → x.wp P (Exit.then (fun a' w' => I a' w' ∧ μ a' w' < μ a w) Q) a w) : c.wp P Q a w := hc ▸ wp_loop I μ h0 round
/-- What is left of a plain region; of one whose order is open: of its head, of its tail. (Wrapped: else the walk would reckon it.) -/
structure Gops (P : Program) (ops : Array Oper) (Q : Exit → Act → World → Prop) (l : List Nat) (a : Act) (w : World) : Prop where
  out : wpOps P ops Q l a w
structure Gst (P : Program) (ops : Array Oper) (w : World) (K : Act → Prop) (l : List Oper) (a : Act) : Prop where
  out : wpStill P ops w K l a
structure Gls (P : Program) (ops : Array Oper) (Q : Exit → Act → World → Prop) (l : List Oper) (a : Act) (w : World) : Prop where
  out : wpList P ops Q l a w
/-- What a region asks. -/
def RegW (P : Program) (c : Code) (Q : Exit → Act → World → Prop) (a : Act) (w : World) : Prop :=
  (∃ id ops, c = .region id ops false ∧ wpOps P ops Q (List.range ops.size) a w) ∨
  (∃ id ops, c = .region id ops true ∧ P.follows .mixedOrders = true ∧ wpAny P .any ops Q ops.size (Array.replicate ops.size false) a w.drew)
theorem sy_reg (h : RegW P c Q a w) : c.wp P Q a w := by
  rcases h with ⟨id, ops, rfl, h⟩ | ⟨id, ops, rfl, hm, h⟩
  · exact wp_region h
  · exact wp_region_any hm h
theorem sy_np (h : c.wp P (NoPanic Q) a w) : c.wp P Q a w := wp_mono h NoPanic.imp
theorem rg_plain (id : Nat) (ops : Array Oper) (l : List Nat) (hc : c = .region id ops false) (hl : List.range ops.size = l) (h : Gops P ops Q l a w) : RegW P c Q a w :=
  .inl ⟨id, ops, hc, hl ▸ h.out⟩
theorem rg_held (id : Nat) (ops : Array Oper) (S : World → Prop) (n : Nat) (l : Array Bool) (hc : c = .region id ops true) (hm : P.follows .mixedOrders = true) (hn : ops.size = n) (hl : Array.replicate n false = l) (h : wpAnyH P .any ops Q S n l a w.drew) : RegW P c Q a w := by
  subst hn; subst hl; exact .inr ⟨id, ops, hc, hm, wpAny_of_held _ _ _ _ h⟩
theorem sy_a {e : Exit} (b : Act) (hq : Q e b w) (h : a = b := by kernel_rfl) : Q e a w := h ▸ hq
theorem sy_cut (R : Act → World → Prop) (h : c.wp P (fun e a w => e = .normal ∧ R a w) a w) (k : ∀ a w, R a w → Q .normal a w) : c.wp P Q a w := wp_mono h (fun _ a w ⟨h1, h2⟩ => h1 ▸ k a w h2)
theorem sy_rounds (n : Nat) (x : Code) (hc : c = .loop x) (h : Code.rounds P x Q n a w) : c.wp P Q a w := hc ▸ wp_loop_rounds n h
theorem rd_step {n : Nat} (h : c.wp P (Exit.then (Code.rounds P c Q n) Q) a w) : Code.rounds P c Q (n + 1) a w := h
theorem sy_part (c' : Code) (hc : c = c') (h : c'.wp P Q a w) : c.wp P Q a w := hc ▸ h
theorem sy_frame (b : Act) (h : a = b) (hq : c.wp P Q b w) : c.wp P Q a w := h ▸ hq
theorem then_n {next : Act → World → Prop} (h : next a w) : Exit.then next Q .normal a w := h
theorem then_e {next : Act → World → Prop} {id : Nat} (h : Q (.exit id) a w) : Exit.then next Q (.exit id) a w := h
theorem then_r {next : Act → World → Prop} (h : Q .ret a w) : Exit.then next Q .ret a w := h
theorem blk_n {id : Nat} (h : Q .normal a w) : Exit.inBlock id Q .normal a w := h
theorem blk_e {id : Nat} (h : Q .normal a w) : Exit.inBlock id Q (.exit id) a w := by simp only [Exit.inBlock, if_true]; exact h
theorem blk_p {id id' : Nat} (hne : id' ≠ id) (h : Q (.exit id') a w) : Exit.inBlock id Q (.exit id') a w := by simp only [Exit.inBlock, if_neg hne]; exact h
theorem blk_r {id : Nat} (h : Q .ret a w) : Exit.inBlock id Q .ret a w := h
theorem sy_out {fn : Func} {R : Ending → World → Prop} (v : Value) (hd : a.defers = []) (hr : (results fn a.tmps).run P w = .ok v w) (h : R (.returned v) w) : bodyPost P fn R .ret a w := ⟨hd, v, hr, h⟩
theorem sy_fall {fn : Func} {R : Ending → World → Prop} (v : Value) (hd : a.defers = []) (hr : (results fn a.tmps).run P w = .ok v w) (h : R (.returned v) w) : bodyPost P fn R .normal a w := ⟨hd, v, hr, h⟩
/-- Two results: a row, and a temporary. -/
theorem results_row_tmp {fn : Func} {p q : Tmp} {ty : TypeId} (h : fn.results = #[.cell p ty, .tmp q]) (tmps : Array Value) (w : World) (g : Nat) (t : TypeId) (cs : Array Value) (fr : Nat × Nat) (d : TypeDesc) (v : Value)
    (hp : tmps.getD p undef = .pointer (some ⟨g, 0, none⟩)) (hg : w.heap[g]? = some (.cells cs t fr))
    (hu : P.underlying ty = some d) (hd : (match d with | .struct _ | .array _ _ => true | _ => false) = true) (hi : (P.info? ty).map (·.size) = some cs.size) (hq : tmps.getD q undef = v) :
    (results fn tmps).run P w = .ok (.tuple #[.agg cs, v]) w := by
  have hp' : tmps[p]?.getD undef = .pointer (some ⟨g, 0, none⟩) := by simpa using hp
  have hq' : tmps[q]?.getD undef = v := by simpa using hq
  simp [results, h, hp', hq', asAddr, run_loadVar_row w g t ty cs fr d hg hu hd hi]
variable {ops : Array Oper} {i : Nat} {rest : List Nat}
theorem ps_end (h : Q .normal a w) : Gops P ops Q [] a w := ⟨h⟩
theorem ps_run (o : Oper) (v : Value) {w' : World} (ho : ops[i]? = some o) (hg : Region.wanted o (yielded ops a.tmps) = true) (hrun : (execOp a.eval o).run P w = .ok (.value v) w') (h : Gops P ops Q rest (a.put o.dst v) w') : Gops P ops Q (i :: rest) a w :=
  ⟨by rw [wpOps_cons]; exact opH_run o v ho hg hrun h.out⟩
theorem ps_skip (o : Oper) {w' : World} (ho : ops[i]? = some o) (hg : Region.wanted o (yielded ops a.tmps) = true) (hrun : (execOp a.eval o).run P w = .ok .skip w') (h : Gops P ops Q rest (a.put o.dst undef) w') : Gops P ops Q (i :: rest) a w := by
  refine ⟨?_⟩
  rw [wpOps_cons]
  unfold wpOp
  simp only [ho, hg, if_true]
  refine .inl ?_
  unfold Oper.wp
  rw [hrun]; exact h.out
theorem ps_no (o : Oper) (ho : ops[i]? = some o) (hg : Region.wanted o (yielded ops a.tmps) = false) (h : Gops P ops Q rest (a.put o.dst undef) w) : Gops P ops Q (i :: rest) a w := by
  refine ⟨?_⟩
  rw [wpOps_cons]
  unfold wpOp
  simp only [ho, hg, Bool.false_eq_true, if_false]
  exact h.out
theorem ps_call (o : Oper) (f : FuncId) (args : Array Value) (ho : ops[i]? = some o) (hg : Region.wanted o (yielded ops a.tmps) = true)
    (hc : o.op = .call { callee := .value (.func f), args := callArgs o, argTypes := callTypes o }) (hargs : (callArgs o).map a.eval = args) (he : ∀ args w, (callFunc f args).run P w = .ok (.enter f args) w)
    (h : Calls P f args w fun e w' => ∃ v, e = .returned v ∧ Gops P ops Q rest (a.put o.dst v) w') : Gops P ops Q (i :: rest) a w :=
  ⟨by rw [wpOps_cons]; exact opH_callF o f args ho hg hc hargs he (h.mono fun _ _ ⟨v, h1, h2⟩ => ⟨v, h1, h2.out⟩)⟩
theorem ps_callV (o : Oper) (x : Operand) (f : FuncId) (first caps args : Array Value) (ho : ops[i]? = some o) (hg : Region.wanted o (yielded ops a.tmps) = true)
    (hc : o.op = .call { callee := .value x, args := callArgs o, argTypes := callTypes o }) (hx : a.eval x = .func (.func f) first caps) (hargs : first ++ (callArgs o).map a.eval ++ caps = args) (he : ∀ args w, (callFunc f args).run P w = .ok (.enter f args) w)
    (h : Calls P f args w fun e w' => ∃ v, e = .returned v ∧ Gops P ops Q rest (a.put o.dst v) w') : Gops P ops Q (i :: rest) a w := by
  refine ⟨?_⟩
  rw [wpOps_cons]
  unfold wpOp
  simp only [ho, hg, if_true]
  refine .inl ?_
  unfold Oper.wp execOp
  simp only [hc, resolve, hx, Sem.run_bind, Deferred.ofValue, Sem.run_pure, Result.andThen_ok, invoke, hargs, he]
  refine Calls.mono h fun e w' ⟨v, he, hv⟩ => ?_
  subst he
  exact hv.out
/-! A region whose head leaves the world alone, and whose tail goes on step by step. -/
theorem rg_still (id n : Nat) (ops : Array Oper) (hd tl : List Oper) (hc : c = .region id ops true) (hm : P.follows .mixedOrders = true) (hB : Region.lexTailB .any ops n = true) (hh : ops.toList.take n = hd) (ht : ops.toList.drop n = tl)
    (h : Gst P ops w.drew (fun a' => Gls P ops Q tl a' w.drew) hd a) : RegW P c Q a w := by
  subst hh; subst ht
  have h2 : ∀ (l : List Oper) (a : Act) (K K' : Act → Prop), (∀ a, K a → K' a) → wpStill P ops w.drew K l a → wpStill P ops w.drew K' l a := by
    intro l
    induction l with
    | nil => intro a K K' hk h; exact hk a h
    | cons o r ih =>
      intro a K K' hk h
      unfold wpStill at h ⊢
      split at h
      · rename_i hw; rw [if_pos hw]; exact Oper.still_mono (fun a h => ih a K K' hk h) h
      · rename_i hw; rw [if_neg hw]; exact ih _ K K' hk h
  have h3 := h2 _ _ _ (fun a' => wpList P ops Q (ops.toList.drop n) a' w.drew) (fun _ h => h.out) h.out
  refine .inr ⟨id, ops, hc, hm, ?_⟩
  simp only [Region.lexTailB, Bool.and_eq_true, decide_eq_true_eq] at hB
  obtain ⟨⟨⟨⟨hsel, hn⟩, hs⟩, hch⟩, hlex⟩ := hB
  have htl : (ops.toList.take n).length = n := by simp; omega
  have hdl : (ops.toList.drop n).length = ops.size - n := by simp
  have inv0 : HeadInv .any ops n (Array.replicate ops.size false) := ⟨by simp, fun j oj _ hl => (by rw [getD_replicate_false] at hl; cases hl), fun t _ ht => getD_in (by simpa using ht) (getD_replicate_false _ _)⟩
  have H := wpAnyL_lex (md := .any) (g := ops.size - n) (w := w.drew) hsel hs hch hn (ops.toList.take n) 0 _ a (fun j hj => by
    have hj' : j < n := by rw [htl] at hj; exact hj
    simp [hj']) (by simpa using htl) inv0 (by rw [htl]; exact hlex) h3
  have := wpAny_of_head (Q' := Q) (g := ops.size - n) (fun listed a' hL => by
    have := wpAny_of_seq (md := .any) (Q' := Q) (ops.toList.drop n) n listed a' w.drew (fun j => by simp [List.getElem?_drop]) (by rw [hdl]; exact hL.1) hL.2
    rwa [hdl] at this) _ _ _ H
  rw [htl, show n + (ops.size - n) = ops.size by omega] at this
  exact this
section
variable {rest : List Oper} {K : Act → Prop}
theorem st_run (o : Oper) (v : Value) (hg : Region.wanted o (yielded ops a.tmps) = true) (hrun : (execOp a.eval o).run P w = .ok (.value v) w) (h : Gst P ops w K rest (a.put o.dst v)) : Gst P ops w K (o :: rest) a := by
  refine ⟨?_⟩
  unfold wpStill
  rw [if_pos hg]
  unfold Oper.still
  rw [hrun]
  exact ⟨rfl, h.out⟩
theorem st_call (o : Oper) (f : FuncId) (args : Array Value) (v : Value) (hg : Region.wanted o (yielded ops a.tmps) = true)
    (hc : o.op = .call { callee := .value (.func f), args := callArgs o, argTypes := callTypes o }) (hargs : (callArgs o).map a.eval = args) (he : ∀ args w, (callFunc f args).run P w = .ok (.enter f args) w)
    (hcall : Calls P f args w fun e w' => e = .returned v ∧ w = w') (h : Gst P ops w K rest (a.put o.dst v)) : Gst P ops w K (o :: rest) a := by
  refine ⟨?_⟩
  unfold wpStill
  rw [if_pos hg]
  unfold Oper.still execOp
  simp only [hc, resolve, hargs, Act.eval, Sem.run_bind, Deferred.ofValue, Sem.run_pure, Result.andThen_ok, invoke, Array.append_empty, Array.empty_append, he]
  exact ⟨rfl, v, hcall.mono (fun _ _ ⟨h1, h2⟩ => ⟨h1, h2.symm⟩), h.out⟩
theorem st_end (h : K a) : Gst P ops w K [] a := ⟨h⟩
theorem ls_end (h : Q .normal a w) : Gls P ops Q [] a w := ⟨h⟩
theorem ls_run (o : Oper) {w' : World} (v : Value) (hg : Region.wanted o (yielded ops a.tmps) = true) (hrun : (execOp a.eval o).run P w = .ok (.value v) w') (h : Gls P ops Q rest (a.put o.dst v) w') : Gls P ops Q (o :: rest) a w := by
  refine ⟨?_⟩
  unfold wpList
  rw [if_pos hg]
  left
  unfold Oper.wp
  rw [hrun]; exact h.out
theorem ls_skip (o : Oper) {w' : World} (hg : Region.wanted o (yielded ops a.tmps) = true) (hrun : (execOp a.eval o).run P w = .ok .skip w') (h : Gls P ops Q rest (a.put o.dst undef) w') : Gls P ops Q (o :: rest) a w := by
  refine ⟨?_⟩
  unfold wpList
  rw [if_pos hg]
  left
  unfold Oper.wp
  rw [hrun]; exact h.out
end
end
/-! A region whose order is open, its free operations taken first. -/
section
variable {P : Program} {Q : Exit → Act → World → Prop} {a : Act} {w : World} {ops : Array Oper} {i : Nat} {S : World → Prop} {fuel : Nat} {l : Array Bool}
structure Gany (P : Program) (ops : Array Oper) (Q : Exit → Act → World → Prop) (S : World → Prop) (fuel : Nat) (l : Array Bool) (a : Act) (w : World) : Prop where
  out : wpAnyH P .any ops Q S fuel l a w
structure Gone (P : Program) (ops : Array Oper) (Q : Exit → Act → World → Prop) (S : World → Prop) (fuel : Nat) (l : Array Bool) (i : Nat) (a : Act) (w : World) : Prop where
  out : wpOp P ops Q i (fun a' w' => S w' ∧ Gany P ops Q S fuel l a' w') a w
theorem an_begin {c : Code} (id n : Nat) (ops : Array Oper) (S : World → Prop) (l : Array Bool) (hc : c = .region id ops true) (hm : P.follows .mixedOrders = true) (hn : ops.size = n) (hl : Array.replicate n false = l) (h : Gany P ops (NoPanic Q) S n l a w.drew) : RegW P c (NoPanic Q) a w := rg_held id ops S n l hc hm hn hl h.out
theorem an_val (i : Nat) (o : Oper) (v : Value) (hs : Region.noSelect ops = true) (ho : ops[i]? = some o) (hg : Region.wanted o (yielded ops a.tmps) = true) (hf : Region.free .any ops l i = true) (hr : (Region.ready .any ops l).contains i = true)
    (hrun : ∀ W, S W → (execOp a.eval o).run P W = .ok (.value v) W) (hS : S w) (h : Gany P ops (NoPanic Q) S fuel (l.setIfInBounds i true) (a.put o.dst v) w) : Gany P ops (NoPanic Q) S (fuel + 1) l a w :=
  ⟨wpAnyH_val (i := i) o v hs (fun _ _ _ _ _ h => h) ho hg hf hr hrun hS h.out⟩
theorem an_one (i : Nat) (hr : Region.ready .any ops l = [i]) (h : Gone P ops Q S fuel (l.setIfInBounds i true) i a w) : Gany P ops Q S (fuel + 1) l a w :=
  ⟨wpAnyH_all hr (by simp) fun j hj => by obtain rfl : j = i := by simpa using hj
                                          exact wpOp_mono (fun _ _ h => ⟨h.1, h.2.out⟩) h.out⟩
theorem an_two (i j : Nat) (hr : Region.ready .any ops l = [i, j]) (h1 : Gone P ops Q S fuel (l.setIfInBounds i true) i a w) (h2 : Gone P ops Q S fuel (l.setIfInBounds j true) j a w) : Gany P ops Q S (fuel + 1) l a w :=
  ⟨anyH_two i j hr (wpOp_mono (fun _ _ h => ⟨h.1, h.2.out⟩) h1.out) (wpOp_mono (fun _ _ h => ⟨h.1, h.2.out⟩) h2.out)⟩
theorem an_end (hr : Region.ready .any ops l = []) (h : Q .normal a w) : Gany P ops (NoPanic Q) S fuel l a w := ⟨wpAnyH_done hr (NoPanic.normal h) _⟩
theorem on_run (o : Oper) (v : Value) {w' : World} (ho : ops[i]? = some o) (hg : Region.wanted o (yielded ops a.tmps) = true) (hrun : (execOp a.eval o).run P w = .ok (.value v) w') (h : S w' ∧ Gany P ops Q S fuel l (a.put o.dst v) w') : Gone P ops Q S fuel l i a w :=
  ⟨opH_run o v ho hg hrun h⟩
theorem on_skip (o : Oper) {w' : World} (ho : ops[i]? = some o) (hg : Region.wanted o (yielded ops a.tmps) = true) (hrun : (execOp a.eval o).run P w = .ok .skip w') (h : S w' ∧ Gany P ops Q S fuel l (a.put o.dst undef) w') : Gone P ops Q S fuel l i a w := by
  refine ⟨?_⟩
  unfold wpOp
  simp only [ho, hg, if_true]
  refine .inl ?_
  unfold Oper.wp
  rw [hrun]; exact h
theorem on_call (o : Oper) (f : FuncId) (args : Array Value) (ho : ops[i]? = some o) (hg : Region.wanted o (yielded ops a.tmps) = true)
    (hc : o.op = .call { callee := .value (.func f), args := callArgs o, argTypes := callTypes o }) (hargs : (callArgs o).map a.eval = args) (he : ∀ args w, (callFunc f args).run P w = .ok (.enter f args) w)
    (h : Calls P f args w fun e w' => ∃ v, e = .returned v ∧ S w' ∧ Gany P ops Q S fuel l (a.put o.dst v) w') : Gone P ops Q S fuel l i a w := ⟨opH_callF o f args ho hg hc hargs he h⟩
end
/-! Runs of operations. -/
section
variable {P : Program} {o : Oper} {ρ : Operand → Value} {w : World}
theorem wrapI (x r : Int) (h : x = r) (h1 : -9223372036854775808 ≤ r) (h2 : r ≤ 9223372036854775807) : IntKind.i64.wrap x = r := by
  subst h; rw [IntKind.wrap_i64]; omega
theorem wrapN (n : Nat) (h : n ≤ 9223372036854775807) : IntKind.i64.wrap (n : Int) = (n : Int) := wrapI _ _ rfl (by omega) (by omega)
theorem wrapU (n : Nat) (h : n < 18446744073709551616) : IntKind.u64.wrap (n : Int) = (n : Int) := by
  show ((n : Int) % (2 ^ 64 : Int)) = n
  omega
theorem exec_store_cell (ty : TypeId) (x y : Operand) (ho : o.op = .store ty x y) (b k : Nat) (hx : ρ x = .pointer (some ⟨b, k, none⟩)) (v : Value) (hy : ρ y = v) (hs : (P.info? ty).map (·.size) = some 1) (hv : v.cells = #[v])
    (old : Value) (hc : w.cell? ⟨b, k, none⟩ = some old) (hf : w.frozen? ⟨b, k, none⟩ = false) (h1 : v.oneCell' = true) : (execOp ρ o).run P w = .ok .skip (w.setCell ⟨b, k, none⟩ v) := by
  obtain ⟨i, hi, h2⟩ := Option.map_eq_some_iff.1 hs
  unfold execOp
  simp only [ho, hx, hy, Instr.storeAt, Instr.sureAddr, Sem.run_bind, Sem.run_pure, Result.andThen_ok, storeVar, hv, sizeOf, typeInfo]
  simp [go_sem, hi, h2, storeCells, run_store _ _ _ _ _ h1, Addr.add_lit, stored, hc, hf, Result.andThen]
theorem exec_indexAt_arr (t : TypeId) (x y : Operand) (ho : o.op = .indexAddr t x y) (b of : Nat) (hx : ρ x = .pointer (some ⟨b, of, none⟩)) (kd : IntKind) (k : Nat) (hy : ρ y = .int kd (k : Int)) (n : Nat) (e : TypeId) (size : Nat) (hu : P.underlying t = some (.array n e))
    (hs : (P.info? e).map (·.size) = some size) (hk : k < n) : (execOp ρ o).run P w = .ok (.value (.pointer (some ⟨b, of + k * size, none⟩))) w := by
  obtain ⟨i, hi, rfl⟩ := Option.map_eq_some_iff.1 hs
  unfold execOp
  simp [ho, hx, hy, Instr.indexAt, asIntOf, run_underlying hu, Instr.sureAddr, go_sem, hk, sizeOf, typeInfo, hi, Addr.add]
theorem exec_indexAt_slice (t : TypeId) (x y : Operand) (ho : o.op = .indexAddr t x y) (b of : Nat) (n cap : Nat) (hx : ρ x = .slice (some ⟨b, of, none⟩) n cap) (kd : IntKind) (k : Nat) (hy : ρ y = .int kd (k : Int)) (e : TypeId) (size : Nat) (hu : P.underlying t = some (.slice e))
    (hs : (P.info? e).map (·.size) = some size) (hk : k < n) : (execOp ρ o).run P w = .ok (.value (.pointer (some ⟨b, of + k * size, none⟩))) w := by
  obtain ⟨i, hi, rfl⟩ := Option.map_eq_some_iff.1 hs
  unfold execOp
  simp [ho, hx, hy, Instr.indexAt, asIntOf, run_underlying hu, Instr.sureAddr, go_sem, hk, sizeOf, typeInfo, hi, Addr.add]
/-- An element of an array that is a value: one cell. -/
theorem exec_index_arr (t : TypeId) (x y : Operand) (ho : o.op = .index t x y) (cs : Array Value) (hx : ρ x = .agg cs) (kd : IntKind) (k : Nat) (hy : ρ y = .int kd (k : Int)) (n : Nat) (e : TypeId) (hu : P.underlying t = some (.array n e)) (he : P.plainKey e = true)
    (hs : (P.info? e).map (·.size) = some 1) (hk : k < n) (v : Value) (hv : cs[k]? = some v) : (execOp ρ o).run P w = .ok (.value v) w := by
  obtain ⟨i, hi, h1⟩ := Option.map_eq_some_iff.1 hs
  have hp := run_part_plain (P := P) w he (xs := cs) (off := k) hv
  have h0 : (0 : Int) ≤ (k : Int) ∧ (k : Int) < (n : Int) := by omega
  unfold execOp
  simp only [ho, hx, hy, Instr.index, asIntOf, Sem.run_bind, Sem.run_pure, Result.andThen_ok, run_underlying hu, if_pos h0]
  rw [show (sizeOf e).run P w = .ok 1 w by simp [go_sem, sizeOf, typeInfo, hi, h1]]
  simp only [Result.andThen_ok, Int.toNat_natCast, Nat.mul_one, hp]
theorem exec_box (t : TypeId) (x : Operand) (ho : o.op = .box t x) (v : Value) (hx : ρ x = v) : (execOp ρ o).run P w = .ok (.value (.pointer (some ⟨w.heap.size, 0, none⟩))) (w.alloc (.cells v.cells t)) := by
  unfold execOp
  simp only [ho, hx, Instr.box, Sem.run_bind, Result.andThen_ok, Sem.run_pure]
  simp [go_sem]
/-- A new variable at its zero value. -/
theorem exec_alloc0 (t : TypeId) (ho : o.op = .alloc t) (z : Value) (hr : (zeroValue t).run P w = .ok z w) :
    (execOp ρ o).run P w = .ok (.value (.pointer (some ⟨w.heap.size, 0, none⟩))) (w.alloc (.cells z.cells t)) := by
  unfold execOp
  simp only [ho, Instr.alloc, Sem.run_bind, hr, Result.andThen_ok, Sem.run_pure]
  simp [go_sem]
theorem exec_len (x : Operand) (t e : TypeId) (ho : o.op = .call { callee := .builtin .len, args := #[x], argTypes := #[t] }) (ht : P.underlying t = some (.slice e)) (A : Option Addr) (n cap : Nat) (hx : ρ x = .slice A n cap) : (execOp ρ o).run P w = .ok (.value (.int .i64 (n : Int))) w := by
  unfold execOp
  simp [ho, hx, resolve, invoke, builtin, Builtin.len_, run_underlying ht, go_sem]
end
/-! The same laws, short: what the kernel reckons stands behind. -/
section
variable {P : Program} {Q : Exit → Act → World → Prop} {a : Act} {w : World} {ops : Array Oper} {i : Nat} {rest : List Nat}
theorem ent {f : FuncId} {fn : Func} (hf : P.funcs[f]? = some fn) (hn : (fn.name == "runtime.NumGoroutine") = false) (hb : fn.body.isSome = true) : ∀ args w, (callFunc f args).run P w = .ok (.enter f args) w := by
  obtain ⟨c, hc⟩ := Option.isSome_iff_exists.1 hb
  exact Go.Proofs.enters_of hf hn hc
end
section
variable {P : Program} {w : World} {a : Act} {ops : Array Oper} {rest : List Oper} {K : Act → Prop}
end
section
variable {P : Program} {Q : Exit → Act → World → Prop} {a : Act} {w : World} {ops : Array Oper} {i : Nat} {S : World → Prop} {fuel : Nat} {l : Array Bool}
theorem an_o (i : Nat) (h : Gone P ops Q S fuel (l.setIfInBounds i true) i a w) (hr : Region.ready .any ops l = [i] := by kernel_rfl) : Gany P ops Q S (fuel + 1) l a w := an_one i hr h
end
section
variable {P : Program} {o : Oper} {ρ : Operand → Value} {w : World}
theorem rc {g j : Nat} {cs : Array Value} {t : TypeId} {fr : Nat × Nat} {v : Value} (hg : w.heap[g]? = some (.cells cs t fr)) (h : cs[j]? = some v) : w.cell? ⟨g, j, none⟩ = some v := (cell_of_row _ _ _ _ _ _ hg).trans h
theorem exec_ld (ty : TypeId) (x : Operand) (g j : Nat) {d : TypeDesc} {v : Value} (hu : P.underlying ty = some d) (hc : w.cell? ⟨g, j, none⟩ = some v) (ho : o.op = .load ty x := by kernel_rfl) (hx : ρ x = .pointer (some ⟨g, j, none⟩) := by kernel_rfl)
    (hd : (match d with | .struct _ | .array _ _ => false | _ => true) = true := by rfl) : (execOp ρ o).run P w = .ok (.value v) w := exec_load_cell ty x ho _ hx d v hu hd hc
theorem dct (p : Prop) [Decidable p] (h : p) (hr : (execOp ρ o).run P w = .ok (.value (.bool (decide p))) w := by kernel_rfl) : (execOp ρ o).run P w = .ok (.value (.bool true)) w := by rw [decide_eq_true h] at hr; exact hr
theorem dcf (p : Prop) [Decidable p] (h : ¬ p) (hr : (execOp ρ o).run P w = .ok (.value (.bool (decide p))) w := by kernel_rfl) : (execOp ρ o).run P w = .ok (.value (.bool false)) w := by rw [decide_eq_false h] at hr; exact hr
theorem eqt (x y : Int) (h : x = y) (hr : (execOp ρ o).run P w = .ok (.value (.bool (x == y))) w := by kernel_rfl) : (execOp ρ o).run P w = .ok (.value (.bool true)) w := by rw [beq_iff_eq.2 h] at hr; exact hr
theorem eqf (x y : Int) (h : ¬ x = y) (hr : (execOp ρ o).run P w = .ok (.value (.bool (x == y))) w := by kernel_rfl) : (execOp ρ o).run P w = .ok (.value (.bool false)) w := by rw [beq_eq_false_iff_ne.2 h] at hr; exact hr
theorem nqt (x y : Int) (h : ¬ x = y) (hr : (execOp ρ o).run P w = .ok (.value (.bool (x != y))) w := by kernel_rfl) : (execOp ρ o).run P w = .ok (.value (.bool true)) w := by rw [bne_iff_ne.2 h] at hr; exact hr
theorem nqf (x y : Int) (h : x = y) (hr : (execOp ρ o).run P w = .ok (.value (.bool (x != y))) w := by kernel_rfl) : (execOp ρ o).run P w = .ok (.value (.bool false)) w := by rw [bne_eq_false_iff_eq.2 h] at hr; exact hr
end
end Go.Own
namespace Go.Own
open Go Go.RowKit Go.Shelf
abbrev ud : Value := undef
section
variable {P : Program} {Q : Exit → Act → World → Prop} {a : Act} {w : World} {c : Code}
end
section
variable {P : Program} {Q : Exit → Act → World → Prop} {a : Act} {w : World} {ops : Array Oper} {i : Nat} {rest : List Nat}
theorem pkq (v : Value) (h : Gops P ops Q rest (a.put (ops.getD i default).dst v) w) (ho : ops[i]? = some (ops.getD i default) := by kernel_rfl) (hg : Region.wanted (ops.getD i default) (yielded ops a.tmps) = true := by kernel_rfl) (hrun : (execOp a.eval (ops.getD i default)).run P w = .ok (.value v) w := by kernel_rfl) : Gops P ops Q (i :: rest) a w := ps_run _ v ho hg hrun h
theorem ppq (v : Value) (hrun : (execOp a.eval (ops.getD i default)).run P w = .ok (.value v) w) (h : Gops P ops Q rest (a.put (ops.getD i default).dst v) w) (ho : ops[i]? = some (ops.getD i default) := by kernel_rfl) (hg : Region.wanted (ops.getD i default) (yielded ops a.tmps) = true := by kernel_rfl) : Gops P ops Q (i :: rest) a w := ps_run _ v ho hg hrun h
theorem pnq (h : Gops P ops Q rest (a.put (ops.getD i default).dst undef) w) (ho : ops[i]? = some (ops.getD i default) := by kernel_rfl) (hg : Region.wanted (ops.getD i default) (yielded ops a.tmps) = false := by kernel_rfl) : Gops P ops Q (i :: rest) a w := ps_no _ ho hg h
theorem prq (v : Value) {w' : World} (hrun : (execOp a.eval (ops.getD i default)).run P w = .ok (.value v) w') (h : Gops P ops Q rest (a.put (ops.getD i default).dst v) w') (ho : ops[i]? = some (ops.getD i default) := by kernel_rfl) (hg : Region.wanted (ops.getD i default) (yielded ops a.tmps) = true := by kernel_rfl) : Gops P ops Q (i :: rest) a w := ps_run _ v ho hg hrun h
theorem pzq {w' : World} (hrun : (execOp a.eval (ops.getD i default)).run P w = .ok .skip w') (h : Gops P ops Q rest (a.put (ops.getD i default).dst undef) w') (ho : ops[i]? = some (ops.getD i default) := by kernel_rfl) (hg : Region.wanted (ops.getD i default) (yielded ops a.tmps) = true := by kernel_rfl) : Gops P ops Q (i :: rest) a w := ps_skip _ ho hg hrun h
theorem pcq (f : FuncId) (args : Array Value) {fn : Func} (hf : P.funcs[f]? = some fn) (h : Calls P f args w fun e w' => ∃ v, e = .returned v ∧ Gops P ops Q rest (a.put (ops.getD i default).dst v) w') (ho : ops[i]? = some (ops.getD i default) := by kernel_rfl) (hg : Region.wanted (ops.getD i default) (yielded ops a.tmps) = true := by kernel_rfl)
    (hc : (ops.getD i default).op = .call { callee := .value (.func f), args := callArgs (ops.getD i default), argTypes := callTypes (ops.getD i default) } := by kernel_rfl) (hargs : (callArgs (ops.getD i default)).map a.eval = args := by kernel_rfl) (hn : (fn.name == "runtime.NumGoroutine") = false := by kernel_rfl) (hb : fn.body.isSome = true := by kernel_rfl) : Gops P ops Q (i :: rest) a w :=
  ps_call _ f args ho hg hc hargs (ent hf hn hb) h
end
section
variable {P : Program} {w : World} {a : Act} {ops : Array Oper} {rest : List Oper} {K : Act → Prop} {o : Oper}
theorem skq (v : Value) (h : Gst P ops w K rest (a.put o.dst v)) (hg : Region.wanted o (yielded ops a.tmps) = true := by kernel_rfl) (hrun : (execOp a.eval o).run P w = .ok (.value v) w := by kernel_rfl) : Gst P ops w K (o :: rest) a := st_run o v hg hrun h
theorem spq (v : Value) (hrun : (execOp a.eval o).run P w = .ok (.value v) w) (h : Gst P ops w K rest (a.put o.dst v)) (hg : Region.wanted o (yielded ops a.tmps) = true := by kernel_rfl) : Gst P ops w K (o :: rest) a := st_run o v hg hrun h
theorem scq (f : FuncId) (args : Array Value) (v : Value) {fn : Func} (hf : P.funcs[f]? = some fn) (hcall : Calls P f args w fun e w' => e = .returned v ∧ w = w') (h : Gst P ops w K rest (a.put o.dst v)) (hg : Region.wanted o (yielded ops a.tmps) = true := by kernel_rfl)
    (hc : o.op = .call { callee := .value (.func f), args := callArgs o, argTypes := callTypes o } := by kernel_rfl) (hargs : (callArgs o).map a.eval = args := by kernel_rfl) (hn : (fn.name == "runtime.NumGoroutine") = false := by kernel_rfl) (hb : fn.body.isSome = true := by kernel_rfl) : Gst P ops w K (o :: rest) a :=
  st_call o f args v hg hc hargs (ent hf hn hb) hcall h
end
section
variable {P : Program} {Q : Exit → Act → World → Prop} {a : Act} {w : World} {ops : Array Oper} {i : Nat} {S : World → Prop} {fuel : Nat} {l : Array Bool}
theorem avq (i : Nat) (v : Value) (hrun : ∀ W, S W → (execOp a.eval (ops.getD i default)).run P W = .ok (.value v) W) (hS : S w) (h : Gany P ops (NoPanic Q) S fuel (l.setIfInBounds i true) (a.put (ops.getD i default).dst v) w) (hs : Region.noSelect ops = true := by kernel_rfl) (ho : ops[i]? = some (ops.getD i default) := by kernel_rfl)
    (hg : Region.wanted (ops.getD i default) (yielded ops a.tmps) = true := by kernel_rfl) (hf : Region.free .any ops l i = true := by kernel_rfl) (hr : (Region.ready .any ops l).contains i = true := by kernel_rfl) : Gany P ops (NoPanic Q) S (fuel + 1) l a w := an_val i _ v hs ho hg hf hr hrun hS h
theorem akq (i : Nat) (v : Value) (hS : S w) (h : Gany P ops (NoPanic Q) S fuel (l.setIfInBounds i true) (a.put (ops.getD i default).dst v) w) (hrun : ∀ W, (execOp a.eval (ops.getD i default)).run P W = .ok (.value v) W := by intro W; kernel_rfl) (hs : Region.noSelect ops = true := by kernel_rfl) (ho : ops[i]? = some (ops.getD i default) := by kernel_rfl)
    (hg : Region.wanted (ops.getD i default) (yielded ops a.tmps) = true := by kernel_rfl) (hf : Region.free .any ops l i = true := by kernel_rfl) (hr : (Region.ready .any ops l).contains i = true := by kernel_rfl) : Gany P ops (NoPanic Q) S (fuel + 1) l a w := an_val i _ v hs ho hg hf hr (fun W _ => hrun W) hS h
theorem nrq (v : Value) {w' : World} (hrun : (execOp a.eval (ops.getD i default)).run P w = .ok (.value v) w') (h : S w' ∧ Gany P ops Q S fuel l (a.put (ops.getD i default).dst v) w') (ho : ops[i]? = some (ops.getD i default) := by kernel_rfl) (hg : Region.wanted (ops.getD i default) (yielded ops a.tmps) = true := by kernel_rfl) : Gone P ops Q S fuel l i a w := on_run _ v ho hg hrun h
theorem nzq {w' : World} (hrun : (execOp a.eval (ops.getD i default)).run P w = .ok .skip w') (h : S w' ∧ Gany P ops Q S fuel l (a.put (ops.getD i default).dst undef) w') (ho : ops[i]? = some (ops.getD i default) := by kernel_rfl) (hg : Region.wanted (ops.getD i default) (yielded ops a.tmps) = true := by kernel_rfl) : Gone P ops Q S fuel l i a w := on_skip _ ho hg hrun h
theorem ncq (f : FuncId) (args : Array Value) {fn : Func} (hf : P.funcs[f]? = some fn) (h : Calls P f args w fun e w' => ∃ v, e = .returned v ∧ S w' ∧ Gany P ops Q S fuel l (a.put (ops.getD i default).dst v) w') (ho : ops[i]? = some (ops.getD i default) := by kernel_rfl) (hg : Region.wanted (ops.getD i default) (yielded ops a.tmps) = true := by kernel_rfl)
    (hc : (ops.getD i default).op = .call { callee := .value (.func f), args := callArgs (ops.getD i default), argTypes := callTypes (ops.getD i default) } := by kernel_rfl) (hargs : (callArgs (ops.getD i default)).map a.eval = args := by kernel_rfl) (hn : (fn.name == "runtime.NumGoroutine") = false := by kernel_rfl) (hb : fn.body.isSome = true := by kernel_rfl) : Gone P ops Q S fuel l i a w :=
  on_call _ f args ho hg hc hargs (ent hf hn hb) h
end
section
variable {P : Program} {Q : Exit → Act → World → Prop} {a : Act} {w : World} {f : Func} {n : Nat} {ops : Array Oper}
/-! The code's parts by their places: the left one of n is 2 n, the right one 2 n + 1. -/
def condO : Code → Operand
  | .cond o _ _ => o
  | _ => .const undef
def regI : Code → Nat
  | .region i _ _ => i
  | _ => 0
theorem q_ (h : (partOf f (2 * n)).wp P (Exit.then ((partOf f (2 * n + 1)).wp P Q) Q) a w) (hc : partOf f n = .seq (partOf f (2 * n)) (partOf f (2 * n + 1)) := by kernel_rfl) : (partOf f n).wp P Q a w := sy_seq _ _ hc h
theorem r_ (l : List Nat) (h : Gops P (opsAt (partOf f n)) Q l a w) (hc : partOf f n = .region (regI (partOf f n)) (opsAt (partOf f n)) false := by kernel_rfl) (hl : List.range (opsAt (partOf f n)).size = l := by kernel_rfl) : (partOf f n).wp P Q a w := sy_reg (rg_plain _ _ l hc hl h)
theorem qr_ (l : List Nat) (h : Gops P (opsAt (partOf f (2 * n))) (Exit.then ((partOf f (2 * n + 1)).wp P Q) Q) l a w) (hc : partOf f n = .seq (partOf f (2 * n)) (partOf f (2 * n + 1)) := by kernel_rfl) (hr : partOf f (2 * n) = .region (regI (partOf f (2 * n))) (opsAt (partOf f (2 * n))) false := by kernel_rfl) (hl : List.range (opsAt (partOf f (2 * n))).size = l := by kernel_rfl) : (partOf f n).wp P Q a w := sy_seq _ _ hc (sy_reg (rg_plain _ _ l hr hl h))
theorem y_ (h : (partOf f (2 * n)).wp P Q a w) (hc : partOf f n = .cond (condO (partOf f n)) (partOf f (2 * n)) (partOf f (2 * n + 1)) := by kernel_rfl) (ho : a.eval (condO (partOf f n)) = .bool true := by kernel_rfl) : (partOf f n).wp P Q a w := sy_yes _ _ _ hc ho h
theorem n_ (h : (partOf f (2 * n + 1)).wp P Q a w) (hc : partOf f n = .cond (condO (partOf f n)) (partOf f (2 * n)) (partOf f (2 * n + 1)) := by kernel_rfl) (ho : a.eval (condO (partOf f n)) = .bool false := by kernel_rfl) : (partOf f n).wp P Q a w := sy_no _ _ _ hc ho h
theorem b_ (id : Nat) (h : (partOf f (2 * n)).wp P (Exit.inBlock id Q) a w) (hc : partOf f n = .block id (partOf f (2 * n)) := by kernel_rfl) : (partOf f n).wp P Q a w := sy_block id _ hc h
theorem s_ (h : Q .normal a w) (hc : partOf f n = .skip := by kernel_rfl) : (partOf f n).wp P Q a w := sy_skip hc h
theorem u_ (h : Q .ret a w) (hc : partOf f n = .ret := by kernel_rfl) : (partOf f n).wp P Q a w := sy_ret hc h
theorem et_ {next : Act → World → Prop} (h : next a w) : Gops P ops (Exit.then next Q) [] a w := ps_end (then_n h)
theorem eq_ (h : (partOf f (2 * n)).wp P (Exit.then ((partOf f (2 * n + 1)).wp P Q) Q) a w) (hc : partOf f n = .seq (partOf f (2 * n)) (partOf f (2 * n + 1)) := by kernel_rfl) : Gops P ops (Exit.then ((partOf f n).wp P Q) Q) [] a w := et_ (q_ h hc)
theorem er_ (l : List Nat) (h : Gops P (opsAt (partOf f n)) Q l a w) (hc : partOf f n = .region (regI (partOf f n)) (opsAt (partOf f n)) false := by kernel_rfl) (hl : List.range (opsAt (partOf f n)).size = l := by kernel_rfl) : Gops P ops (Exit.then ((partOf f n).wp P Q) Q) [] a w := et_ (r_ l h hc hl)
theorem eqr_ (l : List Nat) (h : Gops P (opsAt (partOf f (2 * n))) (Exit.then ((partOf f (2 * n + 1)).wp P Q) Q) l a w) (hc : partOf f n = .seq (partOf f (2 * n)) (partOf f (2 * n + 1)) := by kernel_rfl) (hr : partOf f (2 * n) = .region (regI (partOf f (2 * n))) (opsAt (partOf f (2 * n))) false := by kernel_rfl) (hl : List.range (opsAt (partOf f (2 * n))).size = l := by kernel_rfl) : Gops P ops (Exit.then ((partOf f n).wp P Q) Q) [] a w := et_ (qr_ l h hc hr hl)
theorem ey_ (h : (partOf f (2 * n)).wp P Q a w) (hc : partOf f n = .cond (condO (partOf f n)) (partOf f (2 * n)) (partOf f (2 * n + 1)) := by kernel_rfl) (ho : a.eval (condO (partOf f n)) = .bool true := by kernel_rfl) : Gops P ops (Exit.then ((partOf f n).wp P Q) Q) [] a w := et_ (y_ h hc ho)
theorem en_ (h : (partOf f (2 * n + 1)).wp P Q a w) (hc : partOf f n = .cond (condO (partOf f n)) (partOf f (2 * n)) (partOf f (2 * n + 1)) := by kernel_rfl) (ho : a.eval (condO (partOf f n)) = .bool false := by kernel_rfl) : Gops P ops (Exit.then ((partOf f n).wp P Q) Q) [] a w := et_ (n_ h hc ho)
theorem eu_ (h : Q .ret a w) (hc : partOf f n = .ret := by kernel_rfl) : Gops P ops (Exit.then ((partOf f n).wp P Q) Q) [] a w := et_ (u_ h hc)
theorem tq_ (h : (partOf f (2 * n)).wp P (Exit.then ((partOf f (2 * n + 1)).wp P Q) Q) a w) (hc : partOf f n = .seq (partOf f (2 * n)) (partOf f (2 * n + 1)) := by kernel_rfl) : Exit.then ((partOf f n).wp P Q) Q .normal a w := then_n (q_ h hc)
theorem tr_ (l : List Nat) (h : Gops P (opsAt (partOf f n)) Q l a w) (hc : partOf f n = .region (regI (partOf f n)) (opsAt (partOf f n)) false := by kernel_rfl) (hl : List.range (opsAt (partOf f n)).size = l := by kernel_rfl) : Exit.then ((partOf f n).wp P Q) Q .normal a w := then_n (r_ l h hc hl)
theorem tqr_ (l : List Nat) (h : Gops P (opsAt (partOf f (2 * n))) (Exit.then ((partOf f (2 * n + 1)).wp P Q) Q) l a w) (hc : partOf f n = .seq (partOf f (2 * n)) (partOf f (2 * n + 1)) := by kernel_rfl) (hr : partOf f (2 * n) = .region (regI (partOf f (2 * n))) (opsAt (partOf f (2 * n))) false := by kernel_rfl) (hl : List.range (opsAt (partOf f (2 * n))).size = l := by kernel_rfl) : Exit.then ((partOf f n).wp P Q) Q .normal a w := then_n (qr_ l h hc hr hl)
theorem so_ {fn : Func} {R : Ending → World → Prop} (v : Value) (h : R (.returned v) w) (hd : a.defers = [] := by rfl) (hr : (results fn a.tmps).run P w = .ok v w := by kernel_rfl) : bodyPost P fn R .ret a w := sy_out v hd hr h
end
section
variable {P : Program} {Q : Exit → Act → World → Prop} {a : Act} {w : World} {ops : Array Oper} {i : Nat} {rest : List Nat} {S : World → Prop} {fuel : Nat} {l : Array Bool}
def boxX : Op → Operand
  | .box _ x => x
  | _ => .const undef
def stoX : Op → Operand
  | .store _ x _ => x
  | _ => .const undef
def stoY : Op → Operand
  | .store _ _ y => y
  | _ => .const undef
def ldX : Op → Operand
  | .load _ x => x
  | _ => .const undef
def isRow (P : Program) (T : TypeId) : Bool := match P.underlying T with | some d => (match d with | .struct _ | .array _ _ => true | _ => false) | none => false
def notRow (P : Program) (T : TypeId) : Bool := match P.underlying T with | some d => (match d with | .struct _ | .array _ _ => false | _ => true) | none => false
theorem pal (T : TypeId) (c : Array Value) (z : Value) (h : ∀ V g, w.heap.size = g → V.heap[g]? = some (.cells c T (0, 0)) → Keeps Nob w V → Gops P ops Q rest (a.put (ops.getD i default).dst (pT g 0)) V) (h1 : (ops.getD i default).op = .alloc T := by kernel_rfl) (h2 : ∀ W, (zeroValue T).run P W = .ok z W := by intro W; kernel_rfl) (h3 : z.cells = c := by kernel_rfl) (ho : ops[i]? = some (ops.getD i default) := by kernel_rfl) (hg : Region.wanted (ops.getD i default) (yielded ops a.tmps) = true := by kernel_rfl) : Gops P ops Q (i :: rest) a w := by
  obtain ⟨V, eV, g, eg, hh, k⟩ := alloc_step w c T
  refine ps_run _ (pT g 0) (w' := V) ho hg ?_ (h V g eg hh k)
  subst h3; rw [← eV, ← eg]; exact exec_alloc0 T h1 z (h2 w)
theorem nal (T : TypeId) (c : Array Value) (z : Value) (h : ∀ V g, w.heap.size = g → V.heap[g]? = some (.cells c T (0, 0)) → Keeps Nob w V → S V ∧ Gany P ops Q S fuel l (a.put (ops.getD i default).dst (pT g 0)) V) (h1 : (ops.getD i default).op = .alloc T := by kernel_rfl) (h2 : ∀ W, (zeroValue T).run P W = .ok z W := by intro W; kernel_rfl) (h3 : z.cells = c := by kernel_rfl) (ho : ops[i]? = some (ops.getD i default) := by kernel_rfl) (hg : Region.wanted (ops.getD i default) (yielded ops a.tmps) = true := by kernel_rfl) : Gone P ops Q S fuel l i a w := by
  obtain ⟨V, eV, g, eg, hh, k⟩ := alloc_step w c T
  refine on_run _ (pT g 0) (w' := V) ho hg ?_ (h V g eg hh k)
  subst h3; rw [← eV, ← eg]; exact exec_alloc0 T h1 z (h2 w)
theorem pbx (T : TypeId) (c : Array Value) (v : Value) (h : ∀ V g, w.heap.size = g → V.heap[g]? = some (.cells c T (0, 0)) → Keeps Nob w V → Gops P ops Q rest (a.put (ops.getD i default).dst (pT g 0)) V) (h1 : (ops.getD i default).op = .box T (boxX (ops.getD i default).op) := by kernel_rfl) (h2 : a.eval (boxX (ops.getD i default).op) = v := by kernel_rfl) (h3 : v.cells = c := by kernel_rfl) (ho : ops[i]? = some (ops.getD i default) := by kernel_rfl) (hg : Region.wanted (ops.getD i default) (yielded ops a.tmps) = true := by kernel_rfl) : Gops P ops Q (i :: rest) a w := by
  obtain ⟨V, eV, g, eg, hh, k⟩ := alloc_step w c T
  refine ps_run _ (pT g 0) (w' := V) ho hg ?_ (h V g eg hh k)
  subst h3; rw [← eV, ← eg]; exact exec_box T _ h1 v h2
theorem pst (T : TypeId) (g : Nat) (c : Array Value) {T' : TypeId} {old : Array Value} (h0 : w.heap[g]? = some (.cells old T' (0, 0))) (hi : (P.info? T).map (·.size) = some c.size) (hold : old.size = c.size) (hone : c.all (·.oneCell') = true) (h : ∀ V, V.heap[g]? = some (.cells c T' (0, 0)) → Keeps (One g) w V → Gops P ops Q rest (a.put (ops.getD i default).dst undef) V) (h1 : (ops.getD i default).op = .store T (stoX (ops.getD i default).op) (stoY (ops.getD i default).op) := by kernel_rfl) (hx : a.eval (stoX (ops.getD i default).op) = pT g 0 := by kernel_rfl) (hy : a.eval (stoY (ops.getD i default).op) = .agg c := by kernel_rfl) (ho : ops[i]? = some (ops.getD i default) := by kernel_rfl) (hg : Region.wanted (ops.getD i default) (yielded ops a.tmps) = true := by kernel_rfl) : Gops P ops Q (i :: rest) a w := by
  obtain ⟨V, eV, k⟩ := rowset_step w g c
  refine ps_skip _ (w' := V) ho hg ?_ (h V (eV ▸ setRow_heap _ _ _ _ _ _ h0) k)
  rw [← eV]; exact exec_store_row T _ _ h1 g c hx hy T' old h0 hi hold hone
theorem nst (T : TypeId) (g : Nat) (c : Array Value) {T' : TypeId} {old : Array Value} (h0 : w.heap[g]? = some (.cells old T' (0, 0))) (hi : (P.info? T).map (·.size) = some c.size) (hold : old.size = c.size) (hone : c.all (·.oneCell') = true) (h : ∀ V, V.heap[g]? = some (.cells c T' (0, 0)) → Keeps (One g) w V → S V ∧ Gany P ops Q S fuel l (a.put (ops.getD i default).dst undef) V) (h1 : (ops.getD i default).op = .store T (stoX (ops.getD i default).op) (stoY (ops.getD i default).op) := by kernel_rfl) (hx : a.eval (stoX (ops.getD i default).op) = pT g 0 := by kernel_rfl) (hy : a.eval (stoY (ops.getD i default).op) = .agg c := by kernel_rfl) (ho : ops[i]? = some (ops.getD i default) := by kernel_rfl) (hg : Region.wanted (ops.getD i default) (yielded ops a.tmps) = true := by kernel_rfl) : Gone P ops Q S fuel l i a w := by
  obtain ⟨V, eV, k⟩ := rowset_step w g c
  refine on_skip _ (w' := V) ho hg ?_ (h V (eV ▸ setRow_heap _ _ _ _ _ _ h0) k)
  rw [← eV]; exact exec_store_row T _ _ h1 g c hx hy T' old h0 hi hold hone
theorem psk (T : TypeId) (g : Nat) (c : Array Value) {T' : TypeId} {old : Array Value} (h0 : w.heap[g]? = some (.cells old T' (0, 0))) (h : ∀ V, V.heap[g]? = some (.cells c T' (0, 0)) → Keeps (One g) w V → Gops P ops Q rest (a.put (ops.getD i default).dst undef) V) (h1 : (ops.getD i default).op = .store T (stoX (ops.getD i default).op) (stoY (ops.getD i default).op) := by kernel_rfl) (hx : a.eval (stoX (ops.getD i default).op) = pT g 0 := by kernel_rfl) (hy : a.eval (stoY (ops.getD i default).op) = .agg c := by kernel_rfl) (hi : (P.info? T).map (·.size) = some c.size := by kernel_rfl) (hold : old.size = c.size := by kernel_rfl) (hone : c.all (·.oneCell') = true := by kernel_rfl) (ho : ops[i]? = some (ops.getD i default) := by kernel_rfl) (hg : Region.wanted (ops.getD i default) (yielded ops a.tmps) = true := by kernel_rfl) : Gops P ops Q (i :: rest) a w := by
  obtain ⟨V, eV, k⟩ := rowset_step w g c
  refine ps_skip _ (w' := V) ho hg ?_ (h V (eV ▸ setRow_heap _ _ _ _ _ _ h0) k)
  rw [← eV]; exact exec_store_row T _ _ h1 g c hx hy T' old h0 hi hold hone
theorem pce (T : TypeId) (g k : Nat) (v : Value) (new : Array Value) {T' : TypeId} {old : Array Value} {u : Value} (h0 : w.heap[g]? = some (.cells old T' (0, 0))) (hu : w.cell? ⟨g, k, none⟩ = some u) (hup : old.setIfInBounds k v = new) (h : ∀ V, V.heap[g]? = some (.cells new T' (0, 0)) → Keeps (One g) w V → Gops P ops Q rest (a.put (ops.getD i default).dst undef) V) (h1 : (ops.getD i default).op = .store T (stoX (ops.getD i default).op) (stoY (ops.getD i default).op) := by kernel_rfl) (hx : a.eval (stoX (ops.getD i default).op) = pT g k := by kernel_rfl) (hy : a.eval (stoY (ops.getD i default).op) = v := by kernel_rfl) (hs : (P.info? T).map (·.size) = some 1 := by kernel_rfl) (hv : v.cells = #[v] := by kernel_rfl) (hone : v.oneCell' = true := by kernel_rfl) (ho : ops[i]? = some (ops.getD i default) := by kernel_rfl) (hg : Region.wanted (ops.getD i default) (yielded ops a.tmps) = true := by kernel_rfl) : Gops P ops Q (i :: rest) a w := by
  obtain ⟨V, eV, kk⟩ := cell_step w g k v
  refine ps_skip _ (w' := V) ho hg ?_ (h V (eV ▸ ((heap_setCell_same _ g k _ _ v h0).trans (congrArg (fun c => some (Obj.cells c T' (0, 0))) hup))) kk)
  rw [← eV]; exact exec_store_cell T _ _ h1 g k hx v hy hs hv u hu (frozen_of_row _ _ _ _ _ h0) hone
theorem nce (T : TypeId) (g k : Nat) (v : Value) (new : Array Value) {T' : TypeId} {old : Array Value} {u : Value} (h0 : w.heap[g]? = some (.cells old T' (0, 0))) (hu : w.cell? ⟨g, k, none⟩ = some u) (hup : old.setIfInBounds k v = new) (h : ∀ V, V.heap[g]? = some (.cells new T' (0, 0)) → Keeps (One g) w V → S V ∧ Gany P ops Q S fuel l (a.put (ops.getD i default).dst undef) V) (h1 : (ops.getD i default).op = .store T (stoX (ops.getD i default).op) (stoY (ops.getD i default).op) := by kernel_rfl) (hx : a.eval (stoX (ops.getD i default).op) = pT g k := by kernel_rfl) (hy : a.eval (stoY (ops.getD i default).op) = v := by kernel_rfl) (hs : (P.info? T).map (·.size) = some 1 := by kernel_rfl) (hv : v.cells = #[v] := by kernel_rfl) (hone : v.oneCell' = true := by kernel_rfl) (ho : ops[i]? = some (ops.getD i default) := by kernel_rfl) (hg : Region.wanted (ops.getD i default) (yielded ops a.tmps) = true := by kernel_rfl) : Gone P ops Q S fuel l i a w := by
  obtain ⟨V, eV, kk⟩ := cell_step w g k v
  refine on_skip _ (w' := V) ho hg ?_ (h V (eV ▸ ((heap_setCell_same _ g k _ _ v h0).trans (congrArg (fun c => some (Obj.cells c T' (0, 0))) hup))) kk)
  rw [← eV]; exact exec_store_cell T _ _ h1 g k hx v hy hs hv u hu (frozen_of_row _ _ _ _ _ h0) hone
theorem ldr {o : Oper} {ρ : Operand → Value} {W : World} (T : TypeId) (g : Nat) {T' : TypeId} {cs : Array Value} (h0 : W.heap[g]? = some (.cells cs T' (0, 0))) (hi : (P.info? T).map (·.size) = some cs.size) (h1 : o.op = .load T (ldX o.op) := by kernel_rfl) (hx : ρ (ldX o.op) = pT g 0 := by kernel_rfl) (hd : isRow P T = true := by kernel_rfl) : (execOp ρ o).run P W = .ok (.value (.agg cs)) W := by
  unfold isRow at hd
  cases hu : P.underlying T with
  | none => rw [hu] at hd; cases hd
  | some d => rw [hu] at hd; exact exec_load_row T _ h1 g hx _ _ (0, 0) d h0 hu (by cases d <;> exact hd) hi
theorem ldc {o : Oper} {ρ : Operand → Value} {W : World} (T : TypeId) (g k : Nat) {v : Value} (hc : W.cell? ⟨g, k, none⟩ = some v) (h1 : o.op = .load T (ldX o.op) := by kernel_rfl) (hx : ρ (ldX o.op) = pT g k := by kernel_rfl) (hd : notRow P T = true := by kernel_rfl) : (execOp ρ o).run P W = .ok (.value v) W := by
  unfold notRow at hd
  cases hu : P.underlying T with
  | none => rw [hu] at hd; cases hd
  | some d => rw [hu] at hd; exact exec_load_cell T _ h1 _ hx d v hu (by cases d <;> exact hd) hc
theorem ldk {o : Oper} {ρ : Operand → Value} {W : World} (T : TypeId) (g k : Nat) {v : Value} {cs : Array Value} {T' : TypeId} (h0 : W.heap[g]? = some (.cells cs T' (0, 0))) (hc : cs[k]? = some v := by kernel_rfl) (h1 : o.op = .load T (ldX o.op) := by kernel_rfl) (hx : ρ (ldX o.op) = pT g k := by kernel_rfl) (hd : notRow P T = true := by kernel_rfl) : (execOp ρ o).run P W = .ok (.value v) W := ldc T g k (rc h0 hc) h1 hx hd
theorem _root_.Go.Own.Keeps.bO {g j : Nat} {W W' : World} (k : Keeps (One j) W W') {x : Obj} (h : W.heap[g]? = some x) (hne : g ≠ j := by omega) : W'.heap[g]? = some x := k.bo h hne
theorem _root_.Go.Own.Keeps.nO {M : Nat → Prop} {g : Nat} {w V V' : World} (K : Keeps M w V) (k : Keeps (One g) V V') (h : w.heap.size ≤ g := by omega) : Keeps M w V' := K.no k h
end
end Go.Own
namespace Go.Own
set_option maxRecDepth 100000
set_option maxHeartbeats 4000000
open Go Go.RowKit Go.Shelf
section
variable {P : Program} {o : Oper} {ρ : Operand → Value} {w : World}
theorem exec_append (s x : Operand) (t : TypeId) (ho : o.op = .call { callee := .builtin .append, args := #[s, x], argTypes := #[t, t] }) (vs vx : Value) (hs : ρ s = vs) (hx : ρ x = vx) {v' : Value} {w' : World}
    (hr : (Builtin.append_ #[t, t] o.type #[vs, vx]).run P w = .ok v' w') : (execOp ρ o).run P w = .ok (.value v') w' := by
  unfold execOp
  simp only [ho, resolve, invoke, builtin, Sem.run_bind, Sem.run_pure, Result.andThen_ok, List.map_toArray, List.map_cons, List.map_nil, hs, hx, hr]
end
/-- A row that lies in blocks from a base on. -/
def NewFrom (B : Nat) (v : Value) : Prop := ∀ j, v.ownBlock = some j → B ≤ j
theorem NewFrom.nil (B : Nat) : NewFrom B (.slice none 0 0) := fun j h => by simp [Value.ownBlock] at h
theorem NewFrom.ptr {B g : Nat} (h : B ≤ g) (n cap : Nat) : NewFrom B (.slice (some ⟨g, 0, none⟩) n cap) := fun j hj => by simp [Value.ownBlock] at hj; omega
theorem NewFrom.next {B : Nat} {v v' : Value} {w w' : World} (h : NewFrom B v) (hB : B ≤ w.heap.size) (h5 : ∀ k, v'.ownBlock = some k → v.ownBlock = some k ∨ k = w.heap.size ∧ w.heap.size < w'.heap.size) : NewFrom B v' := fun j hj => by
  rcases h5 j hj with h1 | ⟨h1, _⟩
  · exact h j h1
  · omega
theorem Keeps.rowAdd {w w' : World} {v : Value} (h : w.grownBy w' v.ownBlock) : Keeps (fun j => v.ownBlock = some j) w w' := (Keeps.refl _ _).grown h (fun _ e _ => e)
theorem bytes_of_block {w : World} {g n : Nat} {l : List UInt8} {T : TypeId} {fr : Nat × Nat} {C : Array Value} (h : w.heap[g]? = some (.cells C T fr)) (hC : C = (B l).toArray) (hn : l.length = n) (hm : n ≤ maxLen) : BytesAt w (.slice (some ⟨g, 0, none⟩) n n) l := by
  subst hn; subst hC
  refine ⟨⟨_, _, rfl, Nat.le_refl _, hm, fun h => by cases h⟩, fun k x hk => ⟨g, 0, _, rfl, lt_of_block h, ?_⟩⟩
  rw [Nat.zero_add]
  refine (cell_of_row _ _ _ _ _ _ h).trans ?_
  rw [List.getElem?_toArray]; exact B_get l k x hk
theorem src_block {w : World} {g : Nat} {cs : Array Value} {T : TypeId} (h : w.heap[g]? = some (.cells cs T (0, 0))) (size n : Nat) (hn : cs.toList.length = n * size) (h1 : cs.toList.all (·.oneCell') = true) : Src w size (.slice (some ⟨g, 0, none⟩) n n) n cs.toList := by
  refine ⟨hn, fun u hu => List.all_eq_true.1 h1 u hu, .inr ⟨⟨g, 0, none⟩, n, rfl, fun j u hj => ?_⟩⟩
  rw [Addr.add_lit, Nat.zero_add]
  exact (cell_of_row _ _ _ _ _ _ h).trans (by simpa using hj)
end Go.Own
namespace Go.Own
set_option maxRecDepth 100000
set_option maxHeartbeats 4000000
open Go Go.RowKit Go.Shelf
section
variable {P : Program} {a : Act} {w : World} {fn : Func}
theorem sy_enterD {f : FuncId} {args : Array Value} {R : Ending → World → Prop} (c : Code) (a : Act) (hf : P.funcs[f]? = some fn) (hb : fn.body = some c)
    (ha : ({ tmps := args ++ Array.replicate (fn.ntmps - args.size) undef, defers := [] } : Act) = a) (h : c.wp P (bodyPostD P fn R) a w) : Calls P f args w R :=
  calls_of_wp_defers hf hb (ha ▸ h)
theorem ps_defer {ops : Array Oper} {Q : Exit → Act → World → Prop} {rest : List Nat} {i : Nat} (o : Oper) (d : Deferred) (ho : ops[i]? = some o) (hg : Region.wanted o (yielded ops a.tmps) = true) (hrun : (execOp a.eval o).run P w = .ok (.defer d) w)
    (h : Gops P ops Q rest ({ a with defers := d :: a.defers }.put o.dst undef) w) : Gops P ops Q (i :: rest) a w := by
  refine ⟨?_⟩
  rw [wpOps_cons]
  unfold wpOp
  simp only [ho, hg, if_true]
  refine .inl ?_
  unfold Oper.wp
  rw [hrun]; exact h.out
theorem leaves_one {R : Ending → World → Prop} (f : FuncId) (args : Array Value) {tmps : Array Value} (he : ∀ w, (callFunc f args).run P w = .ok (.enter f args) w)
    (h : CallsD P f args .returning w fun e u' w' => u' = .returning ∧ ∃ x, e = .returned x ∧ ∃ v, (results fn tmps).run P w' = .ok v w' ∧ R (.returned v) w') : Leaves P fn tmps R [⟨.fn (.func f) args, #[]⟩] .returning w := by
  refine leaves_cons (f := f) (args := args) (by simp) ?_ (h.mono ?_)
  · simpa [invoke] using he w
  · rintro e u' w' ⟨rfl, x, rfl, v, hr, hR⟩
    exact ⟨v, hr, hR⟩
theorem sy_outD {R : Ending → World → Prop} (f : FuncId) (args : Array Value) (hd : a.defers = [⟨.fn (.func f) args, #[]⟩]) (he : ∀ w, (callFunc f args).run P w = .ok (.enter f args) w)
    (h : CallsD P f args .returning w fun e u' w' => u' = .returning ∧ ∃ x, e = .returned x ∧ ∃ v, (results fn a.tmps).run P w' = .ok v w' ∧ R (.returned v) w') : bodyPostD P fn R .ret a w := by
  show Leaves P fn a.tmps R a.defers .returning w
  rw [hd]; exact leaves_one f args he h
end
end Go.Own
namespace Go.Own
set_option maxRecDepth 100000
set_option maxHeartbeats 4000000
open Go Go.RowKit Go.Shelf
/-- Cells laid over a part of a block. -/
def seg (cs : Array Value) (o : Nat) (vs : List Value) : Array Value := (cs.toList.take o ++ vs ++ cs.toList.drop (o + vs.length)).toArray
theorem heap_setCells (g : Nat) (T : TypeId) : ∀ (vs : List Value) (o : Nat) (cs : Array Value) (w : World), w.heap[g]? = some (.cells cs T (0, 0)) → o + vs.length ≤ cs.size → (w.setCells g o vs).heap[g]? = some (.cells (seg cs o vs) T (0, 0))
  | [], o, cs, w, h, _ => by simpa [World.setCells, seg] using h
  | v :: r, o, cs, w, h, hl => by
    rw [List.length_cons] at hl
    have h1 := heap_setCell_same w g o cs T v h
    have h2 := heap_setCells g T r (o + 1) _ _ h1 (by simp; omega)
    rw [World.setCells, h2]
    refine congrArg (fun c => some (Obj.cells c T (0, 0))) (Array.toList_inj.1 ?_)
    simp only [seg, Array.toList_setIfInBounds, List.length_cons]
    have e1 : (cs.toList.set o v).take (o + 1) = cs.toList.take o ++ [v] := by
      rw [List.take_set, List.take_succ_eq_append_getElem (by simp; omega), List.set_append, if_neg (by simp; omega), List.length_take, Nat.min_eq_left (by simp; omega), Nat.sub_self]; rfl
    have e2 : (cs.toList.set o v).drop (o + 1 + r.length) = cs.toList.drop (o + (r.length + 1)) := by
      rw [List.drop_set_of_lt (by omega)]; congr 1; omega
    rw [e1, e2]; simp
theorem Keeps.setCells (w : World) (g : Nat) : ∀ (vs : List Value) (o : Nat), Keeps (One g) w (w.setCells g o vs) := by
  intro vs
  suffices h : ∀ (a w : World) (o : Nat), Keeps (One g) a w → Keeps (One g) a (w.setCells g o vs) from fun o => h w w o (Keeps.refl _ _)
  induction vs with
  | nil => intro a w o h; exact h
  | cons v r ih => intro a w o h; exact ih a _ _ (h.setOne v)
section
variable {P : Program} {o : Oper} {ρ : Operand → Value} {w : World}
theorem there_of_block {g : Nat} {cs : Array Value} {T : TypeId} (h : w.heap[g]? = some (.cells cs T (0, 0))) (of n : Nat) (hn : of + n ≤ cs.size) : w.there g of n := fun j hj => by
  refine ⟨?_, frozen_of_row _ _ _ _ _ h⟩
  rw [cell_of_row _ _ _ _ _ _ h, Array.getElem?_eq_getElem (by omega)]; rfl
theorem exec_store_mid (ty : TypeId) (x y : Operand) (ho : o.op = .store ty x y) (g of : Nat) (hx : ρ x = .pointer (some ⟨g, of, none⟩)) (vs : Array Value) (hy : ρ y = .agg vs) (cs : Array Value) (T : TypeId) (h : w.heap[g]? = some (.cells cs T (0, 0)))
    (hn : of + vs.size ≤ cs.size) (hi : (P.info? ty).map (·.size) = some vs.size) (h1 : vs.all (·.oneCell') = true) : (execOp ρ o).run P w = .ok .skip (w.setCells g of vs.toList) := by
  unfold execOp
  simp only [ho, hx, hy, Sem.run_bind, run_storeAt_mid w g of ty vs (there_of_block h of _ hn) hi h1, Result.andThen_ok, Sem.run_pure]
theorem exec_load_seg (ty : TypeId) (x : Operand) (ho : o.op = .load ty x) (g of : Nat) (hx : ρ x = .pointer (some ⟨g, of, none⟩)) (vs : List Value) (cs : Array Value) (T : TypeId) (d : TypeDesc) (h : w.heap[g]? = some (.cells cs T (0, 0)))
    (hc : ∀ j v, vs[j]? = some v → cs[of + j]? = some v) (hu : P.underlying ty = some d) (hd : d.isRow = true) (hi : (P.info? ty).map (·.size) = some vs.length) : (execOp ρ o).run P w = .ok (.value (.agg vs.toArray)) w :=
  exec_load_mid ty x ho g of hx vs d (fun j v hj => (cell_of_row _ _ _ _ _ _ h).trans (hc j v hj)) hu hd hi
/-- 'a[k:]' of an array's address. -/
theorem exec_slice_arr (t : TypeId) (x y : Operand) (ho : o.op = .slice t x (some y) none none) (b of : Nat) (hx : ρ x = .pointer (some ⟨b, of, none⟩)) (kd : IntKind) (k : Nat) (hy : ρ y = .int kd (k : Int)) (n : Nat) (e : TypeId) (hu : P.underlying t = some (.array n e))
    (hs : (P.info? e).map (·.size) = some 1) (hk : k < n) : (execOp ρ o).run P w = .ok (.value (.slice (some ⟨b, of + k, none⟩) (n - k) (n - k))) w := by
  obtain ⟨i, hi, h1⟩ := Option.map_eq_some_iff.1 hs
  have h2 : (0 : Int) ≤ (k : Int) ∧ (k : Int) ≤ (n : Int) := by omega
  unfold execOp
  simp only [ho, hx, hy, Option.map_some, Option.map_none, Instr.sliceAt, Sem.run_bind, run_underlying hu, Instr.sureAddr, Instr.sliceBounds, Instr.sliceBound, asIntOf, Sem.run_pure, Result.andThen_ok, if_pos h2]
  rw [show (sizeOf e).run P w = .ok 1 w by simp [go_sem, sizeOf, typeInfo, hi, h1]]
  simp only [Result.andThen_ok, Int.toNat_natCast, Nat.mul_one]
  rw [if_neg (by omega)]
  simp [Addr.add_lit]
theorem exec_slice_all (t : TypeId) (x : Operand) (ho : o.op = .slice t x none none none) (b of : Nat) (hx : ρ x = .pointer (some ⟨b, of, none⟩)) (n : Nat) (e : TypeId) (hu : P.underlying t = some (.array n e))
    (hs : (P.info? e).map (·.size) = some 1) : (execOp ρ o).run P w = .ok (.value (.slice (some ⟨b, of, none⟩) n n)) w := by
  obtain ⟨i, hi, h1⟩ := Option.map_eq_some_iff.1 hs
  unfold execOp
  simp only [ho, hx, Option.map_none, Instr.sliceAt, Sem.run_bind, run_underlying hu, Instr.sureAddr, Instr.sliceBounds, Sem.run_pure, Result.andThen_ok]
  rw [show (sizeOf e).run P w = .ok 1 w by simp [go_sem, sizeOf, typeInfo, hi, h1]]
  simp only [Result.andThen_ok]
  split <;> simp [Addr.add]
/-- 's[k:]' of a slice that has more. -/
theorem exec_slice_from (t : TypeId) (x y : Operand) (ho : o.op = .slice t x (some y) none none) (A : Option Addr) (n cap : Nat) (hx : ρ x = .slice A n cap) (kd : IntKind) (k : Nat) (hy : ρ y = .int kd (k : Int)) (e : TypeId) (hu : P.underlying t = some (.slice e))
    (hs : (P.info? e).map (·.size) = some 1) (hk : k ≤ n) : (execOp ρ o).run P w = .ok (.value (cutV A n cap k)) w := by
  obtain ⟨i, hi, h1⟩ := Option.map_eq_some_iff.1 hs
  have h2 : (0 : Int) ≤ (k : Int) ∧ (k : Int) ≤ (n : Int) := by omega
  unfold execOp
  simp only [ho, hx, hy, Option.map_some, Option.map_none, Instr.sliceAt, Sem.run_bind, run_underlying hu, Instr.slice, Instr.sliceBounds, Instr.sliceBound, asIntOf, Sem.run_pure, Result.andThen_ok, if_pos h2]
  rw [show (sizeOf e).run P w = .ok 1 w by simp [go_sem, sizeOf, typeInfo, hi, h1]]
  simp only [Result.andThen_ok, Int.toNat_natCast, Nat.mul_one]
  rfl
/-- 's[:k]'. -/
theorem exec_slice_to (t : TypeId) (x y : Operand) (ho : o.op = .slice t x none (some y) none) (A : Option Addr) (n cap : Nat) (hx : ρ x = .slice A n cap) (kd : IntKind) (k : Nat) (hy : ρ y = .int kd (k : Int)) (e : TypeId) (hu : P.underlying t = some (.slice e))
    (hs : (P.info? e).map (·.size) = some 1) (hk : k ≤ cap) : (execOp ρ o).run P w = .ok (.value (.slice A k cap)) w := by
  obtain ⟨i, hi, h1⟩ := Option.map_eq_some_iff.1 hs
  have h2 : (0 : Int) ≤ (k : Int) ∧ (k : Int) ≤ (cap : Int) := by omega
  unfold execOp
  simp only [ho, hx, hy, Option.map_some, Option.map_none, Instr.sliceAt, Sem.run_bind, run_underlying hu, Instr.slice, Instr.sliceBounds, Instr.sliceBound, asIntOf, Sem.run_pure, Result.andThen_ok, if_pos h2]
  rw [show (sizeOf e).run P w = .ok 1 w by simp [go_sem, sizeOf, typeInfo, hi, h1]]
  simp only [Result.andThen_ok, Int.toNat_natCast, Nat.zero_mul, Nat.sub_zero]
  cases A with
  | none => split <;> rfl
  | some a => split <;> simp [Addr.add]
/-- 'copy(d, s)' into a block of one's own. -/
theorem exec_copy (x y : Operand) (t : TypeId) (ho : o.op = .call { callee := .builtin .copy, args := #[x, y], argTypes := #[t, t] }) (e : TypeId) (hu : P.underlying t = some (.slice e)) (hs : (P.info? e).map (·.size) = some 1)
    (g of dl dc : Nat) (hx : ρ x = .slice (some ⟨g, of, none⟩) dl dc) (v : Value) (l : List UInt8) (hy : ρ y = v) (hv : BytesAt w v l) (cs : Array Value) (T : TypeId) (h : w.heap[g]? = some (.cells cs T (0, 0))) (k : Nat) (hk : k = Nat.min l.length dl) (hfit : of + k ≤ cs.size) (h0 : 0 < l.length) :
    (execOp ρ o).run P w = .ok (.value (.int .i64 (k : Int))) (w.setRow g (seg cs of (B (l.take k)))) := by
  obtain ⟨A, cap, rfl, hc1, hc2, hc3⟩ := hv.form
  obtain ⟨z, hz⟩ : ∃ z, l[0]? = some z := ⟨_, List.getElem?_eq_getElem h0⟩
  obtain ⟨b2, o2, c2, e2, hb2, _⟩ := hv.at_ 0 z hz
  simp only [Value.slice.injEq, true_and] at e2
  obtain ⟨rfl, rfl⟩ := e2
  have hlk : (l.take k).length = k := by rw [List.length_take, hk]; exact Nat.min_eq_left (Nat.min_le_left _ _)
  have := run_copy_row (P := P) w t t o.type e g of dl dc ⟨b2, o2, none⟩ l.length cap cs T (B (l.take k)) hu hs h (by rw [B_length, hlk, hk]) (fun j u hj => by
    obtain ⟨x, hx, rfl⟩ := B_get_inv _ j u hj
    have hj2 : j < (l.take k).length := (List.getElem?_eq_some_iff.1 hx).1
    rw [List.getElem?_take_of_lt (by omega)] at hx
    obtain ⟨b3, o3, c3, e3, _, h3⟩ := hv.at_ j x hx
    simp only [Value.slice.injEq, Option.some.injEq, Addr.mk.injEq, true_and, and_true] at e3
    obtain ⟨⟨rfl, rfl⟩, _⟩ := e3
    simpa [Addr.add_lit] using h3) (by rw [B_length, hlk]; exact hfit) (B_one _)
  rw [B_length, hlk] at this
  unfold execOp
  simp only [ho, hx, hy, resolve, invoke, builtin, Sem.run_bind, Sem.run_pure, Result.andThen_ok, List.map_toArray, List.map_cons, List.map_nil, this]
  rw [show seg cs of (B (l.take k)) = (cs.toList.take of ++ B (l.take k) ++ cs.toList.drop (of + k)).toArray by unfold seg; rw [B_length, hlk]]
  rfl
end
theorem BytesAt.keeps0 {w w' : World} {M : Nat → Prop} {v : Value} {l : List UInt8} (h : BytesAt w v l) (k : Keeps M w w') (hm : 0 < l.length → ∀ j, v.ownBlock = some j → ¬ M j) : BytesAt w' v l :=
  ⟨h.form, fun i x hi => by
    obtain ⟨b, o, cap, e, hb, hc⟩ := h.at_ i x hi
    exact ⟨b, o, cap, e, Nat.lt_of_lt_of_le hb k.size, (k.cell hb (hm (by have := (List.getElem?_eq_some_iff.1 hi).1; omega) b (by rw [e]; rfl))).trans hc⟩⟩
theorem BytesAt.blockLt {w : World} {u : Value} {l : List UInt8} (h : BytesAt w u l) (hl : 0 < l.length) : ∀ j, u.ownBlock = some j → j < w.heap.size := by
  intro j hj
  obtain ⟨x, hx⟩ : ∃ x, l[0]? = some x := ⟨_, List.getElem?_eq_getElem hl⟩
  obtain ⟨b, o, cap, e, hb, _⟩ := h.at_ 0 x hx
  subst e
  simp only [Value.ownBlock, Option.some.injEq] at hj
  omega
theorem Bz_get (l : List UInt8) (k : Nat) (h : k < l.length) : (B l).toArray[k]? = some (.int .u8 (((l.getD k 0).toNat : Nat) : Int)) := by
  rw [List.getElem?_toArray]
  have := B_get l k l[k] (List.getElem?_eq_getElem h)
  rw [this, List.getD_eq_getElem?_getD, List.getElem?_eq_getElem h]; rfl
theorem Bz_size (l : List UInt8) : (B l).toArray.size = l.length := by simp [B_length]
theorem Bz_set (l : List UInt8) (k : Nat) (x : UInt8) : (B l).toArray.setIfInBounds k (.int .u8 ((x.toNat : Nat) : Int)) = (B (l.set k x)).toArray := by
  simp [B, List.map_set]
theorem bytes_cell {w : World} {g o n cap : Nat} {l : List UInt8} (h : BytesAt w (.slice (some ⟨g, o, none⟩) n cap) l) (k : Nat) (hk : k < l.length) : w.cell? ⟨g, o + k, none⟩ = some (.int .u8 (((l.getD k 0).toNat : Nat) : Int)) := by
  obtain ⟨b, o2, c, e, _, hc⟩ := h.at_ k l[k] (List.getElem?_eq_getElem hk)
  simp only [Value.slice.injEq, Option.some.injEq, Addr.mk.injEq, true_and, and_true] at e
  obtain ⟨⟨rfl, rfl⟩, _, _⟩ := e
  rw [hc, List.getD_eq_getElem?_getD, List.getElem?_eq_getElem hk]; rfl
theorem wrap8 (n : Nat) : IntKind.u8.wrap (n : Int) = (((UInt8.ofNat n).toNat : Nat) : Int) := by
  show ((n : Int) % (2 ^ 8 : Int)) = _
  rw [UInt8.toNat_ofNat']
  omega
/-- Bytes put one by one. -/
def stpB (f : Nat → UInt8) (k : Nat) (s : List UInt8) : List UInt8 := (List.range k).foldl (fun t i => t.set i (f i)) s
theorem stpB_succ (f : Nat → UInt8) (k : Nat) (s : List UInt8) : stpB f (k + 1) s = (stpB f k s).set k (f k) := by simp [stpB, List.range_succ]
theorem stpB_len (f : Nat → UInt8) (k : Nat) (s : List UInt8) : (stpB f k s).length = s.length := by
  induction k with
  | zero => rfl
  | succ k ih => rw [stpB_succ, List.length_set, ih]
theorem stpB_eq (f : Nat → UInt8) (s : List UInt8) (k : Nat) (h : k ≤ s.length) : stpB f k s = (List.range k).map f ++ s.drop k := by
  induction k with
  | zero => rfl
  | succ k ih =>
    rw [stpB_succ, ih (by omega), List.set_append, if_neg (by simp), List.length_map, List.length_range, Nat.sub_self, List.range_succ, List.map_append]
    obtain ⟨x, r, hr⟩ : ∃ x r, s.drop k = x :: r := by
      cases hd : s.drop k with
      | nil => have := congrArg List.length hd; rw [List.length_drop] at this; simp at this; omega
      | cons x r => exact ⟨x, r, rfl⟩
    have h2 : s.drop (k + 1) = r := by rw [← List.drop_drop, hr]; rfl
    rw [hr, h2]; simp
theorem stpB_all (f : Nat → UInt8) (s : List UInt8) (n : Nat) (h : s.length = n) : stpB f n s = (List.range n).map f := by
  rw [stpB_eq f s n (by omega), List.drop_of_length_le (by omega), List.append_nil]
def lenOf : Value → Nat
  | .slice _ n _ => n
  | _ => 0
theorem row_len {w : World} {e : TypeId} {s n : Nat} {v : Value} {xs : List Value} (h : Row w e s v n xs) : lenOf v = n := by
  obtain ⟨_, ⟨rfl, rfl⟩ | ⟨g, cap, cur, rfl, _⟩⟩ := h <;> rfl
theorem exec_len_row {P : Program} {o : Oper} {ρ : Operand → Value} {w : World} (x : Operand) (t e : TypeId) (ho : o.op = .call { callee := .builtin .len, args := #[x], argTypes := #[t] }) (ht : P.underlying t = some (.slice e)) {v : Value} (hx : ρ x = v) {e' : TypeId} {s n : Nat} {xs : List Value} (hr : Row w e' s v n xs) :
    (execOp ρ o).run P w = .ok (.value (.int .i64 (n : Int))) w := by
  obtain ⟨_, ⟨rfl, rfl⟩ | ⟨g, cap, cur, rfl, _⟩⟩ := hr
  · exact exec_len x t e ho ht none 0 0 hx
  · exact exec_len x t e ho ht _ n cap hx
theorem row_of_block {w : World} {g n : Nat} {cs : Array Value} {T : TypeId} (h : w.heap[g]? = some (.cells cs T (0, 0))) (hn : cs.size = n) (hm : n ≤ maxLen) : Row w T 1 (.slice (some ⟨g, 0, none⟩) n n) n cs.toList :=
  ⟨by simp [hn], .inr ⟨g, n, cs, rfl, Nat.zero_le _, h, Nat.le_refl _, hm, by omega, by subst hn; rw [Nat.mul_one]; exact List.take_of_length_le (by simp)⟩⟩
theorem row_open {w : World} {e : TypeId} {v : Value} {n : Nat} {xs : List Value} (h : Row w e 1 v n xs) (hn : 0 < n) : ∃ g cap rest, v = .slice (some ⟨g, 0, none⟩) n cap ∧ w.heap[g]? = some (.cells (xs ++ rest).toArray e (0, 0)) ∧ n ≤ cap ∧ cap ≤ maxLen := by
  obtain ⟨_, ⟨_, h0⟩ | ⟨g, cap, cur, rfl, _, hg, hc, hm, _, hx⟩⟩ := h
  · omega
  · refine ⟨g, cap, cur.toList.drop n, rfl, ?_, hc, hm⟩
    rw [hg, ← hx, Nat.mul_one, List.take_append_drop]
theorem lt_meas {a b x y : Nat} (ha : a = x) (hb : b = y) (h : x < y) : a < b := by omega
end Go.Own
namespace Go.Proofs.YtcbfnflnokoacaaGreat
set_option maxRecDepth 100000
set_option maxHeartbeats 4000000
theorem u8_infoK : (Tryz.prog.info? 5).map (fun i => (i.zero, i.size, i.bytes)) = some (some (.int .u8 0), 1, 1) := by kernel_rfl
end Go.Proofs.YtcbfnflnokoacaaGreat
namespace Go.Proofs.YtcbfnflnokoacaaGreat
set_option maxRecDepth 100000
set_option maxHeartbeats 4000000
open Go Go.RowKit Go.Own
theorem u8_info0 : (Tryz.prog.info? 5).map (fun i => (i.zero, i.size, i.bytes)) = some (some (.int .u8 0), 1, 1) := by kernel_rfl
/-- The empty slice that a copy begins with. -/
theorem Row.empty (w : World) (t : TypeId) : Row (w.alloc (.cells #[] t)) t 1 (.slice (some ⟨w.heap.size, 0, none⟩) 0 0) 0 [] :=
  ⟨rfl, .inr ⟨_, _, _, rfl, Nat.zero_le _, heap_alloc_new _ _, Nat.le_refl _, by unfold maxLen; omega, rfl, rfl⟩⟩
end Go.Proofs.YtcbfnflnokoacaaGreat
namespace Go.Proofs.YtcbfnflnokoacaaGreat
set_option maxRecDepth 100000
set_option maxHeartbeats 4000000
open Go Go.RowKit Go.Own Go.Shelf
abbrev i64b (x : Int) : Prop := -9223372036854775808 ≤ x ∧ x ≤ 9223372036854775807
structure Att where
  (v s t : Int) (r : List UInt8) (g : Nat)
  deriving DecidableEq
structure Pro where
  (v h : Int) (r : List UInt8) (g : Nat)
  deriving DecidableEq
def Att.c (a : Att) : Array Value := (.int .i64 a.v :: .int .i64 a.s :: .int .i64 a.t :: (B a.r ++ [.int .u64 ((a.g : Nat) : Int)])).toArray
def Pro.c (a : Pro) : Array Value := (.int .i64 a.v :: .int .i64 a.h :: (B a.r ++ [.int .u64 ((a.g : Nat) : Int)])).toArray
structure Att.Ok (a : Att) : Prop where
  v : i64b a.v
  s : i64b a.s
  t : i64b a.t
  r : a.r.length = 32
  g : a.g < 2 ^ 64
structure Pro.Ok (a : Pro) : Prop where
  v : i64b a.v
  h : i64b a.h
  r : a.r.length = 32
  g : a.g < 2 ^ 64
section
variable (a : Att) (p : Pro)
theorem Att.c_size (h : a.r.length = 32) : a.c.size = 36 := by simp [Att.c, B_length, h]
theorem Pro.c_size (h : p.r.length = 32) : p.c.size = 35 := by simp [Pro.c, B_length, h]
theorem Att.c_0 : a.c[0]? = some (.int .i64 a.v) := by simp [Att.c]
theorem Att.c_1 : a.c[1]? = some (.int .i64 a.s) := by simp [Att.c]
theorem Att.c_2 : a.c[2]? = some (.int .i64 a.t) := by simp [Att.c]
theorem Pro.c_0 : p.c[0]? = some (.int .i64 p.v) := by simp [Pro.c]
theorem Pro.c_1 : p.c[1]? = some (.int .i64 p.h) := by simp [Pro.c]
theorem Att.c_tag (h : a.r.length = 32) : a.c[35]? = some (.int .u64 ((a.g : Nat) : Int)) := by
  simp only [Att.c, List.getElem?_toArray, List.getElem?_cons_succ]
  rw [List.getElem?_append_right (by rw [B_length]; omega), B_length, h]; rfl
theorem Pro.c_tag (h : p.r.length = 32) : p.c[34]? = some (.int .u64 ((p.g : Nat) : Int)) := by
  simp only [Pro.c, List.getElem?_toArray, List.getElem?_cons_succ]
  rw [List.getElem?_append_right (by rw [B_length]; omega), B_length, h]; rfl
theorem Att.c_seg : ∀ (j : Nat) (x : Value), (B a.r)[j]? = some x → a.c[3 + j]? = some x := fun j x h => by
  simp only [Att.c, List.getElem?_toArray, show 3 + j = j + 1 + 1 + 1 by omega, List.getElem?_cons_succ]
  rw [List.getElem?_append_left (List.getElem?_eq_some_iff.1 h).1]; exact h
theorem Pro.c_seg : ∀ (j : Nat) (x : Value), (B p.r)[j]? = some x → p.c[2 + j]? = some x := fun j x h => by
  simp only [Pro.c, List.getElem?_toArray, show 2 + j = j + 1 + 1 by omega, List.getElem?_cons_succ]
  rw [List.getElem?_append_left (List.getElem?_eq_some_iff.1 h).1]; exact h
theorem Att.c_set0 (x : Int) : a.c.setIfInBounds 0 (.int .i64 x) = Att.c ⟨x, a.s, a.t, a.r, a.g⟩ := by simp [Att.c]
theorem Att.c_set1 (x : Int) : a.c.setIfInBounds 1 (.int .i64 x) = Att.c ⟨a.v, x, a.t, a.r, a.g⟩ := by simp [Att.c]
theorem Att.c_set2 (x : Int) : a.c.setIfInBounds 2 (.int .i64 x) = Att.c ⟨a.v, a.s, x, a.r, a.g⟩ := by simp [Att.c]
theorem Pro.c_set0 (x : Int) : p.c.setIfInBounds 0 (.int .i64 x) = Pro.c ⟨x, p.h, p.r, p.g⟩ := by simp [Pro.c]
theorem Pro.c_set1 (x : Int) : p.c.setIfInBounds 1 (.int .i64 x) = Pro.c ⟨p.v, x, p.r, p.g⟩ := by simp [Pro.c]
theorem Att.c_settag (x : Nat) (h : a.r.length = 32) : a.c.setIfInBounds 35 (.int .u64 ((x : Nat) : Int)) = Att.c ⟨a.v, a.s, a.t, a.r, x⟩ := by
  simp only [Att.c, List.setIfInBounds_toArray, List.set_cons_succ]
  rw [List.set_append, if_neg (by rw [B_length]; omega), B_length, h]; rfl
theorem Pro.c_settag (x : Nat) (h : p.r.length = 32) : p.c.setIfInBounds 34 (.int .u64 ((x : Nat) : Int)) = Pro.c ⟨p.v, p.h, p.r, x⟩ := by
  simp only [Pro.c, List.setIfInBounds_toArray, List.set_cons_succ]
  rw [List.set_append, if_neg (by rw [B_length]; omega), B_length, h]; rfl
theorem Att.c_one : a.c.all (·.oneCell') = true := by
  simp only [Att.c, List.all_toArray, List.all_cons, List.all_append]
  rw [List.all_eq_true.2 (B_one a.r)]; rfl
theorem Pro.c_one : p.c.all (·.oneCell') = true := by
  simp only [Pro.c, List.all_toArray, List.all_cons, List.all_append]
  rw [List.all_eq_true.2 (B_one p.r)]; rfl
theorem Att.c_seth (x : List UInt8) (h : a.r.length = 32) (hx : x.length = 32) : seg a.c 3 (B x) = Att.c ⟨a.v, a.s, a.t, x, a.g⟩ := by
  apply Array.toList_inj.1
  simp only [seg, Att.c, B_length, hx]
  simp only [List.take_succ_cons, List.take_zero, List.drop_succ_cons, Nat.reduceAdd]
  rw [show List.drop 32 (B a.r ++ [Value.int IntKind.u64 ((a.g : Nat) : Int)]) = [Value.int IntKind.u64 ((a.g : Nat) : Int)] by rw [List.drop_append_of_le_length (by rw [B_length]; omega), List.drop_of_length_le (by rw [B_length]; omega)]; rfl]
  simp
theorem Pro.c_seth (x : List UInt8) (h : p.r.length = 32) (hx : x.length = 32) : seg p.c 2 (B x) = Pro.c ⟨p.v, p.h, x, p.g⟩ := by
  apply Array.toList_inj.1
  simp only [seg, Pro.c, B_length, hx]
  simp only [List.take_succ_cons, List.take_zero, List.drop_succ_cons, Nat.reduceAdd]
  rw [show List.drop 32 (B p.r ++ [Value.int IntKind.u64 ((p.g : Nat) : Int)]) = [Value.int IntKind.u64 ((p.g : Nat) : Int)] by rw [List.drop_append_of_le_length (by rw [B_length]; omega), List.drop_of_length_le (by rw [B_length]; omega)]; rfl]
  simp
end
/-- May a vote be? -/
def Att.fine (a : Att) : Prop := 0 ≤ a.v ∧ a.v ≤ 31 ∧ 0 ≤ a.s ∧ a.s ≤ 4294967296 ∧ 0 ≤ a.t ∧ a.t ≤ 4294967296
def Pro.fine (p : Pro) : Prop := 0 ≤ p.v ∧ p.v ≤ 31 ∧ 1 ≤ p.h ∧ p.h ≤ 4294967296
instance (a : Att) : Decidable a.fine := by unfold Att.fine; infer_instance
instance (p : Pro) : Decidable p.fine := by unfold Pro.fine; infer_instance
def Att.err (a : Att) : Int := if a.fine then 0 else 3
def Pro.err (p : Pro) : Int := if p.fine then 0 else 3
theorem Att.err_ok {a : Att} (h : a.fine) : a.err = 0 := if_pos h
theorem Att.err_no {a : Att} (h : ¬ a.fine) : a.err = 3 := if_neg h
theorem Pro.err_ok {p : Pro} (h : p.fine) : p.err = 0 := if_pos h
theorem Pro.err_no {p : Pro} (h : ¬ p.fine) : p.err = 3 := if_neg h
/-- Bounds: a number, and from where to where it has to be. -/
def bC (bs : List (Int × Int × Int)) : List Value := bs.flatMap fun b => [.int .i64 b.1, .int .i64 b.2.1, .int .i64 b.2.2]
def bIn (b : Int × Int × Int) : Bool := decide (b.2.1 ≤ b.1 ∧ b.1 ≤ b.2.2)
def bErr (bs : List (Int × Int × Int)) : Int := if bs.all bIn then 0 else 3
theorem bC_get (bs : List (Int × Int × Int)) (i : Nat) (b : Int × Int × Int) (h : bs[i]? = some b) (j : Nat) (x : Value) (hx : [Value.int .i64 b.1, .int .i64 b.2.1, .int .i64 b.2.2][j]? = some x) : (bC bs)[i * 3 + j]? = some x := by
  induction bs generalizing i with
  | nil => simp at h
  | cons c r ih =>
    have hj : j < 3 := (List.getElem?_eq_some_iff.1 hx).1
    cases i with
    | zero =>
      simp only [List.getElem?_cons_zero, Option.some.injEq] at h; subst h
      rw [bC, List.flatMap_cons, Nat.zero_mul, Nat.zero_add, List.getElem?_append_left (by simpa using hj)]; exact hx
    | succ i =>
      have := ih i (by simpa using h)
      rw [bC, List.flatMap_cons, List.getElem?_append_right (by simp; omega)]
      rw [show (i + 1) * 3 + j - [Value.int .i64 c.1, .int .i64 c.2.1, .int .i64 c.2.2].length = i * 3 + j by simp; omega]
      exact this
theorem bErr_no {bs : List (Int × Int × Int)} {i : Nat} {b : Int × Int × Int} (h : bs[i]? = some b) (hb : bIn b = false) : bErr bs = 3 := by
  unfold bErr
  rw [if_neg]
  intro hall
  have := List.all_eq_true.1 hall b (List.mem_of_getElem? h)
  rw [hb] at this; cases this
theorem bErr_ok {bs : List (Int × Int × Int)} (h : ∀ (i : Nat) (b : Int × Int × Int), bs[i]? = some b → bIn b = true) : bErr bs = 0 := by
  unfold bErr
  rw [if_pos (List.all_eq_true.2 fun b hb => by obtain ⟨i, hi⟩ := List.getElem?_of_mem hb; exact h i b hi)]
theorem bErr_att (a : Att) : bErr [(a.v, 0, 31), (a.s, 0, 4294967296), (a.t, 0, 4294967296)] = a.err := by
  unfold bErr Att.err Att.fine
  simp only [List.all_cons, List.all_nil, bIn, Bool.and_true, Bool.and_eq_true, decide_eq_true_eq]
  congr 1; simp only [eq_iff_iff]; omega
theorem bErr_pro (p : Pro) : bErr [(p.v, 0, 31), (p.h, 1, 4294967296)] = p.err := by
  unfold bErr Pro.err Pro.fine
  simp only [List.all_cons, List.all_nil, bIn, Bool.and_true, Bool.and_eq_true, decide_eq_true_eq]
  congr 1; simp only [eq_iff_iff]; omega
end Go.Proofs.YtcbfnflnokoacaaGreat
namespace Go.Proofs.YtcbfnflnokoacaaGreat
set_option maxRecDepth 100000
set_option maxHeartbeats 4000000
open Go Go.RowKit Go.Own Go.Shelf
structure Msg where
  (k f vl t : Int) (am mn : Nat) (sv ss sp sf n pf : Int) (a b : Att) (p q : Pro)
  deriving DecidableEq
def Msg.hd (m : Msg) : List Value := [.int .i64 m.k, .int .i64 m.f, .int .i64 m.vl, .int .i64 m.t, .int .u64 ((m.am : Nat) : Int), .int .u64 ((m.mn : Nat) : Int), .int .i64 m.sv, .int .i64 m.ss, .int .i64 m.sp, .int .i64 m.sf, .int .i64 m.n, .int .i64 m.pf]
def Msg.cl (m : Msg) : List Value := m.hd ++ (m.a.c.toList ++ (m.b.c.toList ++ (m.p.c.toList ++ m.q.c.toList)))
def Msg.c (m : Msg) : Array Value := m.cl.toArray
structure Msg.R (m : Msg) : Prop where
  a : m.a.r.length = 32
  b : m.b.r.length = 32
  p : m.p.r.length = 32
  q : m.q.r.length = 32
structure Msg.Ok (m : Msg) : Prop where
  k : i64b m.k
  f : i64b m.f
  vl : i64b m.vl
  t : i64b m.t
  am : m.am < 2 ^ 64
  mn : m.mn < 2 ^ 64
  sv : i64b m.sv
  ss : i64b m.ss
  sp : i64b m.sp
  sf : i64b m.sf
  n : i64b m.n
  pf : i64b m.pf
  a : m.a.Ok
  b : m.b.Ok
  p : m.p.Ok
  q : m.q.Ok
theorem Msg.Ok.R {m : Msg} (h : m.Ok) : m.R := ⟨h.a.r, h.b.r, h.p.r, h.q.r⟩
/-- Fields that are numbers, amounts, hashes. -/
inductive NF where
  | k | f | vl | t | sv | ss | sp | sf | n | pf | av | as_ | at_ | bv | bs | bt | pv | ph | qv | qh
  deriving DecidableEq
inductive AF where
  | am | mn | ag | bg | pg | qg
  deriving DecidableEq
inductive HF where
  | ar | br | pr | qr
  deriving DecidableEq
def NF.off : NF → Nat
  | k => 0 | f => 1 | vl => 2 | t => 3 | sv => 6 | ss => 7 | sp => 8 | sf => 9 | n => 10 | pf => 11
  | av => 12 | as_ => 13 | at_ => 14 | bv => 48 | bs => 49 | bt => 50 | pv => 84 | ph => 85 | qv => 119 | qh => 120
def AF.off : AF → Nat
  | am => 4 | mn => 5 | ag => 47 | bg => 83 | pg => 118 | qg => 153
def HF.off : HF → Nat
  | ar => 15 | br => 51 | pr => 86 | qr => 121
def NF.get (m : Msg) : NF → Int
  | k => m.k | f => m.f | vl => m.vl | t => m.t | sv => m.sv | ss => m.ss | sp => m.sp | sf => m.sf | n => m.n | pf => m.pf
  | av => m.a.v | as_ => m.a.s | at_ => m.a.t | bv => m.b.v | bs => m.b.s | bt => m.b.t | pv => m.p.v | ph => m.p.h | qv => m.q.v | qh => m.q.h
def NF.set (m : Msg) (x : Int) : NF → Msg
  | k => { m with k := x } | f => { m with f := x } | vl => { m with vl := x } | t => { m with t := x } | sv => { m with sv := x } | ss => { m with ss := x } | sp => { m with sp := x } | sf => { m with sf := x } | n => { m with n := x } | pf => { m with pf := x }
  | av => { m with a := ⟨x, m.a.s, m.a.t, m.a.r, m.a.g⟩ } | as_ => { m with a := ⟨m.a.v, x, m.a.t, m.a.r, m.a.g⟩ } | at_ => { m with a := ⟨m.a.v, m.a.s, x, m.a.r, m.a.g⟩ }
  | bv => { m with b := ⟨x, m.b.s, m.b.t, m.b.r, m.b.g⟩ } | bs => { m with b := ⟨m.b.v, x, m.b.t, m.b.r, m.b.g⟩ } | bt => { m with b := ⟨m.b.v, m.b.s, x, m.b.r, m.b.g⟩ }
  | pv => { m with p := ⟨x, m.p.h, m.p.r, m.p.g⟩ } | ph => { m with p := ⟨m.p.v, x, m.p.r, m.p.g⟩ } | qv => { m with q := ⟨x, m.q.h, m.q.r, m.q.g⟩ } | qh => { m with q := ⟨m.q.v, x, m.q.r, m.q.g⟩ }
def AF.get (m : Msg) : AF → Nat
  | am => m.am | mn => m.mn | ag => m.a.g | bg => m.b.g | pg => m.p.g | qg => m.q.g
def AF.set (m : Msg) (x : Nat) : AF → Msg
  | am => { m with am := x } | mn => { m with mn := x } | ag => { m with a := ⟨m.a.v, m.a.s, m.a.t, m.a.r, x⟩ } | bg => { m with b := ⟨m.b.v, m.b.s, m.b.t, m.b.r, x⟩ }
  | pg => { m with p := ⟨m.p.v, m.p.h, m.p.r, x⟩ } | qg => { m with q := ⟨m.q.v, m.q.h, m.q.r, x⟩ }
def HF.get (m : Msg) : HF → List UInt8
  | ar => m.a.r | br => m.b.r | pr => m.p.r | qr => m.q.r
def HF.set (m : Msg) (x : List UInt8) : HF → Msg
  | ar => { m with a := ⟨m.a.v, m.a.s, m.a.t, x, m.a.g⟩ } | br => { m with b := ⟨m.b.v, m.b.s, m.b.t, x, m.b.g⟩ }
  | pr => { m with p := ⟨m.p.v, m.p.h, x, m.p.g⟩ } | qr => { m with q := ⟨m.q.v, m.q.h, x, m.q.g⟩ }
section
variable {m : Msg}
theorem Msg.hd_len : m.hd.length = 12 := rfl
theorem Att.tl {a : Att} (h : a.r.length = 32) : a.c.toList.length = 36 := by have := Att.c_size a h; simpa using this
theorem Pro.tl {a : Pro} (h : a.r.length = 32) : a.c.toList.length = 35 := by have := Pro.c_size a h; simpa using this
theorem Msg.c_size (h : m.R) : m.c.size = 154 := by simp [Msg.c, Msg.cl, Msg.hd_len, Att.tl h.a, Att.tl h.b, Pro.tl h.p, Pro.tl h.q, -Array.length_toList]
theorem mid_get {x y z : List Value} {n : Nat} (hn : x.length = n) {j : Nat} {v : Value} (h : y[j]? = some v) : (x ++ (y ++ z))[n + j]? = some v := by
  rw [List.getElem?_append_right (by omega), hn, Nat.add_sub_cancel_left, List.getElem?_append_left (List.getElem?_eq_some_iff.1 h).1]; exact h
theorem mid_set {x y z : List Value} {n : Nat} (hn : x.length = n) {j : Nat} (hj : j < y.length) (v : Value) : (x ++ (y ++ z)).set (n + j) v = x ++ (y.set j v ++ z) := by
  rw [List.set_append_right _ _ (by omega), hn, Nat.add_sub_cancel_left, List.set_append_left _ _ hj]
theorem Msg.cl_a (m : Msg) : m.cl = m.hd ++ (m.a.c.toList ++ (m.b.c.toList ++ (m.p.c.toList ++ m.q.c.toList))) := rfl
theorem Msg.cl_b (m : Msg) : m.cl = (m.hd ++ m.a.c.toList) ++ (m.b.c.toList ++ (m.p.c.toList ++ m.q.c.toList)) := by rw [Msg.cl_a, List.append_assoc]
theorem Msg.cl_p (m : Msg) : m.cl = (m.hd ++ (m.a.c.toList ++ m.b.c.toList)) ++ (m.p.c.toList ++ m.q.c.toList) := by rw [Msg.cl_a]; simp only [List.append_assoc]
theorem Msg.cl_q (m : Msg) : m.cl = (m.hd ++ (m.a.c.toList ++ (m.b.c.toList ++ m.p.c.toList))) ++ (m.q.c.toList ++ []) := by rw [Msg.cl_a]; simp only [List.append_assoc, List.append_nil]
theorem len_b (h : m.R) : (m.hd ++ m.a.c.toList).length = 48 := by rw [List.length_append, Msg.hd_len, Att.tl h.a]
theorem len_p (h : m.R) : (m.hd ++ (m.a.c.toList ++ m.b.c.toList)).length = 84 := by rw [List.length_append, List.length_append, Msg.hd_len, Att.tl h.a, Att.tl h.b]
theorem len_q (h : m.R) : (m.hd ++ (m.a.c.toList ++ (m.b.c.toList ++ m.p.c.toList))).length = 119 := by rw [List.length_append, List.length_append, List.length_append, Msg.hd_len, Att.tl h.a, Att.tl h.b, Pro.tl h.p]
theorem getA (m : Msg) {j : Nat} {v : Value} (h : m.a.c[j]? = some v) : m.c[12 + j]? = some v := by
  rw [Msg.c, List.getElem?_toArray, Msg.cl_a]; exact mid_get Msg.hd_len (by rw [Array.getElem?_toList]; exact h)
theorem getB (hr : m.R) {j : Nat} {v : Value} (h : m.b.c[j]? = some v) : m.c[48 + j]? = some v := by
  rw [Msg.c, List.getElem?_toArray, Msg.cl_b]; exact mid_get (len_b hr) (by rw [Array.getElem?_toList]; exact h)
theorem getP (hr : m.R) {j : Nat} {v : Value} (h : m.p.c[j]? = some v) : m.c[84 + j]? = some v := by
  rw [Msg.c, List.getElem?_toArray, Msg.cl_p]; exact mid_get (len_p hr) (by rw [Array.getElem?_toList]; exact h)
theorem getQ (hr : m.R) {j : Nat} {v : Value} (h : m.q.c[j]? = some v) : m.c[119 + j]? = some v := by
  rw [Msg.c, List.getElem?_toArray, Msg.cl_q]; exact mid_get (len_q hr) (by rw [Array.getElem?_toList]; exact h)
theorem Msg.get_n (hr : m.R) (x : NF) : m.c[x.off]? = some (.int .i64 (x.get m)) := by
  cases x
  case av => exact getA m (Att.c_0 _)
  case as_ => exact getA m (Att.c_1 _)
  case at_ => exact getA m (Att.c_2 _)
  case bv => exact getB hr (Att.c_0 _)
  case bs => exact getB hr (Att.c_1 _)
  case bt => exact getB hr (Att.c_2 _)
  case pv => exact getP hr (Pro.c_0 _)
  case ph => exact getP hr (Pro.c_1 _)
  case qv => exact getQ hr (Pro.c_0 _)
  case qh => exact getQ hr (Pro.c_1 _)
  all_goals rfl
theorem Msg.get_a (hr : m.R) (x : AF) : m.c[x.off]? = some (.int .u64 ((x.get m : Nat) : Int)) := by
  cases x
  case ag => exact getA m (Att.c_tag _ hr.a)
  case bg => exact getB hr (Att.c_tag _ hr.b)
  case pg => exact getP hr (Pro.c_tag _ hr.p)
  case qg => exact getQ hr (Pro.c_tag _ hr.q)
  all_goals rfl
theorem tl_set {c d : Array Value} {j : Nat} {v : Value} (h : c.setIfInBounds j v = d) : c.toList.set j v = d.toList := by rw [← h, Array.toList_setIfInBounds]
theorem setA (hr : m.R) {j : Nat} (hj : j < 36) {v : Value} {a : Att} (h : m.a.c.setIfInBounds j v = a.c) : m.c.setIfInBounds (12 + j) v = Msg.c { m with a := a } := by
  rw [Msg.c, Msg.cl_a, List.setIfInBounds_toArray, mid_set Msg.hd_len (by rw [Att.tl hr.a]; exact hj), tl_set h]; rfl
theorem setB (hr : m.R) {j : Nat} (hj : j < 36) {v : Value} {a : Att} (h : m.b.c.setIfInBounds j v = a.c) : m.c.setIfInBounds (48 + j) v = Msg.c { m with b := a } := by
  rw [Msg.c, Msg.cl_b, List.setIfInBounds_toArray, mid_set (len_b hr) (by rw [Att.tl hr.b]; exact hj), tl_set h, Msg.c, Msg.cl_b]; rfl
theorem setP (hr : m.R) {j : Nat} (hj : j < 35) {v : Value} {a : Pro} (h : m.p.c.setIfInBounds j v = a.c) : m.c.setIfInBounds (84 + j) v = Msg.c { m with p := a } := by
  rw [Msg.c, Msg.cl_p, List.setIfInBounds_toArray, mid_set (len_p hr) (by rw [Pro.tl hr.p]; exact hj), tl_set h, Msg.c, Msg.cl_p]; rfl
theorem setQ (hr : m.R) {j : Nat} (hj : j < 35) {v : Value} {a : Pro} (h : m.q.c.setIfInBounds j v = a.c) : m.c.setIfInBounds (119 + j) v = Msg.c { m with q := a } := by
  rw [Msg.c, Msg.cl_q, List.setIfInBounds_toArray, mid_set (len_q hr) (by rw [Pro.tl hr.q]; exact hj), tl_set h, Msg.c, Msg.cl_q]; rfl
theorem Msg.set_n (hr : m.R) (x : NF) (v : Int) : m.c.setIfInBounds x.off (.int .i64 v) = (x.set m v).c := by
  cases x
  case av => exact setA hr (j := 0) (by decide) (Att.c_set0 _ _)
  case as_ => exact setA hr (j := 1) (by decide) (Att.c_set1 _ _)
  case at_ => exact setA hr (j := 2) (by decide) (Att.c_set2 _ _)
  case bv => exact setB hr (j := 0) (by decide) (Att.c_set0 _ _)
  case bs => exact setB hr (j := 1) (by decide) (Att.c_set1 _ _)
  case bt => exact setB hr (j := 2) (by decide) (Att.c_set2 _ _)
  case pv => exact setP hr (j := 0) (by decide) (Pro.c_set0 _ _)
  case ph => exact setP hr (j := 1) (by decide) (Pro.c_set1 _ _)
  case qv => exact setQ hr (j := 0) (by decide) (Pro.c_set0 _ _)
  case qh => exact setQ hr (j := 1) (by decide) (Pro.c_set1 _ _)
  all_goals (rw [Msg.c, List.setIfInBounds_toArray]; rfl)
theorem Msg.set_a (hr : m.R) (x : AF) (v : Nat) : m.c.setIfInBounds x.off (.int .u64 ((v : Nat) : Int)) = (x.set m v).c := by
  cases x
  case ag => exact setA hr (j := 35) (by decide) (Att.c_settag _ _ hr.a)
  case bg => exact setB hr (j := 35) (by decide) (Att.c_settag _ _ hr.b)
  case pg => exact setP hr (j := 34) (by decide) (Pro.c_settag _ _ hr.p)
  case qg => exact setQ hr (j := 34) (by decide) (Pro.c_settag _ _ hr.q)
  all_goals (rw [Msg.c, List.setIfInBounds_toArray]; rfl)
theorem tl_seg {c d : Array Value} {j : Nat} {xs : List Value} (h : Go.Own.seg c j xs = d) : c.toList.take j ++ (xs ++ c.toList.drop (j + xs.length)) = d.toList := by rw [← h]; simp [Go.Own.seg]
theorem mid_seg {x y z : List Value} {n : Nat} (hn : x.length = n) {j : Nat} {xs : List Value} (hj : j + xs.length ≤ y.length) :
    (x ++ (y ++ z)).take (n + j) ++ (xs ++ (x ++ (y ++ z)).drop (n + j + xs.length)) = x ++ ((y.take j ++ (xs ++ y.drop (j + xs.length))) ++ z) := by
  rw [List.take_append, List.take_of_length_le (by omega), hn, Nat.add_sub_cancel_left, List.take_append_of_le_length (by omega)]
  rw [List.drop_append, List.drop_of_length_le (by omega), hn, show n + j + xs.length - n = j + xs.length by omega, List.drop_append_of_le_length (by omega)]
  simp
theorem segM {c : List Value} {x y z : List Value} (hc : c = x ++ (y ++ z)) {n : Nat} (hn : x.length = n) {j : Nat} {xs : List Value} (hj : j + xs.length ≤ y.length) {d : List Value} (h : y.take j ++ (xs ++ y.drop (j + xs.length)) = d) : Go.Own.seg c.toArray (n + j) xs = (x ++ (d ++ z)).toArray := by
  subst hc; subst h
  have := mid_seg (z := z) hn hj
  simp only [Go.Own.seg]
  rw [← this]; simp
theorem Msg.set_h (hr : m.R) (x : HF) (v : List UInt8) (hv : v.length = 32) : Go.Own.seg m.c x.off (B v) = (x.set m v).c := by
  have hB : (B v).length = 32 := by rw [B_length, hv]
  cases x
  case ar => exact (segM (Msg.cl_a m) Msg.hd_len (j := 3) (by rw [hB, Att.tl hr.a]; decide) (tl_seg (Att.c_seth _ v hr.a hv))).trans rfl
  case br => exact (segM (Msg.cl_b m) (len_b hr) (j := 3) (by rw [hB, Att.tl hr.b]; decide) (tl_seg (Att.c_seth _ v hr.b hv))).trans (by rw [Msg.c, Msg.cl_b]; rfl)
  case pr => exact (segM (Msg.cl_p m) (len_p hr) (j := 2) (by rw [hB, Pro.tl hr.p]; decide) (tl_seg (Pro.c_seth _ v hr.p hv))).trans (by rw [Msg.c, Msg.cl_p]; rfl)
  case qr => exact (segM (Msg.cl_q m) (len_q hr) (j := 2) (by rw [hB, Pro.tl hr.q]; decide) (tl_seg (Pro.c_seth _ v hr.q hv))).trans (by rw [Msg.c, Msg.cl_q]; rfl)
theorem NF.R {x : NF} {v : Int} (h : m.R) : (x.set m v).R := by cases x <;> exact ⟨h.a, h.b, h.p, h.q⟩
theorem AF.R {x : AF} {v : Nat} (h : m.R) : (x.set m v).R := by cases x <;> exact ⟨h.a, h.b, h.p, h.q⟩
theorem HF.R {x : HF} {v : List UInt8} (h : m.R) (hv : v.length = 32) : (x.set m v).R := by
  cases x
  · exact ⟨hv, h.b, h.p, h.q⟩
  · exact ⟨h.a, hv, h.p, h.q⟩
  · exact ⟨h.a, h.b, hv, h.q⟩
  · exact ⟨h.a, h.b, h.p, hv⟩
theorem HF.len {x : HF} (h : m.R) : (x.get m).length = 32 := by
  cases x
  · exact h.a
  · exact h.b
  · exact h.p
  · exact h.q
theorem Msg.c_one (m : Msg) : m.c.all (·.oneCell') = true := by
  have hA (a : Att) : a.c.toList.all (·.oneCell') = true := by rw [← Att.c_one a]; exact Array.all_toList
  have hP (a : Pro) : a.c.toList.all (·.oneCell') = true := by rw [← Pro.c_one a]; exact Array.all_toList
  simp only [Msg.c, Msg.cl, List.all_toArray, List.all_append, hA, hP, Bool.and_true]
  rfl
end
end Go.Proofs.YtcbfnflnokoacaaGreat
namespace Go.Own
set_option maxRecDepth 100000
set_option maxHeartbeats 4000000
open Go Go.RowKit Go.Shelf
/-- How a call without results ends that may panic. -/
def PEnd (K : World → Prop) (E : List PanicEntry → World → Prop) (e : Ending) (w : World) : Prop := (e = .returned (.tuple #[]) ∧ K w) ∨ ∃ c, e = .panicked c ∧ E c w
theorem PEnd.mono {K K' : World → Prop} {E E' : List PanicEntry → World → Prop} {e : Ending} {w : World} (h : PEnd K E e w) (hk : ∀ w, K w → K' w) (he : ∀ c w, E c w → E' c w) : PEnd K' E' e w := by
  rcases h with ⟨h1, h2⟩ | ⟨c, h1, h2⟩
  · exact .inl ⟨h1, hk _ h2⟩
  · exact .inr ⟨c, h1, he _ _ h2⟩
/-- The method that an interface value's call comes to. -/
def MethodAt (P : Program) (v : Value) (name : String) (f : FuncId) (rv : Value) : Prop := ∀ (args : Array Value) (w : World), (callMethod v name args).run P w = .ok (.enter f (#[rv] ++ args)) w
def NilAt (P : Program) (v : Value) (name : String) : Prop := ∀ (ρ : Operand → Value) (o : Oper) (x : Operand) (w : World), o.op = .nilCheck x → ρ x = .func (.method name) #[v] #[] → (execOp ρ o).run P w = .ok (.value (.func (.method name) #[v] #[])) w
section
variable {P : Program} {ops : Array Oper} {Q : Exit → Act → World → Prop} {a : Act} {w : World} {i : Nat}
theorem run_callF {ρ : Operand → Value} (o : Oper) (f : FuncId) (args : Array Value) (hc : o.op = .call { callee := .value (.func f), args := callArgs o, argTypes := callTypes o }) (hρ : ρ (.func f) = .func (.func f) #[] #[]) (hargs : (callArgs o).map ρ = args)
    (he : ∀ args w, (callFunc f args).run P w = .ok (.enter f args) w) : (execOp ρ o).run P w = .ok (.enter f args) w := by
  unfold execOp
  simp only [hc, resolve, hargs, hρ, Sem.run_bind, Deferred.ofValue, Sem.run_pure, Result.andThen_ok, invoke, Array.append_empty, Array.empty_append, he]
theorem run_callV {ρ : Operand → Value} (o : Oper) (x : Operand) (f : FuncId) (first caps args : Array Value) (hc : o.op = .call { callee := .value x, args := callArgs o, argTypes := callTypes o }) (hx : ρ x = .func (.func f) first caps) (hargs : first ++ (callArgs o).map ρ ++ caps = args)
    (he : ∀ args w, (callFunc f args).run P w = .ok (.enter f args) w) : (execOp ρ o).run P w = .ok (.enter f args) w := by
  unfold execOp
  simp only [hc, resolve, hx, Sem.run_bind, Deferred.ofValue, Sem.run_pure, Result.andThen_ok, invoke, hargs, he]
theorem run_invoke {ρ : Operand → Value} (o : Oper) (x : Operand) (name : String) (v : Value) (f : FuncId) (rv : Value) (args full : Array Value) (hc : o.op = .call { callee := .invoke x name, args := callArgs o, argTypes := callTypes o }) (hx : ρ x = v) (hargs : (callArgs o).map ρ = args)
    (hm : MethodAt P v name f rv) (hf : #[rv] ++ args = full) : (execOp ρ o).run P w = .ok (.enter f full) w := by
  unfold execOp
  simp only [hc, resolve, hx, hargs, Sem.run_bind, Sem.run_pure, Result.andThen_ok, invoke]
  have h0 : ((#[v] ++ args)[0]? : Option Value) = some v := (Array.getElem?_append_left (by simp)).trans rfl
  have h1 : (#[v] ++ args).extract 1 (#[v] ++ args).size = args := by
    apply Array.toList_inj.1
    rw [Array.toList_extract]
    simp [List.extract, List.take_of_length_le]
  simp only [h0, h1]
  rw [hm, hf]
theorem opH_P {K : Act → World → Prop} (o : Oper) (f : FuncId) (args : Array Value) (R : World → Prop) (E : List PanicEntry → World → Prop) (ho : ops[i]? = some o) (hg : Region.wanted o (yielded ops a.tmps) = true) (hr : (execOp a.eval o).run P w = .ok (.enter f args) w)
    (h : Calls P f args w (PEnd R E)) (hE : ∀ c w', E c w' → Q (.panic c) a w') (hK : ∀ w', R w' → K (a.put o.dst (.tuple #[])) w') : wpOp P ops Q i K a w := by
  unfold wpOp
  simp only [ho, hg, if_true]
  refine .inl ?_
  unfold Oper.wp
  rw [hr]
  refine Calls.mono h fun e w' he => ?_
  rcases he with ⟨rfl, h1⟩ | ⟨c, rfl, h1⟩
  · exact hK _ h1
  · exact hE _ _ h1
theorem ps_P {rest : List Nat} (o : Oper) (f : FuncId) (args : Array Value) (R : World → Prop) (E : List PanicEntry → World → Prop) (hr : (execOp a.eval o).run P w = .ok (.enter f args) w)
    (h : Calls P f args w (PEnd R E)) (hE : ∀ c w', E c w' → Q (.panic c) a w') (hK : ∀ w', R w' → Gops P ops Q rest (a.put o.dst (.tuple #[])) w') (ho : ops[i]? = some o := by kernel_rfl) (hg : Region.wanted o (yielded ops a.tmps) = true := by kernel_rfl) : Gops P ops Q (i :: rest) a w :=
  ⟨by rw [wpOps_cons]; exact opH_P o f args R E ho hg hr h hE (fun w' h1 => (hK w' h1).out)⟩
theorem ls_P {rest : List Oper} (o : Oper) (f : FuncId) (args : Array Value) (R : World → Prop) (E : List PanicEntry → World → Prop) (hr : (execOp a.eval o).run P w = .ok (.enter f args) w)
    (h : Calls P f args w (PEnd R E)) (hE : ∀ c w', E c w' → Q (.panic c) a w') (hK : ∀ w', R w' → Gls P ops Q rest (a.put o.dst (.tuple #[])) w') (hg : Region.wanted o (yielded ops a.tmps) = true := by kernel_rfl) : Gls P ops Q (o :: rest) a w := by
  refine ⟨?_⟩
  unfold wpList
  rw [if_pos hg]
  left
  unfold Oper.wp
  rw [hr]
  refine Calls.mono h fun e w' he => ?_
  rcases he with ⟨rfl, h1⟩ | ⟨c, rfl, h1⟩
  · exact (hK _ h1).out
  · exact hE _ _ h1
/-- 'panic(x)' of a value that is no interface. -/
theorem ps_panic {rest : List Nat} (o : Oper) (x : Operand) (t : TypeId) (v : Value) (ho : ops[i]? = some o) (hg : Region.wanted o (yielded ops a.tmps) = true) (hc : o.op = .panic x) (hx : a.eval x = .iface t v)
    (h : Q (.panic [{ v := .iface t v, recovered := false }]) a w) : Gops P ops Q (i :: rest) a w := by
  refine ⟨?_⟩
  rw [wpOps_cons]
  unfold wpOp
  simp only [ho, hg, if_true]
  refine .inl ?_
  unfold Oper.wp execOp
  simp only [hc, hx]
  exact h
theorem nil_at {P : Program} {t : TypeId} {v : Value} {name : String} (h : ∀ w, (nilAhead (P.types.size + Made.depth) t v name).run P w = .ok (some false) w) : NilAt P (.iface t v) name := by
  intro ρ o x w ho hx
  unfold execOp
  simp only [ho, hx]
  simp only [Sem.run_bind, run_program, Result.andThen_ok, List.getElem?_toArray, List.getElem?_cons_zero, h]
  simp [go_sem]
/-- One result, that lies in a cell. -/
theorem results_cell1 {fn : Func} {p : Tmp} {ty : TypeId} (h : fn.results = #[.cell p ty]) (tmps : Array Value) (w : World) (g o : Nat) (v : Value) (d : TypeDesc) (hp : tmps.getD p undef = .pointer (some ⟨g, o, none⟩)) (hu : P.underlying ty = some d)
    (hd : (match d with | .struct _ | .array _ _ => false | _ => true) = true) (hc : w.cell? ⟨g, o, none⟩ = some v) : (results fn tmps).run P w = .ok v w := by
  have hp' : tmps[p]?.getD undef = .pointer (some ⟨g, o, none⟩) := by simpa using hp
  cases d <;> simp at hd <;> (simp [results, h, hp', asAddr, loadVar, isAgg, run_underlying hu, go_sem]; simp [hc, Result.andThen])
/-- A function that defers: it leaves before anything was deferred. -/
theorem sy_outD0 {fn : Func} {R : Ending → World → Prop} (v : Value) (hd : a.defers = []) (hr : (results fn a.tmps).run P w = .ok v w) (h : R (.returned v) w) : bodyPostD P fn R .ret a w := by
  show Leaves P fn a.tmps R a.defers .returning w
  rw [hd]; exact ⟨v, hr, h⟩
/-- It leaves by a panic that the deferred call recovers. -/
theorem sy_panicD {fn : Func} {R : Ending → World → Prop} (f : FuncId) (args : Array Value) (x : Value) (hd : a.defers = [⟨.fn (.func f) args, #[]⟩]) (he : ∀ w, (callFunc f args).run P w = .ok (.enter f args) w)
    (h : CallsD P f args (.panicking [{ v := x, recovered := false }]) w fun e u' w' => u' = .panicking [{ v := x, recovered := true }] ∧ ∃ y, e = .returned y ∧ ∃ v, (results fn a.tmps).run P w' = .ok v w' ∧ R (.returned v) w') :
    bodyPostD P fn R (.panic [{ v := x, recovered := false }]) a w := by
  show Leaves P fn a.tmps R a.defers (.panicking [{ v := x, recovered := false }]) w
  rw [hd]
  refine leaves_cons (f := f) (args := args) (by simp) ?_ (h.mono ?_)
  · simpa [invoke] using he w
  · rintro e u' w' ⟨rfl, y, rfl, v, hr, hR⟩
    exact ⟨v, hr, hR⟩
/-- A deferred function that recovers first: what it does then, R. -/
theorem bodyPost_S {fn : Func} {c₀ : Frame} {cs : List Frame} {R : Ending → World → Prop} {e : Exit} {u : FrameMode} (h : bodyPost P fn R e a w) : bodyPostS P fn c₀ cs (fun e u' w' => u' = u ∧ R e w') e a ({ c₀ with mode := u } :: cs) w := by
  cases e with
  | normal => obtain ⟨hd, v, hr, hR⟩ := h; exact ⟨hd, u, rfl, v, hr, rfl, hR⟩
  | ret => obtain ⟨hd, v, hr, hR⟩ := h; exact ⟨hd, u, rfl, v, hr, rfl, hR⟩
  | panic ch => exact ⟨h.1, u, rfl, rfl, h.2⟩
  | outgrown => exact ⟨u, rfl, h⟩
  | exit id => exact h
  | goto l => exact h
theorem mode_eta (c₀ : Frame) {u : FrameMode} (h : c₀.mode = u) : c₀ = { c₀ with mode := u } := by subst h; rfl
theorem rec_no {f : FuncId} {fn : Func} {args : Array Value} {R : Ending → World → Prop} (id : Nat) (y : Code) (ops : Array Oper) (o0 o1 : Oper) (a0 a1 a2 : Act) (v1 : Value) (hf : P.funcs[f]? = some fn) (hb : fn.body = some (.seq (.region id ops false) y))
    (ha : ({ tmps := args ++ Array.replicate (fn.ntmps - args.size) undef, defers := [] } : Act) = a0) (hops : ops = #[o0, o1]) (hw0 : Region.wanted o0 (yielded ops a0.tmps) = true) (hr0 : (execOp a0.eval o0).run P w = .ok .recover w) (h1 : a0.put o0.dst .nilIface = a1)
    (hw1 : Region.wanted o1 (yielded ops a1.tmps) = true) (hr1 : (execOp a1.eval o1).run P w = .ok (.value v1) w) (h2 : a1.put o1.dst v1 = a2) (h : y.wp P (bodyPost P fn R) a2 w) : CallsD P f args .returning w (fun e u' w' => u' = .returning ∧ R e w') := by
  refine callsD_of_wpS hf hb fun c₀ cs hu => ?_
  rw [ha]
  apply wpS_seq
  apply wpS_region
  subst hops
  have hrec : recoverD (c₀ :: cs) = none := by simp [recoverD, hu]
  have hr : List.range (#[o0, o1] : Array Oper).size = [0, 1] := rfl
  rw [hr]
  simp only [wpOpsS, List.getElem?_toArray, List.getElem?_cons_zero, List.getElem?_cons_succ, hw0, if_true, hr0, hrec, h1, hw1, hr1, Oper.upon, h2, Exit.thenS]
  refine wpS_of_wp (wp_mono h fun e a w hq => ?_)
  have := bodyPost_S (c₀ := c₀) (cs := cs) (u := .returning) hq
  rw [← mode_eta c₀ hu] at this
  exact this
theorem rec_yes {f : FuncId} {fn : Func} {args : Array Value} {R : Ending → World → Prop} (x : Value) (id : Nat) (y : Code) (ops : Array Oper) (o0 o1 : Oper) (a0 a1 a2 : Act) (v1 : Value) (hf : P.funcs[f]? = some fn) (hb : fn.body = some (.seq (.region id ops false) y))
    (ha : ({ tmps := args ++ Array.replicate (fn.ntmps - args.size) undef, defers := [] } : Act) = a0) (hops : ops = #[o0, o1]) (hw0 : Region.wanted o0 (yielded ops a0.tmps) = true) (hr0 : (execOp a0.eval o0).run P w = .ok .recover w) (h1 : a0.put o0.dst x = a1)
    (hw1 : Region.wanted o1 (yielded ops a1.tmps) = true) (hr1 : (execOp a1.eval o1).run P w = .ok (.value v1) w) (h2 : a1.put o1.dst v1 = a2) (h : y.wp P (bodyPost P fn R) a2 w) :
    CallsD P f args (.panicking [{ v := x, recovered := false }]) w (fun e u' w' => u' = .panicking [{ v := x, recovered := true }] ∧ R e w') := by
  refine callsD_of_wpS hf hb fun c₀ cs hu => ?_
  rw [ha]
  apply wpS_seq
  apply wpS_region
  subst hops
  have hrec : recoverD (c₀ :: cs) = some (x, { c₀ with mode := .panicking [{ v := x, recovered := true }] } :: cs) := by simp [recoverD, hu]
  have hr : List.range (#[o0, o1] : Array Oper).size = [0, 1] := rfl
  rw [hr]
  simp only [wpOpsS, List.getElem?_toArray, List.getElem?_cons_zero, List.getElem?_cons_succ, hw0, if_true, hr0, hrec, h1, hw1, hr1, Oper.upon, h2, Exit.thenS]
  exact wpS_of_wp (wp_mono h fun e a w hq => bodyPost_S (c₀ := c₀) (cs := cs) hq)
end
end Go.Own
namespace Go.Proofs.YtcbfnflnokoacaaGreat
set_option maxRecDepth 100000
set_option maxHeartbeats 4000000
open Go Go.RowKit Go.Own Go.Shelf
/-- Whoever goes through the things of a message: an interface value, its receiver, its methods. -/
structure Vis where
  (v rv : Value) (fn fa fh : FuncId)
structure Vis.Ok (V : Vis) : Prop where
  num : MethodAt Tryz.prog V.v "distraint/message.num" V.fn V.rv
  amount : MethodAt Tryz.prog V.v "distraint/message.amount" V.fa V.rv
  hash : MethodAt Tryz.prog V.v "distraint/message.hash" V.fh V.rv
  num0 : NilAt Tryz.prog V.v "distraint/message.num"
  amount0 : NilAt Tryz.prog V.v "distraint/message.amount"
  hash0 : NilAt Tryz.prog V.v "distraint/message.hash"
/-- A thing: a number at a place of the message, within bounds; an amount; a hash; the number of a kind of votes. -/
inductive It where
  | n (o : Nat) (lo hi : Int) | a (o : Nat) | h (o : Nat) | k (x : Int)
/-- What is so when all things are gone through, one behind the other: K; where one panics: E. -/
def Run (V : Vis) (g : Nat) : List It → (World → Prop) → (List PanicEntry → World → Prop) → World → Prop
  | [], K, _, w => K w
  | .n o lo hi :: r, K, E, w => ∀ W, Keeps Nob w W → Calls Tryz.prog V.fn #[V.rv, .pointer (some ⟨g, o, none⟩), .int .i64 lo, .int .i64 hi] W (PEnd (Run V g r K E) E)
  | .a o :: r, K, E, w => ∀ W, Keeps Nob w W → Calls Tryz.prog V.fa #[V.rv, .pointer (some ⟨g, o, none⟩)] W (PEnd (Run V g r K E) E)
  | .h o :: r, K, E, w => ∀ W, Keeps Nob w W → Calls Tryz.prog V.fh #[V.rv, .pointer (some ⟨g, o, none⟩)] W (PEnd (Run V g r K E) E)
  | .k x :: r, K, E, w => ∀ W c, Keeps Nob w W → w.heap.size ≤ c → W.heap[c]? = some (.cells #[.int .i64 x] 3 (0, 0)) → Calls Tryz.prog V.fn #[V.rv, .pointer (some ⟨c, 0, none⟩), .int .i64 x, .int .i64 x] W (PEnd (Run V g r K E) E)
theorem Run.keepsN {V : Vis} {g : Nat} {i : It} {r : List It} {K : World → Prop} {E : List PanicEntry → World → Prop} {w w' : World} (h : Run V g (i :: r) K E w) (k : Keeps Nob w w') : Run V g (i :: r) K E w' := by
  cases i with
  | n o lo hi => exact fun W k2 => h W (k.nn k2)
  | a o => exact fun W k2 => h W (k.nn k2)
  | h o => exact fun W k2 => h W (k.nn k2)
  | k x => exact fun W c k2 hc hb => h W c (k.nn k2) (Nat.le_trans k.size hc) hb
def evI (p : Int) : List It := if p = 3 then [.k 2, .n 84 0 31, .n 85 1 4294967296, .h 86, .a 118, .k 2, .n 119 0 31, .n 120 1 4294967296, .h 121, .a 153] else [.k 1, .n 12 0 31, .n 13 0 4294967296, .n 14 0 4294967296, .h 15, .a 47, .k 1, .n 48 0 31, .n 49 0 4294967296, .n 50 0 4294967296, .h 51, .a 83]
/-- What evidence asks: its proof is looked at behind the account, and behind itself. -/
def EvK (V : Vis) (g : Nat) (K : World → Prop) (E : List PanicEntry → World → Prop) (x0 : Int) (w : World) : Prop := ∃ cs x, w.heap[g]? = some (.cells cs 104 (0, 0)) ∧ cs[11]? = some (.int .i64 x) ∧ Run V g (evI (if x ≠ 0 then x else x0)) K E w
def EvA (V : Vis) (g : Nat) (K : World → Prop) (E : List PanicEntry → World → Prop) (w : World) : Prop := ∃ cs x0, w.heap[g]? = some (.cells cs 104 (0, 0)) ∧ cs[11]? = some (.int .i64 x0) ∧ Run V g [.n 11 1 3] (EvK V g K E x0) E w
def kItems : Nat → List It
  | 1 => [.n 1 0 63, .n 3 0 63, .a 4]
  | 2 => [.n 1 0 63, .a 5, .a 4]
  | 3 => [.n 1 0 63, .n 2 0 31, .a 4]
  | 4 => [.n 1 0 63, .n 6 0 31, .n 7 1 4294967296, .n 8 (-1) 31, .n 9 0 4294967296, .a 4]
  | 5 => [.n 1 0 63, .n 6 0 31, .n 7 1 4294967296, .n 8 (-1) 31, .n 9 0 4294967296, .a 4, .n 3 0 31]
  | 6 => [.n 1 0 63, .k 1, .n 12 0 31, .n 13 0 4294967296, .n 14 0 4294967296, .h 15, .a 47]
  | 7 => [.n 1 0 63, .k 2, .n 84 0 31, .n 85 1 4294967296, .h 86, .a 118]
  | 9 => [.n 1 0 63, .n 2 0 31]
  | 10 => [.n 1 0 63]
  | 11 => [.n 10 1 1000]
  | _ => []
def RunAll (V : Vis) (g k : Nat) (K : World → Prop) (E : List PanicEntry → World → Prop) (w : World) : Prop := if k = 8 then Run V g [.n 1 0 63] (EvA V g K E) E w else Run V g (kItems k) K E w
noncomputable def qc15_7 (n : Nat) : Code := partOf Tryz.f143 n
noncomputable abbrev qo15_7 (n k : Nat) : Oper := (opsAt (qc15_7 n)).getD k default
theorem maccount_ok (V : Vis) (hV : V.Ok) (g : Nat) (K : World → Prop) (E : List PanicEntry → World → Prop) (w : World) (H : Run V g [.n 1 0 63] K E w) :
    Calls Tryz.prog 143 #[.pointer (some ⟨g, 0, none⟩), V.v] w (PEnd K E) := by
  have K0 : Keeps Nob w w := Keeps.refl _ _
  refine sy_enter (qc15_7 1) ⟨#[pT g 0, V.v, ud, ud, ud, ud, ud, ud, ud, ud, ud, ud], []⟩ Tryz.func143 (by kernel_rfl) (by kernel_rfl) <| sy_reg <| rg_still 0 7 (opsAt (qc15_7 1)) [qo15_7 1 0, qo15_7 1 1, qo15_7 1 2, qo15_7 1 3, qo15_7 1 4, qo15_7 1 5, qo15_7 1 6] [qo15_7 1 7] (by kernel_rfl) (by kernel_rfl) (by kernel_rfl) (by kernel_rfl) (by kernel_rfl) ?_
  obtain ⟨V2, eV2, kV2⟩ := drew_step w
  rw [eV2]
  clear eV2
  have kb3 : Keeps Nob w V2 := (Keeps.refl Nob w).nn kV2
  have K4 := K0.nn kV2
  refine skq (V.v) <| skq (pT g 0) <| skq (pT g 0) <| skq (pT g 1) <| skq (.func (.method "distraint/message.num") #[V.v] #[]) <| spq (.func (.method "distraint/message.num") #[V.v] #[]) (hV.num0 _ _ (.tmp 8) _ (by kernel_rfl) (by kernel_rfl)) <| skq (V.v) <| st_end <| ls_P (qo15_7 1 7) V.fn #[V.rv, .pointer (some ⟨g, 1, none⟩), .int .i64 0, .int .i64 63] _ _ (run_invoke (qo15_7 1 7) (.tmp 10) "distraint/message.num" V.v V.fn V.rv #[.pointer (some ⟨g, 1, none⟩), .int .i64 0, .int .i64 63] #[V.rv, .pointer (some ⟨g, 1, none⟩), .int .i64 0, .int .i64 63] (by kernel_rfl) (by kernel_rfl) (by kernel_rfl) hV.num (by kernel_rfl)) (H _ kb3) (fun c w' h => ⟨rfl, .inr ⟨c, rfl, h⟩⟩) ?_
  rintro V5 H6
  refine ls_end <| sy_fall (.tuple #[]) rfl (by kernel_rfl) ?_
  exact .inl ⟨rfl, H6⟩
noncomputable def qc15_2 (n : Nat) : Code := partOf Tryz.f144 n
noncomputable abbrev qo15_2 (n k : Nat) : Oper := (opsAt (qc15_2 n)).getD k default
theorem mvalidator_ok (V : Vis) (hV : V.Ok) (g : Nat) (K : World → Prop) (E : List PanicEntry → World → Prop) (w : World) (H : Run V g [.n 2 0 31] K E w) :
    Calls Tryz.prog 144 #[.pointer (some ⟨g, 0, none⟩), V.v] w (PEnd K E) := by
  have K0 : Keeps Nob w w := Keeps.refl _ _
  refine sy_enter (qc15_2 1) ⟨#[pT g 0, V.v, ud, ud, ud, ud, ud, ud, ud, ud, ud, ud], []⟩ Tryz.func144 (by kernel_rfl) (by kernel_rfl) <| sy_reg <| rg_still 0 7 (opsAt (qc15_2 1)) [qo15_2 1 0, qo15_2 1 1, qo15_2 1 2, qo15_2 1 3, qo15_2 1 4, qo15_2 1 5, qo15_2 1 6] [qo15_2 1 7] (by kernel_rfl) (by kernel_rfl) (by kernel_rfl) (by kernel_rfl) (by kernel_rfl) ?_
  obtain ⟨V2, eV2, kV2⟩ := drew_step w
  rw [eV2]
  clear eV2
  have kb3 : Keeps Nob w V2 := (Keeps.refl Nob w).nn kV2
  have K4 := K0.nn kV2
  refine skq (V.v) <| skq (pT g 0) <| skq (pT g 0) <| skq (pT g 2) <| skq (.func (.method "distraint/message.num") #[V.v] #[]) <| spq (.func (.method "distraint/message.num") #[V.v] #[]) (hV.num0 _ _ (.tmp 8) _ (by kernel_rfl) (by kernel_rfl)) <| skq (V.v) <| st_end <| ls_P (qo15_2 1 7) V.fn #[V.rv, .pointer (some ⟨g, 2, none⟩), .int .i64 0, .int .i64 31] _ _ (run_invoke (qo15_2 1 7) (.tmp 10) "distraint/message.num" V.v V.fn V.rv #[.pointer (some ⟨g, 2, none⟩), .int .i64 0, .int .i64 31] #[V.rv, .pointer (some ⟨g, 2, none⟩), .int .i64 0, .int .i64 31] (by kernel_rfl) (by kernel_rfl) (by kernel_rfl) hV.num (by kernel_rfl)) (H _ kb3) (fun c w' h => ⟨rfl, .inr ⟨c, rfl, h⟩⟩) ?_
  rintro V5 H6
  refine ls_end <| sy_fall (.tuple #[]) rfl (by kernel_rfl) ?_
  exact .inl ⟨rfl, H6⟩
noncomputable def qc15_16 (n : Nat) : Code := partOf Tryz.f145 n
noncomputable abbrev qo15_16 (n k : Nat) : Oper := (opsAt (qc15_16 n)).getD k default
theorem mlot_ok (V : Vis) (hV : V.Ok) (g : Nat) (K : World → Prop) (E : List PanicEntry → World → Prop) (w : World) (H : Run V g [.n 6 0 31, .n 7 1 4294967296, .n 8 (-1) 31, .n 9 0 4294967296] K E w) :
    Calls Tryz.prog 145 #[.pointer (some ⟨g, 0, none⟩), V.v] w (PEnd K E) := by
  have K0 : Keeps Nob w w := Keeps.refl _ _
  refine sy_enter (qc15_16 1) ⟨#[pT g 0, V.v, ud, ud, ud, ud, ud, ud, ud, ud, ud, ud, ud, ud, ud, ud, ud, ud, ud, ud, ud, ud, ud, ud, ud, ud, ud, ud, ud, ud, ud, ud, ud, ud, ud, ud, ud, ud, ud, ud], []⟩ Tryz.func145 (by kernel_rfl) (by kernel_rfl) <| q_ <| sy_reg <| rg_still 0 8 (opsAt (qc15_16 2)) [qo15_16 2 0, qo15_16 2 1, qo15_16 2 2, qo15_16 2 3, qo15_16 2 4, qo15_16 2 5, qo15_16 2 6, qo15_16 2 7] [qo15_16 2 8] (by kernel_rfl) (by kernel_rfl) (by kernel_rfl) (by kernel_rfl) (by kernel_rfl) ?_
  obtain ⟨V2, eV2, kV2⟩ := drew_step w
  rw [eV2]
  clear eV2
  have kb3 : Keeps Nob w V2 := (Keeps.refl Nob w).nn kV2
  have K4 := K0.nn kV2
  refine skq (V.v) <| skq (pT g 0) <| skq (pT g 0) <| skq (pT g 6) <| skq (pT g 6) <| skq (.func (.method "distraint/message.num") #[V.v] #[]) <| spq (.func (.method "distraint/message.num") #[V.v] #[]) (hV.num0 _ _ (.tmp 9) _ (by kernel_rfl) (by kernel_rfl)) <| skq (V.v) <| st_end <| ls_P (qo15_16 2 8) V.fn #[V.rv, .pointer (some ⟨g, 6, none⟩), .int .i64 0, .int .i64 31] _ _ (run_invoke (qo15_16 2 8) (.tmp 11) "distraint/message.num" V.v V.fn V.rv #[.pointer (some ⟨g, 6, none⟩), .int .i64 0, .int .i64 31] #[V.rv, .pointer (some ⟨g, 6, none⟩), .int .i64 0, .int .i64 31] (by kernel_rfl) (by kernel_rfl) (by kernel_rfl) hV.num (by kernel_rfl)) (H _ kb3) (fun c w' h => ⟨rfl, .inr ⟨c, rfl, h⟩⟩) ?_
  rintro V5 H6
  refine ls_end <| tq_ <| sy_reg <| rg_still 1 8 (opsAt (qc15_16 6)) [qo15_16 6 0, qo15_16 6 1, qo15_16 6 2, qo15_16 6 3, qo15_16 6 4, qo15_16 6 5, qo15_16 6 6, qo15_16 6 7] [qo15_16 6 8] (by kernel_rfl) (by kernel_rfl) (by kernel_rfl) (by kernel_rfl) (by kernel_rfl) ?_
  obtain ⟨V8, eV8, kV8⟩ := drew_step V5
  rw [eV8]
  clear eV8
  have kb9 : Keeps Nob V5 V8 := (Keeps.refl Nob V5).nn kV8
  refine skq (V.v) <| skq (pT g 0) <| skq (pT g 0) <| skq (pT g 6) <| skq (pT g 7) <| skq (.func (.method "distraint/message.num") #[V.v] #[]) <| spq (.func (.method "distraint/message.num") #[V.v] #[]) (hV.num0 _ _ (.tmp 18) _ (by kernel_rfl) (by kernel_rfl)) <| skq (V.v) <| st_end <| ls_P (qo15_16 6 8) V.fn #[V.rv, .pointer (some ⟨g, 7, none⟩), .int .i64 1, .int .i64 4294967296] _ _ (run_invoke (qo15_16 6 8) (.tmp 20) "distraint/message.num" V.v V.fn V.rv #[.pointer (some ⟨g, 7, none⟩), .int .i64 1, .int .i64 4294967296] #[V.rv, .pointer (some ⟨g, 7, none⟩), .int .i64 1, .int .i64 4294967296] (by kernel_rfl) (by kernel_rfl) (by kernel_rfl) hV.num (by kernel_rfl)) (H6 _ kb9) (fun c w' h => ⟨rfl, .inr ⟨c, rfl, h⟩⟩) ?_
  rintro V10 H11
  refine ls_end <| tq_ <| sy_reg <| rg_still 2 8 (opsAt (qc15_16 14)) [qo15_16 14 0, qo15_16 14 1, qo15_16 14 2, qo15_16 14 3, qo15_16 14 4, qo15_16 14 5, qo15_16 14 6, qo15_16 14 7] [qo15_16 14 8] (by kernel_rfl) (by kernel_rfl) (by kernel_rfl) (by kernel_rfl) (by kernel_rfl) ?_
  obtain ⟨V13, eV13, kV13⟩ := drew_step V10
  rw [eV13]
  clear eV13
  have kb14 : Keeps Nob V10 V13 := (Keeps.refl Nob V10).nn kV13
  refine skq (V.v) <| skq (pT g 0) <| skq (pT g 0) <| skq (pT g 6) <| skq (pT g 8) <| skq (.func (.method "distraint/message.num") #[V.v] #[]) <| spq (.func (.method "distraint/message.num") #[V.v] #[]) (hV.num0 _ _ (.tmp 27) _ (by kernel_rfl) (by kernel_rfl)) <| skq (V.v) <| st_end <| ls_P (qo15_16 14 8) V.fn #[V.rv, .pointer (some ⟨g, 8, none⟩), .int .i64 (-1), .int .i64 31] _ _ (run_invoke (qo15_16 14 8) (.tmp 29) "distraint/message.num" V.v V.fn V.rv #[.pointer (some ⟨g, 8, none⟩), .int .i64 (-1), .int .i64 31] #[V.rv, .pointer (some ⟨g, 8, none⟩), .int .i64 (-1), .int .i64 31] (by kernel_rfl) (by kernel_rfl) (by kernel_rfl) hV.num (by kernel_rfl)) (H11 _ kb14) (fun c w' h => ⟨rfl, .inr ⟨c, rfl, h⟩⟩) ?_
  rintro V15 H16
  refine ls_end <| sy_a ⟨#[pT g 0, V.v, ud, ud, V.v, pT g 0, pT g 0, pT g 6, pT g 6, .func (.method "distraint/message.num") #[V.v] #[], .func (.method "distraint/message.num") #[V.v] #[], V.v, .tuple #[], V.v, pT g 0, pT g 0, pT g 6, pT g 7, .func (.method "distraint/message.num") #[V.v] #[], .func (.method "distraint/message.num") #[V.v] #[], V.v, .tuple #[], V.v, pT g 0, pT g 0, pT g 6, pT g 8, .func (.method "distraint/message.num") #[V.v] #[], .func (.method "distraint/message.num") #[V.v] #[], V.v, .tuple #[], ud, ud, ud, ud, ud, ud, ud, ud, ud], []⟩ <| then_n <| sy_reg <| rg_still 3 8 (opsAt (qc15_16 15)) [qo15_16 15 0, qo15_16 15 1, qo15_16 15 2, qo15_16 15 3, qo15_16 15 4, qo15_16 15 5, qo15_16 15 6, qo15_16 15 7] [qo15_16 15 8] (by kernel_rfl) (by kernel_rfl) (by kernel_rfl) (by kernel_rfl) (by kernel_rfl) ?_
  obtain ⟨V18, eV18, kV18⟩ := drew_step V15
  rw [eV18]
  clear eV18
  have kb19 : Keeps Nob V15 V18 := (Keeps.refl Nob V15).nn kV18
  refine skq (V.v) <| skq (pT g 0) <| skq (pT g 0) <| skq (pT g 6) <| skq (pT g 9) <| skq (.func (.method "distraint/message.num") #[V.v] #[]) <| spq (.func (.method "distraint/message.num") #[V.v] #[]) (hV.num0 _ _ (.tmp 36) _ (by kernel_rfl) (by kernel_rfl)) <| skq (V.v) <| st_end <| ls_P (qo15_16 15 8) V.fn #[V.rv, .pointer (some ⟨g, 9, none⟩), .int .i64 0, .int .i64 4294967296] _ _ (run_invoke (qo15_16 15 8) (.tmp 38) "distraint/message.num" V.v V.fn V.rv #[.pointer (some ⟨g, 9, none⟩), .int .i64 0, .int .i64 4294967296] #[V.rv, .pointer (some ⟨g, 9, none⟩), .int .i64 0, .int .i64 4294967296] (by kernel_rfl) (by kernel_rfl) (by kernel_rfl) hV.num (by kernel_rfl)) (H16 _ kb19) (fun c w' h => ⟨rfl, .inr ⟨c, rfl, h⟩⟩) ?_
  rintro V20 H21
  refine ls_end <| sy_fall (.tuple #[]) rfl (by kernel_rfl) ?_
  exact .inl ⟨rfl, H21⟩
noncomputable def qc15_13 (n : Nat) : Code := partOf Tryz.f157 n
noncomputable abbrev qo15_13 (n k : Nat) : Oper := (opsAt (qc15_13 n)).getD k default
theorem mkind_ok (V : Vis) (hV : V.Ok) (g : Nat) (x : Int) (K : World → Prop) (E : List PanicEntry → World → Prop) (w : World) (H : Run V g [.k x] K E w) :
    Calls Tryz.prog 157 #[V.v, .int .i64 x] w (PEnd K E) := by
  have K0 : Keeps Nob w w := Keeps.refl _ _
  refine sy_enter (qc15_13 1) ⟨#[V.v, .int .i64 x, ud, ud, ud, ud, ud, ud], []⟩ Tryz.func157 (by kernel_rfl) (by kernel_rfl) <| qr_ [0] <| pbx 3 (#[.int .i64 x]) (.int .i64 x) fun V1 c ec h2 kV1 => ?_
  have n3 : w.heap.size ≤ c := ec ▸ K0.size
  have kb4 : Keeps Nob w V1 := (Keeps.refl Nob w).nn kV1
  have K5 := K0.nn kV1
  refine er_ [0, 1, 2, 3] <| pkq (V.v) <| ppq (.int .i64 x) (ldk 3 c 0 h2) <| ppq (.int .i64 x) (ldk 3 c 0 h2) <| ps_P (qo15_13 3 3) V.fn #[V.rv, .pointer (some ⟨c, 0, none⟩), .int .i64 x, .int .i64 x] _ _ (run_invoke (qo15_13 3 3) (.tmp 4) "distraint/message.num" V.v V.fn V.rv #[.pointer (some ⟨c, 0, none⟩), .int .i64 x, .int .i64 x] #[V.rv, .pointer (some ⟨c, 0, none⟩), .int .i64 x, .int .i64 x] (by kernel_rfl) (by kernel_rfl) (by kernel_rfl) hV.num (by kernel_rfl)) (H _ c kb4 (by omega) h2) (fun c w' h => ⟨rfl, .inr ⟨c, rfl, h⟩⟩) ?_
  rintro V6 H7
  refine ps_end <| sy_fall (.tuple #[]) rfl (by kernel_rfl) ?_
  exact .inl ⟨rfl, H7⟩
noncomputable def qc15_14 (n : Nat) : Code := partOf Tryz.f146 n
noncomputable abbrev qo15_14 (n k : Nat) : Oper := (opsAt (qc15_14 n)).getD k default
theorem mvote_ok (V : Vis) (hV : V.Ok) (g : Nat) (o : Nat) (K : World → Prop) (E : List PanicEntry → World → Prop) (w : World) (H : Run V g [.k 1, .n o 0 31, .n (o + 1) 0 4294967296, .n (o + 2) 0 4294967296, .h (o + 3), .a (o + 35)] K E w) :
    Calls Tryz.prog 146 #[V.v, .pointer (some ⟨g, o, none⟩)] w (PEnd K E) := by
  have K0 : Keeps Nob w w := Keeps.refl _ _
  refine sy_enter (qc15_14 1) ⟨#[V.v, pT g o, ud, ud, ud, ud, ud, ud, ud, ud, ud, ud, ud, ud, ud, ud, ud, ud, ud, ud, ud, ud, ud, ud, ud, ud, ud, ud, ud, ud, ud, ud, ud, ud, ud, ud, ud, ud, ud, ud, ud, ud, ud, ud, ud, ud], []⟩ Tryz.func146 (by kernel_rfl) (by kernel_rfl) <| qr_ [0, 1] <| pkq (V.v) <| ps_P (qo15_14 2 1) 157 #[V.v, .int .i64 1] _ _ (run_callF (qo15_14 2 1) 157 #[V.v, .int .i64 1] (by kernel_rfl) rfl (by kernel_rfl) (enters_of Tryz.func157 (by kernel_rfl) rfl)) (mkind_ok V hV g 1 (Run V g [.n o 0 31, .n (o + 1) 0 4294967296, .n (o + 2) 0 4294967296, .h (o + 3), .a (o + 35)] K E) E _ (Run.keepsN H (Keeps.refl Nob w))) (fun c w' h => ⟨rfl, .inr ⟨c, rfl, h⟩⟩) ?_
  rintro V1 H2
  refine eq_ <| sy_reg <| rg_still 1 7 (opsAt (qc15_14 6)) [qo15_14 6 0, qo15_14 6 1, qo15_14 6 2, qo15_14 6 3, qo15_14 6 4, qo15_14 6 5, qo15_14 6 6] [qo15_14 6 7] (by kernel_rfl) (by kernel_rfl) (by kernel_rfl) (by kernel_rfl) (by kernel_rfl) ?_
  obtain ⟨V4, eV4, kV4⟩ := drew_step V1
  rw [eV4]
  clear eV4
  have kb5 : Keeps Nob V1 V4 := (Keeps.refl Nob V1).nn kV4
  refine skq (V.v) <| skq (pT g o) <| skq (pT g o) <| skq (pT g (o + 0)) <| skq (.func (.method "distraint/message.num") #[V.v] #[]) <| spq (.func (.method "distraint/message.num") #[V.v] #[]) (hV.num0 _ _ (.tmp 10) _ (by kernel_rfl) (by kernel_rfl)) <| skq (V.v) <| st_end <| ls_P (qo15_14 6 7) V.fn #[V.rv, .pointer (some ⟨g, o + 0, none⟩), .int .i64 0, .int .i64 31] _ _ (run_invoke (qo15_14 6 7) (.tmp 12) "distraint/message.num" V.v V.fn V.rv #[.pointer (some ⟨g, o + 0, none⟩), .int .i64 0, .int .i64 31] #[V.rv, .pointer (some ⟨g, o + 0, none⟩), .int .i64 0, .int .i64 31] (by kernel_rfl) (by kernel_rfl) (by kernel_rfl) hV.num (by kernel_rfl)) (H2 _ kb5) (fun c w' h => ⟨rfl, .inr ⟨c, rfl, h⟩⟩) ?_
  rintro V6 H7
  refine ls_end <| tq_ <| sy_reg <| rg_still 2 7 (opsAt (qc15_14 14)) [qo15_14 14 0, qo15_14 14 1, qo15_14 14 2, qo15_14 14 3, qo15_14 14 4, qo15_14 14 5, qo15_14 14 6] [qo15_14 14 7] (by kernel_rfl) (by kernel_rfl) (by kernel_rfl) (by kernel_rfl) (by kernel_rfl) ?_
  obtain ⟨V9, eV9, kV9⟩ := drew_step V6
  rw [eV9]
  clear eV9
  have kb10 : Keeps Nob V6 V9 := (Keeps.refl Nob V6).nn kV9
  refine skq (V.v) <| skq (pT g o) <| skq (pT g o) <| skq (pT g (o + 1)) <| skq (.func (.method "distraint/message.num") #[V.v] #[]) <| spq (.func (.method "distraint/message.num") #[V.v] #[]) (hV.num0 _ _ (.tmp 18) _ (by kernel_rfl) (by kernel_rfl)) <| skq (V.v) <| st_end <| ls_P (qo15_14 14 7) V.fn #[V.rv, .pointer (some ⟨g, o + 1, none⟩), .int .i64 0, .int .i64 4294967296] _ _ (run_invoke (qo15_14 14 7) (.tmp 20) "distraint/message.num" V.v V.fn V.rv #[.pointer (some ⟨g, o + 1, none⟩), .int .i64 0, .int .i64 4294967296] #[V.rv, .pointer (some ⟨g, o + 1, none⟩), .int .i64 0, .int .i64 4294967296] (by kernel_rfl) (by kernel_rfl) (by kernel_rfl) hV.num (by kernel_rfl)) (H7 _ kb10) (fun c w' h => ⟨rfl, .inr ⟨c, rfl, h⟩⟩) ?_
  rintro V11 H12
  refine ls_end <| tq_ <| sy_reg <| rg_still 3 7 (opsAt (qc15_14 30)) [qo15_14 30 0, qo15_14 30 1, qo15_14 30 2, qo15_14 30 3, qo15_14 30 4, qo15_14 30 5, qo15_14 30 6] [qo15_14 30 7] (by kernel_rfl) (by kernel_rfl) (by kernel_rfl) (by kernel_rfl) (by kernel_rfl) ?_
  obtain ⟨V14, eV14, kV14⟩ := drew_step V11
  rw [eV14]
  clear eV14
  have kb15 : Keeps Nob V11 V14 := (Keeps.refl Nob V11).nn kV14
  refine skq (V.v) <| skq (pT g o) <| skq (pT g o) <| skq (pT g (o + 2)) <| skq (.func (.method "distraint/message.num") #[V.v] #[]) <| spq (.func (.method "distraint/message.num") #[V.v] #[]) (hV.num0 _ _ (.tmp 26) _ (by kernel_rfl) (by kernel_rfl)) <| skq (V.v) <| st_end <| ls_P (qo15_14 30 7) V.fn #[V.rv, .pointer (some ⟨g, o + 2, none⟩), .int .i64 0, .int .i64 4294967296] _ _ (run_invoke (qo15_14 30 7) (.tmp 28) "distraint/message.num" V.v V.fn V.rv #[.pointer (some ⟨g, o + 2, none⟩), .int .i64 0, .int .i64 4294967296] #[V.rv, .pointer (some ⟨g, o + 2, none⟩), .int .i64 0, .int .i64 4294967296] (by kernel_rfl) (by kernel_rfl) (by kernel_rfl) hV.num (by kernel_rfl)) (H12 _ kb15) (fun c w' h => ⟨rfl, .inr ⟨c, rfl, h⟩⟩) ?_
  rintro V16 H17
  refine ls_end <| sy_a ⟨#[V.v, pT g o, ud, ud, V.v, .tuple #[], V.v, pT g o, pT g o, pT g (o + 0), .func (.method "distraint/message.num") #[V.v] #[], .func (.method "distraint/message.num") #[V.v] #[], V.v, .tuple #[], V.v, pT g o, pT g o, pT g (o + 1), .func (.method "distraint/message.num") #[V.v] #[], .func (.method "distraint/message.num") #[V.v] #[], V.v, .tuple #[], V.v, pT g o, pT g o, pT g (o + 2), .func (.method "distraint/message.num") #[V.v] #[], .func (.method "distraint/message.num") #[V.v] #[], V.v, .tuple #[], ud, ud, ud, ud, ud, ud, ud, ud, ud, ud, ud, ud, ud, ud, ud, ud], []⟩ <| tq_ <| sy_reg <| rg_still 4 7 (opsAt (qc15_14 62)) [qo15_14 62 0, qo15_14 62 1, qo15_14 62 2, qo15_14 62 3, qo15_14 62 4, qo15_14 62 5, qo15_14 62 6] [qo15_14 62 7] (by kernel_rfl) (by kernel_rfl) (by kernel_rfl) (by kernel_rfl) (by kernel_rfl) ?_
  obtain ⟨V19, eV19, kV19⟩ := drew_step V16
  rw [eV19]
  clear eV19
  have kb20 : Keeps Nob V16 V19 := (Keeps.refl Nob V16).nn kV19
  refine skq (V.v) <| skq (pT g o) <| skq (pT g o) <| skq (pT g (o + 3)) <| skq (.func (.method "distraint/message.hash") #[V.v] #[]) <| spq (.func (.method "distraint/message.hash") #[V.v] #[]) (hV.hash0 _ _ (.tmp 34) _ (by kernel_rfl) (by kernel_rfl)) <| skq (V.v) <| st_end <| ls_P (qo15_14 62 7) V.fh #[V.rv, .pointer (some ⟨g, o + 3, none⟩)] _ _ (run_invoke (qo15_14 62 7) (.tmp 36) "distraint/message.hash" V.v V.fh V.rv #[.pointer (some ⟨g, o + 3, none⟩)] #[V.rv, .pointer (some ⟨g, o + 3, none⟩)] (by kernel_rfl) (by kernel_rfl) (by kernel_rfl) hV.hash (by kernel_rfl)) (H17 _ kb20) (fun c w' h => ⟨rfl, .inr ⟨c, rfl, h⟩⟩) ?_
  rintro V21 H22
  refine ls_end <| then_n <| sy_reg <| rg_still 5 7 (opsAt (qc15_14 63)) [qo15_14 63 0, qo15_14 63 1, qo15_14 63 2, qo15_14 63 3, qo15_14 63 4, qo15_14 63 5, qo15_14 63 6] [qo15_14 63 7] (by kernel_rfl) (by kernel_rfl) (by kernel_rfl) (by kernel_rfl) (by kernel_rfl) ?_
  obtain ⟨V24, eV24, kV24⟩ := drew_step V21
  rw [eV24]
  clear eV24
  have kb25 : Keeps Nob V21 V24 := (Keeps.refl Nob V21).nn kV24
  refine skq (V.v) <| skq (pT g o) <| skq (pT g o) <| skq (pT g (o + 35)) <| skq (.func (.method "distraint/message.amount") #[V.v] #[]) <| spq (.func (.method "distraint/message.amount") #[V.v] #[]) (hV.amount0 _ _ (.tmp 42) _ (by kernel_rfl) (by kernel_rfl)) <| skq (V.v) <| st_end <| ls_P (qo15_14 63 7) V.fa #[V.rv, .pointer (some ⟨g, o + 35, none⟩)] _ _ (run_invoke (qo15_14 63 7) (.tmp 44) "distraint/message.amount" V.v V.fa V.rv #[.pointer (some ⟨g, o + 35, none⟩)] #[V.rv, .pointer (some ⟨g, o + 35, none⟩)] (by kernel_rfl) (by kernel_rfl) (by kernel_rfl) hV.amount (by kernel_rfl)) (H22 _ kb25) (fun c w' h => ⟨rfl, .inr ⟨c, rfl, h⟩⟩) ?_
  rintro V26 H27
  refine ls_end <| sy_fall (.tuple #[]) rfl (by kernel_rfl) ?_
  exact .inl ⟨rfl, H27⟩
noncomputable def qc15_11 (n : Nat) : Code := partOf Tryz.f147 n
noncomputable abbrev qo15_11 (n k : Nat) : Oper := (opsAt (qc15_11 n)).getD k default
theorem mblock_ok (V : Vis) (hV : V.Ok) (g : Nat) (o : Nat) (K : World → Prop) (E : List PanicEntry → World → Prop) (w : World) (H : Run V g [.k 2, .n o 0 31, .n (o + 1) 1 4294967296, .h (o + 2), .a (o + 34)] K E w) :
    Calls Tryz.prog 147 #[V.v, .pointer (some ⟨g, o, none⟩)] w (PEnd K E) := by
  have K0 : Keeps Nob w w := Keeps.refl _ _
  refine sy_enter (qc15_11 1) ⟨#[V.v, pT g o, ud, ud, ud, ud, ud, ud, ud, ud, ud, ud, ud, ud, ud, ud, ud, ud, ud, ud, ud, ud, ud, ud, ud, ud, ud, ud, ud, ud, ud, ud, ud, ud, ud, ud, ud, ud], []⟩ Tryz.func147 (by kernel_rfl) (by kernel_rfl) <| qr_ [0, 1] <| pkq (V.v) <| ps_P (qo15_11 2 1) 157 #[V.v, .int .i64 2] _ _ (run_callF (qo15_11 2 1) 157 #[V.v, .int .i64 2] (by kernel_rfl) rfl (by kernel_rfl) (enters_of Tryz.func157 (by kernel_rfl) rfl)) (mkind_ok V hV g 2 (Run V g [.n o 0 31, .n (o + 1) 1 4294967296, .h (o + 2), .a (o + 34)] K E) E _ (Run.keepsN H (Keeps.refl Nob w))) (fun c w' h => ⟨rfl, .inr ⟨c, rfl, h⟩⟩) ?_
  rintro V1 H2
  refine eq_ <| sy_reg <| rg_still 1 7 (opsAt (qc15_11 6)) [qo15_11 6 0, qo15_11 6 1, qo15_11 6 2, qo15_11 6 3, qo15_11 6 4, qo15_11 6 5, qo15_11 6 6] [qo15_11 6 7] (by kernel_rfl) (by kernel_rfl) (by kernel_rfl) (by kernel_rfl) (by kernel_rfl) ?_
  obtain ⟨V4, eV4, kV4⟩ := drew_step V1
  rw [eV4]
  clear eV4
  have kb5 : Keeps Nob V1 V4 := (Keeps.refl Nob V1).nn kV4
  refine skq (V.v) <| skq (pT g o) <| skq (pT g o) <| skq (pT g (o + 0)) <| skq (.func (.method "distraint/message.num") #[V.v] #[]) <| spq (.func (.method "distraint/message.num") #[V.v] #[]) (hV.num0 _ _ (.tmp 10) _ (by kernel_rfl) (by kernel_rfl)) <| skq (V.v) <| st_end <| ls_P (qo15_11 6 7) V.fn #[V.rv, .pointer (some ⟨g, o + 0, none⟩), .int .i64 0, .int .i64 31] _ _ (run_invoke (qo15_11 6 7) (.tmp 12) "distraint/message.num" V.v V.fn V.rv #[.pointer (some ⟨g, o + 0, none⟩), .int .i64 0, .int .i64 31] #[V.rv, .pointer (some ⟨g, o + 0, none⟩), .int .i64 0, .int .i64 31] (by kernel_rfl) (by kernel_rfl) (by kernel_rfl) hV.num (by kernel_rfl)) (H2 _ kb5) (fun c w' h => ⟨rfl, .inr ⟨c, rfl, h⟩⟩) ?_
  rintro V6 H7
  refine ls_end <| tq_ <| sy_reg <| rg_still 2 7 (opsAt (qc15_11 14)) [qo15_11 14 0, qo15_11 14 1, qo15_11 14 2, qo15_11 14 3, qo15_11 14 4, qo15_11 14 5, qo15_11 14 6] [qo15_11 14 7] (by kernel_rfl) (by kernel_rfl) (by kernel_rfl) (by kernel_rfl) (by kernel_rfl) ?_
  obtain ⟨V9, eV9, kV9⟩ := drew_step V6
  rw [eV9]
  clear eV9
  have kb10 : Keeps Nob V6 V9 := (Keeps.refl Nob V6).nn kV9
  refine skq (V.v) <| skq (pT g o) <| skq (pT g o) <| skq (pT g (o + 1)) <| skq (.func (.method "distraint/message.num") #[V.v] #[]) <| spq (.func (.method "distraint/message.num") #[V.v] #[]) (hV.num0 _ _ (.tmp 18) _ (by kernel_rfl) (by kernel_rfl)) <| skq (V.v) <| st_end <| ls_P (qo15_11 14 7) V.fn #[V.rv, .pointer (some ⟨g, o + 1, none⟩), .int .i64 1, .int .i64 4294967296] _ _ (run_invoke (qo15_11 14 7) (.tmp 20) "distraint/message.num" V.v V.fn V.rv #[.pointer (some ⟨g, o + 1, none⟩), .int .i64 1, .int .i64 4294967296] #[V.rv, .pointer (some ⟨g, o + 1, none⟩), .int .i64 1, .int .i64 4294967296] (by kernel_rfl) (by kernel_rfl) (by kernel_rfl) hV.num (by kernel_rfl)) (H7 _ kb10) (fun c w' h => ⟨rfl, .inr ⟨c, rfl, h⟩⟩) ?_
  rintro V11 H12
  refine ls_end <| tq_ <| sy_reg <| rg_still 3 7 (opsAt (qc15_11 30)) [qo15_11 30 0, qo15_11 30 1, qo15_11 30 2, qo15_11 30 3, qo15_11 30 4, qo15_11 30 5, qo15_11 30 6] [qo15_11 30 7] (by kernel_rfl) (by kernel_rfl) (by kernel_rfl) (by kernel_rfl) (by kernel_rfl) ?_
  obtain ⟨V14, eV14, kV14⟩ := drew_step V11
  rw [eV14]
  clear eV14
  have kb15 : Keeps Nob V11 V14 := (Keeps.refl Nob V11).nn kV14
  refine skq (V.v) <| skq (pT g o) <| skq (pT g o) <| skq (pT g (o + 2)) <| skq (.func (.method "distraint/message.hash") #[V.v] #[]) <| spq (.func (.method "distraint/message.hash") #[V.v] #[]) (hV.hash0 _ _ (.tmp 26) _ (by kernel_rfl) (by kernel_rfl)) <| skq (V.v) <| st_end <| ls_P (qo15_11 30 7) V.fh #[V.rv, .pointer (some ⟨g, o + 2, none⟩)] _ _ (run_invoke (qo15_11 30 7) (.tmp 28) "distraint/message.hash" V.v V.fh V.rv #[.pointer (some ⟨g, o + 2, none⟩)] #[V.rv, .pointer (some ⟨g, o + 2, none⟩)] (by kernel_rfl) (by kernel_rfl) (by kernel_rfl) hV.hash (by kernel_rfl)) (H12 _ kb15) (fun c w' h => ⟨rfl, .inr ⟨c, rfl, h⟩⟩) ?_
  rintro V16 H17
  refine ls_end <| sy_a ⟨#[V.v, pT g o, ud, ud, V.v, .tuple #[], V.v, pT g o, pT g o, pT g (o + 0), .func (.method "distraint/message.num") #[V.v] #[], .func (.method "distraint/message.num") #[V.v] #[], V.v, .tuple #[], V.v, pT g o, pT g o, pT g (o + 1), .func (.method "distraint/message.num") #[V.v] #[], .func (.method "distraint/message.num") #[V.v] #[], V.v, .tuple #[], V.v, pT g o, pT g o, pT g (o + 2), .func (.method "distraint/message.hash") #[V.v] #[], .func (.method "distraint/message.hash") #[V.v] #[], V.v, .tuple #[], ud, ud, ud, ud, ud, ud, ud, ud], []⟩ <| then_n <| sy_reg <| rg_still 4 7 (opsAt (qc15_11 31)) [qo15_11 31 0, qo15_11 31 1, qo15_11 31 2, qo15_11 31 3, qo15_11 31 4, qo15_11 31 5, qo15_11 31 6] [qo15_11 31 7] (by kernel_rfl) (by kernel_rfl) (by kernel_rfl) (by kernel_rfl) (by kernel_rfl) ?_
  obtain ⟨V19, eV19, kV19⟩ := drew_step V16
  rw [eV19]
  clear eV19
  have kb20 : Keeps Nob V16 V19 := (Keeps.refl Nob V16).nn kV19
  refine skq (V.v) <| skq (pT g o) <| skq (pT g o) <| skq (pT g (o + 34)) <| skq (.func (.method "distraint/message.amount") #[V.v] #[]) <| spq (.func (.method "distraint/message.amount") #[V.v] #[]) (hV.amount0 _ _ (.tmp 34) _ (by kernel_rfl) (by kernel_rfl)) <| skq (V.v) <| st_end <| ls_P (qo15_11 31 7) V.fa #[V.rv, .pointer (some ⟨g, o + 34, none⟩)] _ _ (run_invoke (qo15_11 31 7) (.tmp 36) "distraint/message.amount" V.v V.fa V.rv #[.pointer (some ⟨g, o + 34, none⟩)] #[V.rv, .pointer (some ⟨g, o + 34, none⟩)] (by kernel_rfl) (by kernel_rfl) (by kernel_rfl) hV.amount (by kernel_rfl)) (H17 _ kb20) (fun c w' h => ⟨rfl, .inr ⟨c, rfl, h⟩⟩) ?_
  rintro V21 H22
  refine ls_end <| sy_fall (.tuple #[]) rfl (by kernel_rfl) ?_
  exact .inl ⟨rfl, H22⟩
noncomputable def qc15_4 (n : Nat) : Code := partOf Tryz.f115 n
noncomputable abbrev qo15_4 (n k : Nat) : Oper := (opsAt (qc15_4 n)).getD k default
theorem mtransfer_ok (V : Vis) (hV : V.Ok) (g : Nat) (K : World → Prop) (E : List PanicEntry → World → Prop) (w : World) (H : Run V g [.n 1 0 63, .n 3 0 63, .a 4] K E w) :
    Calls Tryz.prog 115 #[.pointer (some ⟨g, 0, none⟩), V.v] w (PEnd K E) := by
  have K0 : Keeps Nob w w := Keeps.refl _ _
  refine sy_enter (qc15_4 1) ⟨#[pT g 0, V.v, ud, ud, ud, ud, ud, ud, ud, ud, ud, ud, ud, ud, ud, ud, ud, ud, ud, ud, ud, ud, ud], []⟩ Tryz.func115 (by kernel_rfl) (by kernel_rfl) <| qr_ [0, 1, 2] <| pkq (pT g 0) <| pkq (V.v) <| ps_P (qo15_4 2 2) 143 #[.pointer (some ⟨g, 0, none⟩), V.v] _ _ (run_callF (qo15_4 2 2) 143 #[.pointer (some ⟨g, 0, none⟩), V.v] (by kernel_rfl) rfl (by kernel_rfl) (enters_of Tryz.func143 (by kernel_rfl) rfl)) (maccount_ok V hV g (Run V g [.n 3 0 63, .a 4] K E) E _ (Run.keepsN H (Keeps.refl Nob w))) (fun c w' h => ⟨rfl, .inr ⟨c, rfl, h⟩⟩) ?_
  rintro V1 H2
  refine eq_ <| sy_reg <| rg_still 1 7 (opsAt (qc15_4 6)) [qo15_4 6 0, qo15_4 6 1, qo15_4 6 2, qo15_4 6 3, qo15_4 6 4, qo15_4 6 5, qo15_4 6 6] [qo15_4 6 7] (by kernel_rfl) (by kernel_rfl) (by kernel_rfl) (by kernel_rfl) (by kernel_rfl) ?_
  obtain ⟨V4, eV4, kV4⟩ := drew_step V1
  rw [eV4]
  clear eV4
  have kb5 : Keeps Nob V1 V4 := (Keeps.refl Nob V1).nn kV4
  refine skq (V.v) <| skq (pT g 0) <| skq (pT g 0) <| skq (pT g 3) <| skq (.func (.method "distraint/message.num") #[V.v] #[]) <| spq (.func (.method "distraint/message.num") #[V.v] #[]) (hV.num0 _ _ (.tmp 11) _ (by kernel_rfl) (by kernel_rfl)) <| skq (V.v) <| st_end <| ls_P (qo15_4 6 7) V.fn #[V.rv, .pointer (some ⟨g, 3, none⟩), .int .i64 0, .int .i64 63] _ _ (run_invoke (qo15_4 6 7) (.tmp 13) "distraint/message.num" V.v V.fn V.rv #[.pointer (some ⟨g, 3, none⟩), .int .i64 0, .int .i64 63] #[V.rv, .pointer (some ⟨g, 3, none⟩), .int .i64 0, .int .i64 63] (by kernel_rfl) (by kernel_rfl) (by kernel_rfl) hV.num (by kernel_rfl)) (H2 _ kb5) (fun c w' h => ⟨rfl, .inr ⟨c, rfl, h⟩⟩) ?_
  rintro V6 H7
  refine ls_end <| then_n <| sy_reg <| rg_still 2 7 (opsAt (qc15_4 7)) [qo15_4 7 0, qo15_4 7 1, qo15_4 7 2, qo15_4 7 3, qo15_4 7 4, qo15_4 7 5, qo15_4 7 6] [qo15_4 7 7] (by kernel_rfl) (by kernel_rfl) (by kernel_rfl) (by kernel_rfl) (by kernel_rfl) ?_
  obtain ⟨V9, eV9, kV9⟩ := drew_step V6
  rw [eV9]
  clear eV9
  have kb10 : Keeps Nob V6 V9 := (Keeps.refl Nob V6).nn kV9
  refine skq (V.v) <| skq (pT g 0) <| skq (pT g 0) <| skq (pT g 4) <| skq (.func (.method "distraint/message.amount") #[V.v] #[]) <| spq (.func (.method "distraint/message.amount") #[V.v] #[]) (hV.amount0 _ _ (.tmp 19) _ (by kernel_rfl) (by kernel_rfl)) <| skq (V.v) <| st_end <| ls_P (qo15_4 7 7) V.fa #[V.rv, .pointer (some ⟨g, 4, none⟩)] _ _ (run_invoke (qo15_4 7 7) (.tmp 21) "distraint/message.amount" V.v V.fa V.rv #[.pointer (some ⟨g, 4, none⟩)] #[V.rv, .pointer (some ⟨g, 4, none⟩)] (by kernel_rfl) (by kernel_rfl) (by kernel_rfl) hV.amount (by kernel_rfl)) (H7 _ kb10) (fun c w' h => ⟨rfl, .inr ⟨c, rfl, h⟩⟩) ?_
  rintro V11 H12
  refine ls_end <| sy_fall (.tuple #[]) rfl (by kernel_rfl) ?_
  exact .inl ⟨rfl, H12⟩
noncomputable def qc15_8 (n : Nat) : Code := partOf Tryz.f116 n
noncomputable abbrev qo15_8 (n k : Nat) : Oper := (opsAt (qc15_8 n)).getD k default
theorem mcreate_ok (V : Vis) (hV : V.Ok) (g : Nat) (K : World → Prop) (E : List PanicEntry → World → Prop) (w : World) (H : Run V g [.n 1 0 63, .a 5, .a 4] K E w) :
    Calls Tryz.prog 116 #[.pointer (some ⟨g, 0, none⟩), V.v] w (PEnd K E) := by
  have K0 : Keeps Nob w w := Keeps.refl _ _
  refine sy_enter (qc15_8 1) ⟨#[pT g 0, V.v, ud, ud, ud, ud, ud, ud, ud, ud, ud, ud, ud, ud, ud, ud, ud, ud, ud, ud, ud, ud, ud], []⟩ Tryz.func116 (by kernel_rfl) (by kernel_rfl) <| qr_ [0, 1, 2] <| pkq (pT g 0) <| pkq (V.v) <| ps_P (qo15_8 2 2) 143 #[.pointer (some ⟨g, 0, none⟩), V.v] _ _ (run_callF (qo15_8 2 2) 143 #[.pointer (some ⟨g, 0, none⟩), V.v] (by kernel_rfl) rfl (by kernel_rfl) (enters_of Tryz.func143 (by kernel_rfl) rfl)) (maccount_ok V hV g (Run V g [.a 5, .a 4] K E) E _ (Run.keepsN H (Keeps.refl Nob w))) (fun c w' h => ⟨rfl, .inr ⟨c, rfl, h⟩⟩) ?_
  rintro V1 H2
  refine eq_ <| sy_reg <| rg_still 1 7 (opsAt (qc15_8 6)) [qo15_8 6 0, qo15_8 6 1, qo15_8 6 2, qo15_8 6 3, qo15_8 6 4, qo15_8 6 5, qo15_8 6 6] [qo15_8 6 7] (by kernel_rfl) (by kernel_rfl) (by kernel_rfl) (by kernel_rfl) (by kernel_rfl) ?_
  obtain ⟨V4, eV4, kV4⟩ := drew_step V1
  rw [eV4]
  clear eV4
  have kb5 : Keeps Nob V1 V4 := (Keeps.refl Nob V1).nn kV4
  refine skq (V.v) <| skq (pT g 0) <| skq (pT g 0) <| skq (pT g 5) <| skq (.func (.method "distraint/message.amount") #[V.v] #[]) <| spq (.func (.method "distraint/message.amount") #[V.v] #[]) (hV.amount0 _ _ (.tmp 11) _ (by kernel_rfl) (by kernel_rfl)) <| skq (V.v) <| st_end <| ls_P (qo15_8 6 7) V.fa #[V.rv, .pointer (some ⟨g, 5, none⟩)] _ _ (run_invoke (qo15_8 6 7) (.tmp 13) "distraint/message.amount" V.v V.fa V.rv #[.pointer (some ⟨g, 5, none⟩)] #[V.rv, .pointer (some ⟨g, 5, none⟩)] (by kernel_rfl) (by kernel_rfl) (by kernel_rfl) hV.amount (by kernel_rfl)) (H2 _ kb5) (fun c w' h => ⟨rfl, .inr ⟨c, rfl, h⟩⟩) ?_
  rintro V6 H7
  refine ls_end <| then_n <| sy_reg <| rg_still 2 7 (opsAt (qc15_8 7)) [qo15_8 7 0, qo15_8 7 1, qo15_8 7 2, qo15_8 7 3, qo15_8 7 4, qo15_8 7 5, qo15_8 7 6] [qo15_8 7 7] (by kernel_rfl) (by kernel_rfl) (by kernel_rfl) (by kernel_rfl) (by kernel_rfl) ?_
  obtain ⟨V9, eV9, kV9⟩ := drew_step V6
  rw [eV9]
  clear eV9
  have kb10 : Keeps Nob V6 V9 := (Keeps.refl Nob V6).nn kV9
  refine skq (V.v) <| skq (pT g 0) <| skq (pT g 0) <| skq (pT g 4) <| skq (.func (.method "distraint/message.amount") #[V.v] #[]) <| spq (.func (.method "distraint/message.amount") #[V.v] #[]) (hV.amount0 _ _ (.tmp 19) _ (by kernel_rfl) (by kernel_rfl)) <| skq (V.v) <| st_end <| ls_P (qo15_8 7 7) V.fa #[V.rv, .pointer (some ⟨g, 4, none⟩)] _ _ (run_invoke (qo15_8 7 7) (.tmp 21) "distraint/message.amount" V.v V.fa V.rv #[.pointer (some ⟨g, 4, none⟩)] #[V.rv, .pointer (some ⟨g, 4, none⟩)] (by kernel_rfl) (by kernel_rfl) (by kernel_rfl) hV.amount (by kernel_rfl)) (H7 _ kb10) (fun c w' h => ⟨rfl, .inr ⟨c, rfl, h⟩⟩) ?_
  rintro V11 H12
  refine ls_end <| sy_fall (.tuple #[]) rfl (by kernel_rfl) ?_
  exact .inl ⟨rfl, H12⟩
noncomputable def qc15_3 (n : Nat) : Code := partOf Tryz.f117 n
noncomputable abbrev qo15_3 (n k : Nat) : Oper := (opsAt (qc15_3 n)).getD k default
theorem mdelegate_ok (V : Vis) (hV : V.Ok) (g : Nat) (K : World → Prop) (E : List PanicEntry → World → Prop) (w : World) (H : Run V g [.n 1 0 63, .n 2 0 31, .a 4] K E w) :
    Calls Tryz.prog 117 #[.pointer (some ⟨g, 0, none⟩), V.v] w (PEnd K E) := by
  have K0 : Keeps Nob w w := Keeps.refl _ _
  refine sy_enter (qc15_3 1) ⟨#[pT g 0, V.v, ud, ud, ud, ud, ud, ud, ud, ud, ud, ud, ud, ud, ud, ud, ud, ud], []⟩ Tryz.func117 (by kernel_rfl) (by kernel_rfl) <| qr_ [0, 1, 2] <| pkq (pT g 0) <| pkq (V.v) <| ps_P (qo15_3 2 2) 143 #[.pointer (some ⟨g, 0, none⟩), V.v] _ _ (run_callF (qo15_3 2 2) 143 #[.pointer (some ⟨g, 0, none⟩), V.v] (by kernel_rfl) rfl (by kernel_rfl) (enters_of Tryz.func143 (by kernel_rfl) rfl)) (maccount_ok V hV g (Run V g [.n 2 0 31, .a 4] K E) E _ (Run.keepsN H (Keeps.refl Nob w))) (fun c w' h => ⟨rfl, .inr ⟨c, rfl, h⟩⟩) ?_
  rintro V1 H2
  refine eqr_ [0, 1, 2] <| pkq (pT g 0) <| pkq (V.v) <| ps_P (qo15_3 6 2) 144 #[.pointer (some ⟨g, 0, none⟩), V.v] _ _ (run_callF (qo15_3 6 2) 144 #[.pointer (some ⟨g, 0, none⟩), V.v] (by kernel_rfl) rfl (by kernel_rfl) (enters_of Tryz.func144 (by kernel_rfl) rfl)) (mvalidator_ok V hV g (Run V g [.a 4] K E) E _ (Run.keepsN H2 (Keeps.refl Nob V1))) (fun c w' h => ⟨rfl, .inr ⟨c, rfl, h⟩⟩) ?_
  rintro V3 H4
  refine et_ <| sy_reg <| rg_still 2 7 (opsAt (qc15_3 7)) [qo15_3 7 0, qo15_3 7 1, qo15_3 7 2, qo15_3 7 3, qo15_3 7 4, qo15_3 7 5, qo15_3 7 6] [qo15_3 7 7] (by kernel_rfl) (by kernel_rfl) (by kernel_rfl) (by kernel_rfl) (by kernel_rfl) ?_
  obtain ⟨V6, eV6, kV6⟩ := drew_step V3
  rw [eV6]
  clear eV6
  have kb7 : Keeps Nob V3 V6 := (Keeps.refl Nob V3).nn kV6
  refine skq (V.v) <| skq (pT g 0) <| skq (pT g 0) <| skq (pT g 4) <| skq (.func (.method "distraint/message.amount") #[V.v] #[]) <| spq (.func (.method "distraint/message.amount") #[V.v] #[]) (hV.amount0 _ _ (.tmp 14) _ (by kernel_rfl) (by kernel_rfl)) <| skq (V.v) <| st_end <| ls_P (qo15_3 7 7) V.fa #[V.rv, .pointer (some ⟨g, 4, none⟩)] _ _ (run_invoke (qo15_3 7 7) (.tmp 16) "distraint/message.amount" V.v V.fa V.rv #[.pointer (some ⟨g, 4, none⟩)] #[V.rv, .pointer (some ⟨g, 4, none⟩)] (by kernel_rfl) (by kernel_rfl) (by kernel_rfl) hV.amount (by kernel_rfl)) (H4 _ kb7) (fun c w' h => ⟨rfl, .inr ⟨c, rfl, h⟩⟩) ?_
  rintro V8 H9
  refine ls_end <| sy_fall (.tuple #[]) rfl (by kernel_rfl) ?_
  exact .inl ⟨rfl, H9⟩
noncomputable def qc15_1 (n : Nat) : Code := partOf Tryz.f118 n
noncomputable abbrev qo15_1 (n k : Nat) : Oper := (opsAt (qc15_1 n)).getD k default
theorem mundelegate_ok (V : Vis) (hV : V.Ok) (g : Nat) (K : World → Prop) (E : List PanicEntry → World → Prop) (w : World) (H : Run V g [.n 1 0 63, .n 6 0 31, .n 7 1 4294967296, .n 8 (-1) 31, .n 9 0 4294967296, .a 4] K E w) :
    Calls Tryz.prog 118 #[.pointer (some ⟨g, 0, none⟩), V.v] w (PEnd K E) := by
  have K0 : Keeps Nob w w := Keeps.refl _ _
  refine sy_enter (qc15_1 1) ⟨#[pT g 0, V.v, ud, ud, ud, ud, ud, ud, ud, ud, ud, ud, ud, ud, ud, ud, ud, ud], []⟩ Tryz.func118 (by kernel_rfl) (by kernel_rfl) <| qr_ [0, 1, 2] <| pkq (pT g 0) <| pkq (V.v) <| ps_P (qo15_1 2 2) 143 #[.pointer (some ⟨g, 0, none⟩), V.v] _ _ (run_callF (qo15_1 2 2) 143 #[.pointer (some ⟨g, 0, none⟩), V.v] (by kernel_rfl) rfl (by kernel_rfl) (enters_of Tryz.func143 (by kernel_rfl) rfl)) (maccount_ok V hV g (Run V g [.n 6 0 31, .n 7 1 4294967296, .n 8 (-1) 31, .n 9 0 4294967296, .a 4] K E) E _ (Run.keepsN H (Keeps.refl Nob w))) (fun c w' h => ⟨rfl, .inr ⟨c, rfl, h⟩⟩) ?_
  rintro V1 H2
  refine eqr_ [0, 1, 2] <| pkq (pT g 0) <| pkq (V.v) <| ps_P (qo15_1 6 2) 145 #[.pointer (some ⟨g, 0, none⟩), V.v] _ _ (run_callF (qo15_1 6 2) 145 #[.pointer (some ⟨g, 0, none⟩), V.v] (by kernel_rfl) rfl (by kernel_rfl) (enters_of Tryz.func145 (by kernel_rfl) rfl)) (mlot_ok V hV g (Run V g [.a 4] K E) E _ (Run.keepsN H2 (Keeps.refl Nob V1))) (fun c w' h => ⟨rfl, .inr ⟨c, rfl, h⟩⟩) ?_
  rintro V3 H4
  refine et_ <| sy_reg <| rg_still 2 7 (opsAt (qc15_1 7)) [qo15_1 7 0, qo15_1 7 1, qo15_1 7 2, qo15_1 7 3, qo15_1 7 4, qo15_1 7 5, qo15_1 7 6] [qo15_1 7 7] (by kernel_rfl) (by kernel_rfl) (by kernel_rfl) (by kernel_rfl) (by kernel_rfl) ?_
  obtain ⟨V6, eV6, kV6⟩ := drew_step V3
  rw [eV6]
  clear eV6
  have kb7 : Keeps Nob V3 V6 := (Keeps.refl Nob V3).nn kV6
  refine skq (V.v) <| skq (pT g 0) <| skq (pT g 0) <| skq (pT g 4) <| skq (.func (.method "distraint/message.amount") #[V.v] #[]) <| spq (.func (.method "distraint/message.amount") #[V.v] #[]) (hV.amount0 _ _ (.tmp 14) _ (by kernel_rfl) (by kernel_rfl)) <| skq (V.v) <| st_end <| ls_P (qo15_1 7 7) V.fa #[V.rv, .pointer (some ⟨g, 4, none⟩)] _ _ (run_invoke (qo15_1 7 7) (.tmp 16) "distraint/message.amount" V.v V.fa V.rv #[.pointer (some ⟨g, 4, none⟩)] #[V.rv, .pointer (some ⟨g, 4, none⟩)] (by kernel_rfl) (by kernel_rfl) (by kernel_rfl) hV.amount (by kernel_rfl)) (H4 _ kb7) (fun c w' h => ⟨rfl, .inr ⟨c, rfl, h⟩⟩) ?_
  rintro V8 H9
  refine ls_end <| sy_fall (.tuple #[]) rfl (by kernel_rfl) ?_
  exact .inl ⟨rfl, H9⟩
noncomputable def qc15_0 (n : Nat) : Code := partOf Tryz.f119 n
noncomputable abbrev qo15_0 (n k : Nat) : Oper := (opsAt (qc15_0 n)).getD k default
theorem mredelegate_ok (V : Vis) (hV : V.Ok) (g : Nat) (K : World → Prop) (E : List PanicEntry → World → Prop) (w : World) (H : Run V g [.n 1 0 63, .n 6 0 31, .n 7 1 4294967296, .n 8 (-1) 31, .n 9 0 4294967296, .a 4, .n 3 0 31] K E w) :
    Calls Tryz.prog 119 #[.pointer (some ⟨g, 0, none⟩), V.v] w (PEnd K E) := by
  have K0 : Keeps Nob w w := Keeps.refl _ _
  refine sy_enter (qc15_0 1) ⟨#[pT g 0, V.v, ud, ud, ud, ud, ud, ud, ud, ud, ud, ud, ud, ud, ud], []⟩ Tryz.func119 (by kernel_rfl) (by kernel_rfl) <| qr_ [0, 1, 2] <| pkq (pT g 0) <| pkq (V.v) <| ps_P (qo15_0 2 2) 118 #[.pointer (some ⟨g, 0, none⟩), V.v] _ _ (run_callF (qo15_0 2 2) 118 #[.pointer (some ⟨g, 0, none⟩), V.v] (by kernel_rfl) rfl (by kernel_rfl) (enters_of Tryz.func118 (by kernel_rfl) rfl)) (mundelegate_ok V hV g (Run V g [.n 3 0 31] K E) E _ (Run.keepsN H (Keeps.refl Nob w))) (fun c w' h => ⟨rfl, .inr ⟨c, rfl, h⟩⟩) ?_
  rintro V1 H2
  refine et_ <| sy_reg <| rg_still 1 7 (opsAt (qc15_0 3)) [qo15_0 3 0, qo15_0 3 1, qo15_0 3 2, qo15_0 3 3, qo15_0 3 4, qo15_0 3 5, qo15_0 3 6] [qo15_0 3 7] (by kernel_rfl) (by kernel_rfl) (by kernel_rfl) (by kernel_rfl) (by kernel_rfl) ?_
  obtain ⟨V4, eV4, kV4⟩ := drew_step V1
  rw [eV4]
  clear eV4
  have kb5 : Keeps Nob V1 V4 := (Keeps.refl Nob V1).nn kV4
  refine skq (V.v) <| skq (pT g 0) <| skq (pT g 0) <| skq (pT g 3) <| skq (.func (.method "distraint/message.num") #[V.v] #[]) <| spq (.func (.method "distraint/message.num") #[V.v] #[]) (hV.num0 _ _ (.tmp 11) _ (by kernel_rfl) (by kernel_rfl)) <| skq (V.v) <| st_end <| ls_P (qo15_0 3 7) V.fn #[V.rv, .pointer (some ⟨g, 3, none⟩), .int .i64 0, .int .i64 31] _ _ (run_invoke (qo15_0 3 7) (.tmp 13) "distraint/message.num" V.v V.fn V.rv #[.pointer (some ⟨g, 3, none⟩), .int .i64 0, .int .i64 31] #[V.rv, .pointer (some ⟨g, 3, none⟩), .int .i64 0, .int .i64 31] (by kernel_rfl) (by kernel_rfl) (by kernel_rfl) hV.num (by kernel_rfl)) (H2 _ kb5) (fun c w' h => ⟨rfl, .inr ⟨c, rfl, h⟩⟩) ?_
  rintro V6 H7
  refine ls_end <| sy_fall (.tuple #[]) rfl (by kernel_rfl) ?_
  exact .inl ⟨rfl, H7⟩
noncomputable def qc15_10 (n : Nat) : Code := partOf Tryz.f120 n
noncomputable abbrev qo15_10 (n k : Nat) : Oper := (opsAt (qc15_10 n)).getD k default
theorem mattest_ok (V : Vis) (hV : V.Ok) (g : Nat) (K : World → Prop) (E : List PanicEntry → World → Prop) (w : World) (H : Run V g [.n 1 0 63, .k 1, .n 12 0 31, .n 13 0 4294967296, .n 14 0 4294967296, .h 15, .a 47] K E w) :
    Calls Tryz.prog 120 #[.pointer (some ⟨g, 0, none⟩), V.v] w (PEnd K E) := by
  have K0 : Keeps Nob w w := Keeps.refl _ _
  refine sy_enter (qc15_10 1) ⟨#[pT g 0, V.v, ud, ud, ud, ud, ud, ud, ud, ud, ud, ud], []⟩ Tryz.func120 (by kernel_rfl) (by kernel_rfl) <| qr_ [0, 1, 2] <| pkq (pT g 0) <| pkq (V.v) <| ps_P (qo15_10 2 2) 143 #[.pointer (some ⟨g, 0, none⟩), V.v] _ _ (run_callF (qo15_10 2 2) 143 #[.pointer (some ⟨g, 0, none⟩), V.v] (by kernel_rfl) rfl (by kernel_rfl) (enters_of Tryz.func143 (by kernel_rfl) rfl)) (maccount_ok V hV g (Run V g [.k 1, .n 12 0 31, .n 13 0 4294967296, .n 14 0 4294967296, .h 15, .a 47] K E) E _ (Run.keepsN H (Keeps.refl Nob w))) (fun c w' h => ⟨rfl, .inr ⟨c, rfl, h⟩⟩) ?_
  rintro V1 H2
  refine er_ [0, 1, 2, 3, 4] <| pkq (V.v) <| pkq (pT g 0) <| pkq (pT g 0) <| pkq (pT g 12) <| ps_P (qo15_10 3 4) 146 #[V.v, .pointer (some ⟨g, 12, none⟩)] _ _ (run_callF (qo15_10 3 4) 146 #[V.v, .pointer (some ⟨g, 12, none⟩)] (by kernel_rfl) rfl (by kernel_rfl) (enters_of Tryz.func146 (by kernel_rfl) rfl)) (mvote_ok V hV g 12 K E _ (Run.keepsN H2 (Keeps.refl Nob V1))) (fun c w' h => ⟨rfl, .inr ⟨c, rfl, h⟩⟩) ?_
  rintro V3 H4
  refine ps_end <| sy_fall (.tuple #[]) rfl (by kernel_rfl) ?_
  exact .inl ⟨rfl, H4⟩
noncomputable def qc15_6 (n : Nat) : Code := partOf Tryz.f121 n
noncomputable abbrev qo15_6 (n k : Nat) : Oper := (opsAt (qc15_6 n)).getD k default
theorem mpropose_ok (V : Vis) (hV : V.Ok) (g : Nat) (K : World → Prop) (E : List PanicEntry → World → Prop) (w : World) (H : Run V g [.n 1 0 63, .k 2, .n 84 0 31, .n 85 1 4294967296, .h 86, .a 118] K E w) :
    Calls Tryz.prog 121 #[.pointer (some ⟨g, 0, none⟩), V.v] w (PEnd K E) := by
  have K0 : Keeps Nob w w := Keeps.refl _ _
  refine sy_enter (qc15_6 1) ⟨#[pT g 0, V.v, ud, ud, ud, ud, ud, ud, ud, ud, ud, ud], []⟩ Tryz.func121 (by kernel_rfl) (by kernel_rfl) <| qr_ [0, 1, 2] <| pkq (pT g 0) <| pkq (V.v) <| ps_P (qo15_6 2 2) 143 #[.pointer (some ⟨g, 0, none⟩), V.v] _ _ (run_callF (qo15_6 2 2) 143 #[.pointer (some ⟨g, 0, none⟩), V.v] (by kernel_rfl) rfl (by kernel_rfl) (enters_of Tryz.func143 (by kernel_rfl) rfl)) (maccount_ok V hV g (Run V g [.k 2, .n 84 0 31, .n 85 1 4294967296, .h 86, .a 118] K E) E _ (Run.keepsN H (Keeps.refl Nob w))) (fun c w' h => ⟨rfl, .inr ⟨c, rfl, h⟩⟩) ?_
  rintro V1 H2
  refine er_ [0, 1, 2, 3, 4] <| pkq (V.v) <| pkq (pT g 0) <| pkq (pT g 0) <| pkq (pT g 84) <| ps_P (qo15_6 3 4) 147 #[V.v, .pointer (some ⟨g, 84, none⟩)] _ _ (run_callF (qo15_6 3 4) 147 #[V.v, .pointer (some ⟨g, 84, none⟩)] (by kernel_rfl) rfl (by kernel_rfl) (enters_of Tryz.func147 (by kernel_rfl) rfl)) (mblock_ok V hV g 84 K E _ (Run.keepsN H2 (Keeps.refl Nob V1))) (fun c w' h => ⟨rfl, .inr ⟨c, rfl, h⟩⟩) ?_
  rintro V3 H4
  refine ps_end <| sy_fall (.tuple #[]) rfl (by kernel_rfl) ?_
  exact .inl ⟨rfl, H4⟩
noncomputable def qc15_9 (n : Nat) : Code := partOf Tryz.f123 n
noncomputable abbrev qo15_9 (n k : Nat) : Oper := (opsAt (qc15_9 n)).getD k default
theorem munjail_ok (V : Vis) (hV : V.Ok) (g : Nat) (K : World → Prop) (E : List PanicEntry → World → Prop) (w : World) (H : Run V g [.n 1 0 63, .n 2 0 31] K E w) :
    Calls Tryz.prog 123 #[.pointer (some ⟨g, 0, none⟩), V.v] w (PEnd K E) := by
  have K0 : Keeps Nob w w := Keeps.refl _ _
  refine sy_enter (qc15_9 1) ⟨#[pT g 0, V.v, ud, ud, ud, ud, ud, ud, ud, ud], []⟩ Tryz.func123 (by kernel_rfl) (by kernel_rfl) <| qr_ [0, 1, 2] <| pkq (pT g 0) <| pkq (V.v) <| ps_P (qo15_9 2 2) 143 #[.pointer (some ⟨g, 0, none⟩), V.v] _ _ (run_callF (qo15_9 2 2) 143 #[.pointer (some ⟨g, 0, none⟩), V.v] (by kernel_rfl) rfl (by kernel_rfl) (enters_of Tryz.func143 (by kernel_rfl) rfl)) (maccount_ok V hV g (Run V g [.n 2 0 31] K E) E _ (Run.keepsN H (Keeps.refl Nob w))) (fun c w' h => ⟨rfl, .inr ⟨c, rfl, h⟩⟩) ?_
  rintro V1 H2
  refine er_ [0, 1, 2] <| pkq (pT g 0) <| pkq (V.v) <| ps_P (qo15_9 3 2) 144 #[.pointer (some ⟨g, 0, none⟩), V.v] _ _ (run_callF (qo15_9 3 2) 144 #[.pointer (some ⟨g, 0, none⟩), V.v] (by kernel_rfl) rfl (by kernel_rfl) (enters_of Tryz.func144 (by kernel_rfl) rfl)) (mvalidator_ok V hV g K E _ (Run.keepsN H2 (Keeps.refl Nob V1))) (fun c w' h => ⟨rfl, .inr ⟨c, rfl, h⟩⟩) ?_
  rintro V3 H4
  refine ps_end <| sy_fall (.tuple #[]) rfl (by kernel_rfl) ?_
  exact .inl ⟨rfl, H4⟩
noncomputable def qc15_12 (n : Nat) : Code := partOf Tryz.f124 n
noncomputable abbrev qo15_12 (n k : Nat) : Oper := (opsAt (qc15_12 n)).getD k default
theorem mclaim_ok (V : Vis) (hV : V.Ok) (g : Nat) (K : World → Prop) (E : List PanicEntry → World → Prop) (w : World) (H : Run V g [.n 1 0 63] K E w) :
    Calls Tryz.prog 124 #[.pointer (some ⟨g, 0, none⟩), V.v] w (PEnd K E) := by
  have K0 : Keeps Nob w w := Keeps.refl _ _
  refine sy_enter (qc15_12 1) ⟨#[pT g 0, V.v, ud, ud, ud, ud, ud], []⟩ Tryz.func124 (by kernel_rfl) (by kernel_rfl) <| r_ [0, 1, 2] <| pkq (pT g 0) <| pkq (V.v) <| ps_P (qo15_12 1 2) 143 #[.pointer (some ⟨g, 0, none⟩), V.v] _ _ (run_callF (qo15_12 1 2) 143 #[.pointer (some ⟨g, 0, none⟩), V.v] (by kernel_rfl) rfl (by kernel_rfl) (enters_of Tryz.func143 (by kernel_rfl) rfl)) (maccount_ok V hV g K E _ (Run.keepsN H (Keeps.refl Nob w))) (fun c w' h => ⟨rfl, .inr ⟨c, rfl, h⟩⟩) ?_
  rintro V1 H2
  refine ps_end <| sy_fall (.tuple #[]) rfl (by kernel_rfl) ?_
  exact .inl ⟨rfl, H2⟩
noncomputable def qc15_15 (n : Nat) : Code := partOf Tryz.f125 n
noncomputable abbrev qo15_15 (n k : Nat) : Oper := (opsAt (qc15_15 n)).getD k default
theorem mtick_ok (V : Vis) (hV : V.Ok) (g : Nat) (K : World → Prop) (E : List PanicEntry → World → Prop) (w : World) (H : Run V g [.n 10 1 1000] K E w) :
    Calls Tryz.prog 125 #[.pointer (some ⟨g, 0, none⟩), V.v] w (PEnd K E) := by
  have K0 : Keeps Nob w w := Keeps.refl _ _
  refine sy_enter (qc15_15 1) ⟨#[pT g 0, V.v, ud, ud, ud, ud, ud, ud, ud, ud, ud, ud], []⟩ Tryz.func125 (by kernel_rfl) (by kernel_rfl) <| sy_reg <| rg_still 0 7 (opsAt (qc15_15 1)) [qo15_15 1 0, qo15_15 1 1, qo15_15 1 2, qo15_15 1 3, qo15_15 1 4, qo15_15 1 5, qo15_15 1 6] [qo15_15 1 7] (by kernel_rfl) (by kernel_rfl) (by kernel_rfl) (by kernel_rfl) (by kernel_rfl) ?_
  obtain ⟨V2, eV2, kV2⟩ := drew_step w
  rw [eV2]
  clear eV2
  have kb3 : Keeps Nob w V2 := (Keeps.refl Nob w).nn kV2
  have K4 := K0.nn kV2
  refine skq (V.v) <| skq (pT g 0) <| skq (pT g 0) <| skq (pT g 10) <| skq (.func (.method "distraint/message.num") #[V.v] #[]) <| spq (.func (.method "distraint/message.num") #[V.v] #[]) (hV.num0 _ _ (.tmp 8) _ (by kernel_rfl) (by kernel_rfl)) <| skq (V.v) <| st_end <| ls_P (qo15_15 1 7) V.fn #[V.rv, .pointer (some ⟨g, 10, none⟩), .int .i64 1, .int .i64 1000] _ _ (run_invoke (qo15_15 1 7) (.tmp 10) "distraint/message.num" V.v V.fn V.rv #[.pointer (some ⟨g, 10, none⟩), .int .i64 1, .int .i64 1000] #[V.rv, .pointer (some ⟨g, 10, none⟩), .int .i64 1, .int .i64 1000] (by kernel_rfl) (by kernel_rfl) (by kernel_rfl) hV.num (by kernel_rfl)) (H _ kb3) (fun c w' h => ⟨rfl, .inr ⟨c, rfl, h⟩⟩) ?_
  rintro V5 H6
  refine ls_end <| sy_fall (.tuple #[]) rfl (by kernel_rfl) ?_
  exact .inl ⟨rfl, H6⟩
noncomputable def qc15_5 (n : Nat) : Code := partOf Tryz.f122 n
noncomputable abbrev qo15_5 (n k : Nat) : Oper := (opsAt (qc15_5 n)).getD k default
theorem mevidence_ok (V : Vis) (hV : V.Ok) (g : Nat) (K : World → Prop) (E : List PanicEntry → World → Prop) (w : World) (H : Run V g [.n 1 0 63] (EvA V g K E) E w) :
    Calls Tryz.prog 122 #[.pointer (some ⟨g, 0, none⟩), V.v] w (PEnd K E) := by
  have K0 : Keeps Nob w w := Keeps.refl _ _
  refine sy_enter (qc15_5 1) ⟨#[pT g 0, V.v, ud, ud, ud, ud, ud, ud, ud, ud, ud, ud, ud, ud, ud, ud, ud, ud, ud, ud, ud, ud, ud, ud, ud, ud, ud, ud, ud, ud, ud, ud, ud, ud, ud, ud, ud, ud, ud, ud, ud, ud, ud, ud, ud, ud, ud, ud, ud, ud, ud], []⟩ Tryz.func122 (by kernel_rfl) (by kernel_rfl) <| qr_ [0, 1, 2] <| pkq (pT g 0) <| pkq (V.v) <| ps_P (qo15_5 2 2) 143 #[.pointer (some ⟨g, 0, none⟩), V.v] _ _ (run_callF (qo15_5 2 2) 143 #[.pointer (some ⟨g, 0, none⟩), V.v] (by kernel_rfl) rfl (by kernel_rfl) (enters_of Tryz.func143 (by kernel_rfl) rfl)) (maccount_ok V hV g (EvA V g K E) E _ (Run.keepsN H (Keeps.refl _ _))) (fun c w' h => ⟨rfl, .inr ⟨c, rfl, h⟩⟩) ?_
  rintro V1 ⟨cs_, x0, hb0, hx0, H1⟩
  refine eqr_ [0, 1, 2, 3, 4] <| pkq (pT g 0) <| pkq (pT g 0) <| pkq (pT g 11) <| ppq (.int .i64 x0) (ldc 3 g 11 (rc (hb0) (hx0))) <| pkq (.int .i64 x0) <| eq_ <| sy_reg <| rg_still 2 7 (opsAt (qc15_5 14)) [qo15_5 14 0, qo15_5 14 1, qo15_5 14 2, qo15_5 14 3, qo15_5 14 4, qo15_5 14 5, qo15_5 14 6] [qo15_5 14 7] (by kernel_rfl) (by kernel_rfl) (by kernel_rfl) (by kernel_rfl) (by kernel_rfl) ?_
  obtain ⟨V3, eV3, kV3⟩ := drew_step V1
  rw [eV3]
  clear eV3
  have kb5 : Keeps Nob V1 V3 := (Keeps.refl Nob V1).nn kV3
  refine skq (V.v) <| skq (pT g 0) <| skq (pT g 0) <| skq (pT g 11) <| skq (.func (.method "distraint/message.num") #[V.v] #[]) <| spq (.func (.method "distraint/message.num") #[V.v] #[]) (hV.num0 _ _ (.tmp 16) _ (by kernel_rfl) (by kernel_rfl)) <| skq (V.v) <| st_end <| ls_P (qo15_5 14 7) V.fn #[V.rv, .pointer (some ⟨g, 11, none⟩), .int .i64 1, .int .i64 3] _ _ (run_invoke (qo15_5 14 7) (.tmp 18) "distraint/message.num" V.v V.fn V.rv #[.pointer (some ⟨g, 11, none⟩), .int .i64 1, .int .i64 3] #[V.rv, .pointer (some ⟨g, 11, none⟩), .int .i64 1, .int .i64 3] (by kernel_rfl) (by kernel_rfl) (by kernel_rfl) hV.num (by kernel_rfl)) (H1 _ kb5) (fun c w' h => ⟨rfl, .inr ⟨c, rfl, h⟩⟩) ?_
  rintro V6 ⟨cs_2, x, hb2, hx2, H2⟩
  refine ls_end <| then_n ?_
  rcases (show (x ≠ 0 ∧ x = 3) ∨ (x ≠ 0 ∧ ¬ x = 3) ∨ (x = 0 ∧ x0 = 3) ∨ (x = 0 ∧ ¬ x0 = 3) by omega) with ⟨hz, h3⟩ | ⟨hz, h3⟩ | ⟨hz, h3⟩ | ⟨hz, h3⟩
  · have H3 : Run V g [.k 2, .n 84 0 31, .n 85 1 4294967296, .h 86, .a 118, .k 2, .n 119 0 31, .n 120 1 4294967296, .h 121, .a 153] K E _ := (show evI (if x ≠ 0 then x else x0) = ([.k 2, .n 84 0 31, .n 85 1 4294967296, .h 86, .a 118, .k 2, .n 119 0 31, .n 120 1 4294967296, .h 121, .a 153] : List It) from (congrArg evI (if_pos hz)).trans (if_pos h3)) ▸ H2
    refine q_ <| qr_ [0, 1, 2, 3, 4] <| pkq (pT g 0) <| pkq (pT g 0) <| pkq (pT g 11) <| ppq (.int .i64 x) (ldc 3 g 11 (rc (hb2) (hx2))) <| ppq (.bool true) (nqt ((x) : Int) ((0) : Int) (by omega)) <| ey_ <| r_ [0, 1, 2, 3, 4] <| pkq (pT g 0) <| pkq (pT g 0) <| pkq (pT g 11) <| ppq (.int .i64 x) (ldc 3 g 11 (rc (hb2) (hx2))) <| pkq (.int .i64 x) ?_
    refine ps_end <| sy_a ⟨#[pT g 0, V.v, ud, ud, .int .i64 x, pT g 0, V.v, .tuple #[], pT g 0, pT g 0, pT g 11, .int .i64 x0, V.v, pT g 0, pT g 0, pT g 11, .func (.method "distraint/message.num") #[V.v] #[], .func (.method "distraint/message.num") #[V.v] #[], V.v, .tuple #[], pT g 0, pT g 0, pT g 11, .int .i64 x, .bool true, pT g 0, pT g 0, pT g 11, .int .i64 x, ud, ud, ud, ud, ud, ud, ud, ud, ud, ud, ud, ud, ud, ud, ud, ud, ud, ud, ud, ud, ud, ud], []⟩ <| tq_ <| qr_ [0, 1] <| pkq (.int .i64 x) <| ppq (.bool true) (eqt ((x) : Int) ((3) : Int) (by omega)) <| ey_ <| qr_ [0, 1, 2, 3, 4] <| pkq (V.v) <| pkq (pT g 0) <| pkq (pT g 0) <| pkq (pT g 84) <| ps_P (qo15_5 500 4) 147 #[V.v, .pointer (some ⟨g, 84, none⟩)] _ _ (run_callF (qo15_5 500 4) 147 #[V.v, .pointer (some ⟨g, 84, none⟩)] (by kernel_rfl) rfl (by kernel_rfl) (enters_of Tryz.func147 (by kernel_rfl) rfl)) (mblock_ok V hV g 84 (Run V g [.k 2, .n 119 0 31, .n 120 1 4294967296, .h 121, .a 153] K E) E _ (Run.keepsN H3 (Keeps.refl Nob V6))) (fun c w' h => ⟨rfl, .inr ⟨c, rfl, h⟩⟩) ?_
    rintro V8 H9
    refine eqr_ [0, 1, 2, 3, 4] <| pkq (V.v) <| pkq (pT g 0) <| pkq (pT g 0) <| pkq (pT g 119) <| ps_P (qo15_5 1002 4) 147 #[V.v, .pointer (some ⟨g, 119, none⟩)] _ _ (run_callF (qo15_5 1002 4) 147 #[V.v, .pointer (some ⟨g, 119, none⟩)] (by kernel_rfl) rfl (by kernel_rfl) (enters_of Tryz.func147 (by kernel_rfl) rfl)) (mblock_ok V hV g 119 K E _ (Run.keepsN H9 (Keeps.refl Nob V8))) (fun c w' h => ⟨rfl, .inr ⟨c, rfl, h⟩⟩) ?_
    rintro V10 H11
    refine eu_ <| then_r <| so_ (.tuple #[]) ?_
    exact .inl ⟨rfl, H11⟩
  · have H3 : Run V g [.k 1, .n 12 0 31, .n 13 0 4294967296, .n 14 0 4294967296, .h 15, .a 47, .k 1, .n 48 0 31, .n 49 0 4294967296, .n 50 0 4294967296, .h 51, .a 83] K E _ := (show evI (if x ≠ 0 then x else x0) = ([.k 1, .n 12 0 31, .n 13 0 4294967296, .n 14 0 4294967296, .h 15, .a 47, .k 1, .n 48 0 31, .n 49 0 4294967296, .n 50 0 4294967296, .h 51, .a 83] : List It) from (congrArg evI (if_pos hz)).trans (if_neg h3)) ▸ H2
    refine q_ <| qr_ [0, 1, 2, 3, 4] <| pkq (pT g 0) <| pkq (pT g 0) <| pkq (pT g 11) <| ppq (.int .i64 x) (ldc 3 g 11 (rc (hb2) (hx2))) <| ppq (.bool true) (nqt ((x) : Int) ((0) : Int) (by omega)) <| ey_ <| r_ [0, 1, 2, 3, 4] <| pkq (pT g 0) <| pkq (pT g 0) <| pkq (pT g 11) <| ppq (.int .i64 x) (ldc 3 g 11 (rc (hb2) (hx2))) <| pkq (.int .i64 x) ?_
    refine ps_end <| sy_a ⟨#[pT g 0, V.v, ud, ud, .int .i64 x, pT g 0, V.v, .tuple #[], pT g 0, pT g 0, pT g 11, .int .i64 x0, V.v, pT g 0, pT g 0, pT g 11, .func (.method "distraint/message.num") #[V.v] #[], .func (.method "distraint/message.num") #[V.v] #[], V.v, .tuple #[], pT g 0, pT g 0, pT g 11, .int .i64 x, .bool true, pT g 0, pT g 0, pT g 11, .int .i64 x, ud, ud, ud, ud, ud, ud, ud, ud, ud, ud, ud, ud, ud, ud, ud, ud, ud, ud, ud, ud, ud, ud], []⟩ <| tq_ <| qr_ [0, 1] <| pkq (.int .i64 x) <| ppq (.bool false) (eqf ((x) : Int) ((3) : Int) (by omega)) <| en_ <| s_ <| tqr_ [0, 1, 2, 3, 4] <| pkq (V.v) <| pkq (pT g 0) <| pkq (pT g 0) <| pkq (pT g 12) <| ps_P (qo15_5 126 4) 146 #[V.v, .pointer (some ⟨g, 12, none⟩)] _ _ (run_callF (qo15_5 126 4) 146 #[V.v, .pointer (some ⟨g, 12, none⟩)] (by kernel_rfl) rfl (by kernel_rfl) (enters_of Tryz.func146 (by kernel_rfl) rfl)) (mvote_ok V hV g 12 (Run V g [.k 1, .n 48 0 31, .n 49 0 4294967296, .n 50 0 4294967296, .h 51, .a 83] K E) E _ (Run.keepsN H3 (Keeps.refl Nob V6))) (fun c w' h => ⟨rfl, .inr ⟨c, rfl, h⟩⟩) ?_
    rintro V12 H13
    refine er_ [0, 1, 2, 3, 4] <| pkq (V.v) <| pkq (pT g 0) <| pkq (pT g 0) <| pkq (pT g 48) <| ps_P (qo15_5 127 4) 146 #[V.v, .pointer (some ⟨g, 48, none⟩)] _ _ (run_callF (qo15_5 127 4) 146 #[V.v, .pointer (some ⟨g, 48, none⟩)] (by kernel_rfl) rfl (by kernel_rfl) (enters_of Tryz.func146 (by kernel_rfl) rfl)) (mvote_ok V hV g 48 K E _ (Run.keepsN H13 (Keeps.refl Nob V12))) (fun c w' h => ⟨rfl, .inr ⟨c, rfl, h⟩⟩) ?_
    rintro V14 H15
    refine ps_end <| sy_fall (.tuple #[]) rfl (by kernel_rfl) ?_
    exact .inl ⟨rfl, H15⟩
  · have H3 : Run V g [.k 2, .n 84 0 31, .n 85 1 4294967296, .h 86, .a 118, .k 2, .n 119 0 31, .n 120 1 4294967296, .h 121, .a 153] K E _ := (show evI (if x ≠ 0 then x else x0) = ([.k 2, .n 84 0 31, .n 85 1 4294967296, .h 86, .a 118, .k 2, .n 119 0 31, .n 120 1 4294967296, .h 121, .a 153] : List It) from (congrArg evI (if_neg (fun (h : x ≠ 0) => h hz))).trans (if_pos h3)) ▸ H2
    refine q_ <| qr_ [0, 1, 2, 3, 4] <| pkq (pT g 0) <| pkq (pT g 0) <| pkq (pT g 11) <| ppq (.int .i64 x) (ldc 3 g 11 (rc (hb2) (hx2))) <| ppq (.bool false) (nqf ((x) : Int) ((0) : Int) (by omega)) <| en_ <| s_ <| tq_ <| qr_ [0, 1] <| pkq (.int .i64 x0) <| ppq (.bool true) (eqt ((x0) : Int) ((3) : Int) (by omega)) <| ey_ ?_
    refine qr_ [0, 1, 2, 3, 4] <| pkq (V.v) <| pkq (pT g 0) <| pkq (pT g 0) <| pkq (pT g 84) <| ps_P (qo15_5 500 4) 147 #[V.v, .pointer (some ⟨g, 84, none⟩)] _ _ (run_callF (qo15_5 500 4) 147 #[V.v, .pointer (some ⟨g, 84, none⟩)] (by kernel_rfl) rfl (by kernel_rfl) (enters_of Tryz.func147 (by kernel_rfl) rfl)) (mblock_ok V hV g 84 (Run V g [.k 2, .n 119 0 31, .n 120 1 4294967296, .h 121, .a 153] K E) E _ (Run.keepsN H3 (Keeps.refl Nob V6))) (fun c w' h => ⟨rfl, .inr ⟨c, rfl, h⟩⟩) ?_
    rintro V16 H17
    refine ps_end <| sy_a ⟨#[pT g 0, V.v, ud, ud, .int .i64 x0, pT g 0, V.v, .tuple #[], pT g 0, pT g 0, pT g 11, .int .i64 x0, V.v, pT g 0, pT g 0, pT g 11, .func (.method "distraint/message.num") #[V.v] #[], .func (.method "distraint/message.num") #[V.v] #[], V.v, .tuple #[], pT g 0, pT g 0, pT g 11, .int .i64 x, .bool false, ud, ud, ud, ud, .int .i64 x0, .bool true, V.v, pT g 0, pT g 0, pT g 84, .tuple #[], ud, ud, ud, ud, ud, ud, ud, ud, ud, ud, ud, ud, ud, ud, ud], []⟩ <| tqr_ [0, 1, 2, 3, 4] <| pkq (V.v) <| pkq (pT g 0) <| pkq (pT g 0) <| pkq (pT g 119) <| ps_P (qo15_5 1002 4) 147 #[V.v, .pointer (some ⟨g, 119, none⟩)] _ _ (run_callF (qo15_5 1002 4) 147 #[V.v, .pointer (some ⟨g, 119, none⟩)] (by kernel_rfl) rfl (by kernel_rfl) (enters_of Tryz.func147 (by kernel_rfl) rfl)) (mblock_ok V hV g 119 K E _ (Run.keepsN H17 (Keeps.refl Nob V16))) (fun c w' h => ⟨rfl, .inr ⟨c, rfl, h⟩⟩) ?_
    rintro V18 H19
    refine eu_ <| then_r <| so_ (.tuple #[]) ?_
    exact .inl ⟨rfl, H19⟩
  · have H3 : Run V g [.k 1, .n 12 0 31, .n 13 0 4294967296, .n 14 0 4294967296, .h 15, .a 47, .k 1, .n 48 0 31, .n 49 0 4294967296, .n 50 0 4294967296, .h 51, .a 83] K E _ := (show evI (if x ≠ 0 then x else x0) = ([.k 1, .n 12 0 31, .n 13 0 4294967296, .n 14 0 4294967296, .h 15, .a 47, .k 1, .n 48 0 31, .n 49 0 4294967296, .n 50 0 4294967296, .h 51, .a 83] : List It) from (congrArg evI (if_neg (fun (h : x ≠ 0) => h hz))).trans (if_neg h3)) ▸ H2
    refine q_ <| qr_ [0, 1, 2, 3, 4] <| pkq (pT g 0) <| pkq (pT g 0) <| pkq (pT g 11) <| ppq (.int .i64 x) (ldc 3 g 11 (rc (hb2) (hx2))) <| ppq (.bool false) (nqf ((x) : Int) ((0) : Int) (by omega)) <| en_ <| s_ <| tq_ <| qr_ [0, 1] <| pkq (.int .i64 x0) <| ppq (.bool false) (eqf ((x0) : Int) ((3) : Int) (by omega)) <| en_ ?_
    refine s_ <| tqr_ [0, 1, 2, 3, 4] <| pkq (V.v) <| pkq (pT g 0) <| pkq (pT g 0) <| pkq (pT g 12) <| ps_P (qo15_5 126 4) 146 #[V.v, .pointer (some ⟨g, 12, none⟩)] _ _ (run_callF (qo15_5 126 4) 146 #[V.v, .pointer (some ⟨g, 12, none⟩)] (by kernel_rfl) rfl (by kernel_rfl) (enters_of Tryz.func146 (by kernel_rfl) rfl)) (mvote_ok V hV g 12 (Run V g [.k 1, .n 48 0 31, .n 49 0 4294967296, .n 50 0 4294967296, .h 51, .a 83] K E) E _ (Run.keepsN H3 (Keeps.refl Nob V6))) (fun c w' h => ⟨rfl, .inr ⟨c, rfl, h⟩⟩) ?_
    rintro V20 H21
    refine ps_end <| sy_a ⟨#[pT g 0, V.v, ud, ud, .int .i64 x0, pT g 0, V.v, .tuple #[], pT g 0, pT g 0, pT g 11, .int .i64 x0, V.v, pT g 0, pT g 0, pT g 11, .func (.method "distraint/message.num") #[V.v] #[], .func (.method "distraint/message.num") #[V.v] #[], V.v, .tuple #[], pT g 0, pT g 0, pT g 11, .int .i64 x, .bool false, ud, ud, ud, ud, .int .i64 x0, .bool false, ud, ud, ud, ud, ud, ud, ud, ud, ud, ud, V.v, pT g 0, pT g 0, pT g 12, .tuple #[], ud, ud, ud, ud, ud], []⟩ <| tr_ [0, 1, 2, 3, 4] <| pkq (V.v) <| pkq (pT g 0) <| pkq (pT g 0) <| pkq (pT g 48) <| ps_P (qo15_5 127 4) 146 #[V.v, .pointer (some ⟨g, 48, none⟩)] _ _ (run_callF (qo15_5 127 4) 146 #[V.v, .pointer (some ⟨g, 48, none⟩)] (by kernel_rfl) rfl (by kernel_rfl) (enters_of Tryz.func146 (by kernel_rfl) rfl)) (mvote_ok V hV g 48 K E _ (Run.keepsN H21 (Keeps.refl Nob V20))) (fun c w' h => ⟨rfl, .inr ⟨c, rfl, h⟩⟩) ?_
    rintro V22 H23
    refine ps_end <| sy_fall (.tuple #[]) rfl (by kernel_rfl) ?_
    exact .inl ⟨rfl, H23⟩
end Go.Proofs.YtcbfnflnokoacaaGreat
namespace Go.Own
set_option maxRecDepth 100000
set_option maxHeartbeats 4000000
open Go Go.RowKit
/-- A step of an object with the blocks F; behind it has the blocks F'. -/
def Step (w w' : World) (F F' : Nat → Prop) : Prop := Keeps F w w' ∧ ∀ j, F' j → F j ∨ (w.heap.size ≤ j ∧ j < w'.heap.size)
def Dis (F G : Nat → Prop) : Prop := ∀ j, F j → ¬ G j
def Lt (F : Nat → Prop) (w : World) : Prop := ∀ j, F j → j < w.heap.size
def Ge (F : Nat → Prop) (w : World) : Prop := ∀ j, F j → w.heap.size ≤ j
section
variable {w0 w w' w'' : World} {F F' F'' G M : Nat → Prop}
theorem Dis.symm (h : Dis F G) : Dis G F := fun j hg hf => h j hf hg
theorem Lt.mono (h : Lt F w) (k : w.heap.size ≤ w'.heap.size) : Lt F w' := fun j hj => Nat.lt_of_lt_of_le (h j hj) k
theorem Lt.keeps (h : Lt F w) (k : Keeps M w w') : Lt F w' := h.mono k.size
theorem Ge.keeps (h : Ge F w') (k : Keeps M w w') : Ge F w := fun j hj => Nat.le_trans k.size (h j hj)
theorem Step.refl (w : World) (F : Nat → Prop) : Step w w F F := ⟨Keeps.refl _ _, fun _ h => .inl h⟩
theorem Step.trans (h : Step w w' F F') (k : Step w' w'' F' F'') : Step w w'' F F'' :=
  ⟨h.1.then k.1 (fun i hi hm => (h.2 i hm).elim id (fun x => absurd x.1 (by omega))), fun j hj => by
    rcases k.2 j hj with h1 | ⟨h1, h2⟩
    · rcases h.2 j h1 with h3 | ⟨h3, h4⟩
      · exact .inl h3
      · exact .inr ⟨h3, Nat.lt_of_lt_of_le h4 k.1.size⟩
    · exact .inr ⟨Nat.le_trans h.1.size h1, h2⟩⟩
theorem Step.size (h : Step w w' F F') : w.heap.size ≤ w'.heap.size := h.1.size
theorem Step.ge (h : Step w w' F F') (g : Ge F w0) (k : w0.heap.size ≤ w.heap.size) : Ge F' w0 := fun j hj => by
  rcases h.2 j hj with h1 | ⟨h1, _⟩
  · exact g j h1
  · omega
/-- What was there at the start is as it was. -/
theorem Step.keeps (h : Step w w' F F') (k : Keeps Nob w0 w) (g : Ge F w0) : Keeps Nob w0 w' := k.then h.1 (fun i hi hm => by have := g i hm; omega)
theorem Step.lt (h : Step w w' F F') (l : Lt F w) : Lt F' w' := fun j hj => by
  rcases h.2 j hj with h1 | ⟨_, h1⟩
  · exact Nat.lt_of_lt_of_le (l j h1) h.1.size
  · exact h1
end
end Go.Own
namespace Go.Proofs.YtcbfnflnokoacaaGreat
set_option maxRecDepth 100000
set_option maxHeartbeats 4000000
open Go Go.RowKit Go.Own
theorem len_small (n m : Nat) (h : n + m ≤ 100000000) : n + m ≤ maxLen := by unfold maxLen; omega
theorem len_bytes (n m : Nat) (h : n + m ≤ 100000000) : (n + m) * 1 ≤ 140737488355328 := by omega
end Go.Proofs.YtcbfnflnokoacaaGreat
namespace Go.Own
set_option maxRecDepth 100000
set_option maxHeartbeats 4000000
open Go Go.RowKit
/-- Blocks outside M are as they were, but for blocks from B on that hold no cells (a loop's book-keeping). -/
structure Turn (B : Nat) (M : Nat → Prop) (W W' : World) : Prop where
  os : W'.os = W.os
  tape : W'.tape = W.tape
  output : W'.output = W.output
  size : W.heap.size ≤ W'.heap.size
  same : ∀ (k : Nat) (o : Obj), W.heap[k]? = some o → ¬ M k → (k < B ∨ o.isCells = true) → W'.heap[k]? = some o
theorem Keeps.turn {M : Nat → Prop} {W W' : World} (h : Keeps M W W') (B : Nat) : Turn B M W W' :=
  ⟨h.os, h.tape, h.output, h.size, fun k o hk hm _ => (h.block k (Array.getElem?_eq_some_iff.1 hk).1 hm).trans hk⟩
theorem Turn.put {B : Nat} {M : Nat → Prop} (W : World) (l : Nat) (o o' : Obj) (hl : B ≤ l) (h : W.heap[l]? = some o) (ho : o.isCells = false) : Turn B M W (W.putObj l o') :=
  ⟨rfl, rfl, rfl, (grownBy_putObj' W l o').size, fun k p hk _ hp => by
    refine (World.putObj_heap_other (fun e => ?_)).trans hk
    subst e
    rw [h] at hk; cases hk
    rcases hp with hp | hp
    · omega
    · rw [ho] at hp; cases hp⟩
theorem Turn.cell {B : Nat} {M : Nat → Prop} {W W' : World} (h : Turn B M W W') {k i : Nat} {v : Value} (hc : W.cell? ⟨k, i, none⟩ = some v) (hm : ¬ M k) : W'.cell? ⟨k, i, none⟩ = some v := by
  obtain ⟨o, ho, hcells⟩ := cells_of_cell hc
  exact (World.cell?_of_block (w := W) ((h.same _ o ho hm (.inr hcells)).trans ho.symm)).trans hc
theorem Turn.frozen {B : Nat} {M : Nat → Prop} {W W' : World} (h : Turn B M W W') {k i : Nat} {v : Value} (hc : W.cell? ⟨k, i, none⟩ = some v) (hm : ¬ M k) : W'.frozen? ⟨k, i, none⟩ = W.frozen? ⟨k, i, none⟩ := by
  obtain ⟨o, ho, hcells⟩ := cells_of_cell hc
  exact World.frozen?_of_block (w := W) ((h.same _ o ho hm (.inr hcells)).trans ho.symm)
theorem Turn.keeps {B : Nat} {M : Nat → Prop} {W0 W W' : World} (h : Turn B M W W') (k : Keeps M W0 W) (hB : W0.heap.size ≤ B) : Keeps M W0 W' :=
  ⟨h.os.trans k.os, h.tape.trans k.tape, h.output.trans k.output, Nat.le_trans k.size h.size, fun i hi hm => by
    have h1 := k.block i hi hm
    cases ho : W0.heap[i]? with
    | none => have := Array.getElem?_eq_none_iff.1 ho; omega
    | some o => exact h.same i o (h1.trans ho) hm (.inl (by omega))⟩
theorem Turn.weak {B : Nat} {M M' : Nat → Prop} {W W' : World} (h : Turn B M W W') (hm : ∀ k, M k → M' k) : Turn B M' W W' := ⟨h.os, h.tape, h.output, h.size, fun k o hk hn => h.same k o hk (fun x => hn (hm k x))⟩
theorem Turn.keepsN {B : Nat} {M : Nat → Prop} {W0 W W' : World} (h : Turn B Nob W W') (k : Keeps M W0 W) (hB : W0.heap.size ≤ B) : Keeps M W0 W' := (h.weak (M' := M) (fun _ x => x.elim)).keeps k hB
theorem Keeps.from {M : Nat → Prop} {W W' : World} (h : Keeps M W W') {B : Nat} (hm : ∀ k, M k → k < B) : KeepsFrom B W W' :=
  ⟨h.size, fun k o hB hk _ => (h.block k (Array.getElem?_eq_some_iff.1 hk).1 (fun x => by have := hm k x; omega)).trans hk⟩
/-- The contract of an iterator's value: at each round k the element xs[k] is handed on; the iterator's own state ahead of round k: 'S k'; the blocks of it that it turns: 'Mi'. -/
def SeqOwn {α : Type} (F : Fence) (n : Nat) (P : Program) (g : Nat) (lb : Array Value) (encs : α → Array Value) (xs : List α) (Mi : Nat → Prop) (S : Nat → World → Prop) : Prop :=
  ∀ (l : Nat) (J : Nat → World → Prop) (Jx : World → Prop) (W : World),
    (∀ k A B, J k A → Keeps Mi A B → J k B) → (∀ A B, Jx A → Keeps Mi A B → Jx B) →
    (∀ k x W1, xs[k]? = some x → J k W1 → S k W1 → YieldAt F (n - 1) P l (encs x) W1 fun e W' =>
      (e = .returned (.bool true) ∧ J (k + 1) W' ∧ S k W') ∨ (e = .returned (.bool false) ∧ Jx W')) →
    J 0 W → S 0 W →
    CallsIn F n P g (#[.func (.yield l) #[] #[]] ++ lb) W fun e W' => (∃ v, e = .returned v) ∧ (J xs.length W' ∨ Jx W')
/-- The same, where the caller may know (E) that it leaves before the last element's round is over: an iterator without an end. -/
def SeqOwnG {α : Type} (E : Prop) (F : Fence) (n : Nat) (P : Program) (g : Nat) (lb : Array Value) (encs : α → Array Value) (xs : List α) (Mi : Nat → Prop) (S : Nat → World → Prop) : Prop :=
  ∀ (l : Nat) (J : Nat → World → Prop) (Jx : World → Prop) (W : World),
    (∀ k A B, J k A → Keeps Mi A B → J k B) → (∀ A B, Jx A → Keeps Mi A B → Jx B) →
    (∀ k x W1, xs[k]? = some x → J k W1 → S k W1 → YieldAt F (n - 1) P l (encs x) W1 fun e W' =>
      (e = .returned (.bool true) ∧ J (k + 1) W' ∧ S k W') ∨ (e = .returned (.bool false) ∧ Jx W')) → (E → ∀ W, ¬ J xs.length W) →
    J 0 W → S 0 W →
    CallsIn F n P g (#[.func (.yield l) #[] #[]] ++ lb) W fun e W' => (∃ v, e = .returned v) ∧ (J xs.length W' ∨ Jx W')
/-- How the body of a round may be left. -/
def rangeEnd (B : Nat) (In : World → Prop) (Ix : Code → World → Prop) (W : World) : Exit → Act → World → Prop
  | .normal, _, W' => KeepsFrom B W W' ∧ In W'
  | .ret, _, W' => KeepsFrom B W W' ∧ Ix .ret W'
  | .exit id, _, W' => KeepsFrom B W W' ∧ Ix (.exit id) W'
  | .goto t, _, W' => KeepsFrom B W W' ∧ Ix (.goto t) W'
  | .panic _, _, _ => False
  | .outgrown, _, _ => False
variable {F : Fence} {n : Nat} {P : Program}
theorem own_rangeG {α : Type} (E : Prop) {g : Operand} {ps : Array Tmp} {assign body : Code} {Q : Exit → Act → World → Prop} {a : Act} {w : World}
    (hro : F.round = none) (h1 : 1 ≤ n) {gf : Nat} {lb : Array Value} (hg : a.eval g = .func (.func gf) #[] lb) (hFg : F.fn gf) (eg : ∀ args w, (callFunc gf args).run P w = .ok (.enter gf args) w)
    {encs : α → Array Value} (hps : ∀ x, (encs x).size = ps.size) {xs : List α} {Mi : Nat → Prop} {S : Nat → World → Prop} (hMi : ∀ j, Mi j → j < w.heap.size)
    (hseq : SeqOwnG E F (n - 1) P gf lb encs xs Mi S) (hS : ∀ k A B, S k A → Turn w.heap.size Nob A B → S k B) (hS0 : S 0 w)
    (I : Nat → World → Prop) (Ix : Code → World → Prop) (hI : ∀ k A B, I k A → Turn w.heap.size Mi A B → I k B) (hIx : ∀ c A B, Ix c A → Turn w.heap.size Mi A B → Ix c B) (h0 : I 0 w) (hE : E → ∀ W, ¬ I xs.length W)
    (Ax : Nat → α → Act → World → Prop) (hAx : ∀ k x a' A B, Ax k x a' A → Turn w.heap.size Nob A B → Ax k x a' B)
    (hassign : ∀ (l k : Nat) (x : α) (W : World) (K : Act → World → Prop), xs[k]? = some x → I k W → S k W → (∀ a' W', KeepsFrom w.heap.size W W' → I k W' → S k W' → Ax k x a' W' → K a' W') →
      assign.wpIn (F.inRound l) (n - 1 - 1) P (Exit.then K (fun _ _ _ => False)) { tmps := (ps.zip (encs x)).foldl (fun t (p, v) => t.setIfInBounds p v) a.tmps, defers := [] } W)
    (hbody : ∀ (l k : Nat) (x : α) (a' : Act) (W : World), w.heap.size ≤ l → (∃ r, W.heap[l]? = some (.loop r)) → xs[k]? = some x → I k W → S k W → Ax k x a' W →
      body.wpIn (F.inRound l) (n - 1 - 1) P (rangeEnd w.heap.size (fun W' => I (k + 1) W' ∧ S k W') Ix W) a' W)
    (hdone : ∀ (D : Nat) (W : World), w.heap.size ≤ D → I xs.length W → W.heap[D]? = some (.deferred (some [])) → Q .normal { a with defers := { target := .collected D, args := #[] } :: a.defers } W)
    (hstop : ∀ (D : Nat) (c : Code) (W : World), w.heap.size ≤ D → Ix c W → W.heap[D]? = some (.deferred (some [])) → c.wpIn F n P Q { a with defers := { target := .collected D, args := #[] } :: a.defers } W) :
    (Code.rangeFunc g ps assign body).wpIn F n P Q a w := by
  refine wpIn_rangeFunc ?_
  intro fn hfn
  rw [hro]
  obtain ⟨rec, hrec⟩ : ∃ rec : LoopState → Option Code → Loop, rec = fun st pe => { state := st, pending := pe, fn, tmps := a.tmps, params := ps, assign, body, defers := w.heap.size } := ⟨_, rfl⟩
  obtain ⟨W1, hW1⟩ : ∃ W1, (w.alloc (.deferred (some []))).alloc (.loop (rec .ready none)) = W1 := ⟨_, rfl⟩
  have hL1 : W1.heap[w.heap.size + 1]? = some (.loop (rec .ready none)) := by
    rw [← hW1]; have := World.alloc_heap_new (w.alloc (.deferred (some []))) (.loop (rec .ready none)); rwa [World.size_alloc] at this
  have hK1 : W1.heap[w.heap.size]? = some (.deferred (some [])) := by
    rw [← hW1]; exact (Below.heap_alloc _ _ _ (by simp)).trans (World.alloc_heap_new w _)
  have hT1 : ∀ M, Turn w.heap.size M w W1 := fun M => by rw [← hW1]; exact (((Keeps.refl M w).alloc _).alloc _).turn _
  have hI1 : I 0 W1 := hI _ _ _ h0 (hT1 _)
  have hS1 : S 0 W1 := hS _ _ _ hS0 (hT1 _)
  refine ⟨w.heap.size + 1, [{ target := .collected w.heap.size, args := #[] }], W1, { target := .fn (.func gf) lb, args := #[.func (.yield (w.heap.size + 1)) #[] #[]] }, W1, gf,
    #[.func (.yield (w.heap.size + 1)) #[] #[]] ++ lb, W1, ?_, ?_, ?_, ?_, fun _ => h1, ?_⟩
  · rw [← hW1, hrec]; exact run_enterLoop_outer _ _ _ _ _
  · simp only [resolve, hg]
    simp [go_sem]
  · intro f' hf'; simp [Target.leads] at hf'; subst hf'; exact hFg
  · simp [invoke, go_sem, eg]
  · have hkeep : ∀ {A B : World} {k : Nat} {o : Obj}, w.heap.size ≤ k → Keeps Mi A B → A.heap[k]? = some o → B.heap[k]? = some o := fun hk hAB ho =>
      (hAB.block _ (Array.getElem?_eq_some_iff.1 ho).1 (fun hm => by have := hMi _ hm; omega)).trans ho
    refine (hseq (w.heap.size + 1)
      (fun k W => I k W ∧ W.heap[w.heap.size + 1]? = some (.loop (rec .ready none)) ∧ W.heap[w.heap.size]? = some (.deferred (some [])))
      (fun W => ∃ c, Ix c W ∧ W.heap[w.heap.size + 1]? = some (.loop (rec .done (some c))) ∧ W.heap[w.heap.size]? = some (.deferred (some [])))
      W1
      (fun k A B hs hAB => ⟨hI k A B hs.1 (hAB.turn _), hkeep (by omega) hAB hs.2.1, hkeep (by omega) hAB hs.2.2⟩)
      (fun A B hs hAB => by
        obtain ⟨c, hc, hl, hk⟩ := hs
        exact ⟨c, hIx c A B hc (hAB.turn _), hkeep (by omega) hAB hl, hkeep (by omega) hAB hk⟩)
      ?_ (fun e W h => hE e W h.1) ⟨hI1, hL1, hK1⟩ hS1).mono ?_
    · -- one round
      rintro k x W hx ⟨hi, hl, hk⟩ hs
      have hlt : w.heap.size + 1 < W.heap.size := (Array.getElem?_eq_some_iff.1 hl).1
      have hy := run_yield (P := P) (args := encs x) hl (by rw [hrec]; exact hps x)
      rw [hrec] at hy
      refine ⟨fn, _, assign, body, hy, roundIn_of_wpIn hfn (hassign _ k x W _ hx hi hs ?_)⟩
      clear hy
      intro a' Wa hkfa hia hsa hax
      replace hl := hkfa.same _ _ (by omega) hl rfl
      replace hk := hkfa.same _ _ (Nat.le_refl _) hk rfl
      replace hlt : w.heap.size + 1 < Wa.heap.size := (Array.getElem?_eq_some_iff.1 hl).1
      replace hi := hia
      replace hs := hsa
      clear hia hsa
      clear hkfa
      obtain ⟨W, rfl⟩ : ∃ W, W = Wa := ⟨_, rfl⟩
      refine ⟨_, run_beginRound hl (by rw [hrec]), ?_⟩
      have hl2 : (W.putObj (w.heap.size + 1) (.loop { rec .ready none with state := .busy })).heap[w.heap.size + 1]? = some (.loop { rec .ready none with state := .busy }) := World.putObj_heap_same hlt
      have hk2 : (W.putObj (w.heap.size + 1) (.loop { rec .ready none with state := .busy })).heap[w.heap.size]? = some (.deferred (some [])) := (World.putObj_heap_other (by omega)).trans hk
      have ht2 : ∀ M, Turn w.heap.size M W (W.putObj (w.heap.size + 1) (.loop { rec .ready none with state := .busy })) := fun M => Turn.put _ _ _ _ (by omega) hl rfl
      refine wpIn_mono (hbody _ k x a' _ (by omega) ⟨_, hl2⟩ hx (hI _ _ _ hi (ht2 _)) (hS _ _ _ hs (ht2 _)) (hAx _ _ _ _ _ hax (ht2 _))) ?_
      have fin : ∀ (jump : Option Code) (W3 : World), KeepsFrom w.heap.size (W.putObj (w.heap.size + 1) (.loop { rec .ready none with state := .busy })) W3 →
          (Instr.endRound (w.heap.size + 1) jump).run P W3 = .ok (.bool jump.isNone) (W3.putObj (w.heap.size + 1) (.loop (rec (if jump.isNone then .ready else .done) jump))) ∧
          W3.heap[w.heap.size + 1]? = some (.loop { rec .ready none with state := .busy }) ∧
          (W3.putObj (w.heap.size + 1) (.loop (rec (if jump.isNone then .ready else .done) jump))).heap[w.heap.size + 1]? = some (.loop (rec (if jump.isNone then .ready else .done) jump)) ∧
          (W3.putObj (w.heap.size + 1) (.loop (rec (if jump.isNone then .ready else .done) jump))).heap[w.heap.size]? = some (.deferred (some [])) := fun jump W3 hk3 => by
        have hl3 := hk3.same _ _ (by omega) hl2 rfl
        have := run_endRound (P := P) jump hl3
        rw [hrec] at this ⊢
        exact ⟨this, by rw [hrec] at hl3; exact hl3, World.putObj_heap_same (Array.getElem?_eq_some_iff.1 hl3).1, (World.putObj_heap_other (by omega)).trans (hk3.same _ _ (Nat.le_refl _) hk2 rfl)⟩
      rintro e a3 W3 hp
      cases e with
      | normal =>
        obtain ⟨hk3, hi3, hs3⟩ := hp
        obtain ⟨hr, hl3, hl4, hk4⟩ := fin none W3 hk3
        exact ⟨_, _, hr, .inl ⟨rfl, ⟨hI _ _ _ hi3 (Turn.put _ _ _ _ (by omega) hl3 rfl), hl4, hk4⟩, hS _ _ _ hs3 (Turn.put _ _ _ _ (by omega) hl3 rfl)⟩⟩
      | ret =>
        obtain ⟨hk3, hi3⟩ := hp
        obtain ⟨hr, hl3, hl4, hk4⟩ := fin (some .ret) W3 hk3
        exact ⟨_, _, hr, .inr ⟨rfl, .ret, hIx _ _ _ hi3 (Turn.put _ _ _ _ (by omega) hl3 rfl), hl4, hk4⟩⟩
      | exit id =>
        obtain ⟨hk3, hi3⟩ := hp
        obtain ⟨hr, hl3, hl4, hk4⟩ := fin (some (.exit id)) W3 hk3
        exact ⟨_, _, hr, .inr ⟨rfl, .exit id, hIx _ _ _ hi3 (Turn.put _ _ _ _ (by omega) hl3 rfl), hl4, hk4⟩⟩
      | goto t =>
        obtain ⟨hk3, hi3⟩ := hp
        obtain ⟨hr, hl3, hl4, hk4⟩ := fin (some (.goto t)) W3 hk3
        exact ⟨_, _, hr, .inr ⟨rfl, .goto t, hIx _ _ _ hi3 (Turn.put _ _ _ _ (by omega) hl3 rfl), hl4, hk4⟩⟩
      | panic ch => exact hp.elim
      | outgrown => exact hp.elim
    · -- behind the iterator
      rintro e W2 ⟨⟨v, rfl⟩, (⟨hi, hl, hk⟩ | ⟨c, hi, hl, hk⟩)⟩
      · exact ⟨none, _, by have := run_endLoop (P := P) hl (by rw [hrec]; simp); rw [hrec] at this; exact this, hdone _ _ (Nat.le_refl _) (hI _ _ _ hi (Turn.put _ _ _ _ (by omega) hl rfl)) ((World.putObj_heap_other (by omega)).trans hk)⟩
      · exact ⟨some c, _, by have := run_endLoop (P := P) hl (by rw [hrec]; simp); rw [hrec] at this; exact this, hstop _ c _ (Nat.le_refl _) (hIx _ _ _ hi (Turn.put _ _ _ _ (by omega) hl rfl)) ((World.putObj_heap_other (by omega)).trans hk)⟩
theorem own_range {α : Type} {g : Operand} {ps : Array Tmp} {assign body : Code} {Q : Exit → Act → World → Prop} {a : Act} {w : World}
    (hro : F.round = none) (h1 : 1 ≤ n) {gf : Nat} {lb : Array Value} (hg : a.eval g = .func (.func gf) #[] lb) (hFg : F.fn gf) (eg : ∀ args w, (callFunc gf args).run P w = .ok (.enter gf args) w)
    {encs : α → Array Value} (hps : ∀ x, (encs x).size = ps.size) {xs : List α} {Mi : Nat → Prop} {S : Nat → World → Prop} (hMi : ∀ j, Mi j → j < w.heap.size)
    (hseq : SeqOwn F (n - 1) P gf lb encs xs Mi S) (hS : ∀ k A B, S k A → Turn w.heap.size Nob A B → S k B) (hS0 : S 0 w)
    (I : Nat → World → Prop) (Ix : Code → World → Prop) (hI : ∀ k A B, I k A → Turn w.heap.size Mi A B → I k B) (hIx : ∀ c A B, Ix c A → Turn w.heap.size Mi A B → Ix c B) (h0 : I 0 w)
    (Ax : Nat → α → Act → World → Prop) (hAx : ∀ k x a' A B, Ax k x a' A → Turn w.heap.size Nob A B → Ax k x a' B)
    (hassign : ∀ (l k : Nat) (x : α) (W : World) (K : Act → World → Prop), xs[k]? = some x → I k W → S k W → (∀ a' W', KeepsFrom w.heap.size W W' → I k W' → S k W' → Ax k x a' W' → K a' W') →
      assign.wpIn (F.inRound l) (n - 1 - 1) P (Exit.then K (fun _ _ _ => False)) { tmps := (ps.zip (encs x)).foldl (fun t (p, v) => t.setIfInBounds p v) a.tmps, defers := [] } W)
    (hbody : ∀ (l k : Nat) (x : α) (a' : Act) (W : World), w.heap.size ≤ l → (∃ r, W.heap[l]? = some (.loop r)) → xs[k]? = some x → I k W → S k W → Ax k x a' W →
      body.wpIn (F.inRound l) (n - 1 - 1) P (rangeEnd w.heap.size (fun W' => I (k + 1) W' ∧ S k W') Ix W) a' W)
    (hdone : ∀ (D : Nat) (W : World), w.heap.size ≤ D → I xs.length W → W.heap[D]? = some (.deferred (some [])) → Q .normal { a with defers := { target := .collected D, args := #[] } :: a.defers } W)
    (hstop : ∀ (D : Nat) (c : Code) (W : World), w.heap.size ≤ D → Ix c W → W.heap[D]? = some (.deferred (some [])) → c.wpIn F n P Q { a with defers := { target := .collected D, args := #[] } :: a.defers } W) :
    (Code.rangeFunc g ps assign body).wpIn F n P Q a w :=
  own_rangeG False hro h1 hg hFg eg hps hMi (fun l J Jx W a b c _ => hseq l J Jx W a b c) hS hS0 I Ix hI hIx h0 (fun h => h.elim) Ax hAx hassign hbody hdone hstop
end Go.Own
