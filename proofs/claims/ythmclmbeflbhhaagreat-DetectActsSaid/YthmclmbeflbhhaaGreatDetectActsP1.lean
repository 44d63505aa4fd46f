import Derived.WalkKit
import Derived.OrdersHeld
import Derived.Deep.RegionHeld
import Derived.Laws.Rows
import Derived.Laws.Tables
import Derived.WalkSpells
import Derived.WalkLawsBesides
import Derived.Deep.QuietTactic
import Derived.BigQuiet
import Derived.BigRegion
import Derived.Maps.AppendAt
import Derived.OwnWalkIn
import Derived.Laws.BytesArg
import Derived.Laws.OwnMore
import Derived.Laws.CopyRow
import Derived.Laws.Slices
import Derived.Deep.MidRow
import Derived.StillTail
import Derived.Deep.RegionHeld3
import Derived.Shelf.Abstract
import Derived.IntWalk
import Derived.LoopN
import Derived.RangeFuncNested
import Derived.RangeFuncBound
import Derived.RangeFuncCalls
import Derived.RangeFuncLeaves
import Derived.Shelf.RegionOpen
import Derived.TacticsInMore
import Derived.LoopNIn
import Derived.LoopIn
import Derived.Lib.SlBytesConst
import Derived.Laws.Concat
import Derived.Laws.Strings
import Derived.Test.YthmclmbeflbhhaaGreatRows
import Derived.Lib.SliceRun
import Derived.Laws.MakeOwn
import Derived.Great.BuildSlice
import Derived.Defers
import Derived.Lib.Hide
import Derived.Laws.BitsAllLaws
import Derived.ChangeKeysEq
import Derived.Laws.StructEq
import Derived.ProofKit
import Derived.OpenShut
import Derived.ShutString
import Derived.Carry
import Derived.Deep.Slices
import Derived.Deep.Fields
import Derived.RangeFuncRecord
import Derived.Deep.WholeRow
import Derived.Deep.LoopGhost
import Derived.Laws.EntriesVeiled
import Derived.Lib.AppendZerosOnto
import Derived.Sort.LoopGhostIn
import Derived.OneCell
import Derived.Great.FillDense
import Derived.Deep.Upon
set_option maxRecDepth 100000
set_option maxHeartbeats 4000000
noncomputable section
open Go.Proofs.Tryz
namespace Go.Own
section
open Go Go.RowKit
def pureV (P : Program) (ρ : Operand → Value) (o : Oper) : Option Value :=
  match o.op with
  | .move x => some (ρ x)
  | .assign x => some (ρ x)
  | .nilCheck x => match ρ x with | .pointer (some p) => some (.pointer (some p)) | _ => none
  | .fieldAddr s x f => match P.underlying s, ρ x with
    | some (.struct fields), .pointer (some a) => match fields[f]? with
      | some fd => match P.info? fd.type with
        | some i => if i.size = 0 then none else some (.pointer (some (a.add fd.offset)))
        | none => none
      | none => none
    | _, _ => none
  | _ => none
theorem pureV_run {P : Program} {ρ : Operand → Value} {o : Oper} {v : Value} (h : pureV P ρ o = some v) (w : World) : (execOp ρ o).run P w = .ok (.value v) w := by
  unfold pureV at h
  unfold execOp
  split at h
  · rename_i x ho; simp only [ho]; cases h; rfl
  · rename_i x ho; simp only [ho]; cases h; rfl
  · rename_i x ho
    simp only [ho]
    split at h
    · rename_i p hp; cases h; simp only [hp]; rfl
    · cases h
  · rename_i s x f ho
    simp only [ho]
    split at h
    · rename_i fields a hs hx
      split at h
      · rename_i fd hfd
        split at h
        · rename_i i hi
          split at h
          · cases h
          · rename_i hne
            cases h
            simp [Instr.fieldAt, hx, run_underlying hs, hfd, Instr.sureAddr, fieldPlace, sizeOf, typeInfo, hi, hne, go_sem]
        · cases h
      · cases h
    · cases h
  · cases h
def pureRun (P : Program) (md : Region.Mode) (ops : Array Oper) : List Nat → Array Bool → Act → Option (Array Bool × Act)
  | [], l, a => some (l, a)
  | i :: r, l, a => match ops[i]? with
    | none => none
    | some o => if o.guard = none ∧ Region.free md ops l i = true ∧ (Region.ready md ops l).contains i = true then
        match pureV P a.eval o with
        | some v => pureRun P md ops r (l.setIfInBounds i true) (a.put o.dst v)
        | none => none
      else none
theorem put_defers (a : Act) (d : Option Tmp) (v : Value) : (a.put d v).defers = a.defers := by cases d <;> rfl
section
variable {P : Program} {ops : Array Oper} {Q : Exit → Act → World → Prop} {md : Region.Mode}
theorem wpAny_pure (hs : Region.noSelect ops = true) (hQ : ∀ c (a a' : Act) w, a'.defers = a.defers → Q (.panic c) a' w → Q (.panic c) a w) :
    ∀ (is : List Nat) (l l' : Array Bool) (a a' : Act) (w : World) (fuel : Nat), pureRun P md ops is l a = some (l', a') → wpAny P md ops Q fuel l' a' w → wpAny P md ops Q (fuel + is.length) l a w := by
  intro is
  induction is with
  | nil => intro l l' a a' w fuel h hw; simp only [pureRun, Option.some.injEq, Prod.mk.injEq] at h; obtain ⟨rfl, rfl⟩ := h; exact hw
  | cons i r ih =>
    intro l l' a a' w fuel h hw
    rw [pureRun] at h
    split at h
    · cases h
    · rename_i o ho
      split at h
      · rename_i hc
        obtain ⟨hg, hf, hr⟩ := hc
        split at h
        · rename_i v hv
          have h2 := ih _ _ _ _ w fuel h hw
          refine wpAny_take (i := i) (oi := o) (v := v) (fuel := fuel + r.length) ho hs hf hr (fun c a w hp => hQ c a _ w (put_defers _ _ _) hp) (.inl ⟨by simp [Region.wanted, hg], fun w => pureV_run hv w⟩) h2
        · cases h
      · cases h
theorem wpAny_call {i : Nat} {o : Oper} {f : FuncId} {aas : Array Operand} {ts : Array TypeId} {args : Array Value} {fuel : Nat} {l : Array Bool} {a : Act} {w : World} (hr : Region.ready md ops l = [i]) (ho : ops[i]? = some o) (hg : o.guard = none)
    (hc : o.op = .call { callee := .value (.func f), args := aas, argTypes := ts }) (hargs : aas.map a.eval = args) (he : ∀ args w, (callFunc f args).run P w = .ok (.enter f args) w)
    (h : Calls P f args w fun e w' => ∃ v, e = .returned v ∧ wpAny P md ops Q fuel (l.setIfInBounds i true) (a.put o.dst v) w') : wpAny P md ops Q (fuel + 1) l a w := by
  refine wpAny_all hr (by simp) fun j hj => ?_
  obtain rfl : j = i := by simpa using hj
  unfold wpOp
  simp only [ho, Region.wanted, hg, if_true]
  refine .inl ?_
  unfold Oper.wp execOp
  simp only [hc, resolve, hargs, Act.eval, Sem.run_bind, Deferred.ofValue, Sem.run_pure, Result.andThen_ok, invoke, Array.append_empty, Array.empty_append, he]
  refine Calls.mono h fun e w' ⟨v, he, hv⟩ => ?_
  subst he
  exact hv
def callArgs (o : Oper) : Array Operand := match o.op with | .call c => c.args | _ => #[]
def callTypes (o : Oper) : Array TypeId := match o.op with | .call c => c.argTypes | _ => #[]
theorem wpAny_call' {i : Nat} (o : Oper) (f : FuncId) (args : Array Value) {fuel : Nat} {l : Array Bool} {a : Act} {w : World} (hr : Region.ready md ops l = [i]) (ho : ops[i]? = some o) (hg : o.guard.isNone = true)
    (hc : o.op = .call { callee := .value (.func f), args := callArgs o, argTypes := callTypes o }) (hargs : (callArgs o).map a.eval = args) (he : ∀ args w, (callFunc f args).run P w = .ok (.enter f args) w)
    (h : Calls P f args w fun e w' => ∃ v, e = .returned v ∧ wpAny P md ops Q fuel (l.setIfInBounds i true) (a.put o.dst v) w') : wpAny P md ops Q (fuel + 1) l a w :=
  wpAny_call hr ho (by simpa using hg) hc hargs he h
theorem wpAny_run {i : Nat} (o : Oper) (v : Value) {fuel : Nat} {l : Array Bool} {a : Act} {w w' : World} (hr : Region.ready md ops l = [i]) (ho : ops[i]? = some o) (hg : o.guard.isNone = true)
    (hrun : (execOp a.eval o).run P w = .ok (.value v) w') (h : wpAny P md ops Q fuel (l.setIfInBounds i true) (a.put o.dst v) w') : wpAny P md ops Q (fuel + 1) l a w := by
  refine wpAny_all hr (by simp) fun j hj => ?_
  obtain rfl : j = i := by simpa using hj
  unfold wpOp
  have hg' : o.guard = none := by simpa using hg
  simp only [ho, Region.wanted, hg', if_true]
  refine .inl ?_
  unfold Oper.wp
  rw [hrun]
  exact h
theorem wpAny_pure' (hs : Region.noSelect ops = true) (hQ : ∀ c (a a' : Act) w, a'.defers = a.defers → Q (.panic c) a' w → Q (.panic c) a w)
    (is : List Nat) (l l' : Array Bool) (a a' : Act) (w : World) (fuel n : Nat) (hn : fuel + is.length = n) (h : pureRun P md ops is l a = some (l', a')) (hw : wpAny P md ops Q fuel l' a' w) : wpAny P md ops Q n l a w := by
  subst hn; exact wpAny_pure hs hQ is l l' a a' w fuel h hw
theorem region_named {id : Nat} {R : Array Oper} {b : Bool} {a : Act} {w : World} (h : ops = R) (hw : (Code.region id R b).wp P Q a w) : (Code.region id ops b).wp P Q a w := h ▸ hw
theorem wp_region_fuel {id : Nat} {a : Act} {w : World} (n : Nat) (l : Array Bool) (hm : P.follows .mixedOrders = true) (hn : ops.size = n) (hl : Array.replicate n false = l) (h : wpAny P .any ops Q n l a w.drew) : (Code.region id ops true).wp P Q a w := by
  subst hn; subst hl; exact wp_region_any hm h
section
variable {S : World → Prop}
theorem wpAnyH_val {i : Nat} (o : Oper) (v : Value) {fuel : Nat} {l : Array Bool} {a : Act} {w : World} (hs : Region.noSelect ops = true) (hQ : ∀ c (a a' : Act) w, a'.defers = a.defers → Q (.panic c) a' w → Q (.panic c) a w)
    (ho : ops[i]? = some o) (hg : Region.wanted o (yielded ops a.tmps) = true) (hf : Region.free md ops l i = true) (hr : (Region.ready md ops l).contains i = true) (hrun : ∀ W, S W → (execOp a.eval o).run P W = .ok (.value v) W) (hS : S w)
    (h : wpAnyH P md ops Q S fuel (l.setIfInBounds i true) (a.put o.dst v) w) : wpAnyH P md ops Q S (fuel + 1) l a w := by
  exact wpAnyH_take ho hs hf hr (fun c a w hp => hQ c a _ w (put_defers _ _ _) hp) (.inl ⟨hg, hrun⟩) hS h
theorem wpAnyH_skip {i : Nat} (o : Oper) {fuel : Nat} {l : Array Bool} {a : Act} {w : World} (hs : Region.noSelect ops = true) (hQ : ∀ c (a a' : Act) w, a'.defers = a.defers → Q (.panic c) a' w → Q (.panic c) a w)
    (ho : ops[i]? = some o) (hg : Region.wanted o (yielded ops a.tmps) = false) (hf : Region.free md ops l i = true) (hr : (Region.ready md ops l).contains i = true) (hS : S w)
    (h : wpAnyH P md ops Q S fuel (l.setIfInBounds i true) (a.put o.dst undef) w) : wpAnyH P md ops Q S (fuel + 1) l a w :=
  wpAnyH_take ho hs hf hr (fun c a w hp => hQ c a _ w (put_defers _ _ _) hp) (.inr ⟨hg, rfl⟩) hS h
theorem wpAnyH_call {i : Nat} (o : Oper) (f : FuncId) (args : Array Value) {fuel : Nat} {l : Array Bool} {a : Act} {w : World} (hr : Region.ready md ops l = [i]) (ho : ops[i]? = some o) (hg : Region.wanted o (yielded ops a.tmps) = true)
    (hc : o.op = .call { callee := .value (.func f), args := callArgs o, argTypes := callTypes o }) (hargs : (callArgs o).map a.eval = args) (he : ∀ args w, (callFunc f args).run P w = .ok (.enter f args) w)
    (h : Calls P f args w fun e w' => ∃ v, e = .returned v ∧ S w' ∧ wpAnyH P md ops Q S fuel (l.setIfInBounds i true) (a.put o.dst v) w') : wpAnyH P md ops Q S (fuel + 1) l a w := by
  refine wpAnyH_all hr (by simp) fun j hj => ?_
  obtain rfl : j = i := by simpa using hj
  unfold wpOp
  simp only [ho, hg, if_true]
  refine .inl ?_
  unfold Oper.wp execOp
  simp only [hc, resolve, hargs, Act.eval, Sem.run_bind, Deferred.ofValue, Sem.run_pure, Result.andThen_ok, invoke, Array.append_empty, Array.empty_append, he]
  refine Calls.mono h fun e w' ⟨v, he, hv⟩ => ?_
  subst he
  exact hv
theorem wpAnyH_run {i : Nat} (o : Oper) (v : Value) {fuel : Nat} {l : Array Bool} {a : Act} {w w' : World} (hr : Region.ready md ops l = [i]) (ho : ops[i]? = some o) (hg : Region.wanted o (yielded ops a.tmps) = true)
    (hrun : (execOp a.eval o).run P w = .ok (.value v) w' ∨ ((execOp a.eval o).run P w = .ok .skip w' ∧ v = undef)) (hS : S w') (h : wpAnyH P md ops Q S fuel (l.setIfInBounds i true) (a.put o.dst v) w') : wpAnyH P md ops Q S (fuel + 1) l a w := by
  refine wpAnyH_all hr (by simp) fun j hj => ?_
  obtain rfl : j = i := by simpa using hj
  unfold wpOp
  simp only [ho, hg, if_true]
  refine .inl ?_
  unfold Oper.wp
  rcases hrun with hrun | ⟨hrun, rfl⟩ <;> rw [hrun] <;> exact ⟨hS, h⟩
theorem wp_regionH_fuel {id : Nat} {a : Act} {w : World} (S : World → Prop) (n : Nat) (l : Array Bool) (hm : P.follows .mixedOrders = true) (hn : ops.size = n) (hl : Array.replicate n false = l) (h : wpAnyH P .any ops Q S n l a w.drew) : (Code.region id ops true).wp P Q a w := by
  subst hn; subst hl; exact wp_region_held hm h
end
theorem exec_load_row {o : Oper} {ρ : Operand → Value} {w : World} (ty : TypeId) (x : Operand) (ho : o.op = .load ty x) (g : Nat) (hx : ρ x = .pointer (some ⟨g, 0, none⟩)) (t : TypeId) (cs : Array Value) (fr : Nat × Nat) (d : TypeDesc) (hg : w.heap[g]? = some (.cells cs t fr))
    (hu : P.underlying ty = some d) (hd : (match d with | .struct _ | .array _ _ => true | _ => false) = true) (hi : (P.info? ty).map (·.size) = some cs.size) :
    (execOp ρ o).run P w = .ok (.value (.agg cs)) w := by
  unfold execOp
  simp only [ho, hx, Instr.loadAt, Instr.sureAddr, Sem.run_bind, Sem.run_pure, Result.andThen_ok, run_loadVar_row w g t ty cs fr d hg hu hd hi]
theorem exec_store_row {o : Oper} {ρ : Operand → Value} {w : World} (ty : TypeId) (x y : Operand) (ho : o.op = .store ty x y) (g : Nat) (cells : Array Value) (hx : ρ x = .pointer (some ⟨g, 0, none⟩)) (hy : ρ y = .agg cells)
    (t : TypeId) (old : Array Value) (hg : w.heap[g]? = some (.cells old t (0, 0))) (hi : (P.info? ty).map (·.size) = some cells.size) (hold : old.size = cells.size) (h1 : cells.all (·.oneCell') = true) :
    (execOp ρ o).run P w = .ok .skip (w.setRow g cells) := by
  unfold execOp
  simp only [ho, hx, hy, Instr.storeAt, Instr.sureAddr, Sem.run_bind, Sem.run_pure, Result.andThen_ok, run_storeVar_row w g t ty old cells hg hi hold h1]
theorem exec_load_int {o : Oper} {ρ : Operand → Value} {w : World} (ty : TypeId) (x : Operand) (ho : o.op = .load ty x) (a : Addr) (hx : ρ x = .pointer (some a)) (k : IntKind) (v : Value) (hu : P.underlying ty = some (.int k)) (hc : w.cell? a = some v) :
    (execOp ρ o).run P w = .ok (.value v) w := by
  unfold execOp
  simp [ho, hx, Instr.loadAt, Instr.sureAddr, loadVar, isAgg, run_underlying hu, go_sem]
  simp [hc, Result.andThen]
theorem exec_max {o : Oper} {ρ : Operand → Value} {w : World} (x y : Operand) (ts : Array TypeId) (ho : o.op = .call { callee := .builtin .max, args := #[x, y], argTypes := ts }) (k : IntKind) (a b : Int) (hx : ρ x = .int k a) (hy : ρ y = .int k b) :
    (execOp ρ o).run P w = .ok (.value (.int k (max a b))) w := by
  unfold execOp
  simp [ho, hx, hy, resolve, invoke, builtin, Builtin.max_, Builtin.max2]
  rw [Int.max_def]
  split <;> split <;> omega
theorem exec_load_cell {o : Oper} {ρ : Operand → Value} {w : World} (ty : TypeId) (x : Operand) (ho : o.op = .load ty x) (a : Addr) (hx : ρ x = .pointer (some a)) (d : TypeDesc) (v : Value) (hu : P.underlying ty = some d)
    (hd : (match d with | .struct _ | .array _ _ => false | _ => true) = true) (hc : w.cell? a = some v) : (execOp ρ o).run P w = .ok (.value v) w := by
  unfold execOp
  cases d <;> simp at hd <;> (simp [ho, hx, Instr.loadAt, Instr.sureAddr, loadVar, isAgg, run_underlying hu, go_sem]; simp [hc, Result.andThen])
end
structure Keeps (M : Nat → Prop) (w w' : World) : Prop where
  os : w'.os = w.os
  tape : w'.tape = w.tape
  output : w'.output = w.output
  size : w.heap.size ≤ w'.heap.size
  block : ∀ k, k < w.heap.size → ¬ M k → w'.heap[k]? = w.heap[k]?
def Nob : Nat → Prop := fun _ => False
def One (b : Nat) : Nat → Prop := fun k => k = b
theorem Keeps.refl (M : Nat → Prop) (w : World) : Keeps M w w := ⟨rfl, rfl, rfl, Nat.le_refl _, fun _ _ _ => rfl⟩
theorem Keeps.trans {M : Nat → Prop} {a b c : World} (h : Keeps M a b) (k : Keeps M b c) : Keeps M a c :=
  ⟨k.os.trans h.os, k.tape.trans h.tape, k.output.trans h.output, Nat.le_trans h.size k.size,
    fun i hi hm => (k.block i (Nat.lt_of_lt_of_le hi h.size) hm).trans (h.block i hi hm)⟩
theorem Keeps.mono {M M' : Nat → Prop} {w w' : World} (h : Keeps M w w') (hm : ∀ k, k < w.heap.size → M k → M' k) : Keeps M' w w' :=
  ⟨h.os, h.tape, h.output, h.size, fun k hk hn => h.block k hk (fun x => hn (hm k hk x))⟩
theorem Keeps.drew {M : Nat → Prop} {a w : World} (h : Keeps M a w) : Keeps M a w.drew := ⟨h.os, h.tape, h.output, h.size, h.block⟩
theorem Keeps.drewN {M : Nat → Prop} {a w : World} (n : Nat) (h : Keeps M a w) : Keeps M a (w.drewN n) := ⟨h.os, h.tape, h.output, h.size, h.block⟩
theorem Keeps.alloc {M : Nat → Prop} {a w : World} (h : Keeps M a w) (o : Obj) : Keeps M a (w.alloc o) :=
  ⟨h.os, h.tape, h.output, by have := h.size; simp; omega, fun k hk hm => (Below.heap_alloc w o k (Nat.lt_of_lt_of_le hk h.size)).trans (h.block k hk hm)⟩
theorem Keeps.setCell {M : Nat → Prop} {a w : World} (h : Keeps M a w) {p : Addr} (hp : p.block < a.heap.size → M p.block) (u : Value) : Keeps M a (w.setCell p u) :=
  ⟨h.os, h.tape, h.output, by have := h.size; simp; omega, fun k hk hm => (Below.heap_setCell w p u k (fun e => hm (e ▸ hp (e ▸ hk)))).trans (h.block k hk hm)⟩
theorem Keeps.setOne {b i : Nat} {a w : World} (h : Keeps (One b) a w) (u : Value) : Keeps (One b) a (w.setCell ⟨b, i, none⟩ u) := h.setCell (p := ⟨b, i, none⟩) (fun _ => rfl) u
theorem Keeps.setCell_new {M : Nat → Prop} {a w : World} (h : Keeps M a w) {p : Addr} (hp : a.heap.size ≤ p.block) (u : Value) : Keeps M a (w.setCell p u) :=
  h.setCell (fun x => absurd x (by omega)) u
theorem Keeps.setRow {M : Nat → Prop} {a w : World} (h : Keeps M a w) {g : Nat} (hg : g < a.heap.size → M g) (cs : Array Value) : Keeps M a (w.setRow g cs) :=
  ⟨h.os, h.tape, h.output, by have := h.size; simp; omega, fun k hk hm => (setRow_other w g k cs (fun e => hm (e ▸ hg (e ▸ hk)))).trans (h.block k hk hm)⟩
theorem Keeps.cell {M : Nat → Prop} {w w' : World} (h : Keeps M w w') {k i : Nat} (hk : k < w.heap.size) (hm : ¬ M k) : w'.cell? ⟨k, i, none⟩ = w.cell? ⟨k, i, none⟩ :=
  World.cell?_of_block (w := w) (h.block k hk hm)
theorem Keeps.frozen {M : Nat → Prop} {w w' : World} (h : Keeps M w w') {k i : Nat} (hk : k < w.heap.size) (hm : ¬ M k) : w'.frozen? ⟨k, i, none⟩ = w.frozen? ⟨k, i, none⟩ :=
  World.frozen?_of_block (w := w) (h.block k hk hm)
theorem Keeps.below {M : Nat → Prop} {w w' : World} {B : Nat} (h : Keeps M w w') (hB : B ≤ w.heap.size) (hm : ∀ k, k < B → ¬ M k) : Below B w w' :=
  ⟨h.os, h.tape, h.output, h.size, fun k hk => h.block k (Nat.lt_of_lt_of_le hk hB) (hm k hk)⟩
theorem Keeps.grown {M : Nat → Prop} {a w w' : World} {row : Option Nat} (h : Keeps M a w) (hg : w.grownBy w' row) (hr : ∀ k, row = some k → k < a.heap.size → M k) : Keeps M a w' :=
  ⟨hg.os.trans h.os, hg.tape.trans h.tape, hg.output.trans h.output, Nat.le_trans h.size hg.size, fun k hk hn =>
    (hg.block k (Nat.lt_of_lt_of_le hk h.size) (fun e => hn (hr k e.symm hk))).trans (h.block k hk hn)⟩
theorem Keeps.then {M M' : Nat → Prop} {a b c : World} (h : Keeps M a b) (k : Keeps M' b c) (hm : ∀ i, i < a.heap.size → M' i → M i) : Keeps M a c :=
  ⟨k.os.trans h.os, k.tape.trans h.tape, k.output.trans h.output, Nat.le_trans h.size k.size,
    fun i hi hn => (k.block i (Nat.lt_of_lt_of_le hi h.size) (fun x => hn (hm i hi x))).trans (h.block i hi hn)⟩
section
variable {P : Program} {ops : Array Oper} {rest : List Oper} {o : Oper} {a : Act} {w : World} {Q : Exit → Act → World → Prop}
theorem own_run (hg : o.guard = none) {v : Value} {w' : World} (hr : (execOp a.eval o).run P w = .ok (.value v) w') (h : wpList P ops Q rest (a.put o.dst v) w') : wpList P ops Q (o :: rest) a w :=
  wpList_plain hg fun K hK => by unfold Oper.wp; rw [hr]; exact hK _ _ h
theorem own_build (hg : o.guard = none) (t : TypeId) (ps : Array (Nat × Operand)) (ho : o.op = .build t ps) (qs : Array (Nat × Value)) (hq : (ps.map fun (i, x) => (i, a.eval x)) = qs)
    {v : Value} (hr : (Instr.build t qs).run P w = .ok v w) (h : wpList P ops Q rest (a.put o.dst v) w) : wpList P ops Q (o :: rest) a w :=
  own_run hg (v := v) (w' := w) (by
    subst hq
    unfold execOp
    simp only [ho, Sem.run_bind, hr, Result.andThen_ok, Sem.run_pure]) h
theorem own_alloc (hg : o.guard = none) (t : TypeId) (ho : o.op = .alloc t) {v : Value} (hr : (zeroValue t).run P w = .ok v w)
    (h : wpList P ops Q rest (a.put o.dst (.pointer (some ⟨w.heap.size, 0, none⟩))) (w.alloc (.cells v.cells t))) : wpList P ops Q (o :: rest) a w :=
  own_run hg (v := .pointer (some ⟨w.heap.size, 0, none⟩)) (w' := w.alloc (.cells v.cells t)) (by
    unfold execOp
    simp only [ho, Instr.alloc, Sem.run_bind, hr, Result.andThen_ok, Sem.run_pure]
    simp [go_sem]) h
theorem own_box (hg : o.guard = none) (t : TypeId) (x : Operand) (ho : o.op = .box t x)
    (h : wpList P ops Q rest (a.put o.dst (.pointer (some ⟨w.heap.size, 0, none⟩))) (w.alloc (.cells (a.eval x).cells t))) : wpList P ops Q (o :: rest) a w :=
  own_run hg (v := .pointer (some ⟨w.heap.size, 0, none⟩)) (w' := w.alloc (.cells (a.eval x).cells t)) (by
    unfold execOp
    simp only [ho, Instr.box, Sem.run_bind, Result.andThen_ok, Sem.run_pure]
    simp [go_sem]) h
end
theorem Calls.quiet_eq {P : Program} {f : FuncId} {args : Array Value} {w : World} {n : Nat} {v : Value}
    (h : Calls P f args (w.drewN n) fun e w' => e = .returned v ∧ w.drewN n = w') : Calls P f args (w.drewN n) fun e w'' => e = .returned v ∧ ∃ m, w'' = w.drewN m :=
  h.mono fun _ _ ⟨he, hm⟩ => ⟨he, n, hm.symm⟩
theorem Calls.quiet_drew {P : Program} {f : FuncId} {args : Array Value} {w : World} {n : Nat} {v : Value}
    (h : Calls P f args (w.drewN n) fun e w' => e = .returned v ∧ (w.drewN n).drew = w') : Calls P f args (w.drewN n) fun e w'' => e = .returned v ∧ ∃ m, w'' = w.drewN m :=
  h.mono fun _ _ ⟨he, hm⟩ => ⟨he, n + 1, hm.symm⟩
theorem ret_int {k : IntKind} {a b : Int} (h : a = b) : Ending.returned (.int k a) = .returned (.int k b) := by rw [h]
abbrev Row (w : World) (e : TypeId) (size : Nat) (v : Value) (n : Nat) (xs : List Value) : Prop := w.ownsRow 0 e size v n xs
theorem Row.lt {w : World} {e : TypeId} {size n : Nat} {v : Value} {xs : List Value} (h : Row w e size v n xs) {k : Nat} (hk : v.ownBlock = some k) : k < w.heap.size := (World.ownsRow.lt h k hk).2
theorem Row.heap {w w' : World} {size n : Nat} {e : TypeId} {v : Value} {xs : List Value} (h : Row w e size v n xs) (hk : ∀ k, v.ownBlock = some k → w'.heap[k]? = w.heap[k]?) : Row w' e size v n xs := by
  obtain ⟨h1, h2⟩ := h
  refine ⟨h1, ?_⟩
  rcases h2 with h2 | ⟨g, cap, cur, rfl, hb, hg, r⟩
  · exact .inl h2
  · exact .inr ⟨g, cap, cur, rfl, hb, (hk g rfl).trans hg, r⟩
theorem Row.keeps {w w' : World} {M : Nat → Prop} {size n : Nat} {e : TypeId} {v : Value} {xs : List Value} (h : Row w e size v n xs) (k : Keeps M w w') (hm : ∀ j, v.ownBlock = some j → ¬ M j) : Row w' e size v n xs :=
  h.heap fun j hj => k.block j (h.lt hj) (hm j hj)
theorem Row.elem {w : World} {e : TypeId} {size n : Nat} {v : Value} {xs : List Value} (h : Row w e size v n xs) {k : Nat} (hk : v.ownBlock = some k) : ∃ cs, w.heap[k]? = some (.cells cs e (0, 0)) := by
  rcases h.2 with ⟨rfl, _⟩ | ⟨g, cap, cur, rfl, _, hg, _⟩
  · cases hk
  · cases hk; exact ⟨_, hg⟩
theorem Row.slice {w : World} {e : TypeId} {size n : Nat} {v : Value} {xs : List Value} (h : Row w e size v n xs) (hn : v ≠ .slice none 0 0) : ∃ g cap, v = .slice (some ⟨g, 0, none⟩) n cap := by
  rcases h.2 with ⟨e, _⟩ | ⟨g, cap, cur, e, _⟩
  · exact absurd e hn
  · exact ⟨g, cap, e⟩
section
variable {P : Program} {w : World}
theorem run_append_row (t ty e : TypeId) (i : TypeInfo) (z : Value) (size bytes : Nat) (ht : P.underlying t = some (.slice e)) (hi : P.info? e = some i) (hz : i.zero = some z)
    (hsize : i.size = size) (hby : i.bytes = bytes) (hzs : z.cells.size = size) (hsz : 0 < size)
    (v : Value) (n : Nat) (xs : List Value) (hown : Row w e size v n xs)
    (a : Addr) (m c : Nat) (news : List Value) (hl : news.length = m * size) (hnews : ∀ j u, news[j]? = some u → w.cell? (a.add j) = some u) (h1 : ∀ u ∈ news, u.oneCell' = true)
    (h63 : n + m ≤ maxLen) (hbytes : (n + m) * bytes ≤ 140737488355328) :
    ∃ v' w', (Builtin.append_ #[t, t] ty #[v, .slice (some a) m c]).run P w = .ok v' w' ∧ Row w' e size v' (n + m) (xs ++ news) ∧ w.grownBy w' v.ownBlock ∧
      (v' = .slice none 0 0 ↔ v = .slice none 0 0 ∧ m = 0) ∧ ∀ k, v'.ownBlock = some k → v.ownBlock = some k ∨ k = w.heap.size ∧ w.heap.size < w'.heap.size := by
  have hown2 := hown
  obtain ⟨v', w', hr, ho, hg, hn⟩ := run_append_own (P := P) w 0 t ty e i z size bytes ht hi hz hsize hby hzs hsz v n xs hown a m c news hl hnews h1 h63 hbytes (Nat.zero_le _)
  refine ⟨v', w', hr, ho, hg, hn, ?_⟩
  subst hsize; subst hby
  rcases hown2.2 with ⟨rfl, rfl⟩ | ⟨g, cap, cur, rfl, hbg, hgc, hnc, hcm, hcs, htake⟩
  · have hx : xs = [] := List.eq_nil_of_length_eq_zero (by simpa using hown.1)
    subst hx
    by_cases hm : m = 0
    · intro k hk
      rw [hn.2 ⟨rfl, hm⟩] at hk
      cases hk
    · have hr2 := run_append_nil (P := P) w t ty e i z ht hi hz a m c news hl hnews (by omega) (by simp only [maxLen] at h63; omega) (by have hb := hbytes; simp only [Nat.zero_add] at hb; omega)
      have e1 := hr.symm.trans hr2
      simp only [Result.ok.injEq] at e1
      intro k hk
      rw [e1.1] at hk
      cases hk
      exact .inr ⟨rfl, by rw [e1.2]; simp⟩
  · by_cases hroom : n + m ≤ cap
    · have hfit : n * i.size + news.length ≤ cur.size := by rw [hl, hcs, ← Nat.add_mul]; exact Nat.mul_le_mul_right _ hroom
      have hr2 := run_append_room (P := P) w t ty e i ht hi g n cap cur hgc a m c news hl hnews h1 hroom hfit
      have e1 := hr.symm.trans hr2
      simp only [Result.ok.injEq] at e1
      intro k hk
      rw [e1.1] at hk
      exact .inl hk
    · have holds : ∀ j u, xs[j]? = some u → w.cell? ((⟨g, 0, none⟩ : Addr).add j) = some u := World.ownsRow.cells hown (g := g) rfl
      have hr2 := run_append_grow (P := P) w t ty e i z ht hi hz ⟨g, 0, none⟩ n cap xs hown.1 holds a m c news hl hnews (by omega) (by simp only [maxLen] at h63; omega) (growslice_fits (by omega) hbytes)
      have e1 := hr.symm.trans hr2
      simp only [Result.ok.injEq] at e1
      intro k hk
      rw [e1.1] at hk
      cases hk
      exact .inr ⟨rfl, by rw [e1.2]; simp⟩
def SrcO (w : World) (size : Nat) (x : Value) (m : Nat) (news : List Value) : Prop :=
  news.length = m * size ∧ (∀ u ∈ news, u.oneCell' = true) ∧ ((x = .slice none 0 0 ∧ m = 0) ∨ ∃ ad c, x = .slice (some ad) m c ∧ ∀ j u, news[j]? = some u → w.cell? (ad.add j) = some u)
theorem Row.src {e : TypeId} {size n : Nat} {v : Value} {xs : List Value} (h : Row w e size v n xs) (h1 : ∀ u ∈ xs, u.oneCell' = true) : SrcO w size v n xs := by
  refine ⟨h.1, h1, ?_⟩
  rcases h.2 with ⟨rfl, h0⟩ | ⟨g, cap, cur, rfl, hb, hg, r⟩
  · exact .inl ⟨rfl, h0⟩
  · exact .inr ⟨_, _, rfl, fun j u hj => World.ownsRow.cells h (g := g) rfl j u hj⟩
theorem SrcO.new (w : World) (size m : Nat) (cs : List Value) (t : TypeId) (hl : cs.length = m * size) (h1 : ∀ u ∈ cs, u.oneCell' = true) (c : Nat) : SrcO (w.alloc (.cells cs.toArray t)) size (.slice (some ⟨w.heap.size, 0, none⟩) m c) m cs :=
  ⟨hl, h1, .inr ⟨_, _, rfl, fun j u hj => by
    simp only [Addr.add_lit, Nat.zero_add]
    rw [World.cell?_alloc_at _ _ _ _ rfl]
    simpa using hj⟩⟩
theorem SrcO.heap {w' : World} {size m : Nat} {x : Value} {news : List Value} (h : SrcO w size x m news) (hc : ∀ a u, w.cell? a = some u → w'.cell? a = some u) : SrcO w' size x m news :=
  ⟨h.1, h.2.1, h.2.2.elim .inl fun ⟨ad, c, e, hx⟩ => .inr ⟨ad, c, e, fun j u hj => hc _ _ (hx j u hj)⟩⟩
theorem Row.spell {e : TypeId} {size n : Nat} {v : Value} {xs : List Value} (h : Row w e size v n xs) (hn : 0 < n) : ∃ g cap, v = .slice (some ⟨g, 0, none⟩) n cap ∧ g < w.heap.size := by
  rcases h.2 with ⟨_, h0⟩ | ⟨g, cap, cur, rfl, _, hg, _⟩
  · omega
  · exact ⟨g, cap, rfl, (Array.getElem?_eq_some_iff.1 hg).1⟩
theorem Row.cap {e : TypeId} {size n n' g cap : Nat} {xs : List Value} (h : Row w e size (.slice (some ⟨g, 0, none⟩) n cap) n' xs) : n ≤ cap ∧ cap ≤ 9223372036854775807 := by
  rcases h.2 with ⟨h0, _⟩ | ⟨g, cap, cur, h0, _, _, h1, h2, _⟩
  · cases h0
  · simp only [Value.slice.injEq] at h0
    obtain ⟨_, rfl, rfl⟩ := h0
    exact ⟨h1, by unfold maxLen at h2; omega⟩
theorem Row.one {e : TypeId} {size n : Nat} {v : Value} {xs : List Value} (h : Row w e size v n xs) : v.oneCell' = true := by
  rcases h.2 with ⟨rfl, _⟩ | ⟨g, cap, cur, rfl, _⟩ <;> rfl
theorem Row.ne {e t : TypeId} {size n b : Nat} {v : Value} {xs : List Value} {cs : Array Value} {fr : Nat × Nat} (h : Row w e size v n xs) (hb : w.heap[b]? = some (.cells cs t fr)) (hne : e ≠ t) : v.ownBlock ≠ some b := by
  intro he
  obtain ⟨cs', hc⟩ := h.elem he
  rw [hb] at hc
  simp only [Option.some.injEq, Obj.cells.injEq] at hc
  exact hne hc.2.1.symm
theorem run_append_any (t ty e : TypeId) (i : TypeInfo) (z : Value) (size bytes : Nat) (ht : P.underlying t = some (.slice e)) (hi : P.info? e = some i) (hz : i.zero = some z)
    (hsize : i.size = size) (hby : i.bytes = bytes) (hzs : z.cells.size = size) (hsz : 0 < size)
    (v : Value) (n : Nat) (xs : List Value) (hown : Row w e size v n xs) (x : Value) (m : Nat) (news : List Value) (hsrc : SrcO w size x m news)
    (h63 : n + m ≤ maxLen) (hbytes : (n + m) * bytes ≤ 140737488355328) :
    ∃ v' w', (Builtin.append_ #[t, t] ty #[v, x]).run P w = .ok v' w' ∧ Row w' e size v' (n + m) (xs ++ news) ∧ w.grownBy w' v.ownBlock ∧
      (v' = .slice none 0 0 ↔ v = .slice none 0 0 ∧ m = 0) ∧ ∀ k, v'.ownBlock = some k → v.ownBlock = some k ∨ k = w.heap.size ∧ w.heap.size < w'.heap.size := by
  obtain ⟨hl, h1, ⟨rfl, rfl⟩ | ⟨ad, c, rfl, hc⟩⟩ := hsrc
  · have hn : news = [] := List.eq_nil_of_length_eq_zero (by simpa using hl)
    subst hn
    have hrun := run_append_owned_none (P := P) (w := w) 0 t ty e i size ht hi v n xs hown
    exact ⟨v, w, hrun, by simpa using hown, World.grownBy.refl w _, by simp, fun k hk => .inl hk⟩
  · exact run_append_row t ty e i z size bytes ht hi hz hsize hby hzs hsz v n xs hown ad m c news hl hc h1 h63 hbytes
theorem own_append2 {ops : Array Oper} {rest : List Oper} {o : Oper} {a : Act} {Q : Exit → Act → World → Prop} (hgd : o.guard = none) (s x : Operand) (t : TypeId)
    (ho : o.op = .call { callee := .builtin .append, args := #[s, x], argTypes := #[t, t] })
    (e : TypeId) (i : TypeInfo) (z : Value) (size bytes : Nat) (ht : P.underlying t = some (.slice e)) (hi : P.info? e = some i) (hz : i.zero = some z)
    (hsize : i.size = size) (hby : i.bytes = bytes) (hzs : z.cells.size = size) (hsz : 0 < size)
    (v : Value) (n : Nat) (xs : List Value) (hs : a.eval s = v) (hown : Row w e size v n xs)
    (y : Value) (m : Nat) (news : List Value) (hx : a.eval x = y) (hsrc : SrcO w size y m news)
    (h63 : n + m ≤ maxLen) (hbytes : (n + m) * bytes ≤ 140737488355328)
    (h : ∀ v' w', Row w' e size v' (n + m) (xs ++ news) → w.grownBy w' v.ownBlock → (v' = .slice none 0 0 ↔ v = .slice none 0 0 ∧ m = 0) → (∀ k, v'.ownBlock = some k → v.ownBlock = some k ∨ k = w.heap.size ∧ w.heap.size < w'.heap.size) → wpList P ops Q rest (a.put o.dst v') w') : wpList P ops Q (o :: rest) a w := by
  obtain ⟨v', w', hr, h2, h3, h4, h5⟩ := run_append_any (P := P) t o.type e i z size bytes ht hi hz hsize hby hzs hsz v n xs hown y m news hsrc h63 hbytes
  refine wpList_plain hgd fun K hK => ?_
  unfold Oper.wp execOp
  simp only [ho, resolve, invoke, builtin, Sem.run_bind, Sem.run_pure, Result.andThen_ok, List.map_toArray, List.map_cons, List.map_nil, hs, hx, hr]
  exact hK _ _ (h v' w' h2 h3 h4 h5)
theorem own_append2_in {F : Fence} {N : Nat} {ops : Array Oper} {rest : List Oper} {o : Oper} {a : Act} {Q : Exit → Act → World → Prop} (hgd : o.guard = none) (s x : Operand) (t : TypeId)
    (ho : o.op = .call { callee := .builtin .append, args := #[s, x], argTypes := #[t, t] })
    (e : TypeId) (i : TypeInfo) (z : Value) (size bytes : Nat) (ht : P.underlying t = some (.slice e)) (hi : P.info? e = some i) (hz : i.zero = some z)
    (hsize : i.size = size) (hby : i.bytes = bytes) (hzs : z.cells.size = size) (hsz : 0 < size)
    (v : Value) (n : Nat) (xs : List Value) (hs : a.eval s = v) (hown : Row w e size v n xs)
    (y : Value) (m : Nat) (news : List Value) (hx : a.eval x = y) (hsrc : SrcO w size y m news)
    (h63 : n + m ≤ maxLen) (hbytes : (n + m) * bytes ≤ 140737488355328)
    (h : ∀ v' w', Row w' e size v' (n + m) (xs ++ news) → w.grownBy w' v.ownBlock → (v' = .slice none 0 0 ↔ v = .slice none 0 0 ∧ m = 0) → (∀ k, v'.ownBlock = some k → v.ownBlock = some k ∨ k = w.heap.size ∧ w.heap.size < w'.heap.size) → wpListIn F N P ops Q rest (a.put o.dst v') w') : wpListIn F N P ops Q (o :: rest) a w := by
  obtain ⟨v', w', hr, h2, h3, h4, h5⟩ := run_append_any (P := P) t o.type e i z size bytes ht hi hz hsize hby hzs hsz v n xs hown y m news hsrc h63 hbytes
  refine wpListIn_plain hgd fun K hK => ?_
  unfold Oper.wpIn
  refine ⟨?_, ?_⟩
  · simp [Oper.about, ho, resolve, Target.leads, Sem.run_pure]
  · rw [Oper.semAt_plain F _ _ (by rw [ho]; intro c hc'; cases hc')]
    simp [execOp, ho, resolve, invoke, builtin, hs, hx, hr, Result.andThen]
    exact hK _ _ (h v' w' h2 h3 h4 h5)
end
def B (l : List UInt8) : List Value := l.map fun x => .int .u8 (x.toNat : Int)
theorem B_length (l : List UInt8) : (B l).length = l.length := by simp [B]
theorem B_get (l : List UInt8) (k : Nat) (x : UInt8) (h : l[k]? = some x) : (B l)[k]? = some (.int .u8 (x.toNat : Int)) := by simp [B, h]
theorem B_append (l m : List UInt8) : B (l ++ m) = B l ++ B m := by simp [B]
theorem B_one (l : List UInt8) : ∀ u ∈ B l, u.oneCell' = true := by
  intro u hu
  simp only [B, List.mem_map] at hu
  obtain ⟨x, _, rfl⟩ := hu
  rfl
theorem B_get_inv (l : List UInt8) (k : Nat) (u : Value) (h : (B l)[k]? = some u) : ∃ x, l[k]? = some x ∧ u = .int .u8 (x.toNat : Int) := by
  simp only [B, List.getElem?_map, Option.map_eq_some_iff] at h
  obtain ⟨x, h1, h2⟩ := h
  exact ⟨x, h1, h2.symm⟩
theorem B_take (l : List UInt8) (k : Nat) : (B l).take k = B (l.take k) := by simp [B, List.map_take]
theorem B_drop (l : List UInt8) (k : Nat) : (B l).drop k = B (l.drop k) := by simp [B, List.map_drop]
structure BytesAt (w : World) (v : Value) (l : List UInt8) : Prop where
  form : ∃ A cap, v = .slice A l.length cap ∧ l.length ≤ cap ∧ cap ≤ maxLen ∧ (A = none → cap = 0)
  at_ : ∀ k x, l[k]? = some x → ∃ b o cap, v = .slice (some ⟨b, o, none⟩) l.length cap ∧ b < w.heap.size ∧ w.cell? ⟨b, o + k, none⟩ = some (.int .u8 (x.toNat : Int))
def cutV (A : Option Addr) (n cap k : Nat) : Value := .slice (if cap = k then A else A.map (·.add k)) (n - k) (cap - k)
section
variable {w w' : World} {v : Value} {l : List UInt8}
theorem BytesAt.len (h : BytesAt w v l) : ∃ A cap, v = .slice A l.length cap := let ⟨A, c, e, _⟩ := h.form; ⟨A, c, e⟩
theorem BytesAt.keeps {M : Nat → Prop} (h : BytesAt w v l) (k : Keeps M w w') (hm : ∀ j, v.ownBlock = some j → ¬ M j) : BytesAt w' v l :=
  ⟨h.form, fun i x hi => by
    obtain ⟨b, o, cap, e, hb, hc⟩ := h.at_ i x hi
    exact ⟨b, o, cap, e, Nat.lt_of_lt_of_le hb k.size, (k.cell hb (hm b (by rw [e]; rfl))).trans hc⟩⟩
theorem BytesAt.keepsN (h : BytesAt w v l) (k : Keeps Nob w w') : BytesAt w' v l := h.keeps k (fun _ _ x => x)
theorem BytesAt.nil (w : World) : BytesAt w (.slice none 0 0) [] := ⟨⟨none, 0, rfl, Nat.le_refl _, by unfold maxLen; omega, fun _ => rfl⟩, fun k x h => by simp at h⟩
theorem Row.bytes {e : TypeId} (h : Row w e 1 v l.length (B l)) : BytesAt w v l := by
  refine ⟨?_, fun k x hk => ?_⟩
  · rcases h.2 with ⟨rfl, h0⟩ | ⟨g, cap, cur, rfl, _, _, hn, hc, _⟩
    · exact ⟨none, 0, by rw [h0], by omega, by unfold maxLen; omega, fun _ => rfl⟩
    · exact ⟨_, _, rfl, hn, hc, fun h => by cases h⟩
  · rcases h.2 with ⟨rfl, h0⟩ | ⟨g, cap, cur, rfl, _, hg, hn, hc, _⟩
    · have : l = [] := List.eq_nil_of_length_eq_zero h0
      subst this; simp at hk
    · refine ⟨g, 0, cap, rfl, (Array.getElem?_eq_some_iff.1 hg).1, ?_⟩
      have := World.ownsRow.cells h (g := g) rfl k _ (B_get l k x hk)
      simpa [Addr.add_lit] using this
theorem Row.newB (w : World) (l : List UInt8) (t : TypeId) (hl : l.length ≤ maxLen) : Row (w.alloc (.cells (B l).toArray t)) t 1 (.slice (some ⟨w.heap.size, 0, none⟩) l.length l.length) l.length (B l) :=
  ⟨by simp [B_length], .inr ⟨_, _, _, rfl, Nat.zero_le _, heap_alloc_new _ _, Nat.le_refl _, hl, by simp [B_length], by rw [Nat.mul_one]; exact List.take_of_length_le (by simp [B_length])⟩⟩
theorem BytesAt.drop (h : BytesAt w v l) (k : Nat) (hk : k ≤ l.length) : ∀ A n cap, v = .slice A n cap → BytesAt w (cutV A n cap k) (l.drop k) := by
  intro A n cap hv
  unfold cutV
  obtain ⟨A', cap', e, h1, h2, h3⟩ := h.form
  rw [e] at hv
  simp only [Value.slice.injEq] at hv
  obtain ⟨rfl, rfl, rfl⟩ := hv
  refine ⟨⟨_, _, by rw [List.length_drop], by rw [List.length_drop]; omega, by omega, fun hn => ?_⟩, fun i x hi => ?_⟩
  · split at hn
    · omega
    · cases A' with
      | none => have := h3 rfl; omega
      | some a => cases hn
  rw [List.getElem?_drop] at hi
  obtain ⟨b, o, c, e2, hb, hc⟩ := h.at_ _ x hi
  rw [e] at e2
  simp only [Value.slice.injEq, true_and] at e2
  obtain ⟨rfl, rfl⟩ := e2
  have hlt : k + i < l.length := (List.getElem?_eq_some_iff.1 hi).1
  rw [if_neg (by omega)]
  exact ⟨b, o + k, cap' - k, by simp [Addr.add_lit, List.length_drop], hb, by rw [Nat.add_assoc]; exact hc⟩
theorem BytesAt.take (h : BytesAt w v l) (k : Nat) (hk : k ≤ l.length) : ∀ A n cap, v = .slice A n cap → BytesAt w (.slice A k cap) (l.take k) := by
  intro A n cap hv
  obtain ⟨A', cap', e, h1, h2, h3⟩ := h.form
  rw [e] at hv
  simp only [Value.slice.injEq] at hv
  obtain ⟨rfl, rfl, rfl⟩ := hv
  have hl : (l.take k).length = k := by rw [List.length_take]; omega
  refine ⟨⟨_, _, by rw [hl], by rw [hl]; omega, by omega, h3⟩, fun i x hi => ?_⟩
  have hlt : i < k := by have := (List.getElem?_eq_some_iff.1 hi).1; omega
  rw [List.getElem?_take_of_lt hlt] at hi
  obtain ⟨b, o, c, e2, hb, hc⟩ := h.at_ _ x hi
  rw [e] at e2
  simp only [Value.slice.injEq, true_and] at e2
  obtain ⟨rfl, rfl⟩ := e2
  exact ⟨b, o, _, by rw [hl], hb, hc⟩
theorem BytesAt.src (h : BytesAt w v l) : SrcO w 1 v l.length (B l) := by
  refine ⟨by simp [B_length], B_one l, ?_⟩
  obtain ⟨A, cap, rfl, h1, h2, h3⟩ := h.form
  cases A with
  | none =>
    have h0 : l = [] := by
      cases l with
      | nil => rfl
      | cons x r => obtain ⟨b, o, c, e, _⟩ := h.at_ 0 x rfl; simp at e
    subst h0
    have := h3 rfl
    subst this
    exact .inl ⟨rfl, rfl⟩
  | some ad =>
    refine .inr ⟨ad, cap, rfl, fun j u hj => ?_⟩
    obtain ⟨x, hx, rfl⟩ := B_get_inv l j u hj
    obtain ⟨b, o, c, e, hb, hc⟩ := h.at_ j x hx
    simp only [Value.slice.injEq, Option.some.injEq] at e
    obtain ⟨rfl, _⟩ := e
    simpa [Addr.add_lit] using hc
end
section
variable {P : Program} {ops : Array Oper} {Q : Exit → Act → World → Prop} {md : Region.Mode} {S : World → Prop}
theorem anyH_two {fuel : Nat} {l : Array Bool} {a : Act} {w : World} (i j : Nat) (hr : Region.ready md ops l = [i, j])
    (h1 : wpOp P ops Q i (fun a' w' => S w' ∧ wpAnyH P md ops Q S fuel (l.setIfInBounds i true) a' w') a w) (h2 : wpOp P ops Q j (fun a' w' => S w' ∧ wpAnyH P md ops Q S fuel (l.setIfInBounds j true) a' w') a w) : wpAnyH P md ops Q S (fuel + 1) l a w := by
  refine wpAnyH_all hr (by simp) fun m hm => ?_
  rcases List.mem_cons.1 hm with rfl | hm
  · exact h1
  · obtain rfl : m = j := by simpa using hm
    exact h2
variable {K : Act → World → Prop} {i : Nat}
theorem opH_run (o : Oper) (v : Value) {a : Act} {w w' : World} (ho : ops[i]? = some o) (hg : Region.wanted o (yielded ops a.tmps) = true)
    (hrun : (execOp a.eval o).run P w = .ok (.value v) w') (h : K (a.put o.dst v) w') : wpOp P ops Q i K a w := by
  unfold wpOp
  simp only [ho, hg, if_true]
  refine .inl ?_
  unfold Oper.wp
  rw [hrun]; exact h
theorem opH_callF (o : Oper) (f : FuncId) (args : Array Value) {a : Act} {w : World} (ho : ops[i]? = some o) (hg : Region.wanted o (yielded ops a.tmps) = true)
    (hc : o.op = .call { callee := .value (.func f), args := callArgs o, argTypes := callTypes o }) (hargs : (callArgs o).map a.eval = args) (he : ∀ args w, (callFunc f args).run P w = .ok (.enter f args) w)
    (h : Calls P f args w fun e w' => ∃ v, e = .returned v ∧ K (a.put o.dst v) w') : wpOp P ops Q i K a w := by
  unfold wpOp
  simp only [ho, hg, if_true]
  refine .inl ?_
  unfold Oper.wp execOp
  simp only [hc, resolve, hargs, Act.eval, Sem.run_bind, Deferred.ofValue, Sem.run_pure, Result.andThen_ok, invoke, Array.append_empty, Array.empty_append, he]
  refine Calls.mono h fun e w' ⟨v, he, hv⟩ => ?_
  subst he
  exact hv
end
theorem exec_cast {P : Program} {o : Oper} {ρ : Operand → Value} {w : World} {v v' : Value} (h : v = v') (hr : (execOp ρ o).run P w = .ok (.value v) w) : (execOp ρ o).run P w = .ok (.value v') w := h ▸ hr
variable {P : Program} {ops : Array Oper} {rest : List Oper} {o : Oper} {a : Act} {w w' : World} {Q : Exit → Act → World → Prop}
theorem exec_load_mid {ρ : Operand → Value} (ty : TypeId) (x : Operand) (ho : o.op = .load ty x) (b k : Nat) (hx : ρ x = .pointer (some ⟨b, k, none⟩)) (cs : List Value) (d : TypeDesc) (hc : w.rangeAt b k cs)
    (hu : P.underlying ty = some d) (hd : d.isRow = true) (hi : (P.info? ty).map (·.size) = some cs.length) : (execOp ρ o).run P w = .ok (.value (.agg cs.toArray)) w := by
  unfold execOp
  simp only [ho, hx, Sem.run_bind, run_loadAt_mid w b k ty cs d hc hu hd hi, Result.andThen_ok, Sem.run_pure]
theorem exec_build {ρ : Operand → Value} (t : TypeId) (ps : Array (Nat × Operand)) (ho : o.op = .build t ps) (qs : Array (Nat × Value)) (hq : (ps.map fun (i, x) => (i, ρ x)) = qs)
    {v : Value} (hr : (Instr.build t qs).run P w = .ok v w) : (execOp ρ o).run P w = .ok (.value v) w := by
  subst hq
  unfold execOp
  simp only [ho, Sem.run_bind, hr, Result.andThen_ok, Sem.run_pure]
theorem exec_binop {ρ : Operand → Value} (op : BinOp) (t t' : TypeId) (x y : Operand) (ho : o.op = .binOp op t x y t') (vx vy v : Value) (hx : ρ x = vx) (hy : ρ y = vy) (hg : (eqGuard op t x y vx vy).run P w = .ok () w)
    (hr : (binOp op t vx vy).run P w = .ok v w) : (execOp ρ o).run P w = .ok (.value v) w := by
  unfold execOp
  simp only [ho, hx, hy, Sem.run_bind, hg, hr, Result.andThen_ok, Sem.run_pure]
end
section
open Go Go.RowKit Go.Shelf
abbrev iN (n : Nat) : Value := .int .i64 ((n : Nat) : Int)
abbrev uN (n : Nat) : Value := .int .u64 ((n : Nat) : Int)
abbrev cN (n : Nat) : Value := .int .u8 ((n : Nat) : Int)
abbrev pT (g o : Nat) : Value := .pointer (some ⟨g, o, none⟩)
abbrev zr_i64_25 : Array Value := #[.int .i64 0, .int .i64 0, .int .i64 0, .int .i64 0, .int .i64 0, .int .i64 0, .int .i64 0, .int .i64 0, .int .i64 0, .int .i64 0, .int .i64 0, .int .i64 0, .int .i64 0, .int .i64 0, .int .i64 0, .int .i64 0, .int .i64 0, .int .i64 0, .int .i64 0, .int .i64 0, .int .i64 0, .int .i64 0, .int .i64 0, .int .i64 0, .int .i64 0]
abbrev zr_u64_24 : Array Value := #[.int .u64 0, .int .u64 0, .int .u64 0, .int .u64 0, .int .u64 0, .int .u64 0, .int .u64 0, .int .u64 0, .int .u64 0, .int .u64 0, .int .u64 0, .int .u64 0, .int .u64 0, .int .u64 0, .int .u64 0, .int .u64 0, .int .u64 0, .int .u64 0, .int .u64 0, .int .u64 0, .int .u64 0, .int .u64 0, .int .u64 0, .int .u64 0]
abbrev zr_u64_25 : Array Value := #[.int .u64 0, .int .u64 0, .int .u64 0, .int .u64 0, .int .u64 0, .int .u64 0, .int .u64 0, .int .u64 0, .int .u64 0, .int .u64 0, .int .u64 0, .int .u64 0, .int .u64 0, .int .u64 0, .int .u64 0, .int .u64 0, .int .u64 0, .int .u64 0, .int .u64 0, .int .u64 0, .int .u64 0, .int .u64 0, .int .u64 0, .int .u64 0, .int .u64 0]
abbrev zr_u64_5 : Array Value := #[.int .u64 0, .int .u64 0, .int .u64 0, .int .u64 0, .int .u64 0]
abbrev zr_u8_32 : Array Value := #[.int .u8 0, .int .u8 0, .int .u8 0, .int .u8 0, .int .u8 0, .int .u8 0, .int .u8 0, .int .u8 0, .int .u8 0, .int .u8 0, .int .u8 0, .int .u8 0, .int .u8 0, .int .u8 0, .int .u8 0, .int .u8 0, .int .u8 0, .int .u8 0, .int .u8 0, .int .u8 0, .int .u8 0, .int .u8 0, .int .u8 0, .int .u8 0, .int .u8 0, .int .u8 0, .int .u8 0, .int .u8 0, .int .u8 0, .int .u8 0, .int .u8 0, .int .u8 0]
abbrev zr_u8_8 : Array Value := #[.int .u8 0, .int .u8 0, .int .u8 0, .int .u8 0, .int .u8 0, .int .u8 0, .int .u8 0, .int .u8 0]
theorem Keeps.bk {g : Nat} {W W' : World} (k : Keeps Nob W W') {x : Obj} (h : W.heap[g]? = some x) : W'.heap[g]? = some x := (k.block g (Array.getElem?_eq_some_iff.1 h).1 (fun x => x)).trans h
theorem Keeps.bo {g j : Nat} {W W' : World} (k : Keeps (One j) W W') {x : Obj} (h : W.heap[g]? = some x) (hne : g ≠ j) : W'.heap[g]? = some x := (k.block g (Array.getElem?_eq_some_iff.1 h).1 hne).trans h
theorem Keeps.nn {M : Nat → Prop} {w V V' : World} (K : Keeps M w V) (k : Keeps Nob V V') : Keeps M w V' := K.then k (fun _ _ x => x.elim)
theorem Keeps.no {M : Nat → Prop} {g : Nat} {w V V' : World} (K : Keeps M w V) (k : Keeps (One g) V V') (h : w.heap.size ≤ g) : Keeps M w V' := K.then k (fun i hi hm => absurd hi (by unfold One at hm; omega))
theorem drew_step (W : World) : ∃ V, W.drew = V ∧ Keeps Nob W V := ⟨_, rfl, (Keeps.refl _ _).drew⟩
theorem alloc_step (W : World) (c : Array Value) (T : TypeId) : ∃ V, W.alloc (.cells c T) = V ∧ ∃ g, W.heap.size = g ∧ V.heap[g]? = some (.cells c T (0, 0)) ∧ Keeps Nob W V := ⟨_, rfl, _, rfl, heap_alloc_new _ _, (Keeps.refl _ _).alloc _⟩
theorem cell_step (W : World) (g o : Nat) (v : Value) : ∃ V, W.setCell ⟨g, o, none⟩ v = V ∧ Keeps (One g) W V := ⟨_, rfl, (Keeps.refl _ _).setOne _⟩
theorem rowset_step (W : World) (g : Nat) (c : Array Value) : ∃ V, W.setRow g c = V ∧ Keeps (One g) W V := ⟨_, rfl, (Keeps.refl (One g) _).setRow (fun _ => rfl) _⟩
noncomputable def sub : List Bool → Code → Code
  | [], c => c
  | p :: r, .seq x y => sub r (bif p then y else x)
  | _ :: r, .block _ x => sub r x
  | p :: r, .cond _ x y => sub r (bif p then y else x)
  | _ :: r, .loop x => sub r x
  | p :: r, .rangeFunc _ _ x y => sub r (bif p then y else x)
  | _ :: _, c => c
def placeOf : Nat → Nat → List Bool
  | 0, _ => []
  | f + 1, n => if n ≤ 1 then [] else placeOf f (n / 2) ++ [n % 2 == 1]
noncomputable def partOf (f : Func) (n : Nat) : Code := sub (placeOf 200 n) (f.body.getD .skip)
noncomputable def opsAt (c : Code) : Array Oper := match c with | .region _ ops _ => ops | _ => #[]
def Fr (n : Nat) (l : List (Nat × Value)) (d : List Deferred) (a : Act) : Prop := (a.tmps.size, a.defers, l.map fun x => a.tmps.getD x.1 undef) = (n, d, l.map (·.2))
def frm (n : Nat) (l : List (Nat × Value)) (u : Nat → Value) : Array Value := ((List.range n).map fun k => (l.lookup k).getD (u k)).toArray
theorem fq {n : Nat} {l : List (Nat × Value)} {d : List Deferred} {a : Act} (h : (a.tmps.size, a.defers, l.map fun x => a.tmps.getD x.1 undef) = (n, d, l.map (·.2)) := by kernel_rfl) : Fr n l d a := h
theorem lookup_mem {k : Nat} {v : Value} : ∀ {l : List (Nat × Value)}, l.lookup k = some v → (k, v) ∈ l
  | [], h => by cases h
  | (k', v') :: r, h => by
    rw [List.lookup_cons] at h
    cases hk : k == k' with
    | true =>
      rw [hk] at h
      simp only [Option.some.injEq] at h
      rw [eq_of_beq hk, h]; exact List.mem_cons_self
    | false => rw [hk] at h; exact List.mem_cons_of_mem _ (lookup_mem h)
theorem Fr.open {n : Nat} {l : List (Nat × Value)} {d : List Deferred} {a : Act} (h : Fr n l d a) : ∃ u, a = ⟨frm n l u, d⟩ := by
  unfold Fr at h
  simp only [Prod.mk.injEq] at h
  obtain ⟨h1, h2, h3⟩ := h
  refine ⟨fun k => a.tmps.getD k undef, ?_⟩
  obtain ⟨t, df⟩ := a
  simp only at h1 h2 h3
  subst h2
  congr 1
  apply Array.ext
  · simp [frm, h1]
  · intro k hk1 hk2
    have hg : t.getD k undef = t[k] := by simp [hk1]
    simp only [frm, List.getElem_toArray, List.getElem_map, List.getElem_range]
    cases hl : l.lookup k with
    | none => simp [hk1]
    | some v =>
      have hm := List.mem_map_of_mem (f := fun x : Nat × Value => (t.getD x.1 undef, x.2)) (lookup_mem hl)
      have e : l.map (fun x => (t.getD x.1 undef, x.2)) = (l.map (·.2)).map fun v => (v, v) := by
        rw [← List.zip_map', h3, List.zip_map', List.map_map]; rfl
      rw [e] at hm
      obtain ⟨y, _, hy⟩ := List.mem_map.1 hm
      simp only [Prod.mk.injEq] at hy
      simp only [Option.getD_some]
      rw [← hg, ← hy.1, hy.2]
section
variable {P : Program} {Q : Exit → Act → World → Prop} {a : Act} {w : World} {c : Code}
theorem sy_enter {f : FuncId} {fn : Func} {args : Array Value} {R : Ending → World → Prop} (c : Code) (a : Act) (hf : P.funcs[f]? = some fn) (hb : fn.body = some c)
    (ha : ({ tmps := args ++ Array.replicate (fn.ntmps - args.size) undef, defers := [] } : Act) = a) (h : c.wp P (bodyPost P fn R) a w) : Calls P f args w R :=
  calls_of_wp hf hb (ha ▸ h)
theorem sy_seq (x y : Code) (hc : c = .seq x y) (h : x.wp P (Exit.then (y.wp P Q) Q) a w) : c.wp P Q a w := hc ▸ wp_seq h
theorem sy_block (id : Nat) (x : Code) (hc : c = .block id x) (h : x.wp P (Exit.inBlock id Q) a w) : c.wp P Q a w := hc ▸ wp_block h
theorem sy_yes (o : Operand) (x y : Code) (hc : c = .cond o x y) (ho : a.eval o = .bool true) (h : x.wp P Q a w) : c.wp P Q a w := hc ▸ wp_cond_true ho h
theorem sy_no (o : Operand) (x y : Code) (hc : c = .cond o x y) (ho : a.eval o = .bool false) (h : y.wp P Q a w) : c.wp P Q a w := hc ▸ wp_cond_false ho h
theorem sy_skip (hc : c = .skip) (h : Q .normal a w) : c.wp P Q a w := hc ▸ wp_skip h
theorem sy_exit (id : Nat) (hc : c = .exit id) (h : Q (.exit id) a w) : c.wp P Q a w := hc ▸ wp_exit h
theorem sy_ret (hc : c = .ret) (h : Q .ret a w) : c.wp P Q a w := hc ▸ wp_ret h
theorem sy_loop (x : Code) (I : Act → World → Prop) (μ : Act → World → Nat) (hc : c = .loop x) (h0 : I a w)
    (round : ∀ a w, I a w → x.wp P (Exit.then (fun a' w' => I a' w' ∧ μ a' w' < μ a w) Q) a w) : c.wp P Q a w := hc ▸ wp_loop I μ h0 round
structure Gops (P : Program) (ops : Array Oper) (Q : Exit → Act → World → Prop) (l : List Nat) (a : Act) (w : World) : Prop where
  out : wpOps P ops Q l a w
structure Gst (P : Program) (ops : Array Oper) (w : World) (K : Act → Prop) (l : List Oper) (a : Act) : Prop where
  out : wpStill P ops w K l a
structure Gls (P : Program) (ops : Array Oper) (Q : Exit → Act → World → Prop) (l : List Oper) (a : Act) (w : World) : Prop where
  out : wpList P ops Q l a w
def RegW (P : Program) (c : Code) (Q : Exit → Act → World → Prop) (a : Act) (w : World) : Prop :=
  (∃ id ops, c = .region id ops false ∧ wpOps P ops Q (List.range ops.size) a w) ∨
  (∃ id ops, c = .region id ops true ∧ P.follows .mixedOrders = true ∧ wpAny P .any ops Q ops.size (Array.replicate ops.size false) a w.drew)
theorem sy_reg (h : RegW P c Q a w) : c.wp P Q a w := by
  rcases h with ⟨id, ops, rfl, h⟩ | ⟨id, ops, rfl, hm, h⟩
  · exact wp_region h
  · exact wp_region_any hm h
theorem sy_np (h : c.wp P (NoPanic Q) a w) : c.wp P Q a w := wp_mono h NoPanic.imp
theorem rg_plain (id : Nat) (ops : Array Oper) (l : List Nat) (hc : c = .region id ops false) (hl : List.range ops.size = l) (h : Gops P ops Q l a w) : RegW P c Q a w :=
  .inl ⟨id, ops, hc, hl ▸ h.out⟩
theorem rg_held (id : Nat) (ops : Array Oper) (S : World → Prop) (n : Nat) (l : Array Bool) (hc : c = .region id ops true) (hm : P.follows .mixedOrders = true) (hn : ops.size = n) (hl : Array.replicate n false = l) (h : wpAnyH P .any ops Q S n l a w.drew) : RegW P c Q a w := by
  subst hn; subst hl; exact .inr ⟨id, ops, hc, hm, wpAny_of_held _ _ _ _ h⟩
theorem sy_a {e : Exit} (b : Act) (hq : Q e b w) (h : a = b := by kernel_rfl) : Q e a w := h ▸ hq
theorem sy_rounds (n : Nat) (x : Code) (hc : c = .loop x) (h : Code.rounds P x Q n a w) : c.wp P Q a w := hc ▸ wp_loop_rounds n h
theorem rd_step {n : Nat} (h : c.wp P (Exit.then (Code.rounds P c Q n) Q) a w) : Code.rounds P c Q (n + 1) a w := h
theorem sy_part (c' : Code) (hc : c = c') (h : c'.wp P Q a w) : c.wp P Q a w := hc ▸ h
theorem sy_frame (b : Act) (h : a = b) (hq : c.wp P Q b w) : c.wp P Q a w := h ▸ hq
theorem then_n {next : Act → World → Prop} (h : next a w) : Exit.then next Q .normal a w := h
theorem then_e {next : Act → World → Prop} {id : Nat} (h : Q (.exit id) a w) : Exit.then next Q (.exit id) a w := h
theorem then_r {next : Act → World → Prop} (h : Q .ret a w) : Exit.then next Q .ret a w := h
theorem blk_n {id : Nat} (h : Q .normal a w) : Exit.inBlock id Q .normal a w := h
theorem blk_e {id : Nat} (h : Q .normal a w) : Exit.inBlock id Q (.exit id) a w := by simp only [Exit.inBlock, if_true]; exact h
theorem blk_p {id id' : Nat} (hne : id' ≠ id) (h : Q (.exit id') a w) : Exit.inBlock id Q (.exit id') a w := by simp only [Exit.inBlock, if_neg hne]; exact h
theorem blk_r {id : Nat} (h : Q .ret a w) : Exit.inBlock id Q .ret a w := h
theorem sy_out {fn : Func} {R : Ending → World → Prop} (v : Value) (hd : a.defers = []) (hr : (results fn a.tmps).run P w = .ok v w) (h : R (.returned v) w) : bodyPost P fn R .ret a w := ⟨hd, v, hr, h⟩
theorem sy_fall {fn : Func} {R : Ending → World → Prop} (v : Value) (hd : a.defers = []) (hr : (results fn a.tmps).run P w = .ok v w) (h : R (.returned v) w) : bodyPost P fn R .normal a w := ⟨hd, v, hr, h⟩
theorem results_row_tmp {fn : Func} {p q : Tmp} {ty : TypeId} (h : fn.results = #[.cell p ty, .tmp q]) (tmps : Array Value) (w : World) (g : Nat) (t : TypeId) (cs : Array Value) (fr : Nat × Nat) (d : TypeDesc) (v : Value)
    (hp : tmps.getD p undef = .pointer (some ⟨g, 0, none⟩)) (hg : w.heap[g]? = some (.cells cs t fr))
    (hu : P.underlying ty = some d) (hd : (match d with | .struct _ | .array _ _ => true | _ => false) = true) (hi : (P.info? ty).map (·.size) = some cs.size) (hq : tmps.getD q undef = v) :
    (results fn tmps).run P w = .ok (.tuple #[.agg cs, v]) w := by
  have hp' : tmps[p]?.getD undef = .pointer (some ⟨g, 0, none⟩) := by simpa using hp
  have hq' : tmps[q]?.getD undef = v := by simpa using hq
  simp [results, h, hp', hq', asAddr, run_loadVar_row w g t ty cs fr d hg hu hd hi]
variable {ops : Array Oper} {i : Nat} {rest : List Nat}
theorem ps_end (h : Q .normal a w) : Gops P ops Q [] a w := ⟨h⟩
theorem ps_run (o : Oper) (v : Value) {w' : World} (ho : ops[i]? = some o) (hg : Region.wanted o (yielded ops a.tmps) = true) (hrun : (execOp a.eval o).run P w = .ok (.value v) w') (h : Gops P ops Q rest (a.put o.dst v) w') : Gops P ops Q (i :: rest) a w :=
  ⟨by rw [wpOps_cons]; exact opH_run o v ho hg hrun h.out⟩
theorem ps_skip (o : Oper) {w' : World} (ho : ops[i]? = some o) (hg : Region.wanted o (yielded ops a.tmps) = true) (hrun : (execOp a.eval o).run P w = .ok .skip w') (h : Gops P ops Q rest (a.put o.dst undef) w') : Gops P ops Q (i :: rest) a w := by
  refine ⟨?_⟩
  rw [wpOps_cons]
  unfold wpOp
  simp only [ho, hg, if_true]
  refine .inl ?_
  unfold Oper.wp
  rw [hrun]; exact h.out
theorem ps_no (o : Oper) (ho : ops[i]? = some o) (hg : Region.wanted o (yielded ops a.tmps) = false) (h : Gops P ops Q rest (a.put o.dst undef) w) : Gops P ops Q (i :: rest) a w := by
  refine ⟨?_⟩
  rw [wpOps_cons]
  unfold wpOp
  simp only [ho, hg, Bool.false_eq_true, if_false]
  exact h.out
theorem ps_call (o : Oper) (f : FuncId) (args : Array Value) (ho : ops[i]? = some o) (hg : Region.wanted o (yielded ops a.tmps) = true)
    (hc : o.op = .call { callee := .value (.func f), args := callArgs o, argTypes := callTypes o }) (hargs : (callArgs o).map a.eval = args) (he : ∀ args w, (callFunc f args).run P w = .ok (.enter f args) w)
    (h : Calls P f args w fun e w' => ∃ v, e = .returned v ∧ Gops P ops Q rest (a.put o.dst v) w') : Gops P ops Q (i :: rest) a w :=
  ⟨by rw [wpOps_cons]; exact opH_callF o f args ho hg hc hargs he (h.mono fun _ _ ⟨v, h1, h2⟩ => ⟨v, h1, h2.out⟩)⟩
theorem ps_callV (o : Oper) (x : Operand) (f : FuncId) (first caps args : Array Value) (ho : ops[i]? = some o) (hg : Region.wanted o (yielded ops a.tmps) = true)
    (hc : o.op = .call { callee := .value x, args := callArgs o, argTypes := callTypes o }) (hx : a.eval x = .func (.func f) first caps) (hargs : first ++ (callArgs o).map a.eval ++ caps = args) (he : ∀ args w, (callFunc f args).run P w = .ok (.enter f args) w)
    (h : Calls P f args w fun e w' => ∃ v, e = .returned v ∧ Gops P ops Q rest (a.put o.dst v) w') : Gops P ops Q (i :: rest) a w := by
  refine ⟨?_⟩
  rw [wpOps_cons]
  unfold wpOp
  simp only [ho, hg, if_true]
  refine .inl ?_
  unfold Oper.wp execOp
  simp only [hc, resolve, hx, Sem.run_bind, Deferred.ofValue, Sem.run_pure, Result.andThen_ok, invoke, hargs, he]
  refine Calls.mono h fun e w' ⟨v, he, hv⟩ => ?_
  subst he
  exact hv.out
theorem rg_still (id n : Nat) (ops : Array Oper) (hd tl : List Oper) (hc : c = .region id ops true) (hm : P.follows .mixedOrders = true) (hB : Region.lexTailB .any ops n = true) (hh : ops.toList.take n = hd) (ht : ops.toList.drop n = tl)
    (h : Gst P ops w.drew (fun a' => Gls P ops Q tl a' w.drew) hd a) : RegW P c Q a w := by
  subst hh; subst ht
  have h2 : ∀ (l : List Oper) (a : Act) (K K' : Act → Prop), (∀ a, K a → K' a) → wpStill P ops w.drew K l a → wpStill P ops w.drew K' l a := by
    intro l
    induction l with
    | nil => intro a K K' hk h; exact hk a h
    | cons o r ih =>
      intro a K K' hk h
      unfold wpStill at h ⊢
      split at h
      · rename_i hw; rw [if_pos hw]; exact Oper.still_mono (fun a h => ih a K K' hk h) h
      · rename_i hw; rw [if_neg hw]; exact ih _ K K' hk h
  have h3 := h2 _ _ _ (fun a' => wpList P ops Q (ops.toList.drop n) a' w.drew) (fun _ h => h.out) h.out
  refine .inr ⟨id, ops, hc, hm, ?_⟩
  simp only [Region.lexTailB, Bool.and_eq_true, decide_eq_true_eq] at hB
  obtain ⟨⟨⟨⟨hsel, hn⟩, hs⟩, hch⟩, hlex⟩ := hB
  have htl : (ops.toList.take n).length = n := by simp; omega
  have hdl : (ops.toList.drop n).length = ops.size - n := by simp
  have inv0 : HeadInv .any ops n (Array.replicate ops.size false) := ⟨by simp, fun j oj _ hl => (by rw [getD_replicate_false] at hl; cases hl), fun t _ ht => getD_in (by simpa using ht) (getD_replicate_false _ _)⟩
  have H := wpAnyL_lex (md := .any) (g := ops.size - n) (w := w.drew) hsel hs hch hn (ops.toList.take n) 0 _ a (fun j hj => by
    have hj' : j < n := by rw [htl] at hj; exact hj
    simp [hj']) (by simpa using htl) inv0 (by rw [htl]; exact hlex) h3
  have := wpAny_of_head (Q' := Q) (g := ops.size - n) (fun listed a' hL => by
    have := wpAny_of_seq (md := .any) (Q' := Q) (ops.toList.drop n) n listed a' w.drew (fun j => by simp [List.getElem?_drop]) (by rw [hdl]; exact hL.1) hL.2
    rwa [hdl] at this) _ _ _ H
  rw [htl, show n + (ops.size - n) = ops.size by omega] at this
  exact this
section
variable {rest : List Oper} {K : Act → Prop}
theorem st_run (o : Oper) (v : Value) (hg : Region.wanted o (yielded ops a.tmps) = true) (hrun : (execOp a.eval o).run P w = .ok (.value v) w) (h : Gst P ops w K rest (a.put o.dst v)) : Gst P ops w K (o :: rest) a := by
  refine ⟨?_⟩
  unfold wpStill
  rw [if_pos hg]
  unfold Oper.still
  rw [hrun]
  exact ⟨rfl, h.out⟩
theorem st_no (o : Oper) (hg : Region.wanted o (yielded ops a.tmps) = false) (h : Gst P ops w K rest (a.put o.dst undef)) : Gst P ops w K (o :: rest) a := by
  refine ⟨?_⟩
  unfold wpStill
  rw [if_neg (by simp [hg])]
  exact h.out
theorem st_call (o : Oper) (f : FuncId) (args : Array Value) (v : Value) (hg : Region.wanted o (yielded ops a.tmps) = true)
    (hc : o.op = .call { callee := .value (.func f), args := callArgs o, argTypes := callTypes o }) (hargs : (callArgs o).map a.eval = args) (he : ∀ args w, (callFunc f args).run P w = .ok (.enter f args) w)
    (hcall : Calls P f args w fun e w' => e = .returned v ∧ w = w') (h : Gst P ops w K rest (a.put o.dst v)) : Gst P ops w K (o :: rest) a := by
  refine ⟨?_⟩
  unfold wpStill
  rw [if_pos hg]
  unfold Oper.still execOp
  simp only [hc, resolve, hargs, Act.eval, Sem.run_bind, Deferred.ofValue, Sem.run_pure, Result.andThen_ok, invoke, Array.append_empty, Array.empty_append, he]
  exact ⟨rfl, v, hcall.mono (fun _ _ ⟨h1, h2⟩ => ⟨h1, h2.symm⟩), h.out⟩
theorem st_end (h : K a) : Gst P ops w K [] a := ⟨h⟩
theorem ls_end (h : Q .normal a w) : Gls P ops Q [] a w := ⟨h⟩
theorem ls_run (o : Oper) {w' : World} (v : Value) (hg : Region.wanted o (yielded ops a.tmps) = true) (hrun : (execOp a.eval o).run P w = .ok (.value v) w') (h : Gls P ops Q rest (a.put o.dst v) w') : Gls P ops Q (o :: rest) a w := by
  refine ⟨?_⟩
  unfold wpList
  rw [if_pos hg]
  left
  unfold Oper.wp
  rw [hrun]; exact h.out
theorem ls_skip (o : Oper) {w' : World} (hg : Region.wanted o (yielded ops a.tmps) = true) (hrun : (execOp a.eval o).run P w = .ok .skip w') (h : Gls P ops Q rest (a.put o.dst undef) w') : Gls P ops Q (o :: rest) a w := by
  refine ⟨?_⟩
  unfold wpList
  rw [if_pos hg]
  left
  unfold Oper.wp
  rw [hrun]; exact h.out
end
end
section
variable {P : Program} {Q : Exit → Act → World → Prop} {a : Act} {w : World} {ops : Array Oper} {i : Nat} {S : World → Prop} {fuel : Nat} {l : Array Bool}
structure Gany (P : Program) (ops : Array Oper) (Q : Exit → Act → World → Prop) (S : World → Prop) (fuel : Nat) (l : Array Bool) (a : Act) (w : World) : Prop where
  out : wpAnyH P .any ops Q S fuel l a w
structure Gone (P : Program) (ops : Array Oper) (Q : Exit → Act → World → Prop) (S : World → Prop) (fuel : Nat) (l : Array Bool) (i : Nat) (a : Act) (w : World) : Prop where
  out : wpOp P ops Q i (fun a' w' => S w' ∧ Gany P ops Q S fuel l a' w') a w
theorem an_begin {c : Code} (id n : Nat) (ops : Array Oper) (S : World → Prop) (l : Array Bool) (hc : c = .region id ops true) (hm : P.follows .mixedOrders = true) (hn : ops.size = n) (hl : Array.replicate n false = l) (h : Gany P ops (NoPanic Q) S n l a w.drew) : RegW P c (NoPanic Q) a w := rg_held id ops S n l hc hm hn hl h.out
theorem an_val (i : Nat) (o : Oper) (v : Value) (hs : Region.noSelect ops = true) (ho : ops[i]? = some o) (hg : Region.wanted o (yielded ops a.tmps) = true) (hf : Region.free .any ops l i = true) (hr : (Region.ready .any ops l).contains i = true)
    (hrun : ∀ W, S W → (execOp a.eval o).run P W = .ok (.value v) W) (hS : S w) (h : Gany P ops (NoPanic Q) S fuel (l.setIfInBounds i true) (a.put o.dst v) w) : Gany P ops (NoPanic Q) S (fuel + 1) l a w :=
  ⟨wpAnyH_val (i := i) o v hs (fun _ _ _ _ _ h => h) ho hg hf hr hrun hS h.out⟩
theorem an_no (i : Nat) (o : Oper) (hs : Region.noSelect ops = true) (ho : ops[i]? = some o) (hg : Region.wanted o (yielded ops a.tmps) = false) (hf : Region.free .any ops l i = true) (hr : (Region.ready .any ops l).contains i = true)
    (hS : S w) (h : Gany P ops (NoPanic Q) S fuel (l.setIfInBounds i true) (a.put o.dst undef) w) : Gany P ops (NoPanic Q) S (fuel + 1) l a w :=
  ⟨wpAnyH_skip (i := i) o hs (fun _ _ _ _ _ h => h) ho hg hf hr hS h.out⟩
theorem an_one (i : Nat) (hr : Region.ready .any ops l = [i]) (h : Gone P ops Q S fuel (l.setIfInBounds i true) i a w) : Gany P ops Q S (fuel + 1) l a w :=
  ⟨wpAnyH_all hr (by simp) fun j hj => by obtain rfl : j = i := by simpa using hj
                                          exact wpOp_mono (fun _ _ h => ⟨h.1, h.2.out⟩) h.out⟩
theorem an_two (i j : Nat) (hr : Region.ready .any ops l = [i, j]) (h1 : Gone P ops Q S fuel (l.setIfInBounds i true) i a w) (h2 : Gone P ops Q S fuel (l.setIfInBounds j true) j a w) : Gany P ops Q S (fuel + 1) l a w :=
  ⟨anyH_two i j hr (wpOp_mono (fun _ _ h => ⟨h.1, h.2.out⟩) h1.out) (wpOp_mono (fun _ _ h => ⟨h.1, h.2.out⟩) h2.out)⟩
theorem an_end (hr : Region.ready .any ops l = []) (h : Q .normal a w) : Gany P ops (NoPanic Q) S fuel l a w := ⟨wpAnyH_done hr (NoPanic.normal h) _⟩
theorem on_run (o : Oper) (v : Value) {w' : World} (ho : ops[i]? = some o) (hg : Region.wanted o (yielded ops a.tmps) = true) (hrun : (execOp a.eval o).run P w = .ok (.value v) w') (h : S w' ∧ Gany P ops Q S fuel l (a.put o.dst v) w') : Gone P ops Q S fuel l i a w :=
  ⟨opH_run o v ho hg hrun h⟩
theorem on_skip (o : Oper) {w' : World} (ho : ops[i]? = some o) (hg : Region.wanted o (yielded ops a.tmps) = true) (hrun : (execOp a.eval o).run P w = .ok .skip w') (h : S w' ∧ Gany P ops Q S fuel l (a.put o.dst undef) w') : Gone P ops Q S fuel l i a w := by
  refine ⟨?_⟩
  unfold wpOp
  simp only [ho, hg, if_true]
  refine .inl ?_
  unfold Oper.wp
  rw [hrun]; exact h
theorem on_call (o : Oper) (f : FuncId) (args : Array Value) (ho : ops[i]? = some o) (hg : Region.wanted o (yielded ops a.tmps) = true)
    (hc : o.op = .call { callee := .value (.func f), args := callArgs o, argTypes := callTypes o }) (hargs : (callArgs o).map a.eval = args) (he : ∀ args w, (callFunc f args).run P w = .ok (.enter f args) w)
    (h : Calls P f args w fun e w' => ∃ v, e = .returned v ∧ S w' ∧ Gany P ops Q S fuel l (a.put o.dst v) w') : Gone P ops Q S fuel l i a w := ⟨opH_callF o f args ho hg hc hargs he h⟩
end
section
variable {P : Program} {o : Oper} {ρ : Operand → Value} {w : World}
theorem wrapI (x r : Int) (h : x = r) (h1 : -9223372036854775808 ≤ r) (h2 : r ≤ 9223372036854775807) : IntKind.i64.wrap x = r := by
  subst h; rw [IntKind.wrap_i64]; omega
theorem wrapN (n : Nat) (h : n ≤ 9223372036854775807) : IntKind.i64.wrap (n : Int) = (n : Int) := wrapI _ _ rfl (by omega) (by omega)
theorem wrapU (n : Nat) (h : n < 18446744073709551616) : IntKind.u64.wrap (n : Int) = (n : Int) := by
  show ((n : Int) % (2 ^ 64 : Int)) = n
  omega
theorem exec_store_cell (ty : TypeId) (x y : Operand) (ho : o.op = .store ty x y) (b k : Nat) (hx : ρ x = .pointer (some ⟨b, k, none⟩)) (v : Value) (hy : ρ y = v) (hs : (P.info? ty).map (·.size) = some 1) (hv : v.cells = #[v])
    (old : Value) (hc : w.cell? ⟨b, k, none⟩ = some old) (hf : w.frozen? ⟨b, k, none⟩ = false) (h1 : v.oneCell' = true) : (execOp ρ o).run P w = .ok .skip (w.setCell ⟨b, k, none⟩ v) := by
  obtain ⟨i, hi, h2⟩ := Option.map_eq_some_iff.1 hs
  unfold execOp
  simp only [ho, hx, hy, Instr.storeAt, Instr.sureAddr, Sem.run_bind, Sem.run_pure, Result.andThen_ok, storeVar, hv, sizeOf, typeInfo]
  simp [go_sem, hi, h2, storeCells, run_store _ _ _ _ _ h1, Addr.add_lit, stored, hc, hf, Result.andThen]
theorem exec_indexAt_arr (t : TypeId) (x y : Operand) (ho : o.op = .indexAddr t x y) (b of : Nat) (hx : ρ x = .pointer (some ⟨b, of, none⟩)) (kd : IntKind) (k : Nat) (hy : ρ y = .int kd (k : Int)) (n : Nat) (e : TypeId) (size : Nat) (hu : P.underlying t = some (.array n e))
    (hs : (P.info? e).map (·.size) = some size) (hk : k < n) : (execOp ρ o).run P w = .ok (.value (.pointer (some ⟨b, of + k * size, none⟩))) w := by
  obtain ⟨i, hi, rfl⟩ := Option.map_eq_some_iff.1 hs
  unfold execOp
  simp [ho, hx, hy, Instr.indexAt, asIntOf, run_underlying hu, Instr.sureAddr, go_sem, hk, sizeOf, typeInfo, hi, Addr.add]
theorem exec_indexAt_slice (t : TypeId) (x y : Operand) (ho : o.op = .indexAddr t x y) (b of : Nat) (n cap : Nat) (hx : ρ x = .slice (some ⟨b, of, none⟩) n cap) (kd : IntKind) (k : Nat) (hy : ρ y = .int kd (k : Int)) (e : TypeId) (size : Nat) (hu : P.underlying t = some (.slice e))
    (hs : (P.info? e).map (·.size) = some size) (hk : k < n) : (execOp ρ o).run P w = .ok (.value (.pointer (some ⟨b, of + k * size, none⟩))) w := by
  obtain ⟨i, hi, rfl⟩ := Option.map_eq_some_iff.1 hs
  unfold execOp
  simp [ho, hx, hy, Instr.indexAt, asIntOf, run_underlying hu, Instr.sureAddr, go_sem, hk, sizeOf, typeInfo, hi, Addr.add]
theorem exec_index_arr (t : TypeId) (x y : Operand) (ho : o.op = .index t x y) (cs : Array Value) (hx : ρ x = .agg cs) (kd : IntKind) (k : Nat) (hy : ρ y = .int kd (k : Int)) (n : Nat) (e : TypeId) (hu : P.underlying t = some (.array n e)) (he : P.plainKey e = true)
    (hs : (P.info? e).map (·.size) = some 1) (hk : k < n) (v : Value) (hv : cs[k]? = some v) : (execOp ρ o).run P w = .ok (.value v) w := by
  obtain ⟨i, hi, h1⟩ := Option.map_eq_some_iff.1 hs
  have hp := run_part_plain (P := P) w he (xs := cs) (off := k) hv
  have h0 : (0 : Int) ≤ (k : Int) ∧ (k : Int) < (n : Int) := by omega
  unfold execOp
  simp only [ho, hx, hy, Instr.index, asIntOf, Sem.run_bind, Sem.run_pure, Result.andThen_ok, run_underlying hu, if_pos h0]
  rw [show (sizeOf e).run P w = .ok 1 w by simp [go_sem, sizeOf, typeInfo, hi, h1]]
  simp only [Result.andThen_ok, Int.toNat_natCast, Nat.mul_one, hp]
theorem exec_box (t : TypeId) (x : Operand) (ho : o.op = .box t x) (v : Value) (hx : ρ x = v) : (execOp ρ o).run P w = .ok (.value (.pointer (some ⟨w.heap.size, 0, none⟩))) (w.alloc (.cells v.cells t)) := by
  unfold execOp
  simp only [ho, hx, Instr.box, Sem.run_bind, Result.andThen_ok, Sem.run_pure]
  simp [go_sem]
theorem exec_alloc0 (t : TypeId) (ho : o.op = .alloc t) (z : Value) (hr : (zeroValue t).run P w = .ok z w) :
    (execOp ρ o).run P w = .ok (.value (.pointer (some ⟨w.heap.size, 0, none⟩))) (w.alloc (.cells z.cells t)) := by
  unfold execOp
  simp only [ho, Instr.alloc, Sem.run_bind, hr, Result.andThen_ok, Sem.run_pure]
  simp [go_sem]
theorem exec_len (x : Operand) (t e : TypeId) (ho : o.op = .call { callee := .builtin .len, args := #[x], argTypes := #[t] }) (ht : P.underlying t = some (.slice e)) (A : Option Addr) (n cap : Nat) (hx : ρ x = .slice A n cap) : (execOp ρ o).run P w = .ok (.value (.int .i64 (n : Int))) w := by
  unfold execOp
  simp [ho, hx, resolve, invoke, builtin, Builtin.len_, run_underlying ht, go_sem]
end
section
variable {P : Program} {Q : Exit → Act → World → Prop} {a : Act} {w : World} {ops : Array Oper} {i : Nat} {rest : List Nat}
theorem ent {f : FuncId} {fn : Func} (hf : P.funcs[f]? = some fn) (hn : (fn.name == "runtime.NumGoroutine") = false) (hb : fn.body.isSome = true) : ∀ args w, (callFunc f args).run P w = .ok (.enter f args) w := by
  obtain ⟨c, hc⟩ := Option.isSome_iff_exists.1 hb
  exact Go.Proofs.enters_of hf hn hc
end
section
variable {P : Program} {w : World} {a : Act} {ops : Array Oper} {rest : List Oper} {K : Act → Prop}
end
section
variable {P : Program} {Q : Exit → Act → World → Prop} {a : Act} {w : World} {ops : Array Oper} {i : Nat} {S : World → Prop} {fuel : Nat} {l : Array Bool}
theorem an_o (i : Nat) (h : Gone P ops Q S fuel (l.setIfInBounds i true) i a w) (hr : Region.ready .any ops l = [i] := by kernel_rfl) : Gany P ops Q S (fuel + 1) l a w := an_one i hr h
end
section
variable {P : Program} {o : Oper} {ρ : Operand → Value} {w : World}
theorem rc {g j : Nat} {cs : Array Value} {t : TypeId} {fr : Nat × Nat} {v : Value} (hg : w.heap[g]? = some (.cells cs t fr)) (h : cs[j]? = some v) : w.cell? ⟨g, j, none⟩ = some v := (cell_of_row _ _ _ _ _ _ hg).trans h
theorem exec_ld (ty : TypeId) (x : Operand) (g j : Nat) {d : TypeDesc} {v : Value} (hu : P.underlying ty = some d) (hc : w.cell? ⟨g, j, none⟩ = some v) (ho : o.op = .load ty x := by kernel_rfl) (hx : ρ x = .pointer (some ⟨g, j, none⟩) := by kernel_rfl)
    (hd : (match d with | .struct _ | .array _ _ => false | _ => true) = true := by rfl) : (execOp ρ o).run P w = .ok (.value v) w := exec_load_cell ty x ho _ hx d v hu hd hc
theorem dct (p : Prop) [Decidable p] (h : p) (hr : (execOp ρ o).run P w = .ok (.value (.bool (decide p))) w := by kernel_rfl) : (execOp ρ o).run P w = .ok (.value (.bool true)) w := by rw [decide_eq_true h] at hr; exact hr
theorem dcf (p : Prop) [Decidable p] (h : ¬ p) (hr : (execOp ρ o).run P w = .ok (.value (.bool (decide p))) w := by kernel_rfl) : (execOp ρ o).run P w = .ok (.value (.bool false)) w := by rw [decide_eq_false h] at hr; exact hr
theorem eqt (x y : Int) (h : x = y) (hr : (execOp ρ o).run P w = .ok (.value (.bool (x == y))) w := by kernel_rfl) : (execOp ρ o).run P w = .ok (.value (.bool true)) w := by rw [beq_iff_eq.2 h] at hr; exact hr
theorem eqf (x y : Int) (h : ¬ x = y) (hr : (execOp ρ o).run P w = .ok (.value (.bool (x == y))) w := by kernel_rfl) : (execOp ρ o).run P w = .ok (.value (.bool false)) w := by rw [beq_eq_false_iff_ne.2 h] at hr; exact hr
theorem nqt (x y : Int) (h : ¬ x = y) (hr : (execOp ρ o).run P w = .ok (.value (.bool (x != y))) w := by kernel_rfl) : (execOp ρ o).run P w = .ok (.value (.bool true)) w := by rw [bne_iff_ne.2 h] at hr; exact hr
theorem nqf (x y : Int) (h : x = y) (hr : (execOp ρ o).run P w = .ok (.value (.bool (x != y))) w := by kernel_rfl) : (execOp ρ o).run P w = .ok (.value (.bool false)) w := by rw [bne_eq_false_iff_eq.2 h] at hr; exact hr
end
abbrev ud : Value := undef
section
variable {P : Program} {Q : Exit → Act → World → Prop} {a : Act} {w : World} {c : Code}
end
section
variable {P : Program} {Q : Exit → Act → World → Prop} {a : Act} {w : World} {ops : Array Oper} {i : Nat} {rest : List Nat}
theorem ppq (v : Value) (hrun : (execOp a.eval (ops.getD i default)).run P w = .ok (.value v) w) (h : Gops P ops Q rest (a.put (ops.getD i default).dst v) w) (ho : ops[i]? = some (ops.getD i default) := by kernel_rfl) (hg : Region.wanted (ops.getD i default) (yielded ops a.tmps) = true := by kernel_rfl) : Gops P ops Q (i :: rest) a w := ps_run _ v ho hg hrun h
theorem prq (v : Value) {w' : World} (hrun : (execOp a.eval (ops.getD i default)).run P w = .ok (.value v) w') (h : Gops P ops Q rest (a.put (ops.getD i default).dst v) w') (ho : ops[i]? = some (ops.getD i default) := by kernel_rfl) (hg : Region.wanted (ops.getD i default) (yielded ops a.tmps) = true := by kernel_rfl) : Gops P ops Q (i :: rest) a w := ps_run _ v ho hg hrun h
theorem pzq {w' : World} (hrun : (execOp a.eval (ops.getD i default)).run P w = .ok .skip w') (h : Gops P ops Q rest (a.put (ops.getD i default).dst undef) w') (ho : ops[i]? = some (ops.getD i default) := by kernel_rfl) (hg : Region.wanted (ops.getD i default) (yielded ops a.tmps) = true := by kernel_rfl) : Gops P ops Q (i :: rest) a w := ps_skip _ ho hg hrun h
theorem pcq (f : FuncId) (args : Array Value) {fn : Func} (hf : P.funcs[f]? = some fn) (h : Calls P f args w fun e w' => ∃ v, e = .returned v ∧ Gops P ops Q rest (a.put (ops.getD i default).dst v) w') (ho : ops[i]? = some (ops.getD i default) := by kernel_rfl) (hg : Region.wanted (ops.getD i default) (yielded ops a.tmps) = true := by kernel_rfl)
    (hc : (ops.getD i default).op = .call { callee := .value (.func f), args := callArgs (ops.getD i default), argTypes := callTypes (ops.getD i default) } := by kernel_rfl) (hargs : (callArgs (ops.getD i default)).map a.eval = args := by kernel_rfl) (hn : (fn.name == "runtime.NumGoroutine") = false := by kernel_rfl) (hb : fn.body.isSome = true := by kernel_rfl) : Gops P ops Q (i :: rest) a w :=
  ps_call _ f args ho hg hc hargs (ent hf hn hb) h
end
section
variable {P : Program} {w : World} {a : Act} {ops : Array Oper} {rest : List Oper} {K : Act → Prop} {o : Oper}
theorem spq (v : Value) (hrun : (execOp a.eval o).run P w = .ok (.value v) w) (h : Gst P ops w K rest (a.put o.dst v)) (hg : Region.wanted o (yielded ops a.tmps) = true := by kernel_rfl) : Gst P ops w K (o :: rest) a := st_run o v hg hrun h
theorem scq (f : FuncId) (args : Array Value) (v : Value) {fn : Func} (hf : P.funcs[f]? = some fn) (hcall : Calls P f args w fun e w' => e = .returned v ∧ w = w') (h : Gst P ops w K rest (a.put o.dst v)) (hg : Region.wanted o (yielded ops a.tmps) = true := by kernel_rfl)
    (hc : o.op = .call { callee := .value (.func f), args := callArgs o, argTypes := callTypes o } := by kernel_rfl) (hargs : (callArgs o).map a.eval = args := by kernel_rfl) (hn : (fn.name == "runtime.NumGoroutine") = false := by kernel_rfl) (hb : fn.body.isSome = true := by kernel_rfl) : Gst P ops w K (o :: rest) a :=
  st_call o f args v hg hc hargs (ent hf hn hb) hcall h
end
section
variable {P : Program} {Q : Exit → Act → World → Prop} {a : Act} {w : World} {ops : Array Oper} {i : Nat} {S : World → Prop} {fuel : Nat} {l : Array Bool}
theorem avq (i : Nat) (v : Value) (hrun : ∀ W, S W → (execOp a.eval (ops.getD i default)).run P W = .ok (.value v) W) (hS : S w) (h : Gany P ops (NoPanic Q) S fuel (l.setIfInBounds i true) (a.put (ops.getD i default).dst v) w) (hs : Region.noSelect ops = true := by kernel_rfl) (ho : ops[i]? = some (ops.getD i default) := by kernel_rfl)
    (hg : Region.wanted (ops.getD i default) (yielded ops a.tmps) = true := by kernel_rfl) (hf : Region.free .any ops l i = true := by kernel_rfl) (hr : (Region.ready .any ops l).contains i = true := by kernel_rfl) : Gany P ops (NoPanic Q) S (fuel + 1) l a w := an_val i _ v hs ho hg hf hr hrun hS h
theorem nrq (v : Value) {w' : World} (hrun : (execOp a.eval (ops.getD i default)).run P w = .ok (.value v) w') (h : S w' ∧ Gany P ops Q S fuel l (a.put (ops.getD i default).dst v) w') (ho : ops[i]? = some (ops.getD i default) := by kernel_rfl) (hg : Region.wanted (ops.getD i default) (yielded ops a.tmps) = true := by kernel_rfl) : Gone P ops Q S fuel l i a w := on_run _ v ho hg hrun h
theorem nzq {w' : World} (hrun : (execOp a.eval (ops.getD i default)).run P w = .ok .skip w') (h : S w' ∧ Gany P ops Q S fuel l (a.put (ops.getD i default).dst undef) w') (ho : ops[i]? = some (ops.getD i default) := by kernel_rfl) (hg : Region.wanted (ops.getD i default) (yielded ops a.tmps) = true := by kernel_rfl) : Gone P ops Q S fuel l i a w := on_skip _ ho hg hrun h
theorem ncq (f : FuncId) (args : Array Value) {fn : Func} (hf : P.funcs[f]? = some fn) (h : Calls P f args w fun e w' => ∃ v, e = .returned v ∧ S w' ∧ Gany P ops Q S fuel l (a.put (ops.getD i default).dst v) w') (ho : ops[i]? = some (ops.getD i default) := by kernel_rfl) (hg : Region.wanted (ops.getD i default) (yielded ops a.tmps) = true := by kernel_rfl)
    (hc : (ops.getD i default).op = .call { callee := .value (.func f), args := callArgs (ops.getD i default), argTypes := callTypes (ops.getD i default) } := by kernel_rfl) (hargs : (callArgs (ops.getD i default)).map a.eval = args := by kernel_rfl) (hn : (fn.name == "runtime.NumGoroutine") = false := by kernel_rfl) (hb : fn.body.isSome = true := by kernel_rfl) : Gone P ops Q S fuel l i a w :=
  on_call _ f args ho hg hc hargs (ent hf hn hb) h
end
section
variable {P : Program} {Q : Exit → Act → World → Prop} {a : Act} {w : World} {f : Func} {n : Nat} {ops : Array Oper}
def condO : Code → Operand
  | .cond o _ _ => o
  | _ => .const undef
def regI : Code → Nat
  | .region i _ _ => i
  | _ => 0
theorem q_ (h : (partOf f (2 * n)).wp P (Exit.then ((partOf f (2 * n + 1)).wp P Q) Q) a w) (hc : partOf f n = .seq (partOf f (2 * n)) (partOf f (2 * n + 1)) := by kernel_rfl) : (partOf f n).wp P Q a w := sy_seq _ _ hc h
theorem r_ (l : List Nat) (h : Gops P (opsAt (partOf f n)) Q l a w) (hc : partOf f n = .region (regI (partOf f n)) (opsAt (partOf f n)) false := by kernel_rfl) (hl : List.range (opsAt (partOf f n)).size = l := by kernel_rfl) : (partOf f n).wp P Q a w := sy_reg (rg_plain _ _ l hc hl h)
theorem qr_ (l : List Nat) (h : Gops P (opsAt (partOf f (2 * n))) (Exit.then ((partOf f (2 * n + 1)).wp P Q) Q) l a w) (hc : partOf f n = .seq (partOf f (2 * n)) (partOf f (2 * n + 1)) := by kernel_rfl) (hr : partOf f (2 * n) = .region (regI (partOf f (2 * n))) (opsAt (partOf f (2 * n))) false := by kernel_rfl) (hl : List.range (opsAt (partOf f (2 * n))).size = l := by kernel_rfl) : (partOf f n).wp P Q a w := sy_seq _ _ hc (sy_reg (rg_plain _ _ l hr hl h))
theorem y_ (h : (partOf f (2 * n)).wp P Q a w) (hc : partOf f n = .cond (condO (partOf f n)) (partOf f (2 * n)) (partOf f (2 * n + 1)) := by kernel_rfl) (ho : a.eval (condO (partOf f n)) = .bool true := by kernel_rfl) : (partOf f n).wp P Q a w := sy_yes _ _ _ hc ho h
theorem n_ (h : (partOf f (2 * n + 1)).wp P Q a w) (hc : partOf f n = .cond (condO (partOf f n)) (partOf f (2 * n)) (partOf f (2 * n + 1)) := by kernel_rfl) (ho : a.eval (condO (partOf f n)) = .bool false := by kernel_rfl) : (partOf f n).wp P Q a w := sy_no _ _ _ hc ho h
theorem bl_ (id : Nat) (h : (partOf f (2 * n)).wp P (Exit.inBlock id Q) a w) (hc : partOf f n = .block id (partOf f (2 * n)) := by kernel_rfl) : (partOf f n).wp P Q a w := sy_block id _ hc h
theorem s_ (h : Q .normal a w) (hc : partOf f n = .skip := by kernel_rfl) : (partOf f n).wp P Q a w := sy_skip hc h
theorem u_ (h : Q .ret a w) (hc : partOf f n = .ret := by kernel_rfl) : (partOf f n).wp P Q a w := sy_ret hc h
theorem et_ {next : Act → World → Prop} (h : next a w) : Gops P ops (Exit.then next Q) [] a w := ps_end (then_n h)
theorem eq_ (h : (partOf f (2 * n)).wp P (Exit.then ((partOf f (2 * n + 1)).wp P Q) Q) a w) (hc : partOf f n = .seq (partOf f (2 * n)) (partOf f (2 * n + 1)) := by kernel_rfl) : Gops P ops (Exit.then ((partOf f n).wp P Q) Q) [] a w := et_ (q_ h hc)
theorem er_ (l : List Nat) (h : Gops P (opsAt (partOf f n)) Q l a w) (hc : partOf f n = .region (regI (partOf f n)) (opsAt (partOf f n)) false := by kernel_rfl) (hl : List.range (opsAt (partOf f n)).size = l := by kernel_rfl) : Gops P ops (Exit.then ((partOf f n).wp P Q) Q) [] a w := et_ (r_ l h hc hl)
theorem eqr_ (l : List Nat) (h : Gops P (opsAt (partOf f (2 * n))) (Exit.then ((partOf f (2 * n + 1)).wp P Q) Q) l a w) (hc : partOf f n = .seq (partOf f (2 * n)) (partOf f (2 * n + 1)) := by kernel_rfl) (hr : partOf f (2 * n) = .region (regI (partOf f (2 * n))) (opsAt (partOf f (2 * n))) false := by kernel_rfl) (hl : List.range (opsAt (partOf f (2 * n))).size = l := by kernel_rfl) : Gops P ops (Exit.then ((partOf f n).wp P Q) Q) [] a w := et_ (qr_ l h hc hr hl)
theorem ey_ (h : (partOf f (2 * n)).wp P Q a w) (hc : partOf f n = .cond (condO (partOf f n)) (partOf f (2 * n)) (partOf f (2 * n + 1)) := by kernel_rfl) (ho : a.eval (condO (partOf f n)) = .bool true := by kernel_rfl) : Gops P ops (Exit.then ((partOf f n).wp P Q) Q) [] a w := et_ (y_ h hc ho)
theorem en_ (h : (partOf f (2 * n + 1)).wp P Q a w) (hc : partOf f n = .cond (condO (partOf f n)) (partOf f (2 * n)) (partOf f (2 * n + 1)) := by kernel_rfl) (ho : a.eval (condO (partOf f n)) = .bool false := by kernel_rfl) : Gops P ops (Exit.then ((partOf f n).wp P Q) Q) [] a w := et_ (n_ h hc ho)
theorem eu_ (h : Q .ret a w) (hc : partOf f n = .ret := by kernel_rfl) : Gops P ops (Exit.then ((partOf f n).wp P Q) Q) [] a w := et_ (u_ h hc)
theorem tq_ (h : (partOf f (2 * n)).wp P (Exit.then ((partOf f (2 * n + 1)).wp P Q) Q) a w) (hc : partOf f n = .seq (partOf f (2 * n)) (partOf f (2 * n + 1)) := by kernel_rfl) : Exit.then ((partOf f n).wp P Q) Q .normal a w := then_n (q_ h hc)
theorem tr_ (l : List Nat) (h : Gops P (opsAt (partOf f n)) Q l a w) (hc : partOf f n = .region (regI (partOf f n)) (opsAt (partOf f n)) false := by kernel_rfl) (hl : List.range (opsAt (partOf f n)).size = l := by kernel_rfl) : Exit.then ((partOf f n).wp P Q) Q .normal a w := then_n (r_ l h hc hl)
theorem tqr_ (l : List Nat) (h : Gops P (opsAt (partOf f (2 * n))) (Exit.then ((partOf f (2 * n + 1)).wp P Q) Q) l a w) (hc : partOf f n = .seq (partOf f (2 * n)) (partOf f (2 * n + 1)) := by kernel_rfl) (hr : partOf f (2 * n) = .region (regI (partOf f (2 * n))) (opsAt (partOf f (2 * n))) false := by kernel_rfl) (hl : List.range (opsAt (partOf f (2 * n))).size = l := by kernel_rfl) : Exit.then ((partOf f n).wp P Q) Q .normal a w := then_n (qr_ l h hc hr hl)
theorem so_ {fn : Func} {R : Ending → World → Prop} (v : Value) (h : R (.returned v) w) (hd : a.defers = [] := by rfl) (hr : (results fn a.tmps).run P w = .ok v w := by kernel_rfl) : bodyPost P fn R .ret a w := sy_out v hd hr h
end
section
variable {P : Program} {Q : Exit → Act → World → Prop} {a : Act} {w : World} {ops : Array Oper} {i : Nat} {rest : List Nat} {S : World → Prop} {fuel : Nat} {l : Array Bool}
def boxX : Op → Operand
  | .box _ x => x
  | _ => .const undef
def stoX : Op → Operand
  | .store _ x _ => x
  | _ => .const undef
def stoY : Op → Operand
  | .store _ _ y => y
  | _ => .const undef
def ldX : Op → Operand
  | .load _ x => x
  | _ => .const undef
def isRow (P : Program) (T : TypeId) : Bool := match P.underlying T with | some d => (match d with | .struct _ | .array _ _ => true | _ => false) | none => false
def notRow (P : Program) (T : TypeId) : Bool := match P.underlying T with | some d => (match d with | .struct _ | .array _ _ => false | _ => true) | none => false
theorem pal (T : TypeId) (c : Array Value) (z : Value) (h : ∀ V g, w.heap.size = g → V.heap[g]? = some (.cells c T (0, 0)) → Keeps Nob w V → Gops P ops Q rest (a.put (ops.getD i default).dst (pT g 0)) V) (h1 : (ops.getD i default).op = .alloc T := by kernel_rfl) (h2 : ∀ W, (zeroValue T).run P W = .ok z W := by intro W; kernel_rfl) (h3 : z.cells = c := by kernel_rfl) (ho : ops[i]? = some (ops.getD i default) := by kernel_rfl) (hg : Region.wanted (ops.getD i default) (yielded ops a.tmps) = true := by kernel_rfl) : Gops P ops Q (i :: rest) a w := by
  obtain ⟨V, eV, g, eg, hh, k⟩ := alloc_step w c T
  refine ps_run _ (pT g 0) (w' := V) ho hg ?_ (h V g eg hh k)
  subst h3; rw [← eV, ← eg]; exact exec_alloc0 T h1 z (h2 w)
theorem nal (T : TypeId) (c : Array Value) (z : Value) (h : ∀ V g, w.heap.size = g → V.heap[g]? = some (.cells c T (0, 0)) → Keeps Nob w V → S V ∧ Gany P ops Q S fuel l (a.put (ops.getD i default).dst (pT g 0)) V) (h1 : (ops.getD i default).op = .alloc T := by kernel_rfl) (h2 : ∀ W, (zeroValue T).run P W = .ok z W := by intro W; kernel_rfl) (h3 : z.cells = c := by kernel_rfl) (ho : ops[i]? = some (ops.getD i default) := by kernel_rfl) (hg : Region.wanted (ops.getD i default) (yielded ops a.tmps) = true := by kernel_rfl) : Gone P ops Q S fuel l i a w := by
  obtain ⟨V, eV, g, eg, hh, k⟩ := alloc_step w c T
  refine on_run _ (pT g 0) (w' := V) ho hg ?_ (h V g eg hh k)
  subst h3; rw [← eV, ← eg]; exact exec_alloc0 T h1 z (h2 w)
theorem pbx (T : TypeId) (c : Array Value) (v : Value) (h : ∀ V g, w.heap.size = g → V.heap[g]? = some (.cells c T (0, 0)) → Keeps Nob w V → Gops P ops Q rest (a.put (ops.getD i default).dst (pT g 0)) V) (h1 : (ops.getD i default).op = .box T (boxX (ops.getD i default).op) := by kernel_rfl) (h2 : a.eval (boxX (ops.getD i default).op) = v := by kernel_rfl) (h3 : v.cells = c := by kernel_rfl) (ho : ops[i]? = some (ops.getD i default) := by kernel_rfl) (hg : Region.wanted (ops.getD i default) (yielded ops a.tmps) = true := by kernel_rfl) : Gops P ops Q (i :: rest) a w := by
  obtain ⟨V, eV, g, eg, hh, k⟩ := alloc_step w c T
  refine ps_run _ (pT g 0) (w' := V) ho hg ?_ (h V g eg hh k)
  subst h3; rw [← eV, ← eg]; exact exec_box T _ h1 v h2
theorem nbx (T : TypeId) (c : Array Value) (v : Value) (h : ∀ V g, w.heap.size = g → V.heap[g]? = some (.cells c T (0, 0)) → Keeps Nob w V → S V ∧ Gany P ops Q S fuel l (a.put (ops.getD i default).dst (pT g 0)) V) (h1 : (ops.getD i default).op = .box T (boxX (ops.getD i default).op) := by kernel_rfl) (h2 : a.eval (boxX (ops.getD i default).op) = v := by kernel_rfl) (h3 : v.cells = c := by kernel_rfl) (ho : ops[i]? = some (ops.getD i default) := by kernel_rfl) (hg : Region.wanted (ops.getD i default) (yielded ops a.tmps) = true := by kernel_rfl) : Gone P ops Q S fuel l i a w := by
  obtain ⟨V, eV, g, eg, hh, k⟩ := alloc_step w c T
  refine on_run _ (pT g 0) (w' := V) ho hg ?_ (h V g eg hh k)
  subst h3; rw [← eV, ← eg]; exact exec_box T _ h1 v h2
theorem pst (T : TypeId) (g : Nat) (c : Array Value) {T' : TypeId} {old : Array Value} (h0 : w.heap[g]? = some (.cells old T' (0, 0))) (hi : (P.info? T).map (·.size) = some c.size) (hold : old.size = c.size) (hone : c.all (·.oneCell') = true) (h : ∀ V, V.heap[g]? = some (.cells c T' (0, 0)) → Keeps (One g) w V → Gops P ops Q rest (a.put (ops.getD i default).dst undef) V) (h1 : (ops.getD i default).op = .store T (stoX (ops.getD i default).op) (stoY (ops.getD i default).op) := by kernel_rfl) (hx : a.eval (stoX (ops.getD i default).op) = pT g 0 := by kernel_rfl) (hy : a.eval (stoY (ops.getD i default).op) = .agg c := by kernel_rfl) (ho : ops[i]? = some (ops.getD i default) := by kernel_rfl) (hg : Region.wanted (ops.getD i default) (yielded ops a.tmps) = true := by kernel_rfl) : Gops P ops Q (i :: rest) a w := by
  obtain ⟨V, eV, k⟩ := rowset_step w g c
  refine ps_skip _ (w' := V) ho hg ?_ (h V (eV ▸ setRow_heap _ _ _ _ _ _ h0) k)
  rw [← eV]; exact exec_store_row T _ _ h1 g c hx hy T' old h0 hi hold hone
theorem nst (T : TypeId) (g : Nat) (c : Array Value) {T' : TypeId} {old : Array Value} (h0 : w.heap[g]? = some (.cells old T' (0, 0))) (hi : (P.info? T).map (·.size) = some c.size) (hold : old.size = c.size) (hone : c.all (·.oneCell') = true) (h : ∀ V, V.heap[g]? = some (.cells c T' (0, 0)) → Keeps (One g) w V → S V ∧ Gany P ops Q S fuel l (a.put (ops.getD i default).dst undef) V) (h1 : (ops.getD i default).op = .store T (stoX (ops.getD i default).op) (stoY (ops.getD i default).op) := by kernel_rfl) (hx : a.eval (stoX (ops.getD i default).op) = pT g 0 := by kernel_rfl) (hy : a.eval (stoY (ops.getD i default).op) = .agg c := by kernel_rfl) (ho : ops[i]? = some (ops.getD i default) := by kernel_rfl) (hg : Region.wanted (ops.getD i default) (yielded ops a.tmps) = true := by kernel_rfl) : Gone P ops Q S fuel l i a w := by
  obtain ⟨V, eV, k⟩ := rowset_step w g c
  refine on_skip _ (w' := V) ho hg ?_ (h V (eV ▸ setRow_heap _ _ _ _ _ _ h0) k)
  rw [← eV]; exact exec_store_row T _ _ h1 g c hx hy T' old h0 hi hold hone
theorem psk (T : TypeId) (g : Nat) (c : Array Value) {T' : TypeId} {old : Array Value} (h0 : w.heap[g]? = some (.cells old T' (0, 0))) (h : ∀ V, V.heap[g]? = some (.cells c T' (0, 0)) → Keeps (One g) w V → Gops P ops Q rest (a.put (ops.getD i default).dst undef) V) (h1 : (ops.getD i default).op = .store T (stoX (ops.getD i default).op) (stoY (ops.getD i default).op) := by kernel_rfl) (hx : a.eval (stoX (ops.getD i default).op) = pT g 0 := by kernel_rfl) (hy : a.eval (stoY (ops.getD i default).op) = .agg c := by kernel_rfl) (hi : (P.info? T).map (·.size) = some c.size := by kernel_rfl) (hold : old.size = c.size := by kernel_rfl) (hone : c.all (·.oneCell') = true := by kernel_rfl) (ho : ops[i]? = some (ops.getD i default) := by kernel_rfl) (hg : Region.wanted (ops.getD i default) (yielded ops a.tmps) = true := by kernel_rfl) : Gops P ops Q (i :: rest) a w := by
  obtain ⟨V, eV, k⟩ := rowset_step w g c
  refine ps_skip _ (w' := V) ho hg ?_ (h V (eV ▸ setRow_heap _ _ _ _ _ _ h0) k)
  rw [← eV]; exact exec_store_row T _ _ h1 g c hx hy T' old h0 hi hold hone
theorem pce (T : TypeId) (g k : Nat) (v : Value) (new : Array Value) {T' : TypeId} {old : Array Value} {u : Value} (h0 : w.heap[g]? = some (.cells old T' (0, 0))) (hu : w.cell? ⟨g, k, none⟩ = some u) (hup : old.setIfInBounds k v = new) (h : ∀ V, V.heap[g]? = some (.cells new T' (0, 0)) → Keeps (One g) w V → Gops P ops Q rest (a.put (ops.getD i default).dst undef) V) (h1 : (ops.getD i default).op = .store T (stoX (ops.getD i default).op) (stoY (ops.getD i default).op) := by kernel_rfl) (hx : a.eval (stoX (ops.getD i default).op) = pT g k := by kernel_rfl) (hy : a.eval (stoY (ops.getD i default).op) = v := by kernel_rfl) (hs : (P.info? T).map (·.size) = some 1 := by kernel_rfl) (hv : v.cells = #[v] := by kernel_rfl) (hone : v.oneCell' = true := by kernel_rfl) (ho : ops[i]? = some (ops.getD i default) := by kernel_rfl) (hg : Region.wanted (ops.getD i default) (yielded ops a.tmps) = true := by kernel_rfl) : Gops P ops Q (i :: rest) a w := by
  obtain ⟨V, eV, kk⟩ := cell_step w g k v
  refine ps_skip _ (w' := V) ho hg ?_ (h V (eV ▸ ((heap_setCell_same _ g k _ _ v h0).trans (congrArg (fun c => some (Obj.cells c T' (0, 0))) hup))) kk)
  rw [← eV]; exact exec_store_cell T _ _ h1 g k hx v hy hs hv u hu (frozen_of_row _ _ _ _ _ h0) hone
theorem nce (T : TypeId) (g k : Nat) (v : Value) (new : Array Value) {T' : TypeId} {old : Array Value} {u : Value} (h0 : w.heap[g]? = some (.cells old T' (0, 0))) (hu : w.cell? ⟨g, k, none⟩ = some u) (hup : old.setIfInBounds k v = new) (h : ∀ V, V.heap[g]? = some (.cells new T' (0, 0)) → Keeps (One g) w V → S V ∧ Gany P ops Q S fuel l (a.put (ops.getD i default).dst undef) V) (h1 : (ops.getD i default).op = .store T (stoX (ops.getD i default).op) (stoY (ops.getD i default).op) := by kernel_rfl) (hx : a.eval (stoX (ops.getD i default).op) = pT g k := by kernel_rfl) (hy : a.eval (stoY (ops.getD i default).op) = v := by kernel_rfl) (hs : (P.info? T).map (·.size) = some 1 := by kernel_rfl) (hv : v.cells = #[v] := by kernel_rfl) (hone : v.oneCell' = true := by kernel_rfl) (ho : ops[i]? = some (ops.getD i default) := by kernel_rfl) (hg : Region.wanted (ops.getD i default) (yielded ops a.tmps) = true := by kernel_rfl) : Gone P ops Q S fuel l i a w := by
  obtain ⟨V, eV, kk⟩ := cell_step w g k v
  refine on_skip _ (w' := V) ho hg ?_ (h V (eV ▸ ((heap_setCell_same _ g k _ _ v h0).trans (congrArg (fun c => some (Obj.cells c T' (0, 0))) hup))) kk)
  rw [← eV]; exact exec_store_cell T _ _ h1 g k hx v hy hs hv u hu (frozen_of_row _ _ _ _ _ h0) hone
theorem ldr {o : Oper} {ρ : Operand → Value} {W : World} (T : TypeId) (g : Nat) {T' : TypeId} {cs : Array Value} (h0 : W.heap[g]? = some (.cells cs T' (0, 0))) (hi : (P.info? T).map (·.size) = some cs.size) (h1 : o.op = .load T (ldX o.op) := by kernel_rfl) (hx : ρ (ldX o.op) = pT g 0 := by kernel_rfl) (hd : isRow P T = true := by kernel_rfl) : (execOp ρ o).run P W = .ok (.value (.agg cs)) W := by
  unfold isRow at hd
  cases hu : P.underlying T with
  | none => rw [hu] at hd; cases hd
  | some d => rw [hu] at hd; exact exec_load_row T _ h1 g hx _ _ (0, 0) d h0 hu (by cases d <;> exact hd) hi
theorem ldc {o : Oper} {ρ : Operand → Value} {W : World} (T : TypeId) (g k : Nat) {v : Value} (hc : W.cell? ⟨g, k, none⟩ = some v) (h1 : o.op = .load T (ldX o.op) := by kernel_rfl) (hx : ρ (ldX o.op) = pT g k := by kernel_rfl) (hd : notRow P T = true := by kernel_rfl) : (execOp ρ o).run P W = .ok (.value v) W := by
  unfold notRow at hd
  cases hu : P.underlying T with
  | none => rw [hu] at hd; cases hd
  | some d => rw [hu] at hd; exact exec_load_cell T _ h1 _ hx d v hu (by cases d <;> exact hd) hc
def ldT : Op → TypeId
  | .load t _ => t
  | _ => 0
def pO : Value → Nat
  | .pointer (some a) => a.off
  | _ => 0
theorem lk {o : Oper} {ρ : Operand → Value} {W : World} {g : Nat} {cs : Array Value} {T' : TypeId} (h0 : W.heap[g]? = some (.cells cs T' (0, 0))) (hc : (cs[pO (ρ (ldX o.op))]?, o.op, ρ (ldX o.op), notRow P (ldT o.op)) = (some (cs.getD (pO (ρ (ldX o.op))) undef), .load (ldT o.op) (ldX o.op), pT g (pO (ρ (ldX o.op))), true) := by kernel_rfl) : (execOp ρ o).run P W = .ok (.value (cs.getD (pO (ρ (ldX o.op))) undef)) W :=
  ldc _ g _ (rc h0 (congrArg (·.1) hc)) (congrArg (·.2.1) hc) (congrArg (·.2.2.1) hc) (congrArg (·.2.2.2) hc)
theorem lc {o : Oper} {ρ : Operand → Value} {W : World} {g k : Nat} {v : Value} {cs : Array Value} {T' : TypeId} (h0 : W.heap[g]? = some (.cells cs T' (0, 0))) (hk : cs[k]? = some v) (hc : (o.op, ρ (ldX o.op), notRow P (ldT o.op)) = (.load (ldT o.op) (ldX o.op), pT g k, true) := by kernel_rfl) : (execOp ρ o).run P W = .ok (.value v) W :=
  ldc _ g _ (rc h0 hk) (congrArg (·.1) hc) (congrArg (·.2.1) hc) (congrArg (·.2.2) hc)
theorem _root_.Go.Own.Keeps.bO {g j : Nat} {W W' : World} (k : Keeps (One j) W W') {x : Obj} (h : W.heap[g]? = some x) (hne : g ≠ j := by omega) : W'.heap[g]? = some x := k.bo h hne
theorem _root_.Go.Own.Keeps.nO {M : Nat → Prop} {g : Nat} {w V V' : World} (K : Keeps M w V) (k : Keeps (One g) V V') (h : w.heap.size ≤ g := by omega) : Keeps M w V' := K.no k h
end
abbrev fr (l : List Value) (n : Nat) : Array Value := (l ++ List.replicate n undef).toArray
section
variable {w0 w w' : World} {N : Nat → Prop} {g : Nat}
theorem nl {j : Nat} {o : Obj} (e : w.heap.size = g) (h : w.heap[j]? = some o) : j < g := e ▸ (Array.getElem?_eq_some_iff.1 h).1
theorem nk (e : w.heap.size = g) (k : Keeps N w0 w) : w0.heap.size ≤ g := e ▸ k.size
abbrev HJ (w : World) (g : Nat) (x : Obj) : Prop := w.heap[g]? = some x
variable {g1 g2 g3 g4 : Nat} {x1 x2 x3 x4 : Obj}
theorem Keeps.K1 (k : Keeps Nob w w') (K : Keeps N w0 w) (h1 : HJ w g1 x1) : Keeps N w0 w' ∧ HJ w' g1 x1 := ⟨K.nn k, k.bk h1⟩
theorem Keeps.z1 (k : Keeps Nob w w') (K : Keeps N w0 w) (h1 : HJ w g1 x1) : Keeps N w0 w' ∧ w.heap.size ≤ w'.heap.size ∧ HJ w' g1 x1 := ⟨K.nn k, k.size, k.bk h1⟩
theorem Keeps.Ko1 (k : Keeps (One g) w w') (K : Keeps N w0 w) (h1 : HJ w g1 x1) (n1 : g1 ≠ g := by omega) (hz : w0.heap.size ≤ g := by omega) : Keeps N w0 w' ∧ HJ w' g1 x1 := ⟨K.no k hz, k.bo h1 n1⟩
theorem Keeps.zo1 (k : Keeps (One g) w w') (K : Keeps N w0 w) (h1 : HJ w g1 x1) (n1 : g1 ≠ g := by omega) (hz : w0.heap.size ≤ g := by omega) : Keeps N w0 w' ∧ w.heap.size ≤ w'.heap.size ∧ HJ w' g1 x1 := ⟨K.no k hz, k.size, k.bo h1 n1⟩
theorem Keeps.k2 (k : Keeps Nob w w') (h1 : HJ w g1 x1) (h2 : HJ w g2 x2) : HJ w' g1 x1 ∧ HJ w' g2 x2 := ⟨k.bk h1, k.bk h2⟩
theorem Keeps.K2 (k : Keeps Nob w w') (K : Keeps N w0 w) (h1 : HJ w g1 x1) (h2 : HJ w g2 x2) : Keeps N w0 w' ∧ HJ w' g1 x1 ∧ HJ w' g2 x2 := ⟨K.nn k, k.bk h1, k.bk h2⟩
theorem Keeps.z2 (k : Keeps Nob w w') (K : Keeps N w0 w) (h1 : HJ w g1 x1) (h2 : HJ w g2 x2) : Keeps N w0 w' ∧ w.heap.size ≤ w'.heap.size ∧ HJ w' g1 x1 ∧ HJ w' g2 x2 := ⟨K.nn k, k.size, k.bk h1, k.bk h2⟩
theorem Keeps.ko2 (k : Keeps (One g) w w') (h1 : HJ w g1 x1) (h2 : HJ w g2 x2) (n1 : g1 ≠ g := by omega) (n2 : g2 ≠ g := by omega) : HJ w' g1 x1 ∧ HJ w' g2 x2 := ⟨k.bo h1 n1, k.bo h2 n2⟩
theorem Keeps.Ko2 (k : Keeps (One g) w w') (K : Keeps N w0 w) (h1 : HJ w g1 x1) (h2 : HJ w g2 x2) (n1 : g1 ≠ g := by omega) (n2 : g2 ≠ g := by omega) (hz : w0.heap.size ≤ g := by omega) : Keeps N w0 w' ∧ HJ w' g1 x1 ∧ HJ w' g2 x2 := ⟨K.no k hz, k.bo h1 n1, k.bo h2 n2⟩
theorem Keeps.zo2 (k : Keeps (One g) w w') (K : Keeps N w0 w) (h1 : HJ w g1 x1) (h2 : HJ w g2 x2) (n1 : g1 ≠ g := by omega) (n2 : g2 ≠ g := by omega) (hz : w0.heap.size ≤ g := by omega) : Keeps N w0 w' ∧ w.heap.size ≤ w'.heap.size ∧ HJ w' g1 x1 ∧ HJ w' g2 x2 := ⟨K.no k hz, k.size, k.bo h1 n1, k.bo h2 n2⟩
theorem Keeps.k3 (k : Keeps Nob w w') (h1 : HJ w g1 x1) (h2 : HJ w g2 x2) (h3 : HJ w g3 x3) : HJ w' g1 x1 ∧ HJ w' g2 x2 ∧ HJ w' g3 x3 := ⟨k.bk h1, k.bk h2, k.bk h3⟩
theorem Keeps.K3 (k : Keeps Nob w w') (K : Keeps N w0 w) (h1 : HJ w g1 x1) (h2 : HJ w g2 x2) (h3 : HJ w g3 x3) : Keeps N w0 w' ∧ HJ w' g1 x1 ∧ HJ w' g2 x2 ∧ HJ w' g3 x3 := ⟨K.nn k, k.bk h1, k.bk h2, k.bk h3⟩
theorem Keeps.z3 (k : Keeps Nob w w') (K : Keeps N w0 w) (h1 : HJ w g1 x1) (h2 : HJ w g2 x2) (h3 : HJ w g3 x3) : Keeps N w0 w' ∧ w.heap.size ≤ w'.heap.size ∧ HJ w' g1 x1 ∧ HJ w' g2 x2 ∧ HJ w' g3 x3 := ⟨K.nn k, k.size, k.bk h1, k.bk h2, k.bk h3⟩
theorem Keeps.ko3 (k : Keeps (One g) w w') (h1 : HJ w g1 x1) (h2 : HJ w g2 x2) (h3 : HJ w g3 x3) (n1 : g1 ≠ g := by omega) (n2 : g2 ≠ g := by omega) (n3 : g3 ≠ g := by omega) : HJ w' g1 x1 ∧ HJ w' g2 x2 ∧ HJ w' g3 x3 := ⟨k.bo h1 n1, k.bo h2 n2, k.bo h3 n3⟩
theorem Keeps.Ko3 (k : Keeps (One g) w w') (K : Keeps N w0 w) (h1 : HJ w g1 x1) (h2 : HJ w g2 x2) (h3 : HJ w g3 x3) (n1 : g1 ≠ g := by omega) (n2 : g2 ≠ g := by omega) (n3 : g3 ≠ g := by omega) (hz : w0.heap.size ≤ g := by omega) : Keeps N w0 w' ∧ HJ w' g1 x1 ∧ HJ w' g2 x2 ∧ HJ w' g3 x3 := ⟨K.no k hz, k.bo h1 n1, k.bo h2 n2, k.bo h3 n3⟩
theorem Keeps.zo3 (k : Keeps (One g) w w') (K : Keeps N w0 w) (h1 : HJ w g1 x1) (h2 : HJ w g2 x2) (h3 : HJ w g3 x3) (n1 : g1 ≠ g := by omega) (n2 : g2 ≠ g := by omega) (n3 : g3 ≠ g := by omega) (hz : w0.heap.size ≤ g := by omega) : Keeps N w0 w' ∧ w.heap.size ≤ w'.heap.size ∧ HJ w' g1 x1 ∧ HJ w' g2 x2 ∧ HJ w' g3 x3 := ⟨K.no k hz, k.size, k.bo h1 n1, k.bo h2 n2, k.bo h3 n3⟩
theorem Keeps.k4 (k : Keeps Nob w w') (h1 : HJ w g1 x1) (h2 : HJ w g2 x2) (h3 : HJ w g3 x3) (h4 : HJ w g4 x4) : HJ w' g1 x1 ∧ HJ w' g2 x2 ∧ HJ w' g3 x3 ∧ HJ w' g4 x4 := ⟨k.bk h1, k.bk h2, k.bk h3, k.bk h4⟩
theorem Keeps.K4 (k : Keeps Nob w w') (K : Keeps N w0 w) (h1 : HJ w g1 x1) (h2 : HJ w g2 x2) (h3 : HJ w g3 x3) (h4 : HJ w g4 x4) : Keeps N w0 w' ∧ HJ w' g1 x1 ∧ HJ w' g2 x2 ∧ HJ w' g3 x3 ∧ HJ w' g4 x4 := ⟨K.nn k, k.bk h1, k.bk h2, k.bk h3, k.bk h4⟩
theorem Keeps.z4 (k : Keeps Nob w w') (K : Keeps N w0 w) (h1 : HJ w g1 x1) (h2 : HJ w g2 x2) (h3 : HJ w g3 x3) (h4 : HJ w g4 x4) : Keeps N w0 w' ∧ w.heap.size ≤ w'.heap.size ∧ HJ w' g1 x1 ∧ HJ w' g2 x2 ∧ HJ w' g3 x3 ∧ HJ w' g4 x4 := ⟨K.nn k, k.size, k.bk h1, k.bk h2, k.bk h3, k.bk h4⟩
theorem Keeps.ko4 (k : Keeps (One g) w w') (h1 : HJ w g1 x1) (h2 : HJ w g2 x2) (h3 : HJ w g3 x3) (h4 : HJ w g4 x4) (n1 : g1 ≠ g := by omega) (n2 : g2 ≠ g := by omega) (n3 : g3 ≠ g := by omega) (n4 : g4 ≠ g := by omega) : HJ w' g1 x1 ∧ HJ w' g2 x2 ∧ HJ w' g3 x3 ∧ HJ w' g4 x4 := ⟨k.bo h1 n1, k.bo h2 n2, k.bo h3 n3, k.bo h4 n4⟩
theorem Keeps.Ko4 (k : Keeps (One g) w w') (K : Keeps N w0 w) (h1 : HJ w g1 x1) (h2 : HJ w g2 x2) (h3 : HJ w g3 x3) (h4 : HJ w g4 x4) (n1 : g1 ≠ g := by omega) (n2 : g2 ≠ g := by omega) (n3 : g3 ≠ g := by omega) (n4 : g4 ≠ g := by omega) (hz : w0.heap.size ≤ g := by omega) : Keeps N w0 w' ∧ HJ w' g1 x1 ∧ HJ w' g2 x2 ∧ HJ w' g3 x3 ∧ HJ w' g4 x4 := ⟨K.no k hz, k.bo h1 n1, k.bo h2 n2, k.bo h3 n3, k.bo h4 n4⟩
theorem Keeps.zo4 (k : Keeps (One g) w w') (K : Keeps N w0 w) (h1 : HJ w g1 x1) (h2 : HJ w g2 x2) (h3 : HJ w g3 x3) (h4 : HJ w g4 x4) (n1 : g1 ≠ g := by omega) (n2 : g2 ≠ g := by omega) (n3 : g3 ≠ g := by omega) (n4 : g4 ≠ g := by omega) (hz : w0.heap.size ≤ g := by omega) : Keeps N w0 w' ∧ w.heap.size ≤ w'.heap.size ∧ HJ w' g1 x1 ∧ HJ w' g2 x2 ∧ HJ w' g3 x3 ∧ HJ w' g4 x4 := ⟨K.no k hz, k.size, k.bo h1 n1, k.bo h2 n2, k.bo h3 n3, k.bo h4 n4⟩
end
section
variable {P : Program} {Q : Exit → Act → World → Prop} {a : Act} {w : World} {o : Oper} {ρ : Operand → Value} {c : Code}
def ixX : Op → Operand
  | .indexAddr _ x _ => x
  | _ => .const undef
def ixY : Op → Operand
  | .indexAddr _ _ y => y
  | _ => .const undef
def caX : Op → Operand
  | .call c => c.args.getD 0 (.const undef)
  | _ => .const undef
def rsP : ResultVar → Tmp
  | .cell p _ => p
  | .tmp p => p
theorem ixs {t e : TypeId} (b of n cap : Nat) (kd : IntKind) (k size : Nat) (hu : P.underlying t = some (.slice e)) (hk : k < n) (ho : o.op = .indexAddr t (ixX o.op) (ixY o.op) := by kernel_rfl) (hx : ρ (ixX o.op) = .slice (some ⟨b, of, none⟩) n cap := by kernel_rfl) (hy : ρ (ixY o.op) = .int kd (k : Int) := by kernel_rfl) (hs : (P.info? e).map (·.size) = some size := by kernel_rfl) : (execOp ρ o).run P w = .ok (.value (.pointer (some ⟨b, of + k * size, none⟩))) w := exec_indexAt_slice t _ _ ho b of n cap hx kd k hy e size hu hs hk
theorem ixa {t e : TypeId} {n : Nat} (b of : Nat) (kd : IntKind) (k size : Nat) (hu : P.underlying t = some (.array n e)) (hk : k < n) (ho : o.op = .indexAddr t (ixX o.op) (ixY o.op) := by kernel_rfl) (hx : ρ (ixX o.op) = .pointer (some ⟨b, of, none⟩) := by kernel_rfl) (hy : ρ (ixY o.op) = .int kd (k : Int) := by kernel_rfl) (hs : (P.info? e).map (·.size) = some size := by kernel_rfl) : (execOp ρ o).run P w = .ok (.value (.pointer (some ⟨b, of + k * size, none⟩))) w := exec_indexAt_arr t _ _ ho b of hx kd k hy n e size hu hs hk
theorem len_ {t e : TypeId} (A : Option Addr) (n cap : Nat) (ht : P.underlying t = some (.slice e)) (hx : ρ (caX o.op) = .slice A n cap := by kernel_rfl) (ho : o.op = .call { callee := .builtin .len, args := #[caX o.op], argTypes := #[t] } := by kernel_rfl) : (execOp ρ o).run P w = .ok (.value (.int .i64 (n : Int))) w := exec_len _ t e ho ht A n cap hx
theorem cwI {x : Int} (h1 : -9223372036854775808 ≤ x := by omega) (h2 : x ≤ 9223372036854775807 := by omega) (hr : (execOp ρ o).run P w = .ok (.value (.int .i64 (IntKind.i64.wrap x))) w := by kernel_rfl) : (execOp ρ o).run P w = .ok (.value (.int .i64 x)) w := exec_cast (congrArg (Value.int .i64) (wrapI x x rfl h1 h2)) hr
theorem cwN {n : Nat} (h : n ≤ 9223372036854775807 := by omega) (hr : (execOp ρ o).run P w = .ok (.value (.int .i64 (IntKind.i64.wrap (n : Int)))) w := by kernel_rfl) : (execOp ρ o).run P w = .ok (.value (.int .i64 (n : Int))) w := exec_cast (congrArg (Value.int .i64) (wrapN n h)) hr
theorem anb (n : Nat) (S : World → Prop) (l : Array Bool) (h : Gany P (opsAt c) (NoPanic Q) S n l a w.drew) (hc : c = .region (regI c) (opsAt c) true := by kernel_rfl) (hm : P.follows .mixedOrders = true := by kernel_rfl) (hn : (opsAt c).size = n := by kernel_rfl) (hl : Array.replicate n false = l := by kernel_rfl) : RegW P c (NoPanic Q) a w := an_begin _ n _ S l hc hm hn hl h
theorem ane {ops : Array Oper} {S : World → Prop} {fuel : Nat} {l : Array Bool} (h : Q .normal a w) (hr : Region.ready .any ops l = [] := by kernel_rfl) : Gany P ops (NoPanic Q) S fuel l a w := an_end hr h
theorem rrt {fn : Func} {tmps cs : Array Value} {v : Value} {d : TypeDesc} {t : TypeId} (ty : TypeId) (g : Nat) (hg : w.heap[g]? = some (.cells cs t (0, 0))) (hu : P.underlying ty = some d) (hi : (P.info? ty).map (·.size) = some cs.size) (h : fn.results = #[.cell (rsP (fn.results.getD 0 default)) ty, .tmp (rsP (fn.results.getD 1 default))] := by kernel_rfl)
    (hp : tmps.getD (rsP (fn.results.getD 0 default)) undef = .pointer (some ⟨g, 0, none⟩) := by kernel_rfl) (hd : (match d with | .struct _ | .array _ _ => true | _ => false) = true := by rfl) (hq : tmps.getD (rsP (fn.results.getD 1 default)) undef = v := by kernel_rfl) : (results fn tmps).run P w = .ok (.tuple #[.agg cs, v]) w :=
  results_row_tmp h tmps w g t cs (0, 0) d v hp hg hu hd hi hq
end
section
variable {P : Program} {Q : Exit → Act → World → Prop} {a : Act} {w : World} {ops : Array Oper} {i : Nat} {rest : List Nat} {S : World → Prop} {fuel : Nat} {l : Array Bool} {R : World → Prop} {v : Value}
theorem pcr (f : FuncId) (args : Array Value) {fn : Func} (hf : P.funcs[f]? = some fn) (hC : Calls P f args w fun e w' => e = .returned v ∧ R w') (h : ∀ V, R V → Gops P ops Q rest (a.put (ops.getD i default).dst v) V) (ho : ops[i]? = some (ops.getD i default) := by kernel_rfl) (hg : Region.wanted (ops.getD i default) (yielded ops a.tmps) = true := by kernel_rfl)
    (hc : (ops.getD i default).op = .call { callee := .value (.func f), args := callArgs (ops.getD i default), argTypes := callTypes (ops.getD i default) } := by kernel_rfl) (hargs : (callArgs (ops.getD i default)).map a.eval = args := by kernel_rfl) (hn : (fn.name == "runtime.NumGoroutine") = false := by kernel_rfl) (hb : fn.body.isSome = true := by kernel_rfl) : Gops P ops Q (i :: rest) a w :=
  pcq f args hf (hC.mono fun _ V hV => ⟨v, hV.1, h V hV.2⟩) ho hg hc hargs hn hb
theorem ncr (f : FuncId) (args : Array Value) {fn : Func} (hf : P.funcs[f]? = some fn) (hC : Calls P f args w fun e w' => e = .returned v ∧ R w') (h : ∀ V, R V → S V ∧ Gany P ops Q S fuel l (a.put (ops.getD i default).dst v) V) (ho : ops[i]? = some (ops.getD i default) := by kernel_rfl) (hg : Region.wanted (ops.getD i default) (yielded ops a.tmps) = true := by kernel_rfl)
    (hc : (ops.getD i default).op = .call { callee := .value (.func f), args := callArgs (ops.getD i default), argTypes := callTypes (ops.getD i default) } := by kernel_rfl) (hargs : (callArgs (ops.getD i default)).map a.eval = args := by kernel_rfl) (hn : (fn.name == "runtime.NumGoroutine") = false := by kernel_rfl) (hb : fn.body.isSome = true := by kernel_rfl) : Gone P ops Q S fuel l i a w :=
  ncq f args hf (hC.mono fun _ V hV => ⟨v, hV.1, h V hV.2⟩) ho hg hc hargs hn hb
theorem cbo {o : Oper} {ρ : Operand → Value} {b c : Bool} (h : b = c) (hr : (execOp ρ o).run P w = .ok (.value (.bool b)) w := by kernel_rfl) : (execOp ρ o).run P w = .ok (.value (.bool c)) w := exec_cast (congrArg Value.bool h) hr
end
section
variable {P : Program} {Q : Exit → Act → World → Prop} {a : Act} {w : World} {o : Oper} {ρ : Operand → Value} {c : Code} {ops : Array Oper} {i : Nat} {rest : List Nat} {S : World → Prop} {fuel : Nat} {l : Array Bool}
def cvX : Op → Operand
  | .call c => (match c.callee with | .value x => x | _ => .const undef)
  | _ => .const undef
theorem rgs (n : Nat) (hd tl : List Oper) (h : Gst P (opsAt c) w.drew (fun a' => Gls P (opsAt c) Q tl a' w.drew) hd a) (hc : c = .region (regI c) (opsAt c) true := by kernel_rfl) (hm : P.follows .mixedOrders = true := by kernel_rfl) (hB : Region.lexTailB .any (opsAt c) n = true := by kernel_rfl) (hh : (opsAt c).toList.take n = hd := by kernel_rfl) (ht : (opsAt c).toList.drop n = tl := by kernel_rfl) : RegW P c Q a w := rg_still _ n _ hd tl hc hm hB hh ht h
theorem rcr {fn : Func} {tmps cs : Array Value} {d : TypeDesc} {t : TypeId} (ty : TypeId) (g : Nat) (hg : w.heap[g]? = some (.cells cs t (0, 0))) (hu : P.underlying ty = some d) (hi : (P.info? ty).map (·.size) = some cs.size) (h : fn.results = #[.cell (rsP (fn.results.getD 0 default)) ty] := by kernel_rfl)
    (hp : tmps.getD (rsP (fn.results.getD 0 default)) undef = .pointer (some ⟨g, 0, none⟩) := by kernel_rfl) (hd : (match d with | .struct _ | .array _ _ => true | _ => false) = true := by rfl) : (results fn tmps).run P w = .ok (.agg cs) w :=
  results_cell_row h tmps w g t cs (0, 0) d hp hg hu hd hi
theorem pcv (f : FuncId) (first caps args : Array Value) (he : ∀ args w, (callFunc f args).run P w = .ok (.enter f args) w) (h : Calls P f args w fun e w' => ∃ v, e = .returned v ∧ Gops P ops Q rest (a.put (ops.getD i default).dst v) w') (ho : ops[i]? = some (ops.getD i default) := by kernel_rfl) (hg : Region.wanted (ops.getD i default) (yielded ops a.tmps) = true := by kernel_rfl)
    (hc : (ops.getD i default).op = .call { callee := .value (cvX (ops.getD i default).op), args := callArgs (ops.getD i default), argTypes := callTypes (ops.getD i default) } := by kernel_rfl) (hx : a.eval (cvX (ops.getD i default).op) = .func (.func f) first caps := by kernel_rfl) (hargs : first ++ (callArgs (ops.getD i default)).map a.eval ++ caps = args := by kernel_rfl) : Gops P ops Q (i :: rest) a w := ps_callV _ _ f first caps args ho hg hc hx hargs he h
end
section
variable (P : Program) (ops : Array Oper) (w W : World)
def vo : Result Next → Value
  | .ok (.value v) _ => v
  | _ => undef
abbrev xo (a : Act) (o : Oper) : Result Next := (execOp a.eval o).run P w
def rO (o : Oper) (a : Act) : Act := a.put o.dst (bif Region.wanted o (yielded ops a.tmps) then vo (xo P w a o) else undef)
def lV (o : Oper) (a : Act) : Result Next := bif Region.wanted o (yielded ops a.tmps) then xo P W a o else .ok .skip W
def rV (o : Oper) (a : Act) : Result Next := bif Region.wanted o (yielded ops a.tmps) then .ok (.value (vo (xo P w a o))) W else .ok .skip W
def rS : List Oper → Act → Act
  | [], a => a
  | o :: r, a => rS r (rO P ops w o a)
def lS : List Oper → Act → List (Result Next)
  | [], _ => []
  | o :: r, a => lV P ops W o a :: lS r (rO P ops w o a)
def tS : List Oper → Act → List (Result Next)
  | [], _ => []
  | o :: r, a => rV P ops w W o a :: tS r (rO P ops w o a)
abbrev oA (i : Nat) : Oper := ops.getD i default
abbrev oL (l : List Nat) : List Oper := l.map (oA ops)
def lI (l : List Nat) : List (Option Oper) := l.map (ops[·]?)
def tI (l : List Nat) : List (Option Oper) := l.map fun i => some (oA ops i)
def dA : List Nat → Array Bool → Array Bool
  | [], l => l
  | i :: r, l => dA r (l.setIfInBounds i true)
def cA : List Nat → Array Bool → Bool
  | [], _ => true
  | i :: r, l => (Region.free .any ops l i && (Region.ready .any ops l).contains i) && cA r (l.setIfInBounds i true)
end
section
variable {P : Program} {Q : Exit → Act → World → Prop} {a : Act} {w : World} {ops : Array Oper}
theorem kk (n : Nat) {l : List Nat} (h : Gops P ops Q (l.drop n) (rS P ops w (oL ops (l.take n)) a) w) (hi : lI ops (l.take n) = tI ops (l.take n) := by kernel_rfl) (hk : lS P ops w w (oL ops (l.take n)) a = tS P ops w w (oL ops (l.take n)) a := by kernel_rfl) : Gops P ops Q l a w := by
  induction n generalizing l a with
  | zero => exact h
  | succ n ih =>
    cases l with
    | nil => exact h
    | cons i r =>
      simp only [List.take_succ_cons, oL, List.map_cons, lS, tS, lI, tI, List.cons.injEq] at hk hi
      have q := ih h hi.2 hk.2
      unfold lV rV at hk
      unfold rO at q
      cases hg : Region.wanted (oA ops i) (yielded ops a.tmps)
      · rw [hg] at q; exact ps_no _ hi.1 hg q
      · rw [hg] at q hk; exact ps_run _ _ hi.1 hg hk.1 q
theorem ks (n : Nat) {K : Act → Prop} {l : List Oper} (h : Gst P ops w K (l.drop n) (rS P ops w (l.take n) a)) (hk : lS P ops w w (l.take n) a = tS P ops w w (l.take n) a := by kernel_rfl) : Gst P ops w K l a := by
  induction n generalizing l a with
  | zero => exact h
  | succ n ih =>
    cases l with
    | nil => exact h
    | cons o r =>
      simp only [List.take_succ_cons, lS, tS, List.cons.injEq] at hk
      have q := ih h hk.2
      unfold lV rV at hk
      unfold rO at q
      cases hg : Region.wanted o (yielded ops a.tmps)
      · rw [hg] at q; exact st_no _ hg q
      · rw [hg] at q hk; exact st_run _ _ hg hk.1 q
theorem ka0 (s : List Nat) (m : Nat) {S : World → Prop} {n : Nat} {l : Array Bool} (hS : S w) (h : Gany P ops (NoPanic Q) S m (dA s l) (rS P ops w (oL ops s) a) w) (hn : n = m + s.length) (hi : (lI ops s, Region.noSelect ops, cA ops s l) = (tI ops s, true, true)) (hk : ∀ W, lS P ops w W (oL ops s) a = tS P ops w W (oL ops s) a) : Gany P ops (NoPanic Q) S n l a w := by
  subst hn
  induction s generalizing l a with
  | nil => exact h
  | cons i r ih =>
    have hs := congrArg (·.2.1) hi
    have hc := congrArg (·.2.2) hi
    have hj := congrArg (·.1) hi
    simp only [oL, List.map_cons, lS, tS, lI, tI, List.cons.injEq, cA, Bool.and_eq_true] at hk hs hc hj
    have q := ih h (by rw [Prod.mk.injEq, Prod.mk.injEq]; exact ⟨hj.2, hs, hc.2⟩) (fun W => (hk W).2)
    unfold rO at q
    cases hg : Region.wanted (oA ops i) (yielded ops a.tmps)
    · rw [hg] at q; exact an_no i _ hs hj.1 hg hc.1.1 hc.1.2 hS q
    · rw [hg] at q; exact an_val i _ _ hs hj.1 hg hc.1.1 hc.1.2 (fun W _ => by have := (hk W).1; unfold lV rV at this; rw [hg] at this; exact this) hS q
theorem ka (s : List Nat) {S : World → Prop} {n : Nat} {l : Array Bool} (hS : S w) (h : Gany P ops (NoPanic Q) S (n - s.length) (dA s l) (rS P ops w (oL ops s) a) w) (hi : (lI ops s, Region.noSelect ops, cA ops s l, Nat.ble s.length n) = (tI ops s, true, true, true) := by kernel_rfl) (hk : ∀ W, lS P ops w W (oL ops s) a = tS P ops w W (oL ops s) a := by intro W; kernel_rfl) : Gany P ops (NoPanic Q) S n l a w :=
  ka0 s _ hS h (Nat.sub_add_cancel (Nat.le_of_ble_eq_true (congrArg (·.2.2.2) hi))).symm (congrArg (fun x => (x.1, x.2.1, x.2.2.1)) hi) hk
end
section
variable {P : Program} {Q : Exit → Act → World → Prop} {a : Act} {w w' w0 : World} {c : Code} {ops : Array Oper} {i : Nat} {rest : List Nat} {N M : Nat → Prop}
theorem _root_.Go.Own.Row.rn {e : TypeId} {s n : Nat} {v : Value} {xs : List Value} (h : Row w e s v n xs) (k : Keeps Nob w w') : Row w' e s v n xs := h.keeps k (fun _ _ x => x)
theorem _root_.Go.Own.Row.ro {e t b s n : Nat} {v : Value} {xs : List Value} {cs : Array Value} {fr : Nat × Nat} (h : Row w e s v n xs) (hb : w.heap[b]? = some (.cells cs t fr)) (k : Keeps (One b) w w') (hne : e ≠ t := by decide) : Row w' e s v n xs := h.keeps k (fun _ hj he => Row.ne h hb hne (he ▸ hj))
theorem _root_.Go.Own.Keeps.nr {F : Nat → Prop} {B : Nat} (K : Keeps N w0 w) (k : Keeps F w w') (hn : ∀ j, F j → B ≤ j) (hB : w0.heap.size ≤ B := by omega) : Keeps N w0 w' := K.then k (fun i hi hm => absurd hi (by have := hn i hm; omega))
theorem _root_.Go.Own.Keeps.nw {g : Nat} (K : Keeps N w0 w) (k : Keeps (One g) w w') (h : N g) : Keeps N w0 w' := K.then k (fun _ _ hm => by have e : _ = g := hm; exact e ▸ h)
theorem Keeps.z0 (k : Keeps Nob w w') (K : Keeps N w0 w) : Keeps N w0 w' ∧ w.heap.size ≤ w'.heap.size := ⟨K.nn k, k.size⟩
theorem Keeps.zo0 {g : Nat} (k : Keeps (One g) w w') (K : Keeps N w0 w) (h : w0.heap.size ≤ g := by omega) : Keeps N w0 w' ∧ w.heap.size ≤ w'.heap.size := ⟨K.no k h, k.size⟩
theorem nqk1 {g a : Nat} {x : Obj} (e : w.heap.size = g) (h : w.heap[a]? = some x) (k : Keeps N w0 w) : a < g ∧ w0.heap.size ≤ g := ⟨nl e h, nk e k⟩
theorem nqk2 {g a b : Nat} {x y : Obj} (e : w.heap.size = g) (h : w.heap[a]? = some x) (h2 : w.heap[b]? = some y) (k : Keeps N w0 w) : a < g ∧ b < g ∧ w0.heap.size ≤ g := ⟨nl e h, nl e h2, nk e k⟩
theorem nq3 {g a b c : Nat} {x y z : Obj} (e : w.heap.size = g) (h : w.heap[a]? = some x) (h2 : w.heap[b]? = some y) (h3 : w.heap[c]? = some z) : a < g ∧ b < g ∧ c < g := ⟨nl e h, nl e h2, nl e h3⟩
theorem anp (n : Nat) (S : World → Prop) (h : ∀ V, Keeps Nob w V → Gany P (opsAt c) (NoPanic Q) S n (Array.replicate n false) a V) (hc : (c, P.follows .mixedOrders, (opsAt c).size) = (.region (regI c) (opsAt c) true, true, n) := by kernel_rfl) : c.wp P Q a w :=
  sy_np (sy_reg (an_begin (regI c) n (opsAt c) S _ (congrArg (·.1) hc) (congrArg (·.2.1) hc) (congrArg (·.2.2) hc) rfl (h _ (Keeps.refl _ _).drew)))
theorem rgp (n : Nat) (hd tl : List Oper) (h : ∀ V, Keeps Nob w V → Gst P (opsAt c) V (fun a' => Gls P (opsAt c) Q tl a' V) hd a) (hc : (c, P.follows .mixedOrders, Region.lexTailB .any (opsAt c) n, (opsAt c).toList.take n, (opsAt c).toList.drop n) = (.region (regI c) (opsAt c) true, true, true, hd, tl) := by kernel_rfl) : c.wp P Q a w :=
  sy_reg (rg_still (regI c) n (opsAt c) hd tl (congrArg (·.1) hc) (congrArg (·.2.1) hc) (congrArg (·.2.2.1) hc) (congrArg (·.2.2.2.1) hc) (congrArg (·.2.2.2.2) hc) (h _ (Keeps.refl _ _).drew))
def cL (P : Program) (ops : Array Oper) (i : Nat) (a : Act) (f : FuncId) : Option Oper × Bool × Op × Option Func × Array Value × Bool × Bool := (ops[i]?, Region.wanted (oA ops i) (yielded ops a.tmps), (oA ops i).op, P.funcs[f]?, (callArgs (oA ops i)).map a.eval, (P.funcs.getD f default).name == "runtime.NumGoroutine", (P.funcs.getD f default).body.isSome)
def cR (P : Program) (ops : Array Oper) (i : Nat) (f : FuncId) (args : Array Value) : Option Oper × Bool × Op × Option Func × Array Value × Bool × Bool := (some (oA ops i), true, .call { callee := .value (.func f), args := callArgs (oA ops i), argTypes := callTypes (oA ops i) }, some (P.funcs.getD f default), args, false, true)
theorem pcs {f : FuncId} {args : Array Value} {v : Value} {R : World → Prop} (hC : Calls P f args w fun e w' => e = .returned v ∧ R w') (h : ∀ V, R V → Gops P ops Q rest (a.put (oA ops i).dst v) V) (hk : cL P ops i a f = cR P ops i f args := by kernel_rfl) : Gops P ops Q (i :: rest) a w :=
  pcr f args (congrArg (·.2.2.2.1) hk) hC h (congrArg (·.1) hk) (congrArg (·.2.1) hk) (congrArg (·.2.2.1) hk) (congrArg (·.2.2.2.2.1) hk) (congrArg (·.2.2.2.2.2.1) hk) (congrArg (·.2.2.2.2.2.2) hk)
theorem pct {f : FuncId} {args : Array Value} (h : Calls P f args w fun e w' => ∃ v, e = .returned v ∧ Gops P ops Q rest (a.put (oA ops i).dst v) w') (hk : cL P ops i a f = cR P ops i f args := by kernel_rfl) : Gops P ops Q (i :: rest) a w :=
  pcq f args (congrArg (·.2.2.2.1) hk) h (congrArg (·.1) hk) (congrArg (·.2.1) hk) (congrArg (·.2.2.1) hk) (congrArg (·.2.2.2.2.1) hk) (congrArg (·.2.2.2.2.2.1) hk) (congrArg (·.2.2.2.2.2.2) hk)
theorem ncs {f : FuncId} {args : Array Value} {v : Value} {R S : World → Prop} {fuel : Nat} {l : Array Bool} (hC : Calls P f args w fun e w' => e = .returned v ∧ R w') (h : ∀ V, R V → S V ∧ Gany P ops Q S fuel l (a.put (oA ops i).dst v) V) (hk : cL P ops i a f = cR P ops i f args := by kernel_rfl) : Gone P ops Q S fuel l i a w :=
  ncr f args (congrArg (·.2.2.2.1) hk) hC h (congrArg (·.1) hk) (congrArg (·.2.1) hk) (congrArg (·.2.2.1) hk) (congrArg (·.2.2.2.2.1) hk) (congrArg (·.2.2.2.2.2.1) hk) (congrArg (·.2.2.2.2.2.2) hk)
theorem nct {f : FuncId} {args : Array Value} {S : World → Prop} {fuel : Nat} {l : Array Bool} (h : Calls P f args w fun e w' => ∃ v, e = .returned v ∧ S w' ∧ Gany P ops Q S fuel l (a.put (oA ops i).dst v) w') (hk : cL P ops i a f = cR P ops i f args := by kernel_rfl) : Gone P ops Q S fuel l i a w :=
  ncq f args (congrArg (·.2.2.2.1) hk) h (congrArg (·.1) hk) (congrArg (·.2.1) hk) (congrArg (·.2.2.1) hk) (congrArg (·.2.2.2.2.1) hk) (congrArg (·.2.2.2.2.2.1) hk) (congrArg (·.2.2.2.2.2.2) hk)
theorem sf_ {f : FuncId} {fn : Func} {args : Array Value} {R : Ending → World → Prop} (c : Code) (hf : P.funcs[f]? = some fn) (h : c.wp P (bodyPost P fn R) { tmps := args ++ Array.replicate (fn.ntmps - args.size) undef, defers := [] } w) (hb : fn.body = some c := by kernel_rfl) : Calls P f args w R := sy_enter c _ hf hb rfl h
end
section
variable {P : Program} {Q : Exit → Act → World → Prop} {a : Act} {w w' w0 : World} {c : Code} {ops : Array Oper} {i : Nat} {rest : List Nat} {S : World → Prop} {fuel : Nat} {l : Array Bool} {o : Oper} {ρ : Operand → Value}
@[match_pattern] abbrev _root_.iI (x : Int) : Value := .int .i64 x
@[match_pattern] abbrev _root_.sS (g : Nat) (n m : Nat) : Value := .slice (some ⟨g, 0, none⟩) n m
abbrev _root_.RK (w : World) (v : Value) : Ending → World → Prop := fun e w' => e = .returned v ∧ Keeps Nob w w'
theorem ako (i : Nat) (h : Gany P ops Q S fuel (l.setIfInBounds i true) (a.put (oA ops i).dst (vo (xo P w a (oA ops i)))) w) (hS : S w := by repeat' (first | (with_reducible assumption) | (with_reducible refine And.intro ?_ ?_))) (hk : (Region.ready .any ops l, ops[i]?, Region.wanted (oA ops i) (yielded ops a.tmps), xo P w a (oA ops i)) = ([i], some (oA ops i), true, .ok (.value (vo (xo P w a (oA ops i)))) w) := by kernel_rfl) : Gany P ops Q S (fuel + 1) l a w :=
  an_one i (congrArg (·.1) hk) (on_run _ _ (congrArg (·.2.1) hk) (congrArg (·.2.2.1) hk) (congrArg (·.2.2.2) hk) ⟨hS, h⟩)
theorem kA (s : List Nat) {n : Nat} (h : Gany P ops (NoPanic Q) S (n - s.length) (dA s l) (rS P ops w (oL ops s) a) w) (hS : S w := by repeat' (first | (with_reducible assumption) | (with_reducible refine And.intro ?_ ?_))) (hi : (lI ops s, Region.noSelect ops, cA ops s l, Nat.ble s.length n) = (tI ops s, true, true, true) := by kernel_rfl) (hk : ∀ W, lS P ops w W (oL ops s) a = tS P ops w W (oL ops s) a := by intro W; kernel_rfl) : Gany P ops (NoPanic Q) S n l a w := ka s hS h hi hk
theorem aV (i : Nat) (v : Value) (hrun : ∀ W, S W → (execOp a.eval (ops.getD i default)).run P W = .ok (.value v) W) (h : Gany P ops (NoPanic Q) S fuel (l.setIfInBounds i true) (a.put (ops.getD i default).dst v) w) (hS : S w := by repeat' (first | (with_reducible assumption) | (with_reducible refine And.intro ?_ ?_))) (hk : (Region.noSelect ops, ops[i]?, Region.wanted (ops.getD i default) (yielded ops a.tmps), Region.free .any ops l i, (Region.ready .any ops l).contains i) = (true, some (ops.getD i default), true, true, true) := by kernel_rfl) : Gany P ops (NoPanic Q) S (fuel + 1) l a w :=
  avq i v hrun hS h (congrArg (·.1) hk) (congrArg (·.2.1) hk) (congrArg (·.2.2.1) hk) (congrArg (·.2.2.2.1) hk) (congrArg (·.2.2.2.2) hk)
theorem nbs (T : TypeId) (c : Array Value) (n : Nat) (h : ∀ V g, w.heap.size = g → V.heap[g]? = some (.cells c T (0, 0)) → Keeps Nob w V → S V ∧ Gany P ops Q S fuel l (a.put (oA ops i).dst (sS g n n)) V) (hk : (ops[i]?, Region.wanted (oA ops i) (yielded ops a.tmps), xo P w a (oA ops i)) = (some (oA ops i), true, .ok (.value (sS w.heap.size n n)) (w.alloc (.cells c T))) := by kernel_rfl) : Gone P ops Q S fuel l i a w := by
  obtain ⟨V, eV, g, eg, hh, k⟩ := alloc_step w c T
  refine on_run _ (sS g n n) (w' := V) (congrArg (·.1) hk) (congrArg (·.2.1) hk) ?_ (h V g eg hh k)
  rw [← eV, ← eg]; exact congrArg (·.2.2) hk
theorem pbs (T : TypeId) (c : Array Value) (n : Nat) (h : ∀ V g, w.heap.size = g → V.heap[g]? = some (.cells c T (0, 0)) → Keeps Nob w V → Gops P ops Q rest (a.put (oA ops i).dst (sS g n n)) V) (hk : (ops[i]?, Region.wanted (oA ops i) (yielded ops a.tmps), xo P w a (oA ops i)) = (some (oA ops i), true, .ok (.value (sS w.heap.size n n)) (w.alloc (.cells c T))) := by kernel_rfl) : Gops P ops Q (i :: rest) a w := by
  obtain ⟨V, eV, g, eg, hh, k⟩ := alloc_step w c T
  refine ps_run _ (sS g n n) (w' := V) (congrArg (·.1) hk) (congrArg (·.2.1) hk) ?_ (h V g eg hh k)
  rw [← eV, ← eg]; exact congrArg (·.2.2) hk
theorem ixh {t e : TypeId} {b of n cap : Nat} {v : Value} (hv : v = .slice (some ⟨b, of, none⟩) n cap) (k size : Nat) (hu : P.underlying t = some (.slice e)) (hk : k < n := by omega) (ho : o.op = .indexAddr t (ixX o.op) (ixY o.op) := by kernel_rfl) (hx : ρ (ixX o.op) = v := by kernel_rfl) (hy : ρ (ixY o.op) = .int .i64 (k : Int) := by kernel_rfl) (hs : (P.info? e).map (·.size) = some size := by kernel_rfl) : (execOp ρ o).run P w = .ok (.value (.pointer (some ⟨b, of + k * size, none⟩))) w :=
  ixs b of n cap .i64 k size hu hk ho (hx.trans hv) hy hs
theorem ldm {ty : TypeId} {b k n : Nat} {cs : List Value} {d : TypeDesc} (hc : w.rangeAt b k cs) (hu : P.underlying ty = some d) (hl : cs.length = n) (ho : o.op = .load ty (ldX o.op) := by kernel_rfl) (hx : ρ (ldX o.op) = .pointer (some ⟨b, k, none⟩) := by kernel_rfl) (hi : (P.info? ty).map (·.size) = some n := by kernel_rfl) (hd : d.isRow = true := by rfl) : (execOp ρ o).run P w = .ok (.value (.agg cs.toArray)) w := exec_load_mid ty (ldX o.op) ho b k hx cs d hc hu hd (hl ▸ hi)
theorem pag (T : TypeId) (c : Array Value) (h : ∀ V g, w.heap.size = g → V.heap[g]? = some (.cells c T (0, 0)) → Keeps Nob w V → Gops P ops Q rest (a.put (ops.getD i default).dst (pT g 0)) V) (h1 : ((ops.getD i default).op, ops[i]?, Region.wanted (ops.getD i default) (yielded ops a.tmps)) = (.alloc T, some (ops.getD i default), true) := by kernel_rfl) (h2 : ∀ W, (zeroValue T).run P W = .ok (.agg c) W := by intro W; kernel_rfl) : Gops P ops Q (i :: rest) a w := pal T c (.agg c) h (congrArg (·.1) h1) h2 rfl (congrArg (·.2.1) h1) (congrArg (·.2.2) h1)
theorem pbg (T : TypeId) (c : Array Value) (h : ∀ V g, w.heap.size = g → V.heap[g]? = some (.cells c T (0, 0)) → Keeps Nob w V → Gops P ops Q rest (a.put (ops.getD i default).dst (pT g 0)) V) (h1 : ((ops.getD i default).op, a.eval (boxX (ops.getD i default).op), ops[i]?, Region.wanted (ops.getD i default) (yielded ops a.tmps)) = (.box T (boxX (ops.getD i default).op), .agg c, some (ops.getD i default), true) := by kernel_rfl) : Gops P ops Q (i :: rest) a w := pbx T c (.agg c) h (congrArg (·.1) h1) (congrArg (·.2.1) h1) rfl (congrArg (·.2.2.1) h1) (congrArg (·.2.2.2) h1)
theorem ldz (T : TypeId) (g : Nat) {n : Nat} {T' : TypeId} {cs : Array Value} (h0 : w.heap[g]? = some (.cells cs T' (0, 0))) (hs : cs.size = n) (hk : ((P.info? T).map (·.size), o.op, ρ (ldX o.op), isRow P T) = (some n, .load T (ldX o.op), pT g 0, true) := by kernel_rfl) : (execOp ρ o).run P w = .ok (.value (.agg cs)) w := ldr T g h0 (hs ▸ congrArg (·.1) hk) (congrArg (·.2.1) hk) (congrArg (·.2.2.1) hk) (congrArg (·.2.2.2) hk)
theorem sor {fn : Func} {R : Ending → World → Prop} {cs : Array Value} {d : TypeDesc} {t : TypeId} (ty : TypeId) (g : Nat) (hg : w.heap[g]? = some (.cells cs t (0, 0))) (hu : P.underlying ty = some d) (hi : (P.info? ty).map (·.size) = some cs.size) (h : R (.returned (.agg cs)) w) (hk : (fn.results, a.tmps.getD (rsP (fn.results.getD 0 default)) undef, a.defers) = (#[.cell (rsP (fn.results.getD 0 default)) ty], .pointer (some ⟨g, 0, none⟩), []) := by kernel_rfl) (hd : (match d with | .struct _ | .array _ _ => true | _ => false) = true := by rfl) : bodyPost P fn R .ret a w := sy_out _ (congrArg (·.2.2) hk) (rcr ty g hg hu hi (congrArg (·.1) hk) (congrArg (·.2.1) hk) hd) h
theorem pP {v : Value} (hrun : (execOp a.eval (ops.getD i default)).run P w = .ok (.value v) w) (h : Gops P ops Q rest (a.put (ops.getD i default).dst v) w) (hk : (ops[i]?, Region.wanted (ops.getD i default) (yielded ops a.tmps)) = (some (ops.getD i default), true) := by kernel_rfl) : Gops P ops Q (i :: rest) a w := ppq v hrun h (congrArg (·.1) hk) (congrArg (·.2) hk)
theorem kz0 (w : World) : Keeps Nob w w := Keeps.refl _ _
theorem dtT (p : Prop) [Decidable p] (h : p := by omega) (hr : (execOp ρ o).run P w = .ok (.value (.bool (decide p))) w := by kernel_rfl) : (execOp ρ o).run P w = .ok (.value (.bool true)) w := dct p h hr
theorem dtF (p : Prop) [Decidable p] (h : ¬ p := by omega) (hr : (execOp ρ o).run P w = .ok (.value (.bool (decide p))) w := by kernel_rfl) : (execOp ρ o).run P w = .ok (.value (.bool false)) w := dcf p h hr
theorem eqT (x y : Int) (h : x = y := by omega) (hr : (execOp ρ o).run P w = .ok (.value (.bool (x == y))) w := by kernel_rfl) : (execOp ρ o).run P w = .ok (.value (.bool true)) w := eqt x y h hr
theorem eqF (x y : Int) (h : ¬ x = y := by omega) (hr : (execOp ρ o).run P w = .ok (.value (.bool (x == y))) w := by kernel_rfl) : (execOp ρ o).run P w = .ok (.value (.bool false)) w := eqf x y h hr
theorem nqT (x y : Int) (h : ¬ x = y := by omega) (hr : (execOp ρ o).run P w = .ok (.value (.bool (x != y))) w := by kernel_rfl) : (execOp ρ o).run P w = .ok (.value (.bool true)) w := nqt x y h hr
theorem nqF (x y : Int) (h : x = y := by omega) (hr : (execOp ρ o).run P w = .ok (.value (.bool (x != y))) w := by kernel_rfl) : (execOp ρ o).run P w = .ok (.value (.bool false)) w := nqf x y h hr
theorem ltm (x y : Nat) {m n : Nat} (ha : m = x := by kernel_rfl) (hb : n = y := by kernel_rfl) (h : x < y := by omega) : m < n := by omega
end
abbrev zl0_ : Array Value := #[.int .i64 0, .int .i64 0, .int .i64 0, .int .i64 0, .int .u8 0, .int .u8 0, .int .u8 0, .int .u8 0, .int .u8 0, .int .u8 0, .int .u8 0, .int .u8 0, .int .u8 0, .int .u8 0, .int .u8 0, .int .u8 0, .int .u8 0, .int .u8 0, .int .u8 0, .int .u8 0, .int .u8 0, .int .u8 0, .int .u8 0, .int .u8 0, .int .u8 0, .int .u8 0, .int .u8 0, .int .u8 0, .int .u8 0, .int .u8 0, .int .u8 0, .int .u8 0, .int .u8 0, .int .u8 0, .int .u8 0, .int .u8 0, .int .u64 0, .int .i64 0, .int .i64 0, .int .u8 0, .int .u8 0, .int .u8 0, .int .u8 0, .int .u8 0, .int .u8 0, .int .u8 0, .int .u8 0, .int .u8 0, .int .u8 0, .int .u8 0, .int .u8 0, .int .u8 0, .int .u8 0, .int .u8 0, .int .u8 0, .int .u8 0, .int .u8 0, .int .u8 0, .int .u8 0, .int .u8 0, .int .u8 0, .int .u8 0, .int .u8 0, .int .u8 0, .int .u8 0, .int .u8 0, .int .u8 0, .int .u8 0, .int .u8 0, .int .u8 0, .int .u8 0, .int .u64 0, .int .i64 0]
abbrev zl1_ : Array Value := #[.int .i64 0, .int .i64 0, .int .i64 0, .int .u8 0, .int .u8 0, .int .u8 0, .int .u8 0, .int .u8 0, .int .u8 0, .int .u8 0, .int .u8 0, .int .u8 0, .int .u8 0, .int .u8 0, .int .u8 0, .int .u8 0, .int .u8 0, .int .u8 0, .int .u8 0, .int .u8 0, .int .u8 0, .int .u8 0, .int .u8 0, .int .u8 0, .int .u8 0, .int .u8 0, .int .u8 0, .int .u8 0, .int .u8 0, .int .u8 0, .int .u8 0, .int .u8 0, .int .u8 0, .int .u8 0, .int .u8 0, .int .u64 0]
abbrev zl2_ (x : Value) : Array Value := #[x, .int .i64 0, .int .i64 0, .int .i64 0, .int .u8 0, .int .u8 0, .int .u8 0, .int .u8 0, .int .u8 0, .int .u8 0, .int .u8 0, .int .u8 0, .int .u8 0, .int .u8 0, .int .u8 0, .int .u8 0, .int .u8 0, .int .u8 0, .int .u8 0, .int .u8 0, .int .u8 0, .int .u8 0, .int .u8 0, .int .u8 0, .int .u8 0, .int .u8 0, .int .u8 0, .int .u8 0, .int .u8 0, .int .u8 0, .int .u8 0, .int .u8 0, .int .u8 0, .int .u8 0, .int .u8 0, .int .u8 0, .int .u64 0, .int .i64 0, .int .i64 0, .int .u8 0, .int .u8 0, .int .u8 0, .int .u8 0, .int .u8 0, .int .u8 0, .int .u8 0, .int .u8 0, .int .u8 0, .int .u8 0, .int .u8 0, .int .u8 0, .int .u8 0, .int .u8 0, .int .u8 0, .int .u8 0, .int .u8 0, .int .u8 0, .int .u8 0, .int .u8 0, .int .u8 0, .int .u8 0, .int .u8 0, .int .u8 0, .int .u8 0, .int .u8 0, .int .u8 0, .int .u8 0, .int .u8 0, .int .u8 0, .int .u8 0, .int .u8 0, .int .u64 0, .int .i64 0]
abbrev zl3_ : Array Value := #[.int .i64 0, .int .i64 0, .int .u8 0, .int .u8 0, .int .u8 0, .int .u8 0, .int .u8 0, .int .u8 0, .int .u8 0, .int .u8 0, .int .u8 0, .int .u8 0, .int .u8 0, .int .u8 0, .int .u8 0, .int .u8 0, .int .u8 0, .int .u8 0, .int .u8 0, .int .u8 0, .int .u8 0, .int .u8 0, .int .u8 0, .int .u8 0, .int .u8 0, .int .u8 0, .int .u8 0, .int .u8 0, .int .u8 0, .int .u8 0, .int .u8 0, .int .u8 0, .int .u8 0, .int .u8 0, .int .u64 0]
abbrev zl4_ : Array Bool := #[false, false, false, false, false, false, false, false, false, false, false, false, false]
abbrev zl5_ : Array Value := #[.int .i64 0, .int .i64 0, .int .i64 0, .int .i64 0, .int .i64 0, .int .i64 0, .int .i64 0, .int .u64 0, .int .u64 0, .int .i64 0, .int .u64 0]
abbrev zl6_ : Array Bool := #[false, false, false, false, false, false, false, false, false]
abbrev us (u : Nat → Value) (k n : Nat) : List Value := (List.range n).map fun j => u (k + j)
abbrev HP (w : World) (g : Nat) (cs : Array Value) (T : TypeId) : Prop := w.heap[g]? = some (.cells cs T (0, 0))
abbrev zo4_ (f : Nat → Oper) : List Oper := [f 0, f 1, f 2, f 3]
abbrev zo7_ (f : Nat → Oper) : List Oper := [f 0, f 1, f 2, f 3, f 4, f 5, f 6]
abbrev zo8_ (f : Nat → Oper) : List Oper := [f 0, f 1, f 2, f 3, f 4, f 5, f 6, f 7]
abbrev zo9_ (f : Nat → Oper) : List Oper := [f 0, f 1, f 2, f 3, f 4, f 5, f 6, f 7, f 8]
abbrev zo10_ (f : Nat → Oper) : List Oper := [f 0, f 1, f 2, f 3, f 4, f 5, f 6, f 7, f 8, f 9]
abbrev zo11_ (f : Nat → Oper) : List Oper := [f 0, f 1, f 2, f 3, f 4, f 5, f 6, f 7, f 8, f 9, f 10]
abbrev zo12_ (f : Nat → Oper) : List Oper := [f 0, f 1, f 2, f 3, f 4, f 5, f 6, f 7, f 8, f 9, f 10, f 11]
abbrev zo13_ (f : Nat → Oper) : List Oper := [f 0, f 1, f 2, f 3, f 4, f 5, f 6, f 7, f 8, f 9, f 10, f 11, f 12]
abbrev zo15_ (f : Nat → Oper) : List Oper := [f 0, f 1, f 2, f 3, f 4, f 5, f 6, f 7, f 8, f 9, f 10, f 11, f 12, f 13, f 14]
abbrev zo17_ (f : Nat → Oper) : List Oper := [f 0, f 1, f 2, f 3, f 4, f 5, f 6, f 7, f 8, f 9, f 10, f 11, f 12, f 13, f 14, f 15, f 16]
abbrev zo20_ (f : Nat → Oper) : List Oper := [f 0, f 1, f 2, f 3, f 4, f 5, f 6, f 7, f 8, f 9, f 10, f 11, f 12, f 13, f 14, f 15, f 16, f 17, f 18, f 19]
abbrev zo22_ (f : Nat → Oper) : List Oper := [f 0, f 1, f 2, f 3, f 4, f 5, f 6, f 7, f 8, f 9, f 10, f 11, f 12, f 13, f 14, f 15, f 16, f 17, f 18, f 19, f 20, f 21]
abbrev zo24_ (f : Nat → Oper) : List Oper := [f 0, f 1, f 2, f 3, f 4, f 5, f 6, f 7, f 8, f 9, f 10, f 11, f 12, f 13, f 14, f 15, f 16, f 17, f 18, f 19, f 20, f 21, f 22, f 23]
abbrev zo36_ (f : Nat → Oper) : List Oper := [f 0, f 1, f 2, f 3, f 4, f 5, f 6, f 7, f 8, f 9, f 10, f 11, f 12, f 13, f 14, f 15, f 16, f 17, f 18, f 19, f 20, f 21, f 22, f 23, f 24, f 25, f 26, f 27, f 28, f 29, f 30, f 31, f 32, f 33, f 34, f 35]
abbrev un (n : Nat) : List Value := List.replicate n undef
abbrev fs (l : List (List Value)) : Array Value := l.flatten.toArray
abbrev kz_ (l : List Value) (k : Nat) : Value := l.getD k undef
abbrev nl5_ : List Nat := [0, 1, 2, 3, 4]
abbrev nl6_ : List Nat := [0, 1, 2, 3, 4, 5]
abbrev nl7_ : List Nat := [0, 1, 2, 3, 4, 5, 6]
abbrev nl8_ : List Nat := [0, 1, 2, 3, 4, 5, 6, 7]
abbrev nl9_ : List Nat := [0, 1, 2, 3, 4, 5, 6, 7, 8]
abbrev nl10_ : List Nat := [0, 1, 2, 3, 4, 5, 6, 7, 8, 9]
abbrev nl11_ : List Nat := [0, 1, 2, 3, 4, 5, 6, 7, 8, 9, 10]
abbrev nl12_ : List Nat := [0, 1, 2, 3, 4, 5, 6, 7, 8, 9, 10, 11]
abbrev nl13_ : List Nat := [0, 1, 2, 3, 4, 5, 6, 7, 8, 9, 10, 11, 12]
abbrev nl14_ : List Nat := [0, 1, 2, 3, 4, 5, 6, 7, 8, 9, 10, 11, 12, 13]
abbrev nl15_ : List Nat := [0, 1, 2, 3, 4, 5, 6, 7, 8, 9, 10, 11, 12, 13, 14]
abbrev nl16_ : List Nat := [0, 1, 2, 3, 4, 5, 6, 7, 8, 9, 10, 11, 12, 13, 14, 15]
abbrev nl19_ : List Nat := [0, 1, 2, 3, 4, 5, 6, 7, 8, 9, 10, 11, 12, 13, 14, 15, 16, 17, 18]
abbrev nl20_ : List Nat := [0, 1, 2, 3, 4, 5, 6, 7, 8, 9, 10, 11, 12, 13, 14, 15, 16, 17, 18, 19]
abbrev nl21_ : List Nat := [0, 1, 2, 3, 4, 5, 6, 7, 8, 9, 10, 11, 12, 13, 14, 15, 16, 17, 18, 19, 20]
abbrev nl22_ : List Nat := [0, 1, 2, 3, 4, 5, 6, 7, 8, 9, 10, 11, 12, 13, 14, 15, 16, 17, 18, 19, 20, 21]
abbrev nl26_ : List Nat := [0, 1, 2, 3, 4, 5, 6, 7, 8, 9, 10, 11, 12, 13, 14, 15, 16, 17, 18, 19, 20, 21, 22, 23, 24, 25]
abbrev nl29_ : List Nat := [0, 1, 2, 3, 4, 5, 6, 7, 8, 9, 10, 11, 12, 13, 14, 15, 16, 17, 18, 19, 20, 21, 22, 23, 24, 25, 26, 27, 28]
abbrev nl30_ : List Nat := [0, 1, 2, 3, 4, 5, 6, 7, 8, 9, 10, 11, 12, 13, 14, 15, 16, 17, 18, 19, 20, 21, 22, 23, 24, 25, 26, 27, 28, 29]
abbrev nl31_ : List Nat := [0, 1, 2, 3, 4, 5, 6, 7, 8, 9, 10, 11, 12, 13, 14, 15, 16, 17, 18, 19, 20, 21, 22, 23, 24, 25, 26, 27, 28, 29, 30]
abbrev nl34_ : List Nat := [0, 1, 2, 3, 4, 5, 6, 7, 8, 9, 10, 11, 12, 13, 14, 15, 16, 17, 18, 19, 20, 21, 22, 23, 24, 25, 26, 27, 28, 29, 30, 31, 32, 33]
end
section
open Go Go.RowKit
structure Turn (B : Nat) (M : Nat → Prop) (W W' : World) : Prop where
 os : W'.os = W.os
 tape : W'.tape = W.tape
 output : W'.output = W.output
 size : W.heap.size ≤ W'.heap.size
 same : ∀ (k : Nat) (o : Obj), W.heap[k]? = some o → ¬ M k → (k < B ∨ o.isCells = true) → W'.heap[k]? = some o
theorem Keeps.turn {M : Nat → Prop} {W W' : World} (h : Keeps M W W') (B : Nat) : Turn B M W W' :=
 ⟨h.os, h.tape, h.output, h.size, fun k o hk hm _ => (h.block k (Array.getElem?_eq_some_iff.1 hk).1 hm).trans hk⟩
theorem Turn.put {B : Nat} {M : Nat → Prop} (W : World) (l : Nat) (o o' : Obj) (hl : B ≤ l) (h : W.heap[l]? = some o) (ho : o.isCells = false) : Turn B M W (W.putObj l o') :=
 ⟨rfl, rfl, rfl, (grownBy_putObj' W l o').size, fun k p hk _ hp => by
  refine (World.putObj_heap_other (fun e => ?_)).trans hk
  subst e
  rw [h] at hk; cases hk
  rcases hp with hp | hp
  ·omega
  ·rw [ho] at hp; cases hp⟩
theorem Turn.cell {B : Nat} {M : Nat → Prop} {W W' : World} (h : Turn B M W W') {k i : Nat} {v : Value} (hc : W.cell? ⟨k, i, none⟩ = some v) (hm : ¬ M k) : W'.cell? ⟨k, i, none⟩ = some v := by
 obtain ⟨o, ho, hcells⟩ := cells_of_cell hc
 exact (World.cell?_of_block (w := W) ((h.same _ o ho hm (.inr hcells)).trans ho.symm)).trans hc
theorem Turn.frozen {B : Nat} {M : Nat → Prop} {W W' : World} (h : Turn B M W W') {k i : Nat} {v : Value} (hc : W.cell? ⟨k, i, none⟩ = some v) (hm : ¬ M k) : W'.frozen? ⟨k, i, none⟩ = W.frozen? ⟨k, i, none⟩ := by
 obtain ⟨o, ho, hcells⟩ := cells_of_cell hc
 exact World.frozen?_of_block (w := W) ((h.same _ o ho hm (.inr hcells)).trans ho.symm)
theorem Turn.keeps {B : Nat} {M : Nat → Prop} {W0 W W' : World} (h : Turn B M W W') (k : Keeps M W0 W) (hB : W0.heap.size ≤ B) : Keeps M W0 W' :=
 ⟨h.os.trans k.os, h.tape.trans k.tape, h.output.trans k.output, Nat.le_trans k.size h.size, fun i hi hm => by
  have h1 := k.block i hi hm
  cases ho : W0.heap[i]? with
  | none => have := Array.getElem?_eq_none_iff.1 ho; omega
  | some o => exact h.same i o (h1.trans ho) hm (.inl (by omega))⟩
theorem Turn.weak {B : Nat} {M M' : Nat → Prop} {W W' : World} (h : Turn B M W W') (hm : ∀ k, M k → M' k) : Turn B M' W W' := ⟨h.os, h.tape, h.output, h.size, fun k o hk hn => h.same k o hk (fun x => hn (hm k x))⟩
theorem Turn.keepsN {B : Nat} {M : Nat → Prop} {W0 W W' : World} (h : Turn B Nob W W') (k : Keeps M W0 W) (hB : W0.heap.size ≤ B) : Keeps M W0 W' := (h.weak (M' := M) (fun _ x => x.elim)).keeps k hB
theorem Keeps.from {M : Nat → Prop} {W W' : World} (h : Keeps M W W') {B : Nat} (hm : ∀ k, M k → k < B) : KeepsFrom B W W' :=
 ⟨h.size, fun k o hB hk _ => (h.block k (Array.getElem?_eq_some_iff.1 hk).1 (fun x => by have := hm k x; omega)).trans hk⟩
def SeqOwn {α : Type} (F : Fence) (n : Nat) (P : Program) (g : Nat) (lb : Array Value) (encs : α → Array Value) (xs : List α) (Mi : Nat → Prop) (S : Nat → World → Prop) : Prop :=
 ∀ (l : Nat) (J : Nat → World → Prop) (Jx : World → Prop) (W : World),
  (∀ k A B, J k A → Keeps Mi A B → J k B) → (∀ A B, Jx A → Keeps Mi A B → Jx B) →
  (∀ k x W1, xs[k]? = some x → J k W1 → S k W1 → YieldAt F (n - 1) P l (encs x) W1 fun e W' =>
   (e = .returned (.bool true) ∧ J (k + 1) W' ∧ S k W') ∨ (e = .returned (.bool false) ∧ Jx W')) →
  J 0 W → S 0 W →
  CallsIn F n P g (#[.func (.yield l) #[] #[]] ++ lb) W fun e W' => (∃ v, e = .returned v) ∧ (J xs.length W' ∨ Jx W')
def SeqOwnG {α : Type} (E : Prop) (F : Fence) (n : Nat) (P : Program) (g : Nat) (lb : Array Value) (encs : α → Array Value) (xs : List α) (Mi : Nat → Prop) (S : Nat → World → Prop) : Prop :=
 ∀ (l : Nat) (J : Nat → World → Prop) (Jx : World → Prop) (W : World),
  (∀ k A B, J k A → Keeps Mi A B → J k B) → (∀ A B, Jx A → Keeps Mi A B → Jx B) →
  (∀ k x W1, xs[k]? = some x → J k W1 → S k W1 → YieldAt F (n - 1) P l (encs x) W1 fun e W' =>
   (e = .returned (.bool true) ∧ J (k + 1) W' ∧ S k W') ∨ (e = .returned (.bool false) ∧ Jx W')) → (E → ∀ W, ¬ J xs.length W) →
  J 0 W → S 0 W →
  CallsIn F n P g (#[.func (.yield l) #[] #[]] ++ lb) W fun e W' => (∃ v, e = .returned v) ∧ (J xs.length W' ∨ Jx W')
def rangeEnd (B : Nat) (In : World → Prop) (Ix : Code → World → Prop) (W : World) : Exit → Act → World → Prop
 | .normal, _, W' => KeepsFrom B W W' ∧ In W'
 | .ret, _, W' => KeepsFrom B W W' ∧ Ix .ret W'
 | .exit id, _, W' => KeepsFrom B W W' ∧ Ix (.exit id) W'
 | .goto t, _, W' => KeepsFrom B W W' ∧ Ix (.goto t) W'
 | .panic _, _, _ => False
 | .outgrown, _, _ => False
variable {F : Fence} {n : Nat} {P : Program}
theorem own_rangeG {α : Type} (E : Prop) {g : Operand} {ps : Array Tmp} {assign body : Code} {Q : Exit → Act → World → Prop} {a : Act} {w : World}
  (hro : F.round = none) (h1 : 1 ≤ n) {gf : Nat} {lb : Array Value} (hg : a.eval g = .func (.func gf) #[] lb) (hFg : F.fn gf) (eg : ∀ args w, (callFunc gf args).run P w = .ok (.enter gf args) w)
  {encs : α → Array Value} (hps : ∀ x, (encs x).size = ps.size) {xs : List α} {Mi : Nat → Prop} {S : Nat → World → Prop} (hMi : ∀ j, Mi j → j < w.heap.size)
  (hseq : SeqOwnG E F (n - 1) P gf lb encs xs Mi S) (hS : ∀ k A B, S k A → Turn w.heap.size Nob A B → S k B) (hS0 : S 0 w)
  (I : Nat → World → Prop) (Ix : Code → World → Prop) (hI : ∀ k A B, I k A → Turn w.heap.size Mi A B → I k B) (hIx : ∀ c A B, Ix c A → Turn w.heap.size Mi A B → Ix c B) (h0 : I 0 w) (hE : E → ∀ W, ¬ I xs.length W)
  (Ax : Nat → α → Act → World → Prop) (hAx : ∀ k x a' A B, Ax k x a' A → Turn w.heap.size Nob A B → Ax k x a' B)
  (hassign : ∀ (l k : Nat) (x : α) (W : World) (K : Act → World → Prop), xs[k]? = some x → I k W → S k W → (∀ a' W', KeepsFrom w.heap.size W W' → I k W' → S k W' → Ax k x a' W' → K a' W') →
   assign.wpIn (F.inRound l) (n - 1 - 1) P (Exit.then K (fun _ _ _ => False)) { tmps := (ps.zip (encs x)).foldl (fun t (p, v) => t.setIfInBounds p v) a.tmps, defers := [] } W)
  (hbody : ∀ (l k : Nat) (x : α) (a' : Act) (W : World), w.heap.size ≤ l → (∃ r, W.heap[l]? = some (.loop r)) → xs[k]? = some x → I k W → S k W → Ax k x a' W →
   body.wpIn (F.inRound l) (n - 1 - 1) P (rangeEnd w.heap.size (fun W' => I (k + 1) W' ∧ S k W') Ix W) a' W)
  (hdone : ∀ (D : Nat) (W : World), w.heap.size ≤ D → I xs.length W → W.heap[D]? = some (.deferred (some [])) → Q .normal { a with defers := { target := .collected D, args := #[] } :: a.defers } W)
  (hstop : ∀ (D : Nat) (c : Code) (W : World), w.heap.size ≤ D → Ix c W → W.heap[D]? = some (.deferred (some [])) → c.wpIn F n P Q { a with defers := { target := .collected D, args := #[] } :: a.defers } W) :
  (Code.rangeFunc g ps assign body).wpIn F n P Q a w := by
 refine wpIn_rangeFunc ?_
 intro fn hfn
 rw [hro]
 obtain ⟨rec, hrec⟩ : ∃ rec : LoopState → Option Code → Loop, rec = fun st pe => { state := st, pending := pe, fn, tmps := a.tmps, params := ps, assign, body, defers := w.heap.size } := ⟨_, rfl⟩
 obtain ⟨W1, hW1⟩ : ∃ W1, (w.alloc (.deferred (some []))).alloc (.loop (rec .ready none)) = W1 := ⟨_, rfl⟩
 have hL1 : W1.heap[w.heap.size + 1]? = some (.loop (rec .ready none)) := by
  rw [← hW1]; have := World.alloc_heap_new (w.alloc (.deferred (some []))) (.loop (rec .ready none)); rwa [World.size_alloc] at this
 have hK1 : W1.heap[w.heap.size]? = some (.deferred (some [])) := by
  rw [← hW1]; exact (Below.heap_alloc _ _ _ (by simp)).trans (World.alloc_heap_new w _)
 have hT1 : ∀ M, Turn w.heap.size M w W1 := fun M => by rw [← hW1]; exact (((Keeps.refl M w).alloc _).alloc _).turn _
 have hI1 : I 0 W1 := hI _ _ _ h0 (hT1 _)
 have hS1 : S 0 W1 := hS _ _ _ hS0 (hT1 _)
 refine ⟨w.heap.size + 1, [{ target := .collected w.heap.size, args := #[] }], W1, { target := .fn (.func gf) lb, args := #[.func (.yield (w.heap.size + 1)) #[] #[]] }, W1, gf,
  #[.func (.yield (w.heap.size + 1)) #[] #[]] ++ lb, W1, ?_, ?_, ?_, ?_, fun _ => h1, ?_⟩
 ·rw [← hW1, hrec]; exact run_enterLoop_outer _ _ _ _ _
 ·simp only [resolve, hg]
  simp [go_sem]
 ·intro f' hf'; simp [Target.leads] at hf'; subst hf'; exact hFg
 ·simp [invoke, go_sem, eg]
 ·have hkeep : ∀ {A B : World} {k : Nat} {o : Obj}, w.heap.size ≤ k → Keeps Mi A B → A.heap[k]? = some o → B.heap[k]? = some o := fun hk hAB ho =>
   (hAB.block _ (Array.getElem?_eq_some_iff.1 ho).1 (fun hm => by have := hMi _ hm; omega)).trans ho
  refine (hseq (w.heap.size + 1)
   (fun k W => I k W ∧ W.heap[w.heap.size + 1]? = some (.loop (rec .ready none)) ∧ W.heap[w.heap.size]? = some (.deferred (some [])))
   (fun W => ∃ c, Ix c W ∧ W.heap[w.heap.size + 1]? = some (.loop (rec .done (some c))) ∧ W.heap[w.heap.size]? = some (.deferred (some [])))
   W1
   (fun k A B hs hAB => ⟨hI k A B hs.1 (hAB.turn _), hkeep (by omega) hAB hs.2.1, hkeep (by omega) hAB hs.2.2⟩)
   (fun A B hs hAB => by
    obtain ⟨c, hc, hl, hk⟩ := hs
    exact ⟨c, hIx c A B hc (hAB.turn _), hkeep (by omega) hAB hl, hkeep (by omega) hAB hk⟩)
   ?_ (fun e W h => hE e W h.1) ⟨hI1, hL1, hK1⟩ hS1).mono ?_
  ·-- one round
   rintro k x W hx ⟨hi, hl, hk⟩ hs
   have hlt : w.heap.size + 1 < W.heap.size := (Array.getElem?_eq_some_iff.1 hl).1
   have hy := run_yield (P := P) (args := encs x) hl (by rw [hrec]; exact hps x)
   rw [hrec] at hy
   refine ⟨fn, _, assign, body, hy, roundIn_of_wpIn hfn (hassign _ k x W _ hx hi hs ?_)⟩
   clear hy
   intro a' Wa hkfa hia hsa hax
   replace hl := hkfa.same _ _ (by omega) hl rfl
   replace hk := hkfa.same _ _ (Nat.le_refl _) hk rfl
   replace hlt : w.heap.size + 1 < Wa.heap.size := (Array.getElem?_eq_some_iff.1 hl).1
   replace hi := hia
   replace hs := hsa
   clear hia hsa
   clear hkfa
   obtain ⟨W, rfl⟩ : ∃ W, W = Wa := ⟨_, rfl⟩
   refine ⟨_, run_beginRound hl (by rw [hrec]), ?_⟩
   have hl2 : (W.putObj (w.heap.size + 1) (.loop { rec .ready none with state := .busy })).heap[w.heap.size + 1]? = some (.loop { rec .ready none with state := .busy }) := World.putObj_heap_same hlt
   have hk2 : (W.putObj (w.heap.size + 1) (.loop { rec .ready none with state := .busy })).heap[w.heap.size]? = some (.deferred (some [])) := (World.putObj_heap_other (by omega)).trans hk
   have ht2 : ∀ M, Turn w.heap.size M W (W.putObj (w.heap.size + 1) (.loop { rec .ready none with state := .busy })) := fun M => Turn.put _ _ _ _ (by omega) hl rfl
   refine wpIn_mono (hbody _ k x a' _ (by omega) ⟨_, hl2⟩ hx (hI _ _ _ hi (ht2 _)) (hS _ _ _ hs (ht2 _)) (hAx _ _ _ _ _ hax (ht2 _))) ?_
   have fin : ∀ (jump : Option Code) (W3 : World), KeepsFrom w.heap.size (W.putObj (w.heap.size + 1) (.loop { rec .ready none with state := .busy })) W3 →
     (Instr.endRound (w.heap.size + 1) jump).run P W3 = .ok (.bool jump.isNone) (W3.putObj (w.heap.size + 1) (.loop (rec (if jump.isNone then .ready else .done) jump))) ∧
     W3.heap[w.heap.size + 1]? = some (.loop { rec .ready none with state := .busy }) ∧
     (W3.putObj (w.heap.size + 1) (.loop (rec (if jump.isNone then .ready else .done) jump))).heap[w.heap.size + 1]? = some (.loop (rec (if jump.isNone then .ready else .done) jump)) ∧
     (W3.putObj (w.heap.size + 1) (.loop (rec (if jump.isNone then .ready else .done) jump))).heap[w.heap.size]? = some (.deferred (some [])) := fun jump W3 hk3 => by
    have hl3 := hk3.same _ _ (by omega) hl2 rfl
    have := run_endRound (P := P) jump hl3
    rw [hrec] at this ⊢
    exact ⟨this, by rw [hrec] at hl3; exact hl3, World.putObj_heap_same (Array.getElem?_eq_some_iff.1 hl3).1, (World.putObj_heap_other (by omega)).trans (hk3.same _ _ (Nat.le_refl _) hk2 rfl)⟩
   rintro e a3 W3 hp
   cases e with
   | normal =>
    obtain ⟨hk3, hi3, hs3⟩ := hp
    obtain ⟨hr, hl3, hl4, hk4⟩ := fin none W3 hk3
    exact ⟨_, _, hr, .inl ⟨rfl, ⟨hI _ _ _ hi3 (Turn.put _ _ _ _ (by omega) hl3 rfl), hl4, hk4⟩, hS _ _ _ hs3 (Turn.put _ _ _ _ (by omega) hl3 rfl)⟩⟩
   | ret =>
    obtain ⟨hk3, hi3⟩ := hp
    obtain ⟨hr, hl3, hl4, hk4⟩ := fin (some .ret) W3 hk3
    exact ⟨_, _, hr, .inr ⟨rfl, .ret, hIx _ _ _ hi3 (Turn.put _ _ _ _ (by omega) hl3 rfl), hl4, hk4⟩⟩
   | exit id =>
    obtain ⟨hk3, hi3⟩ := hp
    obtain ⟨hr, hl3, hl4, hk4⟩ := fin (some (.exit id)) W3 hk3
    exact ⟨_, _, hr, .inr ⟨rfl, .exit id, hIx _ _ _ hi3 (Turn.put _ _ _ _ (by omega) hl3 rfl), hl4, hk4⟩⟩
   | goto t =>
    obtain ⟨hk3, hi3⟩ := hp
    obtain ⟨hr, hl3, hl4, hk4⟩ := fin (some (.goto t)) W3 hk3
    exact ⟨_, _, hr, .inr ⟨rfl, .goto t, hIx _ _ _ hi3 (Turn.put _ _ _ _ (by omega) hl3 rfl), hl4, hk4⟩⟩
   | panic ch => exact hp.elim
   | outgrown => exact hp.elim
  ·-- behind the iterator
   rintro e W2 ⟨⟨v, rfl⟩, (⟨hi, hl, hk⟩ | ⟨c, hi, hl, hk⟩)⟩
   ·exact ⟨none, _, by have := run_endLoop (P := P) hl (by rw [hrec]; simp); rw [hrec] at this; exact this, hdone _ _ (Nat.le_refl _) (hI _ _ _ hi (Turn.put _ _ _ _ (by omega) hl rfl)) ((World.putObj_heap_other (by omega)).trans hk)⟩
   ·exact ⟨some c, _, by have := run_endLoop (P := P) hl (by rw [hrec]; simp); rw [hrec] at this; exact this, hstop _ c _ (Nat.le_refl _) (hIx _ _ _ hi (Turn.put _ _ _ _ (by omega) hl rfl)) ((World.putObj_heap_other (by omega)).trans hk)⟩
theorem own_range {α : Type} {g : Operand} {ps : Array Tmp} {assign body : Code} {Q : Exit → Act → World → Prop} {a : Act} {w : World}
  (hro : F.round = none) (h1 : 1 ≤ n) {gf : Nat} {lb : Array Value} (hg : a.eval g = .func (.func gf) #[] lb) (hFg : F.fn gf) (eg : ∀ args w, (callFunc gf args).run P w = .ok (.enter gf args) w)
  {encs : α → Array Value} (hps : ∀ x, (encs x).size = ps.size) {xs : List α} {Mi : Nat → Prop} {S : Nat → World → Prop} (hMi : ∀ j, Mi j → j < w.heap.size)
  (hseq : SeqOwn F (n - 1) P gf lb encs xs Mi S) (hS : ∀ k A B, S k A → Turn w.heap.size Nob A B → S k B) (hS0 : S 0 w)
  (I : Nat → World → Prop) (Ix : Code → World → Prop) (hI : ∀ k A B, I k A → Turn w.heap.size Mi A B → I k B) (hIx : ∀ c A B, Ix c A → Turn w.heap.size Mi A B → Ix c B) (h0 : I 0 w)
  (Ax : Nat → α → Act → World → Prop) (hAx : ∀ k x a' A B, Ax k x a' A → Turn w.heap.size Nob A B → Ax k x a' B)
  (hassign : ∀ (l k : Nat) (x : α) (W : World) (K : Act → World → Prop), xs[k]? = some x → I k W → S k W → (∀ a' W', KeepsFrom w.heap.size W W' → I k W' → S k W' → Ax k x a' W' → K a' W') →
   assign.wpIn (F.inRound l) (n - 1 - 1) P (Exit.then K (fun _ _ _ => False)) { tmps := (ps.zip (encs x)).foldl (fun t (p, v) => t.setIfInBounds p v) a.tmps, defers := [] } W)
  (hbody : ∀ (l k : Nat) (x : α) (a' : Act) (W : World), w.heap.size ≤ l → (∃ r, W.heap[l]? = some (.loop r)) → xs[k]? = some x → I k W → S k W → Ax k x a' W →
   body.wpIn (F.inRound l) (n - 1 - 1) P (rangeEnd w.heap.size (fun W' => I (k + 1) W' ∧ S k W') Ix W) a' W)
  (hdone : ∀ (D : Nat) (W : World), w.heap.size ≤ D → I xs.length W → W.heap[D]? = some (.deferred (some [])) → Q .normal { a with defers := { target := .collected D, args := #[] } :: a.defers } W)
  (hstop : ∀ (D : Nat) (c : Code) (W : World), w.heap.size ≤ D → Ix c W → W.heap[D]? = some (.deferred (some [])) → c.wpIn F n P Q { a with defers := { target := .collected D, args := #[] } :: a.defers } W) :
  (Code.rangeFunc g ps assign body).wpIn F n P Q a w :=
 own_rangeG False hro h1 hg hFg eg hps hMi (fun l J Jx W a b c _ => hseq l J Jx W a b c) hS hS0 I Ix hI hIx h0 (fun h => h.elim) Ax hAx hassign hbody hdone hstop
end
section
open Go Go.RowKit
variable {P : Program} {ops : Array Oper} {md : Region.Mode} {C : World → Prop} {l n : Nat}
def noDefer (ops : Array Oper) : Bool := ops.all fun o => match o.op with | .defer _ => false | _ => true
theorem wpIn_of_quietW {o : Oper} {a : Act} {K : Act → Prop} {K' : Act → World → Prop} {Q' : Exit → Act → World → Prop} {w : World} (hd : ∀ c, o.op ≠ .defer c) (hw : C w)
  (h : ∀ a w', C w' → K a → K' a w') (hh : o.quiet P a C K) : o.wpIn (Fence.wide.inRound l) n P a w K' Q' := by
 obtain ⟨v, h1, h2⟩ := hh
 have h3 := h1 w hw
 unfold Oper.quietAt at h3
 unfold Oper.wpIn
 refine ⟨fun _ _ => trivial, ?_⟩
 rw [Oper.semAt_eq _ _ _ hd]
 generalize (execOp a.eval o).run P w = r at *
 cases r with
 | ok x w' =>
  cases x <;> simp only [Oper.quietUpon] at h3 <;> simp only [Oper.uponIn]
  case value u =>
   obtain ⟨e1, e2⟩ := h3
   rw [e1, e2]
   exact h _ _ hw h2
  case skip =>
   obtain ⟨e1, e2⟩ := h3
   rw [e1, ← e2]
   exact h _ _ hw h2
  case enter f args =>
   obtain ⟨e1, hc⟩ := h3
   rw [e1]
   refine ⟨fun hx => by simp [Fence.wide, Fence.inRound] at hx, ?_⟩
   refine (CallsIn.inRound l (callsIn_wide.2 hc)).mono fun e w'' ⟨he, hw''⟩ => by subst he; exact h _ _ hw'' h2
 | halt x w' => simp only [Oper.quietUpon] at h3
theorem wpOpIn_of_qOpW {i : Nat} {a : Act} {K : Act → Prop} {K' : Act → World → Prop} {Q' : Exit → Act → World → Prop} {w : World} (hd : noDefer ops = true) (hC : C w)
  (h : ∀ a w', C w' → K a → K' a w') (hh : qOp P ops C i K a) : wpOpIn (Fence.wide.inRound l) n P ops Q' i K' a w := by
 unfold qOp at hh
 unfold wpOpIn
 split
 ·rename_i ho; simp only [ho] at hh; exact h _ _ hC hh
 ·rename_i o ho
  simp only [ho] at hh
  split
  ·rename_i hw; simp only [hw, if_true] at hh
   refine wpIn_of_quietW (fun c hc => ?_) hC h hh
   have := Array.all_eq_true.1 hd i (Array.getElem?_eq_some_iff.1 ho).1
   rw [(Array.getElem?_eq_some_iff.1 ho).2, hc] at this
   cases this
  ·rename_i hw; simp only [hw] at hh; exact ⟨fun _ _ => trivial, h _ _ hC hh⟩
theorem wpAnyIn_of_quietW {Q : Act → Prop} {Q' : Exit → Act → World → Prop} (hd : noDefer ops = true) (hQ : ∀ a w, C w → Q a → Q' .normal a w) : ∀ (fuel : Nat) (listed : Array Bool) (a : Act) (w : World), C w →
  wpAnyQ P md ops C Q fuel listed a → wpAnyIn (Fence.wide.inRound l) n P md ops Q' fuel listed a w
 | 0, _, _, _, hw, h => ⟨h.1, hQ _ _ hw h.2⟩
 | fuel + 1, _, _, _, hw, h => ⟨fun h0 => hQ _ _ hw (h.1 h0), fun i hi => wpOpIn_of_qOpW hd hw (fun a' w' hw' => wpAnyIn_of_quietW hd hQ fuel _ a' w' hw') (h.2 i hi)⟩
theorem round_region_quiet {id : Nat} {Q : Exit → Act → World → Prop} {a : Act} {w : World} (hm : P.follows .mixedOrders = true) (hB : Region.lexB .any ops = true) (hd : noDefer ops = true) (hC : C { w with drawn := w.drawn + 1 })
  (h : wpQuiet P ops C (fun a' => ∀ w', C w' → Q .normal a' w') ops.toList a) : (Code.region id ops true).wpIn (Fence.wide.inRound l) n P Q a w := by
 simp only [Region.lexB, Bool.and_eq_true] at hB
 refine wpIn_region_any hm (wpAnyIn_of_quietW (Q := fun a' => ∀ w', C w' → Q .normal a' w') hd (fun _ w' hw' h => h w' hw') _ _ _ _ hC ?_)
 have := wpAnyQ_lex (C := C) (md := .any) hB.1 ops.toList 0 (Array.replicate ops.size false) a (by simp) (by simpa using hB.2) h
 simpa using this
theorem round_quiet {id : Nat} {Q : Exit → Act → World → Prop} {a : Act} {w : World} {l' : List Oper} (hm : P.follows .mixedOrders = true) (hB : Region.lexB .any l'.toArray = true) (hd : noDefer l'.toArray = true)
  (h : wpQuiet P l'.toArray (fun w' => ∃ n, w' = w.drewN n) (fun a' => ∀ w', (∃ n, w' = w.drewN n) → Q .normal a' w') l' a) : (Code.region id l'.toArray true).wpIn (Fence.wide.inRound l) n P Q a w :=
 round_region_quiet (C := fun w' => ∃ n, w' = w.drewN n) hm hB hd ⟨1, rfl⟩ (by simpa using h)
theorem calls_marks (n : Nat) {f : FuncId} {fn : Func} {c : Code} {args : Array Value} {w : World} {R : Ending → World → Prop} (hf : P.funcs[f]? = some fn) (hb : fn.body = some c)
  (h : c.wp P (bodyPostM Fence.wide n P fn R) { tmps := args ++ Array.replicate (fn.ntmps - args.size) undef, defers := [] } w) : Calls P f args w R :=
 (callsIn_wide (n := n)).1 (callsIn_of_wp_marks hf hb trivial (wpIn_wide.2 h))
theorem wp_range {α : Type} (n : Nat) {g : Operand} {ps : Array Tmp} {assign body : Code} {Q : Exit → Act → World → Prop} {a : Act} {w : World}
  {gf : Nat} {lb : Array Value} (hg : a.eval g = .func (.func gf) #[] lb) (eg : ∀ args w, (callFunc gf args).run P w = .ok (.enter gf args) w)
  {encs : α → Array Value} (hps : ∀ x, (encs x).size = ps.size) {xs : List α} {Mi : Nat → Prop} {S : Nat → World → Prop} (hMi : ∀ j, Mi j → j < w.heap.size)
  (hseq : SeqOwn Fence.wide (n + 2) P gf lb encs xs Mi S) (hS : ∀ k A B, S k A → Turn w.heap.size Nob A B → S k B) (hS0 : S 0 w)
  (I : Nat → World → Prop) (Ix : Code → World → Prop) (hI : ∀ k A B, I k A → Turn w.heap.size Mi A B → I k B) (hIx : ∀ c A B, Ix c A → Turn w.heap.size Mi A B → Ix c B) (h0 : I 0 w)
  (Ax : Nat → α → Act → World → Prop) (hAx : ∀ k x a' A B, Ax k x a' A → Turn w.heap.size Nob A B → Ax k x a' B)
  (hassign : ∀ (l k : Nat) (x : α) (W : World) (K : Act → World → Prop), xs[k]? = some x → I k W → S k W → (∀ a' W', KeepsFrom w.heap.size W W' → I k W' → S k W' → Ax k x a' W' → K a' W') →
   assign.wpIn (Fence.wide.inRound l) (n + 1) P (Exit.then K (fun _ _ _ => False)) { tmps := (ps.zip (encs x)).foldl (fun t (p, v) => t.setIfInBounds p v) a.tmps, defers := [] } W)
  (hbody : ∀ (l k : Nat) (x : α) (a' : Act) (W : World), w.heap.size ≤ l → (∃ r, W.heap[l]? = some (.loop r)) → xs[k]? = some x → I k W → S k W → Ax k x a' W →
   body.wpIn (Fence.wide.inRound l) (n + 1) P (rangeEnd w.heap.size (fun W' => I (k + 1) W' ∧ S k W') Ix W) a' W)
  (hdone : ∀ (D : Nat) (W : World), w.heap.size ≤ D → I xs.length W → W.heap[D]? = some (.deferred (some [])) → Q .normal { a with defers := { target := .collected D, args := #[] } :: a.defers } W)
  (hstop : ∀ (D : Nat) (c : Code) (W : World), w.heap.size ≤ D → Ix c W → W.heap[D]? = some (.deferred (some [])) → c.wp P Q { a with defers := { target := .collected D, args := #[] } :: a.defers } W) :
  (Code.rangeFunc g ps assign body).wp P Q a w :=
 (wpIn_wide (n := n + 3)).1 (own_range (F := Fence.wide) rfl (by omega) hg trivial eg hps hMi hseq hS hS0 I Ix hI hIx h0 Ax hAx hassign hbody hdone (fun D c W h1 h2 h3 => wpIn_wide.2 (hstop D c W h1 h2 h3)))
theorem wp_range1 {α : Type} (n : Nat) {g : Operand} {ps : Array Tmp} {assign body : Code} {Q : Exit → Act → World → Prop} {a : Act} {w : World}
  {gf : Nat} {lb : Array Value} (hg : a.eval g = .func (.func gf) #[] lb) (eg : ∀ args w, (callFunc gf args).run P w = .ok (.enter gf args) w)
  {encs : α → Array Value} (hps : ∀ x, (encs x).size = ps.size) {xs : List α} {Mi : Nat → Prop} {S : Nat → World → Prop} (hMi : ∀ j, Mi j → j < w.heap.size)
  (hseq : SeqOwn Fence.wide (n + 2) P gf lb encs xs Mi S) (hS : ∀ k A B, S k A → Turn w.heap.size Nob A B → S k B) (hS0 : S 0 w)
  (I : Nat → World → Prop) (Ix : Code → World → Prop) (hI : ∀ k A B, I k A → Turn w.heap.size Mi A B → I k B) (hIx : ∀ c A B, Ix c A → Turn w.heap.size Mi A B → Ix c B) (h0 : I 0 w)
  (f : α → Act)
  (hassign : ∀ (l k : Nat) (x : α) (W : World) (K : Act → World → Prop), xs[k]? = some x → I k W → S k W → K (f x) W →
   assign.wpIn (Fence.wide.inRound l) (n + 1) P (Exit.then K (fun _ _ _ => False)) { tmps := (ps.zip (encs x)).foldl (fun t (p, v) => t.setIfInBounds p v) a.tmps, defers := [] } W)
  (hbody : ∀ (l k : Nat) (x : α) (W : World), w.heap.size ≤ l → (∃ r, W.heap[l]? = some (.loop r)) → xs[k]? = some x → I k W → S k W →
   body.wpIn (Fence.wide.inRound l) (n + 1) P (rangeEnd w.heap.size (fun W' => I (k + 1) W' ∧ S k W') Ix W) (f x) W)
  (hdone : ∀ (D : Nat) (W : World), w.heap.size ≤ D → I xs.length W → W.heap[D]? = some (.deferred (some [])) → Q .normal { a with defers := { target := .collected D, args := #[] } :: a.defers } W)
  (hstop : ∀ (D : Nat) (c : Code) (W : World), w.heap.size ≤ D → Ix c W → W.heap[D]? = some (.deferred (some [])) → c.wp P Q { a with defers := { target := .collected D, args := #[] } :: a.defers } W) :
  (Code.rangeFunc g ps assign body).wp P Q a w :=
 wp_range n hg eg hps hMi hseq hS hS0 I Ix hI hIx h0 (fun _ x a' _ => a' = f x) (fun _ _ _ _ _ h _ => h)
  (fun l k x W K hx hi hs hK => hassign l k x W K hx hi hs (hK _ _ (KeepsFrom.refl _ _) hi hs rfl)) (fun l k x a' W hl hr hx hi hs ha => by subst ha; exact hbody l k x W hl hr hx hi hs) hdone hstop
theorem wp_range1G {α : Type} (E : Prop) (n : Nat) {g : Operand} {ps : Array Tmp} {assign body : Code} {Q : Exit → Act → World → Prop} {a : Act} {w : World}
  {gf : Nat} {lb : Array Value} (hg : a.eval g = .func (.func gf) #[] lb) (eg : ∀ args w, (callFunc gf args).run P w = .ok (.enter gf args) w)
  {encs : α → Array Value} (hps : ∀ x, (encs x).size = ps.size) {xs : List α} {Mi : Nat → Prop} {S : Nat → World → Prop} (hMi : ∀ j, Mi j → j < w.heap.size)
  (hseq : SeqOwnG E Fence.wide (n + 2) P gf lb encs xs Mi S) (hS : ∀ k A B, S k A → Turn w.heap.size Nob A B → S k B) (hS0 : S 0 w)
  (I : Nat → World → Prop) (Ix : Code → World → Prop) (hI : ∀ k A B, I k A → Turn w.heap.size Mi A B → I k B) (hIx : ∀ c A B, Ix c A → Turn w.heap.size Mi A B → Ix c B) (h0 : I 0 w) (hE : E → ∀ W, ¬ I xs.length W)
  (f : α → Act)
  (hassign : ∀ (l k : Nat) (x : α) (W : World) (K : Act → World → Prop), xs[k]? = some x → I k W → S k W → K (f x) W →
   assign.wpIn (Fence.wide.inRound l) (n + 1) P (Exit.then K (fun _ _ _ => False)) { tmps := (ps.zip (encs x)).foldl (fun t (p, v) => t.setIfInBounds p v) a.tmps, defers := [] } W)
  (hbody : ∀ (l k : Nat) (x : α) (W : World), w.heap.size ≤ l → (∃ r, W.heap[l]? = some (.loop r)) → xs[k]? = some x → I k W → S k W →
   body.wpIn (Fence.wide.inRound l) (n + 1) P (rangeEnd w.heap.size (fun W' => I (k + 1) W' ∧ S k W') Ix W) (f x) W)
  (hdone : ∀ (D : Nat) (W : World), w.heap.size ≤ D → I xs.length W → W.heap[D]? = some (.deferred (some [])) → Q .normal { a with defers := { target := .collected D, args := #[] } :: a.defers } W)
  (hstop : ∀ (D : Nat) (c : Code) (W : World), w.heap.size ≤ D → Ix c W → W.heap[D]? = some (.deferred (some [])) → c.wp P Q { a with defers := { target := .collected D, args := #[] } :: a.defers } W) :
  (Code.rangeFunc g ps assign body).wp P Q a w :=
 (wpIn_wide (n := n + 3)).1 (own_rangeG (F := Fence.wide) E rfl (by omega) hg trivial eg hps hMi hseq hS hS0 I Ix hI hIx h0 hE (fun _ x a' _ => a' = f x) (fun _ _ _ _ _ h _ => h)
  (fun l k x W K hx hi hs hK => hassign l k x W K hx hi hs (hK _ _ (KeepsFrom.refl _ _) hi hs rfl)) (fun l k x a' W hl hr hx hi hs ha => by subst ha; exact hbody l k x W hl hr hx hi hs) hdone (fun D c W h1 h2 h3 => wpIn_wide.2 (hstop D c W h1 h2 h3)))
theorem marks_ret {fn : Func} {R : Ending → World → Prop} {n D : Nat} {t : Array Value} {v : Value} {W : World} (hD : W.heap[D]? = some (.deferred (some [])))
  (hres : (results fn t).run P (W.putObj D (.deferred none)) = .ok v (W.putObj D (.deferred none))) (h : R (.returned v) (W.putObj D (.deferred none))) :
  bodyPostM Fence.wide n P fn R .ret { tmps := t, defers := [{ target := .collected D, args := #[] }] } W :=
 ⟨by simp, .inl ⟨_, _, rfl, run_takeDeferred hD, ⟨_, hres, h⟩⟩⟩
theorem Row.others {w w' : World} {e : TypeId} {size n : Nat} {v : Value} {xs : List Value} (h : Row w e size v n xs) (hg : w.grownBy w' v.ownBlock) : KeepsOthers w w' :=
 KeepsOthers.of_grownBy hg fun j o hj ho => by
  obtain ⟨cs, hc⟩ := h.elem hj
  rw [ho] at hc
  simp only [Option.some.injEq] at hc
  rw [hc]; rfl
end
section
open Go Go.RowKit Go.Shelf
section
variable {P : Program} {ops : Array Oper} {Q : Exit → Act → World → Prop} {md : Region.Mode} {l n : Nat}
theorem wpIn_of_wpOper {o : Oper} {a : Act} {w : World} {K K' : Act → World → Prop} (hd : ∀ c, o.op ≠ .defer c) (hL : ¬ LetsOut Q) (h : ∀ a w, K a w → K' a w) (hh : o.wp P a w K Q) : o.wpIn (Fence.wide.inRound l) n P a w K' Q := by
 unfold Oper.wp at hh
 unfold Oper.wpIn
 refine ⟨fun _ _ => trivial, ?_⟩
 rw [Oper.semAt_eq _ _ _ hd]
 generalize (execOp a.eval o).run P w = r at *
 cases r with
 | ok x w' =>
  cases x <;> simp only [Oper.upon] at hh <;> simp only [Oper.uponIn]
  case value u => exact h _ _ hh
  case skip => exact h _ _ hh
  case defer d => exact h _ _ hh
  case enter f args =>
   refine ⟨fun hx => by simp [Fence.wide, Fence.inRound] at hx, (CallsIn.inRound l (callsIn_wide.2 hh)).mono fun e w'' he => ?_⟩
   cases e with
   | returned v => exact h _ _ he
   | panicked c => exact he
   | outgrown => exact absurd he hL
  case row row args =>
   refine ⟨fun hx => by simp [Fence.wide, Fence.inRound] at hx, ?_⟩
   have h2 : RowsIn Fence.wide (n - 1) P row args w' fun v w'' => K' (a.put o.dst v) w'' := fun c cs _ => let ⟨v, w2, r, s⟩ := hh c cs; ⟨v, w2, h _ _ r, stepsIn_wide.2 s⟩
   exact h2
 | halt x w' =>
  cases x <;> simp only [Oper.upon] at hh <;> simp only [Oper.uponIn]
  exact hh
theorem wpOpIn_of_wpOp {i : Nat} {a : Act} {w : World} {K K' : Act → World → Prop} (hd : noDefer ops = true) (hL : ¬ LetsOut Q) (h : ∀ a w, K a w → K' a w) (hh : wpOp P ops Q i K a w) : wpOpIn (Fence.wide.inRound l) n P ops Q i K' a w := by
 unfold wpOp at hh
 unfold wpOpIn
 split
 ·rename_i ho; simp only [ho] at hh; exact h _ _ hh
 ·rename_i o ho
  simp only [ho] at hh
  split
  ·rename_i hw; simp only [hw, if_true] at hh
   rcases hh with hh | hh
   ·refine wpIn_of_wpOper (fun c hc => ?_) hL h hh
    have := Array.all_eq_true.1 hd i (Array.getElem?_eq_some_iff.1 ho).1
    rw [(Array.getElem?_eq_some_iff.1 ho).2, hc] at this
    cases this
   ·exact absurd hh.2 hL
  ·rename_i hw; simp only [hw] at hh; exact ⟨fun _ _ => trivial, h _ _ hh⟩
theorem wpOpsIn_of_wpOps (hd : noDefer ops = true) (hL : ¬ LetsOut Q) : ∀ (is : List Nat) (a : Act) (w : World), wpOps P ops Q is a w → wpOpsIn (Fence.wide.inRound l) n P ops Q is a w
 | [], _, _, h => h
 | i :: r, a, w, h => by
  rw [wpOpsIn_cons]
  rw [wpOps_cons] at h
  exact wpOpIn_of_wpOp hd hL (fun a w => wpOpsIn_of_wpOps hd hL r a w) h
theorem wpAnyIn_of_wpAny (hd : noDefer ops = true) (hL : ¬ LetsOut Q) : ∀ (fuel : Nat) (listed : Array Bool) (a : Act) (w : World), wpAny P md ops Q fuel listed a w → wpAnyIn (Fence.wide.inRound l) n P md ops Q fuel listed a w
 | 0, _, _, _, h => h
 | fuel + 1, _, _, _, h => ⟨h.1, fun i hi => wpOpIn_of_wpOp hd hL (fun a w => wpAnyIn_of_wpAny hd hL fuel _ a w) (h.2 i hi)⟩
variable {a : Act} {w : World} {c : Code}
theorem syI_reg (hd : noDefer (opsAt c) = true) (hL : ¬ LetsOut Q) (h : RegW P c Q a w) : c.wpIn (Fence.wide.inRound l) n P Q a w := by
 rcases h with ⟨id, ops, rfl, h⟩ | ⟨id, ops, rfl, hm, h⟩
 ·exact wpIn_region (wpOpsIn_of_wpOps hd hL _ _ _ h)
 ·exact wpIn_region_any hm (wpAnyIn_of_wpAny hd hL _ _ _ _ h)
variable {F : Fence}
theorem syI_seq (x y : Code) (hc : c = .seq x y) (h : x.wpIn F n P (Exit.then (y.wpIn F n P Q) Q) a w) : c.wpIn F n P Q a w := hc ▸ wpIn_seq h
theorem syI_block (id : Nat) (x : Code) (hc : c = .block id x) (h : x.wpIn F n P (Exit.inBlock id Q) a w) : c.wpIn F n P Q a w := hc ▸ wpIn_block h
theorem syI_yes (o : Operand) (x y : Code) (hc : c = .cond o x y) (ho : a.eval o = .bool true) (h : x.wpIn F n P Q a w) : c.wpIn F n P Q a w := hc ▸ wpIn_cond_true ho h
theorem syI_no (o : Operand) (x y : Code) (hc : c = .cond o x y) (ho : a.eval o = .bool false) (h : y.wpIn F n P Q a w) : c.wpIn F n P Q a w := hc ▸ wpIn_cond_false ho h
theorem syI_skip (hc : c = .skip) (h : Q .normal a w) : c.wpIn F n P Q a w := hc ▸ wpIn_skip h
theorem syI_exit (id : Nat) (hc : c = .exit id) (h : Q (.exit id) a w) : c.wpIn F n P Q a w := hc ▸ wpIn_exit h
theorem syI_ret (hc : c = .ret) (h : Q .ret a w) : c.wpIn F n P Q a w := hc ▸ wpIn_ret h
theorem syI_loop (x : Code) (I : Act → World → Prop) (μ : Act → World → Nat) (hc : c = .loop x) (h0 : I a w)
  (round : ∀ a w, I a w → x.wpIn F n P (Exit.then (fun a' w' => I a' w' ∧ μ a' w' < μ a w) Q) a w) : c.wpIn F n P Q a w := hc ▸ wpIn_loop I μ h0 round
theorem syI_np (h : c.wpIn F n P (NoPanic Q) a w) : c.wpIn F n P Q a w := wpIn_mono h NoPanic.imp
theorem syI_frame (b : Act) (h : a = b) (hq : c.wpIn F n P Q b w) : c.wpIn F n P Q a w := h ▸ hq
end
section
variable {P : Program} {o : Oper} {ρ : Operand → Value} {w : World}
theorem exec_append (s x : Operand) (t : TypeId) (ho : o.op = .call { callee := .builtin .append, args := #[s, x], argTypes := #[t, t] }) (vs vx : Value) (hs : ρ s = vs) (hx : ρ x = vx) {v' : Value} {w' : World}
    (hr : (Builtin.append_ #[t, t] o.type #[vs, vx]).run P w = .ok v' w') : (execOp ρ o).run P w = .ok (.value v') w' := by
  unfold execOp
  simp only [ho, resolve, invoke, builtin, Sem.run_bind, Sem.run_pure, Result.andThen_ok, List.map_toArray, List.map_cons, List.map_nil, hs, hx, hr]
end
def NewFrom (B : Nat) (v : Value) : Prop := ∀ j, v.ownBlock = some j → B ≤ j
theorem NewFrom.nil (B : Nat) : NewFrom B (.slice none 0 0) := fun j h => by simp [Value.ownBlock] at h
theorem NewFrom.ptr {B g : Nat} (h : B ≤ g) (n cap : Nat) : NewFrom B (sS g n cap) := fun j hj => by simp [Value.ownBlock] at hj; omega
theorem NewFrom.next {B : Nat} {v v' : Value} {w w' : World} (h : NewFrom B v) (hB : B ≤ w.heap.size) (h5 : ∀ k, v'.ownBlock = some k → v.ownBlock = some k ∨ k = w.heap.size ∧ w.heap.size < w'.heap.size) : NewFrom B v' := fun j hj => by
  rcases h5 j hj with h1 | ⟨h1, _⟩
  · exact h j h1
  · omega
theorem Keeps.rowAdd {w w' : World} {v : Value} (h : w.grownBy w' v.ownBlock) : Keeps (fun j => v.ownBlock = some j) w w' := (Keeps.refl _ _).grown h (fun _ e _ => e)
theorem bytes_of_block {w : World} {g n : Nat} {l : List UInt8} {T : TypeId} {fr : Nat × Nat} {C : Array Value} (h : w.heap[g]? = some (.cells C T fr)) (hC : C = (B l).toArray) (hn : l.length = n) (hm : n ≤ maxLen) : BytesAt w (sS g n n) l := by
  subst hn; subst hC
  refine ⟨⟨_, _, rfl, Nat.le_refl _, hm, fun h => by cases h⟩, fun k x hk => ⟨g, 0, _, rfl, lt_of_block h, ?_⟩⟩
  rw [Nat.zero_add]
  refine (cell_of_row _ _ _ _ _ _ h).trans ?_
  rw [List.getElem?_toArray]; exact B_get l k x hk
theorem src_block {w : World} {g : Nat} {cs : Array Value} {T : TypeId} (h : w.heap[g]? = some (.cells cs T (0, 0))) (size n : Nat) (hn : cs.toList.length = n * size) (h1 : cs.toList.all (·.oneCell') = true) : SrcO w size (sS g n n) n cs.toList := by
  refine ⟨hn, fun u hu => List.all_eq_true.1 h1 u hu, .inr ⟨⟨g, 0, none⟩, n, rfl, fun j u hj => ?_⟩⟩
  rw [Addr.add_lit, Nat.zero_add]
  exact (cell_of_row _ _ _ _ _ _ h).trans (by simpa using hj)
def seg (cs : Array Value) (o : Nat) (vs : List Value) : Array Value := (cs.toList.take o ++ vs ++ cs.toList.drop (o + vs.length)).toArray
theorem heap_setCells (g : Nat) (T : TypeId) : ∀ (vs : List Value) (o : Nat) (cs : Array Value) (w : World), w.heap[g]? = some (.cells cs T (0, 0)) → o + vs.length ≤ cs.size → (w.setCells g o vs).heap[g]? = some (.cells (seg cs o vs) T (0, 0))
  | [], o, cs, w, h, _ => by simpa [World.setCells, seg] using h
  | v :: r, o, cs, w, h, hl => by
    rw [List.length_cons] at hl
    have h1 := heap_setCell_same w g o cs T v h
    have h2 := heap_setCells g T r (o + 1) _ _ h1 (by simp; omega)
    rw [World.setCells, h2]
    refine congrArg (fun c => some (Obj.cells c T (0, 0))) (Array.toList_inj.1 ?_)
    simp only [seg, Array.toList_setIfInBounds, List.length_cons]
    have e1 : (cs.toList.set o v).take (o + 1) = cs.toList.take o ++ [v] := by
      rw [List.take_set, List.take_succ_eq_append_getElem (by simp; omega), List.set_append, if_neg (by simp; omega), List.length_take, Nat.min_eq_left (by simp; omega), Nat.sub_self]; rfl
    have e2 : (cs.toList.set o v).drop (o + 1 + r.length) = cs.toList.drop (o + (r.length + 1)) := by
      rw [List.drop_set_of_lt (by omega)]; congr 1; omega
    rw [e1, e2]; simp
theorem Keeps.setCells (w : World) (g : Nat) : ∀ (vs : List Value) (o : Nat), Keeps (One g) w (w.setCells g o vs) := by
  intro vs
  suffices h : ∀ (a w : World) (o : Nat), Keeps (One g) a w → Keeps (One g) a (w.setCells g o vs) from fun o => h w w o (Keeps.refl _ _)
  induction vs with
  | nil => intro a w o h; exact h
  | cons v r ih => intro a w o h; exact ih a _ _ (h.setOne v)
section
variable {P : Program} {o : Oper} {ρ : Operand → Value} {w : World}
theorem there_of_block {g : Nat} {cs : Array Value} {T : TypeId} (h : w.heap[g]? = some (.cells cs T (0, 0))) (of n : Nat) (hn : of + n ≤ cs.size) : w.there g of n := fun j hj => by
  refine ⟨?_, frozen_of_row _ _ _ _ _ h⟩
  rw [cell_of_row _ _ _ _ _ _ h, Array.getElem?_eq_getElem (by omega)]; rfl
theorem exec_store_mid (ty : TypeId) (x y : Operand) (ho : o.op = .store ty x y) (g of : Nat) (hx : ρ x = .pointer (some ⟨g, of, none⟩)) (vs : Array Value) (hy : ρ y = .agg vs) (cs : Array Value) (T : TypeId) (h : w.heap[g]? = some (.cells cs T (0, 0)))
    (hn : of + vs.size ≤ cs.size) (hi : (P.info? ty).map (·.size) = some vs.size) (h1 : vs.all (·.oneCell') = true) : (execOp ρ o).run P w = .ok .skip (w.setCells g of vs.toList) := by
  unfold execOp
  simp only [ho, hx, hy, Sem.run_bind, run_storeAt_mid w g of ty vs (there_of_block h of _ hn) hi h1, Result.andThen_ok, Sem.run_pure]
theorem exec_load_seg (ty : TypeId) (x : Operand) (ho : o.op = .load ty x) (g of : Nat) (hx : ρ x = .pointer (some ⟨g, of, none⟩)) (vs : List Value) (cs : Array Value) (T : TypeId) (d : TypeDesc) (h : w.heap[g]? = some (.cells cs T (0, 0)))
    (hc : ∀ j v, vs[j]? = some v → cs[of + j]? = some v) (hu : P.underlying ty = some d) (hd : d.isRow = true) (hi : (P.info? ty).map (·.size) = some vs.length) : (execOp ρ o).run P w = .ok (.value (.agg vs.toArray)) w :=
  exec_load_mid ty x ho g of hx vs d (fun j v hj => (cell_of_row _ _ _ _ _ _ h).trans (hc j v hj)) hu hd hi
theorem exec_slice_arr (t : TypeId) (x y : Operand) (ho : o.op = .slice t x (some y) none none) (b of : Nat) (hx : ρ x = .pointer (some ⟨b, of, none⟩)) (kd : IntKind) (k : Nat) (hy : ρ y = .int kd (k : Int)) (n : Nat) (e : TypeId) (hu : P.underlying t = some (.array n e))
    (hs : (P.info? e).map (·.size) = some 1) (hk : k < n) : (execOp ρ o).run P w = .ok (.value (.slice (some ⟨b, of + k, none⟩) (n - k) (n - k))) w := by
  obtain ⟨i, hi, h1⟩ := Option.map_eq_some_iff.1 hs
  have h2 : (0 : Int) ≤ (k : Int) ∧ (k : Int) ≤ (n : Int) := by omega
  unfold execOp
  simp only [ho, hx, hy, Option.map_some, Option.map_none, Instr.sliceAt, Sem.run_bind, run_underlying hu, Instr.sureAddr, Instr.sliceBounds, Instr.sliceBound, asIntOf, Sem.run_pure, Result.andThen_ok, if_pos h2]
  rw [show (sizeOf e).run P w = .ok 1 w by simp [go_sem, sizeOf, typeInfo, hi, h1]]
  simp only [Result.andThen_ok, Int.toNat_natCast, Nat.mul_one]
  rw [if_neg (by omega)]
  simp [Addr.add_lit]
theorem exec_slice_all (t : TypeId) (x : Operand) (ho : o.op = .slice t x none none none) (b of : Nat) (hx : ρ x = .pointer (some ⟨b, of, none⟩)) (n : Nat) (e : TypeId) (hu : P.underlying t = some (.array n e))
    (hs : (P.info? e).map (·.size) = some 1) : (execOp ρ o).run P w = .ok (.value (.slice (some ⟨b, of, none⟩) n n)) w := by
  obtain ⟨i, hi, h1⟩ := Option.map_eq_some_iff.1 hs
  unfold execOp
  simp only [ho, hx, Option.map_none, Instr.sliceAt, Sem.run_bind, run_underlying hu, Instr.sureAddr, Instr.sliceBounds, Sem.run_pure, Result.andThen_ok]
  rw [show (sizeOf e).run P w = .ok 1 w by simp [go_sem, sizeOf, typeInfo, hi, h1]]
  simp only [Result.andThen_ok]
  split <;> simp [Addr.add]
theorem exec_slice_from (t : TypeId) (x y : Operand) (ho : o.op = .slice t x (some y) none none) (A : Option Addr) (n cap : Nat) (hx : ρ x = .slice A n cap) (kd : IntKind) (k : Nat) (hy : ρ y = .int kd (k : Int)) (e : TypeId) (hu : P.underlying t = some (.slice e))
    (hs : (P.info? e).map (·.size) = some 1) (hk : k ≤ n) : (execOp ρ o).run P w = .ok (.value (cutV A n cap k)) w := by
  obtain ⟨i, hi, h1⟩ := Option.map_eq_some_iff.1 hs
  have h2 : (0 : Int) ≤ (k : Int) ∧ (k : Int) ≤ (n : Int) := by omega
  unfold execOp
  simp only [ho, hx, hy, Option.map_some, Option.map_none, Instr.sliceAt, Sem.run_bind, run_underlying hu, Instr.slice, Instr.sliceBounds, Instr.sliceBound, asIntOf, Sem.run_pure, Result.andThen_ok, if_pos h2]
  rw [show (sizeOf e).run P w = .ok 1 w by simp [go_sem, sizeOf, typeInfo, hi, h1]]
  simp only [Result.andThen_ok, Int.toNat_natCast, Nat.mul_one]
  rfl
theorem exec_slice_to (t : TypeId) (x y : Operand) (ho : o.op = .slice t x none (some y) none) (A : Option Addr) (n cap : Nat) (hx : ρ x = .slice A n cap) (kd : IntKind) (k : Nat) (hy : ρ y = .int kd (k : Int)) (e : TypeId) (hu : P.underlying t = some (.slice e))
    (hs : (P.info? e).map (·.size) = some 1) (hk : k ≤ cap) : (execOp ρ o).run P w = .ok (.value (.slice A k cap)) w := by
  obtain ⟨i, hi, h1⟩ := Option.map_eq_some_iff.1 hs
  have h2 : (0 : Int) ≤ (k : Int) ∧ (k : Int) ≤ (cap : Int) := by omega
  unfold execOp
  simp only [ho, hx, hy, Option.map_some, Option.map_none, Instr.sliceAt, Sem.run_bind, run_underlying hu, Instr.slice, Instr.sliceBounds, Instr.sliceBound, asIntOf, Sem.run_pure, Result.andThen_ok, if_pos h2]
  rw [show (sizeOf e).run P w = .ok 1 w by simp [go_sem, sizeOf, typeInfo, hi, h1]]
  simp only [Result.andThen_ok, Int.toNat_natCast, Nat.zero_mul, Nat.sub_zero]
  cases A with
  | none => split <;> rfl
  | some a => split <;> simp [Addr.add]
theorem exec_copy (x y : Operand) (t : TypeId) (ho : o.op = .call { callee := .builtin .copy, args := #[x, y], argTypes := #[t, t] }) (e : TypeId) (hu : P.underlying t = some (.slice e)) (hs : (P.info? e).map (·.size) = some 1)
    (g of dl dc : Nat) (hx : ρ x = .slice (some ⟨g, of, none⟩) dl dc) (v : Value) (l : List UInt8) (hy : ρ y = v) (hv : BytesAt w v l) (cs : Array Value) (T : TypeId) (h : w.heap[g]? = some (.cells cs T (0, 0))) (k : Nat) (hk : k = Nat.min l.length dl) (hfit : of + k ≤ cs.size) (h0 : 0 < l.length) :
    (execOp ρ o).run P w = .ok (.value (iI (k : Int))) (w.setRow g (seg cs of (B (l.take k)))) := by
  obtain ⟨A, cap, rfl, hc1, hc2, hc3⟩ := hv.form
  obtain ⟨z, hz⟩ : ∃ z, l[0]? = some z := ⟨_, List.getElem?_eq_getElem h0⟩
  obtain ⟨b2, o2, c2, e2, hb2, _⟩ := hv.at_ 0 z hz
  simp only [Value.slice.injEq, true_and] at e2
  obtain ⟨rfl, rfl⟩ := e2
  have hlk : (l.take k).length = k := by rw [List.length_take, hk]; exact Nat.min_eq_left (Nat.min_le_left _ _)
  have := run_copy_row (P := P) w t t o.type e g of dl dc ⟨b2, o2, none⟩ l.length cap cs T (B (l.take k)) hu hs h (by rw [B_length, hlk, hk]) (fun j u hj => by
    obtain ⟨x, hx, rfl⟩ := B_get_inv _ j u hj
    have hj2 : j < (l.take k).length := (List.getElem?_eq_some_iff.1 hx).1
    rw [List.getElem?_take_of_lt (by omega)] at hx
    obtain ⟨b3, o3, c3, e3, _, h3⟩ := hv.at_ j x hx
    simp only [Value.slice.injEq, Option.some.injEq, Addr.mk.injEq, true_and, and_true] at e3
    obtain ⟨⟨rfl, rfl⟩, _⟩ := e3
    simpa [Addr.add_lit] using h3) (by rw [B_length, hlk]; exact hfit) (B_one _)
  rw [B_length, hlk] at this
  unfold execOp
  simp only [ho, hx, hy, resolve, invoke, builtin, Sem.run_bind, Sem.run_pure, Result.andThen_ok, List.map_toArray, List.map_cons, List.map_nil, this]
  rw [show seg cs of (B (l.take k)) = (cs.toList.take of ++ B (l.take k) ++ cs.toList.drop (of + k)).toArray by unfold seg; rw [B_length, hlk]]
  rfl
end
theorem BytesAt.keeps0 {w w' : World} {M : Nat → Prop} {v : Value} {l : List UInt8} (h : BytesAt w v l) (k : Keeps M w w') (hm : 0 < l.length → ∀ j, v.ownBlock = some j → ¬ M j) : BytesAt w' v l :=
  ⟨h.form, fun i x hi => by
    obtain ⟨b, o, cap, e, hb, hc⟩ := h.at_ i x hi
    exact ⟨b, o, cap, e, Nat.lt_of_lt_of_le hb k.size, (k.cell hb (hm (by have := (List.getElem?_eq_some_iff.1 hi).1; omega) b (by rw [e]; rfl))).trans hc⟩⟩
theorem BytesAt.blockLt {w : World} {u : Value} {l : List UInt8} (h : BytesAt w u l) (hl : 0 < l.length) : ∀ j, u.ownBlock = some j → j < w.heap.size := by
  intro j hj
  obtain ⟨x, hx⟩ : ∃ x, l[0]? = some x := ⟨_, List.getElem?_eq_getElem hl⟩
  obtain ⟨b, o, cap, e, hb, _⟩ := h.at_ 0 x hx
  subst e
  simp only [Value.ownBlock, Option.some.injEq] at hj
  omega
theorem Bz_get (l : List UInt8) (k : Nat) (h : k < l.length) : (B l).toArray[k]? = some (.int .u8 (((l.getD k 0).toNat : Nat) : Int)) := by
  rw [List.getElem?_toArray]
  have := B_get l k l[k] (List.getElem?_eq_getElem h)
  rw [this, List.getD_eq_getElem?_getD, List.getElem?_eq_getElem h]; rfl
theorem Bz_size (l : List UInt8) : (B l).toArray.size = l.length := by simp [B_length]
theorem Bz_set (l : List UInt8) (k : Nat) (x : UInt8) : (B l).toArray.setIfInBounds k (.int .u8 (x.toNat : Int)) = (B (l.set k x)).toArray := by
  simp [B, List.map_set]
theorem bytes_cell {w : World} {g o n cap : Nat} {l : List UInt8} (h : BytesAt w (.slice (some ⟨g, o, none⟩) n cap) l) (k : Nat) (hk : k < l.length) : w.cell? ⟨g, o + k, none⟩ = some (.int .u8 (((l.getD k 0).toNat : Nat) : Int)) := by
  obtain ⟨b, o2, c, e, _, hc⟩ := h.at_ k l[k] (List.getElem?_eq_getElem hk)
  simp only [Value.slice.injEq, Option.some.injEq, Addr.mk.injEq, true_and, and_true] at e
  obtain ⟨⟨rfl, rfl⟩, _, _⟩ := e
  rw [hc, List.getD_eq_getElem?_getD, List.getElem?_eq_getElem hk]; rfl
theorem wrap8 (n : Nat) : IntKind.u8.wrap (n : Int) = (((UInt8.ofNat n).toNat : Nat) : Int) := by
  show ((n : Int) % (2 ^ 8 : Int)) = _
  rw [UInt8.toNat_ofNat']
  omega
def stpB (f : Nat → UInt8) (k : Nat) (s : List UInt8) : List UInt8 := (List.range k).foldl (fun t i => t.set i (f i)) s
theorem stpB_succ (f : Nat → UInt8) (k : Nat) (s : List UInt8) : stpB f (k + 1) s = (stpB f k s).set k (f k) := by simp [stpB, List.range_succ]
theorem stpB_len (f : Nat → UInt8) (k : Nat) (s : List UInt8) : (stpB f k s).length = s.length := by
  induction k with
  | zero => rfl
  | succ k ih => rw [stpB_succ, List.length_set, ih]
theorem stpB_eq (f : Nat → UInt8) (s : List UInt8) (k : Nat) (h : k ≤ s.length) : stpB f k s = (List.range k).map f ++ s.drop k := by
  induction k with
  | zero => rfl
  | succ k ih =>
    rw [stpB_succ, ih (by omega), List.set_append, if_neg (by simp), List.length_map, List.length_range, Nat.sub_self, List.range_succ, List.map_append]
    obtain ⟨x, r, hr⟩ : ∃ x r, s.drop k = x :: r := by
      cases hd : s.drop k with
      | nil => have := congrArg List.length hd; rw [List.length_drop] at this; simp at this; omega
      | cons x r => exact ⟨x, r, rfl⟩
    have h2 : s.drop (k + 1) = r := by rw [← List.drop_drop, hr]; rfl
    rw [hr, h2]; simp
theorem stpB_all (f : Nat → UInt8) (s : List UInt8) (n : Nat) (h : s.length = n) : stpB f n s = (List.range n).map f := by
  rw [stpB_eq f s n (by omega), List.drop_of_length_le (by omega), List.append_nil]
def lenOf : Value → Nat
  | .slice _ n _ => n
  | _ => 0
theorem row_len {w : World} {e : TypeId} {s n : Nat} {v : Value} {xs : List Value} (h : Row w e s v n xs) : lenOf v = n := by
  obtain ⟨_, ⟨rfl, rfl⟩ | ⟨g, cap, cur, rfl, _⟩⟩ := h <;> rfl
theorem exec_len_row {P : Program} {o : Oper} {ρ : Operand → Value} {w : World} (x : Operand) (t e : TypeId) (ho : o.op = .call { callee := .builtin .len, args := #[x], argTypes := #[t] }) (ht : P.underlying t = some (.slice e)) {v : Value} (hx : ρ x = v) {e' : TypeId} {s n : Nat} {xs : List Value} (hr : Row w e' s v n xs) :
    (execOp ρ o).run P w = .ok (.value (iI (n : Int))) w := by
  obtain ⟨_, ⟨rfl, rfl⟩ | ⟨g, cap, cur, rfl, _⟩⟩ := hr
  · exact exec_len x t e ho ht none 0 0 hx
  · exact exec_len x t e ho ht _ n cap hx
theorem row_of_block {w : World} {g n : Nat} {cs : Array Value} {T : TypeId} (h : w.heap[g]? = some (.cells cs T (0, 0))) (hn : cs.size = n) (hm : n ≤ maxLen) : Row w T 1 (sS g n n) n cs.toList :=
  ⟨by simp [hn], .inr ⟨g, n, cs, rfl, Nat.zero_le _, h, Nat.le_refl _, hm, by omega, by subst hn; rw [Nat.mul_one]; exact List.take_of_length_le (by simp)⟩⟩
theorem row_open {w : World} {e : TypeId} {v : Value} {n : Nat} {xs : List Value} (h : Row w e 1 v n xs) (hn : 0 < n) : ∃ g cap rest, v = sS g n cap ∧ w.heap[g]? = some (.cells (xs ++ rest).toArray e (0, 0)) ∧ n ≤ cap ∧ cap ≤ maxLen := by
  obtain ⟨_, ⟨_, h0⟩ | ⟨g, cap, cur, rfl, _, hg, hc, hm, _, hx⟩⟩ := h
  · omega
  · refine ⟨g, cap, cur.toList.drop n, rfl, ?_, hc, hm⟩
    rw [hg, ← hx, Nat.mul_one, List.take_append_drop]
theorem lt_meas {a b x y : Nat} (ha : a = x) (hb : b = y) (h : x < y) : a < b := by omega
end
end Go.Own
namespace Go.Proofs.YthmclmbeflbhhaaGreat
section
theorem u8_infoK : (prog.info? 5).map (fun i => (i.zero, i.size, i.bytes)) = some (some (.int .u8 0), 1, 1) := by kernel_rfl
end
end Go.Proofs.YthmclmbeflbhhaaGreat
namespace Go.Own
section
open Go Go.RowKit Go.Shelf
section
variable {P : Program} {Q : Exit → Act → World → Prop} {a : Act} {w : World} {ops : Array Oper} {i : Nat} {S : World → Prop} {fuel : Nat} {l : Array Bool}
theorem on_callV (o : Oper) (x : Operand) (f : FuncId) (first caps args : Array Value) (ho : ops[i]? = some o) (hg : Region.wanted o (yielded ops a.tmps) = true)
  (hc : o.op = .call { callee := .value x, args := callArgs o, argTypes := callTypes o }) (hx : a.eval x = .func (.func f) first caps) (hargs : first ++ (callArgs o).map a.eval ++ caps = args) (he : ∀ args w, (callFunc f args).run P w = .ok (.enter f args) w)
  (h : Calls P f args w fun e w' => ∃ v, e = .returned v ∧ S w' ∧ Gany P ops Q S fuel l (a.put o.dst v) w') : Gone P ops Q S fuel l i a w := by
 refine ⟨?_⟩
 unfold wpOp
 simp only [ho, hg, if_true]
 refine .inl ?_
 unfold Oper.wp execOp
 simp only [hc, resolve, hx, Sem.run_bind, Deferred.ofValue, Sem.run_pure, Result.andThen_ok, invoke, hargs, he]
 refine Calls.mono h fun e w' ⟨v, he, hv⟩ => ?_
 subst he
 exact hv
end
section
variable {P : Program} {Q : Exit → Act → World → Prop} {a : Act} {w : World} {ops : Array Oper} {i n : Nat} {rest : List Nat} {c : Code}
theorem syW_enter {f : FuncId} {fn : Func} {args : Array Value} {R : Ending → World → Prop} (c : Code) (a : Act) (hf : P.funcs[f]? = some fn) (hb : fn.body = some c)
  (ha : ({ tmps := args ++ Array.replicate (fn.ntmps - args.size) undef, defers := [] } : Act) = a) (h : c.wpIn Fence.wide n P (bodyPost P fn R) a w) : CallsIn Fence.wide n P f args w R :=
 callsIn_of_wp hf hb trivial (by rw [ha]; exact h) rfl
theorem syW_reg (h : RegW P c Q a w) : c.wpIn Fence.wide n P Q a w := wpIn_wide.2 (sy_reg h)
structure Gyield (n : Nat) (P : Program) (ops : Array Oper) (Q : Exit → Act → World → Prop) (rest : List Nat) (a : Act) (w : World) : Prop where
 out : wpOpsIn Fence.wide n P ops Q rest a w
theorem rg_yield (id : Nat) (ops : Array Oper) (l : List Nat) (hc : c = .region id ops false) (hl : List.range ops.size = l) (h : Gyield n P ops Q l a w) : c.wpIn Fence.wide n P Q a w := by
 subst hc; subst hl; exact wpIn_region h.out
theorem pi_end (h : Q .normal a w) : Gyield n P ops Q [] a w := ⟨h⟩
theorem pi_run (o : Oper) (v : Value) {w' : World} (ho : ops[i]? = some o) (hg : Region.wanted o (yielded ops a.tmps) = true) (hrun : (execOp a.eval o).run P w = .ok (.value v) w') (h : Gyield n P ops Q rest (a.put o.dst v) w') : Gyield n P ops Q (i :: rest) a w := by
 refine ⟨?_⟩
 rw [wpOpsIn_cons]
 unfold wpOpIn
 simp only [ho, hg, if_true]
 refine ⟨fun _ _ => trivial, ?_⟩
 rw [show o.semAt Fence.wide.round a.eval = execOp a.eval o from rfl, hrun]
 exact h.out
theorem pi_no (o : Oper) (ho : ops[i]? = some o) (hg : Region.wanted o (yielded ops a.tmps) = false) (h : Gyield n P ops Q rest (a.put o.dst undef) w) : Gyield n P ops Q (i :: rest) a w := by
 refine ⟨?_⟩
 rw [wpOpsIn_cons]
 unfold wpOpIn
 simp only [ho, hg]
 exact ⟨fun _ _ => trivial, h.out⟩
theorem pi_yield (o : Oper) (x : Operand) (y : Nat) (args : Array Value) (ho : ops[i]? = some o) (hg : Region.wanted o (yielded ops a.tmps) = true)
  (hc : o.op = .call { callee := .value x, args := callArgs o, argTypes := callTypes o }) (hx : a.eval x = .func (.yield y) #[] #[]) (hargs : (callArgs o).map a.eval = args)
  (h : YieldAt Fence.wide (n - 1) P y args w fun e w' => ∃ v, e = .returned v ∧ Gyield n P ops Q rest (a.put o.dst v) w') : Gyield n P ops Q (i :: rest) a w := by
 refine ⟨?_⟩
 obtain ⟨fn, tmps, assign, body, hy, hR⟩ := h
 rw [wpOpsIn_cons]
 unfold wpOpIn
 simp only [ho, hg, if_true]
 refine ⟨fun _ _ => trivial, ?_⟩
 rw [show o.semAt Fence.wide.round a.eval = execOp a.eval o from rfl]
 unfold execOp
 simp only [hc, resolve, hx, Sem.run_bind, Deferred.ofValue, Sem.run_pure, Result.andThen_ok, invoke, hargs, Array.append_empty, Array.empty_append, List.append_nil, hy]
 refine ⟨fun hx => by simp [Fence.wide] at hx, ?_⟩
 refine hR.mono fun e w' ⟨v, he, hv⟩ => ?_
 subst he
 exact hv.out
end
section
variable {P : Program} {o : Oper} {ρ : Operand → Value} {w : World}
theorem exec_slice_toW (t : TypeId) (x y : Operand) (ho : o.op = .slice t x none (some y) none) (A : Option Addr) (n cap : Nat) (hx : ρ x = .slice A n cap) (kd : IntKind) (k : Nat) (hy : ρ y = .int kd (k : Int)) (e : TypeId) (hu : P.underlying t = some (.slice e))
  (s : Nat) (hs : (P.info? e).map (·.size) = some s) (hk : k ≤ cap) : (execOp ρ o).run P w = .ok (.value (.slice A k cap)) w := by
 obtain ⟨i, hi, h1⟩ := Option.map_eq_some_iff.1 hs
 have h2 : (0 : Int) ≤ (k : Int) ∧ (k : Int) ≤ (cap : Int) := by omega
 unfold execOp
 simp only [ho, hx, hy, Option.map_some, Option.map_none, Instr.sliceAt, Sem.run_bind, run_underlying hu, Instr.slice, Instr.sliceBounds, Instr.sliceBound, asIntOf, Sem.run_pure, Result.andThen_ok, if_pos h2]
 rw [show (sizeOf e).run P w = .ok s w by simp [go_sem, sizeOf, typeInfo, hi, h1]]
 simp only [Result.andThen_ok, Int.toNat_natCast, Nat.zero_mul, Nat.sub_zero]
 cases A with
 | none => split <;> rfl
 | some a => split <;> simp [Addr.add]
def cutW (A : Option Addr) (n cap s k : Nat) : Value := .slice (if cap = k then A else A.map (·.add (k * s))) (n - k) (cap - k)
theorem exec_slice_fromW (t : TypeId) (x y : Operand) (ho : o.op = .slice t x (some y) none none) (A : Option Addr) (n cap : Nat) (hx : ρ x = .slice A n cap) (kd : IntKind) (k : Nat) (hy : ρ y = .int kd (k : Int)) (e : TypeId) (hu : P.underlying t = some (.slice e))
  (s : Nat) (hs : (P.info? e).map (·.size) = some s) (hk : k ≤ n) : (execOp ρ o).run P w = .ok (.value (cutW A n cap s k)) w := by
 obtain ⟨i, hi, h1⟩ := Option.map_eq_some_iff.1 hs
 have h2 : (0 : Int) ≤ (k : Int) ∧ (k : Int) ≤ (n : Int) := by omega
 unfold execOp
 simp only [ho, hx, hy, Option.map_some, Option.map_none, Instr.sliceAt, Sem.run_bind, run_underlying hu, Instr.slice, Instr.sliceBounds, Instr.sliceBound, asIntOf, Sem.run_pure, Result.andThen_ok, if_pos h2]
 rw [show (sizeOf e).run P w = .ok s w by simp [go_sem, sizeOf, typeInfo, hi, h1]]
 simp only [Result.andThen_ok, Int.toNat_natCast]
 rfl
theorem exec_makeSlice (t : TypeId) (x y : Operand) (ho : o.op = .makeSlice t x y) (e : TypeId) (i : TypeInfo) (z : Value) (ht : P.underlying t = some (.slice e)) (hi : P.info? e = some i) (hz : i.zero = some z)
  (n : Nat) (hx : ρ x = iI (n : Int)) (hy : ρ y = iI (n : Int)) (hb : i.bytes * n ≤ 281474976710656) (h63 : n ≤ 9223372036854775807) :
  (execOp ρ o).run P w = .ok (.value (sS w.heap.size n n)) (w.alloc (.cells (madeCells z.cells (n * i.size)) e)) := by
 have h := run_make (P := P) w t e i z ht hi hz .i64 .i64 (n : Int) (n : Int) (by omega) (Int.le_refl _) (by rw [← Int.natCast_mul]; omega) (by omega)
 unfold execOp
 simp only [ho, hx, hy, Sem.run_bind, h, Result.andThen_ok, Sem.run_pure, Int.toNat_natCast]
theorem exec_build1 (t e : TypeId) (x : Operand) (ho : o.op = .buildSlice t 1 #[(0, x)]) (v : Value) (hx : ρ x = v) (ie : TypeInfo) (z : Value) (hu : P.underlying t = some (.slice e)) (hie : P.info? e = some ie) (hz : ie.zero = some z)
  (s : Nat) (hs : ie.size = s) (hs0 : 0 < s) (hs1 : s ≤ 16777216) (hv : v.cells.size = s) : (execOp ρ o).run P w = .ok (.value (sS w.heap.size 1 1)) (w.alloc (.cells v.cells e)) := by
 have hf : Instr.fill (fun i => some (i * ie.size, ie.size)) ((Array.range (1 * ie.size)).map (z.cells[· % z.cells.size]!)) (#[(0, v)] : Array (Nat × Value)).toList = some v.cells := by
  have h1 : ∀ u ∈ [v], u.cells.size = ie.size := by
   intro u hu
   have : u = v := by simpa using hu
   rw [this, hv, hs]
  have h := Great.fill_whole (s := ie.size) (by omega) [v] ((Array.range (1 * ie.size)).map (z.cells[· % z.cells.size]!)) h1 (by simp)
  simpa using h
 unfold execOp
 simp only [ho, List.map_toArray, List.map_cons, List.map_nil, hx, Sem.run_bind, run_buildSlice w t e 1 _ v.cells ie z hu hie hz (by rw [hs]; omega) (by rw [hs]; omega) hf, Result.andThen_ok, Sem.run_pure]
theorem exec_rem (t t' : TypeId) (x y : Operand) (ho : o.op = .binOp .rem t x y t') (a b : Nat) (hx : ρ x = iI (a : Int)) (hy : ρ y = iI (b : Int)) (hb : 0 < b) :
  (execOp ρ o).run P w = .ok (.value (iI ((a % b : Nat) : Int))) w := by
 refine exec_binop .rem t t' x y ho _ _ _ hx hy rfl ?_
 have h : ¬ ((b : Int) = 0) := by omega
 rw [binOp_rem]
 simp only [Op.intDiv, if_neg h]
 rfl
theorem exec_clear (x : Operand) (t e : TypeId) (ho : o.op = .call { callee := .builtin .clear, args := #[x], argTypes := #[t] }) (z : Value) (ht : P.underlying t = some (.slice e)) (hv : ∀ w, (zeroValue e).run P w = .ok z w) (hz : z.cells = #[z]) (h1 : z.oneCell' = true)
  (b n c : Nat) (hx : ρ x = sS b n c) (hn : 0 < n) (cs : Array Value) (T : TypeId) (h : HP w b cs T) (hs : n ≤ cs.size) :
  (execOp ρ o).run P w = .ok (.value (.tuple #[])) (w.setCells b 0 (List.replicate n z)) := by
 have hr := Lib.run_clear_slice (P := P) w t e o.type z ht hv hz h1 b 0 n c hn (fun j hj => by rw [Nat.zero_add, cell_of_row _ _ _ _ _ _ h, Array.getElem?_eq_getElem (by omega)]; rfl) (fun j hj => frozen_of_row _ _ _ _ _ h)
 unfold execOp
 simp only [ho, resolve, invoke, builtin, Sem.run_bind, Sem.run_pure, Result.andThen_ok, List.map_toArray, List.map_cons, List.map_nil, hx, hr]
end
theorem Keeps.others0 {w w' : World} (k : Keeps Nob w w') : KeepsOthers w w' := ⟨k.size, fun j o hj _ => (k.block j (Array.getElem?_eq_some_iff.1 hj).1 (fun x => x)).trans hj⟩
theorem Keeps.others1 {w w' : World} {g : Nat} (k : Keeps (One g) w w') {cs : Array Value} {T : TypeId} {fr : Nat × Nat} (hg : w.heap[g]? = some (.cells cs T fr)) : KeepsOthers w w' := ⟨k.size, fun j o hj ho => (k.block j (Array.getElem?_eq_some_iff.1 hj).1 (fun (e : j = g) => by subst e; rw [hg] at hj; cases hj; cases ho)).trans hj⟩
theorem Keeps.othersR {w w' : World} {v : Value} (k : Keeps (fun j => v.ownBlock = some j) w w') {e : TypeId} {size n : Nat} {xs : List Value} (h : Row w e size v n xs) : KeepsOthers w w' := ⟨k.size, fun j o hj ho => (k.block j (Array.getElem?_eq_some_iff.1 hj).1 (fun x => by
 obtain ⟨cs, hc⟩ := h.elem x
 rw [hc] at hj; cases hj; cases ho)).trans hj⟩
theorem Row.cells1 {w : World} {e : TypeId} {size n : Nat} {v : Value} {xs : List Value} (h : Row w e size v n xs) : v.cells = #[v] := by
 rcases h.2 with ⟨rfl, _⟩ | ⟨g, cap, cur, rfl, _⟩ <;> rfl
theorem Row.apart {w : World} {e1 e2 : TypeId} {s1 s2 n1 n2 : Nat} {v u : Value} {xs ys : List Value} (h : Row w e1 s1 v n1 xs) (k : Row w e2 s2 u n2 ys) (hne : e1 ≠ e2) : ∀ j, v.ownBlock = some j → ¬ u.ownBlock = some j := fun j h1 h2 => by
 obtain ⟨cs, hc⟩ := h.elem h1
 obtain ⟨cs2, hc2⟩ := k.elem h2
 rw [hc] at hc2
 simp only [Option.some.injEq, Obj.cells.injEq] at hc2
 exact hne hc2.2.1
structure Sl {α : Type} (w : World) (s : Nat) (c : α → List Value) (v : Value) (xs : List α) : Prop where
 form : ∃ A cap, v = .slice A xs.length cap ∧ xs.length ≤ cap ∧ cap ≤ maxLen ∧ (A = none → cap = 0)
 at_ : ∀ (k : Nat) (x : α), xs[k]? = some x → ∃ b o cap, v = .slice (some ⟨b, o, none⟩) xs.length cap ∧ b < w.heap.size ∧ ∀ (j : Nat) (u : Value), (c x)[j]? = some u → w.cell? ⟨b, o + k * s + j, none⟩ = some u
section
variable {α : Type} {w w' : World} {M : Nat → Prop} {s : Nat} {c : α → List Value} {v : Value} {xs : List α}
theorem Sl.keeps (h : Sl w s c v xs) (k : Keeps M w w') (hm : ∀ j, v.ownBlock = some j → j < w.heap.size → ¬ M j) : Sl w' s c v xs :=
 ⟨h.form, fun i x hi => by
  obtain ⟨b, o, cap, e, hb, hc⟩ := h.at_ i x hi
  exact ⟨b, o, cap, e, Nat.lt_of_lt_of_le hb k.size, fun j u hj => (k.cell hb (hm b (by rw [e]; rfl) hb)).trans (hc j u hj)⟩⟩
theorem Sl.keepsN (h : Sl w s c v xs) (k : Keeps Nob w w') : Sl w' s c v xs := h.keeps k (fun _ _ _ x => x)
theorem Sl.nil (w : World) (s : Nat) (c : α → List Value) : Sl w s c (.slice none 0 0) [] := ⟨⟨none, 0, rfl, Nat.le_refl _, by simp [maxLen], fun _ => rfl⟩, fun k x h => by simp at h⟩
theorem Sl.len_le (h : Sl w s c v xs) : xs.length ≤ 9223372036854775807 := by
 obtain ⟨A, cap, e, h1, h2, _⟩ := h.form
 unfold maxLen at h2; omega
theorem flat_get (hc : ∀ x ∈ xs, (c x).length = s) (k : Nat) (x : α) (hx : xs[k]? = some x) (j : Nat) (u : Value) (hj : (c x)[j]? = some u) : (xs.flatMap c)[k * s + j]? = some u := by
 induction xs generalizing k with
 | nil => simp at hx
 | cons y r ih =>
  rw [List.flatMap_cons]
  have hy := hc y (by simp)
  cases k with
  | zero =>
   simp only [List.getElem?_cons_zero, Option.some.injEq] at hx; subst hx
   rw [Nat.zero_mul, Nat.zero_add, List.getElem?_append_left (List.getElem?_eq_some_iff.1 hj).1]; exact hj
  | succ k =>
   rw [List.getElem?_append_right (by rw [hy, Nat.succ_mul]; omega), hy, show (k + 1) * s + j - s = k * s + j by rw [Nat.succ_mul]; omega]
   exact ih (fun z hz => hc z (by simp [hz])) k (by simpa using hx)
theorem flat_len (hc : ∀ x ∈ xs, (c x).length = s) : (xs.flatMap c).length = xs.length * s := by
 induction xs with
 | nil => simp
 | cons y r ih =>
  rw [List.flatMap_cons, List.length_append, ih (fun z hz => hc z (by simp [hz])), hc y (by simp), List.length_cons, Nat.succ_mul]; omega
theorem Row.sl {e : TypeId} {n : Nat} (h : Row w e s v n (xs.flatMap c)) (hn : n = xs.length) (hc : ∀ x ∈ xs, (c x).length = s) : Sl w s c v xs := by
 subst hn
 have hh := h
 rcases h.2 with ⟨rfl, h0⟩ | ⟨g, cap, cur, rfl, hb, hg, h1, h2, h3⟩
 ·have h0 : xs = [] := List.eq_nil_of_length_eq_zero h0
  subst h0
  exact ⟨⟨none, 0, rfl, Nat.le_refl _, by simp [maxLen], fun _ => rfl⟩, fun k x hx => by simp at hx⟩
 ·exact ⟨⟨_, _, rfl, h1, by omega, fun h => by cases h⟩, fun k x hx => ⟨g, 0, cap, rfl, (Array.getElem?_eq_some_iff.1 hg).1, fun j u hj => by
   have := World.ownsRow.cells hh (g := g) rfl (k * s + j) u (flat_get hc k x hx j u hj)
   simpa [Addr.add_lit] using this⟩⟩
theorem mem_flat {c : α → List Value} {xs : List α} {u : Value} (h : u ∈ xs.flatMap c) : ∃ x ∈ xs, u ∈ c x := by simpa using h
theorem Sl.src (h : Sl w s c v xs) (hc : ∀ x ∈ xs, (c x).length = s) (hs : 0 < s) (h1 : ∀ x ∈ xs, ∀ u ∈ c x, u.oneCell' = true) : SrcO w s v xs.length (xs.flatMap c) := by
 refine ⟨flat_len hc, fun u hu => let ⟨x, hx, hu⟩ := mem_flat hu; h1 x hx u hu, ?_⟩
 obtain ⟨A, cap, rfl, h2, h3, h4⟩ := h.form
 cases A with
 | none => have := h4 rfl; exact .inl ⟨by rw [this] at h2 ⊢; rw [Nat.le_zero.1 h2], by omega⟩
 | some ad =>
  refine .inr ⟨ad, cap, rfl, fun j u hj => ?_⟩
  have hj2 : j < xs.length * s := by rw [← flat_len hc]; exact (List.getElem?_eq_some_iff.1 hj).1
  have hk : j / s < xs.length := Nat.div_lt_of_lt_mul (by rw [Nat.mul_comm]; exact hj2)
  obtain ⟨b, o, cap', e, _, hcell⟩ := h.at_ (j / s) xs[j / s] (List.getElem?_eq_getElem hk)
  simp only [Value.slice.injEq, Option.some.injEq, true_and] at e
  obtain ⟨rfl, _⟩ := e
  have hl := hc xs[j / s] (List.getElem_mem hk)
  have hm : j % s < (c xs[j / s]).length := by rw [hl]; exact Nat.mod_lt _ hs
  have e2 := flat_get hc (j / s) xs[j / s] (List.getElem?_eq_getElem hk) (j % s) _ (List.getElem?_eq_getElem hm)
  have hd : j / s * s + j % s = j := by rw [Nat.mul_comm]; exact Nat.div_add_mod j s
  rw [hd, hj] at e2
  have := hcell (j % s) u (by rw [List.getElem?_eq_getElem hm]; exact e2.symm)
  rw [show o + j / s * s + j % s = o + j by omega] at this
  simpa [Addr.add_lit] using this
theorem Sl.take (h : Sl w s c v xs) (k : Nat) (hk : k ≤ xs.length) : ∀ A n cap, v = .slice A n cap → Sl w s c (.slice A k cap) (xs.take k) := by
 rintro A n cap rfl
 obtain ⟨A', cap', e, h2, h3, h4⟩ := h.form
 simp only [Value.slice.injEq] at e
 obtain ⟨rfl, rfl, rfl⟩ := e
 have hl : (xs.take k).length = k := by simp; omega
 refine ⟨⟨_, _, by rw [hl], by omega, h3, h4⟩, fun i x hi => ?_⟩
 have hik : i < k := by have := (List.getElem?_eq_some_iff.1 hi).1; omega
 rw [List.getElem?_take_of_lt hik] at hi
 obtain ⟨b, o, cap'', e, hb, hcell⟩ := h.at_ i x hi
 simp only [Value.slice.injEq, true_and] at e
 obtain ⟨rfl, rfl⟩ := e
 exact ⟨b, o, _, by rw [hl], hb, hcell⟩
theorem Sl.drop (h : Sl w s c v xs) (k : Nat) (hk : k ≤ xs.length) : ∀ A n cap, v = .slice A n cap → Sl w s c (cutW A n cap s k) (xs.drop k) := by
 rintro A n cap rfl
 obtain ⟨A', cap', e, h2, h3, h4⟩ := h.form
 simp only [Value.slice.injEq] at e
 obtain ⟨rfl, rfl, rfl⟩ := e
 unfold cutW
 refine ⟨⟨_, _, by rw [List.length_drop], by rw [List.length_drop]; omega, by omega, fun hn => ?_⟩, fun i x hi => ?_⟩
 ·split at hn
  ·omega
  ·cases A with
   | none => have := h4 rfl; omega
   | some a => cases hn
 ·rw [List.getElem?_drop] at hi
  have hlt := (List.getElem?_eq_some_iff.1 hi).1
  obtain ⟨b, o, cap'', e, hb, hcell⟩ := h.at_ (k + i) x hi
  simp only [Value.slice.injEq, true_and] at e
  obtain ⟨rfl, rfl⟩ := e
  rw [if_neg (by omega)]
  refine ⟨b, o + k * s, cap - k, by rw [List.length_drop]; simp [Addr.add], hb, fun j u hj => ?_⟩
  have := hcell j u hj
  rwa [show o + (k + i) * s + j = o + k * s + i * s + j by rw [Nat.add_mul]; omega] at this
end
section
variable {P : Program} {a : Act} {w : World} {fn : Func}
end
end
end Go.Own
namespace Go.Proofs.YthmclmbeflbhhaaGreat
section
open Go Go.RowKit Go.Own
theorem u8_info0 : (prog.info? 5).map (fun i => (i.zero, i.size, i.bytes)) = some (some (.int .u8 0), 1, 1) := by kernel_rfl
theorem Row.empty (w : World) (t : TypeId) : Row (w.alloc (.cells #[] t)) t 1 (sS w.heap.size 0 0) 0 [] :=
  ⟨rfl, .inr ⟨_, _, _, rfl, Nat.zero_le _, heap_alloc_new _ _, Nat.le_refl _, by unfold maxLen; omega, rfl, rfl⟩⟩
end
section
open Go Go.RowKit Go.Own Go.Shelf
abbrev i64b (x : Int) : Prop := -9223372036854775808 ≤ x ∧ x ≤ 9223372036854775807
structure Att where
  (v s t : Int) (r : List UInt8) (g : Nat)
  deriving DecidableEq
structure Pro where
  (v h : Int) (r : List UInt8) (g : Nat)
  deriving DecidableEq
def Att.c (a : Att) : Array Value := (iI a.v :: iI a.s :: iI a.t :: (B a.r ++ [.int .u64 ((a.g : Nat) : Int)])).toArray
def Pro.c (a : Pro) : Array Value := (iI a.v :: iI a.h :: (B a.r ++ [.int .u64 ((a.g : Nat) : Int)])).toArray
structure Att.Ok (a : Att) : Prop where
  v : i64b a.v
  s : i64b a.s
  t : i64b a.t
  r : a.r.length = 32
  g : a.g < 2 ^ 64
structure Pro.Ok (a : Pro) : Prop where
  v : i64b a.v
  h : i64b a.h
  r : a.r.length = 32
  g : a.g < 2 ^ 64
section
variable (a : Att) (p : Pro)
theorem Att.c_size (h : a.r.length = 32) : a.c.size = 36 := by simp [Att.c, B_length, h]
theorem Pro.c_size (h : p.r.length = 32) : p.c.size = 35 := by simp [Pro.c, B_length, h]
theorem Att.c_0 : a.c[0]? = some (iI a.v) := by simp [Att.c]
theorem Att.c_1 : a.c[1]? = some (iI a.s) := by simp [Att.c]
theorem Att.c_2 : a.c[2]? = some (iI a.t) := by simp [Att.c]
theorem Pro.c_0 : p.c[0]? = some (iI p.v) := by simp [Pro.c]
theorem Pro.c_1 : p.c[1]? = some (iI p.h) := by simp [Pro.c]
theorem Att.c_tag (h : a.r.length = 32) : a.c[35]? = some (.int .u64 ((a.g : Nat) : Int)) := by
  simp only [Att.c, List.getElem?_toArray, List.getElem?_cons_succ]
  rw [List.getElem?_append_right (by rw [B_length]; omega), B_length, h]; rfl
theorem Pro.c_tag (h : p.r.length = 32) : p.c[34]? = some (.int .u64 ((p.g : Nat) : Int)) := by
  simp only [Pro.c, List.getElem?_toArray, List.getElem?_cons_succ]
  rw [List.getElem?_append_right (by rw [B_length]; omega), B_length, h]; rfl
theorem Att.c_seg : ∀ (j : Nat) (x : Value), (B a.r)[j]? = some x → a.c[3 + j]? = some x := fun j x h => by
  simp only [Att.c, List.getElem?_toArray, show 3 + j = j + 1 + 1 + 1 by omega, List.getElem?_cons_succ]
  rw [List.getElem?_append_left (List.getElem?_eq_some_iff.1 h).1]; exact h
theorem Pro.c_seg : ∀ (j : Nat) (x : Value), (B p.r)[j]? = some x → p.c[2 + j]? = some x := fun j x h => by
  simp only [Pro.c, List.getElem?_toArray, show 2 + j = j + 1 + 1 by omega, List.getElem?_cons_succ]
  rw [List.getElem?_append_left (List.getElem?_eq_some_iff.1 h).1]; exact h
theorem Att.c_one : a.c.all (·.oneCell') = true := by
  simp only [Att.c, List.all_toArray, List.all_cons, List.all_append]
  rw [List.all_eq_true.2 (B_one a.r)]; rfl
theorem Pro.c_one : p.c.all (·.oneCell') = true := by
  simp only [Pro.c, List.all_toArray, List.all_cons, List.all_append]
  rw [List.all_eq_true.2 (B_one p.r)]; rfl
end
def Att.fine (a : Att) : Prop := 0 ≤ a.v ∧ a.v ≤ 31 ∧ 0 ≤ a.s ∧ a.s ≤ 4294967296 ∧ 0 ≤ a.t ∧ a.t ≤ 4294967296
def Pro.fine (p : Pro) : Prop := 0 ≤ p.v ∧ p.v ≤ 31 ∧ 1 ≤ p.h ∧ p.h ≤ 4294967296
instance (a : Att) : Decidable a.fine := by unfold Att.fine; infer_instance
instance (p : Pro) : Decidable p.fine := by unfold Pro.fine; infer_instance
def Att.err (a : Att) : Int := if a.fine then 0 else 3
def Pro.err (p : Pro) : Int := if p.fine then 0 else 3
theorem Att.err_ok {a : Att} (h : a.fine) : a.err = 0 := if_pos h
theorem Att.err_no {a : Att} (h : ¬ a.fine) : a.err = 3 := if_neg h
theorem Pro.err_ok {p : Pro} (h : p.fine) : p.err = 0 := if_pos h
theorem Pro.err_no {p : Pro} (h : ¬ p.fine) : p.err = 3 := if_neg h
def bC (bs : List (Int × Int × Int)) : List Value := bs.flatMap fun b => [iI b.1, iI b.2.1, iI b.2.2]
def bIn (b : Int × Int × Int) : Bool := decide (b.2.1 ≤ b.1 ∧ b.1 ≤ b.2.2)
def bErr (bs : List (Int × Int × Int)) : Int := if bs.all bIn then 0 else 3
theorem bC_get (bs : List (Int × Int × Int)) (i : Nat) (b : Int × Int × Int) (h : bs[i]? = some b) (j : Nat) (x : Value) (hx : [Value.int .i64 b.1, iI b.2.1, iI b.2.2][j]? = some x) : (bC bs)[i * 3 + j]? = some x := by
  induction bs generalizing i with
  | nil => simp at h
  | cons c r ih =>
    have hj : j < 3 := (List.getElem?_eq_some_iff.1 hx).1
    cases i with
    | zero =>
      simp only [List.getElem?_cons_zero, Option.some.injEq] at h; subst h
      rw [bC, List.flatMap_cons, Nat.zero_mul, Nat.zero_add, List.getElem?_append_left (by simpa using hj)]; exact hx
    | succ i =>
      have := ih i (by simpa using h)
      rw [bC, List.flatMap_cons, List.getElem?_append_right (by simp; omega)]
      rw [show (i + 1) * 3 + j - [Value.int .i64 c.1, iI c.2.1, iI c.2.2].length = i * 3 + j by simp; omega]
      exact this
theorem bErr_no {bs : List (Int × Int × Int)} {i : Nat} {b : Int × Int × Int} (h : bs[i]? = some b) (hb : bIn b = false) : bErr bs = 3 := by
  unfold bErr
  rw [if_neg]
  intro hall
  have := List.all_eq_true.1 hall b (List.mem_of_getElem? h)
  rw [hb] at this; cases this
theorem bErr_ok {bs : List (Int × Int × Int)} (h : ∀ (i : Nat) (b : Int × Int × Int), bs[i]? = some b → bIn b = true) : bErr bs = 0 := by
  unfold bErr
  rw [if_pos (List.all_eq_true.2 fun b hb => by obtain ⟨i, hi⟩ := List.getElem?_of_mem hb; exact h i b hi)]
theorem bErr_att (a : Att) : bErr [(a.v, 0, 31), (a.s, 0, 4294967296), (a.t, 0, 4294967296)] = a.err := by
  unfold bErr Att.err Att.fine
  simp only [List.all_cons, List.all_nil, bIn, Bool.and_true, Bool.and_eq_true, decide_eq_true_eq]
  congr 1; simp only [eq_iff_iff]; omega
theorem bErr_pro (p : Pro) : bErr [(p.v, 0, 31), (p.h, 1, 4294967296)] = p.err := by
  unfold bErr Pro.err Pro.fine
  simp only [List.all_cons, List.all_nil, bIn, Bool.and_true, Bool.and_eq_true, decide_eq_true_eq]
  congr 1; simp only [eq_iff_iff]; omega
theorem within_split (bs : List (Int × Int × Int)) (i : Nat) (hi : i ≤ bs.length) : (i < bs.length ∧ ∃ b, bs[i]? = some b ∧ b.1 < b.2.1) ∨ (i < bs.length ∧ ∃ b, bs[i]? = some b ∧ ¬ b.1 < b.2.1 ∧ b.2.2 < b.1) ∨ (i < bs.length ∧ ∃ b, bs[i]? = some b ∧ ¬ b.1 < b.2.1 ∧ ¬ b.2.2 < b.1) ∨ i = bs.length := by
 rcases Nat.lt_or_eq_of_le hi with h | h
 ·have hb : bs[i]? = some bs[i] := List.getElem?_eq_getElem h
  by_cases h1 : bs[i].1 < bs[i].2.1
  ·exact .inl ⟨h, _, hb, h1⟩
  ·by_cases h2 : bs[i].2.2 < bs[i].1
   ·exact .inr (.inl ⟨h, _, hb, h1, h2⟩)
   ·exact .inr (.inr (.inl ⟨h, _, hb, h1, h2⟩))
 ·exact .inr (.inr (.inr h))
def qc17_4 (n : Nat) : Code := partOf f81 n
theorem vwithin_ok (g cap : Nat) (bs : List (Int × Int × Int)) (rest : List Value) (w : World) (h0 : HP w g (bC bs ++ rest).toArray 140) (hmax : bs.length ≤ 1000) :
  Calls prog 81 #[sS g bs.length cap] w (RK w (iI (bErr bs))) := by
 have K0 := kz0 w
 refine sf_ (qc17_4 1) func81 <| qr_ [0] <| kk 1 <| eq_ <| qr_ [0, 1, 2] <| kk 1 <| pP (len_ (some ⟨g, 0, none⟩) bs.length cap underlying197) <| kk 1 <| et_ <| bl_ 0 ?_
 refine sy_loop (qc17_4 52) (fun a V => ∃ (i : Nat), (Fr 24 [(5, sS g bs.length cap), (6, iN bs.length), (7, iN i)] [] a) ∧ (i ≤ bs.length) ∧ (∀ (k : Nat) (b : Int × Int × Int), k < i → bs[k]? = some b → bIn b = true) ∧ (Keeps Nob w V)) (fun a _ => bs.length - (intOf (a.tmps.getD 7 undef)).toNat) (by kernel_rfl) ?_ ?_
 ·exact ⟨0, fq, by omega, (fun k b h => absurd h (Nat.not_lt_zero _)), K0⟩
 ·rintro a V1 ⟨i, hfr, hi, hok, K2⟩
  obtain ⟨uu3, rfl⟩ := Fr.open hfr
  rcases (show (i < bs.length ∧ ∃ b, bs[i]? = some b ∧ b.1 < b.2.1) ∨ (i < bs.length ∧ ∃ b, bs[i]? = some b ∧ ¬ b.1 < b.2.1 ∧ b.2.2 < b.1) ∨ (i < bs.length ∧ ∃ b, bs[i]? = some b ∧ ¬ b.1 < b.2.1 ∧ ¬ b.2.2 < b.1) ∨ i = bs.length from within_split bs i hi) with ⟨lt_i, ⟨n, lo, hi⟩, hb, hlo⟩ | ⟨lt_i, ⟨n, lo, hi⟩, hb, hlo, hhi⟩ | ⟨lt_i, ⟨n, lo, hi⟩, hb, hlo, hhi⟩ | eq_i
  ·have hlo : n < lo := hlo
   refine qr_ [0] <| pP (dtT ((i : Int) < (bs.length : Int))) <| eq_ <| y_ <| s_ <| tq_ <| bl_ 1 <| qr_ [0, 1, 2, 3] <| ppq (pT g (i * 3)) (exec_cast (v := pT g (0 + i * 3)) (by simp) (ixs g 0 bs.length cap .i64 i 3 underlying197 (by omega))) ?_
   refine ppq (.agg #[iI n, iI lo, iI hi]) (exec_load_seg 140 (.tmp 9) (by kernel_rfl) g (i * 3) (by kernel_rfl) [iI n, iI lo, iI hi] _ _ _ ((K2.block g (lt_of_block h0) (fun x => x)).trans h0) (fun j x hx => by rw [List.getElem?_toArray, List.getElem?_append_left (List.getElem?_eq_some_iff.1 (bC_get bs i (n, lo, hi) hb j x hx)).1]; exact bC_get bs i (n, lo, hi) hb j x hx) underlying140 rfl (by kernel_rfl)) ?_
   refine pag 140 (#[iI 0, iI 0, iI 0]) fun V4 gb egb h5 j4 => ?_
   have n6 := nk egb K2
   have ⟨K7, z8⟩ := j4.z0 K2
   refine pst 140 gb (#[iI n, iI lo, iI hi]) h5 (by kernel_rfl) rfl (by kernel_rfl) fun V9 h10 j9 => ?_
   have ⟨K11, z12⟩ := j9.zo0 K7
   refine eqr_ nl12_ <| kk 1 <| pP (lk h10) <| kk 1 <| pP (lk h10) <| pP (dtT (((n) : Int) < ((lo) : Int))) <| kk 7 <| ey_ <| qr_ [0] <| kk 1 <| eu_ <| blk_r <| then_r <| then_r <| blk_r <| then_r <| so_ (iI 3) ?_
   exact ⟨by rw [bErr_no hb (decide_eq_false (fun h => by have h1 := h.1; have h2 := h.2; simp only at h1 h2; omega))], K11⟩
  ·have hlo : ¬ n < lo := hlo
   have hhi : hi < n := hhi
   refine qr_ [0] <| pP (dtT ((i : Int) < (bs.length : Int))) <| eq_ <| y_ <| s_ <| tq_ <| bl_ 1 <| qr_ [0, 1, 2, 3] <| ppq (pT g (i * 3)) (exec_cast (v := pT g (0 + i * 3)) (by simp) (ixs g 0 bs.length cap .i64 i 3 underlying197 (by omega))) ?_
   refine ppq (.agg #[iI n, iI lo, iI hi]) (exec_load_seg 140 (.tmp 9) (by kernel_rfl) g (i * 3) (by kernel_rfl) [iI n, iI lo, iI hi] _ _ _ ((K2.block g (lt_of_block h0) (fun x => x)).trans h0) (fun j x hx => by rw [List.getElem?_toArray, List.getElem?_append_left (List.getElem?_eq_some_iff.1 (bC_get bs i (n, lo, hi) hb j x hx)).1]; exact bC_get bs i (n, lo, hi) hb j x hx) underlying140 rfl (by kernel_rfl)) ?_
   refine pag 140 (#[iI 0, iI 0, iI 0]) fun V13 gb egb h14 j13 => ?_
   have n15 := nk egb K2
   have ⟨K16, z17⟩ := j13.z0 K2
   refine pst 140 gb (#[iI n, iI lo, iI hi]) h14 (by kernel_rfl) rfl (by kernel_rfl) fun V18 h19 j18 => ?_
   have ⟨K20, z21⟩ := j18.zo0 K16
   refine eqr_ nl12_ <| kk 1 <| pP (lk h19) <| kk 1 <| pP (lk h19) <| pP (dtF (((n) : Int) < ((lo) : Int))) <| kk 2 <| pP (lk h19) <| kk 1 <| pP (lk h19) <| pP (dtT (((n) : Int) > ((hi) : Int))) <| kk 1 <| ey_ <| qr_ [0] <| kk 1 <| eu_ <| blk_r <| then_r <| then_r <| blk_r <| then_r <| so_ (iI 3) ?_
   exact ⟨by rw [bErr_no hb (decide_eq_false (fun h => by have h1 := h.1; have h2 := h.2; simp only at h1 h2; omega))], K20⟩
  ·have hlo : ¬ n < lo := hlo
   have hhi : ¬ hi < n := hhi
   refine qr_ [0] <| pP (dtT ((i : Int) < (bs.length : Int))) <| eq_ <| y_ <| s_ <| tq_ <| bl_ 1 <| qr_ [0, 1, 2, 3] <| ppq (pT g (i * 3)) (exec_cast (v := pT g (0 + i * 3)) (by simp) (ixs g 0 bs.length cap .i64 i 3 underlying197 (by omega))) ?_
   refine ppq (.agg #[iI n, iI lo, iI hi]) (exec_load_seg 140 (.tmp 9) (by kernel_rfl) g (i * 3) (by kernel_rfl) [iI n, iI lo, iI hi] _ _ _ ((K2.block g (lt_of_block h0) (fun x => x)).trans h0) (fun j x hx => by rw [List.getElem?_toArray, List.getElem?_append_left (List.getElem?_eq_some_iff.1 (bC_get bs i (n, lo, hi) hb j x hx)).1]; exact bC_get bs i (n, lo, hi) hb j x hx) underlying140 rfl (by kernel_rfl)) ?_
   refine pag 140 (#[iI 0, iI 0, iI 0]) fun V22 gb egb h23 j22 => ?_
   have n24 := nk egb K2
   have ⟨K25, z26⟩ := j22.z0 K2
   refine pst 140 gb (#[iI n, iI lo, iI hi]) h23 (by kernel_rfl) rfl (by kernel_rfl) fun V27 h28 j27 => ?_
   have ⟨K29, z30⟩ := j27.zo0 K25
   refine eqr_ nl12_ <| kk 1 <| pP (lk h28) <| kk 1 <| pP (lk h28) <| pP (dtF (((n) : Int) < ((lo) : Int))) <| kk 2 <| pP (lk h28) <| kk 1 <| pP (lk h28) <| pP (dtF (((n) : Int) > ((hi) : Int))) <| kk 1 <| en_ <| s_ <| blk_n <| tr_ [0, 1] <| pP (cwN (n := i + 1)) <| kk 1 <| et_ ?_
   refine ⟨⟨i + 1, fq, by omega, (fun k b h hk => (by omega : k < i ∨ k = i).elim (fun h => hok k b h hk) (fun h => by subst h; rw [hb] at hk; cases hk; exact decide_eq_true ⟨by omega, by omega⟩)), K29⟩, ?_⟩
   exact ltm (bs.length - (i + 1)) (bs.length - i)
  ·show _
   refine qr_ [0] <| pP (dtF ((i : Int) < (bs.length : Int))) <| eq_ <| n_ <| sy_exit 0 (by kernel_rfl) <| then_e <| then_e <| blk_e <| tqr_ [0] <| kk 1 <| eu_ <| so_ (iI 0) ?_
   exact ⟨by rw [bErr_ok fun k b h => hok k b (by have := (List.getElem?_eq_some_iff.1 h).1; omega) h], K2⟩
def qc17_6 (n : Nat) : Code := partOf f82 n
theorem vwho_ok (x : Int) (w : World) :
  Calls prog 82 #[iI x] w (RK w (.agg #[iI x, iI 0, iI 31])) := by
 have K0 := kz0 w
 refine sf_ (qc17_6 1) func82 <| qr_ [0] <| pag 140 (#[iI 0, iI 0, iI 0]) fun V1 gr egr h2 j1 => ?_
 have n3 := nk egr K0
 have ⟨K4, z5⟩ := j1.z0 K0
 refine eqr_ [0, 1, 2] <| kk 2 <| pst 140 gr (#[iI x, iI 0, iI 31]) h2 (by kernel_rfl) rfl (by kernel_rfl) fun V6 h7 j6 => ?_
 have ⟨K8, z9⟩ := j6.zo0 K4
 refine eu_ <| sor 140 gr h7 underlying140 (by kernel_rfl) ?_
 exact ⟨rfl, K8⟩
theorem within_Att (a : Att) {g : Nat} (w : World) (h0 : HP w g (bC [(a.v, 0, 31), (a.s, 0, 4294967296), (a.t, 0, 4294967296)]).toArray 140) : Calls prog 81 #[sS g 3 3] w (RK w (iI a.err)) := by
 have := vwithin_ok g 3 [(a.v, 0, 31), (a.s, 0, 4294967296), (a.t, 0, 4294967296)] [] w (by rw [List.append_nil]; exact h0) (by simp)
 rwa [bErr_att] at this
def qc17_5 (n : Nat) : Code := partOf f46 n
theorem vCheck_ok (a : Att) (w : World) (hr : a.r.length = 32) :
  Calls prog 46 #[.agg (Att.c a)] w (RK w (iI a.err)) := by
 have K0 := kz0 w
 refine sf_ (qc17_5 1) func46 <| qr_ [0, 1] <| pbg 28 (Att.c a) fun V1 ga ega h2 j1 => ?_
 have n3 := nk ega K0
 have ⟨K4, z5⟩ := j1.z0 K0
 refine kk 1 <| eq_ <| anp 12 (fun W => (HP W ga (Att.c a) 28)) fun V6 j6 => ?_
 have ⟨K8, z9, h7⟩ := j6.z1 K4 h2
 refine kA [0] <| aV 1 _ (fun W hS => lc hS (Att.c_0 _)) <| kA [3] <| aV 4 _ (fun W hS => lc hS (Att.c_1 _)) <| kA [5, 6] <| aV 7 _ (fun W hS => lc hS (Att.c_2 _)) <| kA [8] <| an_o 2 <| ncs (vwho_ok a.v _) fun V10 j10 => ?_
 have ⟨K12, z13, h11⟩ := j10.z1 K8 h7
 refine ⟨h11, ?_⟩
 refine an_o 9 <| nbs 140 (#[iI a.v, iI 0, iI 31, iI a.s, iI 0, iI 4294967296, iI a.t, iI 0, iI 4294967296]) 3 fun V14 gl egl h15 j14 => ?_
 have := nqk1 egl h11 K12
 have ⟨K19, z20, h18⟩ := j14.z1 K12 h11
 refine ⟨h18, ?_⟩
 refine an_o 10 <| ncs (within_Att a _ h15) fun V21 j21 => ?_
 have ⟨K24, z25, h22⟩ := j21.z1 K19 h18
 refine ⟨h22, ?_⟩
 refine ako 11 ?_
 refine ane <| then_n <| u_ <| so_ (iI a.err) ?_
 exact ⟨rfl, K24⟩
theorem within_Pro (a : Pro) {g : Nat} (w : World) (h0 : HP w g (bC [(a.v, 0, 31), (a.h, 1, 4294967296)]).toArray 140) : Calls prog 81 #[sS g 2 2] w (RK w (iI a.err)) := by
 have := vwithin_ok g 2 [(a.v, 0, 31), (a.h, 1, 4294967296)] [] w (by rw [List.append_nil]; exact h0) (by simp)
 rwa [bErr_pro] at this
def qc17_1 (n : Nat) : Code := partOf f51 n
theorem vCheckBlock_ok (a : Pro) (w : World) (hr : a.r.length = 32) :
  Calls prog 51 #[.agg (Pro.c a)] w (RK w (iI a.err)) := by
 have K0 := kz0 w
 refine sf_ (qc17_1 1) func51 <| qr_ [0, 1] <| pbg 37 (Pro.c a) fun V1 ga ega h2 j1 => ?_
 have n3 := nk ega K0
 have ⟨K4, z5⟩ := j1.z0 K0
 refine kk 1 <| eq_ <| anp 9 (fun W => (HP W ga (Pro.c a) 37)) fun V6 j6 => ?_
 have ⟨K8, z9, h7⟩ := j6.z1 K4 h2
 refine kA [0] <| aV 1 _ (fun W hS => lc hS (Pro.c_0 _)) <| kA [3] <| aV 4 _ (fun W hS => lc hS (Pro.c_1 _)) <| kA [5] <| an_o 2 <| ncs (vwho_ok a.v _) fun V10 j10 => ?_
 have ⟨K12, z13, h11⟩ := j10.z1 K8 h7
 refine ⟨h11, ?_⟩
 refine an_o 6 <| nbs 140 (#[iI a.v, iI 0, iI 31, iI a.h, iI 1, iI 4294967296]) 2 fun V14 gl egl h15 j14 => ?_
 have := nqk1 egl h11 K12
 have ⟨K19, z20, h18⟩ := j14.z1 K12 h11
 refine ⟨h18, ?_⟩
 refine an_o 7 <| ncs (within_Pro a _ h15) fun V21 j21 => ?_
 have ⟨K24, z25, h22⟩ := j21.z1 K19 h18
 refine ⟨h22, ?_⟩
 refine ako 8 ?_
 refine ane <| then_n <| u_ <| so_ (iI a.err) ?_
 exact ⟨rfl, K24⟩
def qc17_3 (n : Nat) : Code := partOf f138 n
theorem rwithin_0 (n lo hi : Int) (w : World) (h : n < lo) :
  Calls prog 138 #[iI n, iI lo, iI hi] w (fun e w' => e = .returned (.bool false) ∧ w = w') := by
 have K0 := kz0 w
 refine sf_ (qc17_3 1) func138 <| qr_ [0] <| kk 1 <| eqr_ nl9_ <| kk 2 <| pP (dtF (((n) : Int) ≥ ((lo) : Int))) <| kk 6 <| eu_ <| so_ (.bool false) ?_
 exact ⟨rfl, rfl⟩
theorem rwithin_1 (n lo hi : Int) (w : World) (h : lo ≤ n) (h2 : hi < n) :
  Calls prog 138 #[iI n, iI lo, iI hi] w (fun e w' => e = .returned (.bool false) ∧ w = w') := by
 have K0 := kz0 w
 refine sf_ (qc17_3 1) func138 <| qr_ [0] <| kk 1 <| eqr_ nl9_ <| kk 2 <| pP (dtT (((n) : Int) ≥ ((lo) : Int))) <| kk 3 <| pP (dtF (((n) : Int) ≤ ((hi) : Int))) <| kk 2 <| eu_ <| so_ (.bool false) ?_
 exact ⟨rfl, rfl⟩
theorem rwithin_2 (n lo hi : Int) (w : World) (h : lo ≤ n) (h2 : n ≤ hi) :
  Calls prog 138 #[iI n, iI lo, iI hi] w (fun e w' => e = .returned (.bool true) ∧ w = w') := by
 have K0 := kz0 w
 refine sf_ (qc17_3 1) func138 <| qr_ [0] <| kk 1 <| eqr_ nl9_ <| kk 2 <| pP (dtT (((n) : Int) ≥ ((lo) : Int))) <| kk 3 <| pP (dtT (((n) : Int) ≤ ((hi) : Int))) <| kk 2 <| eu_ <| so_ (.bool true) ?_
 exact ⟨rfl, rfl⟩
theorem rwithin_yes (n lo hi : Int) (w : World) (h : lo ≤ n ∧ n ≤ hi) : Calls prog 138 #[iI n, iI lo, iI hi] w fun e w' => e = .returned (.bool true) ∧ w = w' := rwithin_2 n lo hi w h.1 h.2
theorem rwithin_no (n lo hi : Int) (w : World) (h : ¬ (lo ≤ n ∧ n ≤ hi)) : Calls prog 138 #[iI n, iI lo, iI hi] w fun e w' => e = .returned (.bool false) ∧ w = w' := by
 by_cases h1 : n < lo
 ·exact rwithin_0 n lo hi w h1
 ·exact rwithin_1 n lo hi w (by omega) (by omega)
def qc17_2 (n : Nat) : Code := partOf f106 n
theorem rvCheck_0 (a : Att) (w : World) (hr : a.r.length = 32) (c0 : ¬ (0 ≤ a.v ∧ a.v ≤ 31)) :
  Calls prog 106 #[.agg (Att.c a)] w (RK w (iI a.err)) := by
 have K0 := kz0 w
 refine sf_ (qc17_2 1) func106 <| qr_ [0, 1] <| pbg 28 (Att.c a) fun V1 ga ega h2 j1 => ?_
 have n3 := nk ega K0
 have ⟨K4, z5⟩ := j1.z0 K0
 refine kk 1 <| eq_ <| qr_ nl16_ <| kk 1 <| pP (lc h2 (Att.c_0 _)) ?_
 refine pct ((rwithin_no a.v 0 31 _ c0).mono ?_)
 rintro e w1 ⟨rfl, rfl⟩
 refine ⟨_, rfl, ?_⟩
 refine kk 13 <| ey_ <| qr_ [0] <| kk 1 <| eu_ <| then_r <| so_ (iI 3) ?_
 exact ⟨by rw [Att.err_no (by unfold Att.fine; omega)], K4⟩
theorem rvCheck_1 (a : Att) (w : World) (hr : a.r.length = 32) (c0 : (0 ≤ a.v ∧ a.v ≤ 31)) (c1 : ¬ (0 ≤ a.s ∧ a.s ≤ 4294967296)) :
  Calls prog 106 #[.agg (Att.c a)] w (RK w (iI a.err)) := by
 have K0 := kz0 w
 refine sf_ (qc17_2 1) func106 <| qr_ [0, 1] <| pbg 28 (Att.c a) fun V1 ga ega h2 j1 => ?_
 have n3 := nk ega K0
 have ⟨K4, z5⟩ := j1.z0 K0
 refine kk 1 <| eq_ <| qr_ nl16_ <| kk 1 <| pP (lc h2 (Att.c_0 _)) ?_
 refine pct ((rwithin_yes a.v 0 31 _ c0).mono ?_)
 rintro e w1 ⟨rfl, rfl⟩
 refine ⟨_, rfl, ?_⟩
 refine kk 3 <| pP (lc h2 (Att.c_1 _)) ?_
 refine pct ((rwithin_no a.s 0 4294967296 _ c1).mono ?_)
 rintro e w1 ⟨rfl, rfl⟩
 refine ⟨_, rfl, ?_⟩
 refine kk 8 <| ey_ <| qr_ [0] <| kk 1 <| eu_ <| then_r <| so_ (iI 3) ?_
 exact ⟨by rw [Att.err_no (by unfold Att.fine; omega)], K4⟩
theorem rvCheck_2 (a : Att) (w : World) (hr : a.r.length = 32) (c0 : (0 ≤ a.v ∧ a.v ≤ 31)) (c1 : (0 ≤ a.s ∧ a.s ≤ 4294967296)) (c2 : ¬ (0 ≤ a.t ∧ a.t ≤ 4294967296)) :
  Calls prog 106 #[.agg (Att.c a)] w (RK w (iI a.err)) := by
 have K0 := kz0 w
 refine sf_ (qc17_2 1) func106 <| qr_ [0, 1] <| pbg 28 (Att.c a) fun V1 ga ega h2 j1 => ?_
 have n3 := nk ega K0
 have ⟨K4, z5⟩ := j1.z0 K0
 refine kk 1 <| eq_ <| qr_ nl16_ <| kk 1 <| pP (lc h2 (Att.c_0 _)) ?_
 refine pct ((rwithin_yes a.v 0 31 _ c0).mono ?_)
 rintro e w1 ⟨rfl, rfl⟩
 refine ⟨_, rfl, ?_⟩
 refine kk 3 <| pP (lc h2 (Att.c_1 _)) ?_
 refine pct ((rwithin_yes a.s 0 4294967296 _ c1).mono ?_)
 rintro e w1 ⟨rfl, rfl⟩
 refine ⟨_, rfl, ?_⟩
 refine kk 4 <| pP (lc h2 (Att.c_2 _)) ?_
 refine pct ((rwithin_no a.t 0 4294967296 _ c2).mono ?_)
 rintro e w1 ⟨rfl, rfl⟩
 refine ⟨_, rfl, ?_⟩
 refine kk 2 <| ey_ <| qr_ [0] <| kk 1 <| eu_ <| then_r <| so_ (iI 3) ?_
 exact ⟨by rw [Att.err_no (by unfold Att.fine; omega)], K4⟩
theorem rvCheck_3 (a : Att) (w : World) (hr : a.r.length = 32) (c0 : (0 ≤ a.v ∧ a.v ≤ 31)) (c1 : (0 ≤ a.s ∧ a.s ≤ 4294967296)) (c2 : (0 ≤ a.t ∧ a.t ≤ 4294967296)) :
  Calls prog 106 #[.agg (Att.c a)] w (RK w (iI a.err)) := by
 have K0 := kz0 w
 refine sf_ (qc17_2 1) func106 <| qr_ [0, 1] <| pbg 28 (Att.c a) fun V1 ga ega h2 j1 => ?_
 have n3 := nk ega K0
 have ⟨K4, z5⟩ := j1.z0 K0
 refine kk 1 <| eq_ <| qr_ nl16_ <| kk 1 <| pP (lc h2 (Att.c_0 _)) ?_
 refine pct ((rwithin_yes a.v 0 31 _ c0).mono ?_)
 rintro e w1 ⟨rfl, rfl⟩
 refine ⟨_, rfl, ?_⟩
 refine kk 3 <| pP (lc h2 (Att.c_1 _)) ?_
 refine pct ((rwithin_yes a.s 0 4294967296 _ c1).mono ?_)
 rintro e w1 ⟨rfl, rfl⟩
 refine ⟨_, rfl, ?_⟩
 refine kk 4 <| pP (lc h2 (Att.c_2 _)) ?_
 refine pct ((rwithin_yes a.t 0 4294967296 _ c2).mono ?_)
 rintro e w1 ⟨rfl, rfl⟩
 refine ⟨_, rfl, ?_⟩
 refine kk 2 <| en_ <| s_ <| tqr_ [0] <| kk 1 <| eu_ <| so_ (iI 0) ?_
 exact ⟨by rw [Att.err_ok (by unfold Att.fine; omega)], K4⟩
theorem rvCheck_ok (a : Att) (w : World) (hr : a.r.length = 32) : Calls prog 106 #[.agg (Att.c a)] w (RK w (iI a.err)) := by
 by_cases c0 : (0 ≤ a.v ∧ a.v ≤ 31)
 case neg => exact rvCheck_0 a w hr c0
 by_cases c1 : (0 ≤ a.s ∧ a.s ≤ 4294967296)
 case neg => exact rvCheck_1 a w hr c0 c1
 by_cases c2 : (0 ≤ a.t ∧ a.t ≤ 4294967296)
 case neg => exact rvCheck_2 a w hr c0 c1 c2
 exact rvCheck_3 a w hr c0 c1 c2
def qc17_0 (n : Nat) : Code := partOf f108 n
theorem rvCheckBlock_0 (a : Pro) (w : World) (hr : a.r.length = 32) (c0 : ¬ (0 ≤ a.v ∧ a.v ≤ 31)) :
  Calls prog 108 #[.agg (Pro.c a)] w (RK w (iI a.err)) := by
 have K0 := kz0 w
 refine sf_ (qc17_0 1) func108 <| qr_ [0, 1] <| pbg 37 (Pro.c a) fun V1 ga ega h2 j1 => ?_
 have n3 := nk ega K0
 have ⟨K4, z5⟩ := j1.z0 K0
 refine kk 1 <| eq_ <| qr_ nl10_ <| kk 1 <| pP (lc h2 (Pro.c_0 _)) ?_
 refine pct ((rwithin_no a.v 0 31 _ c0).mono ?_)
 rintro e w1 ⟨rfl, rfl⟩
 refine ⟨_, rfl, ?_⟩
 refine kk 7 <| ey_ <| qr_ [0] <| kk 1 <| eu_ <| then_r <| so_ (iI 3) ?_
 exact ⟨by rw [Pro.err_no (by unfold Pro.fine; omega)], K4⟩
theorem rvCheckBlock_1 (a : Pro) (w : World) (hr : a.r.length = 32) (c0 : (0 ≤ a.v ∧ a.v ≤ 31)) (c1 : ¬ (1 ≤ a.h ∧ a.h ≤ 4294967296)) :
  Calls prog 108 #[.agg (Pro.c a)] w (RK w (iI a.err)) := by
 have K0 := kz0 w
 refine sf_ (qc17_0 1) func108 <| qr_ [0, 1] <| pbg 37 (Pro.c a) fun V1 ga ega h2 j1 => ?_
 have n3 := nk ega K0
 have ⟨K4, z5⟩ := j1.z0 K0
 refine kk 1 <| eq_ <| qr_ nl10_ <| kk 1 <| pP (lc h2 (Pro.c_0 _)) ?_
 refine pct ((rwithin_yes a.v 0 31 _ c0).mono ?_)
 rintro e w1 ⟨rfl, rfl⟩
 refine ⟨_, rfl, ?_⟩
 refine kk 3 <| pP (lc h2 (Pro.c_1 _)) ?_
 refine pct ((rwithin_no a.h 1 4294967296 _ c1).mono ?_)
 rintro e w1 ⟨rfl, rfl⟩
 refine ⟨_, rfl, ?_⟩
 refine kk 2 <| ey_ <| qr_ [0] <| kk 1 <| eu_ <| then_r <| so_ (iI 3) ?_
 exact ⟨by rw [Pro.err_no (by unfold Pro.fine; omega)], K4⟩
theorem rvCheckBlock_2 (a : Pro) (w : World) (hr : a.r.length = 32) (c0 : (0 ≤ a.v ∧ a.v ≤ 31)) (c1 : (1 ≤ a.h ∧ a.h ≤ 4294967296)) :
  Calls prog 108 #[.agg (Pro.c a)] w (RK w (iI a.err)) := by
 have K0 := kz0 w
 refine sf_ (qc17_0 1) func108 <| qr_ [0, 1] <| pbg 37 (Pro.c a) fun V1 ga ega h2 j1 => ?_
 have n3 := nk ega K0
 have ⟨K4, z5⟩ := j1.z0 K0
 refine kk 1 <| eq_ <| qr_ nl10_ <| kk 1 <| pP (lc h2 (Pro.c_0 _)) ?_
 refine pct ((rwithin_yes a.v 0 31 _ c0).mono ?_)
 rintro e w1 ⟨rfl, rfl⟩
 refine ⟨_, rfl, ?_⟩
 refine kk 3 <| pP (lc h2 (Pro.c_1 _)) ?_
 refine pct ((rwithin_yes a.h 1 4294967296 _ c1).mono ?_)
 rintro e w1 ⟨rfl, rfl⟩
 refine ⟨_, rfl, ?_⟩
 refine kk 2 <| en_ <| s_ <| tqr_ [0] <| kk 1 <| eu_ <| so_ (iI 0) ?_
 exact ⟨by rw [Pro.err_ok (by unfold Pro.fine; omega)], K4⟩
theorem rvCheckBlock_ok (a : Pro) (w : World) (hr : a.r.length = 32) : Calls prog 108 #[.agg (Pro.c a)] w (RK w (iI a.err)) := by
 by_cases c0 : (0 ≤ a.v ∧ a.v ≤ 31)
 case neg => exact rvCheckBlock_0 a w hr c0
 by_cases c1 : (1 ≤ a.h ∧ a.h ≤ 4294967296)
 case neg => exact rvCheckBlock_1 a w hr c0 c1
 exact rvCheckBlock_2 a w hr c0 c1
end
end Go.Proofs.YthmclmbeflbhhaaGreat
end
