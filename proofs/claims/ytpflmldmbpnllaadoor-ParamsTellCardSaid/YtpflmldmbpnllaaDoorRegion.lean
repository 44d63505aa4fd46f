/-
  A region that draws its order, whose calls wait for one another and whose other operations touch no memory (copies, addresses of fields, checks for nil): the others are taken by reckoning, the calls one by one. Conditions: none.
-/
import Derived.WalkKit
import Derived.OrdersHeld
import Derived.Deep.RegionHeld
import Derived.Laws.Rows
import Derived.Laws.Tables
namespace Go.Own
open Go Go.RowKit

/-- What an operation yields in whatever world, where no memory is looked at. -/
def pureV (P : Program) (ρ : Operand → Value) (o : Oper) : Option Value :=
  match o.op with
  | .move x => some (ρ x)
  | .assign x => some (ρ x)
  | .nilCheck x => match ρ x with | .pointer (some p) => some (.pointer (some p)) | _ => none
  | .fieldAddr s x f => match P.underlying s, ρ x with
    | some (.struct fields), .pointer (some a) => match fields[f]? with
      | some fd => match P.info? fd.type with
        | some i => if i.size = 0 then none else some (.pointer (some (a.add fd.offset)))
        | none => none
      | none => none
    | _, _ => none
  | _ => none

theorem pureV_run {P : Program} {ρ : Operand → Value} {o : Oper} {v : Value} (h : pureV P ρ o = some v) (w : World) : (execOp ρ o).run P w = .ok (.value v) w := by
  unfold pureV at h
  unfold execOp
  split at h
  · rename_i x ho; simp only [ho]; cases h; rfl
  · rename_i x ho; simp only [ho]; cases h; rfl
  · rename_i x ho
    simp only [ho]
    split at h
    · rename_i p hp; cases h; simp only [hp]; rfl
    · cases h
  · rename_i s x f ho
    simp only [ho]
    split at h
    · rename_i fields a hs hx
      split at h
      · rename_i fd hfd
        split at h
        · rename_i i hi
          split at h
          · cases h
          · rename_i hne
            cases h
            simp [Instr.fieldAt, hx, run_underlying hs, hfd, Instr.sureAddr, fieldPlace, sizeOf, typeInfo, hi, hne, go_sem]
        · cases h
      · cases h
    · cases h
  · cases h

/-- Which operations are taken so, and the state behind them. -/
def pureRun (P : Program) (md : Region.Mode) (ops : Array Oper) : List Nat → Array Bool → Act → Option (Array Bool × Act)
  | [], l, a => some (l, a)
  | i :: r, l, a => match ops[i]? with
    | none => none
    | some o => if o.guard = none ∧ Region.free md ops l i = true ∧ (Region.ready md ops l).contains i = true then
        match pureV P a.eval o with
        | some v => pureRun P md ops r (l.setIfInBounds i true) (a.put o.dst v)
        | none => none
      else none

theorem put_defers (a : Act) (d : Option Tmp) (v : Value) : (a.put d v).defers = a.defers := by cases d <;> rfl

section
variable {P : Program} {ops : Array Oper} {Q : Exit → Act → World → Prop} {md : Region.Mode}

theorem wpAny_pure (hs : Region.noSelect ops = true) (hQ : ∀ c (a a' : Act) w, a'.defers = a.defers → Q (.panic c) a' w → Q (.panic c) a w) :
    ∀ (is : List Nat) (l l' : Array Bool) (a a' : Act) (w : World) (fuel : Nat), pureRun P md ops is l a = some (l', a') → wpAny P md ops Q fuel l' a' w → wpAny P md ops Q (fuel + is.length) l a w := by
  intro is
  induction is with
  | nil => intro l l' a a' w fuel h hw; simp only [pureRun, Option.some.injEq, Prod.mk.injEq] at h; obtain ⟨rfl, rfl⟩ := h; exact hw
  | cons i r ih =>
    intro l l' a a' w fuel h hw
    rw [pureRun] at h
    split at h
    · cases h
    · rename_i o ho
      split at h
      · rename_i hc
        obtain ⟨hg, hf, hr⟩ := hc
        split at h
        · rename_i v hv
          have h2 := ih _ _ _ _ w fuel h hw
          refine wpAny_take (i := i) (oi := o) (v := v) (fuel := fuel + r.length) ho hs hf hr (fun c a w hp => hQ c a _ w (put_defers _ _ _) hp) (.inl ⟨by simp [Region.wanted, hg], fun w => pureV_run hv w⟩) h2
        · cases h
      · cases h

/-- A call that alone may come up. -/
theorem wpAny_call {i : Nat} {o : Oper} {f : FuncId} {as : Array Operand} {ts : Array TypeId} {args : Array Value} {fuel : Nat} {l : Array Bool} {a : Act} {w : World} (hr : Region.ready md ops l = [i]) (ho : ops[i]? = some o) (hg : o.guard = none)
    (hc : o.op = .call { callee := .value (.func f), args := as, argTypes := ts }) (hargs : as.map a.eval = args) (he : ∀ args w, (callFunc f args).run P w = .ok (.enter f args) w)
    (h : Calls P f args w fun e w' => ∃ v, e = .returned v ∧ wpAny P md ops Q fuel (l.setIfInBounds i true) (a.put o.dst v) w') : wpAny P md ops Q (fuel + 1) l a w := by
  refine wpAny_all hr (by simp) fun j hj => ?_
  obtain rfl : j = i := by simpa using hj
  unfold wpOp
  simp only [ho, Region.wanted, hg, if_true]
  refine .inl ?_
  unfold Oper.wp execOp
  simp only [hc, resolve, hargs, Act.eval, Sem.run_bind, Deferred.ofValue, Sem.run_pure, Result.andThen_ok, invoke, Array.append_empty, Array.empty_append, he]
  refine Calls.mono h fun e w' ⟨v, he, hv⟩ => ?_
  subst he
  exact hv

def callArgs (o : Oper) : Array Operand := match o.op with | .call c => c.args | _ => #[]
def callTypes (o : Oper) : Array TypeId := match o.op with | .call c => c.argTypes | _ => #[]
/-- The same, all read off the region. -/
theorem wpAny_call' {i : Nat} (o : Oper) (f : FuncId) (args : Array Value) {fuel : Nat} {l : Array Bool} {a : Act} {w : World} (hr : Region.ready md ops l = [i]) (ho : ops[i]? = some o) (hg : o.guard.isNone = true)
    (hc : o.op = .call { callee := .value (.func f), args := callArgs o, argTypes := callTypes o }) (hargs : (callArgs o).map a.eval = args) (he : ∀ args w, (callFunc f args).run P w = .ok (.enter f args) w)
    (h : Calls P f args w fun e w' => ∃ v, e = .returned v ∧ wpAny P md ops Q fuel (l.setIfInBounds i true) (a.put o.dst v) w') : wpAny P md ops Q (fuel + 1) l a w :=
  wpAny_call hr ho (by simpa using hg) hc hargs he h
/-- An operation that alone may come up, whose run is known. -/
theorem wpAny_run {i : Nat} (o : Oper) (v : Value) {fuel : Nat} {l : Array Bool} {a : Act} {w w' : World} (hr : Region.ready md ops l = [i]) (ho : ops[i]? = some o) (hg : o.guard.isNone = true)
    (hrun : (execOp a.eval o).run P w = .ok (.value v) w') (h : wpAny P md ops Q fuel (l.setIfInBounds i true) (a.put o.dst v) w') : wpAny P md ops Q (fuel + 1) l a w := by
  refine wpAny_all hr (by simp) fun j hj => ?_
  obtain rfl : j = i := by simpa using hj
  unfold wpOp
  have hg' : o.guard = none := by simpa using hg
  simp only [ho, Region.wanted, hg', if_true]
  refine .inl ?_
  unfold Oper.wp
  rw [hrun]
  exact h
theorem wpAny_pure' (hs : Region.noSelect ops = true) (hQ : ∀ c (a a' : Act) w, a'.defers = a.defers → Q (.panic c) a' w → Q (.panic c) a w)
    (is : List Nat) (l l' : Array Bool) (a a' : Act) (w : World) (fuel n : Nat) (hn : fuel + is.length = n) (h : pureRun P md ops is l a = some (l', a')) (hw : wpAny P md ops Q fuel l' a' w) : wpAny P md ops Q n l a w := by
  subst hn; exact wpAny_pure hs hQ is l l' a a' w fuel h hw
theorem region_named {id : Nat} {R : Array Oper} {b : Bool} {a : Act} {w : World} (h : ops = R) (hw : (Code.region id R b).wp P Q a w) : (Code.region id ops b).wp P Q a w := h ▸ hw
theorem wp_region_fuel {id : Nat} {a : Act} {w : World} (n : Nat) (l : Array Bool) (hm : P.follows .mixedOrders = true) (hn : ops.size = n) (hl : Array.replicate n false = l) (h : wpAny P .any ops Q n l a w.drew) : (Code.region id ops true).wp P Q a w := by
  subst hn; subst hl; exact wp_region_any hm h

/-! The same moves where a condition S holds of every world of the region. -/
section
variable {S : World → Prop}
/-- Taken first: an operation whose run is known in every world that meets S. -/
theorem wpAnyH_val {i : Nat} (o : Oper) (v : Value) {fuel : Nat} {l : Array Bool} {a : Act} {w : World} (hs : Region.noSelect ops = true) (hQ : ∀ c (a a' : Act) w, a'.defers = a.defers → Q (.panic c) a' w → Q (.panic c) a w)
    (ho : ops[i]? = some o) (hg : Region.wanted o (yielded ops a.tmps) = true) (hf : Region.free md ops l i = true) (hr : (Region.ready md ops l).contains i = true) (hrun : ∀ W, S W → (execOp a.eval o).run P W = .ok (.value v) W) (hS : S w)
    (h : wpAnyH P md ops Q S fuel (l.setIfInBounds i true) (a.put o.dst v) w) : wpAnyH P md ops Q S (fuel + 1) l a w := by
  exact wpAnyH_take ho hs hf hr (fun c a w hp => hQ c a _ w (put_defers _ _ _) hp) (.inl ⟨hg, hrun⟩) hS h
/-- Taken first: an operation that its guard leaves out. -/
theorem wpAnyH_skip {i : Nat} (o : Oper) {fuel : Nat} {l : Array Bool} {a : Act} {w : World} (hs : Region.noSelect ops = true) (hQ : ∀ c (a a' : Act) w, a'.defers = a.defers → Q (.panic c) a' w → Q (.panic c) a w)
    (ho : ops[i]? = some o) (hg : Region.wanted o (yielded ops a.tmps) = false) (hf : Region.free md ops l i = true) (hr : (Region.ready md ops l).contains i = true) (hS : S w)
    (h : wpAnyH P md ops Q S fuel (l.setIfInBounds i true) (a.put o.dst undef) w) : wpAnyH P md ops Q S (fuel + 1) l a w :=
  wpAnyH_take ho hs hf hr (fun c a w hp => hQ c a _ w (put_defers _ _ _) hp) (.inr ⟨hg, rfl⟩) hS h
/-- A call that alone may come up. -/
theorem wpAnyH_call {i : Nat} (o : Oper) (f : FuncId) (args : Array Value) {fuel : Nat} {l : Array Bool} {a : Act} {w : World} (hr : Region.ready md ops l = [i]) (ho : ops[i]? = some o) (hg : Region.wanted o (yielded ops a.tmps) = true)
    (hc : o.op = .call { callee := .value (.func f), args := callArgs o, argTypes := callTypes o }) (hargs : (callArgs o).map a.eval = args) (he : ∀ args w, (callFunc f args).run P w = .ok (.enter f args) w)
    (h : Calls P f args w fun e w' => ∃ v, e = .returned v ∧ S w' ∧ wpAnyH P md ops Q S fuel (l.setIfInBounds i true) (a.put o.dst v) w') : wpAnyH P md ops Q S (fuel + 1) l a w := by
  refine wpAnyH_all hr (by simp) fun j hj => ?_
  obtain rfl : j = i := by simpa using hj
  unfold wpOp
  simp only [ho, hg, if_true]
  refine .inl ?_
  unfold Oper.wp execOp
  simp only [hc, resolve, hargs, Act.eval, Sem.run_bind, Deferred.ofValue, Sem.run_pure, Result.andThen_ok, invoke, Array.append_empty, Array.empty_append, he]
  refine Calls.mono h fun e w' ⟨v, he, hv⟩ => ?_
  subst he
  exact hv
/-- A call of a function value that alone may come up. -/
theorem wpAnyH_callV {i : Nat} (o : Oper) (x : Operand) (f : FuncId) (caps args : Array Value) {fuel : Nat} {l : Array Bool} {a : Act} {w : World} (hr : Region.ready md ops l = [i]) (ho : ops[i]? = some o) (hg : Region.wanted o (yielded ops a.tmps) = true)
    (hc : o.op = .call { callee := .value x, args := callArgs o, argTypes := callTypes o }) (hx : a.eval x = .func (.func f) #[] caps) (hargs : (callArgs o).map a.eval ++ caps = args) (he : ∀ args w, (callFunc f args).run P w = .ok (.enter f args) w)
    (h : Calls P f args w fun e w' => ∃ v, e = .returned v ∧ S w' ∧ wpAnyH P md ops Q S fuel (l.setIfInBounds i true) (a.put o.dst v) w') : wpAnyH P md ops Q S (fuel + 1) l a w := by
  refine wpAnyH_all hr (by simp) fun j hj => ?_
  obtain rfl : j = i := by simpa using hj
  unfold wpOp
  simp only [ho, hg, if_true]
  refine .inl ?_
  unfold Oper.wp execOp
  simp only [hc, resolve, hx, Sem.run_bind, Deferred.ofValue, Sem.run_pure, Result.andThen_ok, invoke, Array.empty_append, hargs, he]
  refine Calls.mono h fun e w' ⟨v, he, hv⟩ => ?_
  subst he
  exact hv
/-- An operation that alone may come up, whose run is known. -/
theorem wpAnyH_run {i : Nat} (o : Oper) (v : Value) {fuel : Nat} {l : Array Bool} {a : Act} {w w' : World} (hr : Region.ready md ops l = [i]) (ho : ops[i]? = some o) (hg : Region.wanted o (yielded ops a.tmps) = true)
    (hrun : (execOp a.eval o).run P w = .ok (.value v) w' ∨ ((execOp a.eval o).run P w = .ok .skip w' ∧ v = undef)) (hS : S w') (h : wpAnyH P md ops Q S fuel (l.setIfInBounds i true) (a.put o.dst v) w') : wpAnyH P md ops Q S (fuel + 1) l a w := by
  refine wpAnyH_all hr (by simp) fun j hj => ?_
  obtain rfl : j = i := by simpa using hj
  unfold wpOp
  simp only [ho, hg, if_true]
  refine .inl ?_
  unfold Oper.wp
  rcases hrun with hrun | ⟨hrun, rfl⟩ <;> rw [hrun] <;> exact ⟨hS, h⟩
theorem wp_regionH_fuel {id : Nat} {a : Act} {w : World} (S : World → Prop) (n : Nat) (l : Array Bool) (hm : P.follows .mixedOrders = true) (hn : ops.size = n) (hl : Array.replicate n false = l) (h : wpAnyH P .any ops Q S n l a w.drew) : (Code.region id ops true).wp P Q a w := by
  subst hn; subst hl; exact wp_region_held hm h
end
/-- A whole struct is loaded. -/
theorem exec_load_row {o : Oper} {ρ : Operand → Value} {w : World} (ty : TypeId) (x : Operand) (ho : o.op = .load ty x) (g : Nat) (hx : ρ x = .pointer (some ⟨g, 0, none⟩)) (t : TypeId) (cs : Array Value) (fr : Nat × Nat) (d : TypeDesc) (hg : w.heap[g]? = some (.cells cs t fr))
    (hu : P.underlying ty = some d) (hd : (match d with | .struct _ | .array _ _ => true | _ => false) = true) (hi : (P.info? ty).map (·.size) = some cs.size) :
    (execOp ρ o).run P w = .ok (.value (.agg cs)) w := by
  unfold execOp
  simp only [ho, hx, Instr.loadAt, Instr.sureAddr, Sem.run_bind, Sem.run_pure, Result.andThen_ok, run_loadVar_row w g t ty cs fr d hg hu hd hi]
/-- A whole struct is stored. -/
theorem exec_store_row {o : Oper} {ρ : Operand → Value} {w : World} (ty : TypeId) (x y : Operand) (ho : o.op = .store ty x y) (g : Nat) (cells : Array Value) (hx : ρ x = .pointer (some ⟨g, 0, none⟩)) (hy : ρ y = .agg cells)
    (t : TypeId) (old : Array Value) (hg : w.heap[g]? = some (.cells old t (0, 0))) (hi : (P.info? ty).map (·.size) = some cells.size) (hold : old.size = cells.size) (h1 : cells.all (·.oneCell') = true) :
    (execOp ρ o).run P w = .ok .skip (w.setRow g cells) := by
  unfold execOp
  simp only [ho, hx, hy, Instr.storeAt, Instr.sureAddr, Sem.run_bind, Sem.run_pure, Result.andThen_ok, run_storeVar_row w g t ty old cells hg hi hold h1]
/-- A number is loaded. -/
theorem exec_load_int {o : Oper} {ρ : Operand → Value} {w : World} (ty : TypeId) (x : Operand) (ho : o.op = .load ty x) (a : Addr) (hx : ρ x = .pointer (some a)) (k : IntKind) (v : Value) (hu : P.underlying ty = some (.int k)) (hc : w.cell? a = some v) :
    (execOp ρ o).run P w = .ok (.value v) w := by
  unfold execOp
  simp [ho, hx, Instr.loadAt, Instr.sureAddr, loadVar, isAgg, run_underlying hu, go_sem]
  simp [hc, Result.andThen]
/-- The greater one of two numbers. -/
theorem exec_max {o : Oper} {ρ : Operand → Value} {w : World} (x y : Operand) (ts : Array TypeId) (ho : o.op = .call { callee := .builtin .max, args := #[x, y], argTypes := ts }) (k : IntKind) (a b : Int) (hx : ρ x = .int k a) (hy : ρ y = .int k b) :
    (execOp ρ o).run P w = .ok (.value (.int k (max a b))) w := by
  unfold execOp
  simp [ho, hx, hy, resolve, invoke, builtin, Builtin.max_, Builtin.max2]
  rw [Int.max_def]
  split <;> split <;> omega
/-- One cell is loaded. -/
theorem exec_load_cell {o : Oper} {ρ : Operand → Value} {w : World} (ty : TypeId) (x : Operand) (ho : o.op = .load ty x) (a : Addr) (hx : ρ x = .pointer (some a)) (d : TypeDesc) (v : Value) (hu : P.underlying ty = some d)
    (hd : (match d with | .struct _ | .array _ _ => false | _ => true) = true) (hc : w.cell? a = some v) : (execOp ρ o).run P w = .ok (.value v) w := by
  unfold execOp
  cases d <;> simp at hd <;> (simp [ho, hx, Instr.loadAt, Instr.sureAddr, loadVar, isAgg, run_underlying hu, go_sem]; simp [hc, Result.andThen])
/-- Taken first without looking at the world. -/
theorem exec_skip_none {o : Oper} {ρ : Operand → Value} {w : World} (v : Value) (h : (execOp ρ o).run P w = .ok (.value v) w) : (execOp ρ o).run P w = .ok (.value v) w := h
end
end Go.Own
