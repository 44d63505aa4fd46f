import Derived.Test.YtpflmldmbpnllaaDoorParamsSetP1
import Derived.OrdersHeld
import Derived.Deep.RegionHeld
import Derived.Laws.Rows
import Derived.Laws.Tables
import Derived.Deep.RegionHeld3
import Derived.Laws.EntriesVeiled
import Derived.Maps.AppendAt
import Derived.OwnWalkIn
import Derived.Laws.BytesArg
import Derived.Laws.OwnMore
import Derived.Laws.CopyRow
import Derived.Laws.Slices
import Derived.Deep.MidRow
import Derived.StillTail
import Derived.Shelf.Abstract
import Derived.IntWalk
import Derived.LoopN
import Derived.Lib.SlBytesConst
import Derived.Laws.Concat
import Derived.Laws.Strings
import Derived.Defers
import Derived.RangeFuncNested
import Derived.RangeFuncBound
import Derived.RangeFuncCalls
import Derived.RangeFuncLeaves
import Derived.TacticsInMore
import Derived.LoopNIn
import Derived.LoopIn
import Derived.Lib.SliceRun
import Derived.Laws.MakeOwn
import Derived.Great.BuildSlice
import Derived.Sort.LoopGhostIn
import Derived.OneCell
import Derived.Laws.BitsAllLaws
import Derived.Shelf.Strings.Builder1
import Derived.Shelf.Small.Wraps
import Derived.Shelf.Strconv.Itoa0
import Derived.Shelf.Strconv.Itoa1
import Derived.Shelf.LaysM
import Derived.Shelf.Strconv.Itoa2
import Derived.Shelf.Strings.Search1
import Derived.Shelf.Strings.Search2
import Derived.Shelf.Strings.Search3
import Derived.Shelf.Strings.Shaped
import Derived.Shelf.Strings.Prefix
import Derived.Shelf.Unicode.Decode
import Derived.Shelf.Unicode.DecodeSlow
import Derived.Shelf.Unicode.DecodeAny
import Derived.Test.YtpflmldmbpnllaaDoorProg
import Derived.Lib.AppendStr
import Derived.Lib.Builder
import Derived.Lib.ItoaMem
import Derived.Laws.IdiomStrings
import Derived.Lib.AppendZerosOnto
import Derived.ChangeKeysEq
import Derived.Laws.StructEq
import Derived.Lib.LaidU8
import Derived.LaidMore
import Derived.ProofKit
import Derived.OpenShut
import Derived.ShutString
import Derived.Carry
import Derived.Deep.Slices
import Derived.Deep.Fields
import Derived.Laws.IdiomCopy
import Derived.Test.YtpflmldmbpnllaaDoorCards
import Derived.Test.YtpflmldmbpnllaaDoorTie
import Derived.Lay
import Derived.SevenTiedAt
import Derived.Stop.Joined
namespace Go.Own
open Go
/-- The operations of region 'id' in a body. -/
noncomputable def opsIn (id : Nat) : Code → Option (Array Oper)
  | .region k ops _ => if k = id then some ops else none
  | .seq a b => (opsIn id a).or (opsIn id b)
  | .cond _ a b => (opsIn id a).or (opsIn id b)
  | .block _ b => opsIn id b
  | .loop b => opsIn id b
  | .rangeFunc _ _ a b => (opsIn id a).or (opsIn id b)
  | _ => none
noncomputable def opsOf (f : Func) (id : Nat) : Array Oper := ((f.body.bind (opsIn id)).getD #[])
end Go.Own
namespace Go.Proofs.YtpflmldmbpnllaaDoor
open Go Go.Own
noncomputable def opsFields : Array Oper := opsOf Tryd.f37 1
end Go.Proofs.YtpflmldmbpnllaaDoor
namespace Go.Own
open Go Go.RowKit
/-- What an operation yields in whatever world, where no memory is looked at. -/
def pureV (P : Program) (ρ : Operand → Value) (o : Oper) : Option Value :=
  match o.op with
  | .move x => some (ρ x)
  | .assign x => some (ρ x)
  | .nilCheck x => match ρ x with | .pointer (some p) => some (.pointer (some p)) | _ => none
  | .fieldAddr s x f => match P.underlying s, ρ x with
    | some (.struct fields), .pointer (some a) => match fields[f]? with
      | some fd => match P.info? fd.type with
        | some i => if i.size = 0 then none else some (.pointer (some (a.add fd.offset)))
        | none => none
      | none => none
    | _, _ => none
  | _ => none
theorem pureV_run {P : Program} {ρ : Operand → Value} {o : Oper} {v : Value} (h : pureV P ρ o = some v) (w : World) : (execOp ρ o).run P w = .ok (.value v) w := by
  unfold pureV at h
  unfold execOp
  split at h
  · rename_i x ho; simp only [ho]; cases h; rfl
  · rename_i x ho; simp only [ho]; cases h; rfl
  · rename_i x ho
    simp only [ho]
    split at h
    · rename_i p hp; cases h; simp only [hp]; rfl
    · cases h
  · rename_i s x f ho
    simp only [ho]
    split at h
    · rename_i fields a hs hx
      split at h
      · rename_i fd hfd
        split at h
        · rename_i i hi
          split at h
          · cases h
          · rename_i hne
            cases h
            simp [Instr.fieldAt, hx, run_underlying hs, hfd, Instr.sureAddr, fieldPlace, sizeOf, typeInfo, hi, hne, go_sem]
        · cases h
      · cases h
    · cases h
  · cases h
/-- Which operations are taken so, and the state behind them. -/
def pureRun (P : Program) (md : Region.Mode) (ops : Array Oper) : List Nat → Array Bool → Act → Option (Array Bool × Act)
  | [], l, a => some (l, a)
  | i :: r, l, a => match ops[i]? with
    | none => none
    | some o => if o.guard = none ∧ Region.free md ops l i = true ∧ (Region.ready md ops l).contains i = true then
        match pureV P a.eval o with
        | some v => pureRun P md ops r (l.setIfInBounds i true) (a.put o.dst v)
        | none => none
      else none
theorem put_defers (a : Act) (d : Option Tmp) (v : Value) : (a.put d v).defers = a.defers := by cases d <;> rfl
section
variable {P : Program} {ops : Array Oper} {Q : Exit → Act → World → Prop} {md : Region.Mode}
theorem wpAny_pure (hs : Region.noSelect ops = true) (hQ : ∀ c (a a' : Act) w, a'.defers = a.defers → Q (.panic c) a' w → Q (.panic c) a w) :
    ∀ (is : List Nat) (l l' : Array Bool) (a a' : Act) (w : World) (fuel : Nat), pureRun P md ops is l a = some (l', a') → wpAny P md ops Q fuel l' a' w → wpAny P md ops Q (fuel + is.length) l a w := by
  intro is
  induction is with
  | nil => intro l l' a a' w fuel h hw; simp only [pureRun, Option.some.injEq, Prod.mk.injEq] at h; obtain ⟨rfl, rfl⟩ := h; exact hw
  | cons i r ih =>
    intro l l' a a' w fuel h hw
    rw [pureRun] at h
    split at h
    · cases h
    · rename_i o ho
      split at h
      · rename_i hc
        obtain ⟨hg, hf, hr⟩ := hc
        split at h
        · rename_i v hv
          have h2 := ih _ _ _ _ w fuel h hw
          refine wpAny_take (i := i) (oi := o) (v := v) (fuel := fuel + r.length) ho hs hf hr (fun c a w hp => hQ c a _ w (put_defers _ _ _) hp) (.inl ⟨by simp [Region.wanted, hg], fun w => pureV_run hv w⟩) h2
        · cases h
      · cases h
/-- A call that alone may come up. -/
theorem wpAny_call {i : Nat} {o : Oper} {f : FuncId} {aas : Array Operand} {ts : Array TypeId} {args : Array Value} {fuel : Nat} {l : Array Bool} {a : Act} {w : World} (hr : Region.ready md ops l = [i]) (ho : ops[i]? = some o) (hg : o.guard = none)
    (hc : o.op = .call { callee := .value (.func f), args := aas, argTypes := ts }) (hargs : aas.map a.eval = args) (he : ∀ args w, (callFunc f args).run P w = .ok (.enter f args) w)
    (h : Calls P f args w fun e w' => ∃ v, e = .returned v ∧ wpAny P md ops Q fuel (l.setIfInBounds i true) (a.put o.dst v) w') : wpAny P md ops Q (fuel + 1) l a w := by
  refine wpAny_all hr (by simp) fun j hj => ?_
  obtain rfl : j = i := by simpa using hj
  unfold wpOp
  simp only [ho, Region.wanted, hg, if_true]
  refine .inl ?_
  unfold Oper.wp execOp
  simp only [hc, resolve, hargs, Act.eval, Sem.run_bind, Deferred.ofValue, Sem.run_pure, Result.andThen_ok, invoke, Array.append_empty, Array.empty_append, he]
  refine Calls.mono h fun e w' ⟨v, he, hv⟩ => ?_
  subst he
  exact hv
def callArgs (o : Oper) : Array Operand := match o.op with | .call c => c.args | _ => #[]
def callTypes (o : Oper) : Array TypeId := match o.op with | .call c => c.argTypes | _ => #[]
/-- The same, all read off the region. -/
theorem wpAny_call' {i : Nat} (o : Oper) (f : FuncId) (args : Array Value) {fuel : Nat} {l : Array Bool} {a : Act} {w : World} (hr : Region.ready md ops l = [i]) (ho : ops[i]? = some o) (hg : o.guard.isNone = true)
    (hc : o.op = .call { callee := .value (.func f), args := callArgs o, argTypes := callTypes o }) (hargs : (callArgs o).map a.eval = args) (he : ∀ args w, (callFunc f args).run P w = .ok (.enter f args) w)
    (h : Calls P f args w fun e w' => ∃ v, e = .returned v ∧ wpAny P md ops Q fuel (l.setIfInBounds i true) (a.put o.dst v) w') : wpAny P md ops Q (fuel + 1) l a w :=
  wpAny_call hr ho (by simpa using hg) hc hargs he h
/-- An operation that alone may come up, whose run is known. -/
theorem wpAny_run {i : Nat} (o : Oper) (v : Value) {fuel : Nat} {l : Array Bool} {a : Act} {w w' : World} (hr : Region.ready md ops l = [i]) (ho : ops[i]? = some o) (hg : o.guard.isNone = true)
    (hrun : (execOp a.eval o).run P w = .ok (.value v) w') (h : wpAny P md ops Q fuel (l.setIfInBounds i true) (a.put o.dst v) w') : wpAny P md ops Q (fuel + 1) l a w := by
  refine wpAny_all hr (by simp) fun j hj => ?_
  obtain rfl : j = i := by simpa using hj
  unfold wpOp
  have hg' : o.guard = none := by simpa using hg
  simp only [ho, Region.wanted, hg', if_true]
  refine .inl ?_
  unfold Oper.wp
  rw [hrun]
  exact h
theorem wpAny_pure' (hs : Region.noSelect ops = true) (hQ : ∀ c (a a' : Act) w, a'.defers = a.defers → Q (.panic c) a' w → Q (.panic c) a w)
    (is : List Nat) (l l' : Array Bool) (a a' : Act) (w : World) (fuel n : Nat) (hn : fuel + is.length = n) (h : pureRun P md ops is l a = some (l', a')) (hw : wpAny P md ops Q fuel l' a' w) : wpAny P md ops Q n l a w := by
  subst hn; exact wpAny_pure hs hQ is l l' a a' w fuel h hw
theorem region_named {id : Nat} {R : Array Oper} {b : Bool} {a : Act} {w : World} (h : ops = R) (hw : (Code.region id R b).wp P Q a w) : (Code.region id ops b).wp P Q a w := h ▸ hw
theorem wp_region_fuel {id : Nat} {a : Act} {w : World} (n : Nat) (l : Array Bool) (hm : P.follows .mixedOrders = true) (hn : ops.size = n) (hl : Array.replicate n false = l) (h : wpAny P .any ops Q n l a w.drew) : (Code.region id ops true).wp P Q a w := by
  subst hn; subst hl; exact wp_region_any hm h
/-! The same moves where a condition S holds of every world of the region. -/
section
variable {S : World → Prop}
/-- Taken first: an operation whose run is known in every world that meets S. -/
theorem wpAnyH_val {i : Nat} (o : Oper) (v : Value) {fuel : Nat} {l : Array Bool} {a : Act} {w : World} (hs : Region.noSelect ops = true) (hQ : ∀ c (a a' : Act) w, a'.defers = a.defers → Q (.panic c) a' w → Q (.panic c) a w)
    (ho : ops[i]? = some o) (hg : Region.wanted o (yielded ops a.tmps) = true) (hf : Region.free md ops l i = true) (hr : (Region.ready md ops l).contains i = true) (hrun : ∀ W, S W → (execOp a.eval o).run P W = .ok (.value v) W) (hS : S w)
    (h : wpAnyH P md ops Q S fuel (l.setIfInBounds i true) (a.put o.dst v) w) : wpAnyH P md ops Q S (fuel + 1) l a w := by
  exact wpAnyH_take ho hs hf hr (fun c a w hp => hQ c a _ w (put_defers _ _ _) hp) (.inl ⟨hg, hrun⟩) hS h
/-- Taken first: an operation that its guard leaves out. -/
theorem wpAnyH_skip {i : Nat} (o : Oper) {fuel : Nat} {l : Array Bool} {a : Act} {w : World} (hs : Region.noSelect ops = true) (hQ : ∀ c (a a' : Act) w, a'.defers = a.defers → Q (.panic c) a' w → Q (.panic c) a w)
    (ho : ops[i]? = some o) (hg : Region.wanted o (yielded ops a.tmps) = false) (hf : Region.free md ops l i = true) (hr : (Region.ready md ops l).contains i = true) (hS : S w)
    (h : wpAnyH P md ops Q S fuel (l.setIfInBounds i true) (a.put o.dst undef) w) : wpAnyH P md ops Q S (fuel + 1) l a w :=
  wpAnyH_take ho hs hf hr (fun c a w hp => hQ c a _ w (put_defers _ _ _) hp) (.inr ⟨hg, rfl⟩) hS h
/-- A call of a function value that alone may come up. -/
theorem wpAnyH_callV {i : Nat} (o : Oper) (x : Operand) (f : FuncId) (caps args : Array Value) {fuel : Nat} {l : Array Bool} {a : Act} {w : World} (hr : Region.ready md ops l = [i]) (ho : ops[i]? = some o) (hg : Region.wanted o (yielded ops a.tmps) = true)
    (hc : o.op = .call { callee := .value x, args := callArgs o, argTypes := callTypes o }) (hx : a.eval x = .func (.func f) #[] caps) (hargs : (callArgs o).map a.eval ++ caps = args) (he : ∀ args w, (callFunc f args).run P w = .ok (.enter f args) w)
    (h : Calls P f args w fun e w' => ∃ v, e = .returned v ∧ S w' ∧ wpAnyH P md ops Q S fuel (l.setIfInBounds i true) (a.put o.dst v) w') : wpAnyH P md ops Q S (fuel + 1) l a w := by
  refine wpAnyH_all hr (by simp) fun j hj => ?_
  obtain rfl : j = i := by simpa using hj
  unfold wpOp
  simp only [ho, hg, if_true]
  refine .inl ?_
  unfold Oper.wp execOp
  simp only [hc, resolve, hx, Sem.run_bind, Deferred.ofValue, Sem.run_pure, Result.andThen_ok, invoke, Array.empty_append, hargs, he]
  refine Calls.mono h fun e w' ⟨v, he, hv⟩ => ?_
  subst he
  exact hv
/-- An operation that alone may come up, whose run is known. -/
theorem wpAnyH_run {i : Nat} (o : Oper) (v : Value) {fuel : Nat} {l : Array Bool} {a : Act} {w w' : World} (hr : Region.ready md ops l = [i]) (ho : ops[i]? = some o) (hg : Region.wanted o (yielded ops a.tmps) = true)
    (hrun : (execOp a.eval o).run P w = .ok (.value v) w' ∨ ((execOp a.eval o).run P w = .ok .skip w' ∧ v = undef)) (hS : S w') (h : wpAnyH P md ops Q S fuel (l.setIfInBounds i true) (a.put o.dst v) w') : wpAnyH P md ops Q S (fuel + 1) l a w := by
  refine wpAnyH_all hr (by simp) fun j hj => ?_
  obtain rfl : j = i := by simpa using hj
  unfold wpOp
  simp only [ho, hg, if_true]
  refine .inl ?_
  unfold Oper.wp
  rcases hrun with hrun | ⟨hrun, rfl⟩ <;> rw [hrun] <;> exact ⟨hS, h⟩
theorem wp_regionH_fuel {id : Nat} {a : Act} {w : World} (S : World → Prop) (n : Nat) (l : Array Bool) (hm : P.follows .mixedOrders = true) (hn : ops.size = n) (hl : Array.replicate n false = l) (h : wpAnyH P .any ops Q S n l a w.drew) : (Code.region id ops true).wp P Q a w := by
  subst hn; subst hl; exact wp_region_held hm h
end
/-- A whole struct is loaded. -/
theorem exec_load_row {o : Oper} {ρ : Operand → Value} {w : World} (ty : TypeId) (x : Operand) (ho : o.op = .load ty x) (g : Nat) (hx : ρ x = .pointer (some ⟨g, 0, none⟩)) (t : TypeId) (cs : Array Value) (fr : Nat × Nat) (d : TypeDesc) (hg : w.heap[g]? = some (.cells cs t fr))
    (hu : P.underlying ty = some d) (hd : (match d with | .struct _ | .array _ _ => true | _ => false) = true) (hi : (P.info? ty).map (·.size) = some cs.size) :
    (execOp ρ o).run P w = .ok (.value (.agg cs)) w := by
  unfold execOp
  simp only [ho, hx, Instr.loadAt, Instr.sureAddr, Sem.run_bind, Sem.run_pure, Result.andThen_ok, run_loadVar_row w g t ty cs fr d hg hu hd hi]
/-- A whole struct is stored. -/
theorem exec_store_row {o : Oper} {ρ : Operand → Value} {w : World} (ty : TypeId) (x y : Operand) (ho : o.op = .store ty x y) (g : Nat) (cells : Array Value) (hx : ρ x = .pointer (some ⟨g, 0, none⟩)) (hy : ρ y = .agg cells)
    (t : TypeId) (old : Array Value) (hg : w.heap[g]? = some (.cells old t (0, 0))) (hi : (P.info? ty).map (·.size) = some cells.size) (hold : old.size = cells.size) (h1 : cells.all (·.oneCell') = true) :
    (execOp ρ o).run P w = .ok .skip (w.setRow g cells) := by
  unfold execOp
  simp only [ho, hx, hy, Instr.storeAt, Instr.sureAddr, Sem.run_bind, Sem.run_pure, Result.andThen_ok, run_storeVar_row w g t ty old cells hg hi hold h1]
/-- One cell is loaded. -/
theorem exec_load_cell {o : Oper} {ρ : Operand → Value} {w : World} (ty : TypeId) (x : Operand) (ho : o.op = .load ty x) (a : Addr) (hx : ρ x = .pointer (some a)) (d : TypeDesc) (v : Value) (hu : P.underlying ty = some d)
    (hd : (match d with | .struct _ | .array _ _ => false | _ => true) = true) (hc : w.cell? a = some v) : (execOp ρ o).run P w = .ok (.value v) w := by
  unfold execOp
  cases d <;> simp at hd <;> (simp [ho, hx, Instr.loadAt, Instr.sureAddr, loadVar, isAgg, run_underlying hu, go_sem]; simp [hc, Result.andThen])
end
end Go.Own
namespace Go.Proofs.YtpflmldmbpnllaaDoor
open Go Go.RowKit Go.Own Go.Shelf
/-- The names, bounds and functions of the fields. -/
def parName : List ByteArray := [⟨#[117, 110, 98, 111, 110, 100, 105, 110, 103]⟩, ⟨#[109, 97, 120, 97, 103, 101]⟩, ⟨#[101, 112, 111, 99, 104, 108, 101, 110]⟩, ⟨#[119, 105, 110, 100, 111, 119]⟩, ⟨#[101, 110, 116, 114, 105, 101, 115]⟩, ⟨#[109, 97, 120, 97, 99, 116, 105, 118, 101]⟩, ⟨#[106, 97, 105, 108, 116, 105, 109, 101]⟩, ⟨#[98, 97, 115, 101]⟩, ⟨#[109, 117, 108, 116]⟩, ⟨#[99, 111, 114, 114, 119, 105, 110, 100, 111, 119]⟩, ⟨#[114, 101, 119, 97, 114, 100]⟩]
def parLoU : List Int := [1, 0, 1, 1, 1, 1, 1, 0, 0, 1, 0]
def parHiU : List Int := [1048576, 1048576, 1000, 256, 16, 32, 1048576, 1000000000, 1000, 1048576, 1000000000]
def parGet : List Nat := [82, 82, 82, 82, 82, 82, 82, 84, 84, 82, 84]
def parSet : List Nat := [83, 83, 83, 83, 83, 83, 83, 85, 85, 83, 85]
def parField (i k : Nat) : Value := fieldV (.string (parName[i]?.getD ⟨#[]⟩)) (parLoU[i]?.getD 0) (parHiU[i]?.getD 0) (parGet[i]?.getD 0) (parSet[i]?.getD 0) k
/-- The fields of the record at block b lie at block g; field i's box is block ks i. -/
structure FieldsAt (w : World) (g b : Nat) (ks : Nat → Nat) : Prop where
  cell : ∀ i j : Nat, i < 11 → j < 5 → w.cell? ⟨g, i * 5 + j, none⟩ = (parField i (ks i)).cells[j]?
  box : ∀ i : Nat, i < 11 → w.cell? ⟨ks i, 0, none⟩ = some (.pointer (some ⟨b, i, none⟩))
/-- All cells of the fields. -/
def fieldCells (zs : List Nat) : Array Value := ((List.range 11).map fun i => (parField i (zs[i]?.getD 0)).cells.toList).flatten.toArray
theorem fieldCells_get (z0 z1 z2 z3 z4 z5 z6 z7 z8 z9 z10 : Nat) (i j : Nat) (hi : i < 11) (hj : j < 5) :
    (fieldCells [z0, z1, z2, z3, z4, z5, z6, z7, z8, z9, z10])[i * 5 + j]? = (parField i ([z0, z1, z2, z3, z4, z5, z6, z7, z8, z9, z10][i]?.getD 0)).cells[j]? := by
  have h : j = 0 ∨ j = 1 ∨ j = 2 ∨ j = 3 ∨ j = 4 := by omega
  have h' : i = 0 ∨ i = 1 ∨ i = 2 ∨ i = 3 ∨ i = 4 ∨ i = 5 ∨ i = 6 ∨ i = 7 ∨ i = 8 ∨ i = 9 ∨ i = 10 := by omega
  rcases h' with rfl | rfl | rfl | rfl | rfl | rfl | rfl | rfl | rfl | rfl | rfl <;> rcases h with rfl | rfl | rfl | rfl | rfl <;> rfl
theorem fields_sel : Region.noSelect opsFields = true := by kernel_rfl
theorem fields_size : opsFields.size = 46 := by kernel_rfl
theorem fields_pure (b : Nat) : pureRun Tryd.prog .any opsFields [0, 1, 2, 4, 5, 6, 8, 9, 10, 12, 13, 14, 16, 17, 18, 20, 21, 22, 24, 25, 26, 28, 29, 30, 32, 33, 34, 36, 37, 38, 40, 41, 42] (Array.replicate 46 false) ⟨#[.pointer (some ⟨b, 0, none⟩), undef, .slice none 0 0, undef, undef, undef, undef, undef, undef, undef, undef, undef, undef, undef, undef, undef, undef, undef, undef, undef, undef, undef, undef, undef, undef, undef, undef, undef, undef, undef, undef, undef, undef, undef, undef, undef, undef, undef, undef, undef, undef, undef, undef, undef, undef, undef, undef, undef], []⟩ = some (#[true, true, true, false, true, true, true, false, true, true, true, false, true, true, true, false, true, true, true, false, true, true, true, false, true, true, true, false, true, true, true, false, true, true, true, false, true, true, true, false, true, true, true, false, false, false], ⟨#[.pointer (some ⟨b, 0, none⟩), undef, .slice none 0 0, .pointer (some ⟨b, 0, none⟩), .pointer (some ⟨b, 0, none⟩), .pointer (some ⟨b, 0, none⟩), undef, .pointer (some ⟨b, 0, none⟩), .pointer (some ⟨b, 0, none⟩), .pointer (some ⟨b, 1, none⟩), undef, .pointer (some ⟨b, 0, none⟩), .pointer (some ⟨b, 0, none⟩), .pointer (some ⟨b, 2, none⟩), undef, .pointer (some ⟨b, 0, none⟩), .pointer (some ⟨b, 0, none⟩), .pointer (some ⟨b, 3, none⟩), undef, .pointer (some ⟨b, 0, none⟩), .pointer (some ⟨b, 0, none⟩), .pointer (some ⟨b, 4, none⟩), undef, .pointer (some ⟨b, 0, none⟩), .pointer (some ⟨b, 0, none⟩), .pointer (some ⟨b, 5, none⟩), undef, .pointer (some ⟨b, 0, none⟩), .pointer (some ⟨b, 0, none⟩), .pointer (some ⟨b, 6, none⟩), undef, .pointer (some ⟨b, 0, none⟩), .pointer (some ⟨b, 0, none⟩), .pointer (some ⟨b, 7, none⟩), undef, .pointer (some ⟨b, 0, none⟩), .pointer (some ⟨b, 0, none⟩), .pointer (some ⟨b, 8, none⟩), undef, .pointer (some ⟨b, 0, none⟩), .pointer (some ⟨b, 0, none⟩), .pointer (some ⟨b, 9, none⟩), undef, .pointer (some ⟨b, 0, none⟩), .pointer (some ⟨b, 0, none⟩), .pointer (some ⟨b, 10, none⟩), undef, undef], []⟩) := by kernel_rfl
theorem fields_fn0 : (opsFields.getD 3 default).op = .call { callee := .value (.func 65), args := callArgs (opsFields.getD 3 default), argTypes := callTypes (opsFields.getD 3 default) } := by kernel_rfl
theorem fields_fn1 : (opsFields.getD 7 default).op = .call { callee := .value (.func 65), args := callArgs (opsFields.getD 7 default), argTypes := callTypes (opsFields.getD 7 default) } := by kernel_rfl
theorem fields_fn2 : (opsFields.getD 11 default).op = .call { callee := .value (.func 65), args := callArgs (opsFields.getD 11 default), argTypes := callTypes (opsFields.getD 11 default) } := by kernel_rfl
theorem fields_fn3 : (opsFields.getD 15 default).op = .call { callee := .value (.func 65), args := callArgs (opsFields.getD 15 default), argTypes := callTypes (opsFields.getD 15 default) } := by kernel_rfl
theorem fields_fn4 : (opsFields.getD 19 default).op = .call { callee := .value (.func 65), args := callArgs (opsFields.getD 19 default), argTypes := callTypes (opsFields.getD 19 default) } := by kernel_rfl
theorem fields_fn5 : (opsFields.getD 23 default).op = .call { callee := .value (.func 65), args := callArgs (opsFields.getD 23 default), argTypes := callTypes (opsFields.getD 23 default) } := by kernel_rfl
theorem fields_fn6 : (opsFields.getD 27 default).op = .call { callee := .value (.func 65), args := callArgs (opsFields.getD 27 default), argTypes := callTypes (opsFields.getD 27 default) } := by kernel_rfl
theorem fields_fn7 : (opsFields.getD 31 default).op = .call { callee := .value (.func 66), args := callArgs (opsFields.getD 31 default), argTypes := callTypes (opsFields.getD 31 default) } := by kernel_rfl
theorem fields_fn8 : (opsFields.getD 35 default).op = .call { callee := .value (.func 66), args := callArgs (opsFields.getD 35 default), argTypes := callTypes (opsFields.getD 35 default) } := by kernel_rfl
theorem fields_fn9 : (opsFields.getD 39 default).op = .call { callee := .value (.func 65), args := callArgs (opsFields.getD 39 default), argTypes := callTypes (opsFields.getD 39 default) } := by kernel_rfl
theorem fields_fn10 : (opsFields.getD 43 default).op = .call { callee := .value (.func 66), args := callArgs (opsFields.getD 43 default), argTypes := callTypes (opsFields.getD 43 default) } := by kernel_rfl
theorem state_eq {Q : Exit → Act → World → Prop} {e : Exit} {a b : Act} {w : World} (h : a = b) (hq : Q e b w) : Q e a w := h ▸ hq
theorem ent_of : ∀ args w, (callFunc 65 args).run Tryd.prog w = .ok (.enter 65 args) w := enters_of Tryd.func65 (by kernel_rfl) rfl
theorem ent_word : ∀ args w, (callFunc 66 args).run Tryd.prog w = .ok (.enter 66 args) w := enters_of Tryd.func66 (by kernel_rfl) rfl
set_option maxRecDepth 100000 in
set_option maxHeartbeats 8000000 in
theorem fields_new (b : Nat) (w : World) :
    Calls Tryd.prog 37 #[.pointer (some ⟨b, 0, none⟩)] w fun e w' => ∃ g ks, e = .returned (.slice (some ⟨g, 0, none⟩) 11 11) ∧ FieldsAt w' g b ks ∧ g < w'.heap.size ∧ Keeps Nob w w' ∧ w.heap.size ≤ g ∧ ∀ i, i < 11 → w.heap.size ≤ ks i := by
  go_enter Tryd.func37, Tryd.ntmps37
  go_wp2_with fail
  refine wp_region_noPanic ?_
  refine region_named (R := opsFields) (by kernel_rfl) ?_
  refine wp_region_fuel 46 (Array.replicate 46 false) (by kernel_rfl) fields_size rfl ?_
  refine wpAny_pure' fields_sel (fun _ _ _ _ _ h => h) [0, 1, 2, 4, 5, 6, 8, 9, 10, 12, 13, 14, 16, 17, 18, 20, 21, 22, 24, 25, 26, 28, 29, 30, 32, 33, 34, 36, 37, 38, 40, 41, 42] _ _ _ _ _ 13 46 rfl (fields_pure b) ?_
  refine wpAny_call' (i := 3) (opsFields.getD 3 default) 65 #[.string ⟨#[117, 110, 98, 111, 110, 100, 105, 110, 103]⟩, .int .u64 1, .int .u64 1048576, .pointer (some ⟨b, 0, none⟩)] (by kernel_rfl) (by kernel_rfl) (by kernel_rfl) fields_fn0 (by kernel_rfl) ent_of ((of_ok ⟨#[117, 110, 98, 111, 110, 100, 105, 110, 103]⟩ 1 1048576 ⟨b, 0, none⟩ _).mono ?_)
  rintro e W0 ⟨rfl, c0, s0, k0⟩
  refine ⟨_, rfl, ?_⟩
  obtain ⟨z0, hz0⟩ : ∃ z, z = w.drew.heap.size := ⟨_, rfl⟩
  rw [← hz0] at c0 s0 ⊢
  refine wpAny_call' (i := 7) (opsFields.getD 7 default) 65 #[.string ⟨#[109, 97, 120, 97, 103, 101]⟩, .int .u64 0, .int .u64 1048576, .pointer (some ⟨b, 1, none⟩)] (by kernel_rfl) (by kernel_rfl) (by kernel_rfl) fields_fn1 (by kernel_rfl) ent_of ((of_ok ⟨#[109, 97, 120, 97, 103, 101]⟩ 0 1048576 ⟨b, 1, none⟩ _).mono ?_)
  rintro e W1 ⟨rfl, c1, s1, k1⟩
  refine ⟨_, rfl, ?_⟩
  obtain ⟨z1, hz1⟩ : ∃ z, z = W0.heap.size := ⟨_, rfl⟩
  rw [← hz1] at c1 s1 ⊢
  refine wpAny_call' (i := 11) (opsFields.getD 11 default) 65 #[.string ⟨#[101, 112, 111, 99, 104, 108, 101, 110]⟩, .int .u64 1, .int .u64 1000, .pointer (some ⟨b, 2, none⟩)] (by kernel_rfl) (by kernel_rfl) (by kernel_rfl) fields_fn2 (by kernel_rfl) ent_of ((of_ok ⟨#[101, 112, 111, 99, 104, 108, 101, 110]⟩ 1 1000 ⟨b, 2, none⟩ _).mono ?_)
  rintro e W2 ⟨rfl, c2, s2, k2⟩
  refine ⟨_, rfl, ?_⟩
  obtain ⟨z2, hz2⟩ : ∃ z, z = W1.heap.size := ⟨_, rfl⟩
  rw [← hz2] at c2 s2 ⊢
  refine wpAny_call' (i := 15) (opsFields.getD 15 default) 65 #[.string ⟨#[119, 105, 110, 100, 111, 119]⟩, .int .u64 1, .int .u64 256, .pointer (some ⟨b, 3, none⟩)] (by kernel_rfl) (by kernel_rfl) (by kernel_rfl) fields_fn3 (by kernel_rfl) ent_of ((of_ok ⟨#[119, 105, 110, 100, 111, 119]⟩ 1 256 ⟨b, 3, none⟩ _).mono ?_)
  rintro e W3 ⟨rfl, c3, s3, k3⟩
  refine ⟨_, rfl, ?_⟩
  obtain ⟨z3, hz3⟩ : ∃ z, z = W2.heap.size := ⟨_, rfl⟩
  rw [← hz3] at c3 s3 ⊢
  refine wpAny_call' (i := 19) (opsFields.getD 19 default) 65 #[.string ⟨#[101, 110, 116, 114, 105, 101, 115]⟩, .int .u64 1, .int .u64 16, .pointer (some ⟨b, 4, none⟩)] (by kernel_rfl) (by kernel_rfl) (by kernel_rfl) fields_fn4 (by kernel_rfl) ent_of ((of_ok ⟨#[101, 110, 116, 114, 105, 101, 115]⟩ 1 16 ⟨b, 4, none⟩ _).mono ?_)
  rintro e W4 ⟨rfl, c4, s4, k4⟩
  refine ⟨_, rfl, ?_⟩
  obtain ⟨z4, hz4⟩ : ∃ z, z = W3.heap.size := ⟨_, rfl⟩
  rw [← hz4] at c4 s4 ⊢
  refine wpAny_call' (i := 23) (opsFields.getD 23 default) 65 #[.string ⟨#[109, 97, 120, 97, 99, 116, 105, 118, 101]⟩, .int .u64 1, .int .u64 32, .pointer (some ⟨b, 5, none⟩)] (by kernel_rfl) (by kernel_rfl) (by kernel_rfl) fields_fn5 (by kernel_rfl) ent_of ((of_ok ⟨#[109, 97, 120, 97, 99, 116, 105, 118, 101]⟩ 1 32 ⟨b, 5, none⟩ _).mono ?_)
  rintro e W5 ⟨rfl, c5, s5, k5⟩
  refine ⟨_, rfl, ?_⟩
  obtain ⟨z5, hz5⟩ : ∃ z, z = W4.heap.size := ⟨_, rfl⟩
  rw [← hz5] at c5 s5 ⊢
  refine wpAny_call' (i := 27) (opsFields.getD 27 default) 65 #[.string ⟨#[106, 97, 105, 108, 116, 105, 109, 101]⟩, .int .u64 1, .int .u64 1048576, .pointer (some ⟨b, 6, none⟩)] (by kernel_rfl) (by kernel_rfl) (by kernel_rfl) fields_fn6 (by kernel_rfl) ent_of ((of_ok ⟨#[106, 97, 105, 108, 116, 105, 109, 101]⟩ 1 1048576 ⟨b, 6, none⟩ _).mono ?_)
  rintro e W6 ⟨rfl, c6, s6, k6⟩
  refine ⟨_, rfl, ?_⟩
  obtain ⟨z6, hz6⟩ : ∃ z, z = W5.heap.size := ⟨_, rfl⟩
  rw [← hz6] at c6 s6 ⊢
  refine wpAny_call' (i := 31) (opsFields.getD 31 default) 66 #[.string ⟨#[98, 97, 115, 101]⟩, .int .u64 1000000000, .pointer (some ⟨b, 7, none⟩)] (by kernel_rfl) (by kernel_rfl) (by kernel_rfl) fields_fn7 (by kernel_rfl) ent_word ((word_ok ⟨#[98, 97, 115, 101]⟩ 1000000000 ⟨b, 7, none⟩ _).mono ?_)
  rintro e W7 ⟨rfl, c7, s7, k7⟩
  refine ⟨_, rfl, ?_⟩
  obtain ⟨z7, hz7⟩ : ∃ z, z = W6.heap.size := ⟨_, rfl⟩
  rw [← hz7] at c7 s7 ⊢
  refine wpAny_call' (i := 35) (opsFields.getD 35 default) 66 #[.string ⟨#[109, 117, 108, 116]⟩, .int .u64 1000, .pointer (some ⟨b, 8, none⟩)] (by kernel_rfl) (by kernel_rfl) (by kernel_rfl) fields_fn8 (by kernel_rfl) ent_word ((word_ok ⟨#[109, 117, 108, 116]⟩ 1000 ⟨b, 8, none⟩ _).mono ?_)
  rintro e W8 ⟨rfl, c8, s8, k8⟩
  refine ⟨_, rfl, ?_⟩
  obtain ⟨z8, hz8⟩ : ∃ z, z = W7.heap.size := ⟨_, rfl⟩
  rw [← hz8] at c8 s8 ⊢
  refine wpAny_call' (i := 39) (opsFields.getD 39 default) 65 #[.string ⟨#[99, 111, 114, 114, 119, 105, 110, 100, 111, 119]⟩, .int .u64 1, .int .u64 1048576, .pointer (some ⟨b, 9, none⟩)] (by kernel_rfl) (by kernel_rfl) (by kernel_rfl) fields_fn9 (by kernel_rfl) ent_of ((of_ok ⟨#[99, 111, 114, 114, 119, 105, 110, 100, 111, 119]⟩ 1 1048576 ⟨b, 9, none⟩ _).mono ?_)
  rintro e W9 ⟨rfl, c9, s9, k9⟩
  refine ⟨_, rfl, ?_⟩
  obtain ⟨z9, hz9⟩ : ∃ z, z = W8.heap.size := ⟨_, rfl⟩
  rw [← hz9] at c9 s9 ⊢
  refine wpAny_call' (i := 43) (opsFields.getD 43 default) 66 #[.string ⟨#[114, 101, 119, 97, 114, 100]⟩, .int .u64 1000000000, .pointer (some ⟨b, 10, none⟩)] (by kernel_rfl) (by kernel_rfl) (by kernel_rfl) fields_fn10 (by kernel_rfl) ent_word ((word_ok ⟨#[114, 101, 119, 97, 114, 100]⟩ 1000000000 ⟨b, 10, none⟩ _).mono ?_)
  rintro e W10 ⟨rfl, c10, s10, k10⟩
  refine ⟨_, rfl, ?_⟩
  obtain ⟨z10, hz10⟩ : ∃ z, z = W9.heap.size := ⟨_, rfl⟩
  rw [← hz10] at c10 s10 ⊢
  refine wpAny_run (i := 44) (opsFields.getD 44 default) (.slice (some ⟨W10.heap.size, 0, none⟩) 11 11) (w' := W10.alloc (.cells (fieldCells [z0, z1, z2, z3, z4, z5, z6, z7, z8, z9, z10]) 67)) (by kernel_rfl) (by kernel_rfl) (by kernel_rfl) (by kernel_rfl) ?_
  refine wpAny_run (i := 45) (opsFields.getD 45 default) (.slice (some ⟨W10.heap.size, 0, none⟩) 11 11) (w' := W10.alloc (.cells (fieldCells [z0, z1, z2, z3, z4, z5, z6, z7, z8, z9, z10]) 67)) (by kernel_rfl) (by kernel_rfl) (by kernel_rfl) (by kernel_rfl) ?_
  refine wpAny_done (by kernel_rfl) ?_ _
  generalize hR : W10.alloc (.cells (fieldCells [z0, z1, z2, z3, z4, z5, z6, z7, z8, z9, z10]) 67) = V at *
  refine NoPanic.normal ?_
  refine state_eq (b := ⟨#[.pointer (some ⟨b, 0, none⟩), undef, (.slice (some ⟨W10.heap.size, 0, none⟩) 11 11), .pointer (some ⟨b, 0, none⟩), .pointer (some ⟨b, 0, none⟩), .pointer (some ⟨b, 0, none⟩), fieldV (.string ⟨#[117, 110, 98, 111, 110, 100, 105, 110, 103]⟩) 1 1048576 82 83 z0, .pointer (some ⟨b, 0, none⟩), .pointer (some ⟨b, 0, none⟩), .pointer (some ⟨b, 1, none⟩), fieldV (.string ⟨#[109, 97, 120, 97, 103, 101]⟩) 0 1048576 82 83 z1, .pointer (some ⟨b, 0, none⟩), .pointer (some ⟨b, 0, none⟩), .pointer (some ⟨b, 2, none⟩), fieldV (.string ⟨#[101, 112, 111, 99, 104, 108, 101, 110]⟩) 1 1000 82 83 z2, .pointer (some ⟨b, 0, none⟩), .pointer (some ⟨b, 0, none⟩), .pointer (some ⟨b, 3, none⟩), fieldV (.string ⟨#[119, 105, 110, 100, 111, 119]⟩) 1 256 82 83 z3, .pointer (some ⟨b, 0, none⟩), .pointer (some ⟨b, 0, none⟩), .pointer (some ⟨b, 4, none⟩), fieldV (.string ⟨#[101, 110, 116, 114, 105, 101, 115]⟩) 1 16 82 83 z4, .pointer (some ⟨b, 0, none⟩), .pointer (some ⟨b, 0, none⟩), .pointer (some ⟨b, 5, none⟩), fieldV (.string ⟨#[109, 97, 120, 97, 99, 116, 105, 118, 101]⟩) 1 32 82 83 z5, .pointer (some ⟨b, 0, none⟩), .pointer (some ⟨b, 0, none⟩), .pointer (some ⟨b, 6, none⟩), fieldV (.string ⟨#[106, 97, 105, 108, 116, 105, 109, 101]⟩) 1 1048576 82 83 z6, .pointer (some ⟨b, 0, none⟩), .pointer (some ⟨b, 0, none⟩), .pointer (some ⟨b, 7, none⟩), fieldV (.string ⟨#[98, 97, 115, 101]⟩) 0 1000000000 84 85 z7, .pointer (some ⟨b, 0, none⟩), .pointer (some ⟨b, 0, none⟩), .pointer (some ⟨b, 8, none⟩), fieldV (.string ⟨#[109, 117, 108, 116]⟩) 0 1000 84 85 z8, .pointer (some ⟨b, 0, none⟩), .pointer (some ⟨b, 0, none⟩), .pointer (some ⟨b, 9, none⟩), fieldV (.string ⟨#[99, 111, 114, 114, 119, 105, 110, 100, 111, 119]⟩) 1 1048576 82 83 z9, .pointer (some ⟨b, 0, none⟩), .pointer (some ⟨b, 0, none⟩), .pointer (some ⟨b, 10, none⟩), fieldV (.string ⟨#[114, 101, 119, 97, 114, 100]⟩) 0 1000000000 84 85 z10, (.slice (some ⟨W10.heap.size, 0, none⟩) 11 11)], []⟩) (by kernel_rfl) ?_
  have hk : Keeps Nob W10 V := by rw [← hR]; exact (Keeps.refl _ _).alloc _
  have hcl : ∀ j, V.cell? ⟨W10.heap.size, j, none⟩ = (fieldCells [z0, z1, z2, z3, z4, z5, z6, z7, z8, z9, z10])[j]? := fun j => by rw [← hR]; exact World.cell?_alloc_at _ _ _ _ rfl
  have hsz : W10.heap.size < V.heap.size := by rw [← hR]; simp
  have q10 : Keeps Nob W10 V := hk
  have q9 : Keeps Nob W9 V := k10.trans q10
  have q8 : Keeps Nob W8 V := k9.trans q9
  have q7 : Keeps Nob W7 V := k8.trans q8
  have q6 : Keeps Nob W6 V := k7.trans q7
  have q5 : Keeps Nob W5 V := k6.trans q6
  have q4 : Keeps Nob W4 V := k5.trans q5
  have q3 : Keeps Nob W3 V := k4.trans q4
  have q2 : Keeps Nob W2 V := k3.trans q3
  have q1 : Keeps Nob W1 V := k2.trans q2
  have q0 : Keeps Nob W0 V := k1.trans q1
  have hall : Keeps Nob w V := ((Keeps.refl Nob w).drew.trans k0).trans q0
  have d0 := (q0.cell (i := 0) s0 (fun x => x)).trans c0
  have d1 := (q1.cell (i := 0) s1 (fun x => x)).trans c1
  have d2 := (q2.cell (i := 0) s2 (fun x => x)).trans c2
  have d3 := (q3.cell (i := 0) s3 (fun x => x)).trans c3
  have d4 := (q4.cell (i := 0) s4 (fun x => x)).trans c4
  have d5 := (q5.cell (i := 0) s5 (fun x => x)).trans c5
  have d6 := (q6.cell (i := 0) s6 (fun x => x)).trans c6
  have d7 := (q7.cell (i := 0) s7 (fun x => x)).trans c7
  have d8 := (q8.cell (i := 0) s8 (fun x => x)).trans c8
  have d9 := (q9.cell (i := 0) s9 (fun x => x)).trans c9
  have d10 := (q10.cell (i := 0) s10 (fun x => x)).trans c10
  have HF : Hid (FieldsAt V W10.heap.size b (fun i => [z0, z1, z2, z3, z4, z5, z6, z7, z8, z9, z10][i]?.getD 0)) := Lib.hid ⟨fun i j hi hj => (hcl _).trans (fieldCells_get _ _ _ _ _ _ _ _ _ _ _ i j hi hj), fun i hi => by
    have h' : i = 0 ∨ i = 1 ∨ i = 2 ∨ i = 3 ∨ i = 4 ∨ i = 5 ∨ i = 6 ∨ i = 7 ∨ i = 8 ∨ i = 9 ∨ i = 10 := by omega
    rcases h' with rfl | rfl | rfl | rfl | rfl | rfl | rfl | rfl | rfl | rfl | rfl <;> assumption⟩
  have l0 : w.heap.size ≤ z0 := by rw [hz0]; exact Nat.le_refl _
  have y0 : w.heap.size ≤ W0.heap.size := k0.size
  have l1 : w.heap.size ≤ z1 := by rw [hz1]; exact y0
  have y1 : w.heap.size ≤ W1.heap.size := Nat.le_trans y0 k1.size
  have l2 : w.heap.size ≤ z2 := by rw [hz2]; exact y1
  have y2 : w.heap.size ≤ W2.heap.size := Nat.le_trans y1 k2.size
  have l3 : w.heap.size ≤ z3 := by rw [hz3]; exact y2
  have y3 : w.heap.size ≤ W3.heap.size := Nat.le_trans y2 k3.size
  have l4 : w.heap.size ≤ z4 := by rw [hz4]; exact y3
  have y4 : w.heap.size ≤ W4.heap.size := Nat.le_trans y3 k4.size
  have l5 : w.heap.size ≤ z5 := by rw [hz5]; exact y4
  have y5 : w.heap.size ≤ W5.heap.size := Nat.le_trans y4 k5.size
  have l6 : w.heap.size ≤ z6 := by rw [hz6]; exact y5
  have y6 : w.heap.size ≤ W6.heap.size := Nat.le_trans y5 k6.size
  have l7 : w.heap.size ≤ z7 := by rw [hz7]; exact y6
  have y7 : w.heap.size ≤ W7.heap.size := Nat.le_trans y6 k7.size
  have l8 : w.heap.size ≤ z8 := by rw [hz8]; exact y7
  have y8 : w.heap.size ≤ W8.heap.size := Nat.le_trans y7 k8.size
  have l9 : w.heap.size ≤ z9 := by rw [hz9]; exact y8
  have y9 : w.heap.size ≤ W9.heap.size := Nat.le_trans y8 k9.size
  have l10 : w.heap.size ≤ z10 := by rw [hz10]; exact y9
  have y10 : w.heap.size ≤ W10.heap.size := Nat.le_trans y9 k10.size
  have HN : Hid (w.heap.size ≤ W10.heap.size ∧ ∀ i, i < 11 → w.heap.size ≤ [z0, z1, z2, z3, z4, z5, z6, z7, z8, z9, z10][i]?.getD 0) := Lib.hid ⟨y10, fun i hi => by
    have h' : i = 0 ∨ i = 1 ∨ i = 2 ∨ i = 3 ∨ i = 4 ∨ i = 5 ∨ i = 6 ∨ i = 7 ∨ i = 8 ∨ i = 9 ∨ i = 10 := by omega
    rcases h' with rfl | rfl | rfl | rfl | rfl | rfl | rfl | rfl | rfl | rfl | rfl <;> assumption⟩
  clear l0 y0 l1 y1 l2 y2 l3 y3 l4 y4 l5 y5 l6 y6 l7 y7 l8 y8 l9 y9 l10 y10
  clear hcl c0 s0 k0 d0 q0 hz0 c1 s1 k1 d1 q1 hz1 c2 s2 k2 d2 q2 hz2 c3 s3 k3 d3 q3 hz3 c4 s4 k4 d4 q4 hz4 c5 s5 k5 d5 q5 hz5 c6 s6 k6 d6 q6 hz6 c7 s7 k7 d7 q7 hz7 c8 s8 k8 d8 q8 hz8 c9 s9 k9 d9 q9 hz9 c10 s10 k10 d10 q10 hz10 hR
  go_wp2
  go_ret
  exact ⟨_, _, rfl, HF.out, hsz, hall, HN.out.1, HN.out.2⟩
theorem fields_ok (b : Nat) (w : World) :
    Calls Tryd.prog 37 #[.pointer (some ⟨b, 0, none⟩)] w fun e w' => ∃ g ks, e = .returned (.slice (some ⟨g, 0, none⟩) 11 11) ∧ FieldsAt w' g b ks ∧ g < w'.heap.size ∧ Keeps Nob w w' :=
  (fields_new b w).mono fun _ _ ⟨g, ks, h1, h2, h3, h4, _⟩ => ⟨g, ks, h1, h2, h3, h4⟩
end Go.Proofs.YtpflmldmbpnllaaDoor
namespace Go.Proofs.YtpflmldmbpnllaaDoor
set_option maxRecDepth 100000
open Go Go.RowKit Go.Own Go.Shelf
/-- A field's reader tells its number. -/
theorem get_ok (p : Par) (hp : p.Ok) (i b k : Nat) (hi : i < 11) (V : World) (hbox : V.cell? ⟨k, 0, none⟩ = some (.pointer (some ⟨b, i, none⟩))) (hc : ∀ x, p.cells[i]? = some x → V.cell? ⟨b, i, none⟩ = some x) :
    Calls Tryd.prog (parGet[i]?.getD 0) #[.pointer (some ⟨k, 0, none⟩)] V fun e w' => e = .returned (.tuple #[.int .u64 (max (p.l[i]?.getD 0) 0), .bool (decide (0 ≤ p.l[i]?.getD 0))]) ∧ Keeps Nob V w' := by
  have h' : i = 0 ∨ i = 1 ∨ i = 2 ∨ i = 3 ∨ i = 4 ∨ i = 5 ∨ i = 6 ∨ i = 7 ∨ i = 8 ∨ i = 9 ∨ i = 10 := by omega
  rcases h' with rfl | rfl | rfl | rfl | rfl | rfl | rfl | rfl | rfl | rfl | rfl
  · exact of1_ok k ⟨b, 0, none⟩ p.unb V hbox (hc _ rfl) hp.unb.1 hp.unb.2
  · exact of1_ok k ⟨b, 1, none⟩ p.mage V hbox (hc _ rfl) hp.mage.1 hp.mage.2
  · exact of1_ok k ⟨b, 2, none⟩ p.elen V hbox (hc _ rfl) hp.elen.1 hp.elen.2
  · exact of1_ok k ⟨b, 3, none⟩ p.win V hbox (hc _ rfl) hp.win.1 hp.win.2
  · exact of1_ok k ⟨b, 4, none⟩ p.ent V hbox (hc _ rfl) hp.ent.1 hp.ent.2
  · exact of1_ok k ⟨b, 5, none⟩ p.act V hbox (hc _ rfl) hp.act.1 hp.act.2
  · exact of1_ok k ⟨b, 6, none⟩ p.jail V hbox (hc _ rfl) hp.jail.1 hp.jail.2
  · have h0 := hp.base.1
    have := word1_ok k ⟨b, 7, none⟩ p.base V hbox (hc _ rfl)
    simpa [parGet, Par.l, h0, Int.max_eq_left h0] using this
  · have h0 := hp.mult.1
    have := word1_ok k ⟨b, 8, none⟩ p.mult V hbox (hc _ rfl)
    simpa [parGet, Par.l, h0, Int.max_eq_left h0] using this
  · exact of1_ok k ⟨b, 9, none⟩ p.corr V hbox (hc _ rfl) hp.corr.1 hp.corr.2
  · have h0 := hp.rew.1
    have := word1_ok k ⟨b, 10, none⟩ p.rew V hbox (hc _ rfl)
    simpa [parGet, Par.l, h0, Int.max_eq_left h0] using this
theorem get_enters (i : Nat) (hi : i < 11) : ∀ args w, (callFunc (parGet[i]?.getD 0) args).run Tryd.prog w = .ok (.enter (parGet[i]?.getD 0) args) w := by
  have h' : i = 0 ∨ i = 1 ∨ i = 2 ∨ i = 3 ∨ i = 4 ∨ i = 5 ∨ i = 6 ∨ i = 7 ∨ i = 8 ∨ i = 9 ∨ i = 10 := by omega
  have e1 : ∀ args w, (callFunc 82 args).run Tryd.prog w = .ok (.enter 82 args) w := enters_of Tryd.func82 (by kernel_rfl) rfl
  have e2 : ∀ args w, (callFunc 84 args).run Tryd.prog w = .ok (.enter 84 args) w := enters_of Tryd.func84 (by kernel_rfl) rfl
  rcases h' with rfl | rfl | rfl | rfl | rfl | rfl | rfl | rfl | rfl | rfl | rfl <;> first | exact e1 | exact e2
theorem good_iff (p : Par) (i : Nat) (hi : i < 11) : p.good i ↔ 0 ≤ p.l[i]?.getD 0 ∧ parLoU[i]?.getD 0 ≤ max (p.l[i]?.getD 0) 0 ∧ max (p.l[i]?.getD 0) 0 ≤ parHiU[i]?.getD 0 := by
  have h' : i = 0 ∨ i = 1 ∨ i = 2 ∨ i = 3 ∨ i = 4 ∨ i = 5 ∨ i = 6 ∨ i = 7 ∨ i = 8 ∨ i = 9 ∨ i = 10 := by omega
  rcases h' with rfl | rfl | rfl | rfl | rfl | rfl | rfl | rfl | rfl | rfl | rfl <;> simp [Par.good, Par.l, parLo, parHi, parLoU, parHiU] <;> omega
set_option maxRecDepth 100000 in
set_option maxHeartbeats 4000000 in
theorem pCheck_ok (p : Par) (hp : p.Ok) (w : World) :
    Calls Tryd.prog 9 #[p.v] w fun e w' => e = .returned (.tuple #[.int .i64 p.check.1, .int .i64 p.check.2]) ∧ Keeps Nob w w' := by
  obtain ⟨ce, hce⟩ : ∃ c, p.check = c := ⟨_, rfl⟩
  rw [hce]
  have HCE := Lib.hid hce; clear hce
  obtain ⟨cs, hcs⟩ : ∃ cs, p.cells = cs := ⟨_, rfl⟩
  have hv : p.v = .agg cs := by rw [← hcs]; rfl
  rw [hv]
  have hcz : cs.size = 11 := by rw [← hcs]; rfl
  have hc0 : cs[0]? = some (.int .i64 p.unb) := by rw [← hcs]; rfl
  have hc1 : cs[1]? = some (.int .i64 p.mage) := by rw [← hcs]; rfl
  have HCS := Lib.hid hcs
  clear hcs hv
  go_enter Tryd.func9, Tryd.ntmps9
  go_wp2_with (go_at_call 37; refine (fields_ok _ _).mono ?_; rintro e V ⟨g, ks, rfl, hF, hg, hk⟩; have HF := Lib.hid hF; clear hF)
  have hk0 := ((Keeps.refl Nob w).alloc (.cells cs 24)).trans hk
  have hb : w.heap.size < (w.alloc (.cells cs 24)).heap.size := by simp
  have HP : Hid (∀ i x, cs[i]? = some x → V.cell? ⟨w.heap.size, i, none⟩ = some x) := Lib.hid (fun i x hx => (hk.cell (i := i) hb (fun x => x)).trans ((World.cell?_alloc_at _ _ _ _ rfl).trans hx))
  have q0 := HP.out 0 _ hc0
  have q1 := HP.out 1 _ hc1
  have hsz : w.heap.size < V.heap.size := Nat.lt_of_lt_of_le hb hk.size
  clear hk hb hc0 hc1
  go_loopg [10] 11 (fun g i V1 => ∃ k : Nat, k ≤ 11 ∧ g = 11 - k ∧ i = .int .i64 k ∧ Hid (∀ j, j < k → p.good j) ∧ Keeps Nob V V1)
  case atStart => exact ⟨0, by omega, rfl, rfl, Lib.hid (fun j hj => by omega), Keeps.refl _ _⟩
  case round =>
    obtain ⟨k, hk, hgf, rfl, HG, hkp⟩ := hrel
    by_cases hlt : k < 11
    · have hfc : ∀ j v, j < 5 → (parField k (ks k)).cells[j]? = some v → wr.cell? ⟨g, k * 5 + j, none⟩ = some v := fun j v hj hv => (hkp.cell (i := k * 5 + j) hg (fun x => x)).trans ((HF.out.cell k j hlt hj).trans hv)
      have f0 : wr.cell? ⟨g, k * 5, none⟩ = some (.string (parName[k]?.getD ⟨#[]⟩)) := hfc 0 _ (by omega) rfl
      have f1 : wr.cell? ⟨g, k * 5 + 1, none⟩ = some (.int .u64 (parLoU[k]?.getD 0)) := hfc 1 _ (by omega) rfl
      have f2 : wr.cell? ⟨g, k * 5 + 2, none⟩ = some (.int .u64 (parHiU[k]?.getD 0)) := hfc 2 _ (by omega) rfl
      have f3 : wr.cell? ⟨g, k * 5 + 3, none⟩ = some (.func (.func (parGet[k]?.getD 0)) #[] #[.pointer (some ⟨ks k, 0, none⟩)]) := hfc 3 _ (by omega) rfl
      have f4 : wr.cell? ⟨g, k * 5 + 4, none⟩ = some (.func (.func (parSet[k]?.getD 0)) #[] #[.pointer (some ⟨ks k, 0, none⟩)]) := hfc 4 _ (by omega) rfl
      clear hfc
      have hent := get_enters k hlt
      have hks : ks k < V.heap.size := World.block_lt_of_cell? V _ (HF.out.box k hlt)
      have GETH : Hid (∀ W, Keeps Nob V W → Calls Tryd.prog (parGet[k]?.getD 0) #[.pointer (some ⟨ks k, 0, none⟩)] W fun e w' => e = .returned (.tuple #[.int .u64 (max (p.l[k]?.getD 0) 0), .bool (decide (0 ≤ p.l[k]?.getD 0))]) ∧ Keeps Nob W w') :=
        Lib.hid (fun W hW => get_ok p hp k w.heap.size (ks k) hlt W ((hW.cell hks (fun x => x)).trans (HF.out.box k hlt)) (fun x hx => (hW.cell hsz (fun x => x)).trans (HP.out k x (by rw [← HCS.out]; exact hx))))
      have hgi := good_iff p k hlt
      generalize parName[k]?.getD ⟨#[]⟩ = nm at *
      generalize parLoU[k]?.getD 0 = lo at *
      generalize parHiU[k]?.getD 0 = hi at *
      generalize parGet[k]?.getD 0 = gk at *
      generalize parSet[k]?.getD 0 = sk at *
      generalize max (p.l[k]?.getD 0) 0 = x at *
      by_cases h1 : 0 ≤ p.l[k]?.getD 0
      · have hd := decide_eq_true h1
        rw [hd] at GETH
        by_cases h2 : lo ≤ x ∧ x ≤ hi
        · have hw : (decide (lo ≤ x) && decide (x ≤ hi)) = true := by simp; exact h2
          have hgood := hgi.2 ⟨h1, h2⟩
          have HG1 := Lib.hid (fun j hj => (Nat.lt_succ_iff_lt_or_eq.1 hj).elim (HG.out j) (fun e => e ▸ hgood) : ∀ j, j < k + 1 → p.good j)
          have WI := Lib.hid (fun nm f g W => within_ok nm f g lo hi x W)
          rw [hw] at WI
          clear hgi hgood hd h1 h2 hw
          go_wp2_with fail
          refine (GETH.out _ (hkp.alloc _)).mono ?_
          rintro e W1 ⟨rfl, k1⟩
          have c0 := (k1.cell (k := wr.heap.size) (i := 0) (by simp) (fun x => x)).trans ((World.cell?_alloc_at _ _ _ _ rfl).trans rfl)
          have c1 := (k1.cell (k := wr.heap.size) (i := 1) (by simp) (fun x => x)).trans ((World.cell?_alloc_at _ _ _ _ rfl).trans rfl)
          have c2 := (k1.cell (k := wr.heap.size) (i := 2) (by simp) (fun x => x)).trans ((World.cell?_alloc_at _ _ _ _ rfl).trans rfl)
          have c3 := (k1.cell (k := wr.heap.size) (i := 3) (by simp) (fun x => x)).trans ((World.cell?_alloc_at _ _ _ _ rfl).trans rfl)
          have c4 := (k1.cell (k := wr.heap.size) (i := 4) (by simp) (fun x => x)).trans ((World.cell?_alloc_at _ _ _ _ rfl).trans rfl)
          go_wp2_with fail
          refine (WI.out _ _ _ _).mono ?_
          rintro e W2 ⟨rfl, k2⟩
          clear c0 c1 c2 c3 c4
          go_wp2_with fail
          go_roundg (11 - (k + 1))
          case measure => omega
          case rel => exact ⟨k + 1, by omega, rfl, by go_num, HG1, ((hkp.alloc _).trans k1).trans k2⟩
        · have hw : (decide (lo ≤ x) && decide (x ≤ hi)) = false := by
            rw [Bool.and_eq_false_iff]; simp; omega
          obtain rfl : ce = (3, (k : Int)) := HCE.out.symm.trans (p.check_bad k hlt HG.out (fun h => h2 (hgi.1 h).2))
          have WI := Lib.hid (fun nm f g W => within_ok nm f g lo hi x W)
          rw [hw] at WI
          clear hgi hd h1 h2 hw
          go_wp2_with fail
          refine (GETH.out _ (hkp.alloc _)).mono ?_
          rintro e W1 ⟨rfl, k1⟩
          have c0 := (k1.cell (k := wr.heap.size) (i := 0) (by simp) (fun x => x)).trans ((World.cell?_alloc_at _ _ _ _ rfl).trans rfl)
          have c1 := (k1.cell (k := wr.heap.size) (i := 1) (by simp) (fun x => x)).trans ((World.cell?_alloc_at _ _ _ _ rfl).trans rfl)
          have c2 := (k1.cell (k := wr.heap.size) (i := 2) (by simp) (fun x => x)).trans ((World.cell?_alloc_at _ _ _ _ rfl).trans rfl)
          have c3 := (k1.cell (k := wr.heap.size) (i := 3) (by simp) (fun x => x)).trans ((World.cell?_alloc_at _ _ _ _ rfl).trans rfl)
          have c4 := (k1.cell (k := wr.heap.size) (i := 4) (by simp) (fun x => x)).trans ((World.cell?_alloc_at _ _ _ _ rfl).trans rfl)
          go_wp2_with fail
          refine (WI.out _ _ _ _).mono ?_
          rintro e W2 ⟨rfl, k2⟩
          clear c0 c1 c2 c3 c4
          go_wp2_with fail
          go_ret2
          exact ⟨rfl, hk0.trans (((hkp.alloc _).trans k1).trans k2)⟩
      · have hd := decide_eq_false h1
        rw [hd] at GETH
        obtain rfl : ce = (3, (k : Int)) := HCE.out.symm.trans (p.check_bad k hlt HG.out (fun h => h1 (hgi.1 h).1))
        clear hgi hd h1
        go_wp2_with fail
        refine (GETH.out _ (hkp.alloc _)).mono ?_
        rintro e W1 ⟨rfl, k1⟩
        go_wp2_with fail
        go_ret2
        exact ⟨rfl, hk0.trans ((hkp.alloc _).trans k1)⟩
    · have h1 : decide ((k : Int) < 11) = false := by simp; omega
      have hk11 : k = 11 := by omega
      have q0 := (hkp.cell (i := 0) hsz (fun x => x)).trans q0
      have q1 := (hkp.cell (i := 1) hsz (fun x => x)).trans q1
      have hce := HCE.out.symm.trans (p.check_good (fun j hj => HG.out j (by omega)))
      by_cases hm : p.unb < p.mage
      · rw [if_pos hm] at hce
        subst hce
        clear HCE
        go_wp2_with fail
        go_ret2
        exact ⟨rfl, hk0.trans hkp⟩
      · rw [if_neg hm] at hce
        subst hce
        clear HCE
        have hmd : decide (p.unb < p.mage) = false := by simpa using hm
        go_wp2_with fail
        go_ret2
        exact ⟨rfl, hk0.trans hkp⟩
end Go.Proofs.YtpflmldmbpnllaaDoor
namespace Go.Own
open Go Go.RowKit
/-- A slice value v of type e's elements (size cells each) that holds the cells xs, n elements. -/
abbrev Row (w : World) (e : TypeId) (size : Nat) (v : Value) (n : Nat) (xs : List Value) : Prop := w.ownsRow 0 e size v n xs
theorem Row.lt {w : World} {e : TypeId} {size n : Nat} {v : Value} {xs : List Value} (h : Row w e size v n xs) {k : Nat} (hk : v.ownBlock = some k) : k < w.heap.size := (World.ownsRow.lt h k hk).2
theorem Row.heap {w w' : World} {size n : Nat} {e : TypeId} {v : Value} {xs : List Value} (h : Row w e size v n xs) (hk : ∀ k, v.ownBlock = some k → w'.heap[k]? = w.heap[k]?) : Row w' e size v n xs := by
  obtain ⟨h1, h2⟩ := h
  refine ⟨h1, ?_⟩
  rcases h2 with h2 | ⟨g, cap, cur, rfl, hb, hg, r⟩
  · exact .inl h2
  · exact .inr ⟨g, cap, cur, rfl, hb, (hk g rfl).trans hg, r⟩
theorem Row.keeps {w w' : World} {M : Nat → Prop} {size n : Nat} {e : TypeId} {v : Value} {xs : List Value} (h : Row w e size v n xs) (k : Keeps M w w') (hm : ∀ j, v.ownBlock = some j → ¬ M j) : Row w' e size v n xs :=
  h.heap fun j hj => k.block j (h.lt hj) (hm j hj)
/-- Which elements' type lies in the row's block. -/
theorem Row.elem {w : World} {e : TypeId} {size n : Nat} {v : Value} {xs : List Value} (h : Row w e size v n xs) {k : Nat} (hk : v.ownBlock = some k) : ∃ cs, w.heap[k]? = some (.cells cs e (0, 0)) := by
  rcases h.2 with ⟨rfl, _⟩ | ⟨g, cap, cur, rfl, _, hg, _⟩
  · cases hk
  · cases hk; exact ⟨_, hg⟩
theorem Row.slice {w : World} {e : TypeId} {size n : Nat} {v : Value} {xs : List Value} (h : Row w e size v n xs) (hn : v ≠ .slice none 0 0) : ∃ g cap, v = .slice (some ⟨g, 0, none⟩) n cap := by
  rcases h.2 with ⟨e, _⟩ | ⟨g, cap, cur, e, _⟩
  · exact absurd e hn
  · exact ⟨g, cap, e⟩
section
variable {P : Program} {w : World}
/-- 'append' to an own row: the new row lies in the old block or in a new one. -/
theorem run_append_row (t ty e : TypeId) (i : TypeInfo) (z : Value) (size bytes : Nat) (ht : P.underlying t = some (.slice e)) (hi : P.info? e = some i) (hz : i.zero = some z)
    (hsize : i.size = size) (hby : i.bytes = bytes) (hzs : z.cells.size = size) (hsz : 0 < size)
    (v : Value) (n : Nat) (xs : List Value) (hown : Row w e size v n xs)
    (a : Addr) (m c : Nat) (news : List Value) (hl : news.length = m * size) (hnews : ∀ j u, news[j]? = some u → w.cell? (a.add j) = some u) (h1 : ∀ u ∈ news, u.oneCell' = true)
    (h63 : n + m ≤ maxLen) (hbytes : (n + m) * bytes ≤ 140737488355328) :
    ∃ v' w', (Builtin.append_ #[t, t] ty #[v, .slice (some a) m c]).run P w = .ok v' w' ∧ Row w' e size v' (n + m) (xs ++ news) ∧ w.grownBy w' v.ownBlock ∧
      (v' = .slice none 0 0 ↔ v = .slice none 0 0 ∧ m = 0) ∧ ∀ k, v'.ownBlock = some k → v.ownBlock = some k ∨ k = w.heap.size ∧ w.heap.size < w'.heap.size := by
  have hown2 := hown
  obtain ⟨v', w', hr, ho, hg, hn⟩ := run_append_own (P := P) w 0 t ty e i z size bytes ht hi hz hsize hby hzs hsz v n xs hown a m c news hl hnews h1 h63 hbytes (Nat.zero_le _)
  refine ⟨v', w', hr, ho, hg, hn, ?_⟩
  subst hsize; subst hby
  rcases hown2.2 with ⟨rfl, rfl⟩ | ⟨g, cap, cur, rfl, hbg, hgc, hnc, hcm, hcs, htake⟩
  · have hx : xs = [] := List.eq_nil_of_length_eq_zero (by simpa using hown.1)
    subst hx
    by_cases hm : m = 0
    · intro k hk
      rw [hn.2 ⟨rfl, hm⟩] at hk
      cases hk
    · have hr2 := run_append_nil (P := P) w t ty e i z ht hi hz a m c news hl hnews (by omega) (by simp only [maxLen] at h63; omega) (by have hb := hbytes; simp only [Nat.zero_add] at hb; omega)
      have e1 := hr.symm.trans hr2
      simp only [Result.ok.injEq] at e1
      intro k hk
      rw [e1.1] at hk
      cases hk
      exact .inr ⟨rfl, by rw [e1.2]; simp⟩
  · by_cases hroom : n + m ≤ cap
    · have hfit : n * i.size + news.length ≤ cur.size := by rw [hl, hcs, ← Nat.add_mul]; exact Nat.mul_le_mul_right _ hroom
      have hr2 := run_append_room (P := P) w t ty e i ht hi g n cap cur hgc a m c news hl hnews h1 hroom hfit
      have e1 := hr.symm.trans hr2
      simp only [Result.ok.injEq] at e1
      intro k hk
      rw [e1.1] at hk
      exact .inl hk
    · have holds : ∀ j u, xs[j]? = some u → w.cell? ((⟨g, 0, none⟩ : Addr).add j) = some u := World.ownsRow.cells hown (g := g) rfl
      have hr2 := run_append_grow (P := P) w t ty e i z ht hi hz ⟨g, 0, none⟩ n cap xs hown.1 holds a m c news hl hnews (by omega) (by simp only [maxLen] at h63; omega) (growslice_fits (by omega) hbytes)
      have e1 := hr.symm.trans hr2
      simp only [Result.ok.injEq] at e1
      intro k hk
      rw [e1.1] at hk
      cases hk
      exact .inr ⟨rfl, by rw [e1.2]; simp⟩
/-- What is appended: none, or cells that lie somewhere. -/
def Src (w : World) (size : Nat) (x : Value) (m : Nat) (news : List Value) : Prop :=
  news.length = m * size ∧ (∀ u ∈ news, u.oneCell' = true) ∧ ((x = .slice none 0 0 ∧ m = 0) ∨ ∃ ad c, x = .slice (some ad) m c ∧ ∀ j u, news[j]? = some u → w.cell? (ad.add j) = some u)
theorem Row.src {e : TypeId} {size n : Nat} {v : Value} {xs : List Value} (h : Row w e size v n xs) (h1 : ∀ u ∈ xs, u.oneCell' = true) : Src w size v n xs := by
  refine ⟨h.1, h1, ?_⟩
  rcases h.2 with ⟨rfl, h0⟩ | ⟨g, cap, cur, rfl, hb, hg, r⟩
  · exact .inl ⟨rfl, h0⟩
  · exact .inr ⟨_, _, rfl, fun j u hj => World.ownsRow.cells h (g := g) rfl j u hj⟩
theorem Src.new (w : World) (size m : Nat) (cs : List Value) (t : TypeId) (hl : cs.length = m * size) (h1 : ∀ u ∈ cs, u.oneCell' = true) (c : Nat) : Src (w.alloc (.cells cs.toArray t)) size (.slice (some ⟨w.heap.size, 0, none⟩) m c) m cs :=
  ⟨hl, h1, .inr ⟨_, _, rfl, fun j u hj => by
    simp only [Addr.add_lit, Nat.zero_add]
    rw [World.cell?_alloc_at _ _ _ _ rfl]
    simpa using hj⟩⟩
theorem Src.heap {w' : World} {size m : Nat} {x : Value} {news : List Value} (h : Src w size x m news) (hc : ∀ a u, w.cell? a = some u → w'.cell? a = some u) : Src w' size x m news :=
  ⟨h.1, h.2.1, h.2.2.elim .inl fun ⟨ad, c, e, hx⟩ => .inr ⟨ad, c, e, fun j u hj => hc _ _ (hx j u hj)⟩⟩
/-- A row that is not empty is spelled out. -/
theorem Row.spell {e : TypeId} {size n : Nat} {v : Value} {xs : List Value} (h : Row w e size v n xs) (hn : 0 < n) : ∃ g cap, v = .slice (some ⟨g, 0, none⟩) n cap ∧ g < w.heap.size := by
  rcases h.2 with ⟨_, h0⟩ | ⟨g, cap, cur, rfl, _, hg, _⟩
  · omega
  · exact ⟨g, cap, rfl, (Array.getElem?_eq_some_iff.1 hg).1⟩
theorem Row.cap {e : TypeId} {size n n' g cap : Nat} {xs : List Value} (h : Row w e size (.slice (some ⟨g, 0, none⟩) n cap) n' xs) : n ≤ cap ∧ cap ≤ 9223372036854775807 := by
  rcases h.2 with ⟨h0, _⟩ | ⟨g, cap, cur, h0, _, _, h1, h2, _⟩
  · cases h0
  · simp only [Value.slice.injEq] at h0
    obtain ⟨_, rfl, rfl⟩ := h0
    exact ⟨h1, by unfold maxLen at h2; omega⟩
theorem Row.one {e : TypeId} {size n : Nat} {v : Value} {xs : List Value} (h : Row w e size v n xs) : v.oneCell' = true := by
  rcases h.2 with ⟨rfl, _⟩ | ⟨g, cap, cur, rfl, _⟩ <;> rfl
/-- Its block is no block of another kind of elements. -/
theorem Row.ne {e t : TypeId} {size n b : Nat} {v : Value} {xs : List Value} {cs : Array Value} {fr : Nat × Nat} (h : Row w e size v n xs) (hb : w.heap[b]? = some (.cells cs t fr)) (hne : e ≠ t) : v.ownBlock ≠ some b := by
  intro he
  obtain ⟨cs', hc⟩ := h.elem he
  rw [hb] at hc
  simp only [Option.some.injEq, Obj.cells.injEq] at hc
  exact hne hc.2.1.symm
theorem run_append_any (t ty e : TypeId) (i : TypeInfo) (z : Value) (size bytes : Nat) (ht : P.underlying t = some (.slice e)) (hi : P.info? e = some i) (hz : i.zero = some z)
    (hsize : i.size = size) (hby : i.bytes = bytes) (hzs : z.cells.size = size) (hsz : 0 < size)
    (v : Value) (n : Nat) (xs : List Value) (hown : Row w e size v n xs) (x : Value) (m : Nat) (news : List Value) (hsrc : Src w size x m news)
    (h63 : n + m ≤ maxLen) (hbytes : (n + m) * bytes ≤ 140737488355328) :
    ∃ v' w', (Builtin.append_ #[t, t] ty #[v, x]).run P w = .ok v' w' ∧ Row w' e size v' (n + m) (xs ++ news) ∧ w.grownBy w' v.ownBlock ∧
      (v' = .slice none 0 0 ↔ v = .slice none 0 0 ∧ m = 0) ∧ ∀ k, v'.ownBlock = some k → v.ownBlock = some k ∨ k = w.heap.size ∧ w.heap.size < w'.heap.size := by
  obtain ⟨hl, h1, ⟨rfl, rfl⟩ | ⟨ad, c, rfl, hc⟩⟩ := hsrc
  · have hn : news = [] := List.eq_nil_of_length_eq_zero (by simpa using hl)
    subst hn
    have hrun := run_append_owned_none (P := P) (w := w) 0 t ty e i size ht hi v n xs hown
    exact ⟨v, w, hrun, by simpa using hown, World.grownBy.refl w _, by simp, fun k hk => .inl hk⟩
  · exact run_append_row t ty e i z size bytes ht hi hz hsize hby hzs hsz v n xs hown ad m c news hl hc h1 h63 hbytes
/-- 'append(v, x...)' to an own row, in a walk. -/
theorem own_append2 {ops : Array Oper} {rest : List Oper} {o : Oper} {a : Act} {Q : Exit → Act → World → Prop} (hgd : o.guard = none) (s x : Operand) (t : TypeId)
    (ho : o.op = .call { callee := .builtin .append, args := #[s, x], argTypes := #[t, t] })
    (e : TypeId) (i : TypeInfo) (z : Value) (size bytes : Nat) (ht : P.underlying t = some (.slice e)) (hi : P.info? e = some i) (hz : i.zero = some z)
    (hsize : i.size = size) (hby : i.bytes = bytes) (hzs : z.cells.size = size) (hsz : 0 < size)
    (v : Value) (n : Nat) (xs : List Value) (hs : a.eval s = v) (hown : Row w e size v n xs)
    (y : Value) (m : Nat) (news : List Value) (hx : a.eval x = y) (hsrc : Src w size y m news)
    (h63 : n + m ≤ maxLen) (hbytes : (n + m) * bytes ≤ 140737488355328)
    (h : ∀ v' w', Row w' e size v' (n + m) (xs ++ news) → w.grownBy w' v.ownBlock → (v' = .slice none 0 0 ↔ v = .slice none 0 0 ∧ m = 0) → (∀ k, v'.ownBlock = some k → v.ownBlock = some k ∨ k = w.heap.size ∧ w.heap.size < w'.heap.size) → wpList P ops Q rest (a.put o.dst v') w') : wpList P ops Q (o :: rest) a w := by
  obtain ⟨v', w', hr, h2, h3, h4, h5⟩ := run_append_any (P := P) t o.type e i z size bytes ht hi hz hsize hby hzs hsz v n xs hown y m news hsrc h63 hbytes
  refine wpList_plain hgd fun K hK => ?_
  unfold Oper.wp execOp
  simp only [ho, resolve, invoke, builtin, Sem.run_bind, Sem.run_pure, Result.andThen_ok, List.map_toArray, List.map_cons, List.map_nil, hs, hx, hr]
  exact hK _ _ (h v' w' h2 h3 h4 h5)
/-- The same, inside a fence. -/
theorem own_append2_in {F : Fence} {N : Nat} {ops : Array Oper} {rest : List Oper} {o : Oper} {a : Act} {Q : Exit → Act → World → Prop} (hgd : o.guard = none) (s x : Operand) (t : TypeId)
    (ho : o.op = .call { callee := .builtin .append, args := #[s, x], argTypes := #[t, t] })
    (e : TypeId) (i : TypeInfo) (z : Value) (size bytes : Nat) (ht : P.underlying t = some (.slice e)) (hi : P.info? e = some i) (hz : i.zero = some z)
    (hsize : i.size = size) (hby : i.bytes = bytes) (hzs : z.cells.size = size) (hsz : 0 < size)
    (v : Value) (n : Nat) (xs : List Value) (hs : a.eval s = v) (hown : Row w e size v n xs)
    (y : Value) (m : Nat) (news : List Value) (hx : a.eval x = y) (hsrc : Src w size y m news)
    (h63 : n + m ≤ maxLen) (hbytes : (n + m) * bytes ≤ 140737488355328)
    (h : ∀ v' w', Row w' e size v' (n + m) (xs ++ news) → w.grownBy w' v.ownBlock → (v' = .slice none 0 0 ↔ v = .slice none 0 0 ∧ m = 0) → (∀ k, v'.ownBlock = some k → v.ownBlock = some k ∨ k = w.heap.size ∧ w.heap.size < w'.heap.size) → wpListIn F N P ops Q rest (a.put o.dst v') w') : wpListIn F N P ops Q (o :: rest) a w := by
  obtain ⟨v', w', hr, h2, h3, h4, h5⟩ := run_append_any (P := P) t o.type e i z size bytes ht hi hz hsize hby hzs hsz v n xs hown y m news hsrc h63 hbytes
  refine wpListIn_plain hgd fun K hK => ?_
  unfold Oper.wpIn
  refine ⟨?_, ?_⟩
  · simp [Oper.about, ho, resolve, Target.leads, Sem.run_pure]
  · rw [Oper.semAt_plain F _ _ (by rw [ho]; intro c hc'; cases hc')]
    simp [execOp, ho, resolve, invoke, builtin, hs, hx, hr, Result.andThen]
    exact hK _ _ (h v' w' h2 h3 h4 h5)
end
end Go.Own
namespace Go.Own
open Go Go.RowKit
/-- The cells of bytes. -/
def B (l : List UInt8) : List Value := l.map fun x => .int .u8 (x.toNat : Int)
theorem B_length (l : List UInt8) : (B l).length = l.length := by simp [B]
theorem B_get (l : List UInt8) (k : Nat) (x : UInt8) (h : l[k]? = some x) : (B l)[k]? = some (.int .u8 (x.toNat : Int)) := by simp [B, h]
theorem B_append (l m : List UInt8) : B (l ++ m) = B l ++ B m := by simp [B]
theorem B_one (l : List UInt8) : ∀ u ∈ B l, u.oneCell' = true := by
  intro u hu
  simp only [B, List.mem_map] at hu
  obtain ⟨x, _, rfl⟩ := hu
  rfl
theorem B_get_inv (l : List UInt8) (k : Nat) (u : Value) (h : (B l)[k]? = some u) : ∃ x, l[k]? = some x ∧ u = .int .u8 (x.toNat : Int) := by
  simp only [B, List.getElem?_map, Option.map_eq_some_iff] at h
  obtain ⟨x, h1, h2⟩ := h
  exact ⟨x, h1, h2.symm⟩
/-- A slice of bytes that reads as a list; nil too. -/
structure BytesAt (w : World) (v : Value) (l : List UInt8) : Prop where
  form : ∃ A cap, v = .slice A l.length cap ∧ l.length ≤ cap ∧ cap ≤ maxLen ∧ (A = none → cap = 0)
  at_ : ∀ k x, l[k]? = some x → ∃ b o cap, v = .slice (some ⟨b, o, none⟩) l.length cap ∧ b < w.heap.size ∧ w.cell? ⟨b, o + k, none⟩ = some (.int .u8 (x.toNat : Int))
/-- What 's[k:]' is. -/
def cutV (A : Option Addr) (n cap k : Nat) : Value := .slice (if cap = k then A else A.map (·.add k)) (n - k) (cap - k)
theorem run_cut {P : Program} {t : TypeId} (ht : P.underlying t = some (.slice (P.elem t))) (hz : ∀ w, (Go.sizeOf (P.elem t)).run P w = .ok 1 w) (A : Option Addr) (n cap k : Nat) (hk : k ≤ n) (W : World) :
    (Instr.sliceAt t (.slice A n cap) (some (.int .i64 (k : Int))) none none).run P W = .ok (cutV A n cap k) W := by
  rw [run_sliceAt_slice W t _ _ _ _ ht, run_slice_l W t _ _ _ ht _ _ (by omega) (by omega), hz]
  simp [Result.andThen, sliced, cutV]
section
variable {w w' : World} {v : Value} {l : List UInt8}
theorem BytesAt.len (h : BytesAt w v l) : ∃ A cap, v = .slice A l.length cap := let ⟨A, c, e, _⟩ := h.form; ⟨A, c, e⟩
theorem BytesAt.length_le (h : BytesAt w v l) : l.length ≤ 9223372036854775807 := by
  obtain ⟨A, c, e, h1, h2, _⟩ := h.form
  unfold maxLen at h2; omega
theorem BytesAt.keeps {M : Nat → Prop} (h : BytesAt w v l) (k : Keeps M w w') (hm : ∀ j, v.ownBlock = some j → ¬ M j) : BytesAt w' v l :=
  ⟨h.form, fun i x hi => by
    obtain ⟨b, o, cap, e, hb, hc⟩ := h.at_ i x hi
    exact ⟨b, o, cap, e, Nat.lt_of_lt_of_le hb k.size, (k.cell hb (hm b (by rw [e]; rfl))).trans hc⟩⟩
theorem BytesAt.keepsN (h : BytesAt w v l) (k : Keeps Nob w w') : BytesAt w' v l := h.keeps k (fun _ _ x => x)
theorem BytesAt.nil (w : World) : BytesAt w (.slice none 0 0) [] := ⟨⟨none, 0, rfl, Nat.le_refl _, by unfold maxLen; omega, fun _ => rfl⟩, fun k x h => by simp at h⟩
theorem Row.bytes {e : TypeId} (h : Row w e 1 v l.length (B l)) : BytesAt w v l := by
  refine ⟨?_, fun k x hk => ?_⟩
  · rcases h.2 with ⟨rfl, h0⟩ | ⟨g, cap, cur, rfl, _, _, hn, hc, _⟩
    · exact ⟨none, 0, by rw [h0], by omega, by unfold maxLen; omega, fun _ => rfl⟩
    · exact ⟨_, _, rfl, hn, hc, fun h => by cases h⟩
  · rcases h.2 with ⟨rfl, h0⟩ | ⟨g, cap, cur, rfl, _, hg, hn, hc, _⟩
    · have : l = [] := List.eq_nil_of_length_eq_zero h0
      subst this; simp at hk
    · refine ⟨g, 0, cap, rfl, (Array.getElem?_eq_some_iff.1 hg).1, ?_⟩
      have := World.ownsRow.cells h (g := g) rfl k _ (B_get l k x hk)
      simpa [Addr.add_lit] using this
/-- What lies behind a place. -/
theorem BytesAt.drop (h : BytesAt w v l) (k : Nat) (hk : k ≤ l.length) : ∀ A n cap, v = .slice A n cap → BytesAt w (cutV A n cap k) (l.drop k) := by
  intro A n cap hv
  unfold cutV
  obtain ⟨A', cap', e, h1, h2, h3⟩ := h.form
  rw [e] at hv
  simp only [Value.slice.injEq] at hv
  obtain ⟨rfl, rfl, rfl⟩ := hv
  refine ⟨⟨_, _, by rw [List.length_drop], by rw [List.length_drop]; omega, by omega, fun hn => ?_⟩, fun i x hi => ?_⟩
  · split at hn
    · omega
    · cases A' with
      | none => have := h3 rfl; omega
      | some a => cases hn
  rw [List.getElem?_drop] at hi
  obtain ⟨b, o, c, e2, hb, hc⟩ := h.at_ _ x hi
  rw [e] at e2
  simp only [Value.slice.injEq, true_and] at e2
  obtain ⟨rfl, rfl⟩ := e2
  have hlt : k + i < l.length := (List.getElem?_eq_some_iff.1 hi).1
  rw [if_neg (by omega)]
  exact ⟨b, o + k, cap' - k, by simp [Addr.add_lit, List.length_drop], hb, by rw [Nat.add_assoc]; exact hc⟩
theorem BytesAt.take (h : BytesAt w v l) (k : Nat) (hk : k ≤ l.length) : ∀ A n cap, v = .slice A n cap → BytesAt w (.slice A k cap) (l.take k) := by
  intro A n cap hv
  obtain ⟨A', cap', e, h1, h2, h3⟩ := h.form
  rw [e] at hv
  simp only [Value.slice.injEq] at hv
  obtain ⟨rfl, rfl, rfl⟩ := hv
  have hl : (l.take k).length = k := by rw [List.length_take]; omega
  refine ⟨⟨_, _, by rw [hl], by rw [hl]; omega, by omega, h3⟩, fun i x hi => ?_⟩
  have hlt : i < k := by have := (List.getElem?_eq_some_iff.1 hi).1; omega
  rw [List.getElem?_take_of_lt hlt] at hi
  obtain ⟨b, o, c, e2, hb, hc⟩ := h.at_ _ x hi
  rw [e] at e2
  simp only [Value.slice.injEq, true_and] at e2
  obtain ⟨rfl, rfl⟩ := e2
  exact ⟨b, o, _, by rw [hl], hb, hc⟩
/-- It may be appended. -/
theorem BytesAt.src (h : BytesAt w v l) : Src w 1 v l.length (B l) := by
  refine ⟨by simp [B_length], B_one l, ?_⟩
  obtain ⟨A, cap, rfl, h1, h2, h3⟩ := h.form
  cases A with
  | none =>
    have h0 : l = [] := by
      cases l with
      | nil => rfl
      | cons x r => obtain ⟨b, o, c, e, _⟩ := h.at_ 0 x rfl; simp at e
    subst h0
    have := h3 rfl
    subst this
    exact .inl ⟨rfl, rfl⟩
  | some ad =>
    refine .inr ⟨ad, cap, rfl, fun j u hj => ?_⟩
    obtain ⟨x, hx, rfl⟩ := B_get_inv l j u hj
    obtain ⟨b, o, c, e, hb, hc⟩ := h.at_ j x hx
    simp only [Value.slice.injEq, Option.some.injEq] at e
    obtain ⟨rfl, _⟩ := e
    simpa [Addr.add_lit] using hc
end
end Go.Own
namespace Go.Own
open Go Go.RowKit
section
variable {P : Program} {ops : Array Oper} {Q : Exit → Act → World → Prop} {md : Region.Mode} {S : World → Prop}
theorem anyH_two {fuel : Nat} {l : Array Bool} {a : Act} {w : World} (i j : Nat) (hr : Region.ready md ops l = [i, j])
    (h1 : wpOp P ops Q i (fun a' w' => S w' ∧ wpAnyH P md ops Q S fuel (l.setIfInBounds i true) a' w') a w) (h2 : wpOp P ops Q j (fun a' w' => S w' ∧ wpAnyH P md ops Q S fuel (l.setIfInBounds j true) a' w') a w) : wpAnyH P md ops Q S (fuel + 1) l a w := by
  refine wpAnyH_all hr (by simp) fun m hm => ?_
  rcases List.mem_cons.1 hm with rfl | hm
  · exact h1
  · obtain rfl : m = j := by simpa using hm
    exact h2
variable {K : Act → World → Prop} {i : Nat}
theorem opH_run (o : Oper) (v : Value) {a : Act} {w w' : World} (ho : ops[i]? = some o) (hg : Region.wanted o (yielded ops a.tmps) = true)
    (hrun : (execOp a.eval o).run P w = .ok (.value v) w') (h : K (a.put o.dst v) w') : wpOp P ops Q i K a w := by
  unfold wpOp
  simp only [ho, hg, if_true]
  refine .inl ?_
  unfold Oper.wp
  rw [hrun]; exact h
theorem opH_callF (o : Oper) (f : FuncId) (args : Array Value) {a : Act} {w : World} (ho : ops[i]? = some o) (hg : Region.wanted o (yielded ops a.tmps) = true)
    (hc : o.op = .call { callee := .value (.func f), args := callArgs o, argTypes := callTypes o }) (hargs : (callArgs o).map a.eval = args) (he : ∀ args w, (callFunc f args).run P w = .ok (.enter f args) w)
    (h : Calls P f args w fun e w' => ∃ v, e = .returned v ∧ K (a.put o.dst v) w') : wpOp P ops Q i K a w := by
  unfold wpOp
  simp only [ho, hg, if_true]
  refine .inl ?_
  unfold Oper.wp execOp
  simp only [hc, resolve, hargs, Act.eval, Sem.run_bind, Deferred.ofValue, Sem.run_pure, Result.andThen_ok, invoke, Array.append_empty, Array.empty_append, he]
  refine Calls.mono h fun e w' ⟨v, he, hv⟩ => ?_
  subst he
  exact hv
end
/-- A value, spelled otherwise. -/
theorem exec_cast {P : Program} {o : Oper} {ρ : Operand → Value} {w : World} {v v' : Value} (h : v = v') (hr : (execOp ρ o).run P w = .ok (.value v) w) : (execOp ρ o).run P w = .ok (.value v') w := h ▸ hr
end Go.Own
namespace Go.Own
open Go Go.RowKit
variable {P : Program} {ops : Array Oper} {rest : List Oper} {o : Oper} {a : Act} {w w' : World} {Q : Exit → Act → World → Prop}
theorem exec_load_mid {ρ : Operand → Value} (ty : TypeId) (x : Operand) (ho : o.op = .load ty x) (b k : Nat) (hx : ρ x = .pointer (some ⟨b, k, none⟩)) (cs : List Value) (d : TypeDesc) (hc : w.rangeAt b k cs)
    (hu : P.underlying ty = some d) (hd : d.isRow = true) (hi : (P.info? ty).map (·.size) = some cs.length) : (execOp ρ o).run P w = .ok (.value (.agg cs.toArray)) w := by
  unfold execOp
  simp only [ho, hx, Sem.run_bind, run_loadAt_mid w b k ty cs d hc hu hd hi, Result.andThen_ok, Sem.run_pure]
theorem exec_binop {ρ : Operand → Value} (op : BinOp) (t t' : TypeId) (x y : Operand) (ho : o.op = .binOp op t x y t') (vx vy v : Value) (hx : ρ x = vx) (hy : ρ y = vy) (hg : (eqGuard op t x y vx vy).run P w = .ok () w)
    (hr : (binOp op t vx vy).run P w = .ok v w) : (execOp ρ o).run P w = .ok (.value v) w := by
  unfold execOp
  simp only [ho, hx, hy, Sem.run_bind, hg, hr, Result.andThen_ok, Sem.run_pure]
end Go.Own
namespace Go.Own
open Go Go.RowKit Go.Shelf
/-! Short words of printed walks. -/
abbrev iN (n : Nat) : Value := .int .i64 ((n : Nat) : Int)
abbrev uN (n : Nat) : Value := .int .u64 ((n : Nat) : Int)
abbrev cN (n : Nat) : Value := .int .u8 ((n : Nat) : Int)
abbrev pT (g o : Nat) : Value := .pointer (some ⟨g, o, none⟩)
theorem Keeps.bk {g : Nat} {W W' : World} (k : Keeps Nob W W') {x : Obj} (h : W.heap[g]? = some x) : W'.heap[g]? = some x := (k.block g (Array.getElem?_eq_some_iff.1 h).1 (fun x => x)).trans h
theorem Keeps.bo {g j : Nat} {W W' : World} (k : Keeps (One j) W W') {x : Obj} (h : W.heap[g]? = some x) (hne : g ≠ j) : W'.heap[g]? = some x := (k.block g (Array.getElem?_eq_some_iff.1 h).1 hne).trans h
theorem Keeps.nn {M : Nat → Prop} {w V V' : World} (K : Keeps M w V) (k : Keeps Nob V V') : Keeps M w V' := K.then k (fun _ _ x => x.elim)
theorem Keeps.no {M : Nat → Prop} {g : Nat} {w V V' : World} (K : Keeps M w V) (k : Keeps (One g) V V') (h : w.heap.size ≤ g) : Keeps M w V' := K.then k (fun i hi hm => absurd hi (by unfold One at hm; omega))
theorem drew_step (W : World) : ∃ V, W.drew = V ∧ Keeps Nob W V := ⟨_, rfl, (Keeps.refl _ _).drew⟩
theorem alloc_step (W : World) (c : Array Value) (T : TypeId) : ∃ V, W.alloc (.cells c T) = V ∧ ∃ g, W.heap.size = g ∧ V.heap[g]? = some (.cells c T (0, 0)) ∧ Keeps Nob W V := ⟨_, rfl, _, rfl, heap_alloc_new _ _, (Keeps.refl _ _).alloc _⟩
theorem cell_step (W : World) (g o : Nat) (v : Value) : ∃ V, W.setCell ⟨g, o, none⟩ v = V ∧ Keeps (One g) W V := ⟨_, rfl, (Keeps.refl _ _).setOne _⟩
theorem rowset_step (W : World) (g : Nat) (c : Array Value) : ∃ V, W.setRow g c = V ∧ Keeps (One g) W V := ⟨_, rfl, (Keeps.refl (One g) _).setRow (fun _ => rfl) _⟩
/-- A part of a body, by its place: a number in base 2 whose first digit is cut off; 0: the left, 1: the right. -/
noncomputable def sub : List Bool → Code → Code
  | [], c => c
  | p :: r, .seq x y => sub r (bif p then y else x)
  | _ :: r, .block _ x => sub r x
  | p :: r, .cond _ x y => sub r (bif p then y else x)
  | _ :: r, .loop x => sub r x
  | p :: r, .rangeFunc _ _ x y => sub r (bif p then y else x)
  | _ :: _, c => c
def placeOf : Nat → Nat → List Bool
  | 0, _ => []
  | f + 1, n => if n ≤ 1 then [] else placeOf f (n / 2) ++ [n % 2 == 1]
noncomputable def partOf (f : Func) (n : Nat) : Code := sub (placeOf 200 n) (f.body.getD .skip)
noncomputable def opsAt (c : Code) : Array Oper := match c with | .region _ ops _ => ops | _ => #[]
section
variable {P : Program} {Q : Exit → Act → World → Prop} {a : Act} {w : World} {c : Code}
theorem sy_enter {f : FuncId} {fn : Func} {args : Array Value} {R : Ending → World → Prop} (c : Code) (a : Act) (hf : P.funcs[f]? = some fn) (hb : fn.body = some c)
    (ha : ({ tmps := args ++ Array.replicate (fn.ntmps - args.size) undef, defers := [] } : Act) = a) (h : c.wp P (bodyPost P fn R) a w) : Calls P f args w R :=
  calls_of_wp hf hb (ha ▸ h)
theorem sy_seq (x y : Code) (hc : c = .seq x y) (h : x.wp P (Exit.then (y.wp P Q) Q) a w) : c.wp P Q a w := hc ▸ wp_seq h
theorem sy_block (id : Nat) (x : Code) (hc : c = .block id x) (h : x.wp P (Exit.inBlock id Q) a w) : c.wp P Q a w := hc ▸ wp_block h
theorem sy_yes (o : Operand) (x y : Code) (hc : c = .cond o x y) (ho : a.eval o = .bool true) (h : x.wp P Q a w) : c.wp P Q a w := hc ▸ wp_cond_true ho h
theorem sy_no (o : Operand) (x y : Code) (hc : c = .cond o x y) (ho : a.eval o = .bool false) (h : y.wp P Q a w) : c.wp P Q a w := hc ▸ wp_cond_false ho h
theorem sy_skip (hc : c = .skip) (h : Q .normal a w) : c.wp P Q a w := hc ▸ wp_skip h
theorem sy_exit (id : Nat) (hc : c = .exit id) (h : Q (.exit id) a w) : c.wp P Q a w := hc ▸ wp_exit h
theorem sy_ret (hc : c = .ret) (h : Q .ret a w) : c.wp P Q a w := hc ▸ wp_ret h
theorem sy_loop (x : Code) (I : Act → World → Prop) (μ : Act → World → Nat) (hc : c = .loop x) (h0 : I a w)
    (round : ∀ a w, I a w → x.wp P (Exit.then (fun a' w' => I a' w' ∧ μ a' w' < μ a w) Q) a w) : c.wp P Q a w := hc ▸ wp_loop I μ h0 round
/-- What is left of a plain region; of one whose order is open: of its head, of its tail. (Wrapped: else the walk would reckon it.) -/
structure Gops (P : Program) (ops : Array Oper) (Q : Exit → Act → World → Prop) (l : List Nat) (a : Act) (w : World) : Prop where
  out : wpOps P ops Q l a w
structure Gst (P : Program) (ops : Array Oper) (w : World) (K : Act → Prop) (l : List Oper) (a : Act) : Prop where
  out : wpStill P ops w K l a
structure Gls (P : Program) (ops : Array Oper) (Q : Exit → Act → World → Prop) (l : List Oper) (a : Act) (w : World) : Prop where
  out : wpList P ops Q l a w
/-- What a region asks. -/
def RegW (P : Program) (c : Code) (Q : Exit → Act → World → Prop) (a : Act) (w : World) : Prop :=
  (∃ id ops, c = .region id ops false ∧ wpOps P ops Q (List.range ops.size) a w) ∨
  (∃ id ops, c = .region id ops true ∧ P.follows .mixedOrders = true ∧ wpAny P .any ops Q ops.size (Array.replicate ops.size false) a w.drew)
theorem sy_reg (h : RegW P c Q a w) : c.wp P Q a w := by
  rcases h with ⟨id, ops, rfl, h⟩ | ⟨id, ops, rfl, hm, h⟩
  · exact wp_region h
  · exact wp_region_any hm h
theorem sy_np (h : c.wp P (NoPanic Q) a w) : c.wp P Q a w := wp_mono h NoPanic.imp
theorem rg_plain (id : Nat) (ops : Array Oper) (l : List Nat) (hc : c = .region id ops false) (hl : List.range ops.size = l) (h : Gops P ops Q l a w) : RegW P c Q a w :=
  .inl ⟨id, ops, hc, hl ▸ h.out⟩
theorem rg_held (id : Nat) (ops : Array Oper) (S : World → Prop) (n : Nat) (l : Array Bool) (hc : c = .region id ops true) (hm : P.follows .mixedOrders = true) (hn : ops.size = n) (hl : Array.replicate n false = l) (h : wpAnyH P .any ops Q S n l a w.drew) : RegW P c Q a w := by
  subst hn; subst hl; exact .inr ⟨id, ops, hc, hm, wpAny_of_held _ _ _ _ h⟩
theorem sy_act {e : Exit} (b : Act) (h : a = b) (hq : Q e b w) : Q e a w := h ▸ hq
theorem sy_a {e : Exit} (b : Act) (hq : Q e b w) (h : a = b := by kernel_rfl) : Q e a w := h ▸ hq
theorem sy_cut (R : Act → World → Prop) (h : c.wp P (fun e a w => e = .normal ∧ R a w) a w) (k : ∀ a w, R a w → Q .normal a w) : c.wp P Q a w := wp_mono h (fun _ a w ⟨h1, h2⟩ => h1 ▸ k a w h2)
theorem sy_part (c' : Code) (hc : c = c') (h : c'.wp P Q a w) : c.wp P Q a w := hc ▸ h
theorem sy_frame (b : Act) (h : a = b) (hq : c.wp P Q b w) : c.wp P Q a w := h ▸ hq
theorem then_n {next : Act → World → Prop} (h : next a w) : Exit.then next Q .normal a w := h
theorem then_e {next : Act → World → Prop} {id : Nat} (h : Q (.exit id) a w) : Exit.then next Q (.exit id) a w := h
theorem then_r {next : Act → World → Prop} (h : Q .ret a w) : Exit.then next Q .ret a w := h
theorem blk_n {id : Nat} (h : Q .normal a w) : Exit.inBlock id Q .normal a w := h
theorem blk_e {id : Nat} (h : Q .normal a w) : Exit.inBlock id Q (.exit id) a w := by simp only [Exit.inBlock, if_true]; exact h
theorem blk_p {id id' : Nat} (hne : id' ≠ id) (h : Q (.exit id') a w) : Exit.inBlock id Q (.exit id') a w := by simp only [Exit.inBlock, if_neg hne]; exact h
theorem blk_r {id : Nat} (h : Q .ret a w) : Exit.inBlock id Q .ret a w := h
theorem sy_out {fn : Func} {R : Ending → World → Prop} (v : Value) (hd : a.defers = []) (hr : (results fn a.tmps).run P w = .ok v w) (h : R (.returned v) w) : bodyPost P fn R .ret a w := ⟨hd, v, hr, h⟩
theorem sy_fall {fn : Func} {R : Ending → World → Prop} (v : Value) (hd : a.defers = []) (hr : (results fn a.tmps).run P w = .ok v w) (h : R (.returned v) w) : bodyPost P fn R .normal a w := ⟨hd, v, hr, h⟩
/-- Two results: a row, and a temporary. -/
theorem results_row_tmp {fn : Func} {p q : Tmp} {ty : TypeId} (h : fn.results = #[.cell p ty, .tmp q]) (tmps : Array Value) (w : World) (g : Nat) (t : TypeId) (cs : Array Value) (fr : Nat × Nat) (d : TypeDesc) (v : Value)
    (hp : tmps.getD p undef = .pointer (some ⟨g, 0, none⟩)) (hg : w.heap[g]? = some (.cells cs t fr))
    (hu : P.underlying ty = some d) (hd : (match d with | .struct _ | .array _ _ => true | _ => false) = true) (hi : (P.info? ty).map (·.size) = some cs.size) (hq : tmps.getD q undef = v) :
    (results fn tmps).run P w = .ok (.tuple #[.agg cs, v]) w := by
  have hp' : tmps[p]?.getD undef = .pointer (some ⟨g, 0, none⟩) := by simpa using hp
  have hq' : tmps[q]?.getD undef = v := by simpa using hq
  simp [results, h, hp', hq', asAddr, run_loadVar_row w g t ty cs fr d hg hu hd hi]
variable {ops : Array Oper} {i : Nat} {rest : List Nat}
theorem ps_end (h : Q .normal a w) : Gops P ops Q [] a w := ⟨h⟩
theorem ps_run (o : Oper) (v : Value) {w' : World} (ho : ops[i]? = some o) (hg : Region.wanted o (yielded ops a.tmps) = true) (hrun : (execOp a.eval o).run P w = .ok (.value v) w') (h : Gops P ops Q rest (a.put o.dst v) w') : Gops P ops Q (i :: rest) a w :=
  ⟨by rw [wpOps_cons]; exact opH_run o v ho hg hrun h.out⟩
theorem ps_skip (o : Oper) {w' : World} (ho : ops[i]? = some o) (hg : Region.wanted o (yielded ops a.tmps) = true) (hrun : (execOp a.eval o).run P w = .ok .skip w') (h : Gops P ops Q rest (a.put o.dst undef) w') : Gops P ops Q (i :: rest) a w := by
  refine ⟨?_⟩
  rw [wpOps_cons]
  unfold wpOp
  simp only [ho, hg, if_true]
  refine .inl ?_
  unfold Oper.wp
  rw [hrun]; exact h.out
theorem ps_no (o : Oper) (ho : ops[i]? = some o) (hg : Region.wanted o (yielded ops a.tmps) = false) (h : Gops P ops Q rest (a.put o.dst undef) w) : Gops P ops Q (i :: rest) a w := by
  refine ⟨?_⟩
  rw [wpOps_cons]
  unfold wpOp
  simp only [ho, hg, Bool.false_eq_true, if_false]
  exact h.out
theorem ps_call (o : Oper) (f : FuncId) (args : Array Value) (ho : ops[i]? = some o) (hg : Region.wanted o (yielded ops a.tmps) = true)
    (hc : o.op = .call { callee := .value (.func f), args := callArgs o, argTypes := callTypes o }) (hargs : (callArgs o).map a.eval = args) (he : ∀ args w, (callFunc f args).run P w = .ok (.enter f args) w)
    (h : Calls P f args w fun e w' => ∃ v, e = .returned v ∧ Gops P ops Q rest (a.put o.dst v) w') : Gops P ops Q (i :: rest) a w :=
  ⟨by rw [wpOps_cons]; exact opH_callF o f args ho hg hc hargs he (h.mono fun _ _ ⟨v, h1, h2⟩ => ⟨v, h1, h2.out⟩)⟩
theorem ps_callV (o : Oper) (x : Operand) (f : FuncId) (first caps args : Array Value) (ho : ops[i]? = some o) (hg : Region.wanted o (yielded ops a.tmps) = true)
    (hc : o.op = .call { callee := .value x, args := callArgs o, argTypes := callTypes o }) (hx : a.eval x = .func (.func f) first caps) (hargs : first ++ (callArgs o).map a.eval ++ caps = args) (he : ∀ args w, (callFunc f args).run P w = .ok (.enter f args) w)
    (h : Calls P f args w fun e w' => ∃ v, e = .returned v ∧ Gops P ops Q rest (a.put o.dst v) w') : Gops P ops Q (i :: rest) a w := by
  refine ⟨?_⟩
  rw [wpOps_cons]
  unfold wpOp
  simp only [ho, hg, if_true]
  refine .inl ?_
  unfold Oper.wp execOp
  simp only [hc, resolve, hx, Sem.run_bind, Deferred.ofValue, Sem.run_pure, Result.andThen_ok, invoke, hargs, he]
  refine Calls.mono h fun e w' ⟨v, he, hv⟩ => ?_
  subst he
  exact hv.out
/-! A region whose head leaves the world alone, and whose tail goes on step by step. -/
theorem rg_still (id n : Nat) (ops : Array Oper) (hd tl : List Oper) (hc : c = .region id ops true) (hm : P.follows .mixedOrders = true) (hB : Region.lexTailB .any ops n = true) (hh : ops.toList.take n = hd) (ht : ops.toList.drop n = tl)
    (h : Gst P ops w.drew (fun a' => Gls P ops Q tl a' w.drew) hd a) : RegW P c Q a w := by
  subst hh; subst ht
  have h2 : ∀ (l : List Oper) (a : Act) (K K' : Act → Prop), (∀ a, K a → K' a) → wpStill P ops w.drew K l a → wpStill P ops w.drew K' l a := by
    intro l
    induction l with
    | nil => intro a K K' hk h; exact hk a h
    | cons o r ih =>
      intro a K K' hk h
      unfold wpStill at h ⊢
      split at h
      · rename_i hw; rw [if_pos hw]; exact Oper.still_mono (fun a h => ih a K K' hk h) h
      · rename_i hw; rw [if_neg hw]; exact ih _ K K' hk h
  have h3 := h2 _ _ _ (fun a' => wpList P ops Q (ops.toList.drop n) a' w.drew) (fun _ h => h.out) h.out
  refine .inr ⟨id, ops, hc, hm, ?_⟩
  simp only [Region.lexTailB, Bool.and_eq_true, decide_eq_true_eq] at hB
  obtain ⟨⟨⟨⟨hsel, hn⟩, hs⟩, hch⟩, hlex⟩ := hB
  have htl : (ops.toList.take n).length = n := by simp; omega
  have hdl : (ops.toList.drop n).length = ops.size - n := by simp
  have inv0 : HeadInv .any ops n (Array.replicate ops.size false) := ⟨by simp, fun j oj _ hl => (by rw [getD_replicate_false] at hl; cases hl), fun t _ ht => getD_in (by simpa using ht) (getD_replicate_false _ _)⟩
  have H := wpAnyL_lex (md := .any) (g := ops.size - n) (w := w.drew) hsel hs hch hn (ops.toList.take n) 0 _ a (fun j hj => by
    have hj' : j < n := by rw [htl] at hj; exact hj
    simp [hj']) (by simpa using htl) inv0 (by rw [htl]; exact hlex) h3
  have := wpAny_of_head (Q' := Q) (g := ops.size - n) (fun listed a' hL => by
    have := wpAny_of_seq (md := .any) (Q' := Q) (ops.toList.drop n) n listed a' w.drew (fun j => by simp [List.getElem?_drop]) (by rw [hdl]; exact hL.1) hL.2
    rwa [hdl] at this) _ _ _ H
  rw [htl, show n + (ops.size - n) = ops.size by omega] at this
  exact this
section
variable {rest : List Oper} {K : Act → Prop}
theorem st_run (o : Oper) (v : Value) (hg : Region.wanted o (yielded ops a.tmps) = true) (hrun : (execOp a.eval o).run P w = .ok (.value v) w) (h : Gst P ops w K rest (a.put o.dst v)) : Gst P ops w K (o :: rest) a := by
  refine ⟨?_⟩
  unfold wpStill
  rw [if_pos hg]
  unfold Oper.still
  rw [hrun]
  exact ⟨rfl, h.out⟩
theorem st_end (h : K a) : Gst P ops w K [] a := ⟨h⟩
theorem ls_end (h : Q .normal a w) : Gls P ops Q [] a w := ⟨h⟩
theorem ls_skip (o : Oper) {w' : World} (hg : Region.wanted o (yielded ops a.tmps) = true) (hrun : (execOp a.eval o).run P w = .ok .skip w') (h : Gls P ops Q rest (a.put o.dst undef) w') : Gls P ops Q (o :: rest) a w := by
  refine ⟨?_⟩
  unfold wpList
  rw [if_pos hg]
  left
  unfold Oper.wp
  rw [hrun]; exact h.out
end
end
/-! A region whose order is open, its free operations taken first. -/
section
variable {P : Program} {Q : Exit → Act → World → Prop} {a : Act} {w : World} {ops : Array Oper} {i : Nat} {S : World → Prop} {fuel : Nat} {l : Array Bool}
structure Gany (P : Program) (ops : Array Oper) (Q : Exit → Act → World → Prop) (S : World → Prop) (fuel : Nat) (l : Array Bool) (a : Act) (w : World) : Prop where
  out : wpAnyH P .any ops Q S fuel l a w
structure Gone (P : Program) (ops : Array Oper) (Q : Exit → Act → World → Prop) (S : World → Prop) (fuel : Nat) (l : Array Bool) (i : Nat) (a : Act) (w : World) : Prop where
  out : wpOp P ops Q i (fun a' w' => S w' ∧ Gany P ops Q S fuel l a' w') a w
theorem an_begin {c : Code} (id n : Nat) (ops : Array Oper) (S : World → Prop) (l : Array Bool) (hc : c = .region id ops true) (hm : P.follows .mixedOrders = true) (hn : ops.size = n) (hl : Array.replicate n false = l) (h : Gany P ops (NoPanic Q) S n l a w.drew) : RegW P c (NoPanic Q) a w := rg_held id ops S n l hc hm hn hl h.out
theorem an_val (i : Nat) (o : Oper) (v : Value) (hs : Region.noSelect ops = true) (ho : ops[i]? = some o) (hg : Region.wanted o (yielded ops a.tmps) = true) (hf : Region.free .any ops l i = true) (hr : (Region.ready .any ops l).contains i = true)
    (hrun : ∀ W, S W → (execOp a.eval o).run P W = .ok (.value v) W) (hS : S w) (h : Gany P ops (NoPanic Q) S fuel (l.setIfInBounds i true) (a.put o.dst v) w) : Gany P ops (NoPanic Q) S (fuel + 1) l a w :=
  ⟨wpAnyH_val (i := i) o v hs (fun _ _ _ _ _ h => h) ho hg hf hr hrun hS h.out⟩
theorem an_no (i : Nat) (o : Oper) (hs : Region.noSelect ops = true) (ho : ops[i]? = some o) (hg : Region.wanted o (yielded ops a.tmps) = false) (hf : Region.free .any ops l i = true) (hr : (Region.ready .any ops l).contains i = true)
    (hS : S w) (h : Gany P ops (NoPanic Q) S fuel (l.setIfInBounds i true) (a.put o.dst undef) w) : Gany P ops (NoPanic Q) S (fuel + 1) l a w :=
  ⟨wpAnyH_skip (i := i) o hs (fun _ _ _ _ _ h => h) ho hg hf hr hS h.out⟩
theorem an_one (i : Nat) (hr : Region.ready .any ops l = [i]) (h : Gone P ops Q S fuel (l.setIfInBounds i true) i a w) : Gany P ops Q S (fuel + 1) l a w :=
  ⟨wpAnyH_all hr (by simp) fun j hj => by obtain rfl : j = i := by simpa using hj
                                          exact wpOp_mono (fun _ _ h => ⟨h.1, h.2.out⟩) h.out⟩
theorem an_two (i j : Nat) (hr : Region.ready .any ops l = [i, j]) (h1 : Gone P ops Q S fuel (l.setIfInBounds i true) i a w) (h2 : Gone P ops Q S fuel (l.setIfInBounds j true) j a w) : Gany P ops Q S (fuel + 1) l a w :=
  ⟨anyH_two i j hr (wpOp_mono (fun _ _ h => ⟨h.1, h.2.out⟩) h1.out) (wpOp_mono (fun _ _ h => ⟨h.1, h.2.out⟩) h2.out)⟩
theorem an_end (hr : Region.ready .any ops l = []) (h : Q .normal a w) : Gany P ops (NoPanic Q) S fuel l a w := ⟨wpAnyH_done hr (NoPanic.normal h) _⟩
theorem on_run (o : Oper) (v : Value) {w' : World} (ho : ops[i]? = some o) (hg : Region.wanted o (yielded ops a.tmps) = true) (hrun : (execOp a.eval o).run P w = .ok (.value v) w') (h : S w' ∧ Gany P ops Q S fuel l (a.put o.dst v) w') : Gone P ops Q S fuel l i a w :=
  ⟨opH_run o v ho hg hrun h⟩
theorem on_skip (o : Oper) {w' : World} (ho : ops[i]? = some o) (hg : Region.wanted o (yielded ops a.tmps) = true) (hrun : (execOp a.eval o).run P w = .ok .skip w') (h : S w' ∧ Gany P ops Q S fuel l (a.put o.dst undef) w') : Gone P ops Q S fuel l i a w := by
  refine ⟨?_⟩
  unfold wpOp
  simp only [ho, hg, if_true]
  refine .inl ?_
  unfold Oper.wp
  rw [hrun]; exact h
theorem on_call (o : Oper) (f : FuncId) (args : Array Value) (ho : ops[i]? = some o) (hg : Region.wanted o (yielded ops a.tmps) = true)
    (hc : o.op = .call { callee := .value (.func f), args := callArgs o, argTypes := callTypes o }) (hargs : (callArgs o).map a.eval = args) (he : ∀ args w, (callFunc f args).run P w = .ok (.enter f args) w)
    (h : Calls P f args w fun e w' => ∃ v, e = .returned v ∧ S w' ∧ Gany P ops Q S fuel l (a.put o.dst v) w') : Gone P ops Q S fuel l i a w := ⟨opH_callF o f args ho hg hc hargs he h⟩
end
/-! Runs of operations. -/
section
variable {P : Program} {o : Oper} {ρ : Operand → Value} {w : World}
theorem wrapI (x r : Int) (h : x = r) (h1 : -9223372036854775808 ≤ r) (h2 : r ≤ 9223372036854775807) : IntKind.i64.wrap x = r := by
  subst h; rw [IntKind.wrap_i64]; omega
theorem wrapN (n : Nat) (h : n ≤ 9223372036854775807) : IntKind.i64.wrap (n : Int) = (n : Int) := wrapI _ _ rfl (by omega) (by omega)
theorem exec_store_cell (ty : TypeId) (x y : Operand) (ho : o.op = .store ty x y) (b k : Nat) (hx : ρ x = .pointer (some ⟨b, k, none⟩)) (v : Value) (hy : ρ y = v) (hs : (P.info? ty).map (·.size) = some 1) (hv : v.cells = #[v])
    (old : Value) (hc : w.cell? ⟨b, k, none⟩ = some old) (hf : w.frozen? ⟨b, k, none⟩ = false) (h1 : v.oneCell' = true) : (execOp ρ o).run P w = .ok .skip (w.setCell ⟨b, k, none⟩ v) := by
  obtain ⟨i, hi, h2⟩ := Option.map_eq_some_iff.1 hs
  unfold execOp
  simp only [ho, hx, hy, Instr.storeAt, Instr.sureAddr, Sem.run_bind, Sem.run_pure, Result.andThen_ok, storeVar, hv, sizeOf, typeInfo]
  simp [go_sem, hi, h2, storeCells, run_store _ _ _ _ _ h1, Addr.add_lit, stored, hc, hf, Result.andThen]
theorem exec_indexAt_slice (t : TypeId) (x y : Operand) (ho : o.op = .indexAddr t x y) (b of : Nat) (n cap : Nat) (hx : ρ x = .slice (some ⟨b, of, none⟩) n cap) (kd : IntKind) (k : Nat) (hy : ρ y = .int kd (k : Int)) (e : TypeId) (size : Nat) (hu : P.underlying t = some (.slice e))
    (hs : (P.info? e).map (·.size) = some size) (hk : k < n) : (execOp ρ o).run P w = .ok (.value (.pointer (some ⟨b, of + k * size, none⟩))) w := by
  obtain ⟨i, hi, rfl⟩ := Option.map_eq_some_iff.1 hs
  unfold execOp
  simp [ho, hx, hy, Instr.indexAt, asIntOf, run_underlying hu, Instr.sureAddr, go_sem, hk, sizeOf, typeInfo, hi, Addr.add]
theorem exec_box (t : TypeId) (x : Operand) (ho : o.op = .box t x) (v : Value) (hx : ρ x = v) : (execOp ρ o).run P w = .ok (.value (.pointer (some ⟨w.heap.size, 0, none⟩))) (w.alloc (.cells v.cells t)) := by
  unfold execOp
  simp only [ho, hx, Instr.box, Sem.run_bind, Result.andThen_ok, Sem.run_pure]
  simp [go_sem]
/-- A new variable at its zero value. -/
theorem exec_alloc0 (t : TypeId) (ho : o.op = .alloc t) (z : Value) (hr : (zeroValue t).run P w = .ok z w) :
    (execOp ρ o).run P w = .ok (.value (.pointer (some ⟨w.heap.size, 0, none⟩))) (w.alloc (.cells z.cells t)) := by
  unfold execOp
  simp only [ho, Instr.alloc, Sem.run_bind, hr, Result.andThen_ok, Sem.run_pure]
  simp [go_sem]
theorem exec_len (x : Operand) (t e : TypeId) (ho : o.op = .call { callee := .builtin .len, args := #[x], argTypes := #[t] }) (ht : P.underlying t = some (.slice e)) (A : Option Addr) (n cap : Nat) (hx : ρ x = .slice A n cap) : (execOp ρ o).run P w = .ok (.value (.int .i64 (n : Int))) w := by
  unfold execOp
  simp [ho, hx, resolve, invoke, builtin, Builtin.len_, run_underlying ht, go_sem]
end
/-! The same laws, short: what the kernel reckons stands behind. -/
section
variable {P : Program} {Q : Exit → Act → World → Prop} {a : Act} {w : World} {ops : Array Oper} {i : Nat} {rest : List Nat}
theorem ent {f : FuncId} {fn : Func} (hf : P.funcs[f]? = some fn) (hn : (fn.name == "runtime.NumGoroutine") = false) (hb : fn.body.isSome = true) : ∀ args w, (callFunc f args).run P w = .ok (.enter f args) w := by
  obtain ⟨c, hc⟩ := Option.isSome_iff_exists.1 hb
  exact Go.Proofs.enters_of hf hn hc
end
section
variable {P : Program} {w : World} {a : Act} {ops : Array Oper} {rest : List Oper} {K : Act → Prop}
end
section
variable {P : Program} {Q : Exit → Act → World → Prop} {a : Act} {w : World} {ops : Array Oper} {i : Nat} {S : World → Prop} {fuel : Nat} {l : Array Bool}
theorem an_o (i : Nat) (h : Gone P ops Q S fuel (l.setIfInBounds i true) i a w) (hr : Region.ready .any ops l = [i] := by kernel_rfl) : Gany P ops Q S (fuel + 1) l a w := an_one i hr h
end
section
variable {P : Program} {o : Oper} {ρ : Operand → Value} {w : World}
theorem rc {g j : Nat} {cs : Array Value} {t : TypeId} {fr : Nat × Nat} {v : Value} (hg : w.heap[g]? = some (.cells cs t fr)) (h : cs[j]? = some v) : w.cell? ⟨g, j, none⟩ = some v := (cell_of_row _ _ _ _ _ _ hg).trans h
theorem dct (p : Prop) [Decidable p] (h : p) (hr : (execOp ρ o).run P w = .ok (.value (.bool (decide p))) w := by kernel_rfl) : (execOp ρ o).run P w = .ok (.value (.bool true)) w := by rw [decide_eq_true h] at hr; exact hr
theorem dcf (p : Prop) [Decidable p] (h : ¬ p) (hr : (execOp ρ o).run P w = .ok (.value (.bool (decide p))) w := by kernel_rfl) : (execOp ρ o).run P w = .ok (.value (.bool false)) w := by rw [decide_eq_false h] at hr; exact hr
theorem eqt (x y : Int) (h : x = y) (hr : (execOp ρ o).run P w = .ok (.value (.bool (x == y))) w := by kernel_rfl) : (execOp ρ o).run P w = .ok (.value (.bool true)) w := by rw [beq_iff_eq.2 h] at hr; exact hr
theorem eqf (x y : Int) (h : ¬ x = y) (hr : (execOp ρ o).run P w = .ok (.value (.bool (x == y))) w := by kernel_rfl) : (execOp ρ o).run P w = .ok (.value (.bool false)) w := by rw [beq_eq_false_iff_ne.2 h] at hr; exact hr
theorem nqt (x y : Int) (h : ¬ x = y) (hr : (execOp ρ o).run P w = .ok (.value (.bool (x != y))) w := by kernel_rfl) : (execOp ρ o).run P w = .ok (.value (.bool true)) w := by rw [bne_iff_ne.2 h] at hr; exact hr
theorem nqf (x y : Int) (h : x = y) (hr : (execOp ρ o).run P w = .ok (.value (.bool (x != y))) w := by kernel_rfl) : (execOp ρ o).run P w = .ok (.value (.bool false)) w := by rw [bne_eq_false_iff_eq.2 h] at hr; exact hr
end
end Go.Own
namespace Go.Own
open Go Go.RowKit Go.Shelf
abbrev ud : Value := undef
section
variable {P : Program} {Q : Exit → Act → World → Prop} {a : Act} {w : World} {c : Code}
end
section
variable {P : Program} {Q : Exit → Act → World → Prop} {a : Act} {w : World} {ops : Array Oper} {i : Nat} {rest : List Nat}
theorem pkq (v : Value) (h : Gops P ops Q rest (a.put (ops.getD i default).dst v) w) (ho : ops[i]? = some (ops.getD i default) := by kernel_rfl) (hg : Region.wanted (ops.getD i default) (yielded ops a.tmps) = true := by kernel_rfl) (hrun : (execOp a.eval (ops.getD i default)).run P w = .ok (.value v) w := by kernel_rfl) : Gops P ops Q (i :: rest) a w := ps_run _ v ho hg hrun h
theorem ppq (v : Value) (hrun : (execOp a.eval (ops.getD i default)).run P w = .ok (.value v) w) (h : Gops P ops Q rest (a.put (ops.getD i default).dst v) w) (ho : ops[i]? = some (ops.getD i default) := by kernel_rfl) (hg : Region.wanted (ops.getD i default) (yielded ops a.tmps) = true := by kernel_rfl) : Gops P ops Q (i :: rest) a w := ps_run _ v ho hg hrun h
theorem pnq (h : Gops P ops Q rest (a.put (ops.getD i default).dst undef) w) (ho : ops[i]? = some (ops.getD i default) := by kernel_rfl) (hg : Region.wanted (ops.getD i default) (yielded ops a.tmps) = false := by kernel_rfl) : Gops P ops Q (i :: rest) a w := ps_no _ ho hg h
theorem prq (v : Value) {w' : World} (hrun : (execOp a.eval (ops.getD i default)).run P w = .ok (.value v) w') (h : Gops P ops Q rest (a.put (ops.getD i default).dst v) w') (ho : ops[i]? = some (ops.getD i default) := by kernel_rfl) (hg : Region.wanted (ops.getD i default) (yielded ops a.tmps) = true := by kernel_rfl) : Gops P ops Q (i :: rest) a w := ps_run _ v ho hg hrun h
theorem pzq {w' : World} (hrun : (execOp a.eval (ops.getD i default)).run P w = .ok .skip w') (h : Gops P ops Q rest (a.put (ops.getD i default).dst undef) w') (ho : ops[i]? = some (ops.getD i default) := by kernel_rfl) (hg : Region.wanted (ops.getD i default) (yielded ops a.tmps) = true := by kernel_rfl) : Gops P ops Q (i :: rest) a w := ps_skip _ ho hg hrun h
theorem pcq (f : FuncId) (args : Array Value) {fn : Func} (hf : P.funcs[f]? = some fn) (h : Calls P f args w fun e w' => ∃ v, e = .returned v ∧ Gops P ops Q rest (a.put (ops.getD i default).dst v) w') (ho : ops[i]? = some (ops.getD i default) := by kernel_rfl) (hg : Region.wanted (ops.getD i default) (yielded ops a.tmps) = true := by kernel_rfl)
    (hc : (ops.getD i default).op = .call { callee := .value (.func f), args := callArgs (ops.getD i default), argTypes := callTypes (ops.getD i default) } := by kernel_rfl) (hargs : (callArgs (ops.getD i default)).map a.eval = args := by kernel_rfl) (hn : (fn.name == "runtime.NumGoroutine") = false := by kernel_rfl) (hb : fn.body.isSome = true := by kernel_rfl) : Gops P ops Q (i :: rest) a w :=
  ps_call _ f args ho hg hc hargs (ent hf hn hb) h
end
section
variable {P : Program} {w : World} {a : Act} {ops : Array Oper} {rest : List Oper} {K : Act → Prop} {o : Oper}
theorem skq (v : Value) (h : Gst P ops w K rest (a.put o.dst v)) (hg : Region.wanted o (yielded ops a.tmps) = true := by kernel_rfl) (hrun : (execOp a.eval o).run P w = .ok (.value v) w := by kernel_rfl) : Gst P ops w K (o :: rest) a := st_run o v hg hrun h
theorem spq (v : Value) (hrun : (execOp a.eval o).run P w = .ok (.value v) w) (h : Gst P ops w K rest (a.put o.dst v)) (hg : Region.wanted o (yielded ops a.tmps) = true := by kernel_rfl) : Gst P ops w K (o :: rest) a := st_run o v hg hrun h
end
section
variable {P : Program} {Q : Exit → Act → World → Prop} {a : Act} {w : World} {ops : Array Oper} {i : Nat} {S : World → Prop} {fuel : Nat} {l : Array Bool}
theorem avq (i : Nat) (v : Value) (hrun : ∀ W, S W → (execOp a.eval (ops.getD i default)).run P W = .ok (.value v) W) (hS : S w) (h : Gany P ops (NoPanic Q) S fuel (l.setIfInBounds i true) (a.put (ops.getD i default).dst v) w) (hs : Region.noSelect ops = true := by kernel_rfl) (ho : ops[i]? = some (ops.getD i default) := by kernel_rfl)
    (hg : Region.wanted (ops.getD i default) (yielded ops a.tmps) = true := by kernel_rfl) (hf : Region.free .any ops l i = true := by kernel_rfl) (hr : (Region.ready .any ops l).contains i = true := by kernel_rfl) : Gany P ops (NoPanic Q) S (fuel + 1) l a w := an_val i _ v hs ho hg hf hr hrun hS h
theorem akq (i : Nat) (v : Value) (hS : S w) (h : Gany P ops (NoPanic Q) S fuel (l.setIfInBounds i true) (a.put (ops.getD i default).dst v) w) (hrun : ∀ W, (execOp a.eval (ops.getD i default)).run P W = .ok (.value v) W := by intro W; kernel_rfl) (hs : Region.noSelect ops = true := by kernel_rfl) (ho : ops[i]? = some (ops.getD i default) := by kernel_rfl)
    (hg : Region.wanted (ops.getD i default) (yielded ops a.tmps) = true := by kernel_rfl) (hf : Region.free .any ops l i = true := by kernel_rfl) (hr : (Region.ready .any ops l).contains i = true := by kernel_rfl) : Gany P ops (NoPanic Q) S (fuel + 1) l a w := an_val i _ v hs ho hg hf hr (fun W _ => hrun W) hS h
theorem anq (i : Nat) (hS : S w) (h : Gany P ops (NoPanic Q) S fuel (l.setIfInBounds i true) (a.put (ops.getD i default).dst undef) w) (hs : Region.noSelect ops = true := by kernel_rfl) (ho : ops[i]? = some (ops.getD i default) := by kernel_rfl)
    (hg : Region.wanted (ops.getD i default) (yielded ops a.tmps) = false := by kernel_rfl) (hf : Region.free .any ops l i = true := by kernel_rfl) (hr : (Region.ready .any ops l).contains i = true := by kernel_rfl) : Gany P ops (NoPanic Q) S (fuel + 1) l a w := an_no i _ hs ho hg hf hr hS h
theorem nrq (v : Value) {w' : World} (hrun : (execOp a.eval (ops.getD i default)).run P w = .ok (.value v) w') (h : S w' ∧ Gany P ops Q S fuel l (a.put (ops.getD i default).dst v) w') (ho : ops[i]? = some (ops.getD i default) := by kernel_rfl) (hg : Region.wanted (ops.getD i default) (yielded ops a.tmps) = true := by kernel_rfl) : Gone P ops Q S fuel l i a w := on_run _ v ho hg hrun h
theorem nzq {w' : World} (hrun : (execOp a.eval (ops.getD i default)).run P w = .ok .skip w') (h : S w' ∧ Gany P ops Q S fuel l (a.put (ops.getD i default).dst undef) w') (ho : ops[i]? = some (ops.getD i default) := by kernel_rfl) (hg : Region.wanted (ops.getD i default) (yielded ops a.tmps) = true := by kernel_rfl) : Gone P ops Q S fuel l i a w := on_skip _ ho hg hrun h
theorem ncq (f : FuncId) (args : Array Value) {fn : Func} (hf : P.funcs[f]? = some fn) (h : Calls P f args w fun e w' => ∃ v, e = .returned v ∧ S w' ∧ Gany P ops Q S fuel l (a.put (ops.getD i default).dst v) w') (ho : ops[i]? = some (ops.getD i default) := by kernel_rfl) (hg : Region.wanted (ops.getD i default) (yielded ops a.tmps) = true := by kernel_rfl)
    (hc : (ops.getD i default).op = .call { callee := .value (.func f), args := callArgs (ops.getD i default), argTypes := callTypes (ops.getD i default) } := by kernel_rfl) (hargs : (callArgs (ops.getD i default)).map a.eval = args := by kernel_rfl) (hn : (fn.name == "runtime.NumGoroutine") = false := by kernel_rfl) (hb : fn.body.isSome = true := by kernel_rfl) : Gone P ops Q S fuel l i a w :=
  on_call _ f args ho hg hc hargs (ent hf hn hb) h
end
section
variable {P : Program} {Q : Exit → Act → World → Prop} {a : Act} {w : World} {f : Func} {n : Nat} {ops : Array Oper}
/-! The code's parts by their places: the left one of n is 2 n, the right one 2 n + 1. -/
def condO : Code → Operand
  | .cond o _ _ => o
  | _ => .const undef
def regI : Code → Nat
  | .region i _ _ => i
  | _ => 0
theorem q_ (h : (partOf f (2 * n)).wp P (Exit.then ((partOf f (2 * n + 1)).wp P Q) Q) a w) (hc : partOf f n = .seq (partOf f (2 * n)) (partOf f (2 * n + 1)) := by kernel_rfl) : (partOf f n).wp P Q a w := sy_seq _ _ hc h
theorem r_ (l : List Nat) (h : Gops P (opsAt (partOf f n)) Q l a w) (hc : partOf f n = .region (regI (partOf f n)) (opsAt (partOf f n)) false := by kernel_rfl) (hl : List.range (opsAt (partOf f n)).size = l := by kernel_rfl) : (partOf f n).wp P Q a w := sy_reg (rg_plain _ _ l hc hl h)
theorem qr_ (l : List Nat) (h : Gops P (opsAt (partOf f (2 * n))) (Exit.then ((partOf f (2 * n + 1)).wp P Q) Q) l a w) (hc : partOf f n = .seq (partOf f (2 * n)) (partOf f (2 * n + 1)) := by kernel_rfl) (hr : partOf f (2 * n) = .region (regI (partOf f (2 * n))) (opsAt (partOf f (2 * n))) false := by kernel_rfl) (hl : List.range (opsAt (partOf f (2 * n))).size = l := by kernel_rfl) : (partOf f n).wp P Q a w := sy_seq _ _ hc (sy_reg (rg_plain _ _ l hr hl h))
theorem y_ (h : (partOf f (2 * n)).wp P Q a w) (hc : partOf f n = .cond (condO (partOf f n)) (partOf f (2 * n)) (partOf f (2 * n + 1)) := by kernel_rfl) (ho : a.eval (condO (partOf f n)) = .bool true := by kernel_rfl) : (partOf f n).wp P Q a w := sy_yes _ _ _ hc ho h
theorem n_ (h : (partOf f (2 * n + 1)).wp P Q a w) (hc : partOf f n = .cond (condO (partOf f n)) (partOf f (2 * n)) (partOf f (2 * n + 1)) := by kernel_rfl) (ho : a.eval (condO (partOf f n)) = .bool false := by kernel_rfl) : (partOf f n).wp P Q a w := sy_no _ _ _ hc ho h
theorem b_ (id : Nat) (h : (partOf f (2 * n)).wp P (Exit.inBlock id Q) a w) (hc : partOf f n = .block id (partOf f (2 * n)) := by kernel_rfl) : (partOf f n).wp P Q a w := sy_block id _ hc h
theorem s_ (h : Q .normal a w) (hc : partOf f n = .skip := by kernel_rfl) : (partOf f n).wp P Q a w := sy_skip hc h
theorem u_ (h : Q .ret a w) (hc : partOf f n = .ret := by kernel_rfl) : (partOf f n).wp P Q a w := sy_ret hc h
theorem et_ {next : Act → World → Prop} (h : next a w) : Gops P ops (Exit.then next Q) [] a w := ps_end (then_n h)
theorem eq_ (h : (partOf f (2 * n)).wp P (Exit.then ((partOf f (2 * n + 1)).wp P Q) Q) a w) (hc : partOf f n = .seq (partOf f (2 * n)) (partOf f (2 * n + 1)) := by kernel_rfl) : Gops P ops (Exit.then ((partOf f n).wp P Q) Q) [] a w := et_ (q_ h hc)
theorem er_ (l : List Nat) (h : Gops P (opsAt (partOf f n)) Q l a w) (hc : partOf f n = .region (regI (partOf f n)) (opsAt (partOf f n)) false := by kernel_rfl) (hl : List.range (opsAt (partOf f n)).size = l := by kernel_rfl) : Gops P ops (Exit.then ((partOf f n).wp P Q) Q) [] a w := et_ (r_ l h hc hl)
theorem eqr_ (l : List Nat) (h : Gops P (opsAt (partOf f (2 * n))) (Exit.then ((partOf f (2 * n + 1)).wp P Q) Q) l a w) (hc : partOf f n = .seq (partOf f (2 * n)) (partOf f (2 * n + 1)) := by kernel_rfl) (hr : partOf f (2 * n) = .region (regI (partOf f (2 * n))) (opsAt (partOf f (2 * n))) false := by kernel_rfl) (hl : List.range (opsAt (partOf f (2 * n))).size = l := by kernel_rfl) : Gops P ops (Exit.then ((partOf f n).wp P Q) Q) [] a w := et_ (qr_ l h hc hr hl)
theorem ey_ (h : (partOf f (2 * n)).wp P Q a w) (hc : partOf f n = .cond (condO (partOf f n)) (partOf f (2 * n)) (partOf f (2 * n + 1)) := by kernel_rfl) (ho : a.eval (condO (partOf f n)) = .bool true := by kernel_rfl) : Gops P ops (Exit.then ((partOf f n).wp P Q) Q) [] a w := et_ (y_ h hc ho)
theorem en_ (h : (partOf f (2 * n + 1)).wp P Q a w) (hc : partOf f n = .cond (condO (partOf f n)) (partOf f (2 * n)) (partOf f (2 * n + 1)) := by kernel_rfl) (ho : a.eval (condO (partOf f n)) = .bool false := by kernel_rfl) : Gops P ops (Exit.then ((partOf f n).wp P Q) Q) [] a w := et_ (n_ h hc ho)
theorem eu_ (h : Q .ret a w) (hc : partOf f n = .ret := by kernel_rfl) : Gops P ops (Exit.then ((partOf f n).wp P Q) Q) [] a w := et_ (u_ h hc)
theorem tq_ (h : (partOf f (2 * n)).wp P (Exit.then ((partOf f (2 * n + 1)).wp P Q) Q) a w) (hc : partOf f n = .seq (partOf f (2 * n)) (partOf f (2 * n + 1)) := by kernel_rfl) : Exit.then ((partOf f n).wp P Q) Q .normal a w := then_n (q_ h hc)
theorem tr_ (l : List Nat) (h : Gops P (opsAt (partOf f n)) Q l a w) (hc : partOf f n = .region (regI (partOf f n)) (opsAt (partOf f n)) false := by kernel_rfl) (hl : List.range (opsAt (partOf f n)).size = l := by kernel_rfl) : Exit.then ((partOf f n).wp P Q) Q .normal a w := then_n (r_ l h hc hl)
theorem tqr_ (l : List Nat) (h : Gops P (opsAt (partOf f (2 * n))) (Exit.then ((partOf f (2 * n + 1)).wp P Q) Q) l a w) (hc : partOf f n = .seq (partOf f (2 * n)) (partOf f (2 * n + 1)) := by kernel_rfl) (hr : partOf f (2 * n) = .region (regI (partOf f (2 * n))) (opsAt (partOf f (2 * n))) false := by kernel_rfl) (hl : List.range (opsAt (partOf f (2 * n))).size = l := by kernel_rfl) : Exit.then ((partOf f n).wp P Q) Q .normal a w := then_n (qr_ l h hc hr hl)
theorem so_ {fn : Func} {R : Ending → World → Prop} (v : Value) (h : R (.returned v) w) (hd : a.defers = [] := by rfl) (hr : (results fn a.tmps).run P w = .ok v w := by kernel_rfl) : bodyPost P fn R .ret a w := sy_out v hd hr h
end
section
variable {P : Program} {Q : Exit → Act → World → Prop} {a : Act} {w : World} {ops : Array Oper} {i : Nat} {rest : List Nat} {S : World → Prop} {fuel : Nat} {l : Array Bool}
def boxX : Op → Operand
  | .box _ x => x
  | _ => .const undef
def stoX : Op → Operand
  | .store _ x _ => x
  | _ => .const undef
def stoY : Op → Operand
  | .store _ _ y => y
  | _ => .const undef
def ldX : Op → Operand
  | .load _ x => x
  | _ => .const undef
def isRow (P : Program) (T : TypeId) : Bool := match P.underlying T with | some d => (match d with | .struct _ | .array _ _ => true | _ => false) | none => false
def notRow (P : Program) (T : TypeId) : Bool := match P.underlying T with | some d => (match d with | .struct _ | .array _ _ => false | _ => true) | none => false
theorem pal (T : TypeId) (c : Array Value) (z : Value) (h : ∀ V g, w.heap.size = g → V.heap[g]? = some (.cells c T (0, 0)) → Keeps Nob w V → Gops P ops Q rest (a.put (ops.getD i default).dst (pT g 0)) V) (h1 : (ops.getD i default).op = .alloc T := by kernel_rfl) (h2 : ∀ W, (zeroValue T).run P W = .ok z W := by intro W; kernel_rfl) (h3 : z.cells = c := by kernel_rfl) (ho : ops[i]? = some (ops.getD i default) := by kernel_rfl) (hg : Region.wanted (ops.getD i default) (yielded ops a.tmps) = true := by kernel_rfl) : Gops P ops Q (i :: rest) a w := by
  obtain ⟨V, eV, g, eg, hh, k⟩ := alloc_step w c T
  refine ps_run _ (pT g 0) (w' := V) ho hg ?_ (h V g eg hh k)
  subst h3; rw [← eV, ← eg]; exact exec_alloc0 T h1 z (h2 w)
theorem nal (T : TypeId) (c : Array Value) (z : Value) (h : ∀ V g, w.heap.size = g → V.heap[g]? = some (.cells c T (0, 0)) → Keeps Nob w V → S V ∧ Gany P ops Q S fuel l (a.put (ops.getD i default).dst (pT g 0)) V) (h1 : (ops.getD i default).op = .alloc T := by kernel_rfl) (h2 : ∀ W, (zeroValue T).run P W = .ok z W := by intro W; kernel_rfl) (h3 : z.cells = c := by kernel_rfl) (ho : ops[i]? = some (ops.getD i default) := by kernel_rfl) (hg : Region.wanted (ops.getD i default) (yielded ops a.tmps) = true := by kernel_rfl) : Gone P ops Q S fuel l i a w := by
  obtain ⟨V, eV, g, eg, hh, k⟩ := alloc_step w c T
  refine on_run _ (pT g 0) (w' := V) ho hg ?_ (h V g eg hh k)
  subst h3; rw [← eV, ← eg]; exact exec_alloc0 T h1 z (h2 w)
theorem pbx (T : TypeId) (c : Array Value) (v : Value) (h : ∀ V g, w.heap.size = g → V.heap[g]? = some (.cells c T (0, 0)) → Keeps Nob w V → Gops P ops Q rest (a.put (ops.getD i default).dst (pT g 0)) V) (h1 : (ops.getD i default).op = .box T (boxX (ops.getD i default).op) := by kernel_rfl) (h2 : a.eval (boxX (ops.getD i default).op) = v := by kernel_rfl) (h3 : v.cells = c := by kernel_rfl) (ho : ops[i]? = some (ops.getD i default) := by kernel_rfl) (hg : Region.wanted (ops.getD i default) (yielded ops a.tmps) = true := by kernel_rfl) : Gops P ops Q (i :: rest) a w := by
  obtain ⟨V, eV, g, eg, hh, k⟩ := alloc_step w c T
  refine ps_run _ (pT g 0) (w' := V) ho hg ?_ (h V g eg hh k)
  subst h3; rw [← eV, ← eg]; exact exec_box T _ h1 v h2
theorem pst (T : TypeId) (g : Nat) (c : Array Value) {T' : TypeId} {old : Array Value} (h0 : w.heap[g]? = some (.cells old T' (0, 0))) (hi : (P.info? T).map (·.size) = some c.size) (hold : old.size = c.size) (hone : c.all (·.oneCell') = true) (h : ∀ V, V.heap[g]? = some (.cells c T' (0, 0)) → Keeps (One g) w V → Gops P ops Q rest (a.put (ops.getD i default).dst undef) V) (h1 : (ops.getD i default).op = .store T (stoX (ops.getD i default).op) (stoY (ops.getD i default).op) := by kernel_rfl) (hx : a.eval (stoX (ops.getD i default).op) = pT g 0 := by kernel_rfl) (hy : a.eval (stoY (ops.getD i default).op) = .agg c := by kernel_rfl) (ho : ops[i]? = some (ops.getD i default) := by kernel_rfl) (hg : Region.wanted (ops.getD i default) (yielded ops a.tmps) = true := by kernel_rfl) : Gops P ops Q (i :: rest) a w := by
  obtain ⟨V, eV, k⟩ := rowset_step w g c
  refine ps_skip _ (w' := V) ho hg ?_ (h V (eV ▸ setRow_heap _ _ _ _ _ _ h0) k)
  rw [← eV]; exact exec_store_row T _ _ h1 g c hx hy T' old h0 hi hold hone
theorem nst (T : TypeId) (g : Nat) (c : Array Value) {T' : TypeId} {old : Array Value} (h0 : w.heap[g]? = some (.cells old T' (0, 0))) (hi : (P.info? T).map (·.size) = some c.size) (hold : old.size = c.size) (hone : c.all (·.oneCell') = true) (h : ∀ V, V.heap[g]? = some (.cells c T' (0, 0)) → Keeps (One g) w V → S V ∧ Gany P ops Q S fuel l (a.put (ops.getD i default).dst undef) V) (h1 : (ops.getD i default).op = .store T (stoX (ops.getD i default).op) (stoY (ops.getD i default).op) := by kernel_rfl) (hx : a.eval (stoX (ops.getD i default).op) = pT g 0 := by kernel_rfl) (hy : a.eval (stoY (ops.getD i default).op) = .agg c := by kernel_rfl) (ho : ops[i]? = some (ops.getD i default) := by kernel_rfl) (hg : Region.wanted (ops.getD i default) (yielded ops a.tmps) = true := by kernel_rfl) : Gone P ops Q S fuel l i a w := by
  obtain ⟨V, eV, k⟩ := rowset_step w g c
  refine on_skip _ (w' := V) ho hg ?_ (h V (eV ▸ setRow_heap _ _ _ _ _ _ h0) k)
  rw [← eV]; exact exec_store_row T _ _ h1 g c hx hy T' old h0 hi hold hone
theorem pce (T : TypeId) (g k : Nat) (v : Value) (new : Array Value) {T' : TypeId} {old : Array Value} {u : Value} (h0 : w.heap[g]? = some (.cells old T' (0, 0))) (hu : w.cell? ⟨g, k, none⟩ = some u) (hup : old.setIfInBounds k v = new) (h : ∀ V, V.heap[g]? = some (.cells new T' (0, 0)) → Keeps (One g) w V → Gops P ops Q rest (a.put (ops.getD i default).dst undef) V) (h1 : (ops.getD i default).op = .store T (stoX (ops.getD i default).op) (stoY (ops.getD i default).op) := by kernel_rfl) (hx : a.eval (stoX (ops.getD i default).op) = pT g k := by kernel_rfl) (hy : a.eval (stoY (ops.getD i default).op) = v := by kernel_rfl) (hs : (P.info? T).map (·.size) = some 1 := by kernel_rfl) (hv : v.cells = #[v] := by kernel_rfl) (hone : v.oneCell' = true := by kernel_rfl) (ho : ops[i]? = some (ops.getD i default) := by kernel_rfl) (hg : Region.wanted (ops.getD i default) (yielded ops a.tmps) = true := by kernel_rfl) : Gops P ops Q (i :: rest) a w := by
  obtain ⟨V, eV, kk⟩ := cell_step w g k v
  refine ps_skip _ (w' := V) ho hg ?_ (h V (eV ▸ ((heap_setCell_same _ g k _ _ v h0).trans (congrArg (fun c => some (Obj.cells c T' (0, 0))) hup))) kk)
  rw [← eV]; exact exec_store_cell T _ _ h1 g k hx v hy hs hv u hu (frozen_of_row _ _ _ _ _ h0) hone
theorem ldr {o : Oper} {ρ : Operand → Value} {W : World} (T : TypeId) (g : Nat) {T' : TypeId} {cs : Array Value} (h0 : W.heap[g]? = some (.cells cs T' (0, 0))) (hi : (P.info? T).map (·.size) = some cs.size) (h1 : o.op = .load T (ldX o.op) := by kernel_rfl) (hx : ρ (ldX o.op) = pT g 0 := by kernel_rfl) (hd : isRow P T = true := by kernel_rfl) : (execOp ρ o).run P W = .ok (.value (.agg cs)) W := by
  unfold isRow at hd
  cases hu : P.underlying T with
  | none => rw [hu] at hd; cases hd
  | some d => rw [hu] at hd; exact exec_load_row T _ h1 g hx _ _ (0, 0) d h0 hu (by cases d <;> exact hd) hi
theorem ldc {o : Oper} {ρ : Operand → Value} {W : World} (T : TypeId) (g k : Nat) {v : Value} (hc : W.cell? ⟨g, k, none⟩ = some v) (h1 : o.op = .load T (ldX o.op) := by kernel_rfl) (hx : ρ (ldX o.op) = pT g k := by kernel_rfl) (hd : notRow P T = true := by kernel_rfl) : (execOp ρ o).run P W = .ok (.value v) W := by
  unfold notRow at hd
  cases hu : P.underlying T with
  | none => rw [hu] at hd; cases hd
  | some d => rw [hu] at hd; exact exec_load_cell T _ h1 _ hx d v hu (by cases d <;> exact hd) hc
theorem ldk {o : Oper} {ρ : Operand → Value} {W : World} (T : TypeId) (g k : Nat) {v : Value} {cs : Array Value} {T' : TypeId} (h0 : W.heap[g]? = some (.cells cs T' (0, 0))) (hc : cs[k]? = some v := by kernel_rfl) (h1 : o.op = .load T (ldX o.op) := by kernel_rfl) (hx : ρ (ldX o.op) = pT g k := by kernel_rfl) (hd : notRow P T = true := by kernel_rfl) : (execOp ρ o).run P W = .ok (.value v) W := ldc T g k (rc h0 hc) h1 hx hd
theorem _root_.Go.Own.Keeps.bO {g j : Nat} {W W' : World} (k : Keeps (One j) W W') {x : Obj} (h : W.heap[g]? = some x) (hne : g ≠ j := by omega) : W'.heap[g]? = some x := k.bo h hne
theorem _root_.Go.Own.Keeps.nO {M : Nat → Prop} {g : Nat} {w V V' : World} (K : Keeps M w V) (k : Keeps (One g) V V') (h : w.heap.size ≤ g := by omega) : Keeps M w V' := K.no k h
end
end Go.Own
namespace Go.Own
set_option maxRecDepth 100000
set_option maxHeartbeats 4000000
open Go Go.RowKit Go.Shelf
section
variable {P : Program} {o : Oper} {ρ : Operand → Value} {w : World}
theorem exec_append (s x : Operand) (t : TypeId) (ho : o.op = .call { callee := .builtin .append, args := #[s, x], argTypes := #[t, t] }) (vs vx : Value) (hs : ρ s = vs) (hx : ρ x = vx) {v' : Value} {w' : World}
    (hr : (Builtin.append_ #[t, t] o.type #[vs, vx]).run P w = .ok v' w') : (execOp ρ o).run P w = .ok (.value v') w' := by
  unfold execOp
  simp only [ho, resolve, invoke, builtin, Sem.run_bind, Sem.run_pure, Result.andThen_ok, List.map_toArray, List.map_cons, List.map_nil, hs, hx, hr]
theorem exec_index_str (t : TypeId) (x y : Operand) (ho : o.op = .index t x y) (l : List UInt8) (hx : ρ x = .string ⟨l.toArray⟩) (kd : IntKind) (k : Nat) (hy : ρ y = .int kd (k : Int)) (hu : P.underlying t = some .string) (c : UInt8) (hc : l[k]? = some c) :
    (execOp ρ o).run P w = .ok (.value (.int .u8 ((c.toNat : Nat) : Int))) w := by
  have h0 : (0 : Int) ≤ (k : Int) := by omega
  have hk : k < l.length := (List.getElem?_eq_some_iff.1 hc).1
  have h1 : (if (0 : Int) ≤ (k : Int) then (⟨l.toArray⟩ : ByteArray)[(k : Int).toNat]? else none) = some c := by
    rw [if_pos h0, Int.toNat_natCast]
    rw [getElem?_pos (⟨l.toArray⟩ : ByteArray) k (by simpa [ByteArray.size] using hk)]
    have := (List.getElem?_eq_some_iff.1 hc).2
    exact congrArg some this
  unfold execOp
  simp only [ho, hx, hy, Instr.index, asIntOf, Sem.run_bind, Sem.run_pure, Result.andThen_ok, run_underlying hu, h1]
theorem exec_convert (s d : TypeId) (x : Operand) (ho : o.op = .convert s d x) (vx : Value) (hx : ρ x = vx) {v : Value} {w' : World} (hr : (convert s d vx).run P w = .ok v w') : (execOp ρ o).run P w = .ok (.value v) w' := by
  unfold execOp
  simp only [ho, hx, Sem.run_bind, Sem.run_pure, Result.andThen_ok, hr]
theorem exec_len_str (x : Operand) (t : TypeId) (ho : o.op = .call { callee := .builtin .len, args := #[x], argTypes := #[t] }) (ht : P.underlying t = some .string) (s : ByteArray) (hx : ρ x = .string s) : (execOp ρ o).run P w = .ok (.value (.int .i64 (s.size : Int))) w := by
  unfold execOp
  simp [ho, hx, resolve, invoke, builtin, Builtin.len_, run_underlying ht, go_sem]
end
/-- A row that lies in blocks from a base on. -/
def NewFrom (B : Nat) (v : Value) : Prop := ∀ j, v.ownBlock = some j → B ≤ j
theorem NewFrom.nil (B : Nat) : NewFrom B (.slice none 0 0) := fun j h => by simp [Value.ownBlock] at h
theorem NewFrom.next {B : Nat} {v v' : Value} {w w' : World} (h : NewFrom B v) (hB : B ≤ w.heap.size) (h5 : ∀ k, v'.ownBlock = some k → v.ownBlock = some k ∨ k = w.heap.size ∧ w.heap.size < w'.heap.size) : NewFrom B v' := fun j hj => by
  rcases h5 j hj with h1 | ⟨h1, _⟩
  · exact h j h1
  · omega
theorem Keeps.rowAdd {w w' : World} {v : Value} (h : w.grownBy w' v.ownBlock) : Keeps (fun j => v.ownBlock = some j) w w' := (Keeps.refl _ _).grown h (fun _ e _ => e)
theorem bytes_of_block {w : World} {g n : Nat} {l : List UInt8} {T : TypeId} {fr : Nat × Nat} {C : Array Value} (h : w.heap[g]? = some (.cells C T fr)) (hC : C = (B l).toArray) (hn : l.length = n) (hm : n ≤ maxLen) : BytesAt w (.slice (some ⟨g, 0, none⟩) n n) l := by
  subst hn; subst hC
  refine ⟨⟨_, _, rfl, Nat.le_refl _, hm, fun h => by cases h⟩, fun k x hk => ⟨g, 0, _, rfl, lt_of_block h, ?_⟩⟩
  rw [Nat.zero_add]
  refine (cell_of_row _ _ _ _ _ _ h).trans ?_
  rw [List.getElem?_toArray]; exact B_get l k x hk
theorem exec_cat {P : Program} {o : Oper} {ρ : Operand → Value} {w : World} (t : TypeId) (x y : Operand) (ho : o.op = .binOp .add t x y t) (a b : List UInt8) (hx : ρ x = .string ⟨a.toArray⟩) (hy : ρ y = .string ⟨b.toArray⟩) (hl : a.length + b.length ≤ 9223372036854775807) :
    (execOp ρ o).run P w = .ok (.value (.string ⟨(a ++ b).toArray⟩)) w := by
  refine exec_binop .add t t x y ho _ _ _ hx hy rfl ?_
  rw [binOp_string_add, run_string_add_sum w _ _ (by simpa [ByteArray.size] using hl)]
  congr 2
theorem src_block {w : World} {g : Nat} {cs : Array Value} {T : TypeId} (h : w.heap[g]? = some (.cells cs T (0, 0))) (size n : Nat) (hn : cs.toList.length = n * size) (h1 : cs.toList.all (·.oneCell') = true) : Src w size (.slice (some ⟨g, 0, none⟩) n n) n cs.toList := by
  refine ⟨hn, fun u hu => List.all_eq_true.1 h1 u hu, .inr ⟨⟨g, 0, none⟩, n, rfl, fun j u hj => ?_⟩⟩
  rw [Addr.add_lit, Nat.zero_add]
  exact (cell_of_row _ _ _ _ _ _ h).trans (by simpa using hj)
end Go.Own
namespace Go.Own
set_option maxRecDepth 100000
set_option maxHeartbeats 4000000
open Go Go.RowKit Go.Shelf
section
variable {P : Program} {a : Act} {w : World} {fn : Func}
/-- Two results, two rows. -/
theorem results_rows2 {p q : Tmp} {ty tz : TypeId} (h : fn.results = #[.cell p ty, .cell q tz]) (tmps : Array Value) (w : World) (g k : Nat) (t u : TypeId) (cs ds : Array Value) (fr fs : Nat × Nat) (d e : TypeDesc)
    (hp : tmps.getD p undef = .pointer (some ⟨g, 0, none⟩)) (hg : w.heap[g]? = some (.cells cs t fr)) (hu : P.underlying ty = some d) (hd : (match d with | .struct _ | .array _ _ => true | _ => false) = true) (hi : (P.info? ty).map (·.size) = some cs.size)
    (hq : tmps.getD q undef = .pointer (some ⟨k, 0, none⟩)) (hk : w.heap[k]? = some (.cells ds u fs)) (hv : P.underlying tz = some e) (he : (match e with | .struct _ | .array _ _ => true | _ => false) = true) (hj : (P.info? tz).map (·.size) = some ds.size) :
    (results fn tmps).run P w = .ok (.tuple #[.agg cs, .agg ds]) w := by
  have hp' : tmps[p]?.getD undef = .pointer (some ⟨g, 0, none⟩) := by simpa using hp
  have hq' : tmps[q]?.getD undef = .pointer (some ⟨k, 0, none⟩) := by simpa using hq
  simp [results, h, hp', hq', asAddr, run_loadVar_row w g t ty cs fr d hg hu hd hi, run_loadVar_row w k u tz ds fs e hk hv he hj]
end
end Go.Own
namespace Go.Own
set_option maxRecDepth 100000
set_option maxHeartbeats 4000000
open Go Go.RowKit Go.Shelf
section
variable {P : Program} {o : Oper} {ρ : Operand → Value} {w : World}
/-- 's[k:]' of a slice that has more. -/
theorem exec_slice_from (t : TypeId) (x y : Operand) (ho : o.op = .slice t x (some y) none none) (A : Option Addr) (n cap : Nat) (hx : ρ x = .slice A n cap) (kd : IntKind) (k : Nat) (hy : ρ y = .int kd (k : Int)) (e : TypeId) (hu : P.underlying t = some (.slice e))
    (hs : (P.info? e).map (·.size) = some 1) (hk : k ≤ n) : (execOp ρ o).run P w = .ok (.value (cutV A n cap k)) w := by
  obtain ⟨i, hi, h1⟩ := Option.map_eq_some_iff.1 hs
  have h2 : (0 : Int) ≤ (k : Int) ∧ (k : Int) ≤ (n : Int) := by omega
  unfold execOp
  simp only [ho, hx, hy, Option.map_some, Option.map_none, Instr.sliceAt, Sem.run_bind, run_underlying hu, Instr.slice, Instr.sliceBounds, Instr.sliceBound, asIntOf, Sem.run_pure, Result.andThen_ok, if_pos h2]
  rw [show (sizeOf e).run P w = .ok 1 w by simp [go_sem, sizeOf, typeInfo, hi, h1]]
  simp only [Result.andThen_ok, Int.toNat_natCast, Nat.mul_one]
  rfl
/-- 's[:k]'. -/
theorem exec_slice_to (t : TypeId) (x y : Operand) (ho : o.op = .slice t x none (some y) none) (A : Option Addr) (n cap : Nat) (hx : ρ x = .slice A n cap) (kd : IntKind) (k : Nat) (hy : ρ y = .int kd (k : Int)) (e : TypeId) (hu : P.underlying t = some (.slice e))
    (hs : (P.info? e).map (·.size) = some 1) (hk : k ≤ cap) : (execOp ρ o).run P w = .ok (.value (.slice A k cap)) w := by
  obtain ⟨i, hi, h1⟩ := Option.map_eq_some_iff.1 hs
  have h2 : (0 : Int) ≤ (k : Int) ∧ (k : Int) ≤ (cap : Int) := by omega
  unfold execOp
  simp only [ho, hx, hy, Option.map_some, Option.map_none, Instr.sliceAt, Sem.run_bind, run_underlying hu, Instr.slice, Instr.sliceBounds, Instr.sliceBound, asIntOf, Sem.run_pure, Result.andThen_ok, if_pos h2]
  rw [show (sizeOf e).run P w = .ok 1 w by simp [go_sem, sizeOf, typeInfo, hi, h1]]
  simp only [Result.andThen_ok, Int.toNat_natCast, Nat.zero_mul, Nat.sub_zero]
  cases A with
  | none => split <;> rfl
  | some a => split <;> simp [Addr.add]
end
theorem lt_meas {a b x y : Nat} (ha : a = x) (hb : b = y) (h : x < y) : a < b := by omega
end Go.Own
namespace Go.Proofs.YtpflmldmbpnllaaDoor
set_option maxRecDepth 100000
set_option maxHeartbeats 4000000
end Go.Proofs.YtpflmldmbpnllaaDoor
namespace Go.Proofs.YtpflmldmbpnllaaDoor
set_option maxRecDepth 100000
set_option maxHeartbeats 4000000
set_option maxRecDepth 100000
open Go Go.RowKit Go.Own Go.Shelf
theorem conv_u64 (x : Int) (w : World) (h0 : 0 ≤ x) (h1 : x ≤ 9223372036854775807) : (convert 22 3 (.int .u64 x)).run Tryd.prog w = .ok (.int .i64 x) w := by
  simp only [convert, Tryd.underlying22, Tryd.underlying3]
  simp [Conv.intToInt, wrapI x x rfl (by omega) h1]
theorem conv_i64 (x : Int) (w : World) (h0 : 0 ≤ x) (h1 : x ≤ 9223372036854775807) : (convert 3 22 (.int .i64 x)).run Tryd.prog w = .ok (.int .u64 x) w := by
  simp only [convert, Tryd.underlying22, Tryd.underlying3]
  have : IntKind.u64.wrap x = x := by
    unfold IntKind.wrap; simp [IntKind.signed, IntKind.bits]; omega
  simp [Conv.intToInt, this]
def I (l : List Int) : List Value := l.map (.int .i64)
theorem I_one (l : List Int) : ∀ v ∈ I l, v.oneCell' = true := by
  intro v hv; obtain ⟨x, _, rfl⟩ := List.mem_map.1 hv; rfl
section
variable {P : Program} {o : Oper} {ρ : Operand → Value} {w : World}
theorem exec_min (x y : Operand) (ts : Array TypeId) (ho : o.op = .call { callee := .builtin .min, args := #[x, y], argTypes := ts }) (k : IntKind) (a b : Int) (hx : ρ x = .int k a) (hy : ρ y = .int k b) :
    (execOp ρ o).run P w = .ok (.value (.int k (min a b))) w := by
  unfold execOp
  simp [ho, hx, hy, resolve, invoke, builtin, Builtin.min_, Builtin.min2]
  rw [Int.min_def]
  split <;> split <;> omega
/-- 'copy(d, s)' of a row over a row of the same length. -/
theorem exec_copy_row (x y : Operand) (t : TypeId) (ho : o.op = .call { callee := .builtin .copy, args := #[x, y], argTypes := #[t, t] }) (e : TypeId) (hu : P.underlying t = some (.slice e)) (hs : (P.info? e).map (·.size) = some 1)
    (g n g2 c2 : Nat) (hx : ρ x = .slice (some ⟨g, 0, none⟩) n n) (hy : ρ y = .slice (some ⟨g2, 0, none⟩) n c2) (cs : Array Value) (T : TypeId) (h : w.heap[g]? = some (.cells cs T (0, 0))) (hc : cs.size = n) (vs : List Value) (hv : vs.length = n) (T2 : TypeId) (h2 : w.heap[g2]? = some (.cells vs.toArray T2 (0, 0))) (hone : ∀ v ∈ vs, v.oneCell' = true) :
    (execOp ρ o).run P w = .ok (.value (.int .i64 (n : Int))) (w.setRow g vs.toArray) := by
  have := run_copy_row (P := P) w t t o.type e g 0 n n ⟨g2, 0, none⟩ n c2 cs T vs hu hs h (by rw [hv]; simp) (fun j u hj => by
    have := cell_of_row w g2 j vs.toArray T2 (0, 0) h2
    rw [Addr.add_lit]
    exact (by simpa using this : w.cell? ⟨g2, 0 + j, none⟩ = vs[j]?).trans hj) (by rw [hv]; omega) hone
  unfold execOp
  simp only [ho, hx, hy, resolve, invoke, builtin, Sem.run_bind, Sem.run_pure, Result.andThen_ok, List.map_toArray, List.map_cons, List.map_nil, this]
  rw [show cs.toList.take 0 ++ vs ++ cs.toList.drop (0 + vs.length) = vs by rw [List.take_zero, List.nil_append, Nat.zero_add, List.drop_eq_nil_of_le (by simp; omega), List.append_nil], hv]
  rfl
end
end Go.Proofs.YtpflmldmbpnllaaDoor
namespace Go.Own
set_option maxRecDepth 100000
set_option maxHeartbeats 4000000
open Go Go.RowKit
/-- Blocks outside M are as they were, but for blocks from B on that hold no cells (a loop's book-keeping). -/
structure Turn (B : Nat) (M : Nat → Prop) (W W' : World) : Prop where
  os : W'.os = W.os
  tape : W'.tape = W.tape
  output : W'.output = W.output
  size : W.heap.size ≤ W'.heap.size
  same : ∀ (k : Nat) (o : Obj), W.heap[k]? = some o → ¬ M k → (k < B ∨ o.isCells = true) → W'.heap[k]? = some o
theorem Keeps.turn {M : Nat → Prop} {W W' : World} (h : Keeps M W W') (B : Nat) : Turn B M W W' :=
  ⟨h.os, h.tape, h.output, h.size, fun k o hk hm _ => (h.block k (Array.getElem?_eq_some_iff.1 hk).1 hm).trans hk⟩
theorem Turn.put {B : Nat} {M : Nat → Prop} (W : World) (l : Nat) (o o' : Obj) (hl : B ≤ l) (h : W.heap[l]? = some o) (ho : o.isCells = false) : Turn B M W (W.putObj l o') :=
  ⟨rfl, rfl, rfl, (grownBy_putObj' W l o').size, fun k p hk _ hp => by
    refine (World.putObj_heap_other (fun e => ?_)).trans hk
    subst e
    rw [h] at hk; cases hk
    rcases hp with hp | hp
    · omega
    · rw [ho] at hp; cases hp⟩
theorem Turn.cell {B : Nat} {M : Nat → Prop} {W W' : World} (h : Turn B M W W') {k i : Nat} {v : Value} (hc : W.cell? ⟨k, i, none⟩ = some v) (hm : ¬ M k) : W'.cell? ⟨k, i, none⟩ = some v := by
  obtain ⟨o, ho, hcells⟩ := cells_of_cell hc
  exact (World.cell?_of_block (w := W) ((h.same _ o ho hm (.inr hcells)).trans ho.symm)).trans hc
theorem Turn.frozen {B : Nat} {M : Nat → Prop} {W W' : World} (h : Turn B M W W') {k i : Nat} {v : Value} (hc : W.cell? ⟨k, i, none⟩ = some v) (hm : ¬ M k) : W'.frozen? ⟨k, i, none⟩ = W.frozen? ⟨k, i, none⟩ := by
  obtain ⟨o, ho, hcells⟩ := cells_of_cell hc
  exact World.frozen?_of_block (w := W) ((h.same _ o ho hm (.inr hcells)).trans ho.symm)
theorem Turn.keeps {B : Nat} {M : Nat → Prop} {W0 W W' : World} (h : Turn B M W W') (k : Keeps M W0 W) (hB : W0.heap.size ≤ B) : Keeps M W0 W' :=
  ⟨h.os.trans k.os, h.tape.trans k.tape, h.output.trans k.output, Nat.le_trans k.size h.size, fun i hi hm => by
    have h1 := k.block i hi hm
    cases ho : W0.heap[i]? with
    | none => have := Array.getElem?_eq_none_iff.1 ho; omega
    | some o => exact h.same i o (h1.trans ho) hm (.inl (by omega))⟩
theorem Turn.weak {B : Nat} {M M' : Nat → Prop} {W W' : World} (h : Turn B M W W') (hm : ∀ k, M k → M' k) : Turn B M' W W' := ⟨h.os, h.tape, h.output, h.size, fun k o hk hn => h.same k o hk (fun x => hn (hm k x))⟩
theorem Turn.keepsN {B : Nat} {M : Nat → Prop} {W0 W W' : World} (h : Turn B Nob W W') (k : Keeps M W0 W) (hB : W0.heap.size ≤ B) : Keeps M W0 W' := (h.weak (M' := M) (fun _ x => x.elim)).keeps k hB
theorem Keeps.from {M : Nat → Prop} {W W' : World} (h : Keeps M W W') {B : Nat} (hm : ∀ k, M k → k < B) : KeepsFrom B W W' :=
  ⟨h.size, fun k o hB hk _ => (h.block k (Array.getElem?_eq_some_iff.1 hk).1 (fun x => by have := hm k x; omega)).trans hk⟩
/-- The contract of an iterator's value: at each round k the element xs[k] is handed on; the iterator's own state ahead of round k: 'S k'; the blocks of it that it turns: 'Mi'. -/
def SeqOwn {α : Type} (F : Fence) (n : Nat) (P : Program) (g : Nat) (lb : Array Value) (encs : α → Array Value) (xs : List α) (Mi : Nat → Prop) (S : Nat → World → Prop) : Prop :=
  ∀ (l : Nat) (J : Nat → World → Prop) (Jx : World → Prop) (W : World),
    (∀ k A B, J k A → Keeps Mi A B → J k B) → (∀ A B, Jx A → Keeps Mi A B → Jx B) →
    (∀ k x W1, xs[k]? = some x → J k W1 → S k W1 → YieldAt F (n - 1) P l (encs x) W1 fun e W' =>
      (e = .returned (.bool true) ∧ J (k + 1) W' ∧ S k W') ∨ (e = .returned (.bool false) ∧ Jx W')) →
    J 0 W → S 0 W →
    CallsIn F n P g (#[.func (.yield l) #[] #[]] ++ lb) W fun e W' => (∃ v, e = .returned v) ∧ (J xs.length W' ∨ Jx W')
/-- The same, where the caller may know (E) that it leaves before the last element's round is over: an iterator without an end. -/
def SeqOwnG {α : Type} (E : Prop) (F : Fence) (n : Nat) (P : Program) (g : Nat) (lb : Array Value) (encs : α → Array Value) (xs : List α) (Mi : Nat → Prop) (S : Nat → World → Prop) : Prop :=
  ∀ (l : Nat) (J : Nat → World → Prop) (Jx : World → Prop) (W : World),
    (∀ k A B, J k A → Keeps Mi A B → J k B) → (∀ A B, Jx A → Keeps Mi A B → Jx B) →
    (∀ k x W1, xs[k]? = some x → J k W1 → S k W1 → YieldAt F (n - 1) P l (encs x) W1 fun e W' =>
      (e = .returned (.bool true) ∧ J (k + 1) W' ∧ S k W') ∨ (e = .returned (.bool false) ∧ Jx W')) → (E → ∀ W, ¬ J xs.length W) →
    J 0 W → S 0 W →
    CallsIn F n P g (#[.func (.yield l) #[] #[]] ++ lb) W fun e W' => (∃ v, e = .returned v) ∧ (J xs.length W' ∨ Jx W')
/-- How the body of a round may be left. -/
def rangeEnd (B : Nat) (In : World → Prop) (Ix : Code → World → Prop) (W : World) : Exit → Act → World → Prop
  | .normal, _, W' => KeepsFrom B W W' ∧ In W'
  | .ret, _, W' => KeepsFrom B W W' ∧ Ix .ret W'
  | .exit id, _, W' => KeepsFrom B W W' ∧ Ix (.exit id) W'
  | .goto t, _, W' => KeepsFrom B W W' ∧ Ix (.goto t) W'
  | .panic _, _, _ => False
  | .outgrown, _, _ => False
variable {F : Fence} {n : Nat} {P : Program}
theorem own_rangeG {α : Type} (E : Prop) {g : Operand} {ps : Array Tmp} {assign body : Code} {Q : Exit → Act → World → Prop} {a : Act} {w : World}
    (hro : F.round = none) (h1 : 1 ≤ n) {gf : Nat} {lb : Array Value} (hg : a.eval g = .func (.func gf) #[] lb) (hFg : F.fn gf) (eg : ∀ args w, (callFunc gf args).run P w = .ok (.enter gf args) w)
    {encs : α → Array Value} (hps : ∀ x, (encs x).size = ps.size) {xs : List α} {Mi : Nat → Prop} {S : Nat → World → Prop} (hMi : ∀ j, Mi j → j < w.heap.size)
    (hseq : SeqOwnG E F (n - 1) P gf lb encs xs Mi S) (hS : ∀ k A B, S k A → Turn w.heap.size Nob A B → S k B) (hS0 : S 0 w)
    (I : Nat → World → Prop) (Ix : Code → World → Prop) (hI : ∀ k A B, I k A → Turn w.heap.size Mi A B → I k B) (hIx : ∀ c A B, Ix c A → Turn w.heap.size Mi A B → Ix c B) (h0 : I 0 w) (hE : E → ∀ W, ¬ I xs.length W)
    (Ax : Nat → α → Act → World → Prop) (hAx : ∀ k x a' A B, Ax k x a' A → Turn w.heap.size Nob A B → Ax k x a' B)
    (hassign : ∀ (l k : Nat) (x : α) (W : World) (K : Act → World → Prop), xs[k]? = some x → I k W → S k W → (∀ a' W', KeepsFrom w.heap.size W W' → I k W' → S k W' → Ax k x a' W' → K a' W') →
      assign.wpIn (F.inRound l) (n - 1 - 1) P (Exit.then K (fun _ _ _ => False)) { tmps := (ps.zip (encs x)).foldl (fun t (p, v) => t.setIfInBounds p v) a.tmps, defers := [] } W)
    (hbody : ∀ (l k : Nat) (x : α) (a' : Act) (W : World), w.heap.size ≤ l → (∃ r, W.heap[l]? = some (.loop r)) → xs[k]? = some x → I k W → S k W → Ax k x a' W →
      body.wpIn (F.inRound l) (n - 1 - 1) P (rangeEnd w.heap.size (fun W' => I (k + 1) W' ∧ S k W') Ix W) a' W)
    (hdone : ∀ (D : Nat) (W : World), w.heap.size ≤ D → I xs.length W → W.heap[D]? = some (.deferred (some [])) → Q .normal { a with defers := { target := .collected D, args := #[] } :: a.defers } W)
    (hstop : ∀ (D : Nat) (c : Code) (W : World), w.heap.size ≤ D → Ix c W → W.heap[D]? = some (.deferred (some [])) → c.wpIn F n P Q { a with defers := { target := .collected D, args := #[] } :: a.defers } W) :
    (Code.rangeFunc g ps assign body).wpIn F n P Q a w := by
  refine wpIn_rangeFunc ?_
  intro fn hfn
  rw [hro]
  obtain ⟨rec, hrec⟩ : ∃ rec : LoopState → Option Code → Loop, rec = fun st pe => { state := st, pending := pe, fn, tmps := a.tmps, params := ps, assign, body, defers := w.heap.size } := ⟨_, rfl⟩
  obtain ⟨W1, hW1⟩ : ∃ W1, (w.alloc (.deferred (some []))).alloc (.loop (rec .ready none)) = W1 := ⟨_, rfl⟩
  have hL1 : W1.heap[w.heap.size + 1]? = some (.loop (rec .ready none)) := by
    rw [← hW1]; have := World.alloc_heap_new (w.alloc (.deferred (some []))) (.loop (rec .ready none)); rwa [World.size_alloc] at this
  have hK1 : W1.heap[w.heap.size]? = some (.deferred (some [])) := by
    rw [← hW1]; exact (Below.heap_alloc _ _ _ (by simp)).trans (World.alloc_heap_new w _)
  have hT1 : ∀ M, Turn w.heap.size M w W1 := fun M => by rw [← hW1]; exact (((Keeps.refl M w).alloc _).alloc _).turn _
  have hI1 : I 0 W1 := hI _ _ _ h0 (hT1 _)
  have hS1 : S 0 W1 := hS _ _ _ hS0 (hT1 _)
  refine ⟨w.heap.size + 1, [{ target := .collected w.heap.size, args := #[] }], W1, { target := .fn (.func gf) lb, args := #[.func (.yield (w.heap.size + 1)) #[] #[]] }, W1, gf,
    #[.func (.yield (w.heap.size + 1)) #[] #[]] ++ lb, W1, ?_, ?_, ?_, ?_, fun _ => h1, ?_⟩
  · rw [← hW1, hrec]; exact run_enterLoop_outer _ _ _ _ _
  · simp only [resolve, hg]
    simp [go_sem]
  · intro f' hf'; simp [Target.leads] at hf'; subst hf'; exact hFg
  · simp [invoke, go_sem, eg]
  · have hkeep : ∀ {A B : World} {k : Nat} {o : Obj}, w.heap.size ≤ k → Keeps Mi A B → A.heap[k]? = some o → B.heap[k]? = some o := fun hk hAB ho =>
      (hAB.block _ (Array.getElem?_eq_some_iff.1 ho).1 (fun hm => by have := hMi _ hm; omega)).trans ho
    refine (hseq (w.heap.size + 1)
      (fun k W => I k W ∧ W.heap[w.heap.size + 1]? = some (.loop (rec .ready none)) ∧ W.heap[w.heap.size]? = some (.deferred (some [])))
      (fun W => ∃ c, Ix c W ∧ W.heap[w.heap.size + 1]? = some (.loop (rec .done (some c))) ∧ W.heap[w.heap.size]? = some (.deferred (some [])))
      W1
      (fun k A B hs hAB => ⟨hI k A B hs.1 (hAB.turn _), hkeep (by omega) hAB hs.2.1, hkeep (by omega) hAB hs.2.2⟩)
      (fun A B hs hAB => by
        obtain ⟨c, hc, hl, hk⟩ := hs
        exact ⟨c, hIx c A B hc (hAB.turn _), hkeep (by omega) hAB hl, hkeep (by omega) hAB hk⟩)
      ?_ (fun e W h => hE e W h.1) ⟨hI1, hL1, hK1⟩ hS1).mono ?_
    · -- one round
      rintro k x W hx ⟨hi, hl, hk⟩ hs
      have hlt : w.heap.size + 1 < W.heap.size := (Array.getElem?_eq_some_iff.1 hl).1
      have hy := run_yield (P := P) (args := encs x) hl (by rw [hrec]; exact hps x)
      rw [hrec] at hy
      refine ⟨fn, _, assign, body, hy, roundIn_of_wpIn hfn (hassign _ k x W _ hx hi hs ?_)⟩
      clear hy
      intro a' Wa hkfa hia hsa hax
      replace hl := hkfa.same _ _ (by omega) hl rfl
      replace hk := hkfa.same _ _ (Nat.le_refl _) hk rfl
      replace hlt : w.heap.size + 1 < Wa.heap.size := (Array.getElem?_eq_some_iff.1 hl).1
      replace hi := hia
      replace hs := hsa
      clear hia hsa
      clear hkfa
      obtain ⟨W, rfl⟩ : ∃ W, W = Wa := ⟨_, rfl⟩
      refine ⟨_, run_beginRound hl (by rw [hrec]), ?_⟩
      have hl2 : (W.putObj (w.heap.size + 1) (.loop { rec .ready none with state := .busy })).heap[w.heap.size + 1]? = some (.loop { rec .ready none with state := .busy }) := World.putObj_heap_same hlt
      have hk2 : (W.putObj (w.heap.size + 1) (.loop { rec .ready none with state := .busy })).heap[w.heap.size]? = some (.deferred (some [])) := (World.putObj_heap_other (by omega)).trans hk
      have ht2 : ∀ M, Turn w.heap.size M W (W.putObj (w.heap.size + 1) (.loop { rec .ready none with state := .busy })) := fun M => Turn.put _ _ _ _ (by omega) hl rfl
      refine wpIn_mono (hbody _ k x a' _ (by omega) ⟨_, hl2⟩ hx (hI _ _ _ hi (ht2 _)) (hS _ _ _ hs (ht2 _)) (hAx _ _ _ _ _ hax (ht2 _))) ?_
      have fin : ∀ (jump : Option Code) (W3 : World), KeepsFrom w.heap.size (W.putObj (w.heap.size + 1) (.loop { rec .ready none with state := .busy })) W3 →
          (Instr.endRound (w.heap.size + 1) jump).run P W3 = .ok (.bool jump.isNone) (W3.putObj (w.heap.size + 1) (.loop (rec (if jump.isNone then .ready else .done) jump))) ∧
          W3.heap[w.heap.size + 1]? = some (.loop { rec .ready none with state := .busy }) ∧
          (W3.putObj (w.heap.size + 1) (.loop (rec (if jump.isNone then .ready else .done) jump))).heap[w.heap.size + 1]? = some (.loop (rec (if jump.isNone then .ready else .done) jump)) ∧
          (W3.putObj (w.heap.size + 1) (.loop (rec (if jump.isNone then .ready else .done) jump))).heap[w.heap.size]? = some (.deferred (some [])) := fun jump W3 hk3 => by
        have hl3 := hk3.same _ _ (by omega) hl2 rfl
        have := run_endRound (P := P) jump hl3
        rw [hrec] at this ⊢
        exact ⟨this, by rw [hrec] at hl3; exact hl3, World.putObj_heap_same (Array.getElem?_eq_some_iff.1 hl3).1, (World.putObj_heap_other (by omega)).trans (hk3.same _ _ (Nat.le_refl _) hk2 rfl)⟩
      rintro e a3 W3 hp
      cases e with
      | normal =>
        obtain ⟨hk3, hi3, hs3⟩ := hp
        obtain ⟨hr, hl3, hl4, hk4⟩ := fin none W3 hk3
        exact ⟨_, _, hr, .inl ⟨rfl, ⟨hI _ _ _ hi3 (Turn.put _ _ _ _ (by omega) hl3 rfl), hl4, hk4⟩, hS _ _ _ hs3 (Turn.put _ _ _ _ (by omega) hl3 rfl)⟩⟩
      | ret =>
        obtain ⟨hk3, hi3⟩ := hp
        obtain ⟨hr, hl3, hl4, hk4⟩ := fin (some .ret) W3 hk3
        exact ⟨_, _, hr, .inr ⟨rfl, .ret, hIx _ _ _ hi3 (Turn.put _ _ _ _ (by omega) hl3 rfl), hl4, hk4⟩⟩
      | exit id =>
        obtain ⟨hk3, hi3⟩ := hp
        obtain ⟨hr, hl3, hl4, hk4⟩ := fin (some (.exit id)) W3 hk3
        exact ⟨_, _, hr, .inr ⟨rfl, .exit id, hIx _ _ _ hi3 (Turn.put _ _ _ _ (by omega) hl3 rfl), hl4, hk4⟩⟩
      | goto t =>
        obtain ⟨hk3, hi3⟩ := hp
        obtain ⟨hr, hl3, hl4, hk4⟩ := fin (some (.goto t)) W3 hk3
        exact ⟨_, _, hr, .inr ⟨rfl, .goto t, hIx _ _ _ hi3 (Turn.put _ _ _ _ (by omega) hl3 rfl), hl4, hk4⟩⟩
      | panic ch => exact hp.elim
      | outgrown => exact hp.elim
    · -- behind the iterator
      rintro e W2 ⟨⟨v, rfl⟩, (⟨hi, hl, hk⟩ | ⟨c, hi, hl, hk⟩)⟩
      · exact ⟨none, _, by have := run_endLoop (P := P) hl (by rw [hrec]; simp); rw [hrec] at this; exact this, hdone _ _ (Nat.le_refl _) (hI _ _ _ hi (Turn.put _ _ _ _ (by omega) hl rfl)) ((World.putObj_heap_other (by omega)).trans hk)⟩
      · exact ⟨some c, _, by have := run_endLoop (P := P) hl (by rw [hrec]; simp); rw [hrec] at this; exact this, hstop _ c _ (Nat.le_refl _) (hIx _ _ _ hi (Turn.put _ _ _ _ (by omega) hl rfl)) ((World.putObj_heap_other (by omega)).trans hk)⟩
theorem own_range {α : Type} {g : Operand} {ps : Array Tmp} {assign body : Code} {Q : Exit → Act → World → Prop} {a : Act} {w : World}
    (hro : F.round = none) (h1 : 1 ≤ n) {gf : Nat} {lb : Array Value} (hg : a.eval g = .func (.func gf) #[] lb) (hFg : F.fn gf) (eg : ∀ args w, (callFunc gf args).run P w = .ok (.enter gf args) w)
    {encs : α → Array Value} (hps : ∀ x, (encs x).size = ps.size) {xs : List α} {Mi : Nat → Prop} {S : Nat → World → Prop} (hMi : ∀ j, Mi j → j < w.heap.size)
    (hseq : SeqOwn F (n - 1) P gf lb encs xs Mi S) (hS : ∀ k A B, S k A → Turn w.heap.size Nob A B → S k B) (hS0 : S 0 w)
    (I : Nat → World → Prop) (Ix : Code → World → Prop) (hI : ∀ k A B, I k A → Turn w.heap.size Mi A B → I k B) (hIx : ∀ c A B, Ix c A → Turn w.heap.size Mi A B → Ix c B) (h0 : I 0 w)
    (Ax : Nat → α → Act → World → Prop) (hAx : ∀ k x a' A B, Ax k x a' A → Turn w.heap.size Nob A B → Ax k x a' B)
    (hassign : ∀ (l k : Nat) (x : α) (W : World) (K : Act → World → Prop), xs[k]? = some x → I k W → S k W → (∀ a' W', KeepsFrom w.heap.size W W' → I k W' → S k W' → Ax k x a' W' → K a' W') →
      assign.wpIn (F.inRound l) (n - 1 - 1) P (Exit.then K (fun _ _ _ => False)) { tmps := (ps.zip (encs x)).foldl (fun t (p, v) => t.setIfInBounds p v) a.tmps, defers := [] } W)
    (hbody : ∀ (l k : Nat) (x : α) (a' : Act) (W : World), w.heap.size ≤ l → (∃ r, W.heap[l]? = some (.loop r)) → xs[k]? = some x → I k W → S k W → Ax k x a' W →
      body.wpIn (F.inRound l) (n - 1 - 1) P (rangeEnd w.heap.size (fun W' => I (k + 1) W' ∧ S k W') Ix W) a' W)
    (hdone : ∀ (D : Nat) (W : World), w.heap.size ≤ D → I xs.length W → W.heap[D]? = some (.deferred (some [])) → Q .normal { a with defers := { target := .collected D, args := #[] } :: a.defers } W)
    (hstop : ∀ (D : Nat) (c : Code) (W : World), w.heap.size ≤ D → Ix c W → W.heap[D]? = some (.deferred (some [])) → c.wpIn F n P Q { a with defers := { target := .collected D, args := #[] } :: a.defers } W) :
    (Code.rangeFunc g ps assign body).wpIn F n P Q a w :=
  own_rangeG False hro h1 hg hFg eg hps hMi (fun l J Jx W a b c _ => hseq l J Jx W a b c) hS hS0 I Ix hI hIx h0 (fun h => h.elim) Ax hAx hassign hbody hdone hstop
end Go.Own
namespace Go.Own
set_option maxRecDepth 100000
set_option maxHeartbeats 4000000
open Go Go.RowKit
variable {P : Program} {ops : Array Oper} {md : Region.Mode} {C : World → Prop} {l n : Nat}
def noDefer (ops : Array Oper) : Bool := ops.all fun o => match o.op with | .defer _ => false | _ => true
/-- A function that holds a range over a function, entered by the plain walk. -/
theorem calls_marks (n : Nat) {f : FuncId} {fn : Func} {c : Code} {args : Array Value} {w : World} {R : Ending → World → Prop} (hf : P.funcs[f]? = some fn) (hb : fn.body = some c)
    (h : c.wp P (bodyPostM Fence.wide n P fn R) { tmps := args ++ Array.replicate (fn.ntmps - args.size) undef, defers := [] } w) : Calls P f args w R :=
  (callsIn_wide (n := n)).1 (callsIn_of_wp_marks hf hb trivial (wpIn_wide.2 h))
/-- The range over a function, in a plain walk. -/
theorem wp_range {α : Type} (n : Nat) {g : Operand} {ps : Array Tmp} {assign body : Code} {Q : Exit → Act → World → Prop} {a : Act} {w : World}
    {gf : Nat} {lb : Array Value} (hg : a.eval g = .func (.func gf) #[] lb) (eg : ∀ args w, (callFunc gf args).run P w = .ok (.enter gf args) w)
    {encs : α → Array Value} (hps : ∀ x, (encs x).size = ps.size) {xs : List α} {Mi : Nat → Prop} {S : Nat → World → Prop} (hMi : ∀ j, Mi j → j < w.heap.size)
    (hseq : SeqOwn Fence.wide (n + 2) P gf lb encs xs Mi S) (hS : ∀ k A B, S k A → Turn w.heap.size Nob A B → S k B) (hS0 : S 0 w)
    (I : Nat → World → Prop) (Ix : Code → World → Prop) (hI : ∀ k A B, I k A → Turn w.heap.size Mi A B → I k B) (hIx : ∀ c A B, Ix c A → Turn w.heap.size Mi A B → Ix c B) (h0 : I 0 w)
    (Ax : Nat → α → Act → World → Prop) (hAx : ∀ k x a' A B, Ax k x a' A → Turn w.heap.size Nob A B → Ax k x a' B)
    (hassign : ∀ (l k : Nat) (x : α) (W : World) (K : Act → World → Prop), xs[k]? = some x → I k W → S k W → (∀ a' W', KeepsFrom w.heap.size W W' → I k W' → S k W' → Ax k x a' W' → K a' W') →
      assign.wpIn (Fence.wide.inRound l) (n + 1) P (Exit.then K (fun _ _ _ => False)) { tmps := (ps.zip (encs x)).foldl (fun t (p, v) => t.setIfInBounds p v) a.tmps, defers := [] } W)
    (hbody : ∀ (l k : Nat) (x : α) (a' : Act) (W : World), w.heap.size ≤ l → (∃ r, W.heap[l]? = some (.loop r)) → xs[k]? = some x → I k W → S k W → Ax k x a' W →
      body.wpIn (Fence.wide.inRound l) (n + 1) P (rangeEnd w.heap.size (fun W' => I (k + 1) W' ∧ S k W') Ix W) a' W)
    (hdone : ∀ (D : Nat) (W : World), w.heap.size ≤ D → I xs.length W → W.heap[D]? = some (.deferred (some [])) → Q .normal { a with defers := { target := .collected D, args := #[] } :: a.defers } W)
    (hstop : ∀ (D : Nat) (c : Code) (W : World), w.heap.size ≤ D → Ix c W → W.heap[D]? = some (.deferred (some [])) → c.wp P Q { a with defers := { target := .collected D, args := #[] } :: a.defers } W) :
    (Code.rangeFunc g ps assign body).wp P Q a w :=
  (wpIn_wide (n := n + 3)).1 (own_range (F := Fence.wide) rfl (by omega) hg trivial eg hps hMi hseq hS hS0 I Ix hI hIx h0 Ax hAx hassign hbody hdone (fun D c W h1 h2 h3 => wpIn_wide.2 (hstop D c W h1 h2 h3)))
/-- The same, where the loop's variable lies in a temporary: 'f x' is the frame behind the assignment. -/
theorem wp_range1 {α : Type} (n : Nat) {g : Operand} {ps : Array Tmp} {assign body : Code} {Q : Exit → Act → World → Prop} {a : Act} {w : World}
    {gf : Nat} {lb : Array Value} (hg : a.eval g = .func (.func gf) #[] lb) (eg : ∀ args w, (callFunc gf args).run P w = .ok (.enter gf args) w)
    {encs : α → Array Value} (hps : ∀ x, (encs x).size = ps.size) {xs : List α} {Mi : Nat → Prop} {S : Nat → World → Prop} (hMi : ∀ j, Mi j → j < w.heap.size)
    (hseq : SeqOwn Fence.wide (n + 2) P gf lb encs xs Mi S) (hS : ∀ k A B, S k A → Turn w.heap.size Nob A B → S k B) (hS0 : S 0 w)
    (I : Nat → World → Prop) (Ix : Code → World → Prop) (hI : ∀ k A B, I k A → Turn w.heap.size Mi A B → I k B) (hIx : ∀ c A B, Ix c A → Turn w.heap.size Mi A B → Ix c B) (h0 : I 0 w)
    (f : α → Act)
    (hassign : ∀ (l k : Nat) (x : α) (W : World) (K : Act → World → Prop), xs[k]? = some x → I k W → S k W → K (f x) W →
      assign.wpIn (Fence.wide.inRound l) (n + 1) P (Exit.then K (fun _ _ _ => False)) { tmps := (ps.zip (encs x)).foldl (fun t (p, v) => t.setIfInBounds p v) a.tmps, defers := [] } W)
    (hbody : ∀ (l k : Nat) (x : α) (W : World), w.heap.size ≤ l → (∃ r, W.heap[l]? = some (.loop r)) → xs[k]? = some x → I k W → S k W →
      body.wpIn (Fence.wide.inRound l) (n + 1) P (rangeEnd w.heap.size (fun W' => I (k + 1) W' ∧ S k W') Ix W) (f x) W)
    (hdone : ∀ (D : Nat) (W : World), w.heap.size ≤ D → I xs.length W → W.heap[D]? = some (.deferred (some [])) → Q .normal { a with defers := { target := .collected D, args := #[] } :: a.defers } W)
    (hstop : ∀ (D : Nat) (c : Code) (W : World), w.heap.size ≤ D → Ix c W → W.heap[D]? = some (.deferred (some [])) → c.wp P Q { a with defers := { target := .collected D, args := #[] } :: a.defers } W) :
    (Code.rangeFunc g ps assign body).wp P Q a w :=
  wp_range n hg eg hps hMi hseq hS hS0 I Ix hI hIx h0 (fun _ x a' _ => a' = f x) (fun _ _ _ _ _ h _ => h)
    (fun l k x W K hx hi hs hK => hassign l k x W K hx hi hs (hK _ _ (KeepsFrom.refl _ _) hi hs rfl)) (fun l k x a' W hl hr hx hi hs ha => by subst ha; exact hbody l k x W hl hr hx hi hs) hdone hstop
/-- The end of such a function: one result in a temporary or a cell, the world behind it. -/
theorem marks_ret {fn : Func} {R : Ending → World → Prop} {n D : Nat} {t : Array Value} {v : Value} {W : World} (hD : W.heap[D]? = some (.deferred (some [])))
    (hres : (results fn t).run P (W.putObj D (.deferred none)) = .ok v (W.putObj D (.deferred none))) (h : R (.returned v) (W.putObj D (.deferred none))) :
    bodyPostM Fence.wide n P fn R .ret { tmps := t, defers := [{ target := .collected D, args := #[] }] } W :=
  ⟨by simp, .inl ⟨_, _, rfl, run_takeDeferred hD, ⟨_, hres, h⟩⟩⟩
/-- What an append to an own row leaves of all that is no cells. -/
theorem Row.others {w w' : World} {e : TypeId} {size n : Nat} {v : Value} {xs : List Value} (h : Row w e size v n xs) (hg : w.grownBy w' v.ownBlock) : KeepsOthers w w' :=
  KeepsOthers.of_grownBy hg fun j o hj ho => by
    obtain ⟨cs, hc⟩ := h.elem hj
    rw [ho] at hc
    simp only [Option.some.injEq] at hc
    rw [hc]; rfl
end Go.Own
namespace Go.Own
set_option maxRecDepth 100000
set_option maxHeartbeats 4000000
open Go Go.RowKit Go.Shelf
section
variable {P : Program} {ops : Array Oper} {Q : Exit → Act → World → Prop} {md : Region.Mode} {l n : Nat}
theorem wpIn_of_wpOper {o : Oper} {a : Act} {w : World} {K K' : Act → World → Prop} (hd : ∀ c, o.op ≠ .defer c) (hL : ¬ LetsOut Q) (h : ∀ a w, K a w → K' a w) (hh : o.wp P a w K Q) : o.wpIn (Fence.wide.inRound l) n P a w K' Q := by
  unfold Oper.wp at hh
  unfold Oper.wpIn
  refine ⟨fun _ _ => trivial, ?_⟩
  rw [Oper.semAt_eq _ _ _ hd]
  generalize (execOp a.eval o).run P w = r at *
  cases r with
  | ok x w' =>
    cases x <;> simp only [Oper.upon] at hh <;> simp only [Oper.uponIn]
    case value u => exact h _ _ hh
    case skip => exact h _ _ hh
    case defer d => exact h _ _ hh
    case enter f args =>
      refine ⟨fun hx => by simp [Fence.wide, Fence.inRound] at hx, (CallsIn.inRound l (callsIn_wide.2 hh)).mono fun e w'' he => ?_⟩
      cases e with
      | returned v => exact h _ _ he
      | panicked c => exact he
      | outgrown => exact absurd he hL
    case row row args =>
      refine ⟨fun hx => by simp [Fence.wide, Fence.inRound] at hx, ?_⟩
      have h2 : RowsIn Fence.wide (n - 1) P row args w' fun v w'' => K' (a.put o.dst v) w'' := fun c cs _ => let ⟨v, w2, r, s⟩ := hh c cs; ⟨v, w2, h _ _ r, stepsIn_wide.2 s⟩
      exact h2
  | halt x w' =>
    cases x <;> simp only [Oper.upon] at hh <;> simp only [Oper.uponIn]
    exact hh
theorem wpOpIn_of_wpOp {i : Nat} {a : Act} {w : World} {K K' : Act → World → Prop} (hd : noDefer ops = true) (hL : ¬ LetsOut Q) (h : ∀ a w, K a w → K' a w) (hh : wpOp P ops Q i K a w) : wpOpIn (Fence.wide.inRound l) n P ops Q i K' a w := by
  unfold wpOp at hh
  unfold wpOpIn
  split
  · rename_i ho; simp only [ho] at hh; exact h _ _ hh
  · rename_i o ho
    simp only [ho] at hh
    split
    · rename_i hw; simp only [hw, if_true] at hh
      rcases hh with hh | hh
      · refine wpIn_of_wpOper (fun c hc => ?_) hL h hh
        have := Array.all_eq_true.1 hd i (Array.getElem?_eq_some_iff.1 ho).1
        rw [(Array.getElem?_eq_some_iff.1 ho).2, hc] at this
        cases this
      · exact absurd hh.2 hL
    · rename_i hw; simp only [hw] at hh; exact ⟨fun _ _ => trivial, h _ _ hh⟩
theorem wpOpsIn_of_wpOps (hd : noDefer ops = true) (hL : ¬ LetsOut Q) : ∀ (is : List Nat) (a : Act) (w : World), wpOps P ops Q is a w → wpOpsIn (Fence.wide.inRound l) n P ops Q is a w
  | [], _, _, h => h
  | i :: r, a, w, h => by
    rw [wpOpsIn_cons]
    rw [wpOps_cons] at h
    exact wpOpIn_of_wpOp hd hL (fun a w => wpOpsIn_of_wpOps hd hL r a w) h
theorem wpAnyIn_of_wpAny (hd : noDefer ops = true) (hL : ¬ LetsOut Q) : ∀ (fuel : Nat) (listed : Array Bool) (a : Act) (w : World), wpAny P md ops Q fuel listed a w → wpAnyIn (Fence.wide.inRound l) n P md ops Q fuel listed a w
  | 0, _, _, _, h => h
  | fuel + 1, _, _, _, h => ⟨h.1, fun i hi => wpOpIn_of_wpOp hd hL (fun a w => wpAnyIn_of_wpAny hd hL fuel _ a w) (h.2 i hi)⟩
variable {a : Act} {w : World} {c : Code}
theorem syI_reg (hd : noDefer (opsAt c) = true) (hL : ¬ LetsOut Q) (h : RegW P c Q a w) : c.wpIn (Fence.wide.inRound l) n P Q a w := by
  rcases h with ⟨id, ops, rfl, h⟩ | ⟨id, ops, rfl, hm, h⟩
  · exact wpIn_region (wpOpsIn_of_wpOps hd hL _ _ _ h)
  · exact wpIn_region_any hm (wpAnyIn_of_wpAny hd hL _ _ _ _ h)
variable {F : Fence}
theorem syI_seq (x y : Code) (hc : c = .seq x y) (h : x.wpIn F n P (Exit.then (y.wpIn F n P Q) Q) a w) : c.wpIn F n P Q a w := hc ▸ wpIn_seq h
theorem syI_block (id : Nat) (x : Code) (hc : c = .block id x) (h : x.wpIn F n P (Exit.inBlock id Q) a w) : c.wpIn F n P Q a w := hc ▸ wpIn_block h
theorem syI_yes (o : Operand) (x y : Code) (hc : c = .cond o x y) (ho : a.eval o = .bool true) (h : x.wpIn F n P Q a w) : c.wpIn F n P Q a w := hc ▸ wpIn_cond_true ho h
theorem syI_no (o : Operand) (x y : Code) (hc : c = .cond o x y) (ho : a.eval o = .bool false) (h : y.wpIn F n P Q a w) : c.wpIn F n P Q a w := hc ▸ wpIn_cond_false ho h
theorem syI_skip (hc : c = .skip) (h : Q .normal a w) : c.wpIn F n P Q a w := hc ▸ wpIn_skip h
theorem syI_exit (id : Nat) (hc : c = .exit id) (h : Q (.exit id) a w) : c.wpIn F n P Q a w := hc ▸ wpIn_exit h
theorem syI_ret (hc : c = .ret) (h : Q .ret a w) : c.wpIn F n P Q a w := hc ▸ wpIn_ret h
theorem syI_loop (x : Code) (I : Act → World → Prop) (μ : Act → World → Nat) (hc : c = .loop x) (h0 : I a w)
    (round : ∀ a w, I a w → x.wpIn F n P (Exit.then (fun a' w' => I a' w' ∧ μ a' w' < μ a w) Q) a w) : c.wpIn F n P Q a w := hc ▸ wpIn_loop I μ h0 round
theorem syI_np (h : c.wpIn F n P (NoPanic Q) a w) : c.wpIn F n P Q a w := wpIn_mono h NoPanic.imp
theorem syI_frame (b : Act) (h : a = b) (hq : c.wpIn F n P Q b w) : c.wpIn F n P Q a w := h ▸ hq
end
end Go.Own
namespace Go.Own
set_option maxRecDepth 100000
set_option maxHeartbeats 4000000
open Go Go.RowKit Go.Shelf
section
variable {P : Program} {Q : Exit → Act → World → Prop} {a : Act} {w : World} {ops : Array Oper} {i : Nat} {S : World → Prop} {fuel : Nat} {l : Array Bool}
theorem on_callV (o : Oper) (x : Operand) (f : FuncId) (first caps args : Array Value) (ho : ops[i]? = some o) (hg : Region.wanted o (yielded ops a.tmps) = true)
    (hc : o.op = .call { callee := .value x, args := callArgs o, argTypes := callTypes o }) (hx : a.eval x = .func (.func f) first caps) (hargs : first ++ (callArgs o).map a.eval ++ caps = args) (he : ∀ args w, (callFunc f args).run P w = .ok (.enter f args) w)
    (h : Calls P f args w fun e w' => ∃ v, e = .returned v ∧ S w' ∧ Gany P ops Q S fuel l (a.put o.dst v) w') : Gone P ops Q S fuel l i a w := by
  refine ⟨?_⟩
  unfold wpOp
  simp only [ho, hg, if_true]
  refine .inl ?_
  unfold Oper.wp execOp
  simp only [hc, resolve, hx, Sem.run_bind, Deferred.ofValue, Sem.run_pure, Result.andThen_ok, invoke, hargs, he]
  refine Calls.mono h fun e w' ⟨v, he, hv⟩ => ?_
  subst he
  exact hv
end
/-! A function that yields. -/
section
variable {P : Program} {Q : Exit → Act → World → Prop} {a : Act} {w : World} {ops : Array Oper} {i n : Nat} {rest : List Nat} {c : Code}
theorem syW_enter {f : FuncId} {fn : Func} {args : Array Value} {R : Ending → World → Prop} (c : Code) (a : Act) (hf : P.funcs[f]? = some fn) (hb : fn.body = some c)
    (ha : ({ tmps := args ++ Array.replicate (fn.ntmps - args.size) undef, defers := [] } : Act) = a) (h : c.wpIn Fence.wide n P (bodyPost P fn R) a w) : CallsIn Fence.wide n P f args w R :=
  callsIn_of_wp hf hb trivial (by rw [ha]; exact h) rfl
theorem syW_reg (h : RegW P c Q a w) : c.wpIn Fence.wide n P Q a w := wpIn_wide.2 (sy_reg h)
structure Gyield (n : Nat) (P : Program) (ops : Array Oper) (Q : Exit → Act → World → Prop) (rest : List Nat) (a : Act) (w : World) : Prop where
  out : wpOpsIn Fence.wide n P ops Q rest a w
theorem rg_yield (id : Nat) (ops : Array Oper) (l : List Nat) (hc : c = .region id ops false) (hl : List.range ops.size = l) (h : Gyield n P ops Q l a w) : c.wpIn Fence.wide n P Q a w := by
  subst hc; subst hl; exact wpIn_region h.out
theorem pi_end (h : Q .normal a w) : Gyield n P ops Q [] a w := ⟨h⟩
theorem pi_run (o : Oper) (v : Value) {w' : World} (ho : ops[i]? = some o) (hg : Region.wanted o (yielded ops a.tmps) = true) (hrun : (execOp a.eval o).run P w = .ok (.value v) w') (h : Gyield n P ops Q rest (a.put o.dst v) w') : Gyield n P ops Q (i :: rest) a w := by
  refine ⟨?_⟩
  rw [wpOpsIn_cons]
  unfold wpOpIn
  simp only [ho, hg, if_true]
  refine ⟨fun _ _ => trivial, ?_⟩
  rw [show o.semAt Fence.wide.round a.eval = execOp a.eval o from rfl, hrun]
  exact h.out
theorem pi_yield (o : Oper) (x : Operand) (y : Nat) (args : Array Value) (ho : ops[i]? = some o) (hg : Region.wanted o (yielded ops a.tmps) = true)
    (hc : o.op = .call { callee := .value x, args := callArgs o, argTypes := callTypes o }) (hx : a.eval x = .func (.yield y) #[] #[]) (hargs : (callArgs o).map a.eval = args)
    (h : YieldAt Fence.wide (n - 1) P y args w fun e w' => ∃ v, e = .returned v ∧ Gyield n P ops Q rest (a.put o.dst v) w') : Gyield n P ops Q (i :: rest) a w := by
  refine ⟨?_⟩
  obtain ⟨fn, tmps, assign, body, hy, hR⟩ := h
  rw [wpOpsIn_cons]
  unfold wpOpIn
  simp only [ho, hg, if_true]
  refine ⟨fun _ _ => trivial, ?_⟩
  rw [show o.semAt Fence.wide.round a.eval = execOp a.eval o from rfl]
  unfold execOp
  simp only [hc, resolve, hx, Sem.run_bind, Deferred.ofValue, Sem.run_pure, Result.andThen_ok, invoke, hargs, Array.append_empty, Array.empty_append, List.append_nil, hy]
  refine ⟨fun hx => by simp [Fence.wide] at hx, ?_⟩
  refine hR.mono fun e w' ⟨v, he, hv⟩ => ?_
  subst he
  exact hv.out
end
/-! Slices of elements of s cells each. -/
section
variable {P : Program} {o : Oper} {ρ : Operand → Value} {w : World}
theorem exec_makeSlice (t : TypeId) (x y : Operand) (ho : o.op = .makeSlice t x y) (e : TypeId) (i : TypeInfo) (z : Value) (ht : P.underlying t = some (.slice e)) (hi : P.info? e = some i) (hz : i.zero = some z)
    (n : Nat) (hx : ρ x = .int .i64 (n : Int)) (hy : ρ y = .int .i64 (n : Int)) (hb : i.bytes * n ≤ 281474976710656) (h63 : n ≤ 9223372036854775807) :
    (execOp ρ o).run P w = .ok (.value (.slice (some ⟨w.heap.size, 0, none⟩) n n)) (w.alloc (.cells (madeCells z.cells (n * i.size)) e)) := by
  have h := run_make (P := P) w t e i z ht hi hz .i64 .i64 (n : Int) (n : Int) (by omega) (Int.le_refl _) (by rw [← Int.natCast_mul]; omega) (by omega)
  unfold execOp
  simp only [ho, hx, hy, Sem.run_bind, h, Result.andThen_ok, Sem.run_pure, Int.toNat_natCast]
end
/-! What a step leaves of all that is no cells. -/
theorem Row.cells1 {w : World} {e : TypeId} {size n : Nat} {v : Value} {xs : List Value} (h : Row w e size v n xs) : v.cells = #[v] := by
  rcases h.2 with ⟨rfl, _⟩ | ⟨g, cap, cur, rfl, _⟩ <;> rfl
section
variable {α : Type} {w w' : World} {M : Nat → Prop} {s : Nat} {c : α → List Value} {v : Value} {xs : List α}
end
end Go.Own
namespace Go.Proofs.YtpflmldmbpnllaaDoor
set_option maxRecDepth 100000
set_option maxHeartbeats 4000000
open Go Go.RowKit Go.Own Go.Shelf
def Tx (ss : List ByteArray) : List Value := ss.map .string
def parDef : Par := ⟨100, 100, 10, 8, 7, 8, 20, 50000000, 3, 50, 100000000⟩
noncomputable def qc24_1 (n : Nat) : Code := partOf Tryd.f18 n
theorem pDefault_ok (w : World) :
    Calls Tryd.prog 18 #[] w (fun e w' => e = .returned (.agg parDef.cells) ∧ Keeps Nob w w') := by
  have K0 : Keeps Nob w w := Keeps.refl _ _
  refine sy_enter (qc24_1 1) ⟨#[ud, ud], []⟩ Tryd.func18 (by kernel_rfl) (by kernel_rfl) <| qr_ [0] <| pal 24 (#[.int .i64 0, .int .i64 0, .int .i64 0, .int .i64 0, .int .i64 0, .int .i64 0, .int .i64 0, .int .u64 0, .int .u64 0, .int .i64 0, .int .u64 0]) (.agg (#[.int .i64 0, .int .i64 0, .int .i64 0, .int .i64 0, .int .i64 0, .int .i64 0, .int .i64 0, .int .u64 0, .int .u64 0, .int .i64 0, .int .u64 0])) fun V1 g eg h2 kV1 => ?_
  have n3 : w.heap.size ≤ g := eg ▸ K0.size
  have K4 := K0.nn kV1
  have z5 := kV1.size
  refine eqr_ [0, 1] <| pkq (.agg parDef.cells) <| pst 24 g parDef.cells h2 (by kernel_rfl) rfl (by kernel_rfl) fun V6 h7 kV6 => ?_
  have K8 := K4.nO kV6
  have z9 := kV6.size
  refine eu_ <| sy_out (.agg parDef.cells) rfl (results_cell_row (p := 0) (ty := 24) (by kernel_rfl) _ _ g 24 parDef.cells (0, 0) _ (by kernel_rfl) h7 Tryd.underlying24 rfl (by kernel_rfl)) ?_
  exact ⟨rfl, K8⟩
noncomputable def qc24_2 (n : Nat) : Code := partOf Tryd.f31 n
theorem lpchecks_ok (p : Par) (x y : Int) (w : World) (hp : p.Ok) (hx1 : p.check.1 = x) (hy1 : p.check.2 = y) :
    Calls Tryd.prog 31 #[.agg p.cells, .int .i64 x, .int .i64 y] w (fun e w' => e = .returned (.bool true) ∧ Keeps Nob w w') := by
  have K0 : Keeps Nob w w := Keeps.refl _ _
  refine sy_enter (qc24_2 1) ⟨#[.agg p.cells, .int .i64 x, .int .i64 y, ud, ud, ud, ud, ud, ud, ud, ud, ud, ud, ud, ud, ud, ud, ud, ud, ud, ud, ud], []⟩ Tryd.func31 (by kernel_rfl) (by kernel_rfl) <| qr_ [0, 1] <| pbx 24 p.cells (.agg p.cells) fun V1 g eg h2 kV1 => ?_
  have n3 : w.heap.size ≤ g := eg ▸ K0.size
  have K4 := K0.nn kV1
  have z5 := kV1.size
  refine pkq (.bool false) <| eqr_ [0, 1, 2, 3, 4, 5, 6] <| ppq (.agg (p.cells)) (ldr 24 g (h2) (by kernel_rfl)) ?_
  refine pcq 9 #[.agg (p.cells)] Tryd.func9 ((pCheck_ok p hp _).mono ?_)
  rintro e V6 ⟨rfl, kV6⟩
  refine ⟨_, rfl, ?_⟩
  have K8 := K4.nn kV6
  have z9 := kV6.size
  refine pkq (.tuple #[.int .i64 p.check.1, .int .i64 p.check.2]) <| pkq (.int .i64 p.check.1) <| pkq (.int .i64 p.check.2) <| pkq (.int .i64 p.check.1) <| pkq (.int .i64 p.check.2) <| eqr_ [0, 1, 2, 3, 4, 5, 6, 7, 8] <| pkq (.int .i64 x) <| pkq (.int .i64 p.check.1) <| ppq (.bool true) (exec_cast (congrArg Value.bool (show ((((x) : Int) == ((p.check.1) : Int))) = true from by simp [hx1])) (by kernel_rfl)) <| pkq (.bool true) <| pkq (.int .i64 p.check.2) <| pkq (.int .i64 y) <| ppq (.bool true) (exec_cast (congrArg Value.bool (show ((((p.check.2) : Int) == ((y) : Int))) = true from by simp [hy1])) (by kernel_rfl)) <| pkq (.bool true) ?_
  refine pkq (.bool true) <| eu_ <| so_ (.bool true) ?_
  exact ⟨rfl, K8⟩
theorem str_eql (a b : ByteArray) (w : World) : (binOp .eql 9 (.string a) (.string b)).run Tryd.prog w = .ok (.bool (decide (a = b))) w := by
  rw [binOp_string_eql]
  obtain ⟨⟨a⟩⟩ := a; obtain ⟨⟨b⟩⟩ := b
  rw [ByteArray.toList_eq, ByteArray.toList_eq]
  have : (a == b) = decide ((⟨⟨a⟩⟩ : ByteArray) = ⟨⟨b⟩⟩) := by rw [Bool.eq_iff_iff]; simp
  rw [this]; rfl
/-- A name's number; -1: there is none. -/
def pfind (s : ByteArray) : Int := match parName.findIdx? (fun x => decide (x = s)) with | some i => (i : Int) | none => -1
theorem pfind_hit {s : ByteArray} {i : Nat} (h : ∀ j, j < i → parName[j]? ≠ some s) (hi : parName[i]? = some s) : pfind s = (i : Int) := by
  have : parName.findIdx? (fun x => decide (x = s)) = some i := by
    rw [List.findIdx?_eq_some_iff_getElem]
    obtain ⟨h1, h2⟩ := List.getElem?_eq_some_iff.1 hi
    refine ⟨h1, by simpa using h2, fun j hj => ?_⟩
    have := h j hj
    rw [List.getElem?_eq_getElem (by omega)] at this
    simpa using this
  unfold pfind; rw [this]
theorem pfind_none {s : ByteArray} (h : ∀ j, j < 11 → parName[j]? ≠ some s) : pfind s = -1 := by
  have : parName.findIdx? (fun x => decide (x = s)) = none := by
    rw [List.findIdx?_eq_none_iff]
    intro x hx
    obtain ⟨j, hj⟩ := List.getElem?_of_mem hx
    have h1 := (List.getElem?_eq_some_iff.1 hj).1
    have h2 := h j h1
    rw [hj] at h2
    simpa using h2
  unfold pfind; rw [this]
noncomputable def qc24_5 (n : Nat) : Code := partOf Tryd.f36 n
theorem kFields_blk (p : Par) (w : World) (hp : p.Ok) :
    Calls Tryd.prog 36 #[.agg p.cells] w (fun e w' => ∃ g, e = .returned (.slice (some ⟨g, 0, none⟩) 11 11) ∧ w'.heap[g]? = some (.cells (I p.r).toArray 3 (0, 0)) ∧ w.heap.size ≤ g ∧ Keeps Nob w w') := by
  have hb0 := hp.base.1
  have hm0 := hp.mult.1
  have hr0 := hp.rew.1
  have K0 : Keeps Nob w w := Keeps.refl _ _
  refine sy_enter (qc24_5 1) ⟨#[.agg p.cells, ud, ud, ud, ud, ud, ud, ud, ud, ud, ud, ud, ud, ud, ud, ud, ud, ud, ud, ud, ud, ud, ud, ud, ud, ud, ud, ud, ud, ud, ud, ud], []⟩ Tryd.func36 (by kernel_rfl) (by kernel_rfl) <| qr_ [0, 1] <| pbx 24 p.cells (.agg p.cells) fun V1 gm egm h2 kV1 => ?_
  have n3 : w.heap.size ≤ gm := egm ▸ K0.size
  have K4 := K0.nn kV1
  have z5 := kV1.size
  refine pkq (.slice none 0 0) <| eqr_ [0, 1, 2, 3, 4, 5, 6, 7, 8, 9, 10, 11, 12, 13, 14, 15, 16, 17, 18, 19, 20, 21, 22, 23, 24, 25, 26, 27, 28, 29] <| pkq (pT gm 0) <| ppq (.int .i64 p.unb) (ldc 3 gm 0 (rc (h2) (rfl))) <| pkq (pT gm 1) <| ppq (.int .i64 p.mage) (ldc 3 gm 1 (rc (h2) (rfl))) <| pkq (pT gm 2) <| ppq (.int .i64 p.elen) (ldc 3 gm 2 (rc (h2) (rfl))) <| pkq (pT gm 3) <| ppq (.int .i64 p.win) (ldc 3 gm 3 (rc (h2) (rfl))) <| pkq (pT gm 4) <| ppq (.int .i64 p.ent) (ldc 3 gm 4 (rc (h2) (rfl))) <| pkq (pT gm 5) <| ppq (.int .i64 p.act) (ldc 3 gm 5 (rc (h2) (rfl))) ?_
  refine pkq (pT gm 6) <| ppq (.int .i64 p.jail) (ldc 3 gm 6 (rc (h2) (rfl))) <| pkq (pT gm 7) <| ppq (.int .u64 p.base) (ldc 22 gm 7 (rc (h2) (rfl))) <| ppq (.int .u64 (min p.base 1099511627776)) (exec_min (.tmp 18) (.const (.int .u64 1099511627776)) #[22, 22] (by kernel_rfl) .u64 p.base 1099511627776 (by kernel_rfl) (by kernel_rfl)) <| prq (.int .i64 (min p.base 1099511627776)) (w' := V1) (exec_convert 22 3 (.tmp 19) (by kernel_rfl) _ (by kernel_rfl) (conv_u64 _ _ (by omega) (by omega))) <| pkq (pT gm 8) <| ppq (.int .u64 p.mult) (ldc 22 gm 8 (rc (h2) (rfl))) <| ppq (.int .u64 (min p.mult 1099511627776)) (exec_min (.tmp 22) (.const (.int .u64 1099511627776)) #[22, 22] (by kernel_rfl) .u64 p.mult 1099511627776 (by kernel_rfl) (by kernel_rfl)) <| prq (.int .i64 (min p.mult 1099511627776)) (w' := V1) (exec_convert 22 3 (.tmp 23) (by kernel_rfl) _ (by kernel_rfl) (conv_u64 _ _ (by omega) (by omega))) <| pkq (pT gm 9) <| ppq (.int .i64 p.corr) (ldc 3 gm 9 (rc (h2) (rfl))) <| pkq (pT gm 10) <| ppq (.int .u64 p.rew) (ldc 22 gm 10 (rc (h2) (rfl))) ?_
  refine ppq (.int .u64 (min p.rew 1099511627776)) (exec_min (.tmp 28) (.const (.int .u64 1099511627776)) #[22, 22] (by kernel_rfl) .u64 p.rew 1099511627776 (by kernel_rfl) (by kernel_rfl)) <| prq (.int .i64 (min p.rew 1099511627776)) (w' := V1) (exec_convert 22 3 (.tmp 29) (by kernel_rfl) _ (by kernel_rfl) (conv_u64 _ _ (by omega) (by omega))) ?_
  obtain ⟨V6, eV6, g, eg, h7, kV6⟩ := alloc_step V1 (#[.int .i64 p.unb, .int .i64 p.mage, .int .i64 p.elen, .int .i64 p.win, .int .i64 p.ent, .int .i64 p.act, .int .i64 p.jail, .int .i64 (min p.base 1099511627776), .int .i64 (min p.mult 1099511627776), .int .i64 p.corr, .int .i64 (min p.rew 1099511627776)]) 3
  have n8 : gm < g := eg ▸ lt_of_block h2
  have n9 : w.heap.size ≤ g := eg ▸ K4.size
  refine prq (.slice (some ⟨g, 0, none⟩) 11 11) (w' := V6) (by rw [← eV6, ← eg]; kernel_rfl) ?_
  have K11 := K4.nn kV6
  have z12 := kV6.size
  refine pkq (.slice (some ⟨g, 0, none⟩) 11 11) <| ps_end <| sy_a ⟨#[.agg p.cells, pT gm 0, .slice (some ⟨g, 0, none⟩) 11 11, pT gm 0, .int .i64 p.unb, pT gm 1, .int .i64 p.mage, pT gm 2, .int .i64 p.elen, pT gm 3, .int .i64 p.win, pT gm 4, .int .i64 p.ent, pT gm 5, .int .i64 p.act, pT gm 6, .int .i64 p.jail, pT gm 7, .int .u64 p.base, .int .u64 (min p.base 1099511627776), .int .i64 (min p.base 1099511627776), pT gm 8, .int .u64 p.mult, .int .u64 (min p.mult 1099511627776), .int .i64 (min p.mult 1099511627776), pT gm 9, .int .i64 p.corr, pT gm 10, .int .u64 p.rew, .int .u64 (min p.rew 1099511627776), .int .i64 (min p.rew 1099511627776), .slice (some ⟨g, 0, none⟩) 11 11], []⟩ <| then_n <| u_ <| so_ (.slice (some ⟨g, 0, none⟩) 11 11) ?_
  exact ⟨g, rfl, h7.trans (by kernel_rfl), by omega, K11⟩
/-- The params of eleven numbers. -/
def parOf (x0 x1 x2 x3 x4 x5 x6 x7 x8 x9 x10 : Int) : Par := ⟨x0, x1, x2, x3, x4, x5, x6, x7, x8, x9, x10⟩
theorem ints_made : madeCells (Value.int .i64 0).cells (11 * 1) = (I [0, 0, 0, 0, 0, 0, 0, 0, 0, 0, 0]).toArray := by kernel_rfl
theorem int_info0 : (Tryd.prog.info? 3).map (fun i => (i.zero, i.size, i.bytes)) = some (some (.int .i64 0), 1, 8) := by kernel_rfl
noncomputable def part_kRecord (n : Nat) : Code := partOf Tryd.f41 n
noncomputable abbrev o_kRecord (n k : Nat) : Oper := (opsAt (part_kRecord n)).getD k default
theorem kRecord_ok (g : Nat) (x0 x1 x2 x3 x4 x5 x6 x7 x8 x9 x10 : Int) (w : World) (h0 : w.heap[g]? = some (.cells (I [x0, x1, x2, x3, x4, x5, x6, x7, x8, x9, x10]).toArray 3 (0, 0))) (hq7 : 0 ≤ x7 ∧ x7 ≤ 9223372036854775807) (hq8 : 0 ≤ x8 ∧ x8 ≤ 9223372036854775807) (hq10 : 0 ≤ x10 ∧ x10 ≤ 9223372036854775807) :
    Calls Tryd.prog 41 #[.slice (some ⟨g, 0, none⟩) 11 11] w (fun e w' => e = .returned (.agg (parOf x0 x1 x2 x3 x4 x5 x6 x7 x8 x9 x10).cells) ∧ Keeps Nob w w') := by
  obtain ⟨i0, hi0, hz0, hz1, hz2⟩ := info_parts int_info0
  have hgl := lt_of_block h0
  have K0 : Keeps Nob w w := Keeps.refl _ _
  refine sy_enter (part_kRecord 1) ⟨#[.slice (some ⟨g, 0, none⟩) 11 11, ud, ud, ud, ud, ud, ud, ud, ud, ud, ud, ud, ud, ud, ud, ud, ud, ud, ud, ud, ud, ud, ud, ud, ud, ud, ud, ud, ud, ud, ud, ud, ud, ud, ud, ud, ud, ud, ud, ud, ud, ud, ud, ud, ud], []⟩ Tryd.func41 (by kernel_rfl) (by kernel_rfl) <| qr_ [0] <| pal 24 (#[.int .i64 0, .int .i64 0, .int .i64 0, .int .i64 0, .int .i64 0, .int .i64 0, .int .i64 0, .int .u64 0, .int .u64 0, .int .i64 0, .int .u64 0]) (.agg (#[.int .i64 0, .int .i64 0, .int .i64 0, .int .i64 0, .int .i64 0, .int .i64 0, .int .i64 0, .int .u64 0, .int .u64 0, .int .i64 0, .int .u64 0])) fun V1 gr egr h2 kV1 => ?_
  have n3 : g < gr := egr ▸ lt_of_block h0
  have n4 : w.heap.size ≤ gr := egr ▸ K0.size
  have h5 := kV1.bk h0
  have K6 := K0.nn kV1
  have z7 := kV1.size
  refine eqr_ [0, 1] ?_
  obtain ⟨V8, eV8, s, es, h9, kV8⟩ := alloc_step V1 (madeCells (Value.int .i64 0).cells (11 * i0.size)) 3
  have h10 : V8.heap[s]? = some (.cells ((I [0, 0, 0, 0, 0, 0, 0, 0, 0, 0, 0]).toArray) 3 (0, 0)) := h9.trans (by rw [hz1]; exact congrArg (fun c => some (Obj.cells c 3 (0, 0))) ints_made)
  refine prq (.slice (some ⟨s, 0, none⟩) 11 11) (w' := V8) (by rw [← eV8, ← es]; exact exec_makeSlice 55 (.const (.int .i64 11)) (.const (.int .i64 11)) (by kernel_rfl) 3 i0 (.int .i64 0) Tryd.underlying55 hi0 hz0 11 (by kernel_rfl) (by kernel_rfl) (by rw [hz2]; omega) (by omega)) ?_
  clear eV8
  have ns : w.heap.size ≤ s := es ▸ K6.size
  have ngs : gr < s := es ▸ lt_of_block h2
  have ngg : g < s := es ▸ lt_of_block h5
  have h11 := kV8.bk h5
  have h12 := kV8.bk h2
  have K13 := K6.nn kV8
  have z14 := kV8.size
  refine pkq (.slice (some ⟨s, 0, none⟩) 11 11) <| eqr_ [0, 1, 2] <| pkq (.slice (some ⟨s, 0, none⟩) 11 11) <| pkq (.slice (some ⟨g, 0, none⟩) 11 11) ?_
  obtain ⟨V15, eV15, kV15⟩ := rowset_step V8 s (I [x0, x1, x2, x3, x4, x5, x6, x7, x8, x9, x10]).toArray
  have h16 : V15.heap[s]? = some (.cells ((I [x0, x1, x2, x3, x4, x5, x6, x7, x8, x9, x10]).toArray) 3 (0, 0)) := eV15 ▸ setRow_heap _ _ _ _ _ _ h10
  refine prq (iN 11) (w' := V15) (by rw [← eV15]; exact exec_copy_row (.tmp 5) (.tmp 6) 55 (by kernel_rfl) 3 Tryd.underlying55 (by kernel_rfl) s 11 g 11 (by kernel_rfl) (by kernel_rfl) _ _ h10 (by kernel_rfl) (I [x0, x1, x2, x3, x4, x5, x6, x7, x8, x9, x10]) rfl _ h11 (I_one _)) ?_
  clear eV15
  have h18 := kV15.bO h12
  have K19 := K13.nO kV15
  have z20 := kV15.size
  refine eq_ <| sy_reg <| rg_still 3 37 (opsAt (part_kRecord 30)) [o_kRecord 30 0, o_kRecord 30 1, o_kRecord 30 2, o_kRecord 30 3, o_kRecord 30 4, o_kRecord 30 5, o_kRecord 30 6, o_kRecord 30 7, o_kRecord 30 8, o_kRecord 30 9, o_kRecord 30 10, o_kRecord 30 11, o_kRecord 30 12, o_kRecord 30 13, o_kRecord 30 14, o_kRecord 30 15, o_kRecord 30 16, o_kRecord 30 17, o_kRecord 30 18, o_kRecord 30 19, o_kRecord 30 20, o_kRecord 30 21, o_kRecord 30 22, o_kRecord 30 23, o_kRecord 30 24, o_kRecord 30 25, o_kRecord 30 26, o_kRecord 30 27, o_kRecord 30 28, o_kRecord 30 29, o_kRecord 30 30, o_kRecord 30 31, o_kRecord 30 32, o_kRecord 30 33, o_kRecord 30 34, o_kRecord 30 35, o_kRecord 30 36] [o_kRecord 30 37] (by kernel_rfl) (by kernel_rfl) (by kernel_rfl) (by kernel_rfl) (by kernel_rfl) ?_
  obtain ⟨V22, eV22, kV22⟩ := drew_step V15
  rw [eV22]
  clear eV22
  have h24 := kV22.bk h18
  have h25 := kV22.bk h16
  have K26 := K19.nn kV22
  have z27 := kV22.size
  refine skq (.slice (some ⟨s, 0, none⟩) 11 11) <| spq (pT s 0) (exec_cast (v := pT s (0 + 0 * 1)) (by simp) (exec_indexAt_slice 55 (.tmp 8) (.const (.int .i64 0)) (by kernel_rfl) s 0 11 11 (by kernel_rfl) .i64 0 (by kernel_rfl) _ 1 Tryd.underlying55 (by kernel_rfl) (by omega))) <| spq (.int .i64 x0) (ldc 3 s 0 (rc (h25) (rfl))) <| skq (.slice (some ⟨s, 0, none⟩) 11 11) <| spq (pT s 1) (exec_cast (v := pT s (0 + 1 * 1)) (by simp) (exec_indexAt_slice 55 (.tmp 11) (.const (.int .i64 1)) (by kernel_rfl) s 0 11 11 (by kernel_rfl) .i64 1 (by kernel_rfl) _ 1 Tryd.underlying55 (by kernel_rfl) (by omega))) <| spq (.int .i64 x1) (ldc 3 s 1 (rc (h25) (rfl))) <| skq (.slice (some ⟨s, 0, none⟩) 11 11) <| spq (pT s 2) (exec_cast (v := pT s (0 + 2 * 1)) (by simp) (exec_indexAt_slice 55 (.tmp 14) (.const (.int .i64 2)) (by kernel_rfl) s 0 11 11 (by kernel_rfl) .i64 2 (by kernel_rfl) _ 1 Tryd.underlying55 (by kernel_rfl) (by omega))) <| spq (.int .i64 x2) (ldc 3 s 2 (rc (h25) (rfl))) <| skq (.slice (some ⟨s, 0, none⟩) 11 11) <| spq (pT s 3) (exec_cast (v := pT s (0 + 3 * 1)) (by simp) (exec_indexAt_slice 55 (.tmp 17) (.const (.int .i64 3)) (by kernel_rfl) s 0 11 11 (by kernel_rfl) .i64 3 (by kernel_rfl) _ 1 Tryd.underlying55 (by kernel_rfl) (by omega))) <| spq (.int .i64 x3) (ldc 3 s 3 (rc (h25) (rfl))) <| skq (.slice (some ⟨s, 0, none⟩) 11 11) <| spq (pT s 4) (exec_cast (v := pT s (0 + 4 * 1)) (by simp) (exec_indexAt_slice 55 (.tmp 20) (.const (.int .i64 4)) (by kernel_rfl) s 0 11 11 (by kernel_rfl) .i64 4 (by kernel_rfl) _ 1 Tryd.underlying55 (by kernel_rfl) (by omega))) ?_
  refine spq (.int .i64 x4) (ldc 3 s 4 (rc (h25) (rfl))) <| skq (.slice (some ⟨s, 0, none⟩) 11 11) <| spq (pT s 5) (exec_cast (v := pT s (0 + 5 * 1)) (by simp) (exec_indexAt_slice 55 (.tmp 23) (.const (.int .i64 5)) (by kernel_rfl) s 0 11 11 (by kernel_rfl) .i64 5 (by kernel_rfl) _ 1 Tryd.underlying55 (by kernel_rfl) (by omega))) <| spq (.int .i64 x5) (ldc 3 s 5 (rc (h25) (rfl))) <| skq (.slice (some ⟨s, 0, none⟩) 11 11) <| spq (pT s 6) (exec_cast (v := pT s (0 + 6 * 1)) (by simp) (exec_indexAt_slice 55 (.tmp 26) (.const (.int .i64 6)) (by kernel_rfl) s 0 11 11 (by kernel_rfl) .i64 6 (by kernel_rfl) _ 1 Tryd.underlying55 (by kernel_rfl) (by omega))) <| spq (.int .i64 x6) (ldc 3 s 6 (rc (h25) (rfl))) <| skq (.slice (some ⟨s, 0, none⟩) 11 11) <| spq (pT s 7) (exec_cast (v := pT s (0 + 7 * 1)) (by simp) (exec_indexAt_slice 55 (.tmp 29) (.const (.int .i64 7)) (by kernel_rfl) s 0 11 11 (by kernel_rfl) .i64 7 (by kernel_rfl) _ 1 Tryd.underlying55 (by kernel_rfl) (by omega))) <| spq (.int .i64 x7) (ldc 3 s 7 (rc (h25) (rfl))) <| spq (.int .u64 x7) (exec_convert 3 22 (.tmp 31) (by kernel_rfl) _ (by kernel_rfl) (conv_i64 _ _ hq7.1 hq7.2)) <| skq (.slice (some ⟨s, 0, none⟩) 11 11) <| spq (pT s 8) (exec_cast (v := pT s (0 + 8 * 1)) (by simp) (exec_indexAt_slice 55 (.tmp 33) (.const (.int .i64 8)) (by kernel_rfl) s 0 11 11 (by kernel_rfl) .i64 8 (by kernel_rfl) _ 1 Tryd.underlying55 (by kernel_rfl) (by omega))) <| spq (.int .i64 x8) (ldc 3 s 8 (rc (h25) (rfl))) ?_
  refine spq (.int .u64 x8) (exec_convert 3 22 (.tmp 35) (by kernel_rfl) _ (by kernel_rfl) (conv_i64 _ _ hq8.1 hq8.2)) <| skq (.slice (some ⟨s, 0, none⟩) 11 11) <| spq (pT s 9) (exec_cast (v := pT s (0 + 9 * 1)) (by simp) (exec_indexAt_slice 55 (.tmp 37) (.const (.int .i64 9)) (by kernel_rfl) s 0 11 11 (by kernel_rfl) .i64 9 (by kernel_rfl) _ 1 Tryd.underlying55 (by kernel_rfl) (by omega))) <| spq (.int .i64 x9) (ldc 3 s 9 (rc (h25) (rfl))) <| skq (.slice (some ⟨s, 0, none⟩) 11 11) <| spq (pT s 10) (exec_cast (v := pT s (0 + 10 * 1)) (by simp) (exec_indexAt_slice 55 (.tmp 40) (.const (.int .i64 10)) (by kernel_rfl) s 0 11 11 (by kernel_rfl) .i64 10 (by kernel_rfl) _ 1 Tryd.underlying55 (by kernel_rfl) (by omega))) <| spq (.int .i64 x10) (ldc 3 s 10 (rc (h25) (rfl))) <| spq (.int .u64 x10) (exec_convert 3 22 (.tmp 42) (by kernel_rfl) _ (by kernel_rfl) (conv_i64 _ _ hq10.1 hq10.2)) <| skq (.agg (parOf x0 x1 x2 x3 x4 x5 x6 x7 x8 x9 x10).cells) <| st_end ?_
  obtain ⟨V28, eV28, kV28⟩ := rowset_step V22 gr ((parOf x0 x1 x2 x3 x4 x5 x6 x7 x8 x9 x10).cells)
  have h29 : V28.heap[gr]? = some (.cells ((parOf x0 x1 x2 x3 x4 x5 x6 x7 x8 x9 x10).cells) 24 (0, 0)) := eV28 ▸ setRow_heap _ _ _ _ _ _ h24
  refine ls_skip (o_kRecord 30 37) (w' := V28) (by kernel_rfl) (by rw [← eV28]; exact exec_store_row 24 (.tmp 2) (.tmp 44) (by kernel_rfl) gr ((parOf x0 x1 x2 x3 x4 x5 x6 x7 x8 x9 x10).cells) (by kernel_rfl) (by kernel_rfl) 24 (#[.int .i64 0, .int .i64 0, .int .i64 0, .int .i64 0, .int .i64 0, .int .i64 0, .int .i64 0, .int .u64 0, .int .u64 0, .int .i64 0, .int .u64 0]) h24 (by kernel_rfl) rfl (by kernel_rfl)) ?_
  clear eV28
  have K32 := K26.nO kV28
  have z33 := kV28.size
  refine ls_end <| sy_a ⟨#[.slice (some ⟨g, 0, none⟩) 11 11, ud, pT gr 0, .slice (some ⟨s, 0, none⟩) 11 11, .slice (some ⟨s, 0, none⟩) 11 11, .slice (some ⟨s, 0, none⟩) 11 11, .slice (some ⟨g, 0, none⟩) 11 11, .int .i64 11, .slice (some ⟨s, 0, none⟩) 11 11, pT s 0, .int .i64 x0, .slice (some ⟨s, 0, none⟩) 11 11, pT s 1, .int .i64 x1, .slice (some ⟨s, 0, none⟩) 11 11, pT s 2, .int .i64 x2, .slice (some ⟨s, 0, none⟩) 11 11, pT s 3, .int .i64 x3, .slice (some ⟨s, 0, none⟩) 11 11, pT s 4, .int .i64 x4, .slice (some ⟨s, 0, none⟩) 11 11, pT s 5, .int .i64 x5, .slice (some ⟨s, 0, none⟩) 11 11, pT s 6, .int .i64 x6, .slice (some ⟨s, 0, none⟩) 11 11, pT s 7, .int .i64 x7, .int .u64 x7, .slice (some ⟨s, 0, none⟩) 11 11, pT s 8, .int .i64 x8, .int .u64 x8, .slice (some ⟨s, 0, none⟩) 11 11, pT s 9, .int .i64 x9, .slice (some ⟨s, 0, none⟩) 11 11, pT s 10, .int .i64 x10, .int .u64 x10, .agg (parOf x0 x1 x2 x3 x4 x5 x6 x7 x8 x9 x10).cells], []⟩ <| then_n <| u_ <| sy_out (.agg ((parOf x0 x1 x2 x3 x4 x5 x6 x7 x8 x9 x10).cells)) rfl (results_cell_row (p := 2) (ty := 24) (by kernel_rfl) _ _ gr 24 ((parOf x0 x1 x2 x3 x4 x5 x6 x7 x8 x9 x10).cells) (0, 0) _ (by kernel_rfl) h29 Tryd.underlying24 rfl (by kernel_rfl)) ?_
  exact ⟨rfl, K32⟩
theorem Par.check_0 {p : Par} (h : p.check.1 = 0) : (∀ j, j < 11 → p.good j) ∧ p.mage ≤ p.unb := by
  by_cases hg : ∀ j, j < 11 → p.good j
  · refine ⟨hg, ?_⟩
    rw [p.check_good hg] at h
    split at h
    · cases h
    · omega
  · exfalso
    obtain ⟨i, hi, hb, hm⟩ : ∃ i, i < 11 ∧ ¬ p.good i ∧ ∀ j, j < i → p.good j := by
      have : ∃ i, i < 11 ∧ ¬ p.good i := by
        refine Classical.byContradiction fun hc => hg fun j hj => Classical.byContradiction fun hn => hc ⟨j, hj, hn⟩
      obtain ⟨i, h1, h2⟩ := this
      induction i using Nat.strongRecOn with
      | ind i ih =>
        by_cases hq : ∀ j, j < i → p.good j
        · exact ⟨i, h1, h2, hq⟩
        · have : ∃ j, j < i ∧ ¬ p.good j := Classical.byContradiction fun hc => hq fun j hj => Classical.byContradiction fun hn => hc ⟨j, hj, hn⟩
          obtain ⟨j, hj, hn⟩ := this
          exact ih j hj (by omega) hn
    rw [p.check_bad i hi hm hb] at h
    cases h
theorem parLo_nn (i : Nat) : 0 ≤ parLo[i]?.getD 0 := by
  by_cases h : i < 11
  · have h' : i = 0 ∨ i = 1 ∨ i = 2 ∨ i = 3 ∨ i = 4 ∨ i = 5 ∨ i = 6 ∨ i = 7 ∨ i = 8 ∨ i = 9 ∨ i = 10 := by omega
    rcases h' with rfl | rfl | rfl | rfl | rfl | rfl | rfl | rfl | rfl | rfl | rfl <;> decide
  · rw [List.getElem?_eq_none (by show 11 ≤ i; omega)]; decide
theorem parHi_le (i : Nat) : parHi[i]?.getD 0 ≤ 1000000000 := by
  by_cases h : i < 11
  · have h' : i = 0 ∨ i = 1 ∨ i = 2 ∨ i = 3 ∨ i = 4 ∨ i = 5 ∨ i = 6 ∨ i = 7 ∨ i = 8 ∨ i = 9 ∨ i = 10 := by omega
    rcases h' with rfl | rfl | rfl | rfl | rfl | rfl | rfl | rfl | rfl | rfl | rfl <;> decide
  · rw [List.getElem?_eq_none (by show 11 ≤ i; omega)]; decide
theorem Par.r_in {p : Par} (h : ∀ j, j < 11 → p.good j) (i : Nat) (hi : i < 11) : 0 ≤ p.r[i]?.getD 0 ∧ p.r[i]?.getD 0 ≤ 9223372036854775807 ∧ p.r[i]?.getD 0 = p.l[i]?.getD 0 := by
  have h1 := (p.good_r i hi).1 (h i hi)
  have h2 := h i hi
  have := parLo_nn i; have := parHi_le i
  refine ⟨by omega, by omega, ?_⟩
  unfold Par.good at h2
  have h' : i = 0 ∨ i = 1 ∨ i = 2 ∨ i = 3 ∨ i = 4 ∨ i = 5 ∨ i = 6 ∨ i = 7 ∨ i = 8 ∨ i = 9 ∨ i = 10 := by omega
  rcases h' with rfl | rfl | rfl | rfl | rfl | rfl | rfl | rfl | rfl | rfl | rfl <;> first | rfl | (simp [Par.r, Par.l, parHi] at h2 ⊢; omega)
theorem pCheck_is (p : Par) (x : Int) (w : World) (hp : p.Ok) (h : p.check.1 = x) : Calls Tryd.prog 9 #[.agg p.cells] w fun e w' => e = .returned (.tuple #[.int .i64 x, .int .i64 p.check.2]) ∧ Keeps Nob w w' := h ▸ pCheck_ok p hp w
/-- What a field of a name is. -/
def pget (p : Par) (s : ByteArray) : Int × Int := if p.check.1 = 0 then (if pfind s = -1 then (0, 10) else (p.l[(pfind s).toNat]?.getD 0, 0)) else (0, p.check.1)
/-- The params of a list. -/
def parOfL (l : List Int) : Par := parOf (l[0]?.getD 0) (l[1]?.getD 0) (l[2]?.getD 0) (l[3]?.getD 0) (l[4]?.getD 0) (l[5]?.getD 0) (l[6]?.getD 0) (l[7]?.getD 0) (l[8]?.getD 0) (l[9]?.getD 0) (l[10]?.getD 0)
theorem eleven {l : List Int} (h : l.length = 11) : l = [l[0]?.getD 0, l[1]?.getD 0, l[2]?.getD 0, l[3]?.getD 0, l[4]?.getD 0, l[5]?.getD 0, l[6]?.getD 0, l[7]?.getD 0, l[8]?.getD 0, l[9]?.getD 0, l[10]?.getD 0] := by
  match l, h with
  | [a, b, c, d, e, f, g, i, j, k, m], _ => rfl
def parZ : Par := ⟨0, 0, 0, 0, 0, 0, 0, 0, 0, 0, 0⟩
/-- The params with another number in a field. -/
def pwith (p : Par) (i : Nat) (n : Nat) : Par := parOfL (p.r.set i (min (n : Int) 1099511627776))
theorem set_in {p : Par} (h : ∀ j, j < 11 → p.good j) (i n : Nat) : ∀ k, k < 11 → 0 ≤ (p.r.set i (min (n : Int) 1099511627776))[k]?.getD 0 ∧ (p.r.set i (min (n : Int) 1099511627776))[k]?.getD 0 ≤ 9223372036854775807 := by
  intro k hk
  have := Par.r_in h k hk
  rw [List.getElem?_set]
  split
  · split
    · simp only [Option.getD_some]; omega
    · simp only [Option.getD_none]; omega
  · exact ⟨this.1, this.2.1⟩
theorem pwith_Ok {p : Par} (h : ∀ j, j < 11 → p.good j) (i n : Nat) : (pwith p i n).Ok := by
  have H := set_in h i n
  have ii : ∀ k, k < 11 → i64ok ((p.r.set i (min (n : Int) 1099511627776))[k]?.getD 0) := fun k hk => ⟨by have := H k hk; omega, (H k hk).2⟩
  have uu : ∀ k, k < 11 → u64ok ((p.r.set i (min (n : Int) 1099511627776))[k]?.getD 0) := fun k hk => ⟨(H k hk).1, by have := H k hk; omega⟩
  exact ⟨ii 0 (by omega), ii 1 (by omega), ii 2 (by omega), ii 3 (by omega), ii 4 (by omega), ii 5 (by omega), ii 6 (by omega), uu 7 (by omega), uu 8 (by omega), ii 9 (by omega), uu 10 (by omega)⟩
def pset (p : Par) (s : ByteArray) (n : Nat) : Par × Int :=
  if p.check.1 = 0 then (if pfind s = -1 then (parZ, 10) else (if (pwith p (pfind s).toNat n).check.1 = 0 then (pwith p (pfind s).toNat n, 0) else (parZ, (pwith p (pfind s).toNat n).check.1))) else (parZ, p.check.1)
end Go.Proofs.YtpflmldmbpnllaaDoor
