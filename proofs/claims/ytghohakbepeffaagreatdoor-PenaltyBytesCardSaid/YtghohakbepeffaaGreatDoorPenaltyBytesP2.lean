import Derived.Test.YtghohakbepeffaaGreatDoorPenaltyBytesP1
import Derived.OrdersHeld
import Derived.Deep.RegionHeld
import Derived.Laws.Rows
import Derived.Laws.Tables
import Derived.Maps.AppendAt
import Derived.OwnWalkIn
import Derived.Laws.BytesArg
import Derived.Laws.OwnMore
import Derived.Laws.CopyRow
import Derived.Laws.Slices
import Derived.Deep.MidRow
import Derived.StillTail
import Derived.Deep.RegionHeld3
import Derived.Shelf.Abstract
import Derived.IntWalk
import Derived.LoopN
import Derived.RangeFuncNested
import Derived.RangeFuncBound
import Derived.RangeFuncCalls
import Derived.RangeFuncLeaves
import Derived.TacticsInMore
import Derived.LoopNIn
import Derived.LoopIn
import Derived.Lib.SlBytesConst
import Derived.Laws.Concat
import Derived.Laws.Strings
import Derived.Lib.SliceRun
import Derived.Laws.MakeOwn
import Derived.Great.BuildSlice
import Derived.Defers
import Derived.Recover
import Derived.ProofKit
import Derived.OpenShut
import Derived.ShutString
import Derived.Carry
import Derived.Deep.Slices
import Derived.Deep.Fields
import Derived.Stop.Asserts
import Derived.LaidLaws
import Derived.LaidHandle
import Derived.Stop.Joined
import Derived.Laws.EntriesVeiled
import Derived.Laws.BitsAllLaws
import Derived.Lib.Tables
import Derived.Lib.Mul64
import Derived.Lib.AppendZerosOnto
import Derived.Sort.LoopGhostIn
import Derived.OneCell
import Derived.ChangeKeysEq
import Derived.Laws.StructEq
import Derived.Test.YtghohakbepeffaaGreatDoorCards
import Derived.Test.YtghohakbepeffaaGreatDoorTie
import Derived.LaidMore
import Derived.Lay
import Derived.SevenTiedAt
import Derived.Lib.LaidU8
namespace Go.Own
open Go Go.RowKit
/-- What an operation yields in whatever world, where no memory is looked at. -/
def pureV (P : Program) (ρ : Operand → Value) (o : Oper) : Option Value :=
  match o.op with
  | .move x => some (ρ x)
  | .assign x => some (ρ x)
  | .nilCheck x => match ρ x with | .pointer (some p) => some (.pointer (some p)) | _ => none
  | .fieldAddr s x f => match P.underlying s, ρ x with
    | some (.struct fields), .pointer (some a) => match fields[f]? with
      | some fd => match P.info? fd.type with
        | some i => if i.size = 0 then none else some (.pointer (some (a.add fd.offset)))
        | none => none
      | none => none
    | _, _ => none
  | _ => none
theorem pureV_run {P : Program} {ρ : Operand → Value} {o : Oper} {v : Value} (h : pureV P ρ o = some v) (w : World) : (execOp ρ o).run P w = .ok (.value v) w := by
  unfold pureV at h
  unfold execOp
  split at h
  · rename_i x ho; simp only [ho]; cases h; rfl
  · rename_i x ho; simp only [ho]; cases h; rfl
  · rename_i x ho
    simp only [ho]
    split at h
    · rename_i p hp; cases h; simp only [hp]; rfl
    · cases h
  · rename_i s x f ho
    simp only [ho]
    split at h
    · rename_i fields a hs hx
      split at h
      · rename_i fd hfd
        split at h
        · rename_i i hi
          split at h
          · cases h
          · rename_i hne
            cases h
            simp [Instr.fieldAt, hx, run_underlying hs, hfd, Instr.sureAddr, fieldPlace, sizeOf, typeInfo, hi, hne, go_sem]
        · cases h
      · cases h
    · cases h
  · cases h
/-- Which operations are taken so, and the state behind them. -/
def pureRun (P : Program) (md : Region.Mode) (ops : Array Oper) : List Nat → Array Bool → Act → Option (Array Bool × Act)
  | [], l, a => some (l, a)
  | i :: r, l, a => match ops[i]? with
    | none => none
    | some o => if o.guard = none ∧ Region.free md ops l i = true ∧ (Region.ready md ops l).contains i = true then
        match pureV P a.eval o with
        | some v => pureRun P md ops r (l.setIfInBounds i true) (a.put o.dst v)
        | none => none
      else none
theorem put_defers (a : Act) (d : Option Tmp) (v : Value) : (a.put d v).defers = a.defers := by cases d <;> rfl
section
variable {P : Program} {ops : Array Oper} {Q : Exit → Act → World → Prop} {md : Region.Mode}
theorem wpAny_pure (hs : Region.noSelect ops = true) (hQ : ∀ c (a a' : Act) w, a'.defers = a.defers → Q (.panic c) a' w → Q (.panic c) a w) :
    ∀ (is : List Nat) (l l' : Array Bool) (a a' : Act) (w : World) (fuel : Nat), pureRun P md ops is l a = some (l', a') → wpAny P md ops Q fuel l' a' w → wpAny P md ops Q (fuel + is.length) l a w := by
  intro is
  induction is with
  | nil => intro l l' a a' w fuel h hw; simp only [pureRun, Option.some.injEq, Prod.mk.injEq] at h; obtain ⟨rfl, rfl⟩ := h; exact hw
  | cons i r ih =>
    intro l l' a a' w fuel h hw
    rw [pureRun] at h
    split at h
    · cases h
    · rename_i o ho
      split at h
      · rename_i hc
        obtain ⟨hg, hf, hr⟩ := hc
        split at h
        · rename_i v hv
          have h2 := ih _ _ _ _ w fuel h hw
          refine wpAny_take (i := i) (oi := o) (v := v) (fuel := fuel + r.length) ho hs hf hr (fun c a w hp => hQ c a _ w (put_defers _ _ _) hp) (.inl ⟨by simp [Region.wanted, hg], fun w => pureV_run hv w⟩) h2
        · cases h
      · cases h
/-- A call that alone may come up. -/
theorem wpAny_call {i : Nat} {o : Oper} {f : FuncId} {aas : Array Operand} {ts : Array TypeId} {args : Array Value} {fuel : Nat} {l : Array Bool} {a : Act} {w : World} (hr : Region.ready md ops l = [i]) (ho : ops[i]? = some o) (hg : o.guard = none)
    (hc : o.op = .call { callee := .value (.func f), args := aas, argTypes := ts }) (hargs : aas.map a.eval = args) (he : ∀ args w, (callFunc f args).run P w = .ok (.enter f args) w)
    (h : Calls P f args w fun e w' => ∃ v, e = .returned v ∧ wpAny P md ops Q fuel (l.setIfInBounds i true) (a.put o.dst v) w') : wpAny P md ops Q (fuel + 1) l a w := by
  refine wpAny_all hr (by simp) fun j hj => ?_
  obtain rfl : j = i := by simpa using hj
  unfold wpOp
  simp only [ho, Region.wanted, hg, if_true]
  refine .inl ?_
  unfold Oper.wp execOp
  simp only [hc, resolve, hargs, Act.eval, Sem.run_bind, Deferred.ofValue, Sem.run_pure, Result.andThen_ok, invoke, Array.append_empty, Array.empty_append, he]
  refine Calls.mono h fun e w' ⟨v, he, hv⟩ => ?_
  subst he
  exact hv
def callArgs (o : Oper) : Array Operand := match o.op with | .call c => c.args | _ => #[]
def callTypes (o : Oper) : Array TypeId := match o.op with | .call c => c.argTypes | _ => #[]
/-- The same, all read off the region. -/
theorem wpAny_call' {i : Nat} (o : Oper) (f : FuncId) (args : Array Value) {fuel : Nat} {l : Array Bool} {a : Act} {w : World} (hr : Region.ready md ops l = [i]) (ho : ops[i]? = some o) (hg : o.guard.isNone = true)
    (hc : o.op = .call { callee := .value (.func f), args := callArgs o, argTypes := callTypes o }) (hargs : (callArgs o).map a.eval = args) (he : ∀ args w, (callFunc f args).run P w = .ok (.enter f args) w)
    (h : Calls P f args w fun e w' => ∃ v, e = .returned v ∧ wpAny P md ops Q fuel (l.setIfInBounds i true) (a.put o.dst v) w') : wpAny P md ops Q (fuel + 1) l a w :=
  wpAny_call hr ho (by simpa using hg) hc hargs he h
/-- An operation that alone may come up, whose run is known. -/
theorem wpAny_run {i : Nat} (o : Oper) (v : Value) {fuel : Nat} {l : Array Bool} {a : Act} {w w' : World} (hr : Region.ready md ops l = [i]) (ho : ops[i]? = some o) (hg : o.guard.isNone = true)
    (hrun : (execOp a.eval o).run P w = .ok (.value v) w') (h : wpAny P md ops Q fuel (l.setIfInBounds i true) (a.put o.dst v) w') : wpAny P md ops Q (fuel + 1) l a w := by
  refine wpAny_all hr (by simp) fun j hj => ?_
  obtain rfl : j = i := by simpa using hj
  unfold wpOp
  have hg' : o.guard = none := by simpa using hg
  simp only [ho, Region.wanted, hg', if_true]
  refine .inl ?_
  unfold Oper.wp
  rw [hrun]
  exact h
theorem wpAny_pure' (hs : Region.noSelect ops = true) (hQ : ∀ c (a a' : Act) w, a'.defers = a.defers → Q (.panic c) a' w → Q (.panic c) a w)
    (is : List Nat) (l l' : Array Bool) (a a' : Act) (w : World) (fuel n : Nat) (hn : fuel + is.length = n) (h : pureRun P md ops is l a = some (l', a')) (hw : wpAny P md ops Q fuel l' a' w) : wpAny P md ops Q n l a w := by
  subst hn; exact wpAny_pure hs hQ is l l' a a' w fuel h hw
theorem region_named {id : Nat} {R : Array Oper} {b : Bool} {a : Act} {w : World} (h : ops = R) (hw : (Code.region id R b).wp P Q a w) : (Code.region id ops b).wp P Q a w := h ▸ hw
theorem wp_region_fuel {id : Nat} {a : Act} {w : World} (n : Nat) (l : Array Bool) (hm : P.follows .mixedOrders = true) (hn : ops.size = n) (hl : Array.replicate n false = l) (h : wpAny P .any ops Q n l a w.drew) : (Code.region id ops true).wp P Q a w := by
  subst hn; subst hl; exact wp_region_any hm h
/-! The same moves where a condition S holds of every world of the region. -/
section
variable {S : World → Prop}
/-- Taken first: an operation whose run is known in every world that meets S. -/
theorem wpAnyH_val {i : Nat} (o : Oper) (v : Value) {fuel : Nat} {l : Array Bool} {a : Act} {w : World} (hs : Region.noSelect ops = true) (hQ : ∀ c (a a' : Act) w, a'.defers = a.defers → Q (.panic c) a' w → Q (.panic c) a w)
    (ho : ops[i]? = some o) (hg : Region.wanted o (yielded ops a.tmps) = true) (hf : Region.free md ops l i = true) (hr : (Region.ready md ops l).contains i = true) (hrun : ∀ W, S W → (execOp a.eval o).run P W = .ok (.value v) W) (hS : S w)
    (h : wpAnyH P md ops Q S fuel (l.setIfInBounds i true) (a.put o.dst v) w) : wpAnyH P md ops Q S (fuel + 1) l a w := by
  exact wpAnyH_take ho hs hf hr (fun c a w hp => hQ c a _ w (put_defers _ _ _) hp) (.inl ⟨hg, hrun⟩) hS h
/-- Taken first: an operation that its guard leaves out. -/
theorem wpAnyH_skip {i : Nat} (o : Oper) {fuel : Nat} {l : Array Bool} {a : Act} {w : World} (hs : Region.noSelect ops = true) (hQ : ∀ c (a a' : Act) w, a'.defers = a.defers → Q (.panic c) a' w → Q (.panic c) a w)
    (ho : ops[i]? = some o) (hg : Region.wanted o (yielded ops a.tmps) = false) (hf : Region.free md ops l i = true) (hr : (Region.ready md ops l).contains i = true) (hS : S w)
    (h : wpAnyH P md ops Q S fuel (l.setIfInBounds i true) (a.put o.dst undef) w) : wpAnyH P md ops Q S (fuel + 1) l a w :=
  wpAnyH_take ho hs hf hr (fun c a w hp => hQ c a _ w (put_defers _ _ _) hp) (.inr ⟨hg, rfl⟩) hS h
/-- A call that alone may come up. -/
theorem wpAnyH_call {i : Nat} (o : Oper) (f : FuncId) (args : Array Value) {fuel : Nat} {l : Array Bool} {a : Act} {w : World} (hr : Region.ready md ops l = [i]) (ho : ops[i]? = some o) (hg : Region.wanted o (yielded ops a.tmps) = true)
    (hc : o.op = .call { callee := .value (.func f), args := callArgs o, argTypes := callTypes o }) (hargs : (callArgs o).map a.eval = args) (he : ∀ args w, (callFunc f args).run P w = .ok (.enter f args) w)
    (h : Calls P f args w fun e w' => ∃ v, e = .returned v ∧ S w' ∧ wpAnyH P md ops Q S fuel (l.setIfInBounds i true) (a.put o.dst v) w') : wpAnyH P md ops Q S (fuel + 1) l a w := by
  refine wpAnyH_all hr (by simp) fun j hj => ?_
  obtain rfl : j = i := by simpa using hj
  unfold wpOp
  simp only [ho, hg, if_true]
  refine .inl ?_
  unfold Oper.wp execOp
  simp only [hc, resolve, hargs, Act.eval, Sem.run_bind, Deferred.ofValue, Sem.run_pure, Result.andThen_ok, invoke, Array.append_empty, Array.empty_append, he]
  refine Calls.mono h fun e w' ⟨v, he, hv⟩ => ?_
  subst he
  exact hv
/-- A call of a function value that alone may come up. -/
theorem wpAnyH_callV {i : Nat} (o : Oper) (x : Operand) (f : FuncId) (caps args : Array Value) {fuel : Nat} {l : Array Bool} {a : Act} {w : World} (hr : Region.ready md ops l = [i]) (ho : ops[i]? = some o) (hg : Region.wanted o (yielded ops a.tmps) = true)
    (hc : o.op = .call { callee := .value x, args := callArgs o, argTypes := callTypes o }) (hx : a.eval x = .func (.func f) #[] caps) (hargs : (callArgs o).map a.eval ++ caps = args) (he : ∀ args w, (callFunc f args).run P w = .ok (.enter f args) w)
    (h : Calls P f args w fun e w' => ∃ v, e = .returned v ∧ S w' ∧ wpAnyH P md ops Q S fuel (l.setIfInBounds i true) (a.put o.dst v) w') : wpAnyH P md ops Q S (fuel + 1) l a w := by
  refine wpAnyH_all hr (by simp) fun j hj => ?_
  obtain rfl : j = i := by simpa using hj
  unfold wpOp
  simp only [ho, hg, if_true]
  refine .inl ?_
  unfold Oper.wp execOp
  simp only [hc, resolve, hx, Sem.run_bind, Deferred.ofValue, Sem.run_pure, Result.andThen_ok, invoke, Array.empty_append, hargs, he]
  refine Calls.mono h fun e w' ⟨v, he, hv⟩ => ?_
  subst he
  exact hv
/-- An operation that alone may come up, whose run is known. -/
theorem wpAnyH_run {i : Nat} (o : Oper) (v : Value) {fuel : Nat} {l : Array Bool} {a : Act} {w w' : World} (hr : Region.ready md ops l = [i]) (ho : ops[i]? = some o) (hg : Region.wanted o (yielded ops a.tmps) = true)
    (hrun : (execOp a.eval o).run P w = .ok (.value v) w' ∨ ((execOp a.eval o).run P w = .ok .skip w' ∧ v = undef)) (hS : S w') (h : wpAnyH P md ops Q S fuel (l.setIfInBounds i true) (a.put o.dst v) w') : wpAnyH P md ops Q S (fuel + 1) l a w := by
  refine wpAnyH_all hr (by simp) fun j hj => ?_
  obtain rfl : j = i := by simpa using hj
  unfold wpOp
  simp only [ho, hg, if_true]
  refine .inl ?_
  unfold Oper.wp
  rcases hrun with hrun | ⟨hrun, rfl⟩ <;> rw [hrun] <;> exact ⟨hS, h⟩
theorem wp_regionH_fuel {id : Nat} {a : Act} {w : World} (S : World → Prop) (n : Nat) (l : Array Bool) (hm : P.follows .mixedOrders = true) (hn : ops.size = n) (hl : Array.replicate n false = l) (h : wpAnyH P .any ops Q S n l a w.drew) : (Code.region id ops true).wp P Q a w := by
  subst hn; subst hl; exact wp_region_held hm h
end
/-- A whole struct is loaded. -/
theorem exec_load_row {o : Oper} {ρ : Operand → Value} {w : World} (ty : TypeId) (x : Operand) (ho : o.op = .load ty x) (g : Nat) (hx : ρ x = .pointer (some ⟨g, 0, none⟩)) (t : TypeId) (cs : Array Value) (fr : Nat × Nat) (d : TypeDesc) (hg : w.heap[g]? = some (.cells cs t fr))
    (hu : P.underlying ty = some d) (hd : (match d with | .struct _ | .array _ _ => true | _ => false) = true) (hi : (P.info? ty).map (·.size) = some cs.size) :
    (execOp ρ o).run P w = .ok (.value (.agg cs)) w := by
  unfold execOp
  simp only [ho, hx, Instr.loadAt, Instr.sureAddr, Sem.run_bind, Sem.run_pure, Result.andThen_ok, run_loadVar_row w g t ty cs fr d hg hu hd hi]
/-- A whole struct is stored. -/
theorem exec_store_row {o : Oper} {ρ : Operand → Value} {w : World} (ty : TypeId) (x y : Operand) (ho : o.op = .store ty x y) (g : Nat) (cells : Array Value) (hx : ρ x = .pointer (some ⟨g, 0, none⟩)) (hy : ρ y = .agg cells)
    (t : TypeId) (old : Array Value) (hg : w.heap[g]? = some (.cells old t (0, 0))) (hi : (P.info? ty).map (·.size) = some cells.size) (hold : old.size = cells.size) (h1 : cells.all (·.oneCell') = true) :
    (execOp ρ o).run P w = .ok .skip (w.setRow g cells) := by
  unfold execOp
  simp only [ho, hx, hy, Instr.storeAt, Instr.sureAddr, Sem.run_bind, Sem.run_pure, Result.andThen_ok, run_storeVar_row w g t ty old cells hg hi hold h1]
/-- One cell is loaded. -/
theorem exec_load_cell {o : Oper} {ρ : Operand → Value} {w : World} (ty : TypeId) (x : Operand) (ho : o.op = .load ty x) (a : Addr) (hx : ρ x = .pointer (some a)) (d : TypeDesc) (v : Value) (hu : P.underlying ty = some d)
    (hd : (match d with | .struct _ | .array _ _ => false | _ => true) = true) (hc : w.cell? a = some v) : (execOp ρ o).run P w = .ok (.value v) w := by
  unfold execOp
  cases d <;> simp at hd <;> (simp [ho, hx, Instr.loadAt, Instr.sureAddr, loadVar, isAgg, run_underlying hu, go_sem]; simp [hc, Result.andThen])
end
end Go.Own
namespace Go.Own
open Go Go.RowKit
/-- A slice value v of type e's elements (size cells each) that holds the cells xs, n elements. -/
abbrev Row (w : World) (e : TypeId) (size : Nat) (v : Value) (n : Nat) (xs : List Value) : Prop := w.ownsRow 0 e size v n xs
theorem Row.lt {w : World} {e : TypeId} {size n : Nat} {v : Value} {xs : List Value} (h : Row w e size v n xs) {k : Nat} (hk : v.ownBlock = some k) : k < w.heap.size := (World.ownsRow.lt h k hk).2
theorem Row.heap {w w' : World} {size n : Nat} {e : TypeId} {v : Value} {xs : List Value} (h : Row w e size v n xs) (hk : ∀ k, v.ownBlock = some k → w'.heap[k]? = w.heap[k]?) : Row w' e size v n xs := by
  obtain ⟨h1, h2⟩ := h
  refine ⟨h1, ?_⟩
  rcases h2 with h2 | ⟨g, cap, cur, rfl, hb, hg, r⟩
  · exact .inl h2
  · exact .inr ⟨g, cap, cur, rfl, hb, (hk g rfl).trans hg, r⟩
theorem Row.keeps {w w' : World} {M : Nat → Prop} {size n : Nat} {e : TypeId} {v : Value} {xs : List Value} (h : Row w e size v n xs) (k : Keeps M w w') (hm : ∀ j, v.ownBlock = some j → ¬ M j) : Row w' e size v n xs :=
  h.heap fun j hj => k.block j (h.lt hj) (hm j hj)
/-- Which elements' type lies in the row's block. -/
theorem Row.elem {w : World} {e : TypeId} {size n : Nat} {v : Value} {xs : List Value} (h : Row w e size v n xs) {k : Nat} (hk : v.ownBlock = some k) : ∃ cs, w.heap[k]? = some (.cells cs e (0, 0)) := by
  rcases h.2 with ⟨rfl, _⟩ | ⟨g, cap, cur, rfl, _, hg, _⟩
  · cases hk
  · cases hk; exact ⟨_, hg⟩
theorem Row.slice {w : World} {e : TypeId} {size n : Nat} {v : Value} {xs : List Value} (h : Row w e size v n xs) (hn : v ≠ .slice none 0 0) : ∃ g cap, v = .slice (some ⟨g, 0, none⟩) n cap := by
  rcases h.2 with ⟨e, _⟩ | ⟨g, cap, cur, e, _⟩
  · exact absurd e hn
  · exact ⟨g, cap, e⟩
section
variable {P : Program} {w : World}
/-- 'append' to an own row: the new row lies in the old block or in a new one. -/
theorem run_append_row (t ty e : TypeId) (i : TypeInfo) (z : Value) (size bytes : Nat) (ht : P.underlying t = some (.slice e)) (hi : P.info? e = some i) (hz : i.zero = some z)
    (hsize : i.size = size) (hby : i.bytes = bytes) (hzs : z.cells.size = size) (hsz : 0 < size)
    (v : Value) (n : Nat) (xs : List Value) (hown : Row w e size v n xs)
    (a : Addr) (m c : Nat) (news : List Value) (hl : news.length = m * size) (hnews : ∀ j u, news[j]? = some u → w.cell? (a.add j) = some u) (h1 : ∀ u ∈ news, u.oneCell' = true)
    (h63 : n + m ≤ maxLen) (hbytes : (n + m) * bytes ≤ 140737488355328) :
    ∃ v' w', (Builtin.append_ #[t, t] ty #[v, .slice (some a) m c]).run P w = .ok v' w' ∧ Row w' e size v' (n + m) (xs ++ news) ∧ w.grownBy w' v.ownBlock ∧
      (v' = .slice none 0 0 ↔ v = .slice none 0 0 ∧ m = 0) ∧ ∀ k, v'.ownBlock = some k → v.ownBlock = some k ∨ k = w.heap.size ∧ w.heap.size < w'.heap.size := by
  have hown2 := hown
  obtain ⟨v', w', hr, ho, hg, hn⟩ := run_append_own (P := P) w 0 t ty e i z size bytes ht hi hz hsize hby hzs hsz v n xs hown a m c news hl hnews h1 h63 hbytes (Nat.zero_le _)
  refine ⟨v', w', hr, ho, hg, hn, ?_⟩
  subst hsize; subst hby
  rcases hown2.2 with ⟨rfl, rfl⟩ | ⟨g, cap, cur, rfl, hbg, hgc, hnc, hcm, hcs, htake⟩
  · have hx : xs = [] := List.eq_nil_of_length_eq_zero (by simpa using hown.1)
    subst hx
    by_cases hm : m = 0
    · intro k hk
      rw [hn.2 ⟨rfl, hm⟩] at hk
      cases hk
    · have hr2 := run_append_nil (P := P) w t ty e i z ht hi hz a m c news hl hnews (by omega) (by simp only [maxLen] at h63; omega) (by have hb := hbytes; simp only [Nat.zero_add] at hb; omega)
      have e1 := hr.symm.trans hr2
      simp only [Result.ok.injEq] at e1
      intro k hk
      rw [e1.1] at hk
      cases hk
      exact .inr ⟨rfl, by rw [e1.2]; simp⟩
  · by_cases hroom : n + m ≤ cap
    · have hfit : n * i.size + news.length ≤ cur.size := by rw [hl, hcs, ← Nat.add_mul]; exact Nat.mul_le_mul_right _ hroom
      have hr2 := run_append_room (P := P) w t ty e i ht hi g n cap cur hgc a m c news hl hnews h1 hroom hfit
      have e1 := hr.symm.trans hr2
      simp only [Result.ok.injEq] at e1
      intro k hk
      rw [e1.1] at hk
      exact .inl hk
    · have holds : ∀ j u, xs[j]? = some u → w.cell? ((⟨g, 0, none⟩ : Addr).add j) = some u := World.ownsRow.cells hown (g := g) rfl
      have hr2 := run_append_grow (P := P) w t ty e i z ht hi hz ⟨g, 0, none⟩ n cap xs hown.1 holds a m c news hl hnews (by omega) (by simp only [maxLen] at h63; omega) (growslice_fits (by omega) hbytes)
      have e1 := hr.symm.trans hr2
      simp only [Result.ok.injEq] at e1
      intro k hk
      rw [e1.1] at hk
      cases hk
      exact .inr ⟨rfl, by rw [e1.2]; simp⟩
/-- What is appended: none, or cells that lie somewhere. -/
def Src (w : World) (size : Nat) (x : Value) (m : Nat) (news : List Value) : Prop :=
  news.length = m * size ∧ (∀ u ∈ news, u.oneCell' = true) ∧ ((x = .slice none 0 0 ∧ m = 0) ∨ ∃ ad c, x = .slice (some ad) m c ∧ ∀ j u, news[j]? = some u → w.cell? (ad.add j) = some u)
theorem Row.src {e : TypeId} {size n : Nat} {v : Value} {xs : List Value} (h : Row w e size v n xs) (h1 : ∀ u ∈ xs, u.oneCell' = true) : Src w size v n xs := by
  refine ⟨h.1, h1, ?_⟩
  rcases h.2 with ⟨rfl, h0⟩ | ⟨g, cap, cur, rfl, hb, hg, r⟩
  · exact .inl ⟨rfl, h0⟩
  · exact .inr ⟨_, _, rfl, fun j u hj => World.ownsRow.cells h (g := g) rfl j u hj⟩
theorem Src.new (w : World) (size m : Nat) (cs : List Value) (t : TypeId) (hl : cs.length = m * size) (h1 : ∀ u ∈ cs, u.oneCell' = true) (c : Nat) : Src (w.alloc (.cells cs.toArray t)) size (.slice (some ⟨w.heap.size, 0, none⟩) m c) m cs :=
  ⟨hl, h1, .inr ⟨_, _, rfl, fun j u hj => by
    simp only [Addr.add_lit, Nat.zero_add]
    rw [World.cell?_alloc_at _ _ _ _ rfl]
    simpa using hj⟩⟩
theorem Src.heap {w' : World} {size m : Nat} {x : Value} {news : List Value} (h : Src w size x m news) (hc : ∀ a u, w.cell? a = some u → w'.cell? a = some u) : Src w' size x m news :=
  ⟨h.1, h.2.1, h.2.2.elim .inl fun ⟨ad, c, e, hx⟩ => .inr ⟨ad, c, e, fun j u hj => hc _ _ (hx j u hj)⟩⟩
/-- A row that is not empty is spelled out. -/
theorem Row.spell {e : TypeId} {size n : Nat} {v : Value} {xs : List Value} (h : Row w e size v n xs) (hn : 0 < n) : ∃ g cap, v = .slice (some ⟨g, 0, none⟩) n cap ∧ g < w.heap.size := by
  rcases h.2 with ⟨_, h0⟩ | ⟨g, cap, cur, rfl, _, hg, _⟩
  · omega
  · exact ⟨g, cap, rfl, (Array.getElem?_eq_some_iff.1 hg).1⟩
theorem Row.cap {e : TypeId} {size n n' g cap : Nat} {xs : List Value} (h : Row w e size (.slice (some ⟨g, 0, none⟩) n cap) n' xs) : n ≤ cap ∧ cap ≤ 9223372036854775807 := by
  rcases h.2 with ⟨h0, _⟩ | ⟨g, cap, cur, h0, _, _, h1, h2, _⟩
  · cases h0
  · simp only [Value.slice.injEq] at h0
    obtain ⟨_, rfl, rfl⟩ := h0
    exact ⟨h1, by unfold maxLen at h2; omega⟩
theorem Row.one {e : TypeId} {size n : Nat} {v : Value} {xs : List Value} (h : Row w e size v n xs) : v.oneCell' = true := by
  rcases h.2 with ⟨rfl, _⟩ | ⟨g, cap, cur, rfl, _⟩ <;> rfl
/-- Its block is no block of another kind of elements. -/
theorem Row.ne {e t : TypeId} {size n b : Nat} {v : Value} {xs : List Value} {cs : Array Value} {fr : Nat × Nat} (h : Row w e size v n xs) (hb : w.heap[b]? = some (.cells cs t fr)) (hne : e ≠ t) : v.ownBlock ≠ some b := by
  intro he
  obtain ⟨cs', hc⟩ := h.elem he
  rw [hb] at hc
  simp only [Option.some.injEq, Obj.cells.injEq] at hc
  exact hne hc.2.1.symm
theorem run_append_any (t ty e : TypeId) (i : TypeInfo) (z : Value) (size bytes : Nat) (ht : P.underlying t = some (.slice e)) (hi : P.info? e = some i) (hz : i.zero = some z)
    (hsize : i.size = size) (hby : i.bytes = bytes) (hzs : z.cells.size = size) (hsz : 0 < size)
    (v : Value) (n : Nat) (xs : List Value) (hown : Row w e size v n xs) (x : Value) (m : Nat) (news : List Value) (hsrc : Src w size x m news)
    (h63 : n + m ≤ maxLen) (hbytes : (n + m) * bytes ≤ 140737488355328) :
    ∃ v' w', (Builtin.append_ #[t, t] ty #[v, x]).run P w = .ok v' w' ∧ Row w' e size v' (n + m) (xs ++ news) ∧ w.grownBy w' v.ownBlock ∧
      (v' = .slice none 0 0 ↔ v = .slice none 0 0 ∧ m = 0) ∧ ∀ k, v'.ownBlock = some k → v.ownBlock = some k ∨ k = w.heap.size ∧ w.heap.size < w'.heap.size := by
  obtain ⟨hl, h1, ⟨rfl, rfl⟩ | ⟨ad, c, rfl, hc⟩⟩ := hsrc
  · have hn : news = [] := List.eq_nil_of_length_eq_zero (by simpa using hl)
    subst hn
    have hrun := run_append_owned_none (P := P) (w := w) 0 t ty e i size ht hi v n xs hown
    exact ⟨v, w, hrun, by simpa using hown, World.grownBy.refl w _, by simp, fun k hk => .inl hk⟩
  · exact run_append_row t ty e i z size bytes ht hi hz hsize hby hzs hsz v n xs hown ad m c news hl hc h1 h63 hbytes
/-- 'append(v, x...)' to an own row, in a walk. -/
theorem own_append2 {ops : Array Oper} {rest : List Oper} {o : Oper} {a : Act} {Q : Exit → Act → World → Prop} (hgd : o.guard = none) (s x : Operand) (t : TypeId)
    (ho : o.op = .call { callee := .builtin .append, args := #[s, x], argTypes := #[t, t] })
    (e : TypeId) (i : TypeInfo) (z : Value) (size bytes : Nat) (ht : P.underlying t = some (.slice e)) (hi : P.info? e = some i) (hz : i.zero = some z)
    (hsize : i.size = size) (hby : i.bytes = bytes) (hzs : z.cells.size = size) (hsz : 0 < size)
    (v : Value) (n : Nat) (xs : List Value) (hs : a.eval s = v) (hown : Row w e size v n xs)
    (y : Value) (m : Nat) (news : List Value) (hx : a.eval x = y) (hsrc : Src w size y m news)
    (h63 : n + m ≤ maxLen) (hbytes : (n + m) * bytes ≤ 140737488355328)
    (h : ∀ v' w', Row w' e size v' (n + m) (xs ++ news) → w.grownBy w' v.ownBlock → (v' = .slice none 0 0 ↔ v = .slice none 0 0 ∧ m = 0) → (∀ k, v'.ownBlock = some k → v.ownBlock = some k ∨ k = w.heap.size ∧ w.heap.size < w'.heap.size) → wpList P ops Q rest (a.put o.dst v') w') : wpList P ops Q (o :: rest) a w := by
  obtain ⟨v', w', hr, h2, h3, h4, h5⟩ := run_append_any (P := P) t o.type e i z size bytes ht hi hz hsize hby hzs hsz v n xs hown y m news hsrc h63 hbytes
  refine wpList_plain hgd fun K hK => ?_
  unfold Oper.wp execOp
  simp only [ho, resolve, invoke, builtin, Sem.run_bind, Sem.run_pure, Result.andThen_ok, List.map_toArray, List.map_cons, List.map_nil, hs, hx, hr]
  exact hK _ _ (h v' w' h2 h3 h4 h5)
/-- The same, inside a fence. -/
theorem own_append2_in {F : Fence} {N : Nat} {ops : Array Oper} {rest : List Oper} {o : Oper} {a : Act} {Q : Exit → Act → World → Prop} (hgd : o.guard = none) (s x : Operand) (t : TypeId)
    (ho : o.op = .call { callee := .builtin .append, args := #[s, x], argTypes := #[t, t] })
    (e : TypeId) (i : TypeInfo) (z : Value) (size bytes : Nat) (ht : P.underlying t = some (.slice e)) (hi : P.info? e = some i) (hz : i.zero = some z)
    (hsize : i.size = size) (hby : i.bytes = bytes) (hzs : z.cells.size = size) (hsz : 0 < size)
    (v : Value) (n : Nat) (xs : List Value) (hs : a.eval s = v) (hown : Row w e size v n xs)
    (y : Value) (m : Nat) (news : List Value) (hx : a.eval x = y) (hsrc : Src w size y m news)
    (h63 : n + m ≤ maxLen) (hbytes : (n + m) * bytes ≤ 140737488355328)
    (h : ∀ v' w', Row w' e size v' (n + m) (xs ++ news) → w.grownBy w' v.ownBlock → (v' = .slice none 0 0 ↔ v = .slice none 0 0 ∧ m = 0) → (∀ k, v'.ownBlock = some k → v.ownBlock = some k ∨ k = w.heap.size ∧ w.heap.size < w'.heap.size) → wpListIn F N P ops Q rest (a.put o.dst v') w') : wpListIn F N P ops Q (o :: rest) a w := by
  obtain ⟨v', w', hr, h2, h3, h4, h5⟩ := run_append_any (P := P) t o.type e i z size bytes ht hi hz hsize hby hzs hsz v n xs hown y m news hsrc h63 hbytes
  refine wpListIn_plain hgd fun K hK => ?_
  unfold Oper.wpIn
  refine ⟨?_, ?_⟩
  · simp [Oper.about, ho, resolve, Target.leads, Sem.run_pure]
  · rw [Oper.semAt_plain F _ _ (by rw [ho]; intro c hc'; cases hc')]
    simp [execOp, ho, resolve, invoke, builtin, hs, hx, hr, Result.andThen]
    exact hK _ _ (h v' w' h2 h3 h4 h5)
end
end Go.Own
namespace Go.Own
open Go Go.RowKit
/-- The cells of bytes. -/
def B (l : List UInt8) : List Value := l.map fun x => .int .u8 (x.toNat : Int)
theorem B_length (l : List UInt8) : (B l).length = l.length := by simp [B]
theorem B_get (l : List UInt8) (k : Nat) (x : UInt8) (h : l[k]? = some x) : (B l)[k]? = some (.int .u8 (x.toNat : Int)) := by simp [B, h]
theorem B_append (l m : List UInt8) : B (l ++ m) = B l ++ B m := by simp [B]
theorem B_one (l : List UInt8) : ∀ u ∈ B l, u.oneCell' = true := by
  intro u hu
  simp only [B, List.mem_map] at hu
  obtain ⟨x, _, rfl⟩ := hu
  rfl
theorem B_get_inv (l : List UInt8) (k : Nat) (u : Value) (h : (B l)[k]? = some u) : ∃ x, l[k]? = some x ∧ u = .int .u8 (x.toNat : Int) := by
  simp only [B, List.getElem?_map, Option.map_eq_some_iff] at h
  obtain ⟨x, h1, h2⟩ := h
  exact ⟨x, h1, h2.symm⟩
/-- A slice of bytes that reads as a list; nil too. -/
structure BytesAt (w : World) (v : Value) (l : List UInt8) : Prop where
  form : ∃ A cap, v = .slice A l.length cap ∧ l.length ≤ cap ∧ cap ≤ maxLen ∧ (A = none → cap = 0)
  at_ : ∀ k x, l[k]? = some x → ∃ b o cap, v = .slice (some ⟨b, o, none⟩) l.length cap ∧ b < w.heap.size ∧ w.cell? ⟨b, o + k, none⟩ = some (.int .u8 (x.toNat : Int))
/-- What 's[k:]' is. -/
def cutV (A : Option Addr) (n cap k : Nat) : Value := .slice (if cap = k then A else A.map (·.add k)) (n - k) (cap - k)
theorem run_cut {P : Program} {t : TypeId} (ht : P.underlying t = some (.slice (P.elem t))) (hz : ∀ w, (Go.sizeOf (P.elem t)).run P w = .ok 1 w) (A : Option Addr) (n cap k : Nat) (hk : k ≤ n) (W : World) :
    (Instr.sliceAt t (.slice A n cap) (some (.int .i64 (k : Int))) none none).run P W = .ok (cutV A n cap k) W := by
  rw [run_sliceAt_slice W t _ _ _ _ ht, run_slice_l W t _ _ _ ht _ _ (by omega) (by omega), hz]
  simp [Result.andThen, sliced, cutV]
section
variable {w w' : World} {v : Value} {l : List UInt8}
theorem BytesAt.len (h : BytesAt w v l) : ∃ A cap, v = .slice A l.length cap := let ⟨A, c, e, _⟩ := h.form; ⟨A, c, e⟩
theorem BytesAt.length_le (h : BytesAt w v l) : l.length ≤ 9223372036854775807 := by
  obtain ⟨A, c, e, h1, h2, _⟩ := h.form
  unfold maxLen at h2; omega
theorem BytesAt.keeps {M : Nat → Prop} (h : BytesAt w v l) (k : Keeps M w w') (hm : ∀ j, v.ownBlock = some j → ¬ M j) : BytesAt w' v l :=
  ⟨h.form, fun i x hi => by
    obtain ⟨b, o, cap, e, hb, hc⟩ := h.at_ i x hi
    exact ⟨b, o, cap, e, Nat.lt_of_lt_of_le hb k.size, (k.cell hb (hm b (by rw [e]; rfl))).trans hc⟩⟩
theorem BytesAt.keepsN (h : BytesAt w v l) (k : Keeps Nob w w') : BytesAt w' v l := h.keeps k (fun _ _ x => x)
theorem BytesAt.nil (w : World) : BytesAt w (.slice none 0 0) [] := ⟨⟨none, 0, rfl, Nat.le_refl _, by unfold maxLen; omega, fun _ => rfl⟩, fun k x h => by simp at h⟩
theorem Row.bytes {e : TypeId} (h : Row w e 1 v l.length (B l)) : BytesAt w v l := by
  refine ⟨?_, fun k x hk => ?_⟩
  · rcases h.2 with ⟨rfl, h0⟩ | ⟨g, cap, cur, rfl, _, _, hn, hc, _⟩
    · exact ⟨none, 0, by rw [h0], by omega, by unfold maxLen; omega, fun _ => rfl⟩
    · exact ⟨_, _, rfl, hn, hc, fun h => by cases h⟩
  · rcases h.2 with ⟨rfl, h0⟩ | ⟨g, cap, cur, rfl, _, hg, hn, hc, _⟩
    · have : l = [] := List.eq_nil_of_length_eq_zero h0
      subst this; simp at hk
    · refine ⟨g, 0, cap, rfl, (Array.getElem?_eq_some_iff.1 hg).1, ?_⟩
      have := World.ownsRow.cells h (g := g) rfl k _ (B_get l k x hk)
      simpa [Addr.add_lit] using this
theorem Row.newB (w : World) (l : List UInt8) (t : TypeId) (hl : l.length ≤ maxLen) : Row (w.alloc (.cells (B l).toArray t)) t 1 (.slice (some ⟨w.heap.size, 0, none⟩) l.length l.length) l.length (B l) :=
  ⟨by simp [B_length], .inr ⟨_, _, _, rfl, Nat.zero_le _, heap_alloc_new _ _, Nat.le_refl _, hl, by simp [B_length], by rw [Nat.mul_one]; exact List.take_of_length_le (by simp [B_length])⟩⟩
/-- What lies behind a place. -/
theorem BytesAt.drop (h : BytesAt w v l) (k : Nat) (hk : k ≤ l.length) : ∀ A n cap, v = .slice A n cap → BytesAt w (cutV A n cap k) (l.drop k) := by
  intro A n cap hv
  unfold cutV
  obtain ⟨A', cap', e, h1, h2, h3⟩ := h.form
  rw [e] at hv
  simp only [Value.slice.injEq] at hv
  obtain ⟨rfl, rfl, rfl⟩ := hv
  refine ⟨⟨_, _, by rw [List.length_drop], by rw [List.length_drop]; omega, by omega, fun hn => ?_⟩, fun i x hi => ?_⟩
  · split at hn
    · omega
    · cases A' with
      | none => have := h3 rfl; omega
      | some a => cases hn
  rw [List.getElem?_drop] at hi
  obtain ⟨b, o, c, e2, hb, hc⟩ := h.at_ _ x hi
  rw [e] at e2
  simp only [Value.slice.injEq, true_and] at e2
  obtain ⟨rfl, rfl⟩ := e2
  have hlt : k + i < l.length := (List.getElem?_eq_some_iff.1 hi).1
  rw [if_neg (by omega)]
  exact ⟨b, o + k, cap' - k, by simp [Addr.add_lit, List.length_drop], hb, by rw [Nat.add_assoc]; exact hc⟩
theorem BytesAt.take (h : BytesAt w v l) (k : Nat) (hk : k ≤ l.length) : ∀ A n cap, v = .slice A n cap → BytesAt w (.slice A k cap) (l.take k) := by
  intro A n cap hv
  obtain ⟨A', cap', e, h1, h2, h3⟩ := h.form
  rw [e] at hv
  simp only [Value.slice.injEq] at hv
  obtain ⟨rfl, rfl, rfl⟩ := hv
  have hl : (l.take k).length = k := by rw [List.length_take]; omega
  refine ⟨⟨_, _, by rw [hl], by rw [hl]; omega, by omega, h3⟩, fun i x hi => ?_⟩
  have hlt : i < k := by have := (List.getElem?_eq_some_iff.1 hi).1; omega
  rw [List.getElem?_take_of_lt hlt] at hi
  obtain ⟨b, o, c, e2, hb, hc⟩ := h.at_ _ x hi
  rw [e] at e2
  simp only [Value.slice.injEq, true_and] at e2
  obtain ⟨rfl, rfl⟩ := e2
  exact ⟨b, o, _, by rw [hl], hb, hc⟩
/-- It may be appended. -/
theorem BytesAt.src (h : BytesAt w v l) : Src w 1 v l.length (B l) := by
  refine ⟨by simp [B_length], B_one l, ?_⟩
  obtain ⟨A, cap, rfl, h1, h2, h3⟩ := h.form
  cases A with
  | none =>
    have h0 : l = [] := by
      cases l with
      | nil => rfl
      | cons x r => obtain ⟨b, o, c, e, _⟩ := h.at_ 0 x rfl; simp at e
    subst h0
    have := h3 rfl
    subst this
    exact .inl ⟨rfl, rfl⟩
  | some ad =>
    refine .inr ⟨ad, cap, rfl, fun j u hj => ?_⟩
    obtain ⟨x, hx, rfl⟩ := B_get_inv l j u hj
    obtain ⟨b, o, c, e, hb, hc⟩ := h.at_ j x hx
    simp only [Value.slice.injEq, Option.some.injEq] at e
    obtain ⟨rfl, _⟩ := e
    simpa [Addr.add_lit] using hc
/-- As a string. -/
theorem BytesAt.str {P : Program} {src dst e : TypeId} (h : BytesAt w v l) (hs : P.underlying src = some (.slice e)) (he : P.underlying e = some (.int .u8)) (hd : P.underlying dst = some .string) :
    (convert src dst v).run P w = .ok (.string ⟨l.toArray⟩) w := by
  obtain ⟨A, cap, rfl, h1, h2, h3⟩ := h.form
  cases l with
  | nil =>
    rw [run_convert_bytes_string w src dst e _ _ cap hs he hd]
    cases A <;> simp [Conv.bytesToString, loadCells]
    all_goals rfl
  | cons x r =>
    obtain ⟨b, o, c, e2, hb, hc⟩ := h.at_ 0 x rfl
    simp only [Value.slice.injEq, true_and] at e2
    obtain ⟨rfl, rfl⟩ := e2
    rw [run_convert_bytes_arg (P := P) w src e hs he b o _ cap ((x :: r).map fun y => (y.toNat : Int)) (by simp) (fun i hi => by
      obtain ⟨y, hy⟩ : ∃ y, (x :: r)[i]? = some y := ⟨_, List.getElem?_eq_getElem hi⟩
      obtain ⟨b', o', c', e3, hb', hc'⟩ := h.at_ i y hy
      simp only [Value.slice.injEq, Option.some.injEq, Addr.mk.injEq, true_and, and_true] at e3
      obtain ⟨⟨rfl, rfl⟩, rfl⟩ := e3
      rw [hc']
      rw [List.getD, List.getElem?_map, hy]; rfl) dst hd]
    congr 2
    apply ByteArray.ext
    apply Array.toList_inj.1
    rw [strOfNums_data, List.map_map]
    conv => rhs; rw [show (⟨(x :: r).toArray⟩ : ByteArray).data.toList = (x :: r) from rfl, ← List.map_id (x :: r)]
    apply List.map_congr_left
    intro y _
    simp
end
end Go.Own
namespace Go.Own
open Go Go.RowKit
section
variable {P : Program} {ops : Array Oper} {Q : Exit → Act → World → Prop} {md : Region.Mode} {S : World → Prop}
theorem anyH_two {fuel : Nat} {l : Array Bool} {a : Act} {w : World} (i j : Nat) (hr : Region.ready md ops l = [i, j])
    (h1 : wpOp P ops Q i (fun a' w' => S w' ∧ wpAnyH P md ops Q S fuel (l.setIfInBounds i true) a' w') a w) (h2 : wpOp P ops Q j (fun a' w' => S w' ∧ wpAnyH P md ops Q S fuel (l.setIfInBounds j true) a' w') a w) : wpAnyH P md ops Q S (fuel + 1) l a w := by
  refine wpAnyH_all hr (by simp) fun m hm => ?_
  rcases List.mem_cons.1 hm with rfl | hm
  · exact h1
  · obtain rfl : m = j := by simpa using hm
    exact h2
variable {K : Act → World → Prop} {i : Nat}
theorem opH_run (o : Oper) (v : Value) {a : Act} {w w' : World} (ho : ops[i]? = some o) (hg : Region.wanted o (yielded ops a.tmps) = true)
    (hrun : (execOp a.eval o).run P w = .ok (.value v) w') (h : K (a.put o.dst v) w') : wpOp P ops Q i K a w := by
  unfold wpOp
  simp only [ho, hg, if_true]
  refine .inl ?_
  unfold Oper.wp
  rw [hrun]; exact h
theorem opH_callF (o : Oper) (f : FuncId) (args : Array Value) {a : Act} {w : World} (ho : ops[i]? = some o) (hg : Region.wanted o (yielded ops a.tmps) = true)
    (hc : o.op = .call { callee := .value (.func f), args := callArgs o, argTypes := callTypes o }) (hargs : (callArgs o).map a.eval = args) (he : ∀ args w, (callFunc f args).run P w = .ok (.enter f args) w)
    (h : Calls P f args w fun e w' => ∃ v, e = .returned v ∧ K (a.put o.dst v) w') : wpOp P ops Q i K a w := by
  unfold wpOp
  simp only [ho, hg, if_true]
  refine .inl ?_
  unfold Oper.wp execOp
  simp only [hc, resolve, hargs, Act.eval, Sem.run_bind, Deferred.ofValue, Sem.run_pure, Result.andThen_ok, invoke, Array.append_empty, Array.empty_append, he]
  refine Calls.mono h fun e w' ⟨v, he, hv⟩ => ?_
  subst he
  exact hv
end
/-- A new variable of a struct or an array. -/
theorem exec_alloc {P : Program} {o : Oper} {ρ : Operand → Value} {w : World} (t : TypeId) (ho : o.op = .alloc t) {cs : Array Value} (hr : (zeroValue t).run P w = .ok (.agg cs) w) :
    (execOp ρ o).run P w = .ok (.value (.pointer (some ⟨w.heap.size, 0, none⟩))) (w.alloc (.cells cs t)) := by
  unfold execOp
  simp only [ho, Instr.alloc, Sem.run_bind, hr, Result.andThen_ok, Sem.run_pure]
  simp [go_sem]
/-- A value, spelled otherwise. -/
theorem exec_cast {P : Program} {o : Oper} {ρ : Operand → Value} {w : World} {v v' : Value} (h : v = v') (hr : (execOp ρ o).run P w = .ok (.value v) w) : (execOp ρ o).run P w = .ok (.value v') w := h ▸ hr
end Go.Own
namespace Go.Own
open Go Go.RowKit
variable {P : Program} {ops : Array Oper} {rest : List Oper} {o : Oper} {a : Act} {w w' : World} {Q : Exit → Act → World → Prop}
theorem exec_load_mid {ρ : Operand → Value} (ty : TypeId) (x : Operand) (ho : o.op = .load ty x) (b k : Nat) (hx : ρ x = .pointer (some ⟨b, k, none⟩)) (cs : List Value) (d : TypeDesc) (hc : w.rangeAt b k cs)
    (hu : P.underlying ty = some d) (hd : d.isRow = true) (hi : (P.info? ty).map (·.size) = some cs.length) : (execOp ρ o).run P w = .ok (.value (.agg cs.toArray)) w := by
  unfold execOp
  simp only [ho, hx, Sem.run_bind, run_loadAt_mid w b k ty cs d hc hu hd hi, Result.andThen_ok, Sem.run_pure]
theorem exec_binop {ρ : Operand → Value} (op : BinOp) (t t' : TypeId) (x y : Operand) (ho : o.op = .binOp op t x y t') (vx vy v : Value) (hx : ρ x = vx) (hy : ρ y = vy) (hg : (eqGuard op t x y vx vy).run P w = .ok () w)
    (hr : (binOp op t vx vy).run P w = .ok v w) : (execOp ρ o).run P w = .ok (.value v) w := by
  unfold execOp
  simp only [ho, hx, hy, Sem.run_bind, hg, hr, Result.andThen_ok, Sem.run_pure]
end Go.Own
namespace Go.Own
open Go Go.RowKit Go.Shelf
/-! Short words of printed walks. -/
abbrev iN (n : Nat) : Value := .int .i64 ((n : Nat) : Int)
abbrev uN (n : Nat) : Value := .int .u64 ((n : Nat) : Int)
abbrev cN (n : Nat) : Value := .int .u8 ((n : Nat) : Int)
abbrev pT (g o : Nat) : Value := .pointer (some ⟨g, o, none⟩)
theorem Keeps.bk {g : Nat} {W W' : World} (k : Keeps Nob W W') {x : Obj} (h : W.heap[g]? = some x) : W'.heap[g]? = some x := (k.block g (Array.getElem?_eq_some_iff.1 h).1 (fun x => x)).trans h
theorem Keeps.bo {g j : Nat} {W W' : World} (k : Keeps (One j) W W') {x : Obj} (h : W.heap[g]? = some x) (hne : g ≠ j) : W'.heap[g]? = some x := (k.block g (Array.getElem?_eq_some_iff.1 h).1 hne).trans h
theorem Keeps.nn {M : Nat → Prop} {w V V' : World} (K : Keeps M w V) (k : Keeps Nob V V') : Keeps M w V' := K.then k (fun _ _ x => x.elim)
theorem Keeps.no {M : Nat → Prop} {g : Nat} {w V V' : World} (K : Keeps M w V) (k : Keeps (One g) V V') (h : w.heap.size ≤ g) : Keeps M w V' := K.then k (fun i hi hm => absurd hi (by unfold One at hm; omega))
theorem drew_step (W : World) : ∃ V, W.drew = V ∧ Keeps Nob W V := ⟨_, rfl, (Keeps.refl _ _).drew⟩
theorem alloc_step (W : World) (c : Array Value) (T : TypeId) : ∃ V, W.alloc (.cells c T) = V ∧ ∃ g, W.heap.size = g ∧ V.heap[g]? = some (.cells c T (0, 0)) ∧ Keeps Nob W V := ⟨_, rfl, _, rfl, heap_alloc_new _ _, (Keeps.refl _ _).alloc _⟩
theorem cell_step (W : World) (g o : Nat) (v : Value) : ∃ V, W.setCell ⟨g, o, none⟩ v = V ∧ Keeps (One g) W V := ⟨_, rfl, (Keeps.refl _ _).setOne _⟩
theorem rowset_step (W : World) (g : Nat) (c : Array Value) : ∃ V, W.setRow g c = V ∧ Keeps (One g) W V := ⟨_, rfl, (Keeps.refl (One g) _).setRow (fun _ => rfl) _⟩
/-- A part of a body, by its place: a number in base 2 whose first digit is cut off; 0: the left, 1: the right. -/
noncomputable def sub : List Bool → Code → Code
  | [], c => c
  | p :: r, .seq x y => sub r (bif p then y else x)
  | _ :: r, .block _ x => sub r x
  | p :: r, .cond _ x y => sub r (bif p then y else x)
  | _ :: r, .loop x => sub r x
  | p :: r, .rangeFunc _ _ x y => sub r (bif p then y else x)
  | _ :: _, c => c
def placeOf : Nat → Nat → List Bool
  | 0, _ => []
  | f + 1, n => if n ≤ 1 then [] else placeOf f (n / 2) ++ [n % 2 == 1]
noncomputable def partOf (f : Func) (n : Nat) : Code := sub (placeOf 200 n) (f.body.getD .skip)
noncomputable def opsAt (c : Code) : Array Oper := match c with | .region _ ops _ => ops | _ => #[]
section
variable {P : Program} {Q : Exit → Act → World → Prop} {a : Act} {w : World} {c : Code}
theorem sy_enter {f : FuncId} {fn : Func} {args : Array Value} {R : Ending → World → Prop} (c : Code) (a : Act) (hf : P.funcs[f]? = some fn) (hb : fn.body = some c)
    (ha : ({ tmps := args ++ Array.replicate (fn.ntmps - args.size) undef, defers := [] } : Act) = a) (h : c.wp P (bodyPost P fn R) a w) : Calls P f args w R :=
  calls_of_wp hf hb (ha ▸ h)
theorem sy_seq (x y : Code) (hc : c = .seq x y) (h : x.wp P (Exit.then (y.wp P Q) Q) a w) : c.wp P Q a w := hc ▸ wp_seq h
theorem sy_block (id : Nat) (x : Code) (hc : c = .block id x) (h : x.wp P (Exit.inBlock id Q) a w) : c.wp P Q a w := hc ▸ wp_block h
theorem sy_yes (o : Operand) (x y : Code) (hc : c = .cond o x y) (ho : a.eval o = .bool true) (h : x.wp P Q a w) : c.wp P Q a w := hc ▸ wp_cond_true ho h
theorem sy_no (o : Operand) (x y : Code) (hc : c = .cond o x y) (ho : a.eval o = .bool false) (h : y.wp P Q a w) : c.wp P Q a w := hc ▸ wp_cond_false ho h
theorem sy_skip (hc : c = .skip) (h : Q .normal a w) : c.wp P Q a w := hc ▸ wp_skip h
theorem sy_exit (id : Nat) (hc : c = .exit id) (h : Q (.exit id) a w) : c.wp P Q a w := hc ▸ wp_exit h
theorem sy_ret (hc : c = .ret) (h : Q .ret a w) : c.wp P Q a w := hc ▸ wp_ret h
theorem sy_loop (x : Code) (I : Act → World → Prop) (μ : Act → World → Nat) (hc : c = .loop x) (h0 : I a w)
    (round : ∀ a w, I a w → x.wp P (Exit.then (fun a' w' => I a' w' ∧ μ a' w' < μ a w) Q) a w) : c.wp P Q a w := hc ▸ wp_loop I μ h0 round
/-- What is left of a plain region; of one whose order is open: of its head, of its tail. (Wrapped: else the walk would reckon it.) -/
structure Gops (P : Program) (ops : Array Oper) (Q : Exit → Act → World → Prop) (l : List Nat) (a : Act) (w : World) : Prop where
  out : wpOps P ops Q l a w
structure Gst (P : Program) (ops : Array Oper) (w : World) (K : Act → Prop) (l : List Oper) (a : Act) : Prop where
  out : wpStill P ops w K l a
structure Gls (P : Program) (ops : Array Oper) (Q : Exit → Act → World → Prop) (l : List Oper) (a : Act) (w : World) : Prop where
  out : wpList P ops Q l a w
/-- What a region asks. -/
def RegW (P : Program) (c : Code) (Q : Exit → Act → World → Prop) (a : Act) (w : World) : Prop :=
  (∃ id ops, c = .region id ops false ∧ wpOps P ops Q (List.range ops.size) a w) ∨
  (∃ id ops, c = .region id ops true ∧ P.follows .mixedOrders = true ∧ wpAny P .any ops Q ops.size (Array.replicate ops.size false) a w.drew)
theorem sy_reg (h : RegW P c Q a w) : c.wp P Q a w := by
  rcases h with ⟨id, ops, rfl, h⟩ | ⟨id, ops, rfl, hm, h⟩
  · exact wp_region h
  · exact wp_region_any hm h
theorem sy_np (h : c.wp P (NoPanic Q) a w) : c.wp P Q a w := wp_mono h NoPanic.imp
theorem rg_plain (id : Nat) (ops : Array Oper) (l : List Nat) (hc : c = .region id ops false) (hl : List.range ops.size = l) (h : Gops P ops Q l a w) : RegW P c Q a w :=
  .inl ⟨id, ops, hc, hl ▸ h.out⟩
theorem rg_held (id : Nat) (ops : Array Oper) (S : World → Prop) (n : Nat) (l : Array Bool) (hc : c = .region id ops true) (hm : P.follows .mixedOrders = true) (hn : ops.size = n) (hl : Array.replicate n false = l) (h : wpAnyH P .any ops Q S n l a w.drew) : RegW P c Q a w := by
  subst hn; subst hl; exact .inr ⟨id, ops, hc, hm, wpAny_of_held _ _ _ _ h⟩
theorem sy_a {e : Exit} (b : Act) (hq : Q e b w) (h : a = b := by kernel_rfl) : Q e a w := h ▸ hq
theorem sy_rounds (n : Nat) (x : Code) (hc : c = .loop x) (h : Code.rounds P x Q n a w) : c.wp P Q a w := hc ▸ wp_loop_rounds n h
theorem rd_step {n : Nat} (h : c.wp P (Exit.then (Code.rounds P c Q n) Q) a w) : Code.rounds P c Q (n + 1) a w := h
theorem sy_part (c' : Code) (hc : c = c') (h : c'.wp P Q a w) : c.wp P Q a w := hc ▸ h
theorem sy_frame (b : Act) (h : a = b) (hq : c.wp P Q b w) : c.wp P Q a w := h ▸ hq
theorem then_n {next : Act → World → Prop} (h : next a w) : Exit.then next Q .normal a w := h
theorem then_e {next : Act → World → Prop} {id : Nat} (h : Q (.exit id) a w) : Exit.then next Q (.exit id) a w := h
theorem then_r {next : Act → World → Prop} (h : Q .ret a w) : Exit.then next Q .ret a w := h
theorem blk_n {id : Nat} (h : Q .normal a w) : Exit.inBlock id Q .normal a w := h
theorem blk_e {id : Nat} (h : Q .normal a w) : Exit.inBlock id Q (.exit id) a w := by simp only [Exit.inBlock, if_true]; exact h
theorem blk_p {id id' : Nat} (hne : id' ≠ id) (h : Q (.exit id') a w) : Exit.inBlock id Q (.exit id') a w := by simp only [Exit.inBlock, if_neg hne]; exact h
theorem blk_r {id : Nat} (h : Q .ret a w) : Exit.inBlock id Q .ret a w := h
theorem sy_out {fn : Func} {R : Ending → World → Prop} (v : Value) (hd : a.defers = []) (hr : (results fn a.tmps).run P w = .ok v w) (h : R (.returned v) w) : bodyPost P fn R .ret a w := ⟨hd, v, hr, h⟩
theorem sy_fall {fn : Func} {R : Ending → World → Prop} (v : Value) (hd : a.defers = []) (hr : (results fn a.tmps).run P w = .ok v w) (h : R (.returned v) w) : bodyPost P fn R .normal a w := ⟨hd, v, hr, h⟩
/-- Two results: a row, and a temporary. -/
theorem results_row_tmp {fn : Func} {p q : Tmp} {ty : TypeId} (h : fn.results = #[.cell p ty, .tmp q]) (tmps : Array Value) (w : World) (g : Nat) (t : TypeId) (cs : Array Value) (fr : Nat × Nat) (d : TypeDesc) (v : Value)
    (hp : tmps.getD p undef = .pointer (some ⟨g, 0, none⟩)) (hg : w.heap[g]? = some (.cells cs t fr))
    (hu : P.underlying ty = some d) (hd : (match d with | .struct _ | .array _ _ => true | _ => false) = true) (hi : (P.info? ty).map (·.size) = some cs.size) (hq : tmps.getD q undef = v) :
    (results fn tmps).run P w = .ok (.tuple #[.agg cs, v]) w := by
  have hp' : tmps[p]?.getD undef = .pointer (some ⟨g, 0, none⟩) := by simpa using hp
  have hq' : tmps[q]?.getD undef = v := by simpa using hq
  simp [results, h, hp', hq', asAddr, run_loadVar_row w g t ty cs fr d hg hu hd hi]
variable {ops : Array Oper} {i : Nat} {rest : List Nat}
theorem ps_end (h : Q .normal a w) : Gops P ops Q [] a w := ⟨h⟩
theorem ps_run (o : Oper) (v : Value) {w' : World} (ho : ops[i]? = some o) (hg : Region.wanted o (yielded ops a.tmps) = true) (hrun : (execOp a.eval o).run P w = .ok (.value v) w') (h : Gops P ops Q rest (a.put o.dst v) w') : Gops P ops Q (i :: rest) a w :=
  ⟨by rw [wpOps_cons]; exact opH_run o v ho hg hrun h.out⟩
theorem ps_skip (o : Oper) {w' : World} (ho : ops[i]? = some o) (hg : Region.wanted o (yielded ops a.tmps) = true) (hrun : (execOp a.eval o).run P w = .ok .skip w') (h : Gops P ops Q rest (a.put o.dst undef) w') : Gops P ops Q (i :: rest) a w := by
  refine ⟨?_⟩
  rw [wpOps_cons]
  unfold wpOp
  simp only [ho, hg, if_true]
  refine .inl ?_
  unfold Oper.wp
  rw [hrun]; exact h.out
theorem ps_no (o : Oper) (ho : ops[i]? = some o) (hg : Region.wanted o (yielded ops a.tmps) = false) (h : Gops P ops Q rest (a.put o.dst undef) w) : Gops P ops Q (i :: rest) a w := by
  refine ⟨?_⟩
  rw [wpOps_cons]
  unfold wpOp
  simp only [ho, hg, Bool.false_eq_true, if_false]
  exact h.out
theorem ps_call (o : Oper) (f : FuncId) (args : Array Value) (ho : ops[i]? = some o) (hg : Region.wanted o (yielded ops a.tmps) = true)
    (hc : o.op = .call { callee := .value (.func f), args := callArgs o, argTypes := callTypes o }) (hargs : (callArgs o).map a.eval = args) (he : ∀ args w, (callFunc f args).run P w = .ok (.enter f args) w)
    (h : Calls P f args w fun e w' => ∃ v, e = .returned v ∧ Gops P ops Q rest (a.put o.dst v) w') : Gops P ops Q (i :: rest) a w :=
  ⟨by rw [wpOps_cons]; exact opH_callF o f args ho hg hc hargs he (h.mono fun _ _ ⟨v, h1, h2⟩ => ⟨v, h1, h2.out⟩)⟩
/-! A region whose head leaves the world alone, and whose tail goes on step by step. -/
theorem rg_still (id n : Nat) (ops : Array Oper) (hd tl : List Oper) (hc : c = .region id ops true) (hm : P.follows .mixedOrders = true) (hB : Region.lexTailB .any ops n = true) (hh : ops.toList.take n = hd) (ht : ops.toList.drop n = tl)
    (h : Gst P ops w.drew (fun a' => Gls P ops Q tl a' w.drew) hd a) : RegW P c Q a w := by
  subst hh; subst ht
  have h2 : ∀ (l : List Oper) (a : Act) (K K' : Act → Prop), (∀ a, K a → K' a) → wpStill P ops w.drew K l a → wpStill P ops w.drew K' l a := by
    intro l
    induction l with
    | nil => intro a K K' hk h; exact hk a h
    | cons o r ih =>
      intro a K K' hk h
      unfold wpStill at h ⊢
      split at h
      · rename_i hw; rw [if_pos hw]; exact Oper.still_mono (fun a h => ih a K K' hk h) h
      · rename_i hw; rw [if_neg hw]; exact ih _ K K' hk h
  have h3 := h2 _ _ _ (fun a' => wpList P ops Q (ops.toList.drop n) a' w.drew) (fun _ h => h.out) h.out
  refine .inr ⟨id, ops, hc, hm, ?_⟩
  simp only [Region.lexTailB, Bool.and_eq_true, decide_eq_true_eq] at hB
  obtain ⟨⟨⟨⟨hsel, hn⟩, hs⟩, hch⟩, hlex⟩ := hB
  have htl : (ops.toList.take n).length = n := by simp; omega
  have hdl : (ops.toList.drop n).length = ops.size - n := by simp
  have inv0 : HeadInv .any ops n (Array.replicate ops.size false) := ⟨by simp, fun j oj _ hl => (by rw [getD_replicate_false] at hl; cases hl), fun t _ ht => getD_in (by simpa using ht) (getD_replicate_false _ _)⟩
  have H := wpAnyL_lex (md := .any) (g := ops.size - n) (w := w.drew) hsel hs hch hn (ops.toList.take n) 0 _ a (fun j hj => by
    have hj' : j < n := by rw [htl] at hj; exact hj
    simp [hj']) (by simpa using htl) inv0 (by rw [htl]; exact hlex) h3
  have := wpAny_of_head (Q' := Q) (g := ops.size - n) (fun listed a' hL => by
    have := wpAny_of_seq (md := .any) (Q' := Q) (ops.toList.drop n) n listed a' w.drew (fun j => by simp [List.getElem?_drop]) (by rw [hdl]; exact hL.1) hL.2
    rwa [hdl] at this) _ _ _ H
  rw [htl, show n + (ops.size - n) = ops.size by omega] at this
  exact this
section
variable {rest : List Oper} {K : Act → Prop}
theorem st_run (o : Oper) (v : Value) (hg : Region.wanted o (yielded ops a.tmps) = true) (hrun : (execOp a.eval o).run P w = .ok (.value v) w) (h : Gst P ops w K rest (a.put o.dst v)) : Gst P ops w K (o :: rest) a := by
  refine ⟨?_⟩
  unfold wpStill
  rw [if_pos hg]
  unfold Oper.still
  rw [hrun]
  exact ⟨rfl, h.out⟩
theorem st_no (o : Oper) (hg : Region.wanted o (yielded ops a.tmps) = false) (h : Gst P ops w K rest (a.put o.dst undef)) : Gst P ops w K (o :: rest) a := by
  refine ⟨?_⟩
  unfold wpStill
  rw [if_neg (by simp [hg])]
  exact h.out
theorem st_end (h : K a) : Gst P ops w K [] a := ⟨h⟩
theorem ls_end (h : Q .normal a w) : Gls P ops Q [] a w := ⟨h⟩
theorem ls_run (o : Oper) {w' : World} (v : Value) (hg : Region.wanted o (yielded ops a.tmps) = true) (hrun : (execOp a.eval o).run P w = .ok (.value v) w') (h : Gls P ops Q rest (a.put o.dst v) w') : Gls P ops Q (o :: rest) a w := by
  refine ⟨?_⟩
  unfold wpList
  rw [if_pos hg]
  left
  unfold Oper.wp
  rw [hrun]; exact h.out
end
end
/-! A region whose order is open, its free operations taken first. -/
section
variable {P : Program} {Q : Exit → Act → World → Prop} {a : Act} {w : World} {ops : Array Oper} {i : Nat} {S : World → Prop} {fuel : Nat} {l : Array Bool}
structure Gany (P : Program) (ops : Array Oper) (Q : Exit → Act → World → Prop) (S : World → Prop) (fuel : Nat) (l : Array Bool) (a : Act) (w : World) : Prop where
  out : wpAnyH P .any ops Q S fuel l a w
structure Gone (P : Program) (ops : Array Oper) (Q : Exit → Act → World → Prop) (S : World → Prop) (fuel : Nat) (l : Array Bool) (i : Nat) (a : Act) (w : World) : Prop where
  out : wpOp P ops Q i (fun a' w' => S w' ∧ Gany P ops Q S fuel l a' w') a w
theorem an_begin {c : Code} (id n : Nat) (ops : Array Oper) (S : World → Prop) (l : Array Bool) (hc : c = .region id ops true) (hm : P.follows .mixedOrders = true) (hn : ops.size = n) (hl : Array.replicate n false = l) (h : Gany P ops (NoPanic Q) S n l a w.drew) : RegW P c (NoPanic Q) a w := rg_held id ops S n l hc hm hn hl h.out
theorem an_val (i : Nat) (o : Oper) (v : Value) (hs : Region.noSelect ops = true) (ho : ops[i]? = some o) (hg : Region.wanted o (yielded ops a.tmps) = true) (hf : Region.free .any ops l i = true) (hr : (Region.ready .any ops l).contains i = true)
    (hrun : ∀ W, S W → (execOp a.eval o).run P W = .ok (.value v) W) (hS : S w) (h : Gany P ops (NoPanic Q) S fuel (l.setIfInBounds i true) (a.put o.dst v) w) : Gany P ops (NoPanic Q) S (fuel + 1) l a w :=
  ⟨wpAnyH_val (i := i) o v hs (fun _ _ _ _ _ h => h) ho hg hf hr hrun hS h.out⟩
theorem an_no (i : Nat) (o : Oper) (hs : Region.noSelect ops = true) (ho : ops[i]? = some o) (hg : Region.wanted o (yielded ops a.tmps) = false) (hf : Region.free .any ops l i = true) (hr : (Region.ready .any ops l).contains i = true)
    (hS : S w) (h : Gany P ops (NoPanic Q) S fuel (l.setIfInBounds i true) (a.put o.dst undef) w) : Gany P ops (NoPanic Q) S (fuel + 1) l a w :=
  ⟨wpAnyH_skip (i := i) o hs (fun _ _ _ _ _ h => h) ho hg hf hr hS h.out⟩
theorem an_one (i : Nat) (hr : Region.ready .any ops l = [i]) (h : Gone P ops Q S fuel (l.setIfInBounds i true) i a w) : Gany P ops Q S (fuel + 1) l a w :=
  ⟨wpAnyH_all hr (by simp) fun j hj => by obtain rfl : j = i := by simpa using hj
                                          exact wpOp_mono (fun _ _ h => ⟨h.1, h.2.out⟩) h.out⟩
theorem an_end (hr : Region.ready .any ops l = []) (h : Q .normal a w) : Gany P ops (NoPanic Q) S fuel l a w := ⟨wpAnyH_done hr (NoPanic.normal h) _⟩
theorem on_run (o : Oper) (v : Value) {w' : World} (ho : ops[i]? = some o) (hg : Region.wanted o (yielded ops a.tmps) = true) (hrun : (execOp a.eval o).run P w = .ok (.value v) w') (h : S w' ∧ Gany P ops Q S fuel l (a.put o.dst v) w') : Gone P ops Q S fuel l i a w :=
  ⟨opH_run o v ho hg hrun h⟩
theorem on_skip (o : Oper) {w' : World} (ho : ops[i]? = some o) (hg : Region.wanted o (yielded ops a.tmps) = true) (hrun : (execOp a.eval o).run P w = .ok .skip w') (h : S w' ∧ Gany P ops Q S fuel l (a.put o.dst undef) w') : Gone P ops Q S fuel l i a w := by
  refine ⟨?_⟩
  unfold wpOp
  simp only [ho, hg, if_true]
  refine .inl ?_
  unfold Oper.wp
  rw [hrun]; exact h
theorem on_call (o : Oper) (f : FuncId) (args : Array Value) (ho : ops[i]? = some o) (hg : Region.wanted o (yielded ops a.tmps) = true)
    (hc : o.op = .call { callee := .value (.func f), args := callArgs o, argTypes := callTypes o }) (hargs : (callArgs o).map a.eval = args) (he : ∀ args w, (callFunc f args).run P w = .ok (.enter f args) w)
    (h : Calls P f args w fun e w' => ∃ v, e = .returned v ∧ S w' ∧ Gany P ops Q S fuel l (a.put o.dst v) w') : Gone P ops Q S fuel l i a w := ⟨opH_callF o f args ho hg hc hargs he h⟩
end
/-! Runs of operations. -/
section
variable {P : Program} {o : Oper} {ρ : Operand → Value} {w : World}
theorem wrapI (x r : Int) (h : x = r) (h1 : -9223372036854775808 ≤ r) (h2 : r ≤ 9223372036854775807) : IntKind.i64.wrap x = r := by
  subst h; rw [IntKind.wrap_i64]; omega
theorem wrapN (n : Nat) (h : n ≤ 9223372036854775807) : IntKind.i64.wrap (n : Int) = (n : Int) := wrapI _ _ rfl (by omega) (by omega)
theorem wrapU (n : Nat) (h : n < 18446744073709551616) : IntKind.u64.wrap (n : Int) = (n : Int) := by
  show ((n : Int) % (2 ^ 64 : Int)) = n
  omega
theorem exec_store_cell (ty : TypeId) (x y : Operand) (ho : o.op = .store ty x y) (b k : Nat) (hx : ρ x = .pointer (some ⟨b, k, none⟩)) (v : Value) (hy : ρ y = v) (hs : (P.info? ty).map (·.size) = some 1) (hv : v.cells = #[v])
    (old : Value) (hc : w.cell? ⟨b, k, none⟩ = some old) (hf : w.frozen? ⟨b, k, none⟩ = false) (h1 : v.oneCell' = true) : (execOp ρ o).run P w = .ok .skip (w.setCell ⟨b, k, none⟩ v) := by
  obtain ⟨i, hi, h2⟩ := Option.map_eq_some_iff.1 hs
  unfold execOp
  simp only [ho, hx, hy, Instr.storeAt, Instr.sureAddr, Sem.run_bind, Sem.run_pure, Result.andThen_ok, storeVar, hv, sizeOf, typeInfo]
  simp [go_sem, hi, h2, storeCells, run_store _ _ _ _ _ h1, Addr.add_lit, stored, hc, hf, Result.andThen]
theorem exec_indexAt_slice (t : TypeId) (x y : Operand) (ho : o.op = .indexAddr t x y) (b of : Nat) (n cap : Nat) (hx : ρ x = .slice (some ⟨b, of, none⟩) n cap) (kd : IntKind) (k : Nat) (hy : ρ y = .int kd (k : Int)) (e : TypeId) (size : Nat) (hu : P.underlying t = some (.slice e))
    (hs : (P.info? e).map (·.size) = some size) (hk : k < n) : (execOp ρ o).run P w = .ok (.value (.pointer (some ⟨b, of + k * size, none⟩))) w := by
  obtain ⟨i, hi, rfl⟩ := Option.map_eq_some_iff.1 hs
  unfold execOp
  simp [ho, hx, hy, Instr.indexAt, asIntOf, run_underlying hu, Instr.sureAddr, go_sem, hk, sizeOf, typeInfo, hi, Addr.add]
theorem exec_box (t : TypeId) (x : Operand) (ho : o.op = .box t x) (v : Value) (hx : ρ x = v) : (execOp ρ o).run P w = .ok (.value (.pointer (some ⟨w.heap.size, 0, none⟩))) (w.alloc (.cells v.cells t)) := by
  unfold execOp
  simp only [ho, hx, Instr.box, Sem.run_bind, Result.andThen_ok, Sem.run_pure]
  simp [go_sem]
/-- A new variable at its zero value. -/
theorem exec_alloc0 (t : TypeId) (ho : o.op = .alloc t) (z : Value) (hr : (zeroValue t).run P w = .ok z w) :
    (execOp ρ o).run P w = .ok (.value (.pointer (some ⟨w.heap.size, 0, none⟩))) (w.alloc (.cells z.cells t)) := by
  unfold execOp
  simp only [ho, Instr.alloc, Sem.run_bind, hr, Result.andThen_ok, Sem.run_pure]
  simp [go_sem]
theorem exec_len (x : Operand) (t e : TypeId) (ho : o.op = .call { callee := .builtin .len, args := #[x], argTypes := #[t] }) (ht : P.underlying t = some (.slice e)) (A : Option Addr) (n cap : Nat) (hx : ρ x = .slice A n cap) : (execOp ρ o).run P w = .ok (.value (.int .i64 (n : Int))) w := by
  unfold execOp
  simp [ho, hx, resolve, invoke, builtin, Builtin.len_, run_underlying ht, go_sem]
end
/-! The same laws, short: what the kernel reckons stands behind. -/
section
variable {P : Program} {Q : Exit → Act → World → Prop} {a : Act} {w : World} {ops : Array Oper} {i : Nat} {rest : List Nat}
theorem ent {f : FuncId} {fn : Func} (hf : P.funcs[f]? = some fn) (hn : (fn.name == "runtime.NumGoroutine") = false) (hb : fn.body.isSome = true) : ∀ args w, (callFunc f args).run P w = .ok (.enter f args) w := by
  obtain ⟨c, hc⟩ := Option.isSome_iff_exists.1 hb
  exact Go.Proofs.enters_of hf hn hc
end
section
variable {P : Program} {w : World} {a : Act} {ops : Array Oper} {rest : List Oper} {K : Act → Prop}
end
section
variable {P : Program} {Q : Exit → Act → World → Prop} {a : Act} {w : World} {ops : Array Oper} {i : Nat} {S : World → Prop} {fuel : Nat} {l : Array Bool}
theorem an_o (i : Nat) (h : Gone P ops Q S fuel (l.setIfInBounds i true) i a w) (hr : Region.ready .any ops l = [i] := by kernel_rfl) : Gany P ops Q S (fuel + 1) l a w := an_one i hr h
end
section
variable {P : Program} {o : Oper} {ρ : Operand → Value} {w : World}
theorem rc {g j : Nat} {cs : Array Value} {t : TypeId} {fr : Nat × Nat} {v : Value} (hg : w.heap[g]? = some (.cells cs t fr)) (h : cs[j]? = some v) : w.cell? ⟨g, j, none⟩ = some v := (cell_of_row _ _ _ _ _ _ hg).trans h
theorem exec_ld (ty : TypeId) (x : Operand) (g j : Nat) {d : TypeDesc} {v : Value} (hu : P.underlying ty = some d) (hc : w.cell? ⟨g, j, none⟩ = some v) (ho : o.op = .load ty x := by kernel_rfl) (hx : ρ x = .pointer (some ⟨g, j, none⟩) := by kernel_rfl)
    (hd : (match d with | .struct _ | .array _ _ => false | _ => true) = true := by rfl) : (execOp ρ o).run P w = .ok (.value v) w := exec_load_cell ty x ho _ hx d v hu hd hc
theorem dct (p : Prop) [Decidable p] (h : p) (hr : (execOp ρ o).run P w = .ok (.value (.bool (decide p))) w := by kernel_rfl) : (execOp ρ o).run P w = .ok (.value (.bool true)) w := by rw [decide_eq_true h] at hr; exact hr
theorem dcf (p : Prop) [Decidable p] (h : ¬ p) (hr : (execOp ρ o).run P w = .ok (.value (.bool (decide p))) w := by kernel_rfl) : (execOp ρ o).run P w = .ok (.value (.bool false)) w := by rw [decide_eq_false h] at hr; exact hr
theorem eqt (x y : Int) (h : x = y) (hr : (execOp ρ o).run P w = .ok (.value (.bool (x == y))) w := by kernel_rfl) : (execOp ρ o).run P w = .ok (.value (.bool true)) w := by rw [beq_iff_eq.2 h] at hr; exact hr
theorem eqf (x y : Int) (h : ¬ x = y) (hr : (execOp ρ o).run P w = .ok (.value (.bool (x == y))) w := by kernel_rfl) : (execOp ρ o).run P w = .ok (.value (.bool false)) w := by rw [beq_eq_false_iff_ne.2 h] at hr; exact hr
theorem nqt (x y : Int) (h : ¬ x = y) (hr : (execOp ρ o).run P w = .ok (.value (.bool (x != y))) w := by kernel_rfl) : (execOp ρ o).run P w = .ok (.value (.bool true)) w := by rw [bne_iff_ne.2 h] at hr; exact hr
theorem nqf (x y : Int) (h : x = y) (hr : (execOp ρ o).run P w = .ok (.value (.bool (x != y))) w := by kernel_rfl) : (execOp ρ o).run P w = .ok (.value (.bool false)) w := by rw [bne_eq_false_iff_eq.2 h] at hr; exact hr
end
end Go.Own
namespace Go.Own
open Go Go.RowKit Go.Shelf
abbrev ud : Value := undef
section
variable {P : Program} {Q : Exit → Act → World → Prop} {a : Act} {w : World} {c : Code}
end
section
variable {P : Program} {Q : Exit → Act → World → Prop} {a : Act} {w : World} {ops : Array Oper} {i : Nat} {rest : List Nat}
theorem pkq (v : Value) (h : Gops P ops Q rest (a.put (ops.getD i default).dst v) w) (ho : ops[i]? = some (ops.getD i default) := by kernel_rfl) (hg : Region.wanted (ops.getD i default) (yielded ops a.tmps) = true := by kernel_rfl) (hrun : (execOp a.eval (ops.getD i default)).run P w = .ok (.value v) w := by kernel_rfl) : Gops P ops Q (i :: rest) a w := ps_run _ v ho hg hrun h
theorem ppq (v : Value) (hrun : (execOp a.eval (ops.getD i default)).run P w = .ok (.value v) w) (h : Gops P ops Q rest (a.put (ops.getD i default).dst v) w) (ho : ops[i]? = some (ops.getD i default) := by kernel_rfl) (hg : Region.wanted (ops.getD i default) (yielded ops a.tmps) = true := by kernel_rfl) : Gops P ops Q (i :: rest) a w := ps_run _ v ho hg hrun h
theorem pnq (h : Gops P ops Q rest (a.put (ops.getD i default).dst undef) w) (ho : ops[i]? = some (ops.getD i default) := by kernel_rfl) (hg : Region.wanted (ops.getD i default) (yielded ops a.tmps) = false := by kernel_rfl) : Gops P ops Q (i :: rest) a w := ps_no _ ho hg h
theorem prq (v : Value) {w' : World} (hrun : (execOp a.eval (ops.getD i default)).run P w = .ok (.value v) w') (h : Gops P ops Q rest (a.put (ops.getD i default).dst v) w') (ho : ops[i]? = some (ops.getD i default) := by kernel_rfl) (hg : Region.wanted (ops.getD i default) (yielded ops a.tmps) = true := by kernel_rfl) : Gops P ops Q (i :: rest) a w := ps_run _ v ho hg hrun h
theorem pzq {w' : World} (hrun : (execOp a.eval (ops.getD i default)).run P w = .ok .skip w') (h : Gops P ops Q rest (a.put (ops.getD i default).dst undef) w') (ho : ops[i]? = some (ops.getD i default) := by kernel_rfl) (hg : Region.wanted (ops.getD i default) (yielded ops a.tmps) = true := by kernel_rfl) : Gops P ops Q (i :: rest) a w := ps_skip _ ho hg hrun h
theorem pcq (f : FuncId) (args : Array Value) {fn : Func} (hf : P.funcs[f]? = some fn) (h : Calls P f args w fun e w' => ∃ v, e = .returned v ∧ Gops P ops Q rest (a.put (ops.getD i default).dst v) w') (ho : ops[i]? = some (ops.getD i default) := by kernel_rfl) (hg : Region.wanted (ops.getD i default) (yielded ops a.tmps) = true := by kernel_rfl)
    (hc : (ops.getD i default).op = .call { callee := .value (.func f), args := callArgs (ops.getD i default), argTypes := callTypes (ops.getD i default) } := by kernel_rfl) (hargs : (callArgs (ops.getD i default)).map a.eval = args := by kernel_rfl) (hn : (fn.name == "runtime.NumGoroutine") = false := by kernel_rfl) (hb : fn.body.isSome = true := by kernel_rfl) : Gops P ops Q (i :: rest) a w :=
  ps_call _ f args ho hg hc hargs (ent hf hn hb) h
end
section
variable {P : Program} {w : World} {a : Act} {ops : Array Oper} {rest : List Oper} {K : Act → Prop} {o : Oper}
theorem skq (v : Value) (h : Gst P ops w K rest (a.put o.dst v)) (hg : Region.wanted o (yielded ops a.tmps) = true := by kernel_rfl) (hrun : (execOp a.eval o).run P w = .ok (.value v) w := by kernel_rfl) : Gst P ops w K (o :: rest) a := st_run o v hg hrun h
theorem spq (v : Value) (hrun : (execOp a.eval o).run P w = .ok (.value v) w) (h : Gst P ops w K rest (a.put o.dst v)) (hg : Region.wanted o (yielded ops a.tmps) = true := by kernel_rfl) : Gst P ops w K (o :: rest) a := st_run o v hg hrun h
theorem snq (h : Gst P ops w K rest (a.put o.dst undef)) (hg : Region.wanted o (yielded ops a.tmps) = false := by kernel_rfl) : Gst P ops w K (o :: rest) a := st_no o hg h
end
section
variable {P : Program} {Q : Exit → Act → World → Prop} {a : Act} {w : World} {ops : Array Oper} {i : Nat} {S : World → Prop} {fuel : Nat} {l : Array Bool}
theorem avq (i : Nat) (v : Value) (hrun : ∀ W, S W → (execOp a.eval (ops.getD i default)).run P W = .ok (.value v) W) (hS : S w) (h : Gany P ops (NoPanic Q) S fuel (l.setIfInBounds i true) (a.put (ops.getD i default).dst v) w) (hs : Region.noSelect ops = true := by kernel_rfl) (ho : ops[i]? = some (ops.getD i default) := by kernel_rfl)
    (hg : Region.wanted (ops.getD i default) (yielded ops a.tmps) = true := by kernel_rfl) (hf : Region.free .any ops l i = true := by kernel_rfl) (hr : (Region.ready .any ops l).contains i = true := by kernel_rfl) : Gany P ops (NoPanic Q) S (fuel + 1) l a w := an_val i _ v hs ho hg hf hr hrun hS h
theorem akq (i : Nat) (v : Value) (hS : S w) (h : Gany P ops (NoPanic Q) S fuel (l.setIfInBounds i true) (a.put (ops.getD i default).dst v) w) (hrun : ∀ W, (execOp a.eval (ops.getD i default)).run P W = .ok (.value v) W := by intro W; kernel_rfl) (hs : Region.noSelect ops = true := by kernel_rfl) (ho : ops[i]? = some (ops.getD i default) := by kernel_rfl)
    (hg : Region.wanted (ops.getD i default) (yielded ops a.tmps) = true := by kernel_rfl) (hf : Region.free .any ops l i = true := by kernel_rfl) (hr : (Region.ready .any ops l).contains i = true := by kernel_rfl) : Gany P ops (NoPanic Q) S (fuel + 1) l a w := an_val i _ v hs ho hg hf hr (fun W _ => hrun W) hS h
theorem anq (i : Nat) (hS : S w) (h : Gany P ops (NoPanic Q) S fuel (l.setIfInBounds i true) (a.put (ops.getD i default).dst undef) w) (hs : Region.noSelect ops = true := by kernel_rfl) (ho : ops[i]? = some (ops.getD i default) := by kernel_rfl)
    (hg : Region.wanted (ops.getD i default) (yielded ops a.tmps) = false := by kernel_rfl) (hf : Region.free .any ops l i = true := by kernel_rfl) (hr : (Region.ready .any ops l).contains i = true := by kernel_rfl) : Gany P ops (NoPanic Q) S (fuel + 1) l a w := an_no i _ hs ho hg hf hr hS h
theorem nrq (v : Value) {w' : World} (hrun : (execOp a.eval (ops.getD i default)).run P w = .ok (.value v) w') (h : S w' ∧ Gany P ops Q S fuel l (a.put (ops.getD i default).dst v) w') (ho : ops[i]? = some (ops.getD i default) := by kernel_rfl) (hg : Region.wanted (ops.getD i default) (yielded ops a.tmps) = true := by kernel_rfl) : Gone P ops Q S fuel l i a w := on_run _ v ho hg hrun h
theorem ncq (f : FuncId) (args : Array Value) {fn : Func} (hf : P.funcs[f]? = some fn) (h : Calls P f args w fun e w' => ∃ v, e = .returned v ∧ S w' ∧ Gany P ops Q S fuel l (a.put (ops.getD i default).dst v) w') (ho : ops[i]? = some (ops.getD i default) := by kernel_rfl) (hg : Region.wanted (ops.getD i default) (yielded ops a.tmps) = true := by kernel_rfl)
    (hc : (ops.getD i default).op = .call { callee := .value (.func f), args := callArgs (ops.getD i default), argTypes := callTypes (ops.getD i default) } := by kernel_rfl) (hargs : (callArgs (ops.getD i default)).map a.eval = args := by kernel_rfl) (hn : (fn.name == "runtime.NumGoroutine") = false := by kernel_rfl) (hb : fn.body.isSome = true := by kernel_rfl) : Gone P ops Q S fuel l i a w :=
  on_call _ f args ho hg hc hargs (ent hf hn hb) h
end
section
variable {P : Program} {Q : Exit → Act → World → Prop} {a : Act} {w : World} {f : Func} {n : Nat} {ops : Array Oper}
/-! The code's parts by their places: the left one of n is 2 n, the right one 2 n + 1. -/
def condO : Code → Operand
  | .cond o _ _ => o
  | _ => .const undef
def regI : Code → Nat
  | .region i _ _ => i
  | _ => 0
theorem q_ (h : (partOf f (2 * n)).wp P (Exit.then ((partOf f (2 * n + 1)).wp P Q) Q) a w) (hc : partOf f n = .seq (partOf f (2 * n)) (partOf f (2 * n + 1)) := by kernel_rfl) : (partOf f n).wp P Q a w := sy_seq _ _ hc h
theorem r_ (l : List Nat) (h : Gops P (opsAt (partOf f n)) Q l a w) (hc : partOf f n = .region (regI (partOf f n)) (opsAt (partOf f n)) false := by kernel_rfl) (hl : List.range (opsAt (partOf f n)).size = l := by kernel_rfl) : (partOf f n).wp P Q a w := sy_reg (rg_plain _ _ l hc hl h)
theorem qr_ (l : List Nat) (h : Gops P (opsAt (partOf f (2 * n))) (Exit.then ((partOf f (2 * n + 1)).wp P Q) Q) l a w) (hc : partOf f n = .seq (partOf f (2 * n)) (partOf f (2 * n + 1)) := by kernel_rfl) (hr : partOf f (2 * n) = .region (regI (partOf f (2 * n))) (opsAt (partOf f (2 * n))) false := by kernel_rfl) (hl : List.range (opsAt (partOf f (2 * n))).size = l := by kernel_rfl) : (partOf f n).wp P Q a w := sy_seq _ _ hc (sy_reg (rg_plain _ _ l hr hl h))
theorem y_ (h : (partOf f (2 * n)).wp P Q a w) (hc : partOf f n = .cond (condO (partOf f n)) (partOf f (2 * n)) (partOf f (2 * n + 1)) := by kernel_rfl) (ho : a.eval (condO (partOf f n)) = .bool true := by kernel_rfl) : (partOf f n).wp P Q a w := sy_yes _ _ _ hc ho h
theorem n_ (h : (partOf f (2 * n + 1)).wp P Q a w) (hc : partOf f n = .cond (condO (partOf f n)) (partOf f (2 * n)) (partOf f (2 * n + 1)) := by kernel_rfl) (ho : a.eval (condO (partOf f n)) = .bool false := by kernel_rfl) : (partOf f n).wp P Q a w := sy_no _ _ _ hc ho h
theorem bl_ (id : Nat) (h : (partOf f (2 * n)).wp P (Exit.inBlock id Q) a w) (hc : partOf f n = .block id (partOf f (2 * n)) := by kernel_rfl) : (partOf f n).wp P Q a w := sy_block id _ hc h
theorem s_ (h : Q .normal a w) (hc : partOf f n = .skip := by kernel_rfl) : (partOf f n).wp P Q a w := sy_skip hc h
theorem u_ (h : Q .ret a w) (hc : partOf f n = .ret := by kernel_rfl) : (partOf f n).wp P Q a w := sy_ret hc h
theorem et_ {next : Act → World → Prop} (h : next a w) : Gops P ops (Exit.then next Q) [] a w := ps_end (then_n h)
theorem eq_ (h : (partOf f (2 * n)).wp P (Exit.then ((partOf f (2 * n + 1)).wp P Q) Q) a w) (hc : partOf f n = .seq (partOf f (2 * n)) (partOf f (2 * n + 1)) := by kernel_rfl) : Gops P ops (Exit.then ((partOf f n).wp P Q) Q) [] a w := et_ (q_ h hc)
theorem er_ (l : List Nat) (h : Gops P (opsAt (partOf f n)) Q l a w) (hc : partOf f n = .region (regI (partOf f n)) (opsAt (partOf f n)) false := by kernel_rfl) (hl : List.range (opsAt (partOf f n)).size = l := by kernel_rfl) : Gops P ops (Exit.then ((partOf f n).wp P Q) Q) [] a w := et_ (r_ l h hc hl)
theorem eqr_ (l : List Nat) (h : Gops P (opsAt (partOf f (2 * n))) (Exit.then ((partOf f (2 * n + 1)).wp P Q) Q) l a w) (hc : partOf f n = .seq (partOf f (2 * n)) (partOf f (2 * n + 1)) := by kernel_rfl) (hr : partOf f (2 * n) = .region (regI (partOf f (2 * n))) (opsAt (partOf f (2 * n))) false := by kernel_rfl) (hl : List.range (opsAt (partOf f (2 * n))).size = l := by kernel_rfl) : Gops P ops (Exit.then ((partOf f n).wp P Q) Q) [] a w := et_ (qr_ l h hc hr hl)
theorem ey_ (h : (partOf f (2 * n)).wp P Q a w) (hc : partOf f n = .cond (condO (partOf f n)) (partOf f (2 * n)) (partOf f (2 * n + 1)) := by kernel_rfl) (ho : a.eval (condO (partOf f n)) = .bool true := by kernel_rfl) : Gops P ops (Exit.then ((partOf f n).wp P Q) Q) [] a w := et_ (y_ h hc ho)
theorem en_ (h : (partOf f (2 * n + 1)).wp P Q a w) (hc : partOf f n = .cond (condO (partOf f n)) (partOf f (2 * n)) (partOf f (2 * n + 1)) := by kernel_rfl) (ho : a.eval (condO (partOf f n)) = .bool false := by kernel_rfl) : Gops P ops (Exit.then ((partOf f n).wp P Q) Q) [] a w := et_ (n_ h hc ho)
theorem eu_ (h : Q .ret a w) (hc : partOf f n = .ret := by kernel_rfl) : Gops P ops (Exit.then ((partOf f n).wp P Q) Q) [] a w := et_ (u_ h hc)
theorem tq_ (h : (partOf f (2 * n)).wp P (Exit.then ((partOf f (2 * n + 1)).wp P Q) Q) a w) (hc : partOf f n = .seq (partOf f (2 * n)) (partOf f (2 * n + 1)) := by kernel_rfl) : Exit.then ((partOf f n).wp P Q) Q .normal a w := then_n (q_ h hc)
theorem tr_ (l : List Nat) (h : Gops P (opsAt (partOf f n)) Q l a w) (hc : partOf f n = .region (regI (partOf f n)) (opsAt (partOf f n)) false := by kernel_rfl) (hl : List.range (opsAt (partOf f n)).size = l := by kernel_rfl) : Exit.then ((partOf f n).wp P Q) Q .normal a w := then_n (r_ l h hc hl)
theorem tqr_ (l : List Nat) (h : Gops P (opsAt (partOf f (2 * n))) (Exit.then ((partOf f (2 * n + 1)).wp P Q) Q) l a w) (hc : partOf f n = .seq (partOf f (2 * n)) (partOf f (2 * n + 1)) := by kernel_rfl) (hr : partOf f (2 * n) = .region (regI (partOf f (2 * n))) (opsAt (partOf f (2 * n))) false := by kernel_rfl) (hl : List.range (opsAt (partOf f (2 * n))).size = l := by kernel_rfl) : Exit.then ((partOf f n).wp P Q) Q .normal a w := then_n (qr_ l h hc hr hl)
theorem so_ {fn : Func} {R : Ending → World → Prop} (v : Value) (h : R (.returned v) w) (hd : a.defers = [] := by rfl) (hr : (results fn a.tmps).run P w = .ok v w := by kernel_rfl) : bodyPost P fn R .ret a w := sy_out v hd hr h
end
section
variable {P : Program} {Q : Exit → Act → World → Prop} {a : Act} {w : World} {ops : Array Oper} {i : Nat} {rest : List Nat} {S : World → Prop} {fuel : Nat} {l : Array Bool}
def boxX : Op → Operand
  | .box _ x => x
  | _ => .const undef
def stoX : Op → Operand
  | .store _ x _ => x
  | _ => .const undef
def stoY : Op → Operand
  | .store _ _ y => y
  | _ => .const undef
def ldX : Op → Operand
  | .load _ x => x
  | _ => .const undef
def isRow (P : Program) (T : TypeId) : Bool := match P.underlying T with | some d => (match d with | .struct _ | .array _ _ => true | _ => false) | none => false
def notRow (P : Program) (T : TypeId) : Bool := match P.underlying T with | some d => (match d with | .struct _ | .array _ _ => false | _ => true) | none => false
theorem pal (T : TypeId) (c : Array Value) (z : Value) (h : ∀ V g, w.heap.size = g → V.heap[g]? = some (.cells c T (0, 0)) → Keeps Nob w V → Gops P ops Q rest (a.put (ops.getD i default).dst (pT g 0)) V) (h1 : (ops.getD i default).op = .alloc T := by kernel_rfl) (h2 : ∀ W, (zeroValue T).run P W = .ok z W := by intro W; kernel_rfl) (h3 : z.cells = c := by kernel_rfl) (ho : ops[i]? = some (ops.getD i default) := by kernel_rfl) (hg : Region.wanted (ops.getD i default) (yielded ops a.tmps) = true := by kernel_rfl) : Gops P ops Q (i :: rest) a w := by
  obtain ⟨V, eV, g, eg, hh, k⟩ := alloc_step w c T
  refine ps_run _ (pT g 0) (w' := V) ho hg ?_ (h V g eg hh k)
  subst h3; rw [← eV, ← eg]; exact exec_alloc0 T h1 z (h2 w)
theorem pbx (T : TypeId) (c : Array Value) (v : Value) (h : ∀ V g, w.heap.size = g → V.heap[g]? = some (.cells c T (0, 0)) → Keeps Nob w V → Gops P ops Q rest (a.put (ops.getD i default).dst (pT g 0)) V) (h1 : (ops.getD i default).op = .box T (boxX (ops.getD i default).op) := by kernel_rfl) (h2 : a.eval (boxX (ops.getD i default).op) = v := by kernel_rfl) (h3 : v.cells = c := by kernel_rfl) (ho : ops[i]? = some (ops.getD i default) := by kernel_rfl) (hg : Region.wanted (ops.getD i default) (yielded ops a.tmps) = true := by kernel_rfl) : Gops P ops Q (i :: rest) a w := by
  obtain ⟨V, eV, g, eg, hh, k⟩ := alloc_step w c T
  refine ps_run _ (pT g 0) (w' := V) ho hg ?_ (h V g eg hh k)
  subst h3; rw [← eV, ← eg]; exact exec_box T _ h1 v h2
theorem nbx (T : TypeId) (c : Array Value) (v : Value) (h : ∀ V g, w.heap.size = g → V.heap[g]? = some (.cells c T (0, 0)) → Keeps Nob w V → S V ∧ Gany P ops Q S fuel l (a.put (ops.getD i default).dst (pT g 0)) V) (h1 : (ops.getD i default).op = .box T (boxX (ops.getD i default).op) := by kernel_rfl) (h2 : a.eval (boxX (ops.getD i default).op) = v := by kernel_rfl) (h3 : v.cells = c := by kernel_rfl) (ho : ops[i]? = some (ops.getD i default) := by kernel_rfl) (hg : Region.wanted (ops.getD i default) (yielded ops a.tmps) = true := by kernel_rfl) : Gone P ops Q S fuel l i a w := by
  obtain ⟨V, eV, g, eg, hh, k⟩ := alloc_step w c T
  refine on_run _ (pT g 0) (w' := V) ho hg ?_ (h V g eg hh k)
  subst h3; rw [← eV, ← eg]; exact exec_box T _ h1 v h2
theorem pst (T : TypeId) (g : Nat) (c : Array Value) {T' : TypeId} {old : Array Value} (h0 : w.heap[g]? = some (.cells old T' (0, 0))) (hi : (P.info? T).map (·.size) = some c.size) (hold : old.size = c.size) (hone : c.all (·.oneCell') = true) (h : ∀ V, V.heap[g]? = some (.cells c T' (0, 0)) → Keeps (One g) w V → Gops P ops Q rest (a.put (ops.getD i default).dst undef) V) (h1 : (ops.getD i default).op = .store T (stoX (ops.getD i default).op) (stoY (ops.getD i default).op) := by kernel_rfl) (hx : a.eval (stoX (ops.getD i default).op) = pT g 0 := by kernel_rfl) (hy : a.eval (stoY (ops.getD i default).op) = .agg c := by kernel_rfl) (ho : ops[i]? = some (ops.getD i default) := by kernel_rfl) (hg : Region.wanted (ops.getD i default) (yielded ops a.tmps) = true := by kernel_rfl) : Gops P ops Q (i :: rest) a w := by
  obtain ⟨V, eV, k⟩ := rowset_step w g c
  refine ps_skip _ (w' := V) ho hg ?_ (h V (eV ▸ setRow_heap _ _ _ _ _ _ h0) k)
  rw [← eV]; exact exec_store_row T _ _ h1 g c hx hy T' old h0 hi hold hone
theorem nst (T : TypeId) (g : Nat) (c : Array Value) {T' : TypeId} {old : Array Value} (h0 : w.heap[g]? = some (.cells old T' (0, 0))) (hi : (P.info? T).map (·.size) = some c.size) (hold : old.size = c.size) (hone : c.all (·.oneCell') = true) (h : ∀ V, V.heap[g]? = some (.cells c T' (0, 0)) → Keeps (One g) w V → S V ∧ Gany P ops Q S fuel l (a.put (ops.getD i default).dst undef) V) (h1 : (ops.getD i default).op = .store T (stoX (ops.getD i default).op) (stoY (ops.getD i default).op) := by kernel_rfl) (hx : a.eval (stoX (ops.getD i default).op) = pT g 0 := by kernel_rfl) (hy : a.eval (stoY (ops.getD i default).op) = .agg c := by kernel_rfl) (ho : ops[i]? = some (ops.getD i default) := by kernel_rfl) (hg : Region.wanted (ops.getD i default) (yielded ops a.tmps) = true := by kernel_rfl) : Gone P ops Q S fuel l i a w := by
  obtain ⟨V, eV, k⟩ := rowset_step w g c
  refine on_skip _ (w' := V) ho hg ?_ (h V (eV ▸ setRow_heap _ _ _ _ _ _ h0) k)
  rw [← eV]; exact exec_store_row T _ _ h1 g c hx hy T' old h0 hi hold hone
theorem pce (T : TypeId) (g k : Nat) (v : Value) (new : Array Value) {T' : TypeId} {old : Array Value} {u : Value} (h0 : w.heap[g]? = some (.cells old T' (0, 0))) (hu : w.cell? ⟨g, k, none⟩ = some u) (hup : old.setIfInBounds k v = new) (h : ∀ V, V.heap[g]? = some (.cells new T' (0, 0)) → Keeps (One g) w V → Gops P ops Q rest (a.put (ops.getD i default).dst undef) V) (h1 : (ops.getD i default).op = .store T (stoX (ops.getD i default).op) (stoY (ops.getD i default).op) := by kernel_rfl) (hx : a.eval (stoX (ops.getD i default).op) = pT g k := by kernel_rfl) (hy : a.eval (stoY (ops.getD i default).op) = v := by kernel_rfl) (hs : (P.info? T).map (·.size) = some 1 := by kernel_rfl) (hv : v.cells = #[v] := by kernel_rfl) (hone : v.oneCell' = true := by kernel_rfl) (ho : ops[i]? = some (ops.getD i default) := by kernel_rfl) (hg : Region.wanted (ops.getD i default) (yielded ops a.tmps) = true := by kernel_rfl) : Gops P ops Q (i :: rest) a w := by
  obtain ⟨V, eV, kk⟩ := cell_step w g k v
  refine ps_skip _ (w' := V) ho hg ?_ (h V (eV ▸ ((heap_setCell_same _ g k _ _ v h0).trans (congrArg (fun c => some (Obj.cells c T' (0, 0))) hup))) kk)
  rw [← eV]; exact exec_store_cell T _ _ h1 g k hx v hy hs hv u hu (frozen_of_row _ _ _ _ _ h0) hone
theorem ldr {o : Oper} {ρ : Operand → Value} {W : World} (T : TypeId) (g : Nat) {T' : TypeId} {cs : Array Value} (h0 : W.heap[g]? = some (.cells cs T' (0, 0))) (hi : (P.info? T).map (·.size) = some cs.size) (h1 : o.op = .load T (ldX o.op) := by kernel_rfl) (hx : ρ (ldX o.op) = pT g 0 := by kernel_rfl) (hd : isRow P T = true := by kernel_rfl) : (execOp ρ o).run P W = .ok (.value (.agg cs)) W := by
  unfold isRow at hd
  cases hu : P.underlying T with
  | none => rw [hu] at hd; cases hd
  | some d => rw [hu] at hd; exact exec_load_row T _ h1 g hx _ _ (0, 0) d h0 hu (by cases d <;> exact hd) hi
theorem ldc {o : Oper} {ρ : Operand → Value} {W : World} (T : TypeId) (g k : Nat) {v : Value} (hc : W.cell? ⟨g, k, none⟩ = some v) (h1 : o.op = .load T (ldX o.op) := by kernel_rfl) (hx : ρ (ldX o.op) = pT g k := by kernel_rfl) (hd : notRow P T = true := by kernel_rfl) : (execOp ρ o).run P W = .ok (.value v) W := by
  unfold notRow at hd
  cases hu : P.underlying T with
  | none => rw [hu] at hd; cases hd
  | some d => rw [hu] at hd; exact exec_load_cell T _ h1 _ hx d v hu (by cases d <;> exact hd) hc
theorem ldk {o : Oper} {ρ : Operand → Value} {W : World} (T : TypeId) (g k : Nat) {v : Value} {cs : Array Value} {T' : TypeId} (h0 : W.heap[g]? = some (.cells cs T' (0, 0))) (hc : cs[k]? = some v := by kernel_rfl) (h1 : o.op = .load T (ldX o.op) := by kernel_rfl) (hx : ρ (ldX o.op) = pT g k := by kernel_rfl) (hd : notRow P T = true := by kernel_rfl) : (execOp ρ o).run P W = .ok (.value v) W := ldc T g k (rc h0 hc) h1 hx hd
theorem _root_.Go.Own.Keeps.bO {g j : Nat} {W W' : World} (k : Keeps (One j) W W') {x : Obj} (h : W.heap[g]? = some x) (hne : g ≠ j := by omega) : W'.heap[g]? = some x := k.bo h hne
theorem _root_.Go.Own.Keeps.nO {M : Nat → Prop} {g : Nat} {w V V' : World} (K : Keeps M w V) (k : Keeps (One g) V V') (h : w.heap.size ≤ g := by omega) : Keeps M w V' := K.no k h
end
end Go.Own
namespace Go.Own
set_option maxRecDepth 100000
set_option maxHeartbeats 4000000
open Go Go.RowKit
/-- Blocks outside M are as they were, but for blocks from B on that hold no cells (a loop's book-keeping). -/
structure Turn (B : Nat) (M : Nat → Prop) (W W' : World) : Prop where
  os : W'.os = W.os
  tape : W'.tape = W.tape
  output : W'.output = W.output
  size : W.heap.size ≤ W'.heap.size
  same : ∀ (k : Nat) (o : Obj), W.heap[k]? = some o → ¬ M k → (k < B ∨ o.isCells = true) → W'.heap[k]? = some o
theorem Keeps.turn {M : Nat → Prop} {W W' : World} (h : Keeps M W W') (B : Nat) : Turn B M W W' :=
  ⟨h.os, h.tape, h.output, h.size, fun k o hk hm _ => (h.block k (Array.getElem?_eq_some_iff.1 hk).1 hm).trans hk⟩
theorem Turn.put {B : Nat} {M : Nat → Prop} (W : World) (l : Nat) (o o' : Obj) (hl : B ≤ l) (h : W.heap[l]? = some o) (ho : o.isCells = false) : Turn B M W (W.putObj l o') :=
  ⟨rfl, rfl, rfl, (grownBy_putObj' W l o').size, fun k p hk _ hp => by
    refine (World.putObj_heap_other (fun e => ?_)).trans hk
    subst e
    rw [h] at hk; cases hk
    rcases hp with hp | hp
    · omega
    · rw [ho] at hp; cases hp⟩
theorem Turn.cell {B : Nat} {M : Nat → Prop} {W W' : World} (h : Turn B M W W') {k i : Nat} {v : Value} (hc : W.cell? ⟨k, i, none⟩ = some v) (hm : ¬ M k) : W'.cell? ⟨k, i, none⟩ = some v := by
  obtain ⟨o, ho, hcells⟩ := cells_of_cell hc
  exact (World.cell?_of_block (w := W) ((h.same _ o ho hm (.inr hcells)).trans ho.symm)).trans hc
theorem Turn.frozen {B : Nat} {M : Nat → Prop} {W W' : World} (h : Turn B M W W') {k i : Nat} {v : Value} (hc : W.cell? ⟨k, i, none⟩ = some v) (hm : ¬ M k) : W'.frozen? ⟨k, i, none⟩ = W.frozen? ⟨k, i, none⟩ := by
  obtain ⟨o, ho, hcells⟩ := cells_of_cell hc
  exact World.frozen?_of_block (w := W) ((h.same _ o ho hm (.inr hcells)).trans ho.symm)
theorem Turn.keeps {B : Nat} {M : Nat → Prop} {W0 W W' : World} (h : Turn B M W W') (k : Keeps M W0 W) (hB : W0.heap.size ≤ B) : Keeps M W0 W' :=
  ⟨h.os.trans k.os, h.tape.trans k.tape, h.output.trans k.output, Nat.le_trans k.size h.size, fun i hi hm => by
    have h1 := k.block i hi hm
    cases ho : W0.heap[i]? with
    | none => have := Array.getElem?_eq_none_iff.1 ho; omega
    | some o => exact h.same i o (h1.trans ho) hm (.inl (by omega))⟩
theorem Turn.weak {B : Nat} {M M' : Nat → Prop} {W W' : World} (h : Turn B M W W') (hm : ∀ k, M k → M' k) : Turn B M' W W' := ⟨h.os, h.tape, h.output, h.size, fun k o hk hn => h.same k o hk (fun x => hn (hm k x))⟩
theorem Turn.keepsN {B : Nat} {M : Nat → Prop} {W0 W W' : World} (h : Turn B Nob W W') (k : Keeps M W0 W) (hB : W0.heap.size ≤ B) : Keeps M W0 W' := (h.weak (M' := M) (fun _ x => x.elim)).keeps k hB
theorem Keeps.from {M : Nat → Prop} {W W' : World} (h : Keeps M W W') {B : Nat} (hm : ∀ k, M k → k < B) : KeepsFrom B W W' :=
  ⟨h.size, fun k o hB hk _ => (h.block k (Array.getElem?_eq_some_iff.1 hk).1 (fun x => by have := hm k x; omega)).trans hk⟩
/-- The contract of an iterator's value: at each round k the element xs[k] is handed on; the iterator's own state ahead of round k: 'S k'; the blocks of it that it turns: 'Mi'. -/
def SeqOwn {α : Type} (F : Fence) (n : Nat) (P : Program) (g : Nat) (lb : Array Value) (encs : α → Array Value) (xs : List α) (Mi : Nat → Prop) (S : Nat → World → Prop) : Prop :=
  ∀ (l : Nat) (J : Nat → World → Prop) (Jx : World → Prop) (W : World),
    (∀ k A B, J k A → Keeps Mi A B → J k B) → (∀ A B, Jx A → Keeps Mi A B → Jx B) →
    (∀ k x W1, xs[k]? = some x → J k W1 → S k W1 → YieldAt F (n - 1) P l (encs x) W1 fun e W' =>
      (e = .returned (.bool true) ∧ J (k + 1) W' ∧ S k W') ∨ (e = .returned (.bool false) ∧ Jx W')) →
    J 0 W → S 0 W →
    CallsIn F n P g (#[.func (.yield l) #[] #[]] ++ lb) W fun e W' => (∃ v, e = .returned v) ∧ (J xs.length W' ∨ Jx W')
/-- The same, where the caller may know (E) that it leaves before the last element's round is over: an iterator without an end. -/
def SeqOwnG {α : Type} (E : Prop) (F : Fence) (n : Nat) (P : Program) (g : Nat) (lb : Array Value) (encs : α → Array Value) (xs : List α) (Mi : Nat → Prop) (S : Nat → World → Prop) : Prop :=
  ∀ (l : Nat) (J : Nat → World → Prop) (Jx : World → Prop) (W : World),
    (∀ k A B, J k A → Keeps Mi A B → J k B) → (∀ A B, Jx A → Keeps Mi A B → Jx B) →
    (∀ k x W1, xs[k]? = some x → J k W1 → S k W1 → YieldAt F (n - 1) P l (encs x) W1 fun e W' =>
      (e = .returned (.bool true) ∧ J (k + 1) W' ∧ S k W') ∨ (e = .returned (.bool false) ∧ Jx W')) → (E → ∀ W, ¬ J xs.length W) →
    J 0 W → S 0 W →
    CallsIn F n P g (#[.func (.yield l) #[] #[]] ++ lb) W fun e W' => (∃ v, e = .returned v) ∧ (J xs.length W' ∨ Jx W')
/-- How the body of a round may be left. -/
def rangeEnd (B : Nat) (In : World → Prop) (Ix : Code → World → Prop) (W : World) : Exit → Act → World → Prop
  | .normal, _, W' => KeepsFrom B W W' ∧ In W'
  | .ret, _, W' => KeepsFrom B W W' ∧ Ix .ret W'
  | .exit id, _, W' => KeepsFrom B W W' ∧ Ix (.exit id) W'
  | .goto t, _, W' => KeepsFrom B W W' ∧ Ix (.goto t) W'
  | .panic _, _, _ => False
  | .outgrown, _, _ => False
variable {F : Fence} {n : Nat} {P : Program}
theorem own_rangeG {α : Type} (E : Prop) {g : Operand} {ps : Array Tmp} {assign body : Code} {Q : Exit → Act → World → Prop} {a : Act} {w : World}
    (hro : F.round = none) (h1 : 1 ≤ n) {gf : Nat} {lb : Array Value} (hg : a.eval g = .func (.func gf) #[] lb) (hFg : F.fn gf) (eg : ∀ args w, (callFunc gf args).run P w = .ok (.enter gf args) w)
    {encs : α → Array Value} (hps : ∀ x, (encs x).size = ps.size) {xs : List α} {Mi : Nat → Prop} {S : Nat → World → Prop} (hMi : ∀ j, Mi j → j < w.heap.size)
    (hseq : SeqOwnG E F (n - 1) P gf lb encs xs Mi S) (hS : ∀ k A B, S k A → Turn w.heap.size Nob A B → S k B) (hS0 : S 0 w)
    (I : Nat → World → Prop) (Ix : Code → World → Prop) (hI : ∀ k A B, I k A → Turn w.heap.size Mi A B → I k B) (hIx : ∀ c A B, Ix c A → Turn w.heap.size Mi A B → Ix c B) (h0 : I 0 w) (hE : E → ∀ W, ¬ I xs.length W)
    (Ax : Nat → α → Act → World → Prop) (hAx : ∀ k x a' A B, Ax k x a' A → Turn w.heap.size Nob A B → Ax k x a' B)
    (hassign : ∀ (l k : Nat) (x : α) (W : World) (K : Act → World → Prop), xs[k]? = some x → I k W → S k W → (∀ a' W', KeepsFrom w.heap.size W W' → I k W' → S k W' → Ax k x a' W' → K a' W') →
      assign.wpIn (F.inRound l) (n - 1 - 1) P (Exit.then K (fun _ _ _ => False)) { tmps := (ps.zip (encs x)).foldl (fun t (p, v) => t.setIfInBounds p v) a.tmps, defers := [] } W)
    (hbody : ∀ (l k : Nat) (x : α) (a' : Act) (W : World), w.heap.size ≤ l → (∃ r, W.heap[l]? = some (.loop r)) → xs[k]? = some x → I k W → S k W → Ax k x a' W →
      body.wpIn (F.inRound l) (n - 1 - 1) P (rangeEnd w.heap.size (fun W' => I (k + 1) W' ∧ S k W') Ix W) a' W)
    (hdone : ∀ (D : Nat) (W : World), w.heap.size ≤ D → I xs.length W → W.heap[D]? = some (.deferred (some [])) → Q .normal { a with defers := { target := .collected D, args := #[] } :: a.defers } W)
    (hstop : ∀ (D : Nat) (c : Code) (W : World), w.heap.size ≤ D → Ix c W → W.heap[D]? = some (.deferred (some [])) → c.wpIn F n P Q { a with defers := { target := .collected D, args := #[] } :: a.defers } W) :
    (Code.rangeFunc g ps assign body).wpIn F n P Q a w := by
  refine wpIn_rangeFunc ?_
  intro fn hfn
  rw [hro]
  obtain ⟨rec, hrec⟩ : ∃ rec : LoopState → Option Code → Loop, rec = fun st pe => { state := st, pending := pe, fn, tmps := a.tmps, params := ps, assign, body, defers := w.heap.size } := ⟨_, rfl⟩
  obtain ⟨W1, hW1⟩ : ∃ W1, (w.alloc (.deferred (some []))).alloc (.loop (rec .ready none)) = W1 := ⟨_, rfl⟩
  have hL1 : W1.heap[w.heap.size + 1]? = some (.loop (rec .ready none)) := by
    rw [← hW1]; have := World.alloc_heap_new (w.alloc (.deferred (some []))) (.loop (rec .ready none)); rwa [World.size_alloc] at this
  have hK1 : W1.heap[w.heap.size]? = some (.deferred (some [])) := by
    rw [← hW1]; exact (Below.heap_alloc _ _ _ (by simp)).trans (World.alloc_heap_new w _)
  have hT1 : ∀ M, Turn w.heap.size M w W1 := fun M => by rw [← hW1]; exact (((Keeps.refl M w).alloc _).alloc _).turn _
  have hI1 : I 0 W1 := hI _ _ _ h0 (hT1 _)
  have hS1 : S 0 W1 := hS _ _ _ hS0 (hT1 _)
  refine ⟨w.heap.size + 1, [{ target := .collected w.heap.size, args := #[] }], W1, { target := .fn (.func gf) lb, args := #[.func (.yield (w.heap.size + 1)) #[] #[]] }, W1, gf,
    #[.func (.yield (w.heap.size + 1)) #[] #[]] ++ lb, W1, ?_, ?_, ?_, ?_, fun _ => h1, ?_⟩
  · rw [← hW1, hrec]; exact run_enterLoop_outer _ _ _ _ _
  · simp only [resolve, hg]
    simp [go_sem]
  · intro f' hf'; simp [Target.leads] at hf'; subst hf'; exact hFg
  · simp [invoke, go_sem, eg]
  · have hkeep : ∀ {A B : World} {k : Nat} {o : Obj}, w.heap.size ≤ k → Keeps Mi A B → A.heap[k]? = some o → B.heap[k]? = some o := fun hk hAB ho =>
      (hAB.block _ (Array.getElem?_eq_some_iff.1 ho).1 (fun hm => by have := hMi _ hm; omega)).trans ho
    refine (hseq (w.heap.size + 1)
      (fun k W => I k W ∧ W.heap[w.heap.size + 1]? = some (.loop (rec .ready none)) ∧ W.heap[w.heap.size]? = some (.deferred (some [])))
      (fun W => ∃ c, Ix c W ∧ W.heap[w.heap.size + 1]? = some (.loop (rec .done (some c))) ∧ W.heap[w.heap.size]? = some (.deferred (some [])))
      W1
      (fun k A B hs hAB => ⟨hI k A B hs.1 (hAB.turn _), hkeep (by omega) hAB hs.2.1, hkeep (by omega) hAB hs.2.2⟩)
      (fun A B hs hAB => by
        obtain ⟨c, hc, hl, hk⟩ := hs
        exact ⟨c, hIx c A B hc (hAB.turn _), hkeep (by omega) hAB hl, hkeep (by omega) hAB hk⟩)
      ?_ (fun e W h => hE e W h.1) ⟨hI1, hL1, hK1⟩ hS1).mono ?_
    · -- one round
      rintro k x W hx ⟨hi, hl, hk⟩ hs
      have hlt : w.heap.size + 1 < W.heap.size := (Array.getElem?_eq_some_iff.1 hl).1
      have hy := run_yield (P := P) (args := encs x) hl (by rw [hrec]; exact hps x)
      rw [hrec] at hy
      refine ⟨fn, _, assign, body, hy, roundIn_of_wpIn hfn (hassign _ k x W _ hx hi hs ?_)⟩
      clear hy
      intro a' Wa hkfa hia hsa hax
      replace hl := hkfa.same _ _ (by omega) hl rfl
      replace hk := hkfa.same _ _ (Nat.le_refl _) hk rfl
      replace hlt : w.heap.size + 1 < Wa.heap.size := (Array.getElem?_eq_some_iff.1 hl).1
      replace hi := hia
      replace hs := hsa
      clear hia hsa
      clear hkfa
      obtain ⟨W, rfl⟩ : ∃ W, W = Wa := ⟨_, rfl⟩
      refine ⟨_, run_beginRound hl (by rw [hrec]), ?_⟩
      have hl2 : (W.putObj (w.heap.size + 1) (.loop { rec .ready none with state := .busy })).heap[w.heap.size + 1]? = some (.loop { rec .ready none with state := .busy }) := World.putObj_heap_same hlt
      have hk2 : (W.putObj (w.heap.size + 1) (.loop { rec .ready none with state := .busy })).heap[w.heap.size]? = some (.deferred (some [])) := (World.putObj_heap_other (by omega)).trans hk
      have ht2 : ∀ M, Turn w.heap.size M W (W.putObj (w.heap.size + 1) (.loop { rec .ready none with state := .busy })) := fun M => Turn.put _ _ _ _ (by omega) hl rfl
      refine wpIn_mono (hbody _ k x a' _ (by omega) ⟨_, hl2⟩ hx (hI _ _ _ hi (ht2 _)) (hS _ _ _ hs (ht2 _)) (hAx _ _ _ _ _ hax (ht2 _))) ?_
      have fin : ∀ (jump : Option Code) (W3 : World), KeepsFrom w.heap.size (W.putObj (w.heap.size + 1) (.loop { rec .ready none with state := .busy })) W3 →
          (Instr.endRound (w.heap.size + 1) jump).run P W3 = .ok (.bool jump.isNone) (W3.putObj (w.heap.size + 1) (.loop (rec (if jump.isNone then .ready else .done) jump))) ∧
          W3.heap[w.heap.size + 1]? = some (.loop { rec .ready none with state := .busy }) ∧
          (W3.putObj (w.heap.size + 1) (.loop (rec (if jump.isNone then .ready else .done) jump))).heap[w.heap.size + 1]? = some (.loop (rec (if jump.isNone then .ready else .done) jump)) ∧
          (W3.putObj (w.heap.size + 1) (.loop (rec (if jump.isNone then .ready else .done) jump))).heap[w.heap.size]? = some (.deferred (some [])) := fun jump W3 hk3 => by
        have hl3 := hk3.same _ _ (by omega) hl2 rfl
        have := run_endRound (P := P) jump hl3
        rw [hrec] at this ⊢
        exact ⟨this, by rw [hrec] at hl3; exact hl3, World.putObj_heap_same (Array.getElem?_eq_some_iff.1 hl3).1, (World.putObj_heap_other (by omega)).trans (hk3.same _ _ (Nat.le_refl _) hk2 rfl)⟩
      rintro e a3 W3 hp
      cases e with
      | normal =>
        obtain ⟨hk3, hi3, hs3⟩ := hp
        obtain ⟨hr, hl3, hl4, hk4⟩ := fin none W3 hk3
        exact ⟨_, _, hr, .inl ⟨rfl, ⟨hI _ _ _ hi3 (Turn.put _ _ _ _ (by omega) hl3 rfl), hl4, hk4⟩, hS _ _ _ hs3 (Turn.put _ _ _ _ (by omega) hl3 rfl)⟩⟩
      | ret =>
        obtain ⟨hk3, hi3⟩ := hp
        obtain ⟨hr, hl3, hl4, hk4⟩ := fin (some .ret) W3 hk3
        exact ⟨_, _, hr, .inr ⟨rfl, .ret, hIx _ _ _ hi3 (Turn.put _ _ _ _ (by omega) hl3 rfl), hl4, hk4⟩⟩
      | exit id =>
        obtain ⟨hk3, hi3⟩ := hp
        obtain ⟨hr, hl3, hl4, hk4⟩ := fin (some (.exit id)) W3 hk3
        exact ⟨_, _, hr, .inr ⟨rfl, .exit id, hIx _ _ _ hi3 (Turn.put _ _ _ _ (by omega) hl3 rfl), hl4, hk4⟩⟩
      | goto t =>
        obtain ⟨hk3, hi3⟩ := hp
        obtain ⟨hr, hl3, hl4, hk4⟩ := fin (some (.goto t)) W3 hk3
        exact ⟨_, _, hr, .inr ⟨rfl, .goto t, hIx _ _ _ hi3 (Turn.put _ _ _ _ (by omega) hl3 rfl), hl4, hk4⟩⟩
      | panic ch => exact hp.elim
      | outgrown => exact hp.elim
    · -- behind the iterator
      rintro e W2 ⟨⟨v, rfl⟩, (⟨hi, hl, hk⟩ | ⟨c, hi, hl, hk⟩)⟩
      · exact ⟨none, _, by have := run_endLoop (P := P) hl (by rw [hrec]; simp); rw [hrec] at this; exact this, hdone _ _ (Nat.le_refl _) (hI _ _ _ hi (Turn.put _ _ _ _ (by omega) hl rfl)) ((World.putObj_heap_other (by omega)).trans hk)⟩
      · exact ⟨some c, _, by have := run_endLoop (P := P) hl (by rw [hrec]; simp); rw [hrec] at this; exact this, hstop _ c _ (Nat.le_refl _) (hIx _ _ _ hi (Turn.put _ _ _ _ (by omega) hl rfl)) ((World.putObj_heap_other (by omega)).trans hk)⟩
theorem own_range {α : Type} {g : Operand} {ps : Array Tmp} {assign body : Code} {Q : Exit → Act → World → Prop} {a : Act} {w : World}
    (hro : F.round = none) (h1 : 1 ≤ n) {gf : Nat} {lb : Array Value} (hg : a.eval g = .func (.func gf) #[] lb) (hFg : F.fn gf) (eg : ∀ args w, (callFunc gf args).run P w = .ok (.enter gf args) w)
    {encs : α → Array Value} (hps : ∀ x, (encs x).size = ps.size) {xs : List α} {Mi : Nat → Prop} {S : Nat → World → Prop} (hMi : ∀ j, Mi j → j < w.heap.size)
    (hseq : SeqOwn F (n - 1) P gf lb encs xs Mi S) (hS : ∀ k A B, S k A → Turn w.heap.size Nob A B → S k B) (hS0 : S 0 w)
    (I : Nat → World → Prop) (Ix : Code → World → Prop) (hI : ∀ k A B, I k A → Turn w.heap.size Mi A B → I k B) (hIx : ∀ c A B, Ix c A → Turn w.heap.size Mi A B → Ix c B) (h0 : I 0 w)
    (Ax : Nat → α → Act → World → Prop) (hAx : ∀ k x a' A B, Ax k x a' A → Turn w.heap.size Nob A B → Ax k x a' B)
    (hassign : ∀ (l k : Nat) (x : α) (W : World) (K : Act → World → Prop), xs[k]? = some x → I k W → S k W → (∀ a' W', KeepsFrom w.heap.size W W' → I k W' → S k W' → Ax k x a' W' → K a' W') →
      assign.wpIn (F.inRound l) (n - 1 - 1) P (Exit.then K (fun _ _ _ => False)) { tmps := (ps.zip (encs x)).foldl (fun t (p, v) => t.setIfInBounds p v) a.tmps, defers := [] } W)
    (hbody : ∀ (l k : Nat) (x : α) (a' : Act) (W : World), w.heap.size ≤ l → (∃ r, W.heap[l]? = some (.loop r)) → xs[k]? = some x → I k W → S k W → Ax k x a' W →
      body.wpIn (F.inRound l) (n - 1 - 1) P (rangeEnd w.heap.size (fun W' => I (k + 1) W' ∧ S k W') Ix W) a' W)
    (hdone : ∀ (D : Nat) (W : World), w.heap.size ≤ D → I xs.length W → W.heap[D]? = some (.deferred (some [])) → Q .normal { a with defers := { target := .collected D, args := #[] } :: a.defers } W)
    (hstop : ∀ (D : Nat) (c : Code) (W : World), w.heap.size ≤ D → Ix c W → W.heap[D]? = some (.deferred (some [])) → c.wpIn F n P Q { a with defers := { target := .collected D, args := #[] } :: a.defers } W) :
    (Code.rangeFunc g ps assign body).wpIn F n P Q a w :=
  own_rangeG False hro h1 hg hFg eg hps hMi (fun l J Jx W a b c _ => hseq l J Jx W a b c) hS hS0 I Ix hI hIx h0 (fun h => h.elim) Ax hAx hassign hbody hdone hstop
end Go.Own
namespace Go.Own
set_option maxRecDepth 100000
set_option maxHeartbeats 4000000
open Go Go.RowKit
variable {P : Program} {ops : Array Oper} {md : Region.Mode} {C : World → Prop} {l n : Nat}
def noDefer (ops : Array Oper) : Bool := ops.all fun o => match o.op with | .defer _ => false | _ => true
/-- A function that holds a range over a function, entered by the plain walk. -/
theorem calls_marks (n : Nat) {f : FuncId} {fn : Func} {c : Code} {args : Array Value} {w : World} {R : Ending → World → Prop} (hf : P.funcs[f]? = some fn) (hb : fn.body = some c)
    (h : c.wp P (bodyPostM Fence.wide n P fn R) { tmps := args ++ Array.replicate (fn.ntmps - args.size) undef, defers := [] } w) : Calls P f args w R :=
  (callsIn_wide (n := n)).1 (callsIn_of_wp_marks hf hb trivial (wpIn_wide.2 h))
/-- The range over a function, in a plain walk. -/
theorem wp_range {α : Type} (n : Nat) {g : Operand} {ps : Array Tmp} {assign body : Code} {Q : Exit → Act → World → Prop} {a : Act} {w : World}
    {gf : Nat} {lb : Array Value} (hg : a.eval g = .func (.func gf) #[] lb) (eg : ∀ args w, (callFunc gf args).run P w = .ok (.enter gf args) w)
    {encs : α → Array Value} (hps : ∀ x, (encs x).size = ps.size) {xs : List α} {Mi : Nat → Prop} {S : Nat → World → Prop} (hMi : ∀ j, Mi j → j < w.heap.size)
    (hseq : SeqOwn Fence.wide (n + 2) P gf lb encs xs Mi S) (hS : ∀ k A B, S k A → Turn w.heap.size Nob A B → S k B) (hS0 : S 0 w)
    (I : Nat → World → Prop) (Ix : Code → World → Prop) (hI : ∀ k A B, I k A → Turn w.heap.size Mi A B → I k B) (hIx : ∀ c A B, Ix c A → Turn w.heap.size Mi A B → Ix c B) (h0 : I 0 w)
    (Ax : Nat → α → Act → World → Prop) (hAx : ∀ k x a' A B, Ax k x a' A → Turn w.heap.size Nob A B → Ax k x a' B)
    (hassign : ∀ (l k : Nat) (x : α) (W : World) (K : Act → World → Prop), xs[k]? = some x → I k W → S k W → (∀ a' W', KeepsFrom w.heap.size W W' → I k W' → S k W' → Ax k x a' W' → K a' W') →
      assign.wpIn (Fence.wide.inRound l) (n + 1) P (Exit.then K (fun _ _ _ => False)) { tmps := (ps.zip (encs x)).foldl (fun t (p, v) => t.setIfInBounds p v) a.tmps, defers := [] } W)
    (hbody : ∀ (l k : Nat) (x : α) (a' : Act) (W : World), w.heap.size ≤ l → (∃ r, W.heap[l]? = some (.loop r)) → xs[k]? = some x → I k W → S k W → Ax k x a' W →
      body.wpIn (Fence.wide.inRound l) (n + 1) P (rangeEnd w.heap.size (fun W' => I (k + 1) W' ∧ S k W') Ix W) a' W)
    (hdone : ∀ (D : Nat) (W : World), w.heap.size ≤ D → I xs.length W → W.heap[D]? = some (.deferred (some [])) → Q .normal { a with defers := { target := .collected D, args := #[] } :: a.defers } W)
    (hstop : ∀ (D : Nat) (c : Code) (W : World), w.heap.size ≤ D → Ix c W → W.heap[D]? = some (.deferred (some [])) → c.wp P Q { a with defers := { target := .collected D, args := #[] } :: a.defers } W) :
    (Code.rangeFunc g ps assign body).wp P Q a w :=
  (wpIn_wide (n := n + 3)).1 (own_range (F := Fence.wide) rfl (by omega) hg trivial eg hps hMi hseq hS hS0 I Ix hI hIx h0 Ax hAx hassign hbody hdone (fun D c W h1 h2 h3 => wpIn_wide.2 (hstop D c W h1 h2 h3)))
/-- The same, where the loop's variable lies in a temporary: 'f x' is the frame behind the assignment. -/
theorem wp_range1 {α : Type} (n : Nat) {g : Operand} {ps : Array Tmp} {assign body : Code} {Q : Exit → Act → World → Prop} {a : Act} {w : World}
    {gf : Nat} {lb : Array Value} (hg : a.eval g = .func (.func gf) #[] lb) (eg : ∀ args w, (callFunc gf args).run P w = .ok (.enter gf args) w)
    {encs : α → Array Value} (hps : ∀ x, (encs x).size = ps.size) {xs : List α} {Mi : Nat → Prop} {S : Nat → World → Prop} (hMi : ∀ j, Mi j → j < w.heap.size)
    (hseq : SeqOwn Fence.wide (n + 2) P gf lb encs xs Mi S) (hS : ∀ k A B, S k A → Turn w.heap.size Nob A B → S k B) (hS0 : S 0 w)
    (I : Nat → World → Prop) (Ix : Code → World → Prop) (hI : ∀ k A B, I k A → Turn w.heap.size Mi A B → I k B) (hIx : ∀ c A B, Ix c A → Turn w.heap.size Mi A B → Ix c B) (h0 : I 0 w)
    (f : α → Act)
    (hassign : ∀ (l k : Nat) (x : α) (W : World) (K : Act → World → Prop), xs[k]? = some x → I k W → S k W → K (f x) W →
      assign.wpIn (Fence.wide.inRound l) (n + 1) P (Exit.then K (fun _ _ _ => False)) { tmps := (ps.zip (encs x)).foldl (fun t (p, v) => t.setIfInBounds p v) a.tmps, defers := [] } W)
    (hbody : ∀ (l k : Nat) (x : α) (W : World), w.heap.size ≤ l → (∃ r, W.heap[l]? = some (.loop r)) → xs[k]? = some x → I k W → S k W →
      body.wpIn (Fence.wide.inRound l) (n + 1) P (rangeEnd w.heap.size (fun W' => I (k + 1) W' ∧ S k W') Ix W) (f x) W)
    (hdone : ∀ (D : Nat) (W : World), w.heap.size ≤ D → I xs.length W → W.heap[D]? = some (.deferred (some [])) → Q .normal { a with defers := { target := .collected D, args := #[] } :: a.defers } W)
    (hstop : ∀ (D : Nat) (c : Code) (W : World), w.heap.size ≤ D → Ix c W → W.heap[D]? = some (.deferred (some [])) → c.wp P Q { a with defers := { target := .collected D, args := #[] } :: a.defers } W) :
    (Code.rangeFunc g ps assign body).wp P Q a w :=
  wp_range n hg eg hps hMi hseq hS hS0 I Ix hI hIx h0 (fun _ x a' _ => a' = f x) (fun _ _ _ _ _ h _ => h)
    (fun l k x W K hx hi hs hK => hassign l k x W K hx hi hs (hK _ _ (KeepsFrom.refl _ _) hi hs rfl)) (fun l k x a' W hl hr hx hi hs ha => by subst ha; exact hbody l k x W hl hr hx hi hs) hdone hstop
/-- The end of such a function: one result in a temporary or a cell, the world behind it. -/
theorem marks_ret {fn : Func} {R : Ending → World → Prop} {n D : Nat} {t : Array Value} {v : Value} {W : World} (hD : W.heap[D]? = some (.deferred (some [])))
    (hres : (results fn t).run P (W.putObj D (.deferred none)) = .ok v (W.putObj D (.deferred none))) (h : R (.returned v) (W.putObj D (.deferred none))) :
    bodyPostM Fence.wide n P fn R .ret { tmps := t, defers := [{ target := .collected D, args := #[] }] } W :=
  ⟨by simp, .inl ⟨_, _, rfl, run_takeDeferred hD, ⟨_, hres, h⟩⟩⟩
theorem marks_normal {fn : Func} {R : Ending → World → Prop} {n D : Nat} {t : Array Value} {v : Value} {W : World} (hD : W.heap[D]? = some (.deferred (some [])))
    (hres : (results fn t).run P (W.putObj D (.deferred none)) = .ok v (W.putObj D (.deferred none))) (h : R (.returned v) (W.putObj D (.deferred none))) :
    bodyPostM Fence.wide n P fn R .normal { tmps := t, defers := [{ target := .collected D, args := #[] }] } W :=
  ⟨by simp, .inl ⟨_, _, rfl, run_takeDeferred hD, ⟨_, hres, h⟩⟩⟩
/-- What an append to an own row leaves of all that is no cells. -/
theorem Row.others {w w' : World} {e : TypeId} {size n : Nat} {v : Value} {xs : List Value} (h : Row w e size v n xs) (hg : w.grownBy w' v.ownBlock) : KeepsOthers w w' :=
  KeepsOthers.of_grownBy hg fun j o hj ho => by
    obtain ⟨cs, hc⟩ := h.elem hj
    rw [ho] at hc
    simp only [Option.some.injEq] at hc
    rw [hc]; rfl
end Go.Own
namespace Go.Own
set_option maxRecDepth 100000
set_option maxHeartbeats 4000000
open Go Go.RowKit Go.Shelf
section
variable {P : Program} {ops : Array Oper} {Q : Exit → Act → World → Prop} {md : Region.Mode} {l n : Nat}
theorem wpIn_of_wpOper {o : Oper} {a : Act} {w : World} {K K' : Act → World → Prop} (hd : ∀ c, o.op ≠ .defer c) (hL : ¬ LetsOut Q) (h : ∀ a w, K a w → K' a w) (hh : o.wp P a w K Q) : o.wpIn (Fence.wide.inRound l) n P a w K' Q := by
  unfold Oper.wp at hh
  unfold Oper.wpIn
  refine ⟨fun _ _ => trivial, ?_⟩
  rw [Oper.semAt_eq _ _ _ hd]
  generalize (execOp a.eval o).run P w = r at *
  cases r with
  | ok x w' =>
    cases x <;> simp only [Oper.upon] at hh <;> simp only [Oper.uponIn]
    case value u => exact h _ _ hh
    case skip => exact h _ _ hh
    case defer d => exact h _ _ hh
    case enter f args =>
      refine ⟨fun hx => by simp [Fence.wide, Fence.inRound] at hx, (CallsIn.inRound l (callsIn_wide.2 hh)).mono fun e w'' he => ?_⟩
      cases e with
      | returned v => exact h _ _ he
      | panicked c => exact he
      | outgrown => exact absurd he hL
    case row row args =>
      refine ⟨fun hx => by simp [Fence.wide, Fence.inRound] at hx, ?_⟩
      have h2 : RowsIn Fence.wide (n - 1) P row args w' fun v w'' => K' (a.put o.dst v) w'' := fun c cs _ => let ⟨v, w2, r, s⟩ := hh c cs; ⟨v, w2, h _ _ r, stepsIn_wide.2 s⟩
      exact h2
  | halt x w' =>
    cases x <;> simp only [Oper.upon] at hh <;> simp only [Oper.uponIn]
    exact hh
theorem wpOpIn_of_wpOp {i : Nat} {a : Act} {w : World} {K K' : Act → World → Prop} (hd : noDefer ops = true) (hL : ¬ LetsOut Q) (h : ∀ a w, K a w → K' a w) (hh : wpOp P ops Q i K a w) : wpOpIn (Fence.wide.inRound l) n P ops Q i K' a w := by
  unfold wpOp at hh
  unfold wpOpIn
  split
  · rename_i ho; simp only [ho] at hh; exact h _ _ hh
  · rename_i o ho
    simp only [ho] at hh
    split
    · rename_i hw; simp only [hw, if_true] at hh
      rcases hh with hh | hh
      · refine wpIn_of_wpOper (fun c hc => ?_) hL h hh
        have := Array.all_eq_true.1 hd i (Array.getElem?_eq_some_iff.1 ho).1
        rw [(Array.getElem?_eq_some_iff.1 ho).2, hc] at this
        cases this
      · exact absurd hh.2 hL
    · rename_i hw; simp only [hw] at hh; exact ⟨fun _ _ => trivial, h _ _ hh⟩
theorem wpOpsIn_of_wpOps (hd : noDefer ops = true) (hL : ¬ LetsOut Q) : ∀ (is : List Nat) (a : Act) (w : World), wpOps P ops Q is a w → wpOpsIn (Fence.wide.inRound l) n P ops Q is a w
  | [], _, _, h => h
  | i :: r, a, w, h => by
    rw [wpOpsIn_cons]
    rw [wpOps_cons] at h
    exact wpOpIn_of_wpOp hd hL (fun a w => wpOpsIn_of_wpOps hd hL r a w) h
theorem wpAnyIn_of_wpAny (hd : noDefer ops = true) (hL : ¬ LetsOut Q) : ∀ (fuel : Nat) (listed : Array Bool) (a : Act) (w : World), wpAny P md ops Q fuel listed a w → wpAnyIn (Fence.wide.inRound l) n P md ops Q fuel listed a w
  | 0, _, _, _, h => h
  | fuel + 1, _, _, _, h => ⟨h.1, fun i hi => wpOpIn_of_wpOp hd hL (fun a w => wpAnyIn_of_wpAny hd hL fuel _ a w) (h.2 i hi)⟩
variable {a : Act} {w : World} {c : Code}
theorem syI_reg (hd : noDefer (opsAt c) = true) (hL : ¬ LetsOut Q) (h : RegW P c Q a w) : c.wpIn (Fence.wide.inRound l) n P Q a w := by
  rcases h with ⟨id, ops, rfl, h⟩ | ⟨id, ops, rfl, hm, h⟩
  · exact wpIn_region (wpOpsIn_of_wpOps hd hL _ _ _ h)
  · exact wpIn_region_any hm (wpAnyIn_of_wpAny hd hL _ _ _ _ h)
variable {F : Fence}
theorem syI_seq (x y : Code) (hc : c = .seq x y) (h : x.wpIn F n P (Exit.then (y.wpIn F n P Q) Q) a w) : c.wpIn F n P Q a w := hc ▸ wpIn_seq h
theorem syI_block (id : Nat) (x : Code) (hc : c = .block id x) (h : x.wpIn F n P (Exit.inBlock id Q) a w) : c.wpIn F n P Q a w := hc ▸ wpIn_block h
theorem syI_yes (o : Operand) (x y : Code) (hc : c = .cond o x y) (ho : a.eval o = .bool true) (h : x.wpIn F n P Q a w) : c.wpIn F n P Q a w := hc ▸ wpIn_cond_true ho h
theorem syI_no (o : Operand) (x y : Code) (hc : c = .cond o x y) (ho : a.eval o = .bool false) (h : y.wpIn F n P Q a w) : c.wpIn F n P Q a w := hc ▸ wpIn_cond_false ho h
theorem syI_skip (hc : c = .skip) (h : Q .normal a w) : c.wpIn F n P Q a w := hc ▸ wpIn_skip h
theorem syI_exit (id : Nat) (hc : c = .exit id) (h : Q (.exit id) a w) : c.wpIn F n P Q a w := hc ▸ wpIn_exit h
theorem syI_ret (hc : c = .ret) (h : Q .ret a w) : c.wpIn F n P Q a w := hc ▸ wpIn_ret h
theorem syI_loop (x : Code) (I : Act → World → Prop) (μ : Act → World → Nat) (hc : c = .loop x) (h0 : I a w)
    (round : ∀ a w, I a w → x.wpIn F n P (Exit.then (fun a' w' => I a' w' ∧ μ a' w' < μ a w) Q) a w) : c.wpIn F n P Q a w := hc ▸ wpIn_loop I μ h0 round
theorem syI_frame (b : Act) (h : a = b) (hq : c.wpIn F n P Q b w) : c.wpIn F n P Q a w := h ▸ hq
end
end Go.Own
namespace Go.Own
set_option maxRecDepth 100000
set_option maxHeartbeats 4000000
open Go Go.RowKit Go.Shelf
section
variable {P : Program} {o : Oper} {ρ : Operand → Value} {w : World}
theorem exec_append (s x : Operand) (t : TypeId) (ho : o.op = .call { callee := .builtin .append, args := #[s, x], argTypes := #[t, t] }) (vs vx : Value) (hs : ρ s = vs) (hx : ρ x = vx) {v' : Value} {w' : World}
    (hr : (Builtin.append_ #[t, t] o.type #[vs, vx]).run P w = .ok v' w') : (execOp ρ o).run P w = .ok (.value v') w' := by
  unfold execOp
  simp only [ho, resolve, invoke, builtin, Sem.run_bind, Sem.run_pure, Result.andThen_ok, List.map_toArray, List.map_cons, List.map_nil, hs, hx, hr]
theorem exec_index_str (t : TypeId) (x y : Operand) (ho : o.op = .index t x y) (l : List UInt8) (hx : ρ x = .string ⟨l.toArray⟩) (kd : IntKind) (k : Nat) (hy : ρ y = .int kd (k : Int)) (hu : P.underlying t = some .string) (c : UInt8) (hc : l[k]? = some c) :
    (execOp ρ o).run P w = .ok (.value (.int .u8 ((c.toNat : Nat) : Int))) w := by
  have h0 : (0 : Int) ≤ (k : Int) := by omega
  have hk : k < l.length := (List.getElem?_eq_some_iff.1 hc).1
  have h1 : (if (0 : Int) ≤ (k : Int) then (⟨l.toArray⟩ : ByteArray)[(k : Int).toNat]? else none) = some c := by
    rw [if_pos h0, Int.toNat_natCast]
    rw [getElem?_pos (⟨l.toArray⟩ : ByteArray) k (by simpa [ByteArray.size] using hk)]
    have := (List.getElem?_eq_some_iff.1 hc).2
    exact congrArg some this
  unfold execOp
  simp only [ho, hx, hy, Instr.index, asIntOf, Sem.run_bind, Sem.run_pure, Result.andThen_ok, run_underlying hu, h1]
theorem exec_convert (s d : TypeId) (x : Operand) (ho : o.op = .convert s d x) (vx : Value) (hx : ρ x = vx) {v : Value} {w' : World} (hr : (convert s d vx).run P w = .ok v w') : (execOp ρ o).run P w = .ok (.value v) w' := by
  unfold execOp
  simp only [ho, hx, Sem.run_bind, Sem.run_pure, Result.andThen_ok, hr]
end
/-- A row that lies in blocks from a base on. -/
def NewFrom (B : Nat) (v : Value) : Prop := ∀ j, v.ownBlock = some j → B ≤ j
theorem NewFrom.nil (B : Nat) : NewFrom B (.slice none 0 0) := fun j h => by simp [Value.ownBlock] at h
theorem NewFrom.ptr {B g : Nat} (h : B ≤ g) (n cap : Nat) : NewFrom B (.slice (some ⟨g, 0, none⟩) n cap) := fun j hj => by simp [Value.ownBlock] at hj; omega
theorem NewFrom.next {B : Nat} {v v' : Value} {w w' : World} (h : NewFrom B v) (hB : B ≤ w.heap.size) (h5 : ∀ k, v'.ownBlock = some k → v.ownBlock = some k ∨ k = w.heap.size ∧ w.heap.size < w'.heap.size) : NewFrom B v' := fun j hj => by
  rcases h5 j hj with h1 | ⟨h1, _⟩
  · exact h j h1
  · omega
theorem Keeps.rowAdd {w w' : World} {v : Value} (h : w.grownBy w' v.ownBlock) : Keeps (fun j => v.ownBlock = some j) w w' := (Keeps.refl _ _).grown h (fun _ e _ => e)
end Go.Own
namespace Go.Own
set_option maxRecDepth 100000
set_option maxHeartbeats 4000000
open Go Go.RowKit Go.Shelf
/-- Cells laid over a part of a block. -/
def seg (cs : Array Value) (o : Nat) (vs : List Value) : Array Value := (cs.toList.take o ++ vs ++ cs.toList.drop (o + vs.length)).toArray
theorem heap_setCells (g : Nat) (T : TypeId) : ∀ (vs : List Value) (o : Nat) (cs : Array Value) (w : World), w.heap[g]? = some (.cells cs T (0, 0)) → o + vs.length ≤ cs.size → (w.setCells g o vs).heap[g]? = some (.cells (seg cs o vs) T (0, 0))
  | [], o, cs, w, h, _ => by simpa [World.setCells, seg] using h
  | v :: r, o, cs, w, h, hl => by
    rw [List.length_cons] at hl
    have h1 := heap_setCell_same w g o cs T v h
    have h2 := heap_setCells g T r (o + 1) _ _ h1 (by simp; omega)
    rw [World.setCells, h2]
    refine congrArg (fun c => some (Obj.cells c T (0, 0))) (Array.toList_inj.1 ?_)
    simp only [seg, Array.toList_setIfInBounds, List.length_cons]
    have e1 : (cs.toList.set o v).take (o + 1) = cs.toList.take o ++ [v] := by
      rw [List.take_set, List.take_succ_eq_append_getElem (by simp; omega), List.set_append, if_neg (by simp; omega), List.length_take, Nat.min_eq_left (by simp; omega), Nat.sub_self]; rfl
    have e2 : (cs.toList.set o v).drop (o + 1 + r.length) = cs.toList.drop (o + (r.length + 1)) := by
      rw [List.drop_set_of_lt (by omega)]; congr 1; omega
    rw [e1, e2]; simp
theorem Keeps.setCells (w : World) (g : Nat) : ∀ (vs : List Value) (o : Nat), Keeps (One g) w (w.setCells g o vs) := by
  intro vs
  suffices h : ∀ (a w : World) (o : Nat), Keeps (One g) a w → Keeps (One g) a (w.setCells g o vs) from fun o => h w w o (Keeps.refl _ _)
  induction vs with
  | nil => intro a w o h; exact h
  | cons v r ih => intro a w o h; exact ih a _ _ (h.setOne v)
section
variable {P : Program} {o : Oper} {ρ : Operand → Value} {w : World}
theorem there_of_block {g : Nat} {cs : Array Value} {T : TypeId} (h : w.heap[g]? = some (.cells cs T (0, 0))) (of n : Nat) (hn : of + n ≤ cs.size) : w.there g of n := fun j hj => by
  refine ⟨?_, frozen_of_row _ _ _ _ _ h⟩
  rw [cell_of_row _ _ _ _ _ _ h, Array.getElem?_eq_getElem (by omega)]; rfl
theorem exec_store_mid (ty : TypeId) (x y : Operand) (ho : o.op = .store ty x y) (g of : Nat) (hx : ρ x = .pointer (some ⟨g, of, none⟩)) (vs : Array Value) (hy : ρ y = .agg vs) (cs : Array Value) (T : TypeId) (h : w.heap[g]? = some (.cells cs T (0, 0)))
    (hn : of + vs.size ≤ cs.size) (hi : (P.info? ty).map (·.size) = some vs.size) (h1 : vs.all (·.oneCell') = true) : (execOp ρ o).run P w = .ok .skip (w.setCells g of vs.toList) := by
  unfold execOp
  simp only [ho, hx, hy, Sem.run_bind, run_storeAt_mid w g of ty vs (there_of_block h of _ hn) hi h1, Result.andThen_ok, Sem.run_pure]
end
theorem lt_meas {a b x y : Nat} (ha : a = x) (hb : b = y) (h : x < y) : a < b := by omega
end Go.Own
namespace Go.Proofs.YtghohakbepeffaaGreatDoor
set_option maxRecDepth 100000
set_option maxHeartbeats 4000000
end Go.Proofs.YtghohakbepeffaaGreatDoor
namespace Go.Own
set_option maxRecDepth 100000
set_option maxHeartbeats 4000000
open Go Go.RowKit Go.Shelf
section
variable {P : Program} {Q : Exit → Act → World → Prop} {a : Act} {w : World} {ops : Array Oper} {i : Nat} {S : World → Prop} {fuel : Nat} {l : Array Bool}
end
/-! A function that yields. -/
section
variable {P : Program} {Q : Exit → Act → World → Prop} {a : Act} {w : World} {ops : Array Oper} {i n : Nat} {rest : List Nat} {c : Code}
theorem syW_enter {f : FuncId} {fn : Func} {args : Array Value} {R : Ending → World → Prop} (c : Code) (a : Act) (hf : P.funcs[f]? = some fn) (hb : fn.body = some c)
    (ha : ({ tmps := args ++ Array.replicate (fn.ntmps - args.size) undef, defers := [] } : Act) = a) (h : c.wpIn Fence.wide n P (bodyPost P fn R) a w) : CallsIn Fence.wide n P f args w R :=
  callsIn_of_wp hf hb trivial (by rw [ha]; exact h) rfl
theorem syW_reg (h : RegW P c Q a w) : c.wpIn Fence.wide n P Q a w := wpIn_wide.2 (sy_reg h)
structure Gyield (n : Nat) (P : Program) (ops : Array Oper) (Q : Exit → Act → World → Prop) (rest : List Nat) (a : Act) (w : World) : Prop where
  out : wpOpsIn Fence.wide n P ops Q rest a w
theorem rg_yield (id : Nat) (ops : Array Oper) (l : List Nat) (hc : c = .region id ops false) (hl : List.range ops.size = l) (h : Gyield n P ops Q l a w) : c.wpIn Fence.wide n P Q a w := by
  subst hc; subst hl; exact wpIn_region h.out
theorem pi_end (h : Q .normal a w) : Gyield n P ops Q [] a w := ⟨h⟩
theorem pi_run (o : Oper) (v : Value) {w' : World} (ho : ops[i]? = some o) (hg : Region.wanted o (yielded ops a.tmps) = true) (hrun : (execOp a.eval o).run P w = .ok (.value v) w') (h : Gyield n P ops Q rest (a.put o.dst v) w') : Gyield n P ops Q (i :: rest) a w := by
  refine ⟨?_⟩
  rw [wpOpsIn_cons]
  unfold wpOpIn
  simp only [ho, hg, if_true]
  refine ⟨fun _ _ => trivial, ?_⟩
  rw [show o.semAt Fence.wide.round a.eval = execOp a.eval o from rfl, hrun]
  exact h.out
theorem pi_yield (o : Oper) (x : Operand) (y : Nat) (args : Array Value) (ho : ops[i]? = some o) (hg : Region.wanted o (yielded ops a.tmps) = true)
    (hc : o.op = .call { callee := .value x, args := callArgs o, argTypes := callTypes o }) (hx : a.eval x = .func (.yield y) #[] #[]) (hargs : (callArgs o).map a.eval = args)
    (h : YieldAt Fence.wide (n - 1) P y args w fun e w' => ∃ v, e = .returned v ∧ Gyield n P ops Q rest (a.put o.dst v) w') : Gyield n P ops Q (i :: rest) a w := by
  refine ⟨?_⟩
  obtain ⟨fn, tmps, assign, body, hy, hR⟩ := h
  rw [wpOpsIn_cons]
  unfold wpOpIn
  simp only [ho, hg, if_true]
  refine ⟨fun _ _ => trivial, ?_⟩
  rw [show o.semAt Fence.wide.round a.eval = execOp a.eval o from rfl]
  unfold execOp
  simp only [hc, resolve, hx, Sem.run_bind, Deferred.ofValue, Sem.run_pure, Result.andThen_ok, invoke, hargs, Array.append_empty, Array.empty_append, List.append_nil, hy]
  refine ⟨fun hx => by simp [Fence.wide] at hx, ?_⟩
  refine hR.mono fun e w' ⟨v, he, hv⟩ => ?_
  subst he
  exact hv.out
end
/-! Slices of elements of s cells each. -/
section
variable {P : Program} {o : Oper} {ρ : Operand → Value} {w : World}
/-- 's[:k]'. -/
theorem exec_slice_toW (t : TypeId) (x y : Operand) (ho : o.op = .slice t x none (some y) none) (A : Option Addr) (n cap : Nat) (hx : ρ x = .slice A n cap) (kd : IntKind) (k : Nat) (hy : ρ y = .int kd (k : Int)) (e : TypeId) (hu : P.underlying t = some (.slice e))
    (s : Nat) (hs : (P.info? e).map (·.size) = some s) (hk : k ≤ cap) : (execOp ρ o).run P w = .ok (.value (.slice A k cap)) w := by
  obtain ⟨i, hi, h1⟩ := Option.map_eq_some_iff.1 hs
  have h2 : (0 : Int) ≤ (k : Int) ∧ (k : Int) ≤ (cap : Int) := by omega
  unfold execOp
  simp only [ho, hx, hy, Option.map_some, Option.map_none, Instr.sliceAt, Sem.run_bind, run_underlying hu, Instr.slice, Instr.sliceBounds, Instr.sliceBound, asIntOf, Sem.run_pure, Result.andThen_ok, if_pos h2]
  rw [show (sizeOf e).run P w = .ok s w by simp [go_sem, sizeOf, typeInfo, hi, h1]]
  simp only [Result.andThen_ok, Int.toNat_natCast, Nat.zero_mul, Nat.sub_zero]
  cases A with
  | none => split <;> rfl
  | some a => split <;> simp [Addr.add]
def cutW (A : Option Addr) (n cap s k : Nat) : Value := .slice (if cap = k then A else A.map (·.add (k * s))) (n - k) (cap - k)
end
/-! What a step leaves of all that is no cells. -/
theorem Row.cells1 {w : World} {e : TypeId} {size n : Nat} {v : Value} {xs : List Value} (h : Row w e size v n xs) : v.cells = #[v] := by
  rcases h.2 with ⟨rfl, _⟩ | ⟨g, cap, cur, rfl, _⟩ <;> rfl
/-- A slice of elements x of s cells each, 'c x'. -/
structure Sl {α : Type} (w : World) (s : Nat) (c : α → List Value) (v : Value) (xs : List α) : Prop where
  form : ∃ A cap, v = .slice A xs.length cap ∧ xs.length ≤ cap ∧ cap ≤ maxLen ∧ (A = none → cap = 0)
  at_ : ∀ (k : Nat) (x : α), xs[k]? = some x → ∃ b o cap, v = .slice (some ⟨b, o, none⟩) xs.length cap ∧ b < w.heap.size ∧ ∀ (j : Nat) (u : Value), (c x)[j]? = some u → w.cell? ⟨b, o + k * s + j, none⟩ = some u
section
variable {α : Type} {w w' : World} {M : Nat → Prop} {s : Nat} {c : α → List Value} {v : Value} {xs : List α}
theorem Sl.keeps (h : Sl w s c v xs) (k : Keeps M w w') (hm : ∀ j, v.ownBlock = some j → j < w.heap.size → ¬ M j) : Sl w' s c v xs :=
  ⟨h.form, fun i x hi => by
    obtain ⟨b, o, cap, e, hb, hc⟩ := h.at_ i x hi
    exact ⟨b, o, cap, e, Nat.lt_of_lt_of_le hb k.size, fun j u hj => (k.cell hb (hm b (by rw [e]; rfl) hb)).trans (hc j u hj)⟩⟩
theorem Sl.keepsN (h : Sl w s c v xs) (k : Keeps Nob w w') : Sl w' s c v xs := h.keeps k (fun _ _ _ x => x)
/-- Below 'w0' nothing is turned. -/
theorem Sl.keepsB {w0 : World} (h0 : Sl w0 s c v xs) (h : Sl w s c v xs) (k : Keeps M w w') (hm : ∀ j, M j → w0.heap.size ≤ j) : Sl w' s c v xs :=
  ⟨h.form, fun i x hi => by
    obtain ⟨b, o, cap, e, hb, hc⟩ := h.at_ i x hi
    obtain ⟨b0, o0, cap0, e0, hb0, _⟩ := h0.at_ i x hi
    rw [e] at e0
    simp only [Value.slice.injEq, Option.some.injEq, Addr.mk.injEq] at e0
    obtain ⟨⟨rfl, _⟩, _⟩ := e0
    exact ⟨b, o, cap, e, Nat.lt_of_lt_of_le hb k.size, fun j u hj => (k.cell hb (fun x => by have := hm _ x; omega)).trans (hc j u hj)⟩⟩
theorem Sl.nil (w : World) (s : Nat) (c : α → List Value) : Sl w s c (.slice none 0 0) [] := ⟨⟨none, 0, rfl, Nat.le_refl _, by simp [maxLen], fun _ => rfl⟩, fun k x h => by simp at h⟩
theorem Sl.len_le (h : Sl w s c v xs) : xs.length ≤ 9223372036854775807 := by
  obtain ⟨A, cap, e, h1, h2, _⟩ := h.form
  unfold maxLen at h2; omega
theorem flat_get (hc : ∀ x ∈ xs, (c x).length = s) (k : Nat) (x : α) (hx : xs[k]? = some x) (j : Nat) (u : Value) (hj : (c x)[j]? = some u) : (xs.flatMap c)[k * s + j]? = some u := by
  induction xs generalizing k with
  | nil => simp at hx
  | cons y r ih =>
    rw [List.flatMap_cons]
    have hy := hc y (by simp)
    cases k with
    | zero =>
      simp only [List.getElem?_cons_zero, Option.some.injEq] at hx; subst hx
      rw [Nat.zero_mul, Nat.zero_add, List.getElem?_append_left (List.getElem?_eq_some_iff.1 hj).1]; exact hj
    | succ k =>
      rw [List.getElem?_append_right (by rw [hy, Nat.succ_mul]; omega), hy, show (k + 1) * s + j - s = k * s + j by rw [Nat.succ_mul]; omega]
      exact ih (fun z hz => hc z (by simp [hz])) k (by simpa using hx)
theorem flat_len (hc : ∀ x ∈ xs, (c x).length = s) : (xs.flatMap c).length = xs.length * s := by
  induction xs with
  | nil => simp
  | cons y r ih =>
    rw [List.flatMap_cons, List.length_append, ih (fun z hz => hc z (by simp [hz])), hc y (by simp), List.length_cons, Nat.succ_mul]; omega
theorem Row.sl {e : TypeId} {n : Nat} (h : Row w e s v n (xs.flatMap c)) (hn : n = xs.length) (hc : ∀ x ∈ xs, (c x).length = s) : Sl w s c v xs := by
  subst hn
  have hh := h
  rcases h.2 with ⟨rfl, h0⟩ | ⟨g, cap, cur, rfl, hb, hg, h1, h2, h3⟩
  · have h0 : xs = [] := List.eq_nil_of_length_eq_zero h0
    subst h0
    exact ⟨⟨none, 0, rfl, Nat.le_refl _, by simp [maxLen], fun _ => rfl⟩, fun k x hx => by simp at hx⟩
  · exact ⟨⟨_, _, rfl, h1, by omega, fun h => by cases h⟩, fun k x hx => ⟨g, 0, cap, rfl, (Array.getElem?_eq_some_iff.1 hg).1, fun j u hj => by
      have := World.ownsRow.cells hh (g := g) rfl (k * s + j) u (flat_get hc k x hx j u hj)
      simpa [Addr.add_lit] using this⟩⟩
theorem mem_flat {c : α → List Value} {xs : List α} {u : Value} (h : u ∈ xs.flatMap c) : ∃ x ∈ xs, u ∈ c x := by simpa using h
theorem Sl.src (h : Sl w s c v xs) (hc : ∀ x ∈ xs, (c x).length = s) (hs : 0 < s) (h1 : ∀ x ∈ xs, ∀ u ∈ c x, u.oneCell' = true) : Src w s v xs.length (xs.flatMap c) := by
  refine ⟨flat_len hc, fun u hu => let ⟨x, hx, hu⟩ := mem_flat hu; h1 x hx u hu, ?_⟩
  obtain ⟨A, cap, rfl, h2, h3, h4⟩ := h.form
  cases A with
  | none => have := h4 rfl; exact .inl ⟨by rw [this] at h2 ⊢; rw [Nat.le_zero.1 h2], by omega⟩
  | some ad =>
    refine .inr ⟨ad, cap, rfl, fun j u hj => ?_⟩
    have hj2 : j < xs.length * s := by rw [← flat_len hc]; exact (List.getElem?_eq_some_iff.1 hj).1
    have hk : j / s < xs.length := Nat.div_lt_of_lt_mul (by rw [Nat.mul_comm]; exact hj2)
    obtain ⟨b, o, cap', e, _, hcell⟩ := h.at_ (j / s) xs[j / s] (List.getElem?_eq_getElem hk)
    simp only [Value.slice.injEq, Option.some.injEq, true_and] at e
    obtain ⟨rfl, _⟩ := e
    have hl := hc xs[j / s] (List.getElem_mem hk)
    have hm : j % s < (c xs[j / s]).length := by rw [hl]; exact Nat.mod_lt _ hs
    have e2 := flat_get hc (j / s) xs[j / s] (List.getElem?_eq_getElem hk) (j % s) _ (List.getElem?_eq_getElem hm)
    have hd : j / s * s + j % s = j := by rw [Nat.mul_comm]; exact Nat.div_add_mod j s
    rw [hd, hj] at e2
    have := hcell (j % s) u (by rw [List.getElem?_eq_getElem hm]; exact e2.symm)
    rw [show o + j / s * s + j % s = o + j by omega] at this
    simpa [Addr.add_lit] using this
theorem Sl.take (h : Sl w s c v xs) (k : Nat) (hk : k ≤ xs.length) : ∀ A n cap, v = .slice A n cap → Sl w s c (.slice A k cap) (xs.take k) := by
  rintro A n cap rfl
  obtain ⟨A', cap', e, h2, h3, h4⟩ := h.form
  simp only [Value.slice.injEq] at e
  obtain ⟨rfl, rfl, rfl⟩ := e
  have hl : (xs.take k).length = k := by simp; omega
  refine ⟨⟨_, _, by rw [hl], by omega, h3, h4⟩, fun i x hi => ?_⟩
  have hik : i < k := by have := (List.getElem?_eq_some_iff.1 hi).1; omega
  rw [List.getElem?_take_of_lt hik] at hi
  obtain ⟨b, o, cap'', e, hb, hcell⟩ := h.at_ i x hi
  simp only [Value.slice.injEq, true_and] at e
  obtain ⟨rfl, rfl⟩ := e
  exact ⟨b, o, _, by rw [hl], hb, hcell⟩
theorem Sl.drop (h : Sl w s c v xs) (k : Nat) (hk : k ≤ xs.length) : ∀ A n cap, v = .slice A n cap → Sl w s c (cutW A n cap s k) (xs.drop k) := by
  rintro A n cap rfl
  obtain ⟨A', cap', e, h2, h3, h4⟩ := h.form
  simp only [Value.slice.injEq] at e
  obtain ⟨rfl, rfl, rfl⟩ := e
  unfold cutW
  refine ⟨⟨_, _, by rw [List.length_drop], by rw [List.length_drop]; omega, by omega, fun hn => ?_⟩, fun i x hi => ?_⟩
  · split at hn
    · omega
    · cases A with
      | none => have := h4 rfl; omega
      | some a => cases hn
  · rw [List.getElem?_drop] at hi
    have hlt := (List.getElem?_eq_some_iff.1 hi).1
    obtain ⟨b, o, cap'', e, hb, hcell⟩ := h.at_ (k + i) x hi
    simp only [Value.slice.injEq, true_and] at e
    obtain ⟨rfl, rfl⟩ := e
    rw [if_neg (by omega)]
    refine ⟨b, o + k * s, cap - k, by rw [List.length_drop]; simp [Addr.add], hb, fun j u hj => ?_⟩
    have := hcell j u hj
    rwa [show o + (k + i) * s + j = o + k * s + i * s + j by rw [Nat.add_mul]; omega] at this
end
end Go.Own
namespace Go.Own
set_option maxRecDepth 100000
set_option maxHeartbeats 4000000
open Go Go.RowKit Go.Shelf
section
variable {P : Program} {a : Act} {w : World} {fn : Func}
end
end Go.Own
namespace Go.Own
set_option maxRecDepth 100000
set_option maxHeartbeats 4000000
open Go Go.RowKit Go.Shelf
/-- The method that an interface value's call comes to. -/
def MethodAt (P : Program) (v : Value) (name : String) (f : FuncId) (rv : Value) : Prop := ∀ (args : Array Value) (w : World), (callMethod v name args).run P w = .ok (.enter f (#[rv] ++ args)) w
section
variable {P : Program} {ops : Array Oper} {Q : Exit → Act → World → Prop} {a : Act} {w : World} {i : Nat}
theorem run_invoke {ρ : Operand → Value} (o : Oper) (x : Operand) (name : String) (v : Value) (f : FuncId) (rv : Value) (args full : Array Value) (hc : o.op = .call { callee := .invoke x name, args := callArgs o, argTypes := callTypes o }) (hx : ρ x = v) (hargs : (callArgs o).map ρ = args)
    (hm : MethodAt P v name f rv) (hf : #[rv] ++ args = full) : (execOp ρ o).run P w = .ok (.enter f full) w := by
  unfold execOp
  simp only [hc, resolve, hx, hargs, Sem.run_bind, Sem.run_pure, Result.andThen_ok, invoke]
  have h0 : ((#[v] ++ args)[0]? : Option Value) = some v := (Array.getElem?_append_left (by simp)).trans rfl
  have h1 : (#[v] ++ args).extract 1 (#[v] ++ args).size = args := by
    apply Array.toList_inj.1
    rw [Array.toList_extract]
    simp [List.extract, List.take_of_length_le]
  simp only [h0, h1]
  rw [hm, hf]
end
end Go.Own
namespace Go.Own
set_option maxRecDepth 100000
set_option maxHeartbeats 4000000
open Go Go.ChangeShapes Go.WideShapes Go.ChangeAt Go.RowKit Go.WideElems
variable {H : Type} {enc : TypeId × Value → H} {P : Program}
theorem trodAll_stays (hl : laidOutB P = true) {W W' : World} {sp : Nat → Bool} : ∀ (ts : List TypeId) (vs : List Value) (ds : List (DataW H)) (ps : List MemPlace),
    ts.all (fun t => P.readableRec t && decide (t < P.types.size)) = true → DataW.TrodAll enc P W 0 (fun _ => true) true ts vs ds ps → (∀ p ∈ ps, W.sameAt W' p) → (∀ p ∈ ps, sp p.block = true) →
    DataW.TrodAll enc P W' 0 sp true ts vs ds ps
  | [], vs, ds, ps, _, h, _, _ => by
    obtain ⟨rfl, rfl, rfl⟩ := trodAll_nil h
    exact trodAll_mk0
  | t :: ts, vs, ds, ps, hr, h, hs, hsp => by
    obtain ⟨v, vs', d, ds', p, q, rfl, rfl, rfl, h0, r⟩ := trodAll_cons h
    simp only [List.all_cons, Bool.and_eq_true, decide_eq_true_eq] at hr
    exact trodAll_cons_mk (Trod_stays hl hr.1.1 hr.1.2 h0 (fun x hx => hs x (by simp [hx])) (fun x hx => hsp x (by simp [hx])))
      (trodAll_stays hl ts vs' ds' q hr.2 r (fun x hx => hs x (by simp [hx])) (fun x hx => hsp x (by simp [hx])))
theorem law_post {f : Func} {s : ChangeSpec} {W W' : World} {args : Array Value} {ds gs : List (DataW H)} {before : List MemPlace} {tb : TypeId} (hl : laidOutB P = true) (hr : f.params.toList.all (fun t => P.readableRec t && decide (t < P.types.size)) = true)
    (hres : f.resultTypes = #[tb]) (hb : P.underlying tb = some .bool) (hvars : s.vars = []) (hfn : s.fn H (ds ++ gs) = { results := [.lit (.bool true)], args := ds })
    (hW : DataW.Whole enc P f.params.toList s.vars false W args.toList ds gs before) (hB : Below W.heap.size W W') : s.post enc P f false true false false W args (.bool true) W' := by
  have hlt := hW.lt
  have hW0 := hW
  obtain ⟨p, q, hA, hV, rfl, hfz, hnd⟩ := hW
  rw [hvars] at hV
  obtain ⟨rfl, rfl⟩ := trodVars_none hV
  refine ⟨ds, [], p ++ [], [], p, [], hW0, ?_, ?_, ?_, hB.frame _, fun h => by cases h⟩
  · rw [hfn, hres]
    exact trodAll_mk1 (shut_bool hb _)
  · rw [hfn]
    exact trodAll_stays hl _ _ _ _ hr hA (fun x hx => hB.same (hlt x (by simp [hx]))) (fun x hx => by simpa using hlt x (by simp [hx]))
  · rw [hfn, hvars]
    rfl
/-- A slice that came in: its length, and each element's cells with the element's own reading. -/
theorem open_elemsN {t e : TypeId} {W : World} {sp : Nat → Bool} {held : Bool} {v : Value} {d : DataW H} {ps : List MemPlace} (ht : P.underlying t = some (.slice e)) (hpos : 0 < P.cellsOf e) (h : DataW.Trod enc P W 0 sp held t v d ps) (hv : ∃ a len cap, v = .slice a len cap) :
    ∃ (a : Option Addr) (len cap : Nat), v = .slice a len cap ∧ len ≤ cap ∧ cap ≤ maxLen ∧ (a = none → cap = 0) ∧ ∀ i, i < len → ∃ b o cs n y, a = some ⟨b, o, none⟩ ∧ cs.length = P.cellsOf e ∧
      (∀ j, j < P.cellsOf e → W.cell? ⟨b, o + i * P.cellsOf e + j, none⟩ = cs[j]?) ∧ DataW.trod enc P W 0 sp held n e cs = some y := by
  obtain ⟨fuel, hf⟩ := h
  obtain ⟨a0, len0, cap0, rfl⟩ := hv
  rcases Go.Deep.open_slice ht (by simpa [Value.cells] using hf) with ⟨h0, _⟩ | ⟨a, len, cap, m, n, D, Pl, hcs, _, hl, hm, hmm, _, hi⟩
  · simp only [List.cons.injEq, Value.slice.injEq, and_true] at h0
    obtain ⟨rfl, rfl, rfl⟩ := h0
    exact ⟨_, _, _, rfl, Nat.le_refl _, Nat.zero_le _, fun _ => rfl, fun i h => absurd h (Nat.not_lt_zero i)⟩
  · simp only [List.cons.injEq, Value.slice.injEq, and_true] at hcs
    obtain ⟨rfl, rfl, rfl⟩ := hcs
    refine ⟨_, _, _, rfl, hl, hm, (fun h => by cases h), fun i hlt => ?_⟩
    have him : i < m := by rw [hmm]; split <;> omega
    obtain ⟨cs', hc, ht'⟩ := hi i him
    obtain ⟨_, hcl, hat⟩ := World.cells?_some hc
    have hsp : a.spot = none := by
      obtain ⟨cs0, hc0, _⟩ := hi 0 (by omega)
      obtain ⟨_, hcl0, hat0⟩ := World.cells?_some hc0
      have h0 := hat0 0 hpos
      have e1 : (a.add (0 * P.cellsOf e)).add 0 = a := by simp [Addr.add]
      rw [e1, List.getElem?_eq_getElem (by omega)] at h0
      cases hs : a.spot with
      | none => rfl
      | some s =>
        exfalso
        unfold World.cell? at h0
        split at h0
        · rw [if_pos (by simp [hs])] at h0; cases h0
        · cases h0
    obtain ⟨b, o, s⟩ := a
    cases hsp
    refine ⟨b, o, cs', n, _, rfl, hcl, fun j hj => ?_, ht'⟩
    have h2 := hat j hj
    have e2 : ((⟨b, o, none⟩ : Addr).add (i * P.cellsOf e)).add j = ⟨b, o + i * P.cellsOf e + j, none⟩ := by simp [Addr.add_lit]
    rw [e2] at h2
    exact h2
theorem list_of {α : Type} (Q : Nat → α → Prop) (n : Nat) (h : ∀ i, i < n → ∃ x, Q i x) : ∃ l : List α, l.length = n ∧ ∀ k x, l[k]? = some x → Q k x := by
  induction n with
  | zero => exact ⟨[], rfl, fun k x hk => by simp at hk⟩
  | succ n ih =>
    obtain ⟨l, hl, hq⟩ := ih (fun i hi => h i (by omega))
    obtain ⟨x, hx⟩ := h n (by omega)
    refine ⟨l ++ [x], by simp [hl], fun k y hk => ?_⟩
    rw [List.getElem?_append] at hk
    split at hk
    · exact hq k y hk
    · rename_i hlt
      obtain ⟨hk1, hk2⟩ := List.getElem?_eq_some_iff.1 hk
      have : k = n := by simp at hk1; omega
      subst this
      simp at hk2
      rw [← hk2]; exact hx
/-- One cell of a struct that is read as an integer. -/
theorem field_int {t : TypeId} {k : IntKind} {W : World} {sp : Nat → Bool} {held : Bool} {n off : Nat} {cs : List Value} {y : Option (DataW H × List MemPlace)} {z : DataW H × List MemPlace} (ht : P.underlying t = some (.int k)) (h1 : P.cellsOf t = 1) (h : DataW.trod enc P W 0 sp held n t ((cs.drop off).take (P.cellsOf t)) = y) (hy : y = some z) :
    ∃ q : Int, cs[off]? = some (.int k q) ∧ (Lit.int k q).wf = true := by
  subst hy
  rw [h1] at h
  obtain ⟨q, e1, _, e3⟩ := DataW.trod_int ht h
  refine ⟨q, ?_, e3⟩
  cases hc : cs.drop off with
  | nil => rw [hc] at e1; simp at e1
  | cons c r =>
    rw [hc] at e1
    simp at e1
    have : (cs.drop off)[0]? = some c := by rw [hc]; rfl
    rw [List.getElem?_drop] at this
    rw [show off = off + 0 by omega, this, e1]
/-- A slice of ints that came in. -/
structure IntsAt (w : World) (v : Value) (l : List Int) : Prop where
  len : ∃ a cap, v = .slice a l.length cap
  at_ : ∀ k x, l[k]? = some x → -9223372036854775808 ≤ x ∧ x ≤ 9223372036854775807 ∧ ∃ b o cap, v = .slice (some ⟨b, o, none⟩) l.length cap ∧ b < w.heap.size ∧ w.cell? ⟨b, o + k, none⟩ = some (.int .i64 x)
theorem IntsAt.keeps {w w' : World} {v : Value} {l : List Int} (h : IntsAt w v l) (k : Keeps Nob w w') : IntsAt w' v l :=
  ⟨h.len, fun i x hi => by
    obtain ⟨b1, b2, b, o, cap, e, hb, hc⟩ := h.at_ i x hi
    exact ⟨b1, b2, b, o, cap, e, Nat.lt_of_lt_of_le hb k.size, (k.cell hb (fun x => x)).trans hc⟩⟩
theorem u64_nat {a : Int} (h : (Lit.int .u64 a).wf = true) : ∃ n : Nat, n < 2 ^ 64 ∧ a = (n : Int) := by
  have h1 : 0 ≤ a ∧ a < 18446744073709551616 := by
    simp [Lit.wf, IntKind.min, IntKind.max, IntKind.bits, IntKind.signed] at h
    omega
  exact ⟨a.toNat, by omega, by omega⟩
theorem u8_nat {a : Int} (h : (Lit.int .u8 a).wf = true) : ∃ c : UInt8, a = (c.toNat : Int) := by
  have h1 : 0 ≤ a ∧ a < 256 := by
    simp [Lit.wf, IntKind.min, IntKind.max, IntKind.bits, IntKind.signed] at h
    omega
  exact ⟨UInt8.ofNat a.toNat, by simp; omega⟩
/-- A slice of bytes that came in. -/
theorem open_bytesAt {t e : TypeId} {W : World} {sp : Nat → Bool} {held : Bool} {v : Value} {d : DataW H} {ps : List MemPlace} (ht : P.underlying t = some (.slice e)) (he : P.underlying e = some (.int .u8)) (hC : P.cellsOf e = 1)
    (h : DataW.Trod enc P W 0 sp held t v d ps) (hv : ∃ a len cap, v = .slice a len cap) : ∃ l, BytesAt W v l := by
  obtain ⟨a, len, cap, rfl, hl, hm, hn, hi⟩ := open_elemsN ht (by rw [hC]; omega) h hv
  rw [hC] at hi
  obtain ⟨l, hll, hq⟩ := list_of (fun i (x : UInt8) => ∃ b o, a = some ⟨b, o, none⟩ ∧ W.cell? ⟨b, o + i, none⟩ = some (.int .u8 (x.toNat : Int))) len (fun i hlt => by
    obtain ⟨b, o, cs, n, y, ha, hcl, hcell, ht'⟩ := hi i hlt
    obtain ⟨q, e1, _, e3⟩ := DataW.trod_int he ht'
    obtain ⟨c, rfl⟩ := u8_nat e3
    have h0 := hcell 0 (by omega)
    rw [e1] at h0
    exact ⟨c, b, o, ha, by simpa using h0⟩)
  subst hll
  refine ⟨l, ⟨a, cap, rfl, hl, hm, hn⟩, fun k x hk => ?_⟩
  obtain ⟨b, o, rfl, c0⟩ := hq k x hk
  exact ⟨b, o, cap, rfl, World.block_lt_of_cell? W _ c0, c0⟩
end Go.Own
namespace Go.Proofs.YtghohakbepeffaaGreatDoor
set_option maxRecDepth 100000
set_option maxHeartbeats 4000000
open Go Go.RowKit Go.Own Go.Shelf
def hOk (h : Int) : Prop := 1 ≤ h ∧ h ≤ 4294967296
instance (h : Int) : Decidable (hOk h) := by unfold hOk; infer_instance
/-- May params, and heights, be? -/
def Par.fine (p : Par) (l : List Int) : Int := if p.check.1 = 0 then (if l.all (fun h => decide (hOk h)) then 0 else 3) else p.check.1
end Go.Proofs.YtghohakbepeffaaGreatDoor
namespace Go.Proofs.YtghohakbepeffaaGreatDoor
set_option maxRecDepth 100000
set_option maxHeartbeats 4000000
open Go Go.RowKit Go.Own Go.Shelf
/-- What good params are. -/
theorem Par.bounds (p : Par) (h : p.check.1 = 0) : (1 ≤ p.unb ∧ p.unb ≤ 1048576) ∧ (0 ≤ p.mage ∧ p.mage ≤ 1048576) ∧ (1 ≤ p.elen ∧ p.elen ≤ 1000) ∧ (1 ≤ p.win ∧ p.win ≤ 256) ∧ (1 ≤ p.jail ∧ p.jail ≤ 1048576) ∧ (1 ≤ p.corr ∧ p.corr ≤ 1048576) ∧ p.mage ≤ p.unb := by
  unfold Par.check at h
  split at h
  · simp at h
  · rename_i hn
    rw [List.find?_eq_none] at hn
    have g : ∀ i, i < 11 → p.good i := fun i hi => by simpa using hn i (by simpa using hi)
    have g0 := g 0 (by omega); have g1 := g 1 (by omega); have g2 := g 2 (by omega); have g3 := g 3 (by omega); have g6 := g 6 (by omega); have g9 := g 9 (by omega)
    simp [Par.good, parLo, parHi, Par.l] at g0 g1 g2 g3 g6 g9
    refine ⟨g0, g1, g2, g3, g6, g9, ?_⟩
    split at h
    · simp at h
    · omega
theorem Par.fine_zero (p : Par) (l : List Int) (h : p.fine l = 0) : p.check.1 = 0 ∧ ∀ x ∈ l, hOk x := by
  unfold Par.fine at h
  split at h
  · rename_i hc
    refine ⟨hc, ?_⟩
    split at h
    · rename_i ha
      rw [List.all_eq_true] at ha
      intro x hx; simpa using ha x hx
    · simp at h
  · rename_i hc; exact absurd h hc
theorem ints_two (w : World) (x z : Int) (b1 : i64ok x) (b2 : i64ok z) (t : TypeId) : IntsAt (w.alloc (.cells #[.int .i64 x, .int .i64 z] t)) (.slice (some ⟨w.heap.size, 0, none⟩) 2 2) [x, z] :=
  ⟨⟨_, _, rfl⟩, fun k y hk => by
    match k, hk with
    | 0, hk => simp at hk; subst hk; exact ⟨b1.1, b1.2, _, _, _, rfl, by simp, (World.cell?_alloc_at _ _ _ _ rfl).trans rfl⟩
    | 1, hk => simp at hk; subst hk; exact ⟨b2.1, b2.2, _, _, _, rfl, by simp, (World.cell?_alloc_at _ _ _ _ rfl).trans rfl⟩⟩
end Go.Proofs.YtghohakbepeffaaGreatDoor
namespace Go.Proofs.YtghohakbepeffaaGreatDoor
set_option maxRecDepth 100000
set_option maxHeartbeats 4000000
open Go Go.RowKit Go.Own Go.Shelf
end Go.Proofs.YtghohakbepeffaaGreatDoor
namespace Go.Proofs.YtghohakbepeffaaGreatDoor
set_option maxRecDepth 100000
set_option maxHeartbeats 4000000
open Go Go.RowKit Go.Own Go.Shelf
def Par.noted (p : Par) (g h : Int) : Bool × Int := (decide (p.fine [g, h] = 0) && decide (g ≤ h) && decide (h - g < p.corr), p.fine [g, h])
end Go.Proofs.YtghohakbepeffaaGreatDoor
namespace Go.Proofs.YtghohakbepeffaaGreatDoor
set_option maxRecDepth 100000
set_option maxHeartbeats 4000000
open Go Go.RowKit Go.Own Go.Shelf
structure Nt where
  h : Int
  s : Nat
deriving DecidableEq
def Nt.cl (x : Nt) : List Value := [.int .i64 x.h, .int .u64 ((x.s : Nat) : Int)]
def Nt.c (x : Nt) : Array Value := (Nt.cl x).toArray
def Nt.Ok (x : Nt) : Prop := -9223372036854775808 ≤ x.h ∧ x.h ≤ 9223372036854775807 ∧ x.s < 18446744073709551616
/-- May this note be at all? -/
def Nt.bad (x : Nt) : Prop := x.h < 1 ∨ 4294967296 < x.h ∨ 4611686018427387904 < x.s
instance (x : Nt) : Decidable x.bad := by unfold Nt.bad; infer_instance
/-- Why a note may not be behind others; 0: it may. -/
def nmay (x : Nt) (a : List Nt) : Int := if x.bad then 3 else match a.getLast? with | some y => if x.h < y.h then 9 else 0 | none => 0
def nchk (a : List Nt) : List Nt → Int × Int
  | [] => (0, 0)
  | x :: r => if nmay x a = 0 then nchk (a ++ [x]) r else (nmay x a, (a.length : Int))
/-- What Check tells. -/
def ncheck (l : List Nt) : Int × Int := if 64 < l.length then (4, 64) else nchk [] l
def nref (p : Par) (l : List Nt) (h : Int) : Int := if p.check.1 ≠ 0 then p.check.1 else if (ncheck l).1 ≠ 0 then (ncheck l).1 else if h < 1 ∨ 4294967296 < h then 3 else 0
def ncounts (p : Par) (h : Int) (x : Nt) : Bool := decide (x.h ≤ h) && decide (h - x.h < p.corr)
def nlive (p : Par) (l : List Nt) (h : Int) : List Nt × Int := if nref p l h ≠ 0 then ([], nref p l h) else (l.filter (ncounts p h), 0)
/-- What notes have together, but at most 2^62. -/
def nsum (l : List Nt) : Nat := min ((l.map Nt.s).sum) 4611686018427387904
def nnoted (p : Par) (l : List Nt) (h : Int) : Nat × Int := if nref p l h ≠ 0 then (0, nref p l h) else (nsum (l.filter (ncounts p h)), 0)
def ncap (most a b c : Nat) : Nat := min most (a * b / c)
def nfrac (p : Par) (l : List Nt) (h : Int) (stake total : Nat) : Nat × Int :=
  if (nnoted p l h).2 ≠ 0 then (0, (nnoted p l h).2) else if 4611686018427387904 < stake ∨ 4611686018427387904 < total then (0, 12) else if total = 0 then (p.base.toNat, 0)
  else (min (ncap 1000000000 (p.mult.toNat * 1000000000) (min ((nnoted p l h).1 + stake) 4611686018427387904) total + p.base.toNat) 1000000000, 0)
theorem nsum_cons (x : Nt) (l : List Nt) : nsum (x :: l) = min (nsum l + x.s) 4611686018427387904 := by
  unfold nsum; simp only [List.map_cons, List.sum_cons]; omega
theorem nsum_le (l : List Nt) : nsum l ≤ 4611686018427387904 := by unfold nsum; omega
end Go.Proofs.YtghohakbepeffaaGreatDoor
namespace Go.Proofs.YtghohakbepeffaaGreatDoor
set_option maxRecDepth 100000
set_option maxHeartbeats 4000000
open Go Go.RowKit Go.Own Go.Shelf
section
variable {P : Program} {o : Oper} {ρ : Operand → Value} {w w' : World}
theorem exec_ext (f : FuncId) (args : Array Value) (v : Value) (hc : o.op = .call { callee := .value (.func f), args := callArgs o, argTypes := callTypes o }) (hρ : ρ (.func f) = .func (.func f) #[] #[]) (hargs : (callArgs o).map ρ = args)
    (he : (callFunc f args).run P w = .ok (.value v) w') : (execOp ρ o).run P w = .ok (.value v) w' := by
  unfold execOp
  simp only [hc, resolve, hargs, hρ, Sem.run_bind, Deferred.ofValue, Sem.run_pure, Result.andThen_ok, invoke, Array.append_empty, Array.empty_append, he]
theorem exec_extI (x : Operand) (name : String) (v r : Value) (args : Array Value) (hc : o.op = .call { callee := .invoke x name, args := callArgs o, argTypes := callTypes o }) (hx : ρ x = v) (hargs : (callArgs o).map ρ = args)
    (hm : (callMethod v name args).run P w = .ok (.value r) w') : (execOp ρ o).run P w = .ok (.value r) w' := by
  unfold execOp
  simp only [hc, resolve, hx, hargs, Sem.run_bind, Sem.run_pure, Result.andThen_ok, invoke]
  have h0 : ((#[v] ++ args)[0]? : Option Value) = some v := (Array.getElem?_append_left (by simp)).trans rfl
  have h1 : (#[v] ++ args).extract 1 (#[v] ++ args).size = args := by
    apply Array.toList_inj.1
    rw [Array.toList_extract]
    simp [List.extract, List.take_of_length_le]
  simp only [h0, h1]
  rw [hm]
end
/-- A type as reflectlite's value of it. -/
def tyV (t : Nat) : Value := .iface 171 (.agg #[.pointer (some ⟨3, t, none⟩)])
/-- A Value of reflectlite's. -/
def rlv (t : Nat) (a : Addr) (f : Int) : Value := .agg #[.pointer (some ⟨3, t, none⟩), .pointer (some a), .int .u64 f]
theorem e_valueW (t : Addr) (w : World) : (callFunc 89 #[.iface 120 (.pointer (some t))]).run Tryz.prog w = .ok (.value (rlv 120 ⟨w.heap.size, 0, none⟩ 150)) (w.alloc (.cells #[.pointer (some t)] 120)) := by kernel_rfl
theorem e_valueE (t : Addr) (w : World) : (callFunc 89 #[.iface 121 (.pointer (some t))]).run Tryz.prog w = .ok (.value (rlv 121 ⟨w.heap.size, 0, none⟩ 150)) (w.alloc (.cells #[.pointer (some t)] 121)) := by kernel_rfl
theorem e_valueW2 (x y : Value) (w : World) : (callFunc 89 #[.iface 118 (.agg #[x, y])]).run Tryz.prog w = .ok (.value (rlv 118 ⟨w.heap.size, 0, none⟩ 153)) (w.alloc (.cells #[x, y] 118)) := by kernel_rfl
theorem e_valueE2 (n : Int) (w : World) : (callFunc 89 #[.iface 27 (.int .i64 n)]).run Tryz.prog w = .ok (.value (rlv 27 ⟨w.heap.size, 0, none⟩ 130)) (w.alloc (.cells #[.int .i64 n] 27)) := by kernel_rfl
theorem e_typeW (a : Addr) (w : World) : (callFunc 90 #[rlv 120 a 150]).run Tryz.prog w = .ok (.value (tyV 120)) w := by kernel_rfl
theorem e_typeE (a : Addr) (w : World) : (callFunc 90 #[rlv 121 a 150]).run Tryz.prog w = .ok (.value (tyV 121)) w := by kernel_rfl
theorem e_kindW (w : World) : (callMethod (tyV 120) "Kind" #[]).run Tryz.prog w = .ok (.value (.int .u8 22)) w := by kernel_rfl
theorem e_kindE (w : World) : (callMethod (tyV 121) "Kind" #[]).run Tryz.prog w = .ok (.value (.int .u8 22)) w := by kernel_rfl
theorem e_kindW2 (w : World) : (callMethod (tyV 118) "Kind" #[]).run Tryz.prog w = .ok (.value (.int .u8 25)) w := by kernel_rfl
theorem e_kindE2 (w : World) : (callMethod (tyV 27) "Kind" #[]).run Tryz.prog w = .ok (.value (.int .u8 2)) w := by kernel_rfl
theorem e_elemW (w : World) : (callMethod (tyV 120) "Elem" #[]).run Tryz.prog w = .ok (.value (tyV 118)) w := by kernel_rfl
theorem e_elemE (w : World) : (callMethod (tyV 121) "Elem" #[]).run Tryz.prog w = .ok (.value (tyV 27)) w := by kernel_rfl
theorem e_implW (w : World) : (callMethod (tyV 118) "Implements" #[tyV 88]).run Tryz.prog w = .ok (.value (.bool true)) w := by kernel_rfl
theorem e_implE (w : World) : (callMethod (tyV 27) "Implements" #[tyV 88]).run Tryz.prog w = .ok (.value (.bool true)) w := by kernel_rfl
theorem e_typeOfW (v : Value) (w : World) : (callFunc 102 #[.iface 118 v]).run Tryz.prog w = .ok (.value (tyV 118)) w := by kernel_rfl
theorem e_typeOfE (v : Value) (w : World) : (callFunc 102 #[.iface 27 v]).run Tryz.prog w = .ok (.value (tyV 27)) w := by kernel_rfl
theorem e_asWW (w : World) : (callMethod (tyV 118) "AssignableTo" #[tyV 118]).run Tryz.prog w = .ok (.value (.bool true)) w := by kernel_rfl
theorem e_asEE (w : World) : (callMethod (tyV 27) "AssignableTo" #[tyV 27]).run Tryz.prog w = .ok (.value (.bool true)) w := by kernel_rfl
theorem e_asWE (w : World) : (callMethod (tyV 118) "AssignableTo" #[tyV 27]).run Tryz.prog w = .ok (.value (.bool false)) w := by kernel_rfl
end Go.Proofs.YtghohakbepeffaaGreatDoor
namespace Go.Proofs.YtghohakbepeffaaGreatDoor
set_option maxRecDepth 100000
set_option maxHeartbeats 4000000
open Go Go.RowKit Go.Own Go.Shelf Go.Extern
theorem rl_m (z : Sem Value) (f : TypeId → Addr → Nat → Nat → Sem Value) (v : Value) :
    ReflectliteValue.method z f #[v] = (do match ← ReflectliteValue.parts v with | none => z | some (t, a, fl) => f t a fl (fl % 32)) := rfl
theorem rl_s (v x : Value) : ReflectliteValue.set #[v, x] = (do
    let (some (dst, a, fl), some (src, b, _)) := (← ReflectliteValue.parts v, ← ReflectliteValue.parts x)
      | unsupported (.noEntry "extern/(internal/reflectlite.Value).Set.zeroValue")
    if fl / ReflectliteValue.flagAddr % 2 == 0 then unsupported (.noEntry "extern/(internal/reflectlite.Value).Set.unaddressable")
    let val ← loadVar src b
    if ← Rtype.directlyAssignable dst src then storeVar dst a val
    else if ← Rtype.implements dst src then
      if (← Rtype.kind src) == 20 then
        match val with
        | .nilIface => unsupported (.noEntry "extern/reflectlite: a nil value of one interface type handed on as a value of another")
        | _ => storeVar dst a val
      else storeVar dst a (.iface src val)
    else panicString ("reflectlite.Set: value of type " ++ (← Rtype.spelt src) ++ " is not assignable to type " ++ (← Rtype.spelt dst))
    pure (.tuple #[])) := rfl
theorem parts_W (a : Addr) (w : World) : (ReflectliteValue.parts (rlv 120 a 150)).run Tryz.prog w = .ok (some (120, a, 150)) w := by kernel_rfl
theorem parts_E (a : Addr) (w : World) : (ReflectliteValue.parts (rlv 121 a 150)).run Tryz.prog w = .ok (some (121, a, 150)) w := by kernel_rfl
theorem parts_W2 (a : Addr) (w : World) : (ReflectliteValue.parts (rlv 118 a 153)).run Tryz.prog w = .ok (some (118, a, 153)) w := by kernel_rfl
theorem parts_E2 (a : Addr) (w : World) : (ReflectliteValue.parts (rlv 27 a 130)).run Tryz.prog w = .ok (some (27, a, 130)) w := by kernel_rfl
theorem parts_W3 (a : Addr) (w : World) : (ReflectliteValue.parts (rlv 118 a 409)).run Tryz.prog w = .ok (some (118, a, 409)) w := by kernel_rfl
theorem parts_E3 (a : Addr) (w : World) : (ReflectliteValue.parts (rlv 27 a 386)).run Tryz.prog w = .ok (some (27, a, 386)) w := by kernel_rfl
theorem e_isnilW (b : Nat) (p : Addr) (W : World) (hb : W.heap[b]? = some (.cells #[.pointer (some p)] 120 (0, 0))) : (callFunc 91 #[rlv 120 ⟨b, 0, none⟩ 150]).run Tryz.prog W = .ok (.value (.bool false)) W := by
  have ha := (cell_of_row W b 0 _ _ _ hb).trans (by rfl : _ = some (Value.pointer (some p)))
  have h := @run_callFunc_extern Tryz.prog 91 _ (ReflectliteValue.method (ReflectliteValue.valueError "reflectlite.Value.IsNil" 0) ReflectliteValue.isNil) Tryz.func91 (by kernel_rfl) (by kernel_rfl) (by kernel_rfl) (by kernel_rfl) #[rlv 120 ⟨b, 0, none⟩ 150] W
  rw [h, rl_m]
  simp only [Sem.run_bind, parts_W, Result.andThen]
  simp [ReflectliteValue.isNil, loadVar, isAgg, underlying, Tryz.underlying120, ha, Result.andThen]
theorem e_isnilE (b : Nat) (p : Addr) (W : World) (hb : W.heap[b]? = some (.cells #[.pointer (some p)] 121 (0, 0))) : (callFunc 91 #[rlv 121 ⟨b, 0, none⟩ 150]).run Tryz.prog W = .ok (.value (.bool false)) W := by
  have ha := (cell_of_row W b 0 _ _ _ hb).trans (by rfl : _ = some (Value.pointer (some p)))
  have h := @run_callFunc_extern Tryz.prog 91 _ (ReflectliteValue.method (ReflectliteValue.valueError "reflectlite.Value.IsNil" 0) ReflectliteValue.isNil) Tryz.func91 (by kernel_rfl) (by kernel_rfl) (by kernel_rfl) (by kernel_rfl) #[rlv 121 ⟨b, 0, none⟩ 150] W
  rw [h, rl_m]
  simp only [Sem.run_bind, parts_E, Result.andThen]
  simp [ReflectliteValue.isNil, loadVar, isAgg, underlying, Tryz.underlying121, ha, Result.andThen]
theorem elemOf_W (w : World) : (Rtype.elem? 120).run Tryz.prog w = .ok (some 118) w := by kernel_rfl
theorem elemOf_E (w : World) : (Rtype.elem? 121).run Tryz.prog w = .ok (some 27) w := by kernel_rfl
theorem mk_W (p : Addr) (w : World) : (ReflectliteValue.mk 118 p ReflectliteValue.flagAddr).run Tryz.prog w = .ok (rlv 118 p 409) w := by kernel_rfl
theorem mk_E (p : Addr) (w : World) : (ReflectliteValue.mk 27 p ReflectliteValue.flagAddr).run Tryz.prog w = .ok (rlv 27 p 386) w := by kernel_rfl
theorem e_elemVW (b : Nat) (p : Addr) (W : World) (hb : W.heap[b]? = some (.cells #[.pointer (some p)] 120 (0, 0))) : (callFunc 103 #[rlv 120 ⟨b, 0, none⟩ 150]).run Tryz.prog W = .ok (.value (rlv 118 p 409)) W := by
  have ha := (cell_of_row W b 0 _ _ _ hb).trans (by rfl : _ = some (Value.pointer (some p)))
  have h := @run_callFunc_extern Tryz.prog 103 _ (ReflectliteValue.method (ReflectliteValue.valueError "reflectlite.Value.Elem" 0) ReflectliteValue.elem) Tryz.func103 (by kernel_rfl) (by kernel_rfl) (by kernel_rfl) (by kernel_rfl) #[rlv 120 ⟨b, 0, none⟩ 150] W
  rw [h, rl_m]
  simp only [Sem.run_bind, parts_W, Result.andThen]
  simp [ReflectliteValue.elem, loadVar, isAgg, underlying, Tryz.underlying120, ha, Result.andThen, elemOf_W, mk_W]
theorem e_elemVE (b : Nat) (p : Addr) (W : World) (hb : W.heap[b]? = some (.cells #[.pointer (some p)] 121 (0, 0))) : (callFunc 103 #[rlv 121 ⟨b, 0, none⟩ 150]).run Tryz.prog W = .ok (.value (rlv 27 p 386)) W := by
  have ha := (cell_of_row W b 0 _ _ _ hb).trans (by rfl : _ = some (Value.pointer (some p)))
  have h := @run_callFunc_extern Tryz.prog 103 _ (ReflectliteValue.method (ReflectliteValue.valueError "reflectlite.Value.Elem" 0) ReflectliteValue.elem) Tryz.func103 (by kernel_rfl) (by kernel_rfl) (by kernel_rfl) (by kernel_rfl) #[rlv 121 ⟨b, 0, none⟩ 150] W
  rw [h, rl_m]
  simp only [Sem.run_bind, parts_E, Result.andThen]
  simp [ReflectliteValue.elem, loadVar, isAgg, underlying, Tryz.underlying121, ha, Result.andThen, elemOf_E, mk_E]
theorem direct_W (w : World) : (Rtype.directlyAssignable 118 118).run Tryz.prog w = .ok true w := by kernel_rfl
theorem direct_E (w : World) : (Rtype.directlyAssignable 27 27).run Tryz.prog w = .ok true w := by kernel_rfl
theorem e_setW (g b : Nat) (x y : Value) (cs : Array Value) (W : World) (hb : W.heap[b]? = some (.cells #[x, y] 118 (0, 0))) (hg : W.heap[g]? = some (.cells cs 118 (0, 0))) (hc : cs.size = 2) (hx : x.oneCell' = true) (hy : y.oneCell' = true) :
    (callFunc 104 #[rlv 118 ⟨g, 0, none⟩ 409, rlv 118 ⟨b, 0, none⟩ 153]).run Tryz.prog W = .ok (.value (.tuple #[])) (W.setRow g #[x, y]) := by
  have h := @run_callFunc_extern Tryz.prog 104 _ ReflectliteValue.set Tryz.func104 (by kernel_rfl) (by kernel_rfl) (by kernel_rfl) (by kernel_rfl) #[rlv 118 ⟨g, 0, none⟩ 409, rlv 118 ⟨b, 0, none⟩ 153] W
  have hl := run_loadVar_row (P := Tryz.prog) W b 118 118 #[x, y] (0, 0) _ hb Tryz.underlying118 rfl (by kernel_rfl)
  have hs := run_storeVar_row (P := Tryz.prog) W g 118 118 cs #[x, y] hg (by kernel_rfl) hc (by simp [hx, hy])
  rw [h, rl_s]
  simp only [Sem.run_bind, parts_W3, parts_W2, Result.andThen]
  simp [ReflectliteValue.flagAddr, hl, Result.andThen, direct_W, hs]
theorem e_setE (g b : Nat) (x o : Value) (W : World) (hb : W.heap[b]? = some (.cells #[x] 27 (0, 0))) (hg : W.heap[g]? = some (.cells #[o] 27 (0, 0))) (hx : x.oneCell' = true) :
    (callFunc 104 #[rlv 27 ⟨g, 0, none⟩ 386, rlv 27 ⟨b, 0, none⟩ 130]).run Tryz.prog W = .ok (.value (.tuple #[])) (W.setRow g #[x]) := by
  have h := @run_callFunc_extern Tryz.prog 104 _ ReflectliteValue.set Tryz.func104 (by kernel_rfl) (by kernel_rfl) (by kernel_rfl) (by kernel_rfl) #[rlv 27 ⟨g, 0, none⟩ 386, rlv 27 ⟨b, 0, none⟩ 130] W
  have ha := (cell_of_row W b 0 _ _ _ hb).trans (by rfl : _ = some x)
  have hs := run_storeVar_one (P := Tryz.prog) W g 27 27 o x hg (by kernel_rfl) hx
  rw [h, rl_s]
  simp only [Sem.run_bind, parts_E3, parts_E2, Result.andThen]
  simp [ReflectliteValue.flagAddr, loadVar, isAgg, underlying, Tryz.underlying27, ha, Result.andThen, direct_E, hs]
theorem e_unwrap (x y : Value) (args : Array Value) (w : World) : (callMethod (.iface 118 (.agg #[x, y])) "Unwrap" args).run Tryz.prog w = .ok (.enter 133 (#[.agg #[x, y]] ++ args)) w := by kernel_rfl
end Go.Proofs.YtghohakbepeffaaGreatDoor
namespace Go.Proofs.YtghohakbepeffaaGreatDoor
set_option maxRecDepth 100000
set_option maxHeartbeats 4000000
open Go Go.RowKit Go.Own Go.Shelf
theorem ps_callR {P : Program} {ops : Array Oper} {Q : Exit → Act → World → Prop} {a : Act} {w : World} {i : Nat} {rest : List Nat} (o : Oper) (f : FuncId) (args : Array Value) (ho : ops[i]? = some o) (hg : Region.wanted o (yielded ops a.tmps) = true)
    (hr : (execOp a.eval o).run P w = .ok (.enter f args) w) (h : Calls P f args w fun e w' => ∃ v, e = .returned v ∧ Gops P ops Q rest (a.put o.dst v) w') : Gops P ops Q (i :: rest) a w := by
  refine ⟨?_⟩
  rw [wpOps_cons]
  unfold wpOp
  simp only [ho, hg, if_true]
  refine .inl ?_
  unfold Oper.wp
  rw [hr]
  refine Calls.mono h fun e w' ⟨v, he, hv⟩ => ?_
  subst he
  exact hv.out
theorem exec_ta {P : Program} {o : Oper} {ρ : Operand → Value} {w : World} (x : Operand) (xT t : TypeId) (ho : o.op = .typeAssert x xT t true) (v r : Value) (hx : ρ x = v) (h : (Instr.typeAssert v xT t true).run P w = .ok r w) : (execOp ρ o).run P w = .ok (.value r) w := by
  unfold execOp
  simp only [ho, hx, Sem.run_bind, h, Result.andThen_ok, Sem.run_pure]
theorem unwrap_at (x y : Value) : MethodAt Tryz.prog (.iface 118 (.agg #[x, y])) "Unwrap" 133 (.agg #[x, y]) := fun args w => e_unwrap x y args w
/-- The package variable of errors: the type of an error. -/
def ErrTab (w : World) : Prop := w.cell? ⟨0, 0, none⟩ = some (.iface 171 (.agg #[.pointer (some ⟨3, 88, none⟩)]))
theorem ErrTab.keeps {w w' : World} (h : ErrTab w) (k : Keeps Nob w w') : ErrTab w' := (k.cell (World.block_lt_of_cell? w _ h) (fun x => x)).trans h
theorem ErrTab.lt {w : World} (h : ErrTab w) : 0 < w.heap.size := World.block_lt_of_cell? w _ h
noncomputable def qc28_0 (n : Nat) : Code := partOf Tryz.f133 n
theorem unwrap_ok (x y : Value) (w : World) :
    Calls Tryz.prog 133 #[.agg #[x, y]] w (fun e w' => e = .returned (y) ∧ Keeps Nob w w') := by
  have K0 : Keeps Nob w w := Keeps.refl _ _
  refine sy_enter (qc28_0 1) ⟨#[.agg #[x, y], ud, ud, ud, ud], []⟩ Tryz.func133 (by kernel_rfl) (by kernel_rfl) <| qr_ [0, 1] <| pbx 118 (#[x, y]) (.agg #[x, y]) fun V1 gu egu h2 kV1 => ?_
  have n3 : w.heap.size ≤ gu := egu ▸ K0.size
  have K4 := K0.nn kV1
  have z5 := kV1.size
  refine pkq (.nilIface) <| eqr_ [0, 1, 2] <| pkq (pT gu 1) <| ppq (y) (ldk 88 gu 1 h2) <| pkq (y) <| eu_ <| so_ (y) ?_
  exact ⟨rfl, K4⟩
noncomputable def qc28_2 (n : Nat) : Code := partOf Tryz.f92 n
noncomputable abbrev qo28_2 (n k : Nat) : Oper := (opsAt (qc28_2 n)).getD k default
theorem as_wrong (x y : Value) (g b : Nat) (cs : Array Value) (w : World) (hcs : cs.size = 2) (hx1 : x.oneCell' = true) (hy1 : y.oneCell' = true) (hg : w.heap[g]? = some (.cells cs 118 (0, 0))) (hb : w.heap[b]? = some (.cells #[.pointer (some ⟨g, 0, none⟩)] 120 (0, 0))) (hgb : g ≠ b) :
    Calls Tryz.prog 92 #[.iface 118 (.agg #[x, y]), .iface 120 (.pointer (some ⟨g, 0, none⟩)), .agg #[.pointer (some ⟨3, 120, none⟩), .pointer (some ⟨b, 0, none⟩), .int .u64 150], .iface 171 (.agg #[.pointer (some ⟨3, 118, none⟩)])] w (fun e w' => e = .returned (.bool true) ∧ w'.heap[g]? = some (.cells #[x, y] 118 (0, 0)) ∧ Keeps (One g) w w') := by
  have hgl := lt_of_block hg
  have hbl := lt_of_block hb
  have K0 : Keeps (One g) w w := Keeps.refl _ _
  refine sy_enter (qc28_2 1) ⟨#[.iface 118 (.agg #[x, y]), .iface 120 (pT g 0), .agg #[.pointer (some ⟨3, 120, none⟩), pT b 0, .int .u64 150], .iface 171 (.agg #[.pointer (some ⟨3, 118, none⟩)]), ud, ud, ud, ud, ud, ud, ud, ud, ud, ud, ud, ud, ud, ud, ud, ud, ud, ud, ud, ud, ud, ud, ud, ud, ud, ud, ud, ud, ud, ud, ud, ud, ud, ud, ud, ud, ud, ud, ud, ud, ud, ud, ud, ud, ud, ud, ud, ud, ud, ud, ud, ud, ud, ud, ud, ud, ud, ud], []⟩ Tryz.func92 (by kernel_rfl) (by kernel_rfl) <| qr_ [0, 1] <| pbx 143 (#[.pointer (some ⟨3, 120, none⟩), .pointer (some ⟨b, 0, none⟩), .int .u64 150]) (.agg #[.pointer (some ⟨3, 120, none⟩), pT b 0, .int .u64 150]) fun V1 gv egv h2 kV1 => ?_
  have n3 : g < gv := egv ▸ lt_of_block hg
  have n4 : b < gv := egv ▸ lt_of_block hb
  have n5 : w.heap.size ≤ gv := egv ▸ K0.size
  have h6 := kV1.bk hg
  have h7 := kV1.bk hb
  have K8 := K0.nn kV1
  have z9 := kV1.size
  refine pkq (.bool false) <| et_ <| bl_ 0 <| sy_rounds 1 (qc28_2 12) (by kernel_rfl) <| rd_step <| bl_ 1 <| q_ <| qr_ [0, 1, 2, 3] <| pkq (.iface 118 (.agg #[x, y])) <| ppq (.iface 171 (.agg #[.pointer (some ⟨3, 118, none⟩)])) (exec_ext 102 #[.iface 118 (.agg #[x, y])] _ (by kernel_rfl) (by kernel_rfl) (by kernel_rfl) (e_typeOfW _ _)) <| pkq (.iface 171 (.agg #[.pointer (some ⟨3, 118, none⟩)])) <| ppq (.bool true) (exec_extI (.tmp 17) "AssignableTo" (.iface 171 (.agg #[.pointer (some ⟨3, 118, none⟩)])) _ #[.iface 171 (.agg #[.pointer (some ⟨3, 118, none⟩)])] (by kernel_rfl) (by kernel_rfl) (by kernel_rfl) (e_asWW _)) <| ey_ <| qr_ [0, 1, 2, 3, 4] ?_
  refine ppq (.agg #[.pointer (some ⟨3, 120, none⟩), pT b 0, .int .u64 150]) (ldr 143 gv (h2) (by kernel_rfl)) <| ppq (.agg #[.pointer (some ⟨3, 118, none⟩), pT g 0, .int .u64 409]) (exec_ext 103 #[.agg #[.pointer (some ⟨3, 120, none⟩), pT b 0, .int .u64 150]] _ (by kernel_rfl) (by kernel_rfl) (by kernel_rfl) (e_elemVW b ⟨g, 0, none⟩ _ h7)) <| pkq (.iface 118 (.agg #[x, y])) ?_
  obtain ⟨V10, eV10, b2, eb2, h11, kV10⟩ := alloc_step V1 #[x, y] 118
  have n12 : g < b2 := eb2 ▸ lt_of_block h6
  have n13 : b < b2 := eb2 ▸ lt_of_block h7
  have n14 : gv < b2 := eb2 ▸ lt_of_block h2
  have n15 : w.heap.size ≤ b2 := eb2 ▸ K8.size
  refine prq (.agg #[.pointer (some ⟨3, 118, none⟩), pT b2 0, .int .u64 153]) (w' := V10) (by rw [← eV10, ← eb2]; exact exec_ext 89 #[.iface 118 (.agg #[x, y])] _ (by kernel_rfl) (by kernel_rfl) (by kernel_rfl) (e_valueW2 x y _)) ?_
  clear eV10
  have h16 := kV10.bk h6
  have K19 := K8.nn kV10
  have z20 := kV10.size
  obtain ⟨V21, eV21, kV21⟩ := rowset_step V10 g #[x, y]
  have h22 : V21.heap[g]? = some (.cells (#[x, y]) 118 (0, 0)) := eV21 ▸ setRow_heap _ _ _ _ _ _ h16
  refine prq (.tuple #[]) (w' := V21) (by rw [← eV21]; exact exec_ext 104 #[.agg #[.pointer (some ⟨3, 118, none⟩), pT g 0, .int .u64 409], .agg #[.pointer (some ⟨3, 118, none⟩), pT b2 0, .int .u64 153]] _ (by kernel_rfl) (by kernel_rfl) (by kernel_rfl) (e_setW g b2 x y _ _ h11 h16 hcs hx1 hy1)) ?_
  clear eV21
  have K26 : Keeps (One g) w V21 := K19.then kV21 (fun i hi hm => by unfold Own.One at hm; subst hm; exact rfl)
  have z27 := kV21.size
  refine eqr_ [0] <| pkq (.bool true) <| eu_ <| then_r <| blk_r <| then_r <| blk_r <| so_ (.bool true) ?_
  exact ⟨rfl, h22, K26⟩
theorem as_wrap (x : Value) (n m : Int) (g b : Nat) (w : World) (hg : w.heap[g]? = some (.cells #[.int .i64 m] 27 (0, 0))) (hb : w.heap[b]? = some (.cells #[.pointer (some ⟨g, 0, none⟩)] 121 (0, 0))) (hgb : g ≠ b) :
    Calls Tryz.prog 92 #[.iface 118 (.agg #[x, .iface 27 (.int .i64 n)]), .iface 121 (.pointer (some ⟨g, 0, none⟩)), .agg #[.pointer (some ⟨3, 121, none⟩), .pointer (some ⟨b, 0, none⟩), .int .u64 150], .iface 171 (.agg #[.pointer (some ⟨3, 27, none⟩)])] w (fun e w' => e = .returned (.bool true) ∧ w'.heap[g]? = some (.cells #[.int .i64 n] 27 (0, 0)) ∧ Keeps (One g) w w') := by
  have hgl := lt_of_block hg
  have hbl := lt_of_block hb
  have K0 : Keeps (One g) w w := Keeps.refl _ _
  refine sy_enter (qc28_2 1) ⟨#[.iface 118 (.agg #[x, .iface 27 (.int .i64 n)]), .iface 121 (pT g 0), .agg #[.pointer (some ⟨3, 121, none⟩), pT b 0, .int .u64 150], .iface 171 (.agg #[.pointer (some ⟨3, 27, none⟩)]), ud, ud, ud, ud, ud, ud, ud, ud, ud, ud, ud, ud, ud, ud, ud, ud, ud, ud, ud, ud, ud, ud, ud, ud, ud, ud, ud, ud, ud, ud, ud, ud, ud, ud, ud, ud, ud, ud, ud, ud, ud, ud, ud, ud, ud, ud, ud, ud, ud, ud, ud, ud, ud, ud, ud, ud, ud, ud], []⟩ Tryz.func92 (by kernel_rfl) (by kernel_rfl) <| qr_ [0, 1] <| pbx 143 (#[.pointer (some ⟨3, 121, none⟩), .pointer (some ⟨b, 0, none⟩), .int .u64 150]) (.agg #[.pointer (some ⟨3, 121, none⟩), pT b 0, .int .u64 150]) fun V1 gv egv h2 kV1 => ?_
  have n3 : g < gv := egv ▸ lt_of_block hg
  have n4 : b < gv := egv ▸ lt_of_block hb
  have n5 : w.heap.size ≤ gv := egv ▸ K0.size
  have h6 := kV1.bk hg
  have h7 := kV1.bk hb
  have K8 := K0.nn kV1
  have z9 := kV1.size
  refine pkq (.bool false) <| et_ <| bl_ 0 <| sy_rounds 2 (qc28_2 12) (by kernel_rfl) <| rd_step <| bl_ 1 <| q_ <| qr_ [0, 1, 2, 3] <| pkq (.iface 118 (.agg #[x, .iface 27 (.int .i64 n)])) <| ppq (.iface 171 (.agg #[.pointer (some ⟨3, 118, none⟩)])) (exec_ext 102 #[.iface 118 (.agg #[x, .iface 27 (.int .i64 n)])] _ (by kernel_rfl) (by kernel_rfl) (by kernel_rfl) (e_typeOfW _ _)) <| pkq (.iface 171 (.agg #[.pointer (some ⟨3, 27, none⟩)])) <| ppq (.bool false) (exec_extI (.tmp 17) "AssignableTo" (.iface 171 (.agg #[.pointer (some ⟨3, 118, none⟩)])) _ #[.iface 171 (.agg #[.pointer (some ⟨3, 27, none⟩)])] (by kernel_rfl) (by kernel_rfl) (by kernel_rfl) (e_asWE _)) <| en_ <| s_ ?_
  refine tq_ <| qr_ [0, 1, 2, 3, 4, 5, 6] <| pkq (.iface 118 (.agg #[x, .iface 27 (.int .i64 n)])) <| ppq (.tuple #[.nilIface, .bool false]) (exec_ta (.tmp 26) 88 176 (by kernel_rfl) (.iface 118 (.agg #[x, .iface 27 (.int .i64 n)])) _ (by kernel_rfl) (run_typeAssert_lacksB Tryz.underlying176 (by kernel_rfl) (by kernel_rfl) _ _ _)) <| pkq (.tuple #[.nilIface, .bool false]) <| pkq (.nilIface) <| pkq (.bool false) <| pkq (.nilIface) <| pkq (.bool false) <| eqr_ [0, 1, 2, 3, 4, 5] <| pkq (.bool false) <| pkq (.bool false) <| pnq <| pnq ?_
  refine pnq <| pkq (.bool false) <| en_ <| s_ <| tqr_ [0] <| pkq (.iface 118 (.agg #[x, .iface 27 (.int .i64 n)])) <| et_ <| bl_ 2 <| qr_ [0, 1, 2] <| ppq (.tuple #[.iface 118 (.agg #[x, .iface 27 (.int .i64 n)]), .bool true]) (exec_ta (.tmp 36) 88 179 (by kernel_rfl) (.iface 118 (.agg #[x, .iface 27 (.int .i64 n)])) _ (by kernel_rfl) (run_typeAssert_hasB Tryz.underlying179 (by kernel_rfl) _ _ _)) <| pkq (.bool true) <| pkq (.iface 118 (.agg #[x, .iface 27 (.int .i64 n)])) <| ey_ <| qr_ [0] ?_
  refine pkq (.iface 118 (.agg #[x, .iface 27 (.int .i64 n)])) <| ps_end <| sy_a ⟨#[.iface 118 (.agg #[x, .iface 27 (.int .i64 n)]), .iface 121 (pT g 0), .agg #[.pointer (some ⟨3, 121, none⟩), pT b 0, .int .u64 150], .iface 171 (.agg #[.pointer (some ⟨3, 27, none⟩)]), ud, ud, pT gv 0, ud, .bool false, .nilIface, .bool false, .iface 118 (.agg #[x, .iface 27 (.int .i64 n)]), ud, ud, ud, ud, .iface 118 (.agg #[x, .iface 27 (.int .i64 n)]), .iface 171 (.agg #[.pointer (some ⟨3, 118, none⟩)]), .iface 171 (.agg #[.pointer (some ⟨3, 27, none⟩)]), .bool false, ud, ud, ud, ud, ud, .tuple #[.nilIface, .bool false], .iface 118 (.agg #[x, .iface 27 (.int .i64 n)]), .tuple #[.nilIface, .bool false], .nilIface, .bool false, .bool false, .bool false, ud, ud, ud, .bool false, .iface 118 (.agg #[x, .iface 27 (.int .i64 n)]), .tuple #[.iface 118 (.agg #[x, .iface 27 (.int .i64 n)]), .bool true], .bool true, .iface 118 (.agg #[x, .iface 27 (.int .i64 n)]), ud, ud, ud, ud, ud, ud, ud, ud, ud, ud, ud, ud, ud, ud, ud, ud, ud, ud, ud, ud, ud, ud], []⟩ <| tqr_ [0, 1, 2] <| pkq (.iface 118 (.agg #[x, .iface 27 (.int .i64 n)])) ?_
  refine ps_callR (qo28_2 6378 1) 133 #[.agg #[x, .iface 27 (.int .i64 n)]] (by kernel_rfl) (by kernel_rfl) (run_invoke (qo28_2 6378 1) (.tmp 40) "Unwrap" (.iface 118 (.agg #[x, .iface 27 (.int .i64 n)])) 133 (.agg #[x, .iface 27 (.int .i64 n)]) #[] #[.agg #[x, .iface 27 (.int .i64 n)]] (by kernel_rfl) (by kernel_rfl) (by kernel_rfl) (unwrap_at _ _) (by kernel_rfl)) ((unwrap_ok x (.iface 27 (.int .i64 n)) _).mono ?_)
  rintro e V10 ⟨rfl, kV10⟩
  refine ⟨_, rfl, ?_⟩
  have h11 := kV10.bk h6
  have h12 := kV10.bk h7
  have h13 := kV10.bk h2
  have K14 := K8.nn kV10
  have z15 := kV10.size
  refine pkq (.iface 27 (.int .i64 n)) <| eqr_ [0, 1] <| pkq (.iface 27 (.int .i64 n)) <| pkq (.bool false) <| en_ <| s_ <| blk_n <| blk_n <| then_n <| rd_step <| bl_ 1 <| q_ <| qr_ [0, 1, 2, 3] <| pkq (.iface 27 (.int .i64 n)) ?_
  refine ppq (.iface 171 (.agg #[.pointer (some ⟨3, 27, none⟩)])) (exec_ext 102 #[.iface 27 (.int .i64 n)] _ (by kernel_rfl) (by kernel_rfl) (by kernel_rfl) (e_typeOfE _ _)) <| pkq (.iface 171 (.agg #[.pointer (some ⟨3, 27, none⟩)])) <| ppq (.bool true) (exec_extI (.tmp 17) "AssignableTo" (.iface 171 (.agg #[.pointer (some ⟨3, 27, none⟩)])) _ #[.iface 171 (.agg #[.pointer (some ⟨3, 27, none⟩)])] (by kernel_rfl) (by kernel_rfl) (by kernel_rfl) (e_asEE _)) <| ey_ <| qr_ [0, 1, 2, 3, 4] <| ppq (.agg #[.pointer (some ⟨3, 121, none⟩), pT b 0, .int .u64 150]) (ldr 143 gv (h13) (by kernel_rfl)) <| ppq (.agg #[.pointer (some ⟨3, 27, none⟩), pT g 0, .int .u64 386]) (exec_ext 103 #[.agg #[.pointer (some ⟨3, 121, none⟩), pT b 0, .int .u64 150]] _ (by kernel_rfl) (by kernel_rfl) (by kernel_rfl) (e_elemVE b ⟨g, 0, none⟩ _ h12)) <| pkq (.iface 27 (.int .i64 n)) ?_
  obtain ⟨V16, eV16, b2, eb2, h17, kV16⟩ := alloc_step V10 #[.int .i64 n] 27
  have n18 : g < b2 := eb2 ▸ lt_of_block h11
  have n19 : b < b2 := eb2 ▸ lt_of_block h12
  have n20 : gv < b2 := eb2 ▸ lt_of_block h13
  have n21 : w.heap.size ≤ b2 := eb2 ▸ K14.size
  refine prq (.agg #[.pointer (some ⟨3, 27, none⟩), pT b2 0, .int .u64 130]) (w' := V16) (by rw [← eV16, ← eb2]; exact exec_ext 89 #[.iface 27 (.int .i64 n)] _ (by kernel_rfl) (by kernel_rfl) (by kernel_rfl) (e_valueE2 n _)) ?_
  clear eV16
  have h22 := kV16.bk h11
  have K25 := K14.nn kV16
  have z26 := kV16.size
  obtain ⟨V27, eV27, kV27⟩ := rowset_step V16 g #[.int .i64 n]
  have h28 : V27.heap[g]? = some (.cells (#[.int .i64 n]) 27 (0, 0)) := eV27 ▸ setRow_heap _ _ _ _ _ _ h22
  refine prq (.tuple #[]) (w' := V27) (by rw [← eV27]; exact exec_ext 104 #[.agg #[.pointer (some ⟨3, 27, none⟩), pT g 0, .int .u64 386], .agg #[.pointer (some ⟨3, 27, none⟩), pT b2 0, .int .u64 130]] _ (by kernel_rfl) (by kernel_rfl) (by kernel_rfl) (e_setE g b2 (.int .i64 n) (.int .i64 m) _ h17 h22 rfl)) ?_
  clear eV27
  have K32 : Keeps (One g) w V27 := K25.then kV27 (fun i hi hm => by unfold Own.One at hm; subst hm; exact rfl)
  have z33 := kV27.size
  refine eqr_ [0] <| pkq (.bool true) <| eu_ <| then_r <| blk_r <| then_r <| blk_r <| so_ (.bool true) ?_
  exact ⟨rfl, h28, K32⟩
noncomputable def qc28_3 (n : Nat) : Code := partOf Tryz.f77 n
theorem As_wrong (x y : Value) (g : Nat) (cs : Array Value) (w : World) (hcs : cs.size = 2) (hx1 : x.oneCell' = true) (hy1 : y.oneCell' = true) (hg : w.heap[g]? = some (.cells cs 118 (0, 0))) (het : ErrTab w) :
    Calls Tryz.prog 77 #[.iface 118 (.agg #[x, y]), .iface 120 (.pointer (some ⟨g, 0, none⟩))] w (fun e w' => e = .returned (.bool true) ∧ w'.heap[g]? = some (.cells #[x, y] 118 (0, 0)) ∧ Keeps (One g) w w') := by
  have hgl := lt_of_block hg
  have K0 : Keeps (One g) w w := Keeps.refl _ _
  refine sy_enter (qc28_3 1) ⟨#[.iface 118 (.agg #[x, y]), .iface 120 (pT g 0), ud, ud, ud, ud, ud, ud, ud, ud, ud, ud, ud, ud, ud, ud, ud, ud, ud, ud, ud, ud, ud, ud, ud, ud, ud, ud, ud, ud, ud, ud, ud, ud, ud, ud, ud, ud, ud, ud, ud, ud], []⟩ Tryz.func77 (by kernel_rfl) (by kernel_rfl) <| qr_ [0] <| pkq (.bool false) <| eq_ <| qr_ [0, 1] <| pkq (.iface 118 (.agg #[x, y])) <| pkq (.bool false) <| en_ <| s_ <| tq_ <| qr_ [0, 1] <| pkq (.iface 120 (pT g 0)) <| pkq (.bool false) <| en_ ?_
  refine s_ <| tqr_ [0, 1, 2, 3] <| pkq (.iface 120 (pT g 0)) ?_
  obtain ⟨V1, eV1, b, eb, h2, kV1⟩ := alloc_step w #[.pointer (some ⟨g, 0, none⟩)] 120
  have n3 : g < b := eb ▸ lt_of_block hg
  have n4 : w.heap.size ≤ b := eb ▸ K0.size
  refine prq (.agg #[.pointer (some ⟨3, 120, none⟩), pT b 0, .int .u64 150]) (w' := V1) (by rw [← eV1, ← eb]; exact exec_ext 89 #[.iface 120 (pT g 0)] _ (by kernel_rfl) (by kernel_rfl) (by kernel_rfl) (e_valueW ⟨g, 0, none⟩ _)) ?_
  clear eV1
  have h5 := kV1.bk hg
  have h6 : ErrTab V1 := ErrTab.keeps het kV1
  have K7 := K0.nn kV1
  have z8 := kV1.size
  refine pal 143 (#[.pointer none, .pointer none, .int .u64 0]) (.agg (#[.pointer none, .pointer none, .int .u64 0])) fun V9 gv egv h10 kV9 => ?_
  have n11 : g < gv := egv ▸ lt_of_block h5
  have n12 : b < gv := egv ▸ lt_of_block h2
  have n13 : w.heap.size ≤ gv := egv ▸ K7.size
  have h14 := kV9.bk h5
  have h15 : ErrTab V9 := ErrTab.keeps h6 kV9
  have h16 := kV9.bk h2
  have K17 := K7.nn kV9
  have z18 := kV9.size
  obtain ⟨V19, eV19, kV19⟩ := rowset_step V9 gv (#[.pointer (some ⟨3, 120, none⟩), .pointer (some ⟨b, 0, none⟩), .int .u64 150])
  have h20 : V19.heap[gv]? = some (.cells (#[.pointer (some ⟨3, 120, none⟩), .pointer (some ⟨b, 0, none⟩), .int .u64 150]) 143 (0, 0)) := eV19 ▸ setRow_heap _ _ _ _ _ _ h10
  refine pzq (w' := V19) (by rw [← eV19]; exact exec_store_row 143 (.tmp 5) (.tmp 14) (by kernel_rfl) gv (#[.pointer (some ⟨3, 120, none⟩), pT b 0, .int .u64 150]) (by kernel_rfl) (by kernel_rfl) 143 (#[.pointer none, .pointer none, .int .u64 0]) h10 (by kernel_rfl) rfl (by kernel_rfl)) ?_
  clear eV19
  have h21 := kV19.bO h14
  have h22 : ErrTab V19 := (kV19.cell (ErrTab.lt h15) (by intro e; unfold Own.One at e; omega)).trans h15
  have h23 := kV19.bO h16
  have K24 := K17.nO kV19
  have z25 := kV19.size
  refine eqr_ [0, 1, 2] <| ppq (.agg #[.pointer (some ⟨3, 120, none⟩), pT b 0, .int .u64 150]) (ldr 143 gv (h20) (by kernel_rfl)) <| ppq (.iface 171 (.agg #[.pointer (some ⟨3, 120, none⟩)])) (exec_ext 90 #[.agg #[.pointer (some ⟨3, 120, none⟩), pT b 0, .int .u64 150]] _ (by kernel_rfl) (by kernel_rfl) (by kernel_rfl) (e_typeW ⟨b, 0, none⟩ _)) <| pkq (.iface 171 (.agg #[.pointer (some ⟨3, 120, none⟩)])) <| eq_ <| qr_ [0, 1, 2, 3, 4, 5, 6] <| pkq (.iface 171 (.agg #[.pointer (some ⟨3, 120, none⟩)])) <| ppq (.int .u8 22) (exec_extI (.tmp 17) "Kind" (.iface 171 (.agg #[.pointer (some ⟨3, 120, none⟩)])) _ #[] (by kernel_rfl) (by kernel_rfl) (by kernel_rfl) (e_kindW _)) <| pkq (.bool false) <| pkq (.bool false) <| ppq (.agg #[.pointer (some ⟨3, 120, none⟩), pT b 0, .int .u64 150]) (ldr 143 gv (h20) (by kernel_rfl)) <| ppq (.bool false) (exec_ext 91 #[.agg #[.pointer (some ⟨3, 120, none⟩), pT b 0, .int .u64 150]] _ (by kernel_rfl) (by kernel_rfl) (by kernel_rfl) (e_isnilW b ⟨g, 0, none⟩ _ h23)) <| pkq (.bool false) <| en_ ?_
  refine s_ <| tqr_ [0, 1, 2] <| pkq (.iface 171 (.agg #[.pointer (some ⟨3, 120, none⟩)])) <| ppq (.iface 171 (.agg #[.pointer (some ⟨3, 118, none⟩)])) (exec_extI (.tmp 25) "Elem" (.iface 171 (.agg #[.pointer (some ⟨3, 120, none⟩)])) _ #[] (by kernel_rfl) (by kernel_rfl) (by kernel_rfl) (e_elemW _)) <| pkq (.iface 171 (.agg #[.pointer (some ⟨3, 118, none⟩)])) <| eq_ <| qr_ [0, 1, 2, 3, 4, 5, 6, 7, 8] <| pkq (.iface 171 (.agg #[.pointer (some ⟨3, 118, none⟩)])) <| ppq (.int .u8 25) (exec_extI (.tmp 27) "Kind" (.iface 171 (.agg #[.pointer (some ⟨3, 118, none⟩)])) _ #[] (by kernel_rfl) (by kernel_rfl) (by kernel_rfl) (e_kindW2 _)) <| pkq (.bool true) <| pkq (.bool true) <| pkq (.iface 171 (.agg #[.pointer (some ⟨3, 118, none⟩)])) <| ppq (.iface 171 (.agg #[.pointer (some ⟨3, 88, none⟩)])) (exec_load_cell 146 (.global 0) (by kernel_rfl) ⟨0, 0, none⟩ (by kernel_rfl) _ _ Tryz.underlying146 rfl h22) <| ppq (.bool true) (exec_extI (.tmp 31) "Implements" (.iface 171 (.agg #[.pointer (some ⟨3, 118, none⟩)])) _ #[.iface 171 (.agg #[.pointer (some ⟨3, 88, none⟩)])] (by kernel_rfl) (by kernel_rfl) (by kernel_rfl) (e_implW _)) ?_
  refine pkq (.bool false) <| pkq (.bool false) <| ps_end <| sy_a ⟨#[.iface 118 (.agg #[x, y]), .iface 120 (pT g 0), ud, ud, .bool false, pT gv 0, .iface 171 (.agg #[.pointer (some ⟨3, 120, none⟩)]), .iface 171 (.agg #[.pointer (some ⟨3, 118, none⟩)]), .iface 118 (.agg #[x, y]), .bool false, .iface 120 (pT g 0), .bool false, ud, .iface 120 (pT g 0), .agg #[.pointer (some ⟨3, 120, none⟩), pT b 0, .int .u64 150], .agg #[.pointer (some ⟨3, 120, none⟩), pT b 0, .int .u64 150], .iface 171 (.agg #[.pointer (some ⟨3, 120, none⟩)]), .iface 171 (.agg #[.pointer (some ⟨3, 120, none⟩)]), .int .u8 22, .bool false, .bool false, .agg #[.pointer (some ⟨3, 120, none⟩), pT b 0, .int .u64 150], .bool false, .bool false, ud, .iface 171 (.agg #[.pointer (some ⟨3, 120, none⟩)]), .iface 171 (.agg #[.pointer (some ⟨3, 118, none⟩)]), .iface 171 (.agg #[.pointer (some ⟨3, 118, none⟩)]), .int .u8 25, .bool true, .bool true, .iface 171 (.agg #[.pointer (some ⟨3, 118, none⟩)]), .iface 171 (.agg #[.pointer (some ⟨3, 88, none⟩)]), .bool true, .bool false, .bool false, ud, ud, ud, ud, ud, ud], []⟩ <| then_n <| n_ <| s_ <| tqr_ [0, 1, 2, 3, 4, 5] <| pkq (.iface 118 (.agg #[x, y])) <| pkq (.iface 120 (pT g 0)) <| ppq (.agg #[.pointer (some ⟨3, 120, none⟩), pT b 0, .int .u64 150]) (ldr 143 gv (h20) (by kernel_rfl)) <| pkq (.iface 171 (.agg #[.pointer (some ⟨3, 118, none⟩)])) ?_
  refine pcq 92 #[.iface 118 (.agg #[x, y]), .iface 120 (pT g 0), .agg #[.pointer (some ⟨3, 120, none⟩), pT b 0, .int .u64 150], .iface 171 (.agg #[.pointer (some ⟨3, 118, none⟩)])] Tryz.func92 ((as_wrong x y g b cs _ hcs hx1 hy1 h21 h23 (by omega)).mono ?_)
  rintro e V26 ⟨rfl, hg2, kV26⟩
  refine ⟨_, rfl, ?_⟩
  have K29 : Keeps (One g) w V26 := K24.then kV26 (fun i hi hm => by unfold Own.One at hm; subst hm; exact rfl)
  have z30 := kV26.size
  refine pkq (.bool true) <| eu_ <| so_ (.bool true) ?_
  exact ⟨rfl, hg2, K29⟩
theorem As_wrap (x : Value) (n m : Int) (g : Nat) (w : World) (hg : w.heap[g]? = some (.cells #[.int .i64 m] 27 (0, 0))) (het : ErrTab w) :
    Calls Tryz.prog 77 #[.iface 118 (.agg #[x, .iface 27 (.int .i64 n)]), .iface 121 (.pointer (some ⟨g, 0, none⟩))] w (fun e w' => e = .returned (.bool true) ∧ w'.heap[g]? = some (.cells #[.int .i64 n] 27 (0, 0)) ∧ Keeps (One g) w w') := by
  have hgl := lt_of_block hg
  have K0 : Keeps (One g) w w := Keeps.refl _ _
  refine sy_enter (qc28_3 1) ⟨#[.iface 118 (.agg #[x, .iface 27 (.int .i64 n)]), .iface 121 (pT g 0), ud, ud, ud, ud, ud, ud, ud, ud, ud, ud, ud, ud, ud, ud, ud, ud, ud, ud, ud, ud, ud, ud, ud, ud, ud, ud, ud, ud, ud, ud, ud, ud, ud, ud, ud, ud, ud, ud, ud, ud], []⟩ Tryz.func77 (by kernel_rfl) (by kernel_rfl) <| qr_ [0] <| pkq (.bool false) <| eq_ <| qr_ [0, 1] <| pkq (.iface 118 (.agg #[x, .iface 27 (.int .i64 n)])) <| pkq (.bool false) <| en_ <| s_ <| tq_ <| qr_ [0, 1] <| pkq (.iface 121 (pT g 0)) <| pkq (.bool false) <| en_ ?_
  refine s_ <| tqr_ [0, 1, 2, 3] <| pkq (.iface 121 (pT g 0)) ?_
  obtain ⟨V1, eV1, b, eb, h2, kV1⟩ := alloc_step w #[.pointer (some ⟨g, 0, none⟩)] 121
  have n3 : g < b := eb ▸ lt_of_block hg
  have n4 : w.heap.size ≤ b := eb ▸ K0.size
  refine prq (.agg #[.pointer (some ⟨3, 121, none⟩), pT b 0, .int .u64 150]) (w' := V1) (by rw [← eV1, ← eb]; exact exec_ext 89 #[.iface 121 (pT g 0)] _ (by kernel_rfl) (by kernel_rfl) (by kernel_rfl) (e_valueE ⟨g, 0, none⟩ _)) ?_
  clear eV1
  have h5 := kV1.bk hg
  have h6 : ErrTab V1 := ErrTab.keeps het kV1
  have K7 := K0.nn kV1
  have z8 := kV1.size
  refine pal 143 (#[.pointer none, .pointer none, .int .u64 0]) (.agg (#[.pointer none, .pointer none, .int .u64 0])) fun V9 gv egv h10 kV9 => ?_
  have n11 : g < gv := egv ▸ lt_of_block h5
  have n12 : b < gv := egv ▸ lt_of_block h2
  have n13 : w.heap.size ≤ gv := egv ▸ K7.size
  have h14 := kV9.bk h5
  have h15 : ErrTab V9 := ErrTab.keeps h6 kV9
  have h16 := kV9.bk h2
  have K17 := K7.nn kV9
  have z18 := kV9.size
  obtain ⟨V19, eV19, kV19⟩ := rowset_step V9 gv (#[.pointer (some ⟨3, 121, none⟩), .pointer (some ⟨b, 0, none⟩), .int .u64 150])
  have h20 : V19.heap[gv]? = some (.cells (#[.pointer (some ⟨3, 121, none⟩), .pointer (some ⟨b, 0, none⟩), .int .u64 150]) 143 (0, 0)) := eV19 ▸ setRow_heap _ _ _ _ _ _ h10
  refine pzq (w' := V19) (by rw [← eV19]; exact exec_store_row 143 (.tmp 5) (.tmp 14) (by kernel_rfl) gv (#[.pointer (some ⟨3, 121, none⟩), pT b 0, .int .u64 150]) (by kernel_rfl) (by kernel_rfl) 143 (#[.pointer none, .pointer none, .int .u64 0]) h10 (by kernel_rfl) rfl (by kernel_rfl)) ?_
  clear eV19
  have h21 := kV19.bO h14
  have h22 : ErrTab V19 := (kV19.cell (ErrTab.lt h15) (by intro e; unfold Own.One at e; omega)).trans h15
  have h23 := kV19.bO h16
  have K24 := K17.nO kV19
  have z25 := kV19.size
  refine eqr_ [0, 1, 2] <| ppq (.agg #[.pointer (some ⟨3, 121, none⟩), pT b 0, .int .u64 150]) (ldr 143 gv (h20) (by kernel_rfl)) <| ppq (.iface 171 (.agg #[.pointer (some ⟨3, 121, none⟩)])) (exec_ext 90 #[.agg #[.pointer (some ⟨3, 121, none⟩), pT b 0, .int .u64 150]] _ (by kernel_rfl) (by kernel_rfl) (by kernel_rfl) (e_typeE ⟨b, 0, none⟩ _)) <| pkq (.iface 171 (.agg #[.pointer (some ⟨3, 121, none⟩)])) <| eq_ <| qr_ [0, 1, 2, 3, 4, 5, 6] <| pkq (.iface 171 (.agg #[.pointer (some ⟨3, 121, none⟩)])) <| ppq (.int .u8 22) (exec_extI (.tmp 17) "Kind" (.iface 171 (.agg #[.pointer (some ⟨3, 121, none⟩)])) _ #[] (by kernel_rfl) (by kernel_rfl) (by kernel_rfl) (e_kindE _)) <| pkq (.bool false) <| pkq (.bool false) <| ppq (.agg #[.pointer (some ⟨3, 121, none⟩), pT b 0, .int .u64 150]) (ldr 143 gv (h20) (by kernel_rfl)) <| ppq (.bool false) (exec_ext 91 #[.agg #[.pointer (some ⟨3, 121, none⟩), pT b 0, .int .u64 150]] _ (by kernel_rfl) (by kernel_rfl) (by kernel_rfl) (e_isnilE b ⟨g, 0, none⟩ _ h23)) <| pkq (.bool false) <| en_ ?_
  refine s_ <| tqr_ [0, 1, 2] <| pkq (.iface 171 (.agg #[.pointer (some ⟨3, 121, none⟩)])) <| ppq (.iface 171 (.agg #[.pointer (some ⟨3, 27, none⟩)])) (exec_extI (.tmp 25) "Elem" (.iface 171 (.agg #[.pointer (some ⟨3, 121, none⟩)])) _ #[] (by kernel_rfl) (by kernel_rfl) (by kernel_rfl) (e_elemE _)) <| pkq (.iface 171 (.agg #[.pointer (some ⟨3, 27, none⟩)])) <| eq_ <| qr_ [0, 1, 2, 3, 4, 5, 6, 7, 8] <| pkq (.iface 171 (.agg #[.pointer (some ⟨3, 27, none⟩)])) <| ppq (.int .u8 2) (exec_extI (.tmp 27) "Kind" (.iface 171 (.agg #[.pointer (some ⟨3, 27, none⟩)])) _ #[] (by kernel_rfl) (by kernel_rfl) (by kernel_rfl) (e_kindE2 _)) <| pkq (.bool true) <| pkq (.bool true) <| pkq (.iface 171 (.agg #[.pointer (some ⟨3, 27, none⟩)])) <| ppq (.iface 171 (.agg #[.pointer (some ⟨3, 88, none⟩)])) (exec_load_cell 146 (.global 0) (by kernel_rfl) ⟨0, 0, none⟩ (by kernel_rfl) _ _ Tryz.underlying146 rfl h22) <| ppq (.bool true) (exec_extI (.tmp 31) "Implements" (.iface 171 (.agg #[.pointer (some ⟨3, 27, none⟩)])) _ #[.iface 171 (.agg #[.pointer (some ⟨3, 88, none⟩)])] (by kernel_rfl) (by kernel_rfl) (by kernel_rfl) (e_implE _)) ?_
  refine pkq (.bool false) <| pkq (.bool false) <| ps_end <| sy_a ⟨#[.iface 118 (.agg #[x, .iface 27 (.int .i64 n)]), .iface 121 (pT g 0), ud, ud, .bool false, pT gv 0, .iface 171 (.agg #[.pointer (some ⟨3, 121, none⟩)]), .iface 171 (.agg #[.pointer (some ⟨3, 27, none⟩)]), .iface 118 (.agg #[x, .iface 27 (.int .i64 n)]), .bool false, .iface 121 (pT g 0), .bool false, ud, .iface 121 (pT g 0), .agg #[.pointer (some ⟨3, 121, none⟩), pT b 0, .int .u64 150], .agg #[.pointer (some ⟨3, 121, none⟩), pT b 0, .int .u64 150], .iface 171 (.agg #[.pointer (some ⟨3, 121, none⟩)]), .iface 171 (.agg #[.pointer (some ⟨3, 121, none⟩)]), .int .u8 22, .bool false, .bool false, .agg #[.pointer (some ⟨3, 121, none⟩), pT b 0, .int .u64 150], .bool false, .bool false, ud, .iface 171 (.agg #[.pointer (some ⟨3, 121, none⟩)]), .iface 171 (.agg #[.pointer (some ⟨3, 27, none⟩)]), .iface 171 (.agg #[.pointer (some ⟨3, 27, none⟩)]), .int .u8 2, .bool true, .bool true, .iface 171 (.agg #[.pointer (some ⟨3, 27, none⟩)]), .iface 171 (.agg #[.pointer (some ⟨3, 88, none⟩)]), .bool true, .bool false, .bool false, ud, ud, ud, ud, ud, ud], []⟩ <| then_n <| n_ <| s_ <| tqr_ [0, 1, 2, 3, 4, 5] <| pkq (.iface 118 (.agg #[x, .iface 27 (.int .i64 n)])) <| pkq (.iface 121 (pT g 0)) <| ppq (.agg #[.pointer (some ⟨3, 121, none⟩), pT b 0, .int .u64 150]) (ldr 143 gv (h20) (by kernel_rfl)) <| pkq (.iface 171 (.agg #[.pointer (some ⟨3, 27, none⟩)])) ?_
  refine pcq 92 #[.iface 118 (.agg #[x, .iface 27 (.int .i64 n)]), .iface 121 (pT g 0), .agg #[.pointer (some ⟨3, 121, none⟩), pT b 0, .int .u64 150], .iface 171 (.agg #[.pointer (some ⟨3, 27, none⟩)])] Tryz.func92 ((as_wrap x n m g b _ h21 h23 (by omega)).mono ?_)
  rintro e V26 ⟨rfl, hg2, kV26⟩
  refine ⟨_, rfl, ?_⟩
  have K29 : Keeps (One g) w V26 := K24.then kV26 (fun i hi hm => by unfold Own.One at hm; subst hm; exact rfl)
  have z30 := kV26.size
  refine pkq (.bool true) <| eu_ <| so_ (.bool true) ?_
  exact ⟨rfl, hg2, K29⟩
noncomputable def qc28_1 (n : Nat) : Code := partOf Tryz.f55 n
theorem number_some (k n : Int) (w : World) (het : ErrTab w) :
    Calls Tryz.prog 55 #[.iface 118 (.agg #[.int .i64 k, .iface 27 (.int .i64 n)])] w (fun e w' => e = .returned (.tuple #[.int .i64 n, .int .i64 k]) ∧ Keeps Nob w w') := by
  have hw0 := ErrTab.lt het
  have K0 : Keeps Nob w w := Keeps.refl _ _
  refine sy_enter (qc28_1 1) ⟨#[.iface 118 (.agg #[.int .i64 k, .iface 27 (.int .i64 n)]), ud, ud, ud, ud, ud, ud, ud, ud, ud, ud, ud, ud, ud, ud, ud, ud, ud], []⟩ Tryz.func55 (by kernel_rfl) (by kernel_rfl) <| qr_ [0, 1] <| pkq (.int .i64 0) <| pkq (.int .i64 0) <| eqr_ [0] <| pal 118 (#[.int .i64 0, .nilIface]) (.agg (#[.int .i64 0, .nilIface])) fun V1 gw egw h2 kV1 => ?_
  have n3 : w.heap.size ≤ gw := egw ▸ K0.size
  have h4 : ErrTab V1 := ErrTab.keeps het kV1
  have K5 := K0.nn kV1
  have z6 := kV1.size
  refine eqr_ [0, 1] <| pal 27 (#[.int .i64 0]) (.int .i64 0) fun V7 ge ege h8 kV7 => ?_
  have n9 : gw < ge := ege ▸ lt_of_block h2
  have n10 : w.heap.size ≤ ge := ege ▸ K5.size
  have h11 : ErrTab V7 := ErrTab.keeps h4 kV7
  have h12 := kV7.bk h2
  have K13 := K5.nn kV7
  have z14 := kV7.size
  refine pce 27 ge 0 (.int .i64 0) (#[.int .i64 0]) h8 (rc (h8) (by kernel_rfl)) (by kernel_rfl) (u := .int .i64 0) fun V15 h16 kV15 => ?_
  have h17 : ErrTab V15 := (kV15.cell (ErrTab.lt h11) (by intro e; unfold Own.One at e; have := ErrTab.lt het; omega)).trans h11
  have h18 := kV15.bO h12
  have K19 := K13.nO kV15
  have z20 := kV15.size
  refine eq_ <| qr_ [0, 1, 2, 3, 4, 5, 6, 7, 8] <| pkq (.iface 118 (.agg #[.int .i64 k, .iface 27 (.int .i64 n)])) <| pkq (.iface 120 (pT gw 0)) ?_
  have het0 := ErrTab.lt h17
  have hgw0 : 0 ≠ gw := by have := ErrTab.lt het; omega
  have hge0 : 0 ≠ ge := by have := ErrTab.lt het; omega
  refine pcq 77 #[.iface 118 (.agg #[.int .i64 k, .iface 27 (.int .i64 n)]), .iface 120 (pT gw 0)] Tryz.func77 ((As_wrong (.int .i64 k) (.iface 27 (.int .i64 n)) gw _ _ rfl rfl rfl h18 h17).mono ?_)
  rintro e V21 ⟨rfl, hw2, kV21⟩
  refine ⟨_, rfl, ?_⟩
  have h22 : ErrTab V21 := (kV21.cell (ErrTab.lt h17) (by intro e; unfold Own.One at e; have := ErrTab.lt het; omega)).trans h17
  have h23 := kV21.bO h16
  have K24 := K19.nO kV21
  have z25 := kV21.size
  refine pkq (.bool true) <| ppq (.agg #[.int .i64 k, .iface 27 (.int .i64 n)]) (ldr 118 gw (hw2) (by kernel_rfl)) <| pkq (.iface 118 (.agg #[.int .i64 k, .iface 27 (.int .i64 n)])) <| pkq (.iface 121 (pT ge 0)) ?_
  refine pcq 77 #[.iface 118 (.agg #[.int .i64 k, .iface 27 (.int .i64 n)]), .iface 121 (pT ge 0)] Tryz.func77 ((As_wrap (.int .i64 k) n 0 ge _ h23 h22).mono ?_)
  rintro e V26 ⟨rfl, he2, kV26⟩
  refine ⟨_, rfl, ?_⟩
  have h27 : ErrTab V26 := (kV26.cell (ErrTab.lt h22) (by intro e; unfold Own.One at e; have := ErrTab.lt het; omega)).trans h22
  have h28 := kV26.bO hw2
  have K29 := K24.nO kV26
  have z30 := kV26.size
  refine pkq (.bool true) <| ey_ <| q_ <| sy_np <| sy_reg <| an_begin 4 5 (opsAt (qc28_1 244)) (fun W => (W.heap[gw]? = some (.cells (#[.int .i64 k, .iface 27 (.int .i64 n)]) 118 (0, 0))) ∧ (W.heap[ge]? = some (.cells (#[.int .i64 n]) 27 (0, 0)))) #[false, false, false, false, false] (by kernel_rfl) (by kernel_rfl) (by kernel_rfl) (by kernel_rfl) ?_
  obtain ⟨V31, eV31, kV31⟩ := drew_step V26
  rw [eV31]
  clear eV31
  have h32 : ErrTab V31 := ErrTab.keeps h27 kV31
  have h33 := kV31.bk h28
  have h34 := kV31.bk he2
  have K35 := K29.nn kV31
  have z36 := kV31.size
  refine avq 0 (.int .i64 n) (fun W hS => ldc 27 ge 0 (rc (hS.2) (by kernel_rfl))) ⟨h33, h34⟩ <| akq 1 (pT gw 0) ⟨h33, h34⟩ <| avq 2 (.int .i64 k) (fun W hS => ldc 3 gw 0 (rc (hS.1) (by kernel_rfl))) ⟨h33, h34⟩ <| an_o 3 <| nrq (.int .i64 n) (w' := V31) (by kernel_rfl) ?_
  refine ⟨⟨h33, h34⟩, ?_⟩
  refine an_o 4 <| nrq (.int .i64 k) (w' := V31) (by kernel_rfl) ?_
  refine ⟨⟨h33, h34⟩, ?_⟩
  refine an_end (by kernel_rfl) <| then_n <| u_ <| then_r <| so_ (.tuple #[.int .i64 n, .int .i64 k]) ?_
  exact ⟨rfl, K35⟩
end Go.Proofs.YtghohakbepeffaaGreatDoor
namespace Go.Proofs.YtghohakbepeffaaGreatDoor
set_option maxRecDepth 100000
set_option maxHeartbeats 4000000
open Go Go.ChangeShapes Go.WideShapes Go.RowKit Go.Own
def errLaid : List (String × DataW Unit) := [("errors.errorType", Rows.laid_errors_errorType)]
theorem err_global : Tryz.prog.globalNamed "errors.errorType" = some 0 := by kernel_rfl
theorem err_rtype : (Tryz.prog.cutTypes.find? (·.1 == "internal/reflectlite.rtype")).map (·.2) = some 171 := by kernel_rfl
theorem err_one : ((List.range Tryz.prog.types.size).filter fun t => Tryz.prog.rowNamed t [101, 114, 114, 111, 114]) = [88] := by kernel_rfl
theorem err_tab {W : World} (h : laidMetH Tryz.prog errLaid W) : ErrTab W := by
  have h' : laidMet Tryz.prog [] W ∧ handlesMet Tryz.prog errLaid W := h
  obtain ⟨name, u, ty, e1, e2, e3, e4, e5⟩ := h'.2 _ (List.mem_singleton.2 rfl)
  have en : name = [101, 114, 114, 111, 114] := (Option.some.inj e1).symm
  subst en
  obtain rfl := Option.some.inj (err_rtype.symm.trans e2)
  have hm : ty ∈ (List.range Tryz.prog.types.size).filter fun t => Tryz.prog.rowNamed t [101, 114, 114, 111, 114] := List.mem_filter.2 ⟨List.mem_range.2 e3, e4⟩
  rw [err_one] at hm
  obtain rfl := List.mem_singleton.1 hm
  have hh : typeHandle Tryz.prog 88 = .pointer (some ⟨3, 88, none⟩) := by kernel_rfl
  rw [hh] at e5
  unfold ErrTab
  simpa using World.var?_cell err_global e5 0
/-- A world that meets the condition: the settled one, the variable's cell laid. -/
noncomputable def laidWorld (os : Os) : World :=
  let w0 := World.holding Tryz.prog os ⟨#[], #[], []⟩
  { w0 with heap := w0.heap.modify 0 fun
      | .cells _ t frozen => .cells #[.iface 171 (.agg #[.pointer (some ⟨3, 88, none⟩)])] t frozen
      | o => o }
theorem laidWorld_met (os : Os) (args : Array Value) : laidMetH Tryz.prog errLaid ((laidWorld os).forCall (fun _ _ => 0) ⟨#[], args, []⟩).memory :=
  laidMetH_of_parts (laidMet_nil _ _) (by kernel_rfl)
end Go.Proofs.YtghohakbepeffaaGreatDoor
namespace Go.Proofs.YtghohakbepeffaaGreatDoor
set_option maxRecDepth 100000
set_option maxHeartbeats 4000000
/-- What a list of digits comes to. -/
def gv : List Nat → Nat
  | [] => 0
  | d :: r => d + 65536 * gv r
end Go.Proofs.YtghohakbepeffaaGreatDoor
namespace Go.Proofs.YtghohakbepeffaaGreatDoor
set_option maxRecDepth 100000
set_option maxHeartbeats 4000000
open Go Go.RowKit Go.Own Go.Shelf
theorem _root_.Go.Own.Sl.cell {α : Type} {w : World} {s : Nat} {c : α → List Value} {v : Value} {xs : List α} (h : Sl w s c v xs) {k : Nat} {x : α} (hx : xs[k]? = some x) {b o n cap : Nat} (hv : v = .slice (some ⟨b, o, none⟩) n cap) {j : Nat} {u : Value} (hu : (c x)[j]? = some u) :
    w.cell? ⟨b, o + k * s + j, none⟩ = some u := by
  obtain ⟨b2, o2, cap2, e, _, hc⟩ := h.at_ k x hx
  rw [hv] at e
  simp only [Value.slice.injEq, Option.some.injEq, Addr.mk.injEq, and_true] at e
  obtain ⟨⟨rfl, rfl⟩, _⟩ := e
  exact hc j u hu
theorem _root_.Go.Own.Sl.range {α : Type} {w : World} {s : Nat} {c : α → List Value} {v : Value} {xs : List α} (h : Sl w s c v xs) {k : Nat} {x : α} (hx : xs[k]? = some x) {b o n cap : Nat} (hv : v = .slice (some ⟨b, o, none⟩) n cap) : w.rangeAt b (o + k * s) (c x) := fun j u hu => h.cell hx hv hu
theorem exec_len_sl {P : Program} {o : Oper} {ρ : Operand → Value} {w w0 : World} (x : Operand) (t e : TypeId) (ho : o.op = .call { callee := .builtin .len, args := #[x], argTypes := #[t] }) (ht : P.underlying t = some (.slice e)) {v : Value} (hx : ρ x = v) {α : Type} {s : Nat} {c : α → List Value} {xs : List α} (hv : Sl w0 s c v xs) :
    (execOp ρ o).run P w = .ok (.value (.int .i64 (xs.length : Int))) w := by
  obtain ⟨A, cap, rfl, _⟩ := hv.form
  exact exec_len x t e ho ht A xs.length cap hx
end Go.Proofs.YtghohakbepeffaaGreatDoor
namespace Go.Proofs.YtghohakbepeffaaGreatDoor
set_option maxRecDepth 100000
set_option maxHeartbeats 4000000
open Go Go.RowKit Go.Own Go.Shelf
theorem nmay_bad {x : Nt} {a : List Nt} (h : x.bad) : nmay x a = 3 := by unfold nmay; rw [if_pos h]
theorem nmay_nil {x : Nt} (h : ¬ x.bad) : nmay x [] = 0 := by unfold nmay; rw [if_neg h]; rfl
theorem nmay_last {x y : Nt} {a : List Nt} {k : Nat} (h : ¬ x.bad) (hk : k + 1 = a.length) (hy : a[k]? = some y) : nmay x a = if x.h < y.h then 9 else 0 := by
  have : a.getLast? = some y := by rw [List.getLast?_eq_getElem?, show a.length - 1 = k by omega]; exact hy
  unfold nmay; rw [if_neg h, this]
theorem nt_last {a : List Nt} (h : a ≠ []) : ∃ k y, k + 1 = a.length ∧ a[k]? = some y := by
  have h1 : 0 < a.length := List.length_pos_iff.2 h
  exact ⟨a.length - 1, a[a.length - 1], by omega, List.getElem?_eq_getElem _⟩
noncomputable def qc32_1 (n : Nat) : Code := partOf Tryz.f54 n
theorem nMay_bad1 (x : Nt) (a : List Nt) (v : Value) (w : World) (hl : Sl w 2 Nt.cl v a) (h1 : x.h < 1) :
    Calls Tryz.prog 54 #[.agg x.c, v] w (fun e w' => e = .returned (.iface 118 (.agg #[.int .i64 ((a.length : Nat) : Int), .iface 27 (.int .i64 3)])) ∧ Keeps Nob w w') := by
  have hln := Sl.len_le hl
  have K0 : Keeps Nob w w := Keeps.refl _ _
  refine sy_enter (qc32_1 1) ⟨#[.agg x.c, v, ud, ud, ud, ud, ud, ud, ud, ud, ud, ud, ud, ud, ud, ud, ud, ud, ud, ud, ud, ud, ud, ud, ud, ud, ud, ud, ud, ud, ud, ud, ud, ud, ud, ud, ud, ud, ud, ud, ud, ud, ud, ud, ud, ud], []⟩ Tryz.func54 (by kernel_rfl) (by kernel_rfl) <| qr_ [0, 1] <| pbx 46 x.c (.agg x.c) fun V1 gx egx h2 kV1 => ?_
  have n3 : w.heap.size ≤ gx := egx ▸ K0.size
  have h4 : Sl V1 2 Nt.cl v a := hl.keepsN kV1
  have K5 := K0.nn kV1
  have z6 := kV1.size
  refine pkq (.nilIface) <| eqr_ [0, 1, 2, 3] <| pkq (v) <| ppq (iN a.length) (exec_len_sl (.tmp 6) 22 46 (by kernel_rfl) Tryz.underlying22 (by kernel_rfl) h4) <| ppq (.int .i64 (((a.length : Nat) : Int) - 1)) (exec_cast (congrArg (Value.int .i64) (wrapI (((a.length : Nat) : Int) - 1) _ rfl (by omega) (by omega))) (by kernel_rfl)) <| pkq (.int .i64 (((a.length : Nat) : Int) - 1)) <| eq_ <| bl_ 0 <| qr_ [0, 1, 2, 3, 4, 5, 6, 7, 8, 9, 10, 11, 12, 13] <| pkq (pT gx 0) <| ppq (.int .i64 x.h) (ldc 3 gx 0 (rc (h2) (rfl))) <| ppq (.bool true) (dct (((x.h) : Int) < ((1) : Int)) (by omega)) <| pkq (.bool true) <| pnq ?_
  refine pnq <| pnq <| pkq (.bool true) <| pkq (.bool true) <| pnq <| pnq <| pnq <| pkq (.bool true) <| pkq (.bool true) <| ey_ <| qr_ [0, 1, 2, 3, 4, 5] <| pkq (v) <| ppq (iN a.length) (exec_len_sl (.tmp 23) 22 46 (by kernel_rfl) Tryz.underlying22 (by kernel_rfl) h4) <| pkq (.iface 27 (.int .i64 3)) ?_
  refine pkq (.agg #[iN a.length, .iface 27 (.int .i64 3)]) <| pkq (.iface 118 (.agg #[iN a.length, .iface 27 (.int .i64 3)])) <| pkq (.iface 118 (.agg #[iN a.length, .iface 27 (.int .i64 3)])) <| ps_end <| sy_a ⟨#[.agg x.c, v, pT gx 0, ud, .iface 118 (.agg #[iN a.length, .iface 27 (.int .i64 3)]), .int .i64 (((a.length : Nat) : Int) - 1), v, iN a.length, .int .i64 (((a.length : Nat) : Int) - 1), .bool true, pT gx 0, .int .i64 x.h, .bool true, .bool true, ud, ud, ud, .bool true, .bool true, ud, ud, ud, .bool true, v, iN a.length, .iface 27 (.int .i64 3), .agg #[iN a.length, .iface 27 (.int .i64 3)], .iface 118 (.agg #[iN a.length, .iface 27 (.int .i64 3)]), ud, ud, ud, ud, ud, ud, ud, ud, ud, ud, ud, ud, ud, ud, ud, ud, ud, ud], []⟩ <| then_n <| u_ <| blk_r <| then_r <| so_ (.iface 118 (.agg #[.int .i64 ((a.length : Nat) : Int), .iface 27 (.int .i64 3)])) ?_
  exact ⟨rfl, K5⟩
theorem nMay_bad2 (x : Nt) (a : List Nt) (v : Value) (w : World) (hl : Sl w 2 Nt.cl v a) (h1 : ¬ x.h < 1) (h2 : 4294967296 < x.h) :
    Calls Tryz.prog 54 #[.agg x.c, v] w (fun e w' => e = .returned (.iface 118 (.agg #[.int .i64 ((a.length : Nat) : Int), .iface 27 (.int .i64 3)])) ∧ Keeps Nob w w') := by
  have hln := Sl.len_le hl
  have K0 : Keeps Nob w w := Keeps.refl _ _
  refine sy_enter (qc32_1 1) ⟨#[.agg x.c, v, ud, ud, ud, ud, ud, ud, ud, ud, ud, ud, ud, ud, ud, ud, ud, ud, ud, ud, ud, ud, ud, ud, ud, ud, ud, ud, ud, ud, ud, ud, ud, ud, ud, ud, ud, ud, ud, ud, ud, ud, ud, ud, ud, ud], []⟩ Tryz.func54 (by kernel_rfl) (by kernel_rfl) <| qr_ [0, 1] <| pbx 46 x.c (.agg x.c) fun V1 gx egx h2 kV1 => ?_
  have n3 : w.heap.size ≤ gx := egx ▸ K0.size
  have h4 : Sl V1 2 Nt.cl v a := hl.keepsN kV1
  have K5 := K0.nn kV1
  have z6 := kV1.size
  refine pkq (.nilIface) <| eqr_ [0, 1, 2, 3] <| pkq (v) <| ppq (iN a.length) (exec_len_sl (.tmp 6) 22 46 (by kernel_rfl) Tryz.underlying22 (by kernel_rfl) h4) <| ppq (.int .i64 (((a.length : Nat) : Int) - 1)) (exec_cast (congrArg (Value.int .i64) (wrapI (((a.length : Nat) : Int) - 1) _ rfl (by omega) (by omega))) (by kernel_rfl)) <| pkq (.int .i64 (((a.length : Nat) : Int) - 1)) <| eq_ <| bl_ 0 <| qr_ [0, 1, 2, 3, 4, 5, 6, 7, 8, 9, 10, 11, 12, 13] <| pkq (pT gx 0) <| ppq (.int .i64 x.h) (ldc 3 gx 0 (rc (h2) (rfl))) <| ppq (.bool false) (dcf (((x.h) : Int) < ((1) : Int)) (by omega)) <| pkq (.bool false) <| pkq (pT gx 0) ?_
  refine ppq (.int .i64 x.h) (ldc 3 gx 0 (rc (h2) (rfl))) <| ppq (.bool true) (dct (((x.h) : Int) > ((4294967296) : Int)) (by omega)) <| pkq (.bool true) <| pkq (.bool true) <| pnq <| pnq <| pnq <| pkq (.bool true) <| pkq (.bool true) <| ey_ <| qr_ [0, 1, 2, 3, 4, 5] <| pkq (v) <| ppq (iN a.length) (exec_len_sl (.tmp 23) 22 46 (by kernel_rfl) Tryz.underlying22 (by kernel_rfl) h4) <| pkq (.iface 27 (.int .i64 3)) ?_
  refine pkq (.agg #[iN a.length, .iface 27 (.int .i64 3)]) <| pkq (.iface 118 (.agg #[iN a.length, .iface 27 (.int .i64 3)])) <| pkq (.iface 118 (.agg #[iN a.length, .iface 27 (.int .i64 3)])) <| ps_end <| sy_a ⟨#[.agg x.c, v, pT gx 0, ud, .iface 118 (.agg #[iN a.length, .iface 27 (.int .i64 3)]), .int .i64 (((a.length : Nat) : Int) - 1), v, iN a.length, .int .i64 (((a.length : Nat) : Int) - 1), .bool true, pT gx 0, .int .i64 x.h, .bool false, .bool false, pT gx 0, .int .i64 x.h, .bool true, .bool true, .bool true, ud, ud, ud, .bool true, v, iN a.length, .iface 27 (.int .i64 3), .agg #[iN a.length, .iface 27 (.int .i64 3)], .iface 118 (.agg #[iN a.length, .iface 27 (.int .i64 3)]), ud, ud, ud, ud, ud, ud, ud, ud, ud, ud, ud, ud, ud, ud, ud, ud, ud, ud], []⟩ <| then_n <| u_ <| blk_r <| then_r <| so_ (.iface 118 (.agg #[.int .i64 ((a.length : Nat) : Int), .iface 27 (.int .i64 3)])) ?_
  exact ⟨rfl, K5⟩
theorem nMay_bad3 (x : Nt) (a : List Nt) (v : Value) (w : World) (hl : Sl w 2 Nt.cl v a) (h1 : ¬ x.h < 1) (h2 : ¬ 4294967296 < x.h) (h3 : 4611686018427387904 < x.s) :
    Calls Tryz.prog 54 #[.agg x.c, v] w (fun e w' => e = .returned (.iface 118 (.agg #[.int .i64 ((a.length : Nat) : Int), .iface 27 (.int .i64 3)])) ∧ Keeps Nob w w') := by
  have hln := Sl.len_le hl
  have K0 : Keeps Nob w w := Keeps.refl _ _
  refine sy_enter (qc32_1 1) ⟨#[.agg x.c, v, ud, ud, ud, ud, ud, ud, ud, ud, ud, ud, ud, ud, ud, ud, ud, ud, ud, ud, ud, ud, ud, ud, ud, ud, ud, ud, ud, ud, ud, ud, ud, ud, ud, ud, ud, ud, ud, ud, ud, ud, ud, ud, ud, ud], []⟩ Tryz.func54 (by kernel_rfl) (by kernel_rfl) <| qr_ [0, 1] <| pbx 46 x.c (.agg x.c) fun V1 gx egx h2 kV1 => ?_
  have n3 : w.heap.size ≤ gx := egx ▸ K0.size
  have h4 : Sl V1 2 Nt.cl v a := hl.keepsN kV1
  have K5 := K0.nn kV1
  have z6 := kV1.size
  refine pkq (.nilIface) <| eqr_ [0, 1, 2, 3] <| pkq (v) <| ppq (iN a.length) (exec_len_sl (.tmp 6) 22 46 (by kernel_rfl) Tryz.underlying22 (by kernel_rfl) h4) <| ppq (.int .i64 (((a.length : Nat) : Int) - 1)) (exec_cast (congrArg (Value.int .i64) (wrapI (((a.length : Nat) : Int) - 1) _ rfl (by omega) (by omega))) (by kernel_rfl)) <| pkq (.int .i64 (((a.length : Nat) : Int) - 1)) <| eq_ <| bl_ 0 <| qr_ [0, 1, 2, 3, 4, 5, 6, 7, 8, 9, 10, 11, 12, 13] <| pkq (pT gx 0) <| ppq (.int .i64 x.h) (ldc 3 gx 0 (rc (h2) (rfl))) <| ppq (.bool false) (dcf (((x.h) : Int) < ((1) : Int)) (by omega)) <| pkq (.bool false) <| pkq (pT gx 0) ?_
  refine ppq (.int .i64 x.h) (ldc 3 gx 0 (rc (h2) (rfl))) <| ppq (.bool false) (dcf (((x.h) : Int) > ((4294967296) : Int)) (by omega)) <| pkq (.bool false) <| pkq (.bool false) <| pkq (pT gx 1) <| ppq (uN x.s) (ldc 40 gx 1 (rc (h2) (rfl))) <| ppq (.bool true) (dct ((((x.s : Nat) : Int)) > ((4611686018427387904) : Int)) (by omega)) <| pkq (.bool true) <| pkq (.bool true) <| ey_ <| qr_ [0, 1, 2, 3, 4, 5] <| pkq (v) <| ppq (iN a.length) (exec_len_sl (.tmp 23) 22 46 (by kernel_rfl) Tryz.underlying22 (by kernel_rfl) h4) <| pkq (.iface 27 (.int .i64 3)) ?_
  refine pkq (.agg #[iN a.length, .iface 27 (.int .i64 3)]) <| pkq (.iface 118 (.agg #[iN a.length, .iface 27 (.int .i64 3)])) <| pkq (.iface 118 (.agg #[iN a.length, .iface 27 (.int .i64 3)])) <| ps_end <| sy_a ⟨#[.agg x.c, v, pT gx 0, ud, .iface 118 (.agg #[iN a.length, .iface 27 (.int .i64 3)]), .int .i64 (((a.length : Nat) : Int) - 1), v, iN a.length, .int .i64 (((a.length : Nat) : Int) - 1), .bool true, pT gx 0, .int .i64 x.h, .bool false, .bool false, pT gx 0, .int .i64 x.h, .bool false, .bool false, .bool false, pT gx 1, uN x.s, .bool true, .bool true, v, iN a.length, .iface 27 (.int .i64 3), .agg #[iN a.length, .iface 27 (.int .i64 3)], .iface 118 (.agg #[iN a.length, .iface 27 (.int .i64 3)]), ud, ud, ud, ud, ud, ud, ud, ud, ud, ud, ud, ud, ud, ud, ud, ud, ud, ud], []⟩ <| then_n <| u_ <| blk_r <| then_r <| so_ (.iface 118 (.agg #[.int .i64 ((a.length : Nat) : Int), .iface 27 (.int .i64 3)])) ?_
  exact ⟨rfl, K5⟩
theorem nMay_nil (x : Nt) (a : List Nt) (v : Value) (w : World) (hl : Sl w 2 Nt.cl v a) (h1 : ¬ x.h < 1) (h2 : ¬ 4294967296 < x.h) (h3 : ¬ 4611686018427387904 < x.s) (ha : a.length = 0) :
    Calls Tryz.prog 54 #[.agg x.c, v] w (fun e w' => e = .returned (.nilIface) ∧ Keeps Nob w w') := by
  have hln := Sl.len_le hl
  have K0 : Keeps Nob w w := Keeps.refl _ _
  refine sy_enter (qc32_1 1) ⟨#[.agg x.c, v, ud, ud, ud, ud, ud, ud, ud, ud, ud, ud, ud, ud, ud, ud, ud, ud, ud, ud, ud, ud, ud, ud, ud, ud, ud, ud, ud, ud, ud, ud, ud, ud, ud, ud, ud, ud, ud, ud, ud, ud, ud, ud, ud, ud], []⟩ Tryz.func54 (by kernel_rfl) (by kernel_rfl) <| qr_ [0, 1] <| pbx 46 x.c (.agg x.c) fun V1 gx egx h2 kV1 => ?_
  have n3 : w.heap.size ≤ gx := egx ▸ K0.size
  have h4 : Sl V1 2 Nt.cl v a := hl.keepsN kV1
  have K5 := K0.nn kV1
  have z6 := kV1.size
  refine pkq (.nilIface) <| eqr_ [0, 1, 2, 3] <| pkq (v) <| ppq (iN a.length) (exec_len_sl (.tmp 6) 22 46 (by kernel_rfl) Tryz.underlying22 (by kernel_rfl) h4) <| ppq (.int .i64 (((a.length : Nat) : Int) - 1)) (exec_cast (congrArg (Value.int .i64) (wrapI (((a.length : Nat) : Int) - 1) _ rfl (by omega) (by omega))) (by kernel_rfl)) <| pkq (.int .i64 (((a.length : Nat) : Int) - 1)) <| eq_ <| bl_ 0 <| qr_ [0, 1, 2, 3, 4, 5, 6, 7, 8, 9, 10, 11, 12, 13] <| pkq (pT gx 0) <| ppq (.int .i64 x.h) (ldc 3 gx 0 (rc (h2) (rfl))) <| ppq (.bool false) (dcf (((x.h) : Int) < ((1) : Int)) (by omega)) <| pkq (.bool false) <| pkq (pT gx 0) ?_
  refine ppq (.int .i64 x.h) (ldc 3 gx 0 (rc (h2) (rfl))) <| ppq (.bool false) (dcf (((x.h) : Int) > ((4294967296) : Int)) (by omega)) <| pkq (.bool false) <| pkq (.bool false) <| pkq (pT gx 1) <| ppq (uN x.s) (ldc 40 gx 1 (rc (h2) (rfl))) <| ppq (.bool false) (dcf ((((x.s : Nat) : Int)) > ((4611686018427387904) : Int)) (by omega)) <| pkq (.bool false) <| pkq (.bool false) <| en_ <| q_ <| sy_np <| sy_reg <| an_begin 4 13 (opsAt (qc32_1 230)) (fun W => (W.heap[gx]? = some (.cells x.c 46 (0, 0))) ∧ (Sl W 2 Nt.cl v a)) #[false, false, false, false, false, false, false, false, false, false, false, false, false] (by kernel_rfl) (by kernel_rfl) (by kernel_rfl) (by kernel_rfl) ?_
  obtain ⟨V7, eV7, kV7⟩ := drew_step V1
  rw [eV7]
  clear eV7
  have h8 : Sl V7 2 Nt.cl v a := h4.keepsN kV7
  have h9 := kV7.bk h2
  have K10 := K5.nn kV7
  have z11 := kV7.size
  refine akq 0 (.int .i64 (((a.length : Nat) : Int) - 1)) ⟨h9, h8⟩ <| avq 1 (.bool false) (fun W hS => dcf ((((((a.length : Nat) : Int) - 1)) : Int) ≥ ((0) : Int)) (by omega)) ⟨h9, h8⟩ <| akq 2 (.bool false) ⟨h9, h8⟩ <| anq 3 ⟨h9, h8⟩ <| anq 4 ⟨h9, h8⟩ <| anq 5 ⟨h9, h8⟩ <| anq 6 ⟨h9, h8⟩ <| anq 7 ⟨h9, h8⟩ <| anq 8 ⟨h9, h8⟩ <| anq 9 ⟨h9, h8⟩ <| anq 10 ⟨h9, h8⟩ <| akq 11 (.bool false) ⟨h9, h8⟩ <| an_o 12 <| nrq (.bool false) (w' := V7) (by kernel_rfl) ?_
  refine ⟨⟨h9, h8⟩, ?_⟩
  refine an_end (by kernel_rfl) <| sy_a ⟨#[.agg x.c, v, pT gx 0, ud, .nilIface, .int .i64 (((a.length : Nat) : Int) - 1), v, iN a.length, .int .i64 (((a.length : Nat) : Int) - 1), .bool false, pT gx 0, .int .i64 x.h, .bool false, .bool false, pT gx 0, .int .i64 x.h, .bool false, .bool false, .bool false, pT gx 1, uN x.s, .bool false, .bool false, ud, ud, ud, ud, ud, .bool false, .int .i64 (((a.length : Nat) : Int) - 1), .bool false, .bool false, ud, ud, ud, ud, ud, ud, ud, ud, .bool false, ud, ud, ud, ud, ud], []⟩ <| then_n <| n_ <| s_ <| blk_n <| tqr_ [0] <| pkq (.nilIface) <| eu_ <| so_ (.nilIface) ?_
  exact ⟨rfl, K10⟩
theorem nMay_ord (x : Nt) (a : List Nt) (v : Value) (w : World) (hl : Sl w 2 Nt.cl v a) (h1 : ¬ x.h < 1) (h2 : ¬ 4294967296 < x.h) (h3 : ¬ 4611686018427387904 < x.s) (k : Nat) (y : Nt) (hk : k + 1 = a.length) (hy : a[k]? = some y) (ho : x.h < y.h) :
    Calls Tryz.prog 54 #[.agg x.c, v] w (fun e w' => e = .returned (.iface 118 (.agg #[.int .i64 ((a.length : Nat) : Int), .iface 27 (.int .i64 9)])) ∧ Keeps Nob w w') := by
  have hln := Sl.len_le hl
  obtain ⟨b_, o_, c_, hv_, hb_, _⟩ := hl.at_ k _ hy
  have K0 : Keeps Nob w w := Keeps.refl _ _
  refine sy_enter (qc32_1 1) ⟨#[.agg x.c, v, ud, ud, ud, ud, ud, ud, ud, ud, ud, ud, ud, ud, ud, ud, ud, ud, ud, ud, ud, ud, ud, ud, ud, ud, ud, ud, ud, ud, ud, ud, ud, ud, ud, ud, ud, ud, ud, ud, ud, ud, ud, ud, ud, ud], []⟩ Tryz.func54 (by kernel_rfl) (by kernel_rfl) <| qr_ [0, 1] <| pbx 46 x.c (.agg x.c) fun V1 gx egx h2 kV1 => ?_
  have n3 : w.heap.size ≤ gx := egx ▸ K0.size
  have h4 : Sl V1 2 Nt.cl v a := hl.keepsN kV1
  have K5 := K0.nn kV1
  have z6 := kV1.size
  refine pkq (.nilIface) <| eqr_ [0, 1, 2, 3] <| pkq (v) <| ppq (iN a.length) (exec_len_sl (.tmp 6) 22 46 (by kernel_rfl) Tryz.underlying22 (by kernel_rfl) h4) <| ppq (iN k) (exec_cast (congrArg (Value.int .i64) (wrapI (((a.length : Nat) : Int) - 1) ((k : Nat) : Int) (by omega) (by omega) (by omega))) (by kernel_rfl)) <| pkq (iN k) <| eq_ <| bl_ 0 <| qr_ [0, 1, 2, 3, 4, 5, 6, 7, 8, 9, 10, 11, 12, 13] <| pkq (pT gx 0) <| ppq (.int .i64 x.h) (ldc 3 gx 0 (rc (h2) (rfl))) <| ppq (.bool false) (dcf (((x.h) : Int) < ((1) : Int)) (by omega)) <| pkq (.bool false) <| pkq (pT gx 0) ?_
  refine ppq (.int .i64 x.h) (ldc 3 gx 0 (rc (h2) (rfl))) <| ppq (.bool false) (dcf (((x.h) : Int) > ((4294967296) : Int)) (by omega)) <| pkq (.bool false) <| pkq (.bool false) <| pkq (pT gx 1) <| ppq (uN x.s) (ldc 40 gx 1 (rc (h2) (rfl))) <| ppq (.bool false) (dcf ((((x.s : Nat) : Int)) > ((4611686018427387904) : Int)) (by omega)) <| pkq (.bool false) <| pkq (.bool false) <| en_ <| q_ <| sy_np <| sy_reg <| an_begin 4 13 (opsAt (qc32_1 230)) (fun W => (W.heap[gx]? = some (.cells x.c 46 (0, 0))) ∧ (Sl W 2 Nt.cl v a)) #[false, false, false, false, false, false, false, false, false, false, false, false, false] (by kernel_rfl) (by kernel_rfl) (by kernel_rfl) (by kernel_rfl) ?_
  obtain ⟨V7, eV7, kV7⟩ := drew_step V1
  rw [eV7]
  clear eV7
  have h8 : Sl V7 2 Nt.cl v a := h4.keepsN kV7
  have h9 := kV7.bk h2
  have K10 := K5.nn kV7
  have z11 := kV7.size
  refine akq 0 (iN k) ⟨h9, h8⟩ <| avq 1 (.bool true) (fun W hS => dct ((((k : Nat) : Int)) ≥ ((0) : Int)) (by omega)) ⟨h9, h8⟩ <| akq 2 (.bool true) ⟨h9, h8⟩ <| akq 3 (pT gx 0) ⟨h9, h8⟩ <| avq 4 (.int .i64 x.h) (fun W hS => ldc 3 gx 0 (rc (hS.1) (rfl))) ⟨h9, h8⟩ <| akq 5 (v) ⟨h9, h8⟩ <| akq 6 (iN k) ⟨h9, h8⟩ <| avq 7 (pT b_ (o_ + k * 2)) (fun W hS => exec_indexAt_slice 22 (.tmp 34) (.tmp 35) (by kernel_rfl) b_ o_ a.length c_ (Eq.trans (b := v) (by kernel_rfl) hv_) .i64 k (by kernel_rfl) _ 2 Tryz.underlying22 (by kernel_rfl) (by omega)) ⟨h9, h8⟩ <| akq 8 (pT b_ (o_ + k * 2 + 0)) ⟨h9, h8⟩ <| avq 9 (.int .i64 y.h) (fun W hS => ldc 3 b_ (o_ + k * 2 + 0) (Sl.cell hS.2 hy hv_ rfl)) ⟨h9, h8⟩ <| avq 10 (.bool true) (fun W hS => dct (((x.h) : Int) < ((y.h) : Int)) (by omega)) ⟨h9, h8⟩ <| akq 11 (.bool true) ⟨h9, h8⟩ <| an_o 12 <| nrq (.bool true) (w' := V7) (by kernel_rfl) ?_
  refine ⟨⟨h9, h8⟩, ?_⟩
  refine an_end (by kernel_rfl) <| sy_a ⟨#[.agg x.c, v, pT gx 0, ud, .nilIface, iN k, v, iN a.length, iN k, .bool false, pT gx 0, .int .i64 x.h, .bool false, .bool false, pT gx 0, .int .i64 x.h, .bool false, .bool false, .bool false, pT gx 1, uN x.s, .bool false, .bool false, ud, ud, ud, ud, ud, .bool true, iN k, .bool true, .bool true, pT gx 0, .int .i64 x.h, v, iN k, pT b_ (o_ + k * 2), pT b_ (o_ + k * 2 + 0), .int .i64 y.h, .bool true, .bool true, ud, ud, ud, ud, ud], []⟩ <| then_n <| y_ <| qr_ [0, 1, 2, 3, 4, 5] <| pkq (v) <| ppq (iN a.length) (exec_len_sl (.tmp 41) 22 46 (by kernel_rfl) Tryz.underlying22 (by kernel_rfl) h8) <| pkq (.iface 27 (.int .i64 9)) <| pkq (.agg #[iN a.length, .iface 27 (.int .i64 9)]) <| pkq (.iface 118 (.agg #[iN a.length, .iface 27 (.int .i64 9)])) <| pkq (.iface 118 (.agg #[iN a.length, .iface 27 (.int .i64 9)])) <| eu_ <| blk_r <| then_r ?_
  refine so_ (.iface 118 (.agg #[.int .i64 ((a.length : Nat) : Int), .iface 27 (.int .i64 9)])) ?_
  exact ⟨rfl, K10⟩
theorem nMay_good (x : Nt) (a : List Nt) (v : Value) (w : World) (hl : Sl w 2 Nt.cl v a) (h1 : ¬ x.h < 1) (h2 : ¬ 4294967296 < x.h) (h3 : ¬ 4611686018427387904 < x.s) (k : Nat) (y : Nt) (hk : k + 1 = a.length) (hy : a[k]? = some y) (ho : ¬ x.h < y.h) :
    Calls Tryz.prog 54 #[.agg x.c, v] w (fun e w' => e = .returned (.nilIface) ∧ Keeps Nob w w') := by
  have hln := Sl.len_le hl
  obtain ⟨b_, o_, c_, hv_, hb_, _⟩ := hl.at_ k _ hy
  have K0 : Keeps Nob w w := Keeps.refl _ _
  refine sy_enter (qc32_1 1) ⟨#[.agg x.c, v, ud, ud, ud, ud, ud, ud, ud, ud, ud, ud, ud, ud, ud, ud, ud, ud, ud, ud, ud, ud, ud, ud, ud, ud, ud, ud, ud, ud, ud, ud, ud, ud, ud, ud, ud, ud, ud, ud, ud, ud, ud, ud, ud, ud], []⟩ Tryz.func54 (by kernel_rfl) (by kernel_rfl) <| qr_ [0, 1] <| pbx 46 x.c (.agg x.c) fun V1 gx egx h2 kV1 => ?_
  have n3 : w.heap.size ≤ gx := egx ▸ K0.size
  have h4 : Sl V1 2 Nt.cl v a := hl.keepsN kV1
  have K5 := K0.nn kV1
  have z6 := kV1.size
  refine pkq (.nilIface) <| eqr_ [0, 1, 2, 3] <| pkq (v) <| ppq (iN a.length) (exec_len_sl (.tmp 6) 22 46 (by kernel_rfl) Tryz.underlying22 (by kernel_rfl) h4) <| ppq (iN k) (exec_cast (congrArg (Value.int .i64) (wrapI (((a.length : Nat) : Int) - 1) ((k : Nat) : Int) (by omega) (by omega) (by omega))) (by kernel_rfl)) <| pkq (iN k) <| eq_ <| bl_ 0 <| qr_ [0, 1, 2, 3, 4, 5, 6, 7, 8, 9, 10, 11, 12, 13] <| pkq (pT gx 0) <| ppq (.int .i64 x.h) (ldc 3 gx 0 (rc (h2) (rfl))) <| ppq (.bool false) (dcf (((x.h) : Int) < ((1) : Int)) (by omega)) <| pkq (.bool false) <| pkq (pT gx 0) ?_
  refine ppq (.int .i64 x.h) (ldc 3 gx 0 (rc (h2) (rfl))) <| ppq (.bool false) (dcf (((x.h) : Int) > ((4294967296) : Int)) (by omega)) <| pkq (.bool false) <| pkq (.bool false) <| pkq (pT gx 1) <| ppq (uN x.s) (ldc 40 gx 1 (rc (h2) (rfl))) <| ppq (.bool false) (dcf ((((x.s : Nat) : Int)) > ((4611686018427387904) : Int)) (by omega)) <| pkq (.bool false) <| pkq (.bool false) <| en_ <| q_ <| sy_np <| sy_reg <| an_begin 4 13 (opsAt (qc32_1 230)) (fun W => (W.heap[gx]? = some (.cells x.c 46 (0, 0))) ∧ (Sl W 2 Nt.cl v a)) #[false, false, false, false, false, false, false, false, false, false, false, false, false] (by kernel_rfl) (by kernel_rfl) (by kernel_rfl) (by kernel_rfl) ?_
  obtain ⟨V7, eV7, kV7⟩ := drew_step V1
  rw [eV7]
  clear eV7
  have h8 : Sl V7 2 Nt.cl v a := h4.keepsN kV7
  have h9 := kV7.bk h2
  have K10 := K5.nn kV7
  have z11 := kV7.size
  refine akq 0 (iN k) ⟨h9, h8⟩ <| avq 1 (.bool true) (fun W hS => dct ((((k : Nat) : Int)) ≥ ((0) : Int)) (by omega)) ⟨h9, h8⟩ <| akq 2 (.bool true) ⟨h9, h8⟩ <| akq 3 (pT gx 0) ⟨h9, h8⟩ <| avq 4 (.int .i64 x.h) (fun W hS => ldc 3 gx 0 (rc (hS.1) (rfl))) ⟨h9, h8⟩ <| akq 5 (v) ⟨h9, h8⟩ <| akq 6 (iN k) ⟨h9, h8⟩ <| avq 7 (pT b_ (o_ + k * 2)) (fun W hS => exec_indexAt_slice 22 (.tmp 34) (.tmp 35) (by kernel_rfl) b_ o_ a.length c_ (Eq.trans (b := v) (by kernel_rfl) hv_) .i64 k (by kernel_rfl) _ 2 Tryz.underlying22 (by kernel_rfl) (by omega)) ⟨h9, h8⟩ <| akq 8 (pT b_ (o_ + k * 2 + 0)) ⟨h9, h8⟩ <| avq 9 (.int .i64 y.h) (fun W hS => ldc 3 b_ (o_ + k * 2 + 0) (Sl.cell hS.2 hy hv_ rfl)) ⟨h9, h8⟩ <| avq 10 (.bool false) (fun W hS => dcf (((x.h) : Int) < ((y.h) : Int)) (by omega)) ⟨h9, h8⟩ <| akq 11 (.bool false) ⟨h9, h8⟩ <| an_o 12 <| nrq (.bool false) (w' := V7) (by kernel_rfl) ?_
  refine ⟨⟨h9, h8⟩, ?_⟩
  refine an_end (by kernel_rfl) <| sy_a ⟨#[.agg x.c, v, pT gx 0, ud, .nilIface, iN k, v, iN a.length, iN k, .bool false, pT gx 0, .int .i64 x.h, .bool false, .bool false, pT gx 0, .int .i64 x.h, .bool false, .bool false, .bool false, pT gx 1, uN x.s, .bool false, .bool false, ud, ud, ud, ud, ud, .bool false, iN k, .bool true, .bool true, pT gx 0, .int .i64 x.h, v, iN k, pT b_ (o_ + k * 2), pT b_ (o_ + k * 2 + 0), .int .i64 y.h, .bool false, .bool false, ud, ud, ud, ud, ud], []⟩ <| then_n <| n_ <| s_ <| blk_n <| tqr_ [0] <| pkq (.nilIface) <| eu_ <| so_ (.nilIface) ?_
  exact ⟨rfl, K10⟩
theorem nMay_err (x : Nt) (a : List Nt) (v : Value) (er : Int) (w : World) (hl : Sl w 2 Nt.cl v a) (he : nmay x a = er) (h0 : er ≠ 0) : Calls Tryz.prog 54 #[.agg x.c, v] w (fun e w' => e = .returned (.iface 118 (.agg #[.int .i64 ((a.length : Nat) : Int), .iface 27 (.int .i64 er)])) ∧ Keeps Nob w w') := by
  by_cases h1 : x.h < 1
  · rw [nmay_bad (.inl h1)] at he; subst he; exact nMay_bad1 x a v w hl h1
  · by_cases h2 : 4294967296 < x.h
    · rw [nmay_bad (.inr (.inl h2))] at he; subst he; exact nMay_bad2 x a v w hl h1 h2
    · by_cases h3 : 4611686018427387904 < x.s
      · rw [nmay_bad (.inr (.inr h3))] at he; subst he; exact nMay_bad3 x a v w hl h1 h2 h3
      · have hb : ¬ x.bad := fun h => by rcases h with h | h | h <;> omega
        by_cases ha : a = []
        · subst ha; rw [nmay_nil hb] at he; exact absurd he.symm h0
        · obtain ⟨k, y, hk, hy⟩ := nt_last ha
          rw [nmay_last hb hk hy] at he
          by_cases ho : x.h < y.h
          · rw [if_pos ho] at he; subst he; exact nMay_ord x a v w hl h1 h2 h3 k y hk hy ho
          · rw [if_neg ho] at he; exact absurd he.symm h0
theorem nMay_fine (x : Nt) (a : List Nt) (v : Value) (w : World) (hl : Sl w 2 Nt.cl v a) (he : nmay x a = 0) : Calls Tryz.prog 54 #[.agg x.c, v] w (fun e w' => e = .returned (.nilIface) ∧ Keeps Nob w w') := by
  by_cases hb : x.bad
  · rw [nmay_bad hb] at he; cases he
  · have h1 : ¬ x.h < 1 := fun h => hb (.inl h)
    have h2 : ¬ 4294967296 < x.h := fun h => hb (.inr (.inl h))
    have h3 : ¬ 4611686018427387904 < x.s := fun h => hb (.inr (.inr h))
    by_cases ha : a = []
    · subst ha; exact nMay_nil x [] v w hl h1 h2 h3 rfl
    · obtain ⟨k, y, hk, hy⟩ := nt_last ha
      rw [nmay_last hb hk hy] at he
      by_cases ho : x.h < y.h
      · rw [if_pos ho] at he; cases he
      · exact nMay_good x a v w hl h1 h2 h3 k y hk hy ho
theorem nchk_step {i : Nat} {l : List Nt} {x : Nt} (hx : l[i]? = some x) (h : nmay x (l.take i) = 0) : nchk (l.take i) (l.drop i) = nchk (l.take (i + 1)) (l.drop (i + 1)) := by
  have hi : i < l.length := (List.getElem?_eq_some_iff.1 hx).1
  rw [List.drop_eq_getElem_cons hi, nchk]
  have e : l[i] = x := (List.getElem?_eq_some_iff.1 hx).2
  rw [e, if_pos h, List.take_add_one, hx]; rfl
theorem nchk_stop {i : Nat} {l : List Nt} {x : Nt} {e : Int} (hx : l[i]? = some x) (h : nmay x (l.take i) = e) (h0 : e ≠ 0) : nchk (l.take i) (l.drop i) = (e, (i : Int)) := by
  have hi : i < l.length := (List.getElem?_eq_some_iff.1 hx).1
  rw [List.drop_eq_getElem_cons hi, nchk]
  have e : l[i] = x := (List.getElem?_eq_some_iff.1 hx).2
  rw [e, h, if_neg h0, List.length_take, Nat.min_eq_left (by omega)]
theorem nchk_end {i : Nat} {l : List Nt} (h : i = l.length) : nchk (l.take i) (l.drop i) = (0, 0) := by rw [h, List.drop_length]; rfl
theorem ncheck_long {l : List Nt} (h : 64 < l.length) : ncheck l = (4, 64) := by unfold ncheck; rw [if_pos h]
theorem ncheck_go {l : List Nt} (h : ¬ 64 < l.length) : ncheck l = nchk (l.take 0) (l.drop 0) := by unfold ncheck; rw [if_neg h]; rfl
theorem check_cases (l : List Nt) (i : Nat) (hi : i ≤ l.length) : (∃ x, i < l.length ∧ l[i]? = some x ∧ nmay x (l.take i) = 0) ∨ (∃ x e, i < l.length ∧ l[i]? = some x ∧ nmay x (l.take i) = e ∧ e ≠ 0) ∨ i = l.length := by
  by_cases h : i < l.length
  · obtain ⟨x, hx⟩ : ∃ x, l[i]? = some x := ⟨_, List.getElem?_eq_getElem h⟩
    by_cases h0 : nmay x (l.take i) = 0
    · exact .inl ⟨x, h, hx, h0⟩
    · exact .inr (.inl ⟨x, _, h, hx, rfl, h0⟩)
  · exact .inr (.inr (by omega))
theorem nMay_is (x : Nt) (a : List Nt) (v : Value) (er : Int) (k : Nat) (w : World) (hl : Sl w 2 Nt.cl v a) (he : nmay x a = er) (h0 : er ≠ 0) (hk : a.length = k) : Calls Tryz.prog 54 #[.agg x.c, v] w (fun e w' => e = .returned (.iface 118 (.agg #[.int .i64 ((k : Nat) : Int), .iface 27 (.int .i64 er)])) ∧ Keeps Nob w w') := hk ▸ nMay_err x a v er w hl he h0
noncomputable def qc32_0 (n : Nat) : Code := partOf Tryz.f22 n
theorem nCheck_long (l : List Nt) (A : Option Addr) (cap : Nat) (w : World) (hl : Sl w 2 Nt.cl (.slice A l.length cap) l) (hcap : l.length ≤ cap) (hs : 64 < l.length) (het : ErrTab w) :
    Calls Tryz.prog 22 #[.slice A l.length cap] w (fun e w' => e = .returned (.tuple #[.int .i64 (ncheck l).1, .int .i64 (ncheck l).2]) ∧ Keeps Nob w w') := by
  have hln := Sl.len_le hl
  have K0 : Keeps Nob w w := Keeps.refl _ _
  refine sy_enter (qc32_0 1) ⟨#[.slice A l.length cap, ud, ud, ud, ud, ud, ud, ud, ud, ud, ud, ud, ud, ud, ud, ud, ud, ud, ud, ud, ud, ud, ud, ud, ud, ud, ud, ud, ud], []⟩ Tryz.func22 (by kernel_rfl) (by kernel_rfl) <| qr_ [0, 1] <| pkq (.int .i64 0) <| pkq (.int .i64 0) <| eq_ <| qr_ [0, 1, 2] <| pkq (.slice A l.length cap) <| ppq (iN l.length) (exec_len_sl (.tmp 7) 22 46 (by kernel_rfl) Tryz.underlying22 (by kernel_rfl) hl) <| ppq (.bool true) (dct ((((l.length : Nat) : Int)) > ((64) : Int)) (by omega)) <| ey_ <| qr_ [0, 1] <| pkq (.int .i64 4) <| pkq (.int .i64 64) <| eu_ ?_
  refine then_r <| so_ (.tuple #[.int .i64 4, .int .i64 64]) ?_
  exact ⟨by rw [ncheck_long hs], K0⟩
theorem nCheck_main (l : List Nt) (A : Option Addr) (cap : Nat) (w : World) (hl : Sl w 2 Nt.cl (.slice A l.length cap) l) (hcap : l.length ≤ cap) (hs : ¬ 64 < l.length) (het : ErrTab w) :
    Calls Tryz.prog 22 #[.slice A l.length cap] w (fun e w' => e = .returned (.tuple #[.int .i64 (ncheck l).1, .int .i64 (ncheck l).2]) ∧ Keeps Nob w w') := by
  have hln := Sl.len_le hl
  have K0 : Keeps Nob w w := Keeps.refl _ _
  refine sy_enter (qc32_0 1) ⟨#[.slice A l.length cap, ud, ud, ud, ud, ud, ud, ud, ud, ud, ud, ud, ud, ud, ud, ud, ud, ud, ud, ud, ud, ud, ud, ud, ud, ud, ud, ud, ud], []⟩ Tryz.func22 (by kernel_rfl) (by kernel_rfl) <| qr_ [0, 1] <| pkq (.int .i64 0) <| pkq (.int .i64 0) <| eq_ <| qr_ [0, 1, 2] <| pkq (.slice A l.length cap) <| ppq (iN l.length) (exec_len_sl (.tmp 7) 22 46 (by kernel_rfl) Tryz.underlying22 (by kernel_rfl) hl) <| ppq (.bool false) (dcf ((((l.length : Nat) : Int)) > ((64) : Int)) (by omega)) <| en_ <| s_ <| tq_ <| qr_ [0, 1, 2] <| pkq (.slice A l.length cap) ?_
  refine ppq (iN l.length) (exec_len_sl (.tmp 10) 22 46 (by kernel_rfl) Tryz.underlying22 (by kernel_rfl) hl) <| pkq (.int .i64 0) <| et_ <| bl_ 0 ?_
  refine sy_loop (qc32_0 116) (fun a V => ∃ (i : Nat) (u2 u3 u4 u5 u6 u13 u14 u15 u16 u17 u18 u19 u20 u21 u22 u23 u24 u25 u26 u27 u28 : Value), (a = ⟨#[.slice A l.length cap, ud, u2, u3, u4, u5, u6, .slice A l.length cap, iN l.length, .bool false, .slice A l.length cap, iN l.length, iN i, u13, u14, u15, u16, u17, u18, u19, u20, u21, u22, u23, u24, u25, u26, u27, u28], []⟩) ∧ (i ≤ l.length) ∧ (nchk (l.take i) (l.drop i) = ncheck l) ∧ (Sl V 2 Nt.cl (.slice A l.length cap) l) ∧ (Keeps Nob w V)) (fun a _ => l.length - (intOf (a.tmps.getD 12 undef)).toNat) (by kernel_rfl) ?_ ?_
  · exact ⟨0, (.int .i64 0), (.int .i64 0), undef, undef, undef, undef, undef, undef, undef, undef, undef, undef, undef, undef, undef, undef, undef, undef, undef, undef, undef, by kernel_rfl, by omega, (ncheck_go hs).symm, hl, K0⟩
  · rintro a V1 ⟨i, u2, u3, u4, u5, u6, u13, u14, u15, u16, u17, u18, u19, u20, u21, u22, u23, u24, u25, u26, u27, u28, rfl, hi, hp, h2, K3⟩
    rcases check_cases l i hi with ⟨x, hi2, hx, he⟩ | ⟨x, er, hi2, hx, he, h0⟩ | eq_i
    · skip
      obtain ⟨b_, o_, c_, hv_, hb_, _⟩ := hl.at_ i _ hx
      have hpe := (nchk_step hx he).symm.trans hp
      refine qr_ [0] <| ppq (.bool true) (dct ((((i : Nat) : Int)) < (((l.length : Nat) : Int))) (by omega)) <| eq_ <| y_ <| s_ <| tq_ <| bl_ 1 <| qr_ [0, 1, 2, 3, 4, 5] <| pkq (iN i) <| ppq (pT b_ (o_ + i * 2)) (exec_indexAt_slice 22 (.tmp 10) (.tmp 12) (by kernel_rfl) b_ o_ l.length c_ (Eq.trans (b := (.slice A l.length cap)) (by kernel_rfl) hv_) .i64 i (by kernel_rfl) _ 2 Tryz.underlying22 (by kernel_rfl) (by omega)) <| ppq (.agg x.c) (exec_load_mid 46 (.tmp 15) (by kernel_rfl) b_ (o_ + i * 2) (by kernel_rfl) (Nt.cl x) _ (Sl.range h2 hx hv_) Tryz.underlying46 rfl (by kernel_rfl)) <| pal 46 (#[.int .i64 0, .int .u64 0]) (.agg (#[.int .i64 0, .int .u64 0])) fun V4 gx egx h5 kV4 => ?_
      have n6 : w.heap.size ≤ gx := egx ▸ K3.size
      have h7 : Sl V4 2 Nt.cl (.slice A l.length cap) l := h2.keepsN kV4
      have K8 := K3.nn kV4
      have z9 := kV4.size
      refine pkq (iN i) <| pst 46 gx x.c h5 (by kernel_rfl) rfl (by kernel_rfl) fun V10 h11 kV10 => ?_
      have h12 : Sl V10 2 Nt.cl (.slice A l.length cap) l := Sl.keepsB hl h7 kV10 (fun j e => by first | (unfold Own.One at e; omega) | omega)
      have K13 := K8.nO kV10
      have z14 := kV10.size
      refine eq_ <| sy_np <| sy_reg <| an_begin 6 6 (opsAt (qc32_0 7474)) (fun W => (W.heap[gx]? = some (.cells x.c 46 (0, 0)))) #[false, false, false, false, false, false] (by kernel_rfl) (by kernel_rfl) (by kernel_rfl) (by kernel_rfl) ?_
      obtain ⟨V15, eV15, kV15⟩ := drew_step V10
      rw [eV15]
      clear eV15
      have h16 : Sl V15 2 Nt.cl (.slice A l.length cap) l := h12.keepsN kV15
      have h17 := kV15.bk h11
      have K18 := K13.nn kV15
      have z19 := kV15.size
      refine avq 0 (.agg (x.c)) (fun W hS => ldr 46 gx (hS) (by kernel_rfl)) h17 <| akq 1 (.slice A l.length cap) h17 <| akq 2 (iN i) h17 <| avq 3 (.slice A i cap) (fun W hS => exec_slice_toW 22 (.tmp 18) (.tmp 19) (by kernel_rfl) A l.length cap (by kernel_rfl) .i64 i (by kernel_rfl) 46 Tryz.underlying22 2 (by kernel_rfl) (by omega)) h17 <| an_o 4 ?_
      refine ncq 54 #[.agg (x.c), .slice A i cap] Tryz.func54 ((nMay_fine x (l.take i) _ _ (Sl.take h16 i hi A _ cap rfl) he).mono ?_)
      rintro e V20 ⟨rfl, kV20⟩
      refine ⟨_, rfl, ?_⟩
      have h21 : Sl V20 2 Nt.cl (.slice A l.length cap) l := h16.keepsN kV20
      have h22 := kV20.bk h17
      have K23 := K18.nn kV20
      have z24 := kV20.size
      refine ⟨h22, ?_⟩
      refine an_o 5 <| nrq (.nilIface) (w' := V20) (by kernel_rfl) ?_
      refine ⟨h22, ?_⟩
      refine an_end (by kernel_rfl) <| tqr_ [0, 1] <| pkq (.nilIface) <| pkq (.bool false) <| en_ <| s_ <| blk_n <| tr_ [0, 1] <| ppq (iN (i + 1)) (exec_cast (congrArg (Value.int .i64) (wrapN (i + 1) (by omega))) (by kernel_rfl)) <| pkq (iN (i + 1)) <| et_ ?_
      refine ⟨⟨i + 1, u2, u3, (iN i), (pT gx 0), .nilIface, (.bool true), (iN i), (pT b_ (o_ + i * 2)), (.agg x.c), (.agg (x.c)), (.slice A l.length cap), (iN i), (.slice A i cap), .nilIface, .nilIface, (.bool false), u24, u25, u26, u27, (iN (i + 1)), by kernel_rfl, by omega, hpe, h21, K23⟩, ?_⟩
      exact lt_meas (x := l.length - (i + 1)) (y := l.length - i) (by kernel_rfl) (by kernel_rfl) (by omega)
    · skip
      obtain ⟨b_, o_, c_, hv_, hb_, _⟩ := hl.at_ i _ hx
      have hres := (nchk_stop hx he h0).symm.trans hp
      refine qr_ [0] <| ppq (.bool true) (dct ((((i : Nat) : Int)) < (((l.length : Nat) : Int))) (by omega)) <| eq_ <| y_ <| s_ <| tq_ <| bl_ 1 <| qr_ [0, 1, 2, 3, 4, 5] <| pkq (iN i) <| ppq (pT b_ (o_ + i * 2)) (exec_indexAt_slice 22 (.tmp 10) (.tmp 12) (by kernel_rfl) b_ o_ l.length c_ (Eq.trans (b := (.slice A l.length cap)) (by kernel_rfl) hv_) .i64 i (by kernel_rfl) _ 2 Tryz.underlying22 (by kernel_rfl) (by omega)) <| ppq (.agg x.c) (exec_load_mid 46 (.tmp 15) (by kernel_rfl) b_ (o_ + i * 2) (by kernel_rfl) (Nt.cl x) _ (Sl.range h2 hx hv_) Tryz.underlying46 rfl (by kernel_rfl)) <| pal 46 (#[.int .i64 0, .int .u64 0]) (.agg (#[.int .i64 0, .int .u64 0])) fun V25 gx egx h26 kV25 => ?_
      have n27 : w.heap.size ≤ gx := egx ▸ K3.size
      have h28 : Sl V25 2 Nt.cl (.slice A l.length cap) l := h2.keepsN kV25
      have K29 := K3.nn kV25
      have z30 := kV25.size
      refine pkq (iN i) <| pst 46 gx x.c h26 (by kernel_rfl) rfl (by kernel_rfl) fun V31 h32 kV31 => ?_
      have h33 : Sl V31 2 Nt.cl (.slice A l.length cap) l := Sl.keepsB hl h28 kV31 (fun j e => by first | (unfold Own.One at e; omega) | omega)
      have K34 := K29.nO kV31
      have z35 := kV31.size
      refine eq_ <| sy_np <| sy_reg <| an_begin 6 6 (opsAt (qc32_0 7474)) (fun W => (W.heap[gx]? = some (.cells x.c 46 (0, 0)))) #[false, false, false, false, false, false] (by kernel_rfl) (by kernel_rfl) (by kernel_rfl) (by kernel_rfl) ?_
      obtain ⟨V36, eV36, kV36⟩ := drew_step V31
      rw [eV36]
      clear eV36
      have h37 : Sl V36 2 Nt.cl (.slice A l.length cap) l := h33.keepsN kV36
      have h38 := kV36.bk h32
      have K39 := K34.nn kV36
      have z40 := kV36.size
      refine avq 0 (.agg (x.c)) (fun W hS => ldr 46 gx (hS) (by kernel_rfl)) h38 <| akq 1 (.slice A l.length cap) h38 <| akq 2 (iN i) h38 <| avq 3 (.slice A i cap) (fun W hS => exec_slice_toW 22 (.tmp 18) (.tmp 19) (by kernel_rfl) A l.length cap (by kernel_rfl) .i64 i (by kernel_rfl) 46 Tryz.underlying22 2 (by kernel_rfl) (by omega)) h38 <| an_o 4 ?_
      refine ncq 54 #[.agg (x.c), .slice A i cap] Tryz.func54 ((nMay_is x (l.take i) _ er i _ (Sl.take h37 i hi A _ cap rfl) he h0 (by rw [List.length_take]; omega)).mono ?_)
      rintro e V41 ⟨rfl, kV41⟩
      refine ⟨_, rfl, ?_⟩
      have h43 := kV41.bk h38
      have K44 := K39.nn kV41
      have z45 := kV41.size
      refine ⟨h43, ?_⟩
      refine an_o 5 <| nrq (.iface 118 (.agg #[iN i, .iface 27 (.int .i64 er)])) (w' := V41) (by kernel_rfl) ?_
      refine ⟨h43, ?_⟩
      refine an_end (by kernel_rfl) <| tqr_ [0, 1] <| pkq (.iface 118 (.agg #[iN i, .iface 27 (.int .i64 er)])) <| pkq (.bool true) <| ey_ <| qr_ [0, 1, 2, 3, 4, 5] <| pkq (.iface 118 (.agg #[iN i, .iface 27 (.int .i64 er)])) ?_
      refine pcq 55 #[.iface 118 (.agg #[iN i, .iface 27 (.int .i64 er)])] Tryz.func55 ((number_some ((i : Nat) : Int) er _ (ErrTab.keeps het K44)).mono ?_)
      rintro e V46 ⟨rfl, kV46⟩
      refine ⟨_, rfl, ?_⟩
      have K49 := K44.nn kV46
      have z50 := kV46.size
      refine pkq (.int .i64 er) <| pkq (iN i) <| pkq (.int .i64 er) <| pkq (iN i) <| eu_ <| blk_r <| then_r <| then_r <| blk_r <| then_r <| so_ (.tuple #[.int .i64 er, .int .i64 ((i : Nat) : Int)]) ?_
      exact ⟨by rw [← hres], K49⟩
    · have hres := (nchk_end eq_i).symm.trans hp
      refine qr_ [0] <| ppq (.bool false) (dcf ((((i : Nat) : Int)) < (((l.length : Nat) : Int))) (by omega)) <| eq_ <| n_ <| sy_exit 0 (by kernel_rfl) <| then_e <| then_e <| blk_e <| tqr_ [0, 1] <| pkq (.int .i64 0) <| pkq (.int .i64 0) <| eu_ <| so_ (.tuple #[.int .i64 0, .int .i64 0]) ?_
      exact ⟨by rw [← hres], K3⟩
theorem nCheck_ok (l : List Nt) (v : Value) (w : World) (hl : Sl w 2 Nt.cl v l) (het : ErrTab w) : Calls Tryz.prog 22 #[v] w (fun e w' => e = .returned (.tuple #[.int .i64 (ncheck l).1, .int .i64 (ncheck l).2]) ∧ Keeps Nob w w') := by
  obtain ⟨A, cap, rfl, hc, _⟩ := hl.form
  by_cases hs : 64 < l.length
  · exact nCheck_long l A cap w hl hc hs het
  · exact nCheck_main l A cap w hl hc hs het
end Go.Proofs.YtghohakbepeffaaGreatDoor
namespace Go.Own
set_option maxRecDepth 100000
set_option maxHeartbeats 4000000
open Go
/-- The operations of region 'id' in a body. -/
noncomputable def opsIn (id : Nat) : Code → Option (Array Oper)
  | .region k ops _ => if k = id then some ops else none
  | .seq a b => (opsIn id a).or (opsIn id b)
  | .cond _ a b => (opsIn id a).or (opsIn id b)
  | .block _ b => opsIn id b
  | .loop b => opsIn id b
  | .rangeFunc _ _ a b => (opsIn id a).or (opsIn id b)
  | _ => none
noncomputable def opsOf (f : Func) (id : Nat) : Array Oper := ((f.body.bind (opsIn id)).getD #[])
end Go.Own
namespace Go.Proofs.YtghohakbepeffaaGreatDoor
set_option maxRecDepth 100000
set_option maxHeartbeats 4000000
open Go Go.Own
noncomputable def opsFields : Array Oper := opsOf Tryz.f96 1
end Go.Proofs.YtghohakbepeffaaGreatDoor
