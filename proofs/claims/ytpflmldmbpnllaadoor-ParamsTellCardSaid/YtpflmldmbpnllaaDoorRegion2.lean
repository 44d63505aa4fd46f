/-
  More moves in a region that draws its order: two operations that may come up, a call, an alloc, a sum, a cut. Conditions: none.
-/
import Derived.Test.YtpflmldmbpnllaaDoorRegion
import Derived.Test.YtpflmldmbpnllaaDoorBytes
namespace Go.Own
open Go Go.RowKit
section
variable {P : Program} {ops : Array Oper} {Q : Exit → Act → World → Prop} {md : Region.Mode} {S : World → Prop}
theorem anyH_eq {fuel : Nat} {l l' : Array Bool} {a b : Act} {w : World} (hl : l = l') (h : a = b) (hq : wpAnyH P md ops Q S fuel l' b w) : wpAnyH P md ops Q S fuel l a w := by
  subst hl; subst h; exact hq
theorem anyH_two {fuel : Nat} {l : Array Bool} {a : Act} {w : World} (i j : Nat) (hr : Region.ready md ops l = [i, j])
    (h1 : wpOp P ops Q i (fun a' w' => S w' ∧ wpAnyH P md ops Q S fuel (l.setIfInBounds i true) a' w') a w) (h2 : wpOp P ops Q j (fun a' w' => S w' ∧ wpAnyH P md ops Q S fuel (l.setIfInBounds j true) a' w') a w) : wpAnyH P md ops Q S (fuel + 1) l a w := by
  refine wpAnyH_all hr (by simp) fun m hm => ?_
  rcases List.mem_cons.1 hm with rfl | hm
  · exact h1
  · obtain rfl : m = j := by simpa using hm
    exact h2
variable {K : Act → World → Prop} {i : Nat}
theorem opH_run (o : Oper) (v : Value) {a : Act} {w w' : World} (ho : ops[i]? = some o) (hg : Region.wanted o (yielded ops a.tmps) = true)
    (hrun : (execOp a.eval o).run P w = .ok (.value v) w') (h : K (a.put o.dst v) w') : wpOp P ops Q i K a w := by
  unfold wpOp
  simp only [ho, hg, if_true]
  refine .inl ?_
  unfold Oper.wp
  rw [hrun]; exact h
theorem opH_callV (o : Oper) (x : Operand) (f : FuncId) (caps args : Array Value) {a : Act} {w : World} (ho : ops[i]? = some o) (hg : Region.wanted o (yielded ops a.tmps) = true)
    (hc : o.op = .call { callee := .value x, args := callArgs o, argTypes := callTypes o }) (hx : a.eval x = .func (.func f) #[] caps) (hargs : (callArgs o).map a.eval ++ caps = args) (he : ∀ args w, (callFunc f args).run P w = .ok (.enter f args) w)
    (h : Calls P f args w fun e w' => ∃ v, e = .returned v ∧ K (a.put o.dst v) w') : wpOp P ops Q i K a w := by
  unfold wpOp
  simp only [ho, hg, if_true]
  refine .inl ?_
  unfold Oper.wp execOp
  simp only [hc, resolve, hx, Sem.run_bind, Deferred.ofValue, Sem.run_pure, Result.andThen_ok, invoke, Array.empty_append, hargs, he]
  refine Calls.mono h fun e w' ⟨v, he, hv⟩ => ?_
  subst he
  exact hv
theorem opH_callF (o : Oper) (f : FuncId) (args : Array Value) {a : Act} {w : World} (ho : ops[i]? = some o) (hg : Region.wanted o (yielded ops a.tmps) = true)
    (hc : o.op = .call { callee := .value (.func f), args := callArgs o, argTypes := callTypes o }) (hargs : (callArgs o).map a.eval = args) (he : ∀ args w, (callFunc f args).run P w = .ok (.enter f args) w)
    (h : Calls P f args w fun e w' => ∃ v, e = .returned v ∧ K (a.put o.dst v) w') : wpOp P ops Q i K a w := by
  unfold wpOp
  simp only [ho, hg, if_true]
  refine .inl ?_
  unfold Oper.wp execOp
  simp only [hc, resolve, hargs, Act.eval, Sem.run_bind, Deferred.ofValue, Sem.run_pure, Result.andThen_ok, invoke, Array.append_empty, Array.empty_append, he]
  refine Calls.mono h fun e w' ⟨v, he, hv⟩ => ?_
  subst he
  exact hv
end
/-- A new variable of a struct or an array. -/
theorem exec_alloc {P : Program} {o : Oper} {ρ : Operand → Value} {w : World} (t : TypeId) (ho : o.op = .alloc t) {cs : Array Value} (hr : (zeroValue t).run P w = .ok (.agg cs) w) :
    (execOp ρ o).run P w = .ok (.value (.pointer (some ⟨w.heap.size, 0, none⟩))) (w.alloc (.cells cs t)) := by
  unfold execOp
  simp only [ho, Instr.alloc, Sem.run_bind, hr, Result.andThen_ok, Sem.run_pure]
  simp [go_sem]
/-- A value, spelled otherwise. -/
theorem exec_cast {P : Program} {o : Oper} {ρ : Operand → Value} {w : World} {v v' : Value} (h : v = v') (hr : (execOp ρ o).run P w = .ok (.value v) w) : (execOp ρ o).run P w = .ok (.value v') w := h ▸ hr
/-- 's[i:j]'. -/
theorem exec_cut2 {P : Program} {o : Oper} {ρ : Operand → Value} {w : World} (t : TypeId) (x y z : Operand) (ho : o.op = .slice t x (some y) (some z) none) (vx vy vz v : Value) (hx : ρ x = vx) (hy : ρ y = vy) (hz : ρ z = vz)
    (hr : (Instr.sliceAt t vx (some vy) (some vz) none).run P w = .ok v w) : (execOp ρ o).run P w = .ok (.value v) w := by
  unfold execOp
  simp only [ho, hx, hy, hz, Option.map_some, Option.map_none, Sem.run_bind, hr, Result.andThen_ok, Sem.run_pure]
end Go.Own
