/-
  Printed walks: calls that may panic, calls through an interface whose value is known. Conditions: none.
-/
import Derived.Test.YtmapcghgdbfmhaaSymD
import Derived.Recover
namespace Go.Own
open Go Go.RowKit Go.Shelf
/-- How a call without results ends that may panic. -/
def PEnd (K : World → Prop) (E : List PanicEntry → World → Prop) (e : Ending) (w : World) : Prop := (e = .returned (.tuple #[]) ∧ K w) ∨ ∃ c, e = .panicked c ∧ E c w
theorem PEnd.mono {K K' : World → Prop} {E E' : List PanicEntry → World → Prop} {e : Ending} {w : World} (h : PEnd K E e w) (hk : ∀ w, K w → K' w) (he : ∀ c w, E c w → E' c w) : PEnd K' E' e w := by
  rcases h with ⟨h1, h2⟩ | ⟨c, h1, h2⟩
  · exact .inl ⟨h1, hk _ h2⟩
  · exact .inr ⟨c, h1, he _ _ h2⟩
/-- The method that an interface value's call comes to. -/
def MethodAt (P : Program) (v : Value) (name : String) (f : FuncId) (rv : Value) : Prop := ∀ (args : Array Value) (w : World), (callMethod v name args).run P w = .ok (.enter f (#[rv] ++ args)) w
def NilAt (P : Program) (v : Value) (name : String) : Prop := ∀ (ρ : Operand → Value) (o : Oper) (x : Operand) (w : World), o.op = .nilCheck x → ρ x = .func (.method name) #[v] #[] → (execOp ρ o).run P w = .ok (.value (.func (.method name) #[v] #[])) w
section
variable {P : Program} {ops : Array Oper} {Q : Exit → Act → World → Prop} {a : Act} {w : World} {i : Nat}
theorem run_callF {ρ : Operand → Value} (o : Oper) (f : FuncId) (args : Array Value) (hc : o.op = .call { callee := .value (.func f), args := callArgs o, argTypes := callTypes o }) (hρ : ρ (.func f) = .func (.func f) #[] #[]) (hargs : (callArgs o).map ρ = args)
    (he : ∀ args w, (callFunc f args).run P w = .ok (.enter f args) w) : (execOp ρ o).run P w = .ok (.enter f args) w := by
  unfold execOp
  simp only [hc, resolve, hargs, hρ, Sem.run_bind, Deferred.ofValue, Sem.run_pure, Result.andThen_ok, invoke, Array.append_empty, Array.empty_append, he]
theorem run_callV {ρ : Operand → Value} (o : Oper) (x : Operand) (f : FuncId) (first caps args : Array Value) (hc : o.op = .call { callee := .value x, args := callArgs o, argTypes := callTypes o }) (hx : ρ x = .func (.func f) first caps) (hargs : first ++ (callArgs o).map ρ ++ caps = args)
    (he : ∀ args w, (callFunc f args).run P w = .ok (.enter f args) w) : (execOp ρ o).run P w = .ok (.enter f args) w := by
  unfold execOp
  simp only [hc, resolve, hx, Sem.run_bind, Deferred.ofValue, Sem.run_pure, Result.andThen_ok, invoke, hargs, he]
theorem run_invoke {ρ : Operand → Value} (o : Oper) (x : Operand) (name : String) (v : Value) (f : FuncId) (rv : Value) (args full : Array Value) (hc : o.op = .call { callee := .invoke x name, args := callArgs o, argTypes := callTypes o }) (hx : ρ x = v) (hargs : (callArgs o).map ρ = args)
    (hm : MethodAt P v name f rv) (hf : #[rv] ++ args = full) : (execOp ρ o).run P w = .ok (.enter f full) w := by
  unfold execOp
  simp only [hc, resolve, hx, hargs, Sem.run_bind, Sem.run_pure, Result.andThen_ok, invoke]
  have h0 : ((#[v] ++ args)[0]? : Option Value) = some v := (Array.getElem?_append_left (by simp)).trans rfl
  have h1 : (#[v] ++ args).extract 1 (#[v] ++ args).size = args := by
    apply Array.toList_inj.1
    rw [Array.toList_extract]
    simp [List.extract, List.take_of_length_le]
  simp only [h0, h1]
  rw [hm, hf]
theorem opH_P {K : Act → World → Prop} (o : Oper) (f : FuncId) (args : Array Value) (R : World → Prop) (E : List PanicEntry → World → Prop) (ho : ops[i]? = some o) (hg : Region.wanted o (yielded ops a.tmps) = true) (hr : (execOp a.eval o).run P w = .ok (.enter f args) w)
    (h : Calls P f args w (PEnd R E)) (hE : ∀ c w', E c w' → Q (.panic c) a w') (hK : ∀ w', R w' → K (a.put o.dst (.tuple #[])) w') : wpOp P ops Q i K a w := by
  unfold wpOp
  simp only [ho, hg, if_true]
  refine .inl ?_
  unfold Oper.wp
  rw [hr]
  refine Calls.mono h fun e w' he => ?_
  rcases he with ⟨rfl, h1⟩ | ⟨c, rfl, h1⟩
  · exact hK _ h1
  · exact hE _ _ h1
theorem ps_P {rest : List Nat} (o : Oper) (f : FuncId) (args : Array Value) (R : World → Prop) (E : List PanicEntry → World → Prop) (hr : (execOp a.eval o).run P w = .ok (.enter f args) w)
    (h : Calls P f args w (PEnd R E)) (hE : ∀ c w', E c w' → Q (.panic c) a w') (hK : ∀ w', R w' → Gops P ops Q rest (a.put o.dst (.tuple #[])) w') (ho : ops[i]? = some o := by kernel_rfl) (hg : Region.wanted o (yielded ops a.tmps) = true := by kernel_rfl) : Gops P ops Q (i :: rest) a w :=
  ⟨by rw [wpOps_cons]; exact opH_P o f args R E ho hg hr h hE (fun w' h1 => (hK w' h1).out)⟩
theorem ls_P {rest : List Oper} (o : Oper) (f : FuncId) (args : Array Value) (R : World → Prop) (E : List PanicEntry → World → Prop) (hr : (execOp a.eval o).run P w = .ok (.enter f args) w)
    (h : Calls P f args w (PEnd R E)) (hE : ∀ c w', E c w' → Q (.panic c) a w') (hK : ∀ w', R w' → Gls P ops Q rest (a.put o.dst (.tuple #[])) w') (hg : Region.wanted o (yielded ops a.tmps) = true := by kernel_rfl) : Gls P ops Q (o :: rest) a w := by
  refine ⟨?_⟩
  unfold wpList
  rw [if_pos hg]
  left
  unfold Oper.wp
  rw [hr]
  refine Calls.mono h fun e w' he => ?_
  rcases he with ⟨rfl, h1⟩ | ⟨c, rfl, h1⟩
  · exact (hK _ h1).out
  · exact hE _ _ h1
/-- 'panic(x)' of a value that is no interface. -/
theorem ps_panic {rest : List Nat} (o : Oper) (x : Operand) (t : TypeId) (v : Value) (ho : ops[i]? = some o) (hg : Region.wanted o (yielded ops a.tmps) = true) (hc : o.op = .panic x) (hx : a.eval x = .iface t v)
    (h : Q (.panic [{ v := .iface t v, recovered := false }]) a w) : Gops P ops Q (i :: rest) a w := by
  refine ⟨?_⟩
  rw [wpOps_cons]
  unfold wpOp
  simp only [ho, hg, if_true]
  refine .inl ?_
  unfold Oper.wp execOp
  simp only [hc, hx]
  exact h
theorem nil_at {P : Program} {t : TypeId} {v : Value} {name : String} (h : ∀ w, (nilAhead (P.types.size + Made.depth) t v name).run P w = .ok (some false) w) : NilAt P (.iface t v) name := by
  intro ρ o x w ho hx
  unfold execOp
  simp only [ho, hx]
  simp only [Sem.run_bind, run_program, Result.andThen_ok, List.getElem?_toArray, List.getElem?_cons_zero, h]
  simp [go_sem]
/-- One result, that lies in a cell. -/
theorem results_cell1 {fn : Func} {p : Tmp} {ty : TypeId} (h : fn.results = #[.cell p ty]) (tmps : Array Value) (w : World) (g o : Nat) (v : Value) (d : TypeDesc) (hp : tmps.getD p undef = .pointer (some ⟨g, o, none⟩)) (hu : P.underlying ty = some d)
    (hd : (match d with | .struct _ | .array _ _ => false | _ => true) = true) (hc : w.cell? ⟨g, o, none⟩ = some v) : (results fn tmps).run P w = .ok v w := by
  have hp' : tmps[p]?.getD undef = .pointer (some ⟨g, o, none⟩) := by simpa using hp
  cases d <;> simp at hd <;> (simp [results, h, hp', asAddr, loadVar, isAgg, run_underlying hu, go_sem]; simp [hc, Result.andThen])
/-- A function that defers: it leaves before anything was deferred. -/
theorem sy_outD0 {fn : Func} {R : Ending → World → Prop} (v : Value) (hd : a.defers = []) (hr : (results fn a.tmps).run P w = .ok v w) (h : R (.returned v) w) : bodyPostD P fn R .ret a w := by
  show Leaves P fn a.tmps R a.defers .returning w
  rw [hd]; exact ⟨v, hr, h⟩
/-- It leaves by a panic that the deferred call recovers. -/
theorem sy_panicD {fn : Func} {R : Ending → World → Prop} (f : FuncId) (args : Array Value) (x : Value) (hd : a.defers = [⟨.fn (.func f) args, #[]⟩]) (he : ∀ w, (callFunc f args).run P w = .ok (.enter f args) w)
    (h : CallsD P f args (.panicking [{ v := x, recovered := false }]) w fun e u' w' => u' = .panicking [{ v := x, recovered := true }] ∧ ∃ y, e = .returned y ∧ ∃ v, (results fn a.tmps).run P w' = .ok v w' ∧ R (.returned v) w') :
    bodyPostD P fn R (.panic [{ v := x, recovered := false }]) a w := by
  show Leaves P fn a.tmps R a.defers (.panicking [{ v := x, recovered := false }]) w
  rw [hd]
  refine leaves_cons (f := f) (args := args) (by simp) ?_ (h.mono ?_)
  · simpa [invoke] using he w
  · rintro e u' w' ⟨rfl, y, rfl, v, hr, hR⟩
    exact ⟨v, hr, hR⟩
/-- A deferred function that recovers first: what it does then, R. -/
theorem bodyPost_S {fn : Func} {c₀ : Frame} {cs : List Frame} {R : Ending → World → Prop} {e : Exit} {u : FrameMode} (h : bodyPost P fn R e a w) : bodyPostS P fn c₀ cs (fun e u' w' => u' = u ∧ R e w') e a ({ c₀ with mode := u } :: cs) w := by
  cases e with
  | normal => obtain ⟨hd, v, hr, hR⟩ := h; exact ⟨hd, u, rfl, v, hr, rfl, hR⟩
  | ret => obtain ⟨hd, v, hr, hR⟩ := h; exact ⟨hd, u, rfl, v, hr, rfl, hR⟩
  | panic ch => exact ⟨h.1, u, rfl, rfl, h.2⟩
  | outgrown => exact ⟨u, rfl, h⟩
  | exit id => exact h
  | goto l => exact h
theorem mode_eta (c₀ : Frame) {u : FrameMode} (h : c₀.mode = u) : c₀ = { c₀ with mode := u } := by subst h; rfl
theorem rec_no {f : FuncId} {fn : Func} {args : Array Value} {R : Ending → World → Prop} (id : Nat) (y : Code) (ops : Array Oper) (o0 o1 : Oper) (a0 a1 a2 : Act) (v1 : Value) (hf : P.funcs[f]? = some fn) (hb : fn.body = some (.seq (.region id ops false) y))
    (ha : ({ tmps := args ++ Array.replicate (fn.ntmps - args.size) undef, defers := [] } : Act) = a0) (hops : ops = #[o0, o1]) (hw0 : Region.wanted o0 (yielded ops a0.tmps) = true) (hr0 : (execOp a0.eval o0).run P w = .ok .recover w) (h1 : a0.put o0.dst .nilIface = a1)
    (hw1 : Region.wanted o1 (yielded ops a1.tmps) = true) (hr1 : (execOp a1.eval o1).run P w = .ok (.value v1) w) (h2 : a1.put o1.dst v1 = a2) (h : y.wp P (bodyPost P fn R) a2 w) : CallsD P f args .returning w (fun e u' w' => u' = .returning ∧ R e w') := by
  refine callsD_of_wpS hf hb fun c₀ cs hu => ?_
  rw [ha]
  apply wpS_seq
  apply wpS_region
  subst hops
  have hrec : recoverD (c₀ :: cs) = none := by simp [recoverD, hu]
  have hr : List.range (#[o0, o1] : Array Oper).size = [0, 1] := rfl
  rw [hr]
  simp only [wpOpsS, List.getElem?_toArray, List.getElem?_cons_zero, List.getElem?_cons_succ, hw0, if_true, hr0, hrec, h1, hw1, hr1, Oper.upon, h2, Exit.thenS]
  refine wpS_of_wp (wp_mono h fun e a w hq => ?_)
  have := bodyPost_S (c₀ := c₀) (cs := cs) (u := .returning) hq
  rw [← mode_eta c₀ hu] at this
  exact this
theorem rec_yes {f : FuncId} {fn : Func} {args : Array Value} {R : Ending → World → Prop} (x : Value) (id : Nat) (y : Code) (ops : Array Oper) (o0 o1 : Oper) (a0 a1 a2 : Act) (v1 : Value) (hf : P.funcs[f]? = some fn) (hb : fn.body = some (.seq (.region id ops false) y))
    (ha : ({ tmps := args ++ Array.replicate (fn.ntmps - args.size) undef, defers := [] } : Act) = a0) (hops : ops = #[o0, o1]) (hw0 : Region.wanted o0 (yielded ops a0.tmps) = true) (hr0 : (execOp a0.eval o0).run P w = .ok .recover w) (h1 : a0.put o0.dst x = a1)
    (hw1 : Region.wanted o1 (yielded ops a1.tmps) = true) (hr1 : (execOp a1.eval o1).run P w = .ok (.value v1) w) (h2 : a1.put o1.dst v1 = a2) (h : y.wp P (bodyPost P fn R) a2 w) :
    CallsD P f args (.panicking [{ v := x, recovered := false }]) w (fun e u' w' => u' = .panicking [{ v := x, recovered := true }] ∧ R e w') := by
  refine callsD_of_wpS hf hb fun c₀ cs hu => ?_
  rw [ha]
  apply wpS_seq
  apply wpS_region
  subst hops
  have hrec : recoverD (c₀ :: cs) = some (x, { c₀ with mode := .panicking [{ v := x, recovered := true }] } :: cs) := by simp [recoverD, hu]
  have hr : List.range (#[o0, o1] : Array Oper).size = [0, 1] := rfl
  rw [hr]
  simp only [wpOpsS, List.getElem?_toArray, List.getElem?_cons_zero, List.getElem?_cons_succ, hw0, if_true, hr0, hrec, h1, hw1, hr1, Oper.upon, h2, Exit.thenS]
  exact wpS_of_wp (wp_mono h fun e a w hq => bodyPost_S (c₀ := c₀) (cs := cs) hq)
end
end Go.Own
