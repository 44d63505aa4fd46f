/-
  Printed walks of functions that defer one call, and of deferred functions. Conditions: none.
-/
import Derived.Test.YtpflmldmbpnllaaDoorSym
import Derived.Test.YtpflmldmbpnllaaDoorSym2
import Derived.Defers
namespace Go.Own
open Go Go.RowKit Go.Shelf
section
variable {P : Program} {a : Act} {w : World} {fn : Func}
theorem sy_enterD {f : FuncId} {args : Array Value} {R : Ending → World → Prop} (c : Code) (a : Act) (hf : P.funcs[f]? = some fn) (hb : fn.body = some c)
    (ha : ({ tmps := args ++ Array.replicate (fn.ntmps - args.size) undef, defers := [] } : Act) = a) (h : c.wp P (bodyPostD P fn R) a w) : Calls P f args w R :=
  calls_of_wp_defers hf hb (ha ▸ h)
theorem sy_enterC {f : FuncId} {args : Array Value} {R : Ending → World → Prop} (c : Code) (a : Act) (hf : P.funcs[f]? = some fn) (hb : fn.body = some c)
    (ha : ({ tmps := args ++ Array.replicate (fn.ntmps - args.size) undef, defers := [] } : Act) = a) (h : c.wp P (bodyPost P fn R) a w) : CallsD P f args .returning w fun e u' w' => u' = .returning ∧ R e w' :=
  callsD_of_wp hf hb (ha ▸ h)
theorem ps_defer {ops : Array Oper} {Q : Exit → Act → World → Prop} {rest : List Nat} {i : Nat} (o : Oper) (d : Deferred) (ho : ops[i]? = some o) (hg : Region.wanted o (yielded ops a.tmps) = true) (hrun : (execOp a.eval o).run P w = .ok (.defer d) w)
    (h : Gops P ops Q rest ({ a with defers := d :: a.defers }.put o.dst undef) w) : Gops P ops Q (i :: rest) a w := by
  refine ⟨?_⟩
  rw [wpOps_cons]
  unfold wpOp
  simp only [ho, hg, if_true]
  refine .inl ?_
  unfold Oper.wp
  rw [hrun]; exact h.out
theorem leaves_one {R : Ending → World → Prop} (f : FuncId) (args : Array Value) {tmps : Array Value} (he : ∀ w, (callFunc f args).run P w = .ok (.enter f args) w)
    (h : CallsD P f args .returning w fun e u' w' => u' = .returning ∧ ∃ x, e = .returned x ∧ ∃ v, (results fn tmps).run P w' = .ok v w' ∧ R (.returned v) w') : Leaves P fn tmps R [⟨.fn (.func f) args, #[]⟩] .returning w := by
  refine leaves_cons (f := f) (args := args) (by simp) ?_ (h.mono ?_)
  · simpa [invoke] using he w
  · rintro e u' w' ⟨rfl, x, rfl, v, hr, hR⟩
    exact ⟨v, hr, hR⟩
theorem sy_outD {R : Ending → World → Prop} (f : FuncId) (args : Array Value) (hd : a.defers = [⟨.fn (.func f) args, #[]⟩]) (he : ∀ w, (callFunc f args).run P w = .ok (.enter f args) w)
    (h : CallsD P f args .returning w fun e u' w' => u' = .returning ∧ ∃ x, e = .returned x ∧ ∃ v, (results fn a.tmps).run P w' = .ok v w' ∧ R (.returned v) w') : bodyPostD P fn R .ret a w := by
  show Leaves P fn a.tmps R a.defers .returning w
  rw [hd]; exact leaves_one f args he h
theorem sy_fallD {R : Ending → World → Prop} (f : FuncId) (args : Array Value) (hd : a.defers = [⟨.fn (.func f) args, #[]⟩]) (he : ∀ w, (callFunc f args).run P w = .ok (.enter f args) w)
    (h : CallsD P f args .returning w fun e u' w' => u' = .returning ∧ ∃ x, e = .returned x ∧ ∃ v, (results fn a.tmps).run P w' = .ok v w' ∧ R (.returned v) w') : bodyPostD P fn R .normal a w := by
  show Leaves P fn a.tmps R a.defers .returning w
  rw [hd]; exact leaves_one f args he h
/-- Two results, two rows. -/
theorem results_rows2 {p q : Tmp} {ty tz : TypeId} (h : fn.results = #[.cell p ty, .cell q tz]) (tmps : Array Value) (w : World) (g k : Nat) (t u : TypeId) (cs ds : Array Value) (fr fs : Nat × Nat) (d e : TypeDesc)
    (hp : tmps.getD p undef = .pointer (some ⟨g, 0, none⟩)) (hg : w.heap[g]? = some (.cells cs t fr)) (hu : P.underlying ty = some d) (hd : (match d with | .struct _ | .array _ _ => true | _ => false) = true) (hi : (P.info? ty).map (·.size) = some cs.size)
    (hq : tmps.getD q undef = .pointer (some ⟨k, 0, none⟩)) (hk : w.heap[k]? = some (.cells ds u fs)) (hv : P.underlying tz = some e) (he : (match e with | .struct _ | .array _ _ => true | _ => false) = true) (hj : (P.info? tz).map (·.size) = some ds.size) :
    (results fn tmps).run P w = .ok (.tuple #[.agg cs, .agg ds]) w := by
  have hp' : tmps[p]?.getD undef = .pointer (some ⟨g, 0, none⟩) := by simpa using hp
  have hq' : tmps[q]?.getD undef = .pointer (some ⟨k, 0, none⟩) := by simpa using hq
  simp [results, h, hp', hq', asAddr, run_loadVar_row w g t ty cs fr d hg hu hd hi, run_loadVar_row w k u tz ds fs e hk hv he hj]
end
end Go.Own
