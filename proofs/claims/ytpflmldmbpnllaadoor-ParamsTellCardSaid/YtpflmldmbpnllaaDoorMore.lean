/-
  More laws for a walk: guarded operations whose run is known; a load in the midst of a block; a composite literal. Conditions: none.
-/
import Derived.Test.YtpflmldmbpnllaaDoorBase
import Derived.Deep.MidRow
namespace Go.Own
open Go Go.RowKit
variable {P : Program} {ops : Array Oper} {rest : List Oper} {o : Oper} {a : Act} {w w' : World} {Q : Exit → Act → World → Prop}
/-- An operation that its guard lets run, and whose run is known. -/
theorem own_run_w (v : Value) (hw : Region.wanted o (yielded ops a.tmps) = true) (hr : (execOp a.eval o).run P w = .ok (.value v) w') (h : wpList P ops Q rest (a.put o.dst v) w') : wpList P ops Q (o :: rest) a w := by
  unfold wpList
  rw [if_pos hw]
  left
  unfold Oper.wp
  rw [hr]
  exact h
theorem exec_load_mid {ρ : Operand → Value} (ty : TypeId) (x : Operand) (ho : o.op = .load ty x) (b k : Nat) (hx : ρ x = .pointer (some ⟨b, k, none⟩)) (cs : List Value) (d : TypeDesc) (hc : w.rangeAt b k cs)
    (hu : P.underlying ty = some d) (hd : d.isRow = true) (hi : (P.info? ty).map (·.size) = some cs.length) : (execOp ρ o).run P w = .ok (.value (.agg cs.toArray)) w := by
  unfold execOp
  simp only [ho, hx, Sem.run_bind, run_loadAt_mid w b k ty cs d hc hu hd hi, Result.andThen_ok, Sem.run_pure]
theorem exec_build {ρ : Operand → Value} (t : TypeId) (ps : Array (Nat × Operand)) (ho : o.op = .build t ps) (qs : Array (Nat × Value)) (hq : (ps.map fun (i, x) => (i, ρ x)) = qs)
    {v : Value} (hr : (Instr.build t qs).run P w = .ok v w) : (execOp ρ o).run P w = .ok (.value v) w := by
  subst hq
  unfold execOp
  simp only [ho, Sem.run_bind, hr, Result.andThen_ok, Sem.run_pure]
theorem exec_binop {ρ : Operand → Value} (op : BinOp) (t t' : TypeId) (x y : Operand) (ho : o.op = .binOp op t x y t') (vx vy v : Value) (hx : ρ x = vx) (hy : ρ y = vy) (hg : (eqGuard op t x y vx vy).run P w = .ok () w)
    (hr : (binOp op t vx vy).run P w = .ok v w) : (execOp ρ o).run P w = .ok (.value v) w := by
  unfold execOp
  simp only [ho, hx, hy, Sem.run_bind, hg, hr, Result.andThen_ok, Sem.run_pure]
end Go.Own
