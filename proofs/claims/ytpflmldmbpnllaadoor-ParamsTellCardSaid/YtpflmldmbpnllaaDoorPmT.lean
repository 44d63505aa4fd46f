/-
  Params: small laws: conversions, least, rows of numbers copied. Conditions: none.
-/
import Derived.Test.YtpflmldmbpnllaaDoorParH
import Derived.Test.YtpflmldmbpnllaaDoorSymD
import Derived.Test.YtpflmldmbpnllaaDoorSeg
namespace Go.Proofs.YtpflmldmbpnllaaDoor
set_option maxRecDepth 100000
open Go Go.RowKit Go.Own Go.Shelf
theorem conv_u64 (x : Int) (w : World) (h0 : 0 ≤ x) (h1 : x ≤ 9223372036854775807) : (convert 22 3 (.int .u64 x)).run Tryd.prog w = .ok (.int .i64 x) w := by
  simp only [convert, Tryd.underlying22, Tryd.underlying3]
  simp [Conv.intToInt, wrapI x x rfl (by omega) h1]
theorem conv_i64 (x : Int) (w : World) (h0 : 0 ≤ x) (h1 : x ≤ 9223372036854775807) : (convert 3 22 (.int .i64 x)).run Tryd.prog w = .ok (.int .u64 x) w := by
  simp only [convert, Tryd.underlying22, Tryd.underlying3]
  have : IntKind.u64.wrap x = x := by
    unfold IntKind.wrap; simp [IntKind.signed, IntKind.bits]; omega
  simp [Conv.intToInt, this]
def I (l : List Int) : List Value := l.map (.int .i64)
theorem I_one (l : List Int) : ∀ v ∈ I l, v.oneCell' = true := by
  intro v hv; obtain ⟨x, _, rfl⟩ := List.mem_map.1 hv; rfl
section
variable {P : Program} {o : Oper} {ρ : Operand → Value} {w : World}
theorem exec_min (x y : Operand) (ts : Array TypeId) (ho : o.op = .call { callee := .builtin .min, args := #[x, y], argTypes := ts }) (k : IntKind) (a b : Int) (hx : ρ x = .int k a) (hy : ρ y = .int k b) :
    (execOp ρ o).run P w = .ok (.value (.int k (min a b))) w := by
  unfold execOp
  simp [ho, hx, hy, resolve, invoke, builtin, Builtin.min_, Builtin.min2]
  rw [Int.min_def]
  split <;> split <;> omega
/-- 'copy(d, s)' of a row over a row of the same length. -/
theorem exec_copy_row (x y : Operand) (t : TypeId) (ho : o.op = .call { callee := .builtin .copy, args := #[x, y], argTypes := #[t, t] }) (e : TypeId) (hu : P.underlying t = some (.slice e)) (hs : (P.info? e).map (·.size) = some 1)
    (g n g2 c2 : Nat) (hx : ρ x = .slice (some ⟨g, 0, none⟩) n n) (hy : ρ y = .slice (some ⟨g2, 0, none⟩) n c2) (cs : Array Value) (T : TypeId) (h : w.heap[g]? = some (.cells cs T (0, 0))) (hc : cs.size = n) (vs : List Value) (hv : vs.length = n) (T2 : TypeId) (h2 : w.heap[g2]? = some (.cells vs.toArray T2 (0, 0))) (hone : ∀ v ∈ vs, v.oneCell' = true) :
    (execOp ρ o).run P w = .ok (.value (.int .i64 (n : Int))) (w.setRow g vs.toArray) := by
  have := run_copy_row (P := P) w t t o.type e g 0 n n ⟨g2, 0, none⟩ n c2 cs T vs hu hs h (by rw [hv]; simp) (fun j u hj => by
    have := cell_of_row w g2 j vs.toArray T2 (0, 0) h2
    rw [Addr.add_lit]
    exact (by simpa using this : w.cell? ⟨g2, 0 + j, none⟩ = vs[j]?).trans hj) (by rw [hv]; omega) hone
  unfold execOp
  simp only [ho, hx, hy, resolve, invoke, builtin, Sem.run_bind, Sem.run_pure, Result.andThen_ok, List.map_toArray, List.map_cons, List.map_nil, this]
  rw [show cs.toList.take 0 ++ vs ++ cs.toList.drop (0 + vs.length) = vs by rw [List.take_zero, List.nil_append, Nat.zero_add, List.drop_eq_nil_of_le (by simp; omega), List.append_nil], hv]
  rfl
end
end Go.Proofs.YtpflmldmbpnllaaDoor
