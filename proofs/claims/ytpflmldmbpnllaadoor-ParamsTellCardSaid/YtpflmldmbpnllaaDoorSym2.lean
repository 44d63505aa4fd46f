/-
  More runs of operations for printed walks: append to a row of one's own, a byte of a string, bytes as a string. Conditions: none.
-/
import Derived.Test.YtpflmldmbpnllaaDoorSym
import Derived.Test.YtpflmldmbpnllaaDoorOwnRow
import Derived.Test.YtpflmldmbpnllaaDoorBytes
import Derived.Lib.SlBytesConst
import Derived.Laws.Concat
import Derived.Laws.Strings
namespace Go.Own
open Go Go.RowKit Go.Shelf
section
variable {P : Program} {o : Oper} {ρ : Operand → Value} {w : World}
theorem exec_append (s x : Operand) (t : TypeId) (ho : o.op = .call { callee := .builtin .append, args := #[s, x], argTypes := #[t, t] }) (vs vx : Value) (hs : ρ s = vs) (hx : ρ x = vx) {v' : Value} {w' : World}
    (hr : (Builtin.append_ #[t, t] o.type #[vs, vx]).run P w = .ok v' w') : (execOp ρ o).run P w = .ok (.value v') w' := by
  unfold execOp
  simp only [ho, resolve, invoke, builtin, Sem.run_bind, Sem.run_pure, Result.andThen_ok, List.map_toArray, List.map_cons, List.map_nil, hs, hx, hr]
theorem exec_index_str (t : TypeId) (x y : Operand) (ho : o.op = .index t x y) (l : List UInt8) (hx : ρ x = .string ⟨l.toArray⟩) (kd : IntKind) (k : Nat) (hy : ρ y = .int kd (k : Int)) (hu : P.underlying t = some .string) (c : UInt8) (hc : l[k]? = some c) :
    (execOp ρ o).run P w = .ok (.value (.int .u8 ((c.toNat : Nat) : Int))) w := by
  have h0 : (0 : Int) ≤ (k : Int) := by omega
  have hk : k < l.length := (List.getElem?_eq_some_iff.1 hc).1
  have h1 : (if (0 : Int) ≤ (k : Int) then (⟨l.toArray⟩ : ByteArray)[(k : Int).toNat]? else none) = some c := by
    rw [if_pos h0, Int.toNat_natCast]
    rw [getElem?_pos (⟨l.toArray⟩ : ByteArray) k (by simpa [ByteArray.size] using hk)]
    have := (List.getElem?_eq_some_iff.1 hc).2
    exact congrArg some this
  unfold execOp
  simp only [ho, hx, hy, Instr.index, asIntOf, Sem.run_bind, Sem.run_pure, Result.andThen_ok, run_underlying hu, h1]
theorem exec_convert (s d : TypeId) (x : Operand) (ho : o.op = .convert s d x) (vx : Value) (hx : ρ x = vx) {v : Value} {w' : World} (hr : (convert s d vx).run P w = .ok v w') : (execOp ρ o).run P w = .ok (.value v) w' := by
  unfold execOp
  simp only [ho, hx, Sem.run_bind, Sem.run_pure, Result.andThen_ok, hr]
theorem exec_len_str (x : Operand) (t : TypeId) (ho : o.op = .call { callee := .builtin .len, args := #[x], argTypes := #[t] }) (ht : P.underlying t = some .string) (s : ByteArray) (hx : ρ x = .string s) : (execOp ρ o).run P w = .ok (.value (.int .i64 (s.size : Int))) w := by
  unfold execOp
  simp [ho, hx, resolve, invoke, builtin, Builtin.len_, run_underlying ht, go_sem]
end
/-- A row that lies in blocks from a base on. -/
def NewFrom (B : Nat) (v : Value) : Prop := ∀ j, v.ownBlock = some j → B ≤ j
theorem NewFrom.nil (B : Nat) : NewFrom B (.slice none 0 0) := fun j h => by simp [Value.ownBlock] at h
theorem NewFrom.ptr {B g : Nat} (h : B ≤ g) (n cap : Nat) : NewFrom B (.slice (some ⟨g, 0, none⟩) n cap) := fun j hj => by simp [Value.ownBlock] at hj; omega
theorem NewFrom.next {B : Nat} {v v' : Value} {w w' : World} (h : NewFrom B v) (hB : B ≤ w.heap.size) (h5 : ∀ k, v'.ownBlock = some k → v.ownBlock = some k ∨ k = w.heap.size ∧ w.heap.size < w'.heap.size) : NewFrom B v' := fun j hj => by
  rcases h5 j hj with h1 | ⟨h1, _⟩
  · exact h j h1
  · omega
theorem Keeps.rowAdd {w w' : World} {v : Value} (h : w.grownBy w' v.ownBlock) : Keeps (fun j => v.ownBlock = some j) w w' := (Keeps.refl _ _).grown h (fun _ e _ => e)
/-- '[]byte(constant)': the block's end is marked, no cell turns. -/
theorem conv_step {P : Program} (W : World) (C : Array Value) (e : TypeId) (W1 : World) (g : Nat) (e1 : W.alloc (.cells C e) = W1) (eg : W.heap.size = g) (t : TypeId) (n c : Nat) (ht : P.underlying t = some (.slice e)) (he : P.underlying e = some (.int .u8)) :
    ∃ W2, (convert t t (.slice (some ⟨g, 0, none⟩) n c)).run P W1 = .ok (.slice (some ⟨g, 0, none⟩) n c) W2 ∧ W2.heap[g]? = some (.cells C e (C.size, C.size + 1)) ∧ Keeps (One g) W1 W2 := by
  subst e1; subst eg
  refine ⟨_, Lib.run_convert_bytes_const W t e C n c ht he, heap_alloc_new _ _, ⟨rfl, rfl, rfl, by simp, fun k hk hm => ?_⟩⟩
  have hne : k ≠ W.heap.size := hm
  have h2 : k < W.heap.size := by simp at hk; omega
  exact (Below.heap_alloc _ _ _ h2).trans (Below.heap_alloc _ _ _ h2).symm
theorem bytes_of_block {w : World} {g n : Nat} {l : List UInt8} {T : TypeId} {fr : Nat × Nat} {C : Array Value} (h : w.heap[g]? = some (.cells C T fr)) (hC : C = (B l).toArray) (hn : l.length = n) (hm : n ≤ maxLen) : BytesAt w (.slice (some ⟨g, 0, none⟩) n n) l := by
  subst hn; subst hC
  refine ⟨⟨_, _, rfl, Nat.le_refl _, hm, fun h => by cases h⟩, fun k x hk => ⟨g, 0, _, rfl, lt_of_block h, ?_⟩⟩
  rw [Nat.zero_add]
  refine (cell_of_row _ _ _ _ _ _ h).trans ?_
  rw [List.getElem?_toArray]; exact B_get l k x hk
theorem exec_cat {P : Program} {o : Oper} {ρ : Operand → Value} {w : World} (t : TypeId) (x y : Operand) (ho : o.op = .binOp .add t x y t) (a b : List UInt8) (hx : ρ x = .string ⟨a.toArray⟩) (hy : ρ y = .string ⟨b.toArray⟩) (hl : a.length + b.length ≤ 9223372036854775807) :
    (execOp ρ o).run P w = .ok (.value (.string ⟨(a ++ b).toArray⟩)) w := by
  refine exec_binop .add t t x y ho _ _ _ hx hy rfl ?_
  rw [binOp_string_add, run_string_add_sum w _ _ (by simpa [ByteArray.size] using hl)]
  congr 2
theorem src_block {w : World} {g : Nat} {cs : Array Value} {T : TypeId} (h : w.heap[g]? = some (.cells cs T (0, 0))) (size n : Nat) (hn : cs.toList.length = n * size) (h1 : cs.toList.all (·.oneCell') = true) : Src w size (.slice (some ⟨g, 0, none⟩) n n) n cs.toList := by
  refine ⟨hn, fun u hu => List.all_eq_true.1 h1 u hu, .inr ⟨⟨g, 0, none⟩, n, rfl, fun j u hj => ?_⟩⟩
  rw [Addr.add_lit, Nat.zero_add]
  exact (cell_of_row _ _ _ _ _ _ h).trans (by simpa using hj)
end Go.Own
