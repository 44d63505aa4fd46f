/-
  slices.Grow and slices.Concat at bytes. Conditions: none.
-/
import Derived.Test.YtenaakldccjnbaaKitB
import Derived.Lib.AppendZerosOnto
namespace Go.Proofs.Ytenaakldccjnbaa
open Go Go.RowKit Go.Own

theorem own_append_run {P : Program} {ops : Array Oper} {rest : List Oper} {o : Oper} {a : Act} {w w' : World} {Q : Exit → Act → World → Prop} (hgd : o.guard = none) (s x : Operand) (ts : Array TypeId)
    (ho : o.op = .call { callee := .builtin .append, args := #[s, x], argTypes := ts }) (vs vx v : Value) (hs : a.eval s = vs) (hx : a.eval x = vx) (hr : (Builtin.append_ ts o.type #[vs, vx]).run P w = .ok v w')
    (h : wpList P ops Q rest (a.put o.dst v) w') : wpList P ops Q (o :: rest) a w := by
  refine own_run hgd (v := v) (w' := w') ?_ h
  unfold execOp
  simp only [ho, resolve, invoke, builtin, Sem.run_bind, Sem.run_pure, Result.andThen_ok, List.map_toArray, List.map_cons, List.map_nil, hs, hx, hr]
theorem zeros_size (n : Nat) : (Builtin.zeroCells (Value.int .u8 0).cells n).size = n := by simp [Builtin.zeroCells, Value.cells]
theorem grown_zeros (w : World) (n : Nat) (h0 : 0 < n) (hn : n ≤ 100000000) : ∃ (cap : Nat) (cur : Array Value), n ≤ cap ∧ cap ≤ maxLen ∧ cur.size = cap ∧
    ∀ kq ty, (Builtin.append_ #[22, 3] ty #[.slice none 0 0, .int kq (n : Int)]).run Try.prog w = .ok (.slice (some ⟨w.heap.size, 0, none⟩) n cap) (w.drew.alloc (.cells cur 5)) := by
  obtain ⟨i0, hi, hz0, hz1, hz2⟩ := info_parts u8_info0
  refine ⟨grownCap w n 0 5, ([] : List Value).toArray ++ Builtin.zeroCells (Value.int .u8 0).cells n ++ Builtin.zeroCells (Value.int .u8 0).cells (grownCap w n 0 5 - n), grownCap_ge w n 0 5, grownCap_le_maxLen w n 0 5 (by unfold maxLen; omega), ?_, fun kq ty => ?_⟩
  · have := grownCap_ge w n 0 5
    simp [zeros_size]
    omega
  · have := Lib.run_append_grow_zeros (P := Try.prog) w 22 3 ty 5 i0 (.int .u8 0) kq .i64 Try.underlying22 Try.underlying3 hi hz0 none 0 0 [] (by simp [Builtin.firstCells]) n h0 (by omega) (by omega) (by omega) (by rw [hz2]; omega) (by rw [Nat.zero_add, nextslicecap_zero h0, hz2]; omega)
    simpa using this

/-- Two slices of bytes, in a slice of their own. -/
structure TwoAt (w : World) (g : Nat) (x1 x2 : Value) (l1 l2 : List UInt8) : Prop where
  c0 : w.cell? ⟨g, 0, none⟩ = some x1
  c1 : w.cell? ⟨g, 1, none⟩ = some x2
  h1 : BytesAt w x1 l1
  h2 : BytesAt w x2 l2
theorem TwoAt.keeps {w w' : World} {g : Nat} {x1 x2 : Value} {l1 l2 : List UInt8} (h : TwoAt w g x1 x2 l1 l2) (k : Keeps Nob w w') : TwoAt w' g x1 x2 l1 l2 :=
  ⟨(k.cell (World.block_lt_of_cell? w _ h.c0) (fun x => x)).trans h.c0, (k.cell (World.block_lt_of_cell? w _ h.c1) (fun x => x)).trans h.c1, h.h1.keepsN k, h.h2.keepsN k⟩

theorem len_small (n m : Nat) (h : n + m ≤ 100000000) : n + m ≤ maxLen := by unfold maxLen; omega
theorem len_bytes (n m : Nat) (h : n + m ≤ 100000000) : (n + m) * 1 ≤ 140737488355328 := by omega
/-- What is together so far. -/
def Got (w V : World) (v : Value) (bs : List UInt8) : Prop := Row V 5 1 v bs.length (B bs) ∧ (∀ j, v.ownBlock = some j → w.heap.size ≤ j) ∧ Keeps Nob w V
theorem Got.step {w V V' : World} {v v' : Value} {bs xs : List UInt8} (h : Got w V v bs) (hr : Row V' 5 1 v' (bs.length + xs.length) (B bs ++ B xs)) (hg : V.grownBy V' v.ownBlock) (ha : ∀ k, v'.ownBlock = some k → v.ownBlock = some k ∨ k = V.heap.size ∧ V.heap.size < V'.heap.size) : Got w V' v' (bs ++ xs) := by
  refine ⟨by rw [B_append, List.length_append]; exact hr, fun j hj => ?_, h.2.2.grown hg (fun j hj hlt => by have := h.2.1 j hj; omega)⟩
  rcases ha j hj with h1 | ⟨h1, _⟩
  · exact h.2.1 j h1
  · have := h.2.2.size; omega

end Go.Proofs.Ytenaakldccjnbaa
