/-
  Keccak: lists of byte slices, that come in or are kept. Conditions: none.
-/
import Derived.Test.YtolbdhgclcemlaaKecT
import Derived.Test.YtolbdhgclcemlaaLaw
namespace Go.Proofs.Ytolbdhgclcemlaa
open Go Go.RowKit Go.Own Go.ChangeShapes Go.WideShapes Go.ChangeAt Go.WideElems
/-- A slice of byte slices: its header, its cells, and what each of them holds. -/
structure ListsAt (w : World) (v : Value) (us : List Value) (ls : List (List UInt8)) : Prop where
  form : ∃ A cap, v = .slice A ls.length cap ∧ ls.length ≤ cap ∧ cap ≤ maxLen ∧ (A = none → cap = 0)
  len : us.length = ls.length
  at_ : ∀ (k : Nat) (u : Value), us[k]? = some u → ∃ b o cap, v = .slice (some ⟨b, o, none⟩) ls.length cap ∧ b < w.heap.size ∧ w.cell? ⟨b, o + k, none⟩ = some u
  bytes : ∀ (k : Nat) (u : Value) (l : List UInt8), us[k]? = some u → ls[k]? = some l → BytesAt w u l
theorem ListsAt.keepsN {w w' : World} {v : Value} {us : List Value} {ls : List (List UInt8)} (h : ListsAt w v us ls) (k : Keeps Nob w w') : ListsAt w' v us ls :=
  ⟨h.form, h.len, fun i u hi => by
    obtain ⟨b, o, cap, e, hb, hc⟩ := h.at_ i u hi
    exact ⟨b, o, cap, e, Nat.lt_of_lt_of_le hb k.size, (k.cell hb (fun x => x)).trans hc⟩,
   fun i u l hi hl => (h.bytes i u l hi hl).keepsN k⟩
theorem open_bytes1 {H : Type} {enc : TypeId × Value → H} {W : World} {sp : Nat → Bool} {held : Bool} {n : Nat} {u : Value} {z : DataW H × List MemPlace}
    (h : DataW.trod enc Try.prog W 0 sp held n 22 [u] = some z) : ∃ l, BytesAt W u l := by
  obtain ⟨d, ps⟩ := z
  have hu : ∃ a len cap, u = .slice a len cap := by
    rcases Go.Deep.open_slice Try.underlying22 h with ⟨h0, _⟩ | ⟨a, len, cap, m, n, D, Pl, hcs, _⟩
    · exact ⟨none, 0, 0, by simpa using h0⟩
    · exact ⟨a, len, cap, by simpa using hcs⟩
  obtain ⟨a, len, cap, rfl⟩ := hu
  exact open_bytesAt (P := Try.prog) (v := .slice a len cap) (d := d) (ps := ps) Try.underlying22 Try.underlying5 (by kernel_rfl) ⟨n, h⟩ ⟨_, _, _, rfl⟩
theorem open_lists {H : Type} {enc : TypeId × Value → H} {W : World} {sp : Nat → Bool} {held : Bool} {v : Value} {d : DataW H} {ps : List MemPlace} (h : DataW.Trod enc Try.prog W 0 sp held 38 v d ps) (hv : ∃ a len cap, v = .slice a len cap) : ∃ us ls, ListsAt W v us ls := by
  have hC : Try.prog.cellsOf 22 = 1 := by kernel_rfl
  obtain ⟨a, len, cap, rfl, hl, hm, hnz, hi⟩ := open_elemsN Try.underlying38 (by rw [hC]; omega) h hv
  rw [hC] at hi
  obtain ⟨q, hql, hq⟩ := list_of (fun i (x : Value × List UInt8) => BytesAt W x.1 x.2 ∧ ∃ b o, a = some ⟨b, o, none⟩ ∧ W.cell? ⟨b, o + i, none⟩ = some x.1) len (fun i hlt => by
    obtain ⟨b, o, cs, n, y, ha, hcl, hcell, ht'⟩ := hi i hlt
    match cs, hcl, hcell, ht' with
    | [u], _, hcell, ht' =>
      obtain ⟨l, hb⟩ := open_bytes1 ht'
      exact ⟨(u, l), hb, b, o, ha, by simpa using hcell 0 (by omega)⟩)
  subst hql
  refine ⟨q.map (·.1), q.map (·.2), ⟨a, cap, by rw [List.length_map], by rw [List.length_map]; exact hl, hm, hnz⟩, by simp, fun k u hk => ?_, fun k u l hk hk2 => ?_⟩
  · obtain ⟨x, hx, rfl⟩ : ∃ x, q[k]? = some x ∧ x.1 = u := by simpa [List.getElem?_map] using hk
    obtain ⟨_, b, o, rfl, hc⟩ := hq k x hx
    exact ⟨b, o, cap, by rw [List.length_map], World.block_lt_of_cell? W _ hc, hc⟩
  · obtain ⟨x, hx, rfl⟩ : ∃ x, q[k]? = some x ∧ x.1 = u := by simpa [List.getElem?_map] using hk
    obtain ⟨y, hy, rfl⟩ : ∃ y, q[k]? = some y ∧ y.2 = l := by simpa [List.getElem?_map] using hk2
    rw [hx] at hy; cases hy
    exact (hq k x hx).1
theorem exec_len_bytes {P : Program} {o : Oper} {ρ : Operand → Value} {w w0 : World} (x : Operand) (t e : TypeId) (ho : o.op = .call { callee := .builtin .len, args := #[x], argTypes := #[t] }) (ht : P.underlying t = some (.slice e)) {v : Value} (hx : ρ x = v) {l : List UInt8} (hv : BytesAt w0 v l) :
    (execOp ρ o).run P w = .ok (.value (.int .i64 (l.length : Int))) w := by
  obtain ⟨A, cap, rfl, _⟩ := hv.form
  exact exec_len x t e ho ht A l.length cap hx
theorem exec_len_lists {P : Program} {o : Oper} {ρ : Operand → Value} {w w0 : World} (x : Operand) (t e : TypeId) (ho : o.op = .call { callee := .builtin .len, args := #[x], argTypes := #[t] }) (ht : P.underlying t = some (.slice e)) {v : Value} (hx : ρ x = v) {us : List Value} {ls : List (List UInt8)} (hv : ListsAt w0 v us ls) :
    (execOp ρ o).run P w = .ok (.value (.int .i64 (ls.length : Int))) w := by
  obtain ⟨A, cap, rfl, _⟩ := hv.form
  exact exec_len x t e ho ht A ls.length cap hx
end Go.Proofs.Ytolbdhgclcemlaa
