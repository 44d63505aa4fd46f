/-
  Keccak: lists of byte slices that come in, with their sizes. Conditions: none.
-/
import Derived.Test.YtolbdhgclcemlaaKecX
import Derived.Test.YtolbdhgclcemlaaSize
namespace Go.Proofs.Ytolbdhgclcemlaa
open Go Go.RowKit Go.Own Go.ChangeShapes Go.WideShapes Go.ChangeAt Go.WideElems
theorem open_bytes1Z {H : Type} {enc : TypeId × Value → H} {W : World} {sp : Nat → Bool} {held : Bool} {n : Nat} {u : Value} {z : DataW H × List MemPlace}
    (h : DataW.trod enc Try.prog W 0 sp held n 22 [u] = some z) (hz : (z.1.weights Try.prog 22).all (· ≤ reachBytes) = true) : ∃ l, BytesAt W u l ∧ l.length ≤ reachBytes := by
  obtain ⟨d, ps⟩ := z
  have hu : ∃ a len cap, u = .slice a len cap := by
    rcases Go.Deep.open_slice Try.underlying22 h with ⟨h0, _⟩ | ⟨a, len, cap, m, n, D, Pl, hcs, _⟩
    · exact ⟨none, 0, 0, by simpa using h0⟩
    · exact ⟨a, len, cap, by simpa using hcs⟩
  obtain ⟨a, len, cap, rfl⟩ := hu
  obtain ⟨l, hl⟩ := open_bytesAt (P := Try.prog) (v := .slice a len cap) (d := d) (ps := ps) Try.underlying22 Try.underlying5 (by kernel_rfl) ⟨n, h⟩ ⟨_, _, _, rfl⟩
  obtain ⟨A, c, e⟩ := hl.len
  obtain ⟨a2, len2, cap2, e2, _, _, _, hs, _⟩ := open_elemsZ (P := Try.prog) (v := .slice a len cap) (d := d) (ps := ps) Try.underlying22 (by rw [show Try.prog.cellsOf 5 = 1 by kernel_rfl]; omega) ⟨n, h⟩ ⟨_, _, _, rfl⟩ hz
  rw [show Try.prog.bytesOf 5 = 1 by kernel_rfl, Nat.mul_one] at hs
  rw [e2] at e
  simp only [Value.slice.injEq] at e
  exact ⟨l, hl, by omega⟩
theorem open_bytesZ {H : Type} {enc : TypeId × Value → H} {W : World} {sp : Nat → Bool} {held : Bool} {v : Value} {d : DataW H} {ps : List MemPlace} (h : DataW.Trod enc Try.prog W 0 sp held 22 v d ps) (hv : ∃ a len cap, v = .slice a len cap) (hz : (d.weights Try.prog 22).all (· ≤ reachBytes) = true) : ∃ l, BytesAt W v l ∧ l.length ≤ reachBytes := by
  obtain ⟨a, len, cap, rfl⟩ := hv
  obtain ⟨n, hn⟩ := h
  exact open_bytes1Z (by simpa [Value.cells] using hn) hz
theorem open_listsZ {H : Type} {enc : TypeId × Value → H} {W : World} {sp : Nat → Bool} {held : Bool} {v : Value} {d : DataW H} {ps : List MemPlace} (h : DataW.Trod enc Try.prog W 0 sp held 38 v d ps) (hv : ∃ a len cap, v = .slice a len cap) (hz : (d.weights Try.prog 38).all (· ≤ reachBytes) = true) : ∃ us ls, ListsAt W v us ls ∧ ls.length * 24 ≤ reachBytes ∧ ∀ (k : Nat) (l : List UInt8), ls[k]? = some l → l.length ≤ reachBytes := by
  have hC : Try.prog.cellsOf 22 = 1 := by kernel_rfl
  obtain ⟨a, len, cap, rfl, hl, hm, hnz, hsz, hi⟩ := open_elemsZ Try.underlying38 (by rw [hC]; omega) h hv hz
  rw [show Try.prog.bytesOf 22 = 24 by kernel_rfl] at hsz
  rw [hC] at hi
  obtain ⟨q, hql, hq⟩ := list_of (fun i (x : Value × List UInt8) => (BytesAt W x.1 x.2 ∧ x.2.length ≤ reachBytes) ∧ ∃ b o, a = some ⟨b, o, none⟩ ∧ W.cell? ⟨b, o + i, none⟩ = some x.1) len (fun i hlt => by
    obtain ⟨b, o, cs, n, y, ha, hcl, hcell, ht', hz'⟩ := hi i hlt
    match cs, hcl, hcell, ht', hz' with
    | [u], _, hcell, ht', hz' =>
      obtain ⟨l, hb⟩ := open_bytes1Z ht' hz'
      exact ⟨(u, l), hb, b, o, ha, by simpa using hcell 0 (by omega)⟩)
  subst hql
  refine ⟨q.map (·.1), q.map (·.2), ⟨⟨a, cap, by rw [List.length_map], by rw [List.length_map]; exact hl, hm, hnz⟩, by simp, fun k u hk => ?_, fun k u l hk hk2 => ?_⟩, by rw [List.length_map]; exact hsz, fun k l hk => ?_⟩
  · obtain ⟨x, hx, rfl⟩ : ∃ x, q[k]? = some x ∧ x.1 = u := by simpa [List.getElem?_map] using hk
    obtain ⟨_, b, o, rfl, hc⟩ := hq k x hx
    exact ⟨b, o, cap, by rw [List.length_map], World.block_lt_of_cell? W _ hc, hc⟩
  · obtain ⟨x, hx, rfl⟩ : ∃ x, q[k]? = some x ∧ x.1 = u := by simpa [List.getElem?_map] using hk
    obtain ⟨y, hy, rfl⟩ : ∃ y, q[k]? = some y ∧ y.2 = l := by simpa [List.getElem?_map] using hk2
    rw [hx] at hy; cases hy
    exact (hq k x hx).1.1
  · obtain ⟨x, hx, rfl⟩ : ∃ x, q[k]? = some x ∧ x.2 = l := by simpa [List.getElem?_map] using hk
    exact (hq k x hx).1.2
end Go.Proofs.Ytolbdhgclcemlaa
