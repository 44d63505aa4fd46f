/-
  The sizes of slices that came in. Conditions: none.
-/
import Derived.Test.YtolbdhgclcemlaaLaw
import Derived.SizedLaws
namespace Go.Own
open Go Go.ChangeShapes Go.WideShapes Go.ChangeAt Go.RowKit Go.WideElems

variable {H : Type} {enc : TypeId × Value → H} {P : Program}
theorem weights_mem {e : TypeId} {l : List (DataW H)} {d : DataW H} {n : Nat} (h : d ∈ l) (hn : n ∈ d.weights P e) : n ∈ DataW.weightsAll P e l := by
  induction l with
  | nil => cases h
  | cons x r ih =>
    rw [DataW.weightsAll, List.mem_append]
    rcases List.mem_cons.1 h with rfl | h
    · exact .inl hn
    · exact .inr (ih h)
/-- The weights of one argument. -/
theorem weights_arg {ts : List TypeId} {ds : List (DataW H)} (h : (DataW.weightsEach P ts ds).all (· ≤ reachBytes) = true) (j : Nat) {t : TypeId} {d : DataW H} (ht : ts[j]? = some t) (hd : ds[j]? = some d) : (d.weights P t).all (· ≤ reachBytes) = true :=
  List.all_eq_true.2 fun n hn => List.all_eq_true.1 h n (DataW.weights_mem_each ht hd n hn)
/-- A slice that came in: its length and size, and each element's cells with the element's own reading. -/
theorem open_elemsZ {t e : TypeId} {W : World} {sp : Nat → Bool} {held : Bool} {v : Value} {d : DataW H} {ps : List MemPlace} (ht : P.underlying t = some (.slice e)) (hpos : 0 < P.cellsOf e) (h : DataW.Trod enc P W 0 sp held t v d ps) (hv : ∃ a len cap, v = .slice a len cap) (hz : (d.weights P t).all (· ≤ reachBytes) = true) :
    ∃ (a : Option Addr) (len cap : Nat), v = .slice a len cap ∧ len ≤ cap ∧ cap ≤ maxLen ∧ (a = none → cap = 0) ∧ len * P.bytesOf e ≤ reachBytes ∧ ∀ i, i < len → ∃ b o cs n y, a = some ⟨b, o, none⟩ ∧ cs.length = P.cellsOf e ∧
      (∀ j, j < P.cellsOf e → W.cell? ⟨b, o + i * P.cellsOf e + j, none⟩ = cs[j]?) ∧ DataW.trod enc P W 0 sp held n e cs = some y ∧ (y.1.weights P e).all (· ≤ reachBytes) = true := by
  obtain ⟨fuel, hf⟩ := h
  obtain ⟨a0, len0, cap0, rfl⟩ := hv
  rcases Go.Deep.open_slice ht (by simpa [Value.cells] using hf) with ⟨h0, _⟩ | ⟨a, len, cap, m, n, D, Pl, hcs, _, hl, hm, hmm, hx, hi⟩
  · simp only [List.cons.injEq, Value.slice.injEq, and_true] at h0
    obtain ⟨rfl, rfl, rfl⟩ := h0
    exact ⟨_, _, _, rfl, Nat.le_refl _, Nat.zero_le _, fun _ => rfl, by rw [Nat.zero_mul]; exact Nat.zero_le _, fun i h => absurd h (Nat.not_lt_zero i)⟩
  · simp only [List.cons.injEq, Value.slice.injEq, and_true] at hcs
    obtain ⟨rfl, rfl, rfl⟩ := hcs
    simp only [Prod.mk.injEq] at hx
    obtain ⟨rfl, rfl⟩ := hx
    rw [DataW.weights, ht] at hz
    simp only [List.all_cons, Bool.and_eq_true, decide_eq_true_eq, List.length_map, List.length_range, List.all_append] at hz
    obtain ⟨hz1, hz2, _⟩ := hz
    refine ⟨_, _, _, rfl, hl, hm, (fun h => by cases h), Nat.le_trans (Nat.mul_le_mul_right _ (Nat.le_add_right _ _)) hz1, fun i hlt => ?_⟩
    have him : i < m := by rw [hmm]; split <;> omega
    obtain ⟨cs', hc, ht'⟩ := hi i him
    obtain ⟨_, hcl, hat⟩ := World.cells?_some hc
    have hsp : a.spot = none := by
      obtain ⟨cs0, hc0, _⟩ := hi 0 (by omega)
      obtain ⟨_, hcl0, hat0⟩ := World.cells?_some hc0
      have h0 := hat0 0 hpos
      have e1 : (a.add (0 * P.cellsOf e)).add 0 = a := by simp [Addr.add]
      rw [e1, List.getElem?_eq_getElem (by omega)] at h0
      cases hs : a.spot with
      | none => rfl
      | some s =>
        exfalso
        unfold World.cell? at h0
        split at h0
        · rw [if_pos (by simp [hs])] at h0; cases h0
        · cases h0
    obtain ⟨b, o, s⟩ := a
    cases hsp
    refine ⟨b, o, cs', n, _, rfl, hcl, fun j hj => ?_, ht', List.all_eq_true.2 fun x hx => List.all_eq_true.1 hz2 x (weights_mem (List.mem_map.2 ⟨i, List.mem_range.2 hlt, rfl⟩) hx)⟩
    have h2 := hat j hj
    have e2 : ((⟨b, o, none⟩ : Addr).add (i * P.cellsOf e)).add j = ⟨b, o + i * P.cellsOf e + j, none⟩ := by simp [Addr.add_lit]
    rw [e2] at h2
    exact h2

end Go.Own
