/-
  Slices of bytes, read as lists: the words of all texts over bytes. Conditions: none.
-/
import Derived.Test.YtpflmldmbpnllaaDoorBase
import Derived.Test.YtpflmldmbpnllaaDoorOwnRow
import Derived.Laws.BytesArg
import Derived.Laws.OwnMore
import Derived.Laws.CopyRow
import Derived.Laws.Slices
namespace Go.Own
open Go Go.RowKit

/-- The cells of bytes. -/
def B (l : List UInt8) : List Value := l.map fun x => .int .u8 (x.toNat : Int)
theorem B_length (l : List UInt8) : (B l).length = l.length := by simp [B]
theorem B_get (l : List UInt8) (k : Nat) (x : UInt8) (h : l[k]? = some x) : (B l)[k]? = some (.int .u8 (x.toNat : Int)) := by simp [B, h]
theorem B_append (l m : List UInt8) : B (l ++ m) = B l ++ B m := by simp [B]
theorem B_one (l : List UInt8) : ∀ u ∈ B l, u.oneCell' = true := by
  intro u hu
  simp only [B, List.mem_map] at hu
  obtain ⟨x, _, rfl⟩ := hu
  rfl
theorem B_nil : B [] = [] := rfl
theorem B_get_inv (l : List UInt8) (k : Nat) (u : Value) (h : (B l)[k]? = some u) : ∃ x, l[k]? = some x ∧ u = .int .u8 (x.toNat : Int) := by
  simp only [B, List.getElem?_map, Option.map_eq_some_iff] at h
  obtain ⟨x, h1, h2⟩ := h
  exact ⟨x, h1, h2.symm⟩
theorem B_take (l : List UInt8) (k : Nat) : (B l).take k = B (l.take k) := by simp [B, List.map_take]
theorem B_drop (l : List UInt8) (k : Nat) : (B l).drop k = B (l.drop k) := by simp [B, List.map_drop]

/-- A slice of bytes that reads as a list; nil too. -/
structure BytesAt (w : World) (v : Value) (l : List UInt8) : Prop where
  form : ∃ A cap, v = .slice A l.length cap ∧ l.length ≤ cap ∧ cap ≤ maxLen ∧ (A = none → cap = 0)
  at_ : ∀ k x, l[k]? = some x → ∃ b o cap, v = .slice (some ⟨b, o, none⟩) l.length cap ∧ b < w.heap.size ∧ w.cell? ⟨b, o + k, none⟩ = some (.int .u8 (x.toNat : Int))

/-- What 's[k:]' is. -/
def cutV (A : Option Addr) (n cap k : Nat) : Value := .slice (if cap = k then A else A.map (·.add k)) (n - k) (cap - k)
theorem run_cut {P : Program} {t : TypeId} (ht : P.underlying t = some (.slice (P.elem t))) (hz : ∀ w, (Go.sizeOf (P.elem t)).run P w = .ok 1 w) (A : Option Addr) (n cap k : Nat) (hk : k ≤ n) (W : World) :
    (Instr.sliceAt t (.slice A n cap) (some (.int .i64 (k : Int))) none none).run P W = .ok (cutV A n cap k) W := by
  rw [run_sliceAt_slice W t _ _ _ _ ht, run_slice_l W t _ _ _ ht _ _ (by omega) (by omega), hz]
  simp [Result.andThen, sliced, cutV]
section
variable {w w' : World} {v : Value} {l : List UInt8}
theorem BytesAt.len (h : BytesAt w v l) : ∃ A cap, v = .slice A l.length cap := let ⟨A, c, e, _⟩ := h.form; ⟨A, c, e⟩
theorem BytesAt.length_le (h : BytesAt w v l) : l.length ≤ 9223372036854775807 := by
  obtain ⟨A, c, e, h1, h2, _⟩ := h.form
  unfold maxLen at h2; omega
theorem BytesAt.keeps {M : Nat → Prop} (h : BytesAt w v l) (k : Keeps M w w') (hm : ∀ j, v.ownBlock = some j → ¬ M j) : BytesAt w' v l :=
  ⟨h.form, fun i x hi => by
    obtain ⟨b, o, cap, e, hb, hc⟩ := h.at_ i x hi
    exact ⟨b, o, cap, e, Nat.lt_of_lt_of_le hb k.size, (k.cell hb (hm b (by rw [e]; rfl))).trans hc⟩⟩
theorem BytesAt.keepsN (h : BytesAt w v l) (k : Keeps Nob w w') : BytesAt w' v l := h.keeps k (fun _ _ x => x)
theorem BytesAt.nil (w : World) : BytesAt w (.slice none 0 0) [] := ⟨⟨none, 0, rfl, Nat.le_refl _, by unfold maxLen; omega, fun _ => rfl⟩, fun k x h => by simp at h⟩
theorem Row.bytes {e : TypeId} (h : Row w e 1 v l.length (B l)) : BytesAt w v l := by
  refine ⟨?_, fun k x hk => ?_⟩
  · rcases h.2 with ⟨rfl, h0⟩ | ⟨g, cap, cur, rfl, _, _, hn, hc, _⟩
    · exact ⟨none, 0, by rw [h0], by omega, by unfold maxLen; omega, fun _ => rfl⟩
    · exact ⟨_, _, rfl, hn, hc, fun h => by cases h⟩
  · rcases h.2 with ⟨rfl, h0⟩ | ⟨g, cap, cur, rfl, _, hg, hn, hc, _⟩
    · have : l = [] := List.eq_nil_of_length_eq_zero h0
      subst this; simp at hk
    · refine ⟨g, 0, cap, rfl, (Array.getElem?_eq_some_iff.1 hg).1, ?_⟩
      have := World.ownsRow.cells h (g := g) rfl k _ (B_get l k x hk)
      simpa [Addr.add_lit] using this
theorem Row.newB (w : World) (l : List UInt8) (t : TypeId) (hl : l.length ≤ maxLen) : Row (w.alloc (.cells (B l).toArray t)) t 1 (.slice (some ⟨w.heap.size, 0, none⟩) l.length l.length) l.length (B l) :=
  ⟨by simp [B_length], .inr ⟨_, _, _, rfl, Nat.zero_le _, heap_alloc_new _ _, Nat.le_refl _, hl, by simp [B_length], by rw [Nat.mul_one]; exact List.take_of_length_le (by simp [B_length])⟩⟩
/-- What lies behind a place. -/
theorem BytesAt.drop (h : BytesAt w v l) (k : Nat) (hk : k ≤ l.length) : ∀ A n cap, v = .slice A n cap → BytesAt w (cutV A n cap k) (l.drop k) := by
  intro A n cap hv
  unfold cutV
  obtain ⟨A', cap', e, h1, h2, h3⟩ := h.form
  rw [e] at hv
  simp only [Value.slice.injEq] at hv
  obtain ⟨rfl, rfl, rfl⟩ := hv
  refine ⟨⟨_, _, by rw [List.length_drop], by rw [List.length_drop]; omega, by omega, fun hn => ?_⟩, fun i x hi => ?_⟩
  · split at hn
    · omega
    · cases A' with
      | none => have := h3 rfl; omega
      | some a => cases hn
  rw [List.getElem?_drop] at hi
  obtain ⟨b, o, c, e2, hb, hc⟩ := h.at_ _ x hi
  rw [e] at e2
  simp only [Value.slice.injEq, true_and] at e2
  obtain ⟨rfl, rfl⟩ := e2
  have hlt : k + i < l.length := (List.getElem?_eq_some_iff.1 hi).1
  rw [if_neg (by omega)]
  exact ⟨b, o + k, cap' - k, by simp [Addr.add_lit, List.length_drop], hb, by rw [Nat.add_assoc]; exact hc⟩
theorem BytesAt.take (h : BytesAt w v l) (k : Nat) (hk : k ≤ l.length) : ∀ A n cap, v = .slice A n cap → BytesAt w (.slice A k cap) (l.take k) := by
  intro A n cap hv
  obtain ⟨A', cap', e, h1, h2, h3⟩ := h.form
  rw [e] at hv
  simp only [Value.slice.injEq] at hv
  obtain ⟨rfl, rfl, rfl⟩ := hv
  have hl : (l.take k).length = k := by rw [List.length_take]; omega
  refine ⟨⟨_, _, by rw [hl], by rw [hl]; omega, by omega, h3⟩, fun i x hi => ?_⟩
  have hlt : i < k := by have := (List.getElem?_eq_some_iff.1 hi).1; omega
  rw [List.getElem?_take_of_lt hlt] at hi
  obtain ⟨b, o, c, e2, hb, hc⟩ := h.at_ _ x hi
  rw [e] at e2
  simp only [Value.slice.injEq, true_and] at e2
  obtain ⟨rfl, rfl⟩ := e2
  exact ⟨b, o, _, by rw [hl], hb, hc⟩
/-- It may be appended. -/
theorem BytesAt.src (h : BytesAt w v l) : Src w 1 v l.length (B l) := by
  refine ⟨by simp [B_length], B_one l, ?_⟩
  obtain ⟨A, cap, rfl, h1, h2, h3⟩ := h.form
  cases A with
  | none =>
    have h0 : l = [] := by
      cases l with
      | nil => rfl
      | cons x r => obtain ⟨b, o, c, e, _⟩ := h.at_ 0 x rfl; simp at e
    subst h0
    have := h3 rfl
    subst this
    exact .inl ⟨rfl, rfl⟩
  | some ad =>
    refine .inr ⟨ad, cap, rfl, fun j u hj => ?_⟩
    obtain ⟨x, hx, rfl⟩ := B_get_inv l j u hj
    obtain ⟨b, o, c, e, hb, hc⟩ := h.at_ j x hx
    simp only [Value.slice.injEq, Option.some.injEq] at e
    obtain ⟨rfl, _⟩ := e
    simpa [Addr.add_lit] using hc
/-- As a string. -/
theorem BytesAt.str {P : Program} {src dst e : TypeId} (h : BytesAt w v l) (hs : P.underlying src = some (.slice e)) (he : P.underlying e = some (.int .u8)) (hd : P.underlying dst = some .string) :
    (convert src dst v).run P w = .ok (.string ⟨l.toArray⟩) w := by
  obtain ⟨A, cap, rfl, h1, h2, h3⟩ := h.form
  cases l with
  | nil =>
    rw [run_convert_bytes_string w src dst e _ _ cap hs he hd]
    cases A <;> simp [Conv.bytesToString, loadCells]
    all_goals rfl
  | cons x r =>
    obtain ⟨b, o, c, e2, hb, hc⟩ := h.at_ 0 x rfl
    simp only [Value.slice.injEq, true_and] at e2
    obtain ⟨rfl, rfl⟩ := e2
    rw [run_convert_bytes_arg (P := P) w src e hs he b o _ cap ((x :: r).map fun y => (y.toNat : Int)) (by simp) (fun i hi => by
      obtain ⟨y, hy⟩ : ∃ y, (x :: r)[i]? = some y := ⟨_, List.getElem?_eq_getElem hi⟩
      obtain ⟨b', o', c', e3, hb', hc'⟩ := h.at_ i y hy
      simp only [Value.slice.injEq, Option.some.injEq, Addr.mk.injEq, true_and, and_true] at e3
      obtain ⟨⟨rfl, rfl⟩, rfl⟩ := e3
      rw [hc']
      rw [List.getD, List.getElem?_map, hy]; rfl) dst hd]
    congr 2
    apply ByteArray.ext
    apply Array.toList_inj.1
    rw [strOfNums_data, List.map_map]
    conv => rhs; rw [show (⟨(x :: r).toArray⟩ : ByteArray).data.toList = (x :: r) from rfl, ← List.map_id (x :: r)]
    apply List.map_congr_left
    intro y _
    simp
end
end Go.Own
