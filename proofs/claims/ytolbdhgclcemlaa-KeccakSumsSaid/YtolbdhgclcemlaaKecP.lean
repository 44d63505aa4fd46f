/-
  Keccak: texts and hashes, there and back (plain). Conditions: none.
-/
import Derived.Test.YtolbdhgclcemlaaKecH
namespace Go.Proofs.Ytolbdhgclcemlaa
open Go Go.RowKit Go.Own
theorem dv_dig (k : Nat) (h : k < 16) : dv (dig k) = (k : Int) := by
  have : ∀ j : Fin 16, dv (dig j.val) = (j.val : Int) := by decide +kernel
  exact this ⟨k, h⟩
theorem dig_dv (c : UInt8) (h : 0 ≤ dv c) : (dv c).toNat < 16 ∧ dig (dv c).toNat = c := by
  unfold dv at *
  cases hf : (List.range 16).find? (fun k => dig k == c) with
  | none => rw [hf] at h; simp at h
  | some k =>
    have h1 := List.find?_some hf
    have h2 := List.mem_of_find?_eq_some hf
    simp only [Int.toNat_natCast]
    exact ⟨by simpa using h2, by simpa using h1⟩
theorem hexOf_cons (c : UInt8) (r : List UInt8) : hexOf (c :: r) = dig (c.toNat / 16) :: dig (c.toNat % 16) :: hexOf r := rfl
theorem hexOf_get : ∀ (h : List UInt8) (i : Nat), i < h.length → (hexOf h).getD (2 * i) 0 = dig ((h.getD i 0).toNat / 16) ∧ (hexOf h).getD (2 * i + 1) 0 = dig ((h.getD i 0).toNat % 16)
  | [], i, hi => by simp at hi
  | c :: r, 0, _ => by rw [hexOf_cons]; exact ⟨rfl, rfl⟩
  | c :: r, i + 1, hi => by
    have ih := hexOf_get r i (by simpa using hi)
    rw [hexOf_cons, show 2 * (i + 1) = 2 * i + 1 + 1 by omega]
    simpa [List.getD_cons_succ] using ih
theorem getD_ext (a b : List UInt8) (n : Nat) (ha : a.length = n) (hb : b.length = n) (h : ∀ i, i < n → a.getD i 0 = b.getD i 0) : a = b := by
  apply List.ext_getElem (by omega)
  intro i h1 h2
  have := h i (by omega)
  rw [List.getD_eq_getElem?_getD, List.getD_eq_getElem?_getD, List.getElem?_eq_getElem h1, List.getElem?_eq_getElem h2] at this
  exact this
theorem isHex_hexOf (h : List UInt8) (hh : h.length = 32) : isHex (hexOf h) := by
  refine ⟨by rw [hexOf_len]; omega, fun i hi => ?_⟩
  obtain ⟨h1, h2⟩ := hexOf_get h i (by omega)
  have hc := (h.getD i 0).toNat_lt
  rw [h1, h2, dv_dig _ (by omega), dv_dig _ (by omega)]
  omega
theorem map_getD (f : Nat → UInt8) (n i : Nat) (hi : i < n) : ((List.range n).map f).getD i 0 = f i := by
  rw [List.getD_eq_getElem?_getD, List.getElem?_map, List.getElem?_range hi]; rfl
theorem hexOf_back (h : List UInt8) (hh : h.length = 32) : (List.range 32).map (hv (hexOf h)) = h := by
  refine getD_ext _ _ 32 (by simp) hh fun i hi => ?_
  rw [map_getD _ _ _ hi]
  obtain ⟨h1, h2⟩ := hexOf_get h i (by omega)
  have hc := (h.getD i 0).toNat_lt
  unfold hv
  rw [h1, h2, dv_dig _ (by omega), dv_dig _ (by omega)]
  apply UInt8.toNat_inj.1
  rw [UInt8.toNat_ofNat', Int.toNat_natCast, Int.toNat_natCast]
  omega
theorem reads_hexOf (h v : List UInt8) (e : Int) (hh : h.length = 32) (hr : ReadsAs (hexOf h) v e) : v = h ∧ e = 0 := by
  rcases hr with ⟨_, h1, h2⟩ | ⟨h1, _⟩
  · exact ⟨h1.trans (hexOf_back h hh), h2⟩
  · exact absurd (isHex_hexOf h hh) h1
theorem hexOf_inj {a b : List UInt8} (ha : a.length = 32) (hb : b.length = 32) (h : hexOf a = hexOf b) : a = b := by
  rw [← hexOf_back a ha, ← hexOf_back b hb, h]
theorem back_hexOf (l : List UInt8) (h : isHex l) : hexOf ((List.range 32).map (hv l)) = l := by
  obtain ⟨h0, h⟩ := h
  refine getD_ext _ _ 64 (by rw [hexOf_len]; simp) h0 fun j hj => ?_
  obtain ⟨i, hi, hji⟩ : ∃ i, i < 32 ∧ (j = 2 * i ∨ j = 2 * i + 1) := ⟨j / 2, by omega, by omega⟩
  obtain ⟨h1, h2⟩ := hexOf_get ((List.range 32).map (hv l)) i (by simpa using hi)
  obtain ⟨p1, p2⟩ := h i hi
  obtain ⟨a1, a2⟩ := dig_dv _ p1
  obtain ⟨b1, b2⟩ := dig_dv _ p2
  rw [map_getD _ _ _ hi] at h1 h2
  have hn : (hv l i).toNat = 16 * (dv (l.getD (2 * i) 0)).toNat + (dv (l.getD (2 * i + 1) 0)).toNat := by
    unfold hv; rw [UInt8.toNat_ofNat', Nat.mod_eq_of_lt (by omega)]
  rw [hn] at h1 h2
  rw [show (16 * (dv (l.getD (2 * i) 0)).toNat + (dv (l.getD (2 * i + 1) 0)).toNat) / 16 = (dv (l.getD (2 * i) 0)).toNat by omega, a2] at h1
  rw [show (16 * (dv (l.getD (2 * i) 0)).toNat + (dv (l.getD (2 * i + 1) 0)).toNat) % 16 = (dv (l.getD (2 * i + 1) 0)).toNat by omega, b2] at h2
  rcases hji with rfl | rfl
  · exact h1
  · exact h2
theorem reads_len (l v : List UInt8) (e : Int) (hr : ReadsAs l v e) : v.length = 32 ∧ (e = 0 ∧ hexOf v = l ∨ e = 5 ∧ v = zero32) := by
  rcases hr with ⟨h0, h1, h2⟩ | ⟨_, h1, h2⟩
  · subst h1; exact ⟨by simp, .inl ⟨h2, back_hexOf l h0⟩⟩
  · subst h1; exact ⟨zero32_len, .inr ⟨h2, rfl⟩⟩
theorem hexOf_beq {a b : List UInt8} (ha : a.length = 32) (hb : b.length = 32) : (hexOf a == hexOf b) = (a == b) := by
  by_cases h : a = b
  · subst h; simp
  · have h2 : hexOf a ≠ hexOf b := fun e => h (hexOf_inj ha hb e)
    rw [beq_eq_false_iff_ne.2 h, beq_eq_false_iff_ne.2 h2]
end Go.Proofs.Ytolbdhgclcemlaa
