/-
  Scripts: the plain law of forms: what is packed is unpacked, and no other bytes are. Conditions: none.
-/
import Derived.Test.YtmapcghgdbfmhaaMsgU
import Derived.Test.YtmapcghgdbfmhaaRdIn
namespace Go.Proofs.Ytmapcghgdbfmhaa
open Go Go.RowKit Go.Own Go.Shelf
def unP (ls : List (List UInt8)) (i : Nat) : Nat := (pbi ls i).length
theorem unI_at {l : List UInt8} {ls : List (List UInt8)} (h : l = packB ls) (hn : ls.length ≤ 1000) (hs : ∀ x ∈ ls, x.length ≤ 4096) : unN l = ls.length ∧ ∀ i, i ≤ ls.length → unI l i = (ls.take i, rs (unP ls i)) := by
  have h0 : l.drop 0 = Cod.enc ls.length ++ ls.flatMap one1 := by rw [List.drop_zero, h]; rfl
  have e0 := rdN_at (lo := 0) (hi := 1000) h0 (by omega) (by omega) (by omega)
  have e0' : rdN l ⟨0, 0⟩ 0 1000 = ((ls.length : Int), rs (0 + (Cod.enc ls.length).length)) := e0
  refine ⟨by unfold unN; rw [e0']; exact Int.toNat_natCast _, fun i => ?_⟩
  induction i with
  | zero =>
    intro _
    show (([] : List (List UInt8)), (rdN l ⟨0, 0⟩ 0 1000).2) = _
    rw [e0']
    simp [unP, pbi]
  | succ i ih =>
    intro hi
    have e := ih (by omega)
    obtain ⟨x, hx⟩ : ∃ x, ls[i]? = some x := ⟨_, List.getElem?_eq_getElem (by omega)⟩
    have hxs := hs x (List.mem_of_getElem? hx)
    have hd : l.drop (unP ls i) = (Cod.enc x.length ++ x) ++ (ls.drop (i + 1)).flatMap one1 := by
      have hsplit : l = pbi ls i ++ (one1 x ++ (ls.drop (i + 1)).flatMap one1) := by
        rw [h]; unfold packB pbi
        rw [List.append_assoc]
        congr 1
        have : ls = ls.take i ++ (x :: ls.drop (i + 1)) := by
          rw [List.getElem?_eq_some_iff] at hx
          obtain ⟨h1, h2⟩ := hx
          rw [← h2, List.getElem_cons_drop, List.take_append_drop]
        conv => lhs; rw [this]
        rw [List.flatMap_append, List.flatMap_cons]
      rw [hsplit, unP, List.drop_left]; rfl
    have eb := rdB_at (most := 4096) hd (by omega) (by omega)
    show ((unI l i).1 ++ [(rdB l (unI l i).2 4096).1], (rdB l (unI l i).2 4096).2) = _
    rw [e, eb]
    show (ls.take i ++ [x], rs (unP ls i + (Cod.enc x.length ++ x).length)) = _
    have e6 : unP ls (i + 1) = unP ls i + (Cod.enc x.length ++ x).length := by unfold unP; rw [pbi_succ hx, List.length_append]; rfl
    rw [List.take_add_one, hx, e6]
    rfl
/-- What is packed is unpacked as it was. -/
theorem unR_pack {ls : List (List UInt8)} (hn : ls.length ≤ 1000) (hs : ∀ x ∈ ls, x.length ≤ 4096) (hl : (packB ls).length ≤ 1048576) : unR (packB ls) = (ls, (0, 0)) := by
  obtain ⟨e1, e2⟩ := unI_at rfl hn hs
  have e3 := e2 ls.length (Nat.le_refl _)
  have e4 : (rs (unP ls ls.length)).fin (packB ls) = (0, 0) := fin_at (by rw [unP, pbi_all]; exact Nat.le_refl _)
  unfold unR
  rw [if_neg (by omega), e1, e3, if_pos (by rw [e4]), List.take_length]
theorem packR_ok {ls : List (List UInt8)} (hn : ls.length ≤ 1000) (hs : ∀ x ∈ ls, x.length ≤ 4096) (hl : (packB ls).length ≤ 1048576) : packR ls = (packB ls, 0) := by
  unfold packR
  rw [if_neg, if_pos hl]
  rintro (h | ⟨x, hx, h⟩)
  · omega
  · have := hs x hx; omega
theorem one1_len (x : List UInt8) : (one1 x).length ≤ x.length + 10 := by unfold one1; rw [List.length_append]; have := Cod.enc_length x.length; omega
theorem packB_len {ls : List (List UInt8)} {k : Nat} (hs : ∀ x ∈ ls, x.length ≤ k) : (packB ls).length ≤ 10 + ls.length * (k + 10) := by
  unfold packB; rw [List.length_append]
  have h1 := Cod.enc_length ls.length
  have h2 : (ls.flatMap one1).length ≤ ls.length * (k + 10) := by
    clear h1
    induction ls with
    | nil => simp
    | cons x t ih =>
      rw [List.flatMap_cons, List.length_append, List.length_cons, Nat.succ_mul]
      have := one1_len x; have := hs x (List.mem_cons_self ..); have := ih (fun y hy => hs y (List.mem_cons_of_mem _ hy)); omega
  omega
theorem small_pack {ls : List (List UInt8)} (hn : ls.length ≤ 30) (hs : ∀ x ∈ ls, x.length ≤ 200) : packR ls = (packB ls, 0) ∧ unR (packB ls) = (ls, (0, 0)) := by
  have hl := packB_len hs
  have hl2 : ls.length * (200 + 10) ≤ 30 * 210 := Nat.mul_le_mul_right _ hn
  have hs' : ∀ x ∈ ls, x.length ≤ 4096 := fun x hx => by have := hs x hx; omega
  exact ⟨packR_ok (by omega) hs' (by omega), unR_pack (by omega) hs' (by omega)⟩
theorem unI_err {l : List UInt8} {n : Nat} (h : (unI l n).2.err = 0) : ∀ i, i ≤ n → (unI l i).2.err = 0 := by
  induction n with
  | zero => intro i hi; obtain rfl : i = 0 := by omega
            exact h
  | succ n ih =>
    intro i hi
    by_cases e : i = n + 1
    · rw [e]; exact h
    · exact ih (rdB_err (show (rdB l (unI l n).2 4096).2.err = 0 from h)).1 i (by omega)
theorem unI_back {l : List UInt8} {n m : Nat} (h0 : rdN l ⟨0, 0⟩ 0 1000 = ((m : Int), rs (Cod.enc m).length)) (hm : (Cod.enc m).length ≤ l.length) (hd : ∃ r, l = Cod.enc m ++ r) (h : (unI l n).2.err = 0) :
    ∃ p, (unI l n).2 = rs p ∧ p ≤ l.length ∧ l = (Cod.enc m ++ (unI l n).1.flatMap one1) ++ l.drop p ∧ ∀ x ∈ (unI l n).1, x.length ≤ 4096 := by
  induction n with
  | zero =>
    obtain ⟨r, hr⟩ := hd
    refine ⟨(Cod.enc m).length, by show (rdN l ⟨0, 0⟩ 0 1000).2 = _; rw [h0], hm, ?_, fun x hx => by cases hx⟩
    show l = (Cod.enc m ++ []) ++ _
    rw [List.append_nil]
    conv => rhs; rw [hr, List.drop_left]
    exact hr
  | succ n ih =>
    have h1 : (rdB l (unI l n).2 4096).2.err = 0 := h
    obtain ⟨p, e1, e2, e3, e4⟩ := ih (rdB_err h1).1
    rw [e1] at h1
    obtain ⟨x, r, b1, b2, b3, b4⟩ := rdB_inv e2 h1
    have e5 : unI l (n + 1) = ((unI l n).1 ++ [x], rs (p + (Cod.enc x.length ++ x).length)) := by
      show ((unI l n).1 ++ [(rdB l (unI l n).2 4096).1], (rdB l (unI l n).2 4096).2) = _
      rw [e1, b3]
    rw [e5]
    refine ⟨_, rfl, b4, ?_, ?_⟩
    · rw [drop_more b2]
      show l = (Cod.enc m ++ ((unI l n).1 ++ [x]).flatMap one1) ++ r
      rw [List.flatMap_append, ← List.append_assoc, List.append_assoc (Cod.enc m ++ _), show [x].flatMap one1 = Cod.enc x.length ++ x by simp [one1], ← b2]
      exact e3
    · intro y hy
      rcases List.mem_append.1 hy with hy | hy
      · exact e4 y hy
      · obtain rfl : y = x := by simpa using hy
        omega
/-- What is unpacked has just these bytes. -/
theorem unR_back {l : List UInt8} (h : (unR l).2.1 = 0) : (unR l).2 = (0, 0) ∧ packR (unR l).1 = (l, 0) ∧ (unR l).1.length ≤ 1000 ∧ ∀ x ∈ (unR l).1, x.length ≤ 4096 := by
  unfold unR at h
  by_cases hl : 1048576 < l.length
  · rw [if_pos hl] at h; cases h
  · rw [if_neg hl] at h
    by_cases hz : ((unI l (unN l)).2.fin l).1 = 0
    · have e : unR l = ((unI l (unN l)).1, (0, 0)) := by unfold unR; rw [if_neg hl, if_pos hz]
      rw [e]
      obtain ⟨f1, f2⟩ := fin_err hz
      have f0 : (rdN l (rs 0) 0 1000).2.err = 0 := unI_err f1 0 (Nat.zero_le _)
      obtain ⟨m, r, hm, hd, e0, u1, _, u3⟩ := rdN_inv (p := 0) (Nat.zero_le _) f0
      rw [List.drop_zero] at hd
      rw [Nat.zero_add] at e0 u3
      have e0' : rdN l ⟨0, 0⟩ 0 1000 = ((m : Int), rs (Cod.enc m).length) := e0
      have hN : unN l = m := by unfold unN; rw [e0']; exact Int.toNat_natCast _
      rw [hN] at f1 f2 ⊢
      obtain ⟨p, g1, g2, g3, g4⟩ := unI_back (n := m) e0' u3 ⟨r, hd⟩ f1
      rw [g1] at f2
      have f2 := Int.ofNat_le.1 f2
      have hlen : (unI l m).1.length = m := unI_len l m
      have hp : packB (unI l m).1 = l := by
        unfold packB; rw [hlen]
        rw [show l.drop p = [] from List.drop_eq_nil_of_le (by omega), List.append_nil] at g3
        exact g3.symm
      have := packR_ok (ls := (unI l m).1) (by omega) g4 (by rw [hp]; omega)
      rw [hp] at this
      exact ⟨rfl, this, by show (unI l m).1.length ≤ 1000; omega, g4⟩
    · rw [if_neg hz] at h; exact absurd h hz
theorem unR_bad {l : List UInt8} (h : ¬ (unR l).2.1 = 0) : (unR l).1 = [] := by
  unfold unR at h ⊢
  split
  · rfl
  · rename_i hl
    rw [if_neg hl] at h
    by_cases hz : ((unI l (unN l)).2.fin l).1 = 0
    · rw [if_pos hz] at h; exact absurd rfl h
    · rw [if_neg hz]
end Go.Proofs.Ytmapcghgdbfmhaa
