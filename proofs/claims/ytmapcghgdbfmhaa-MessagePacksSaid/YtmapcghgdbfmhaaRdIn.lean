/-
  What is read of bytes, in plain: numbers, hashes, bytes that stand at a place; and the other way. Conditions: none.
-/
import Derived.Test.YtmapcghgdbfmhaaCodO
import Derived.Test.YtmapcghgdbfmhaaCodAr
namespace Go.Proofs.Ytmapcghgdbfmhaa
open Go Go.RowKit Go.Own Go.Shelf
abbrev rs (p : Nat) : RS := ⟨0, (p : Int)⟩
theorem rs_num {l r : List UInt8} {p n : Nat} (h : l.drop p = Cod.enc n ++ r) (hn : n < 2 ^ 64) : (rs p).num l = (n, (Cod.enc n).length, 0) := by
  unfold RS.num
  rw [show (rs p).pos.toNat = p from Int.toNat_natCast p, h]
  exact Cod.num_enc n r hn
theorem read_ok (p k : Nat) : (rs p).read k 0 = rs (p + k) := by
  unfold RS.read
  rw [if_pos rfl, if_pos rfl]
  simp
theorem errN_in {n k : Nat} {lo hi : Int} (h1 : lo ≤ (n : Int)) (h2 : (n : Int) ≤ hi) : errN (n, k, 0) lo hi = 0 := by
  unfold errN
  rw [if_neg]
  rintro ⟨_, h⟩
  unfold outN at h
  omega
theorem rdN_at {l r : List UInt8} {p n : Nat} {lo hi : Int} (h : l.drop p = Cod.enc n ++ r) (hn : n < 2 ^ 64) (h1 : lo ≤ (n : Int)) (h2 : (n : Int) ≤ hi) : rdN l (rs p) lo hi = ((n : Int), rs (p + (Cod.enc n).length)) := by
  unfold rdN
  rw [rs_num h hn]
  simp only [errN_in h1 h2]
  rw [if_pos ⟨trivial, trivial⟩, read_ok]
theorem rdU_at {l r : List UInt8} {p n : Nat} (h : l.drop p = Cod.enc n ++ r) (hn : n < 2 ^ 64) : rdU l (rs p) = ((n : Int), rs (p + (Cod.enc n).length)) := by
  unfold rdU
  rw [rs_num h hn]
  rw [if_pos ⟨rfl, rfl⟩, read_ok]
theorem rest_rs (l : List UInt8) (p : Nat) : (rs p).rest l = l.drop p := by unfold RS.rest; rw [show (rs p).pos.toNat = p from Int.toNat_natCast p]
theorem rdH_at {l r x : List UInt8} {p : Nat} (h : l.drop p = x ++ r) (hx : x.length = 32) : rdH l (rs p) = (x, rs (p + 32)) := by
  have hl : ¬ (l.drop p).length < 32 := by rw [h, List.length_append]; omega
  unfold rdH
  rw [rest_rs]
  have e : hashErr (l.drop p) = 0 := by unfold hashErr; rw [if_neg hl]
  rw [if_pos ⟨rfl, e⟩, e, show hashLen (l.drop p) = 32 by unfold hashLen; rw [if_neg hl], read_ok]
  congr 1
  unfold hashOf
  rw [if_neg hl, h, List.take_left' hx]
theorem fin_at {l : List UInt8} {p : Nat} (h : l.length ≤ p) : (rs p).fin l = (0, 0) := by
  unfold RS.fin
  rw [if_pos rfl, if_neg (by show ¬ (p : Int) < (l.length : Int); omega)]
theorem drop_more {l x r : List UInt8} {p : Nat} (h : l.drop p = x ++ r) : l.drop (p + x.length) = r := by rw [← List.drop_drop, h, List.drop_left]
/-- An error stays. -/
theorem read_err {s : RS} {k : Nat} {e : Int} (h : (s.read k e).err = 0) : s.err = 0 ∧ e = 0 := by
  unfold RS.read at h
  by_cases h0 : s.err = 0
  · rw [if_pos h0] at h
    by_cases h1 : e = 0
    · exact ⟨h0, h1⟩
    · rw [if_neg h1] at h; exact absurd h h1
  · rw [if_neg h0] at h; exact absurd h h0
theorem rdN_err {l : List UInt8} {s : RS} {lo hi : Int} (h : (rdN l s lo hi).2.err = 0) : s.err = 0 ∧ errN (s.num l) lo hi = 0 := read_err h
theorem rdU_err {l : List UInt8} {s : RS} (h : (rdU l s).2.err = 0) : s.err = 0 ∧ (s.num l).2.2 = 0 := read_err h
theorem rdH_err {l : List UInt8} {s : RS} (h : (rdH l s).2.err = 0) : s.err = 0 ∧ hashErr (s.rest l) = 0 := read_err h
theorem fin_err {l : List UInt8} {s : RS} (h : (s.fin l).1 = 0) : s.err = 0 ∧ (l.length : Int) ≤ s.pos := by
  unfold RS.fin at h
  by_cases h0 : s.err = 0
  · rw [if_pos h0] at h
    refine ⟨h0, ?_⟩
    by_cases h1 : s.pos < l.length
    · rw [if_pos h1] at h; cases h
    · omega
  · rw [if_neg h0] at h; exact absurd h h0
/-- A number that was read stands there. -/
theorem num_inv {l : List UInt8} {p : Nat} (hp : p ≤ l.length) (h : ((rs p).num l).2.2 = 0) : ∃ n r, n < 2 ^ 64 ∧ l.drop p = Cod.enc n ++ r ∧ (rs p).num l = (n, (Cod.enc n).length, 0) ∧ p + (Cod.enc n).length ≤ l.length := by
  have e : (rs p).num l = Cod.num (l.drop p) := by unfold RS.num; rw [show (rs p).pos.toNat = p from Int.toNat_natCast p]
  obtain ⟨x, k, z⟩ : ∃ x k, (rs p).num l = (x, k, 0) := ⟨((rs p).num l).1, ((rs p).num l).2.1, by rw [← h]⟩
  obtain ⟨h1, h2, r, h3⟩ := Cod.num_one (l.drop p) x k (e.symm.trans z)
  refine ⟨x, r, h1, h3, by rw [z, h2], ?_⟩
  have := congrArg List.length h3
  rw [List.length_drop, List.length_append] at this
  omega
theorem rdN_inv {l : List UInt8} {p : Nat} {lo hi : Int} (hp : p ≤ l.length) (h : (rdN l (rs p) lo hi).2.err = 0) : ∃ n r, n < 2 ^ 64 ∧ l.drop p = Cod.enc n ++ r ∧ rdN l (rs p) lo hi = ((n : Int), rs (p + (Cod.enc n).length)) ∧ (n : Int) ≤ hi ∧ (0 < lo → lo ≤ (n : Int)) ∧ p + (Cod.enc n).length ≤ l.length := by
  obtain ⟨_, h2⟩ := rdN_err h
  obtain ⟨z1, z2, z3, z4⟩ := errN_zero h2
  obtain ⟨n, r, hn, hd, e, hle⟩ := num_inv hp z1
  rw [e] at z3 z4 h2
  refine ⟨n, r, hn, hd, ?_, z3, z4, hle⟩
  unfold rdN
  rw [e, if_pos ⟨rfl, h2⟩, h2, read_ok]
theorem rdU_inv {l : List UInt8} {p : Nat} (hp : p ≤ l.length) (h : (rdU l (rs p)).2.err = 0) : ∃ n r, n < 2 ^ 64 ∧ l.drop p = Cod.enc n ++ r ∧ rdU l (rs p) = ((n : Int), rs (p + (Cod.enc n).length)) ∧ p + (Cod.enc n).length ≤ l.length := by
  obtain ⟨_, h2⟩ := rdU_err h
  obtain ⟨n, r, hn, hd, e, hle⟩ := num_inv hp h2
  exact ⟨n, r, hn, hd, rdU_at hd hn, hle⟩
theorem rdH_inv {l : List UInt8} {p : Nat} (hp : p ≤ l.length) (h : (rdH l (rs p)).2.err = 0) : ∃ x r : List UInt8, x.length = 32 ∧ l.drop p = x ++ r ∧ rdH l (rs p) = (x, rs (p + 32)) ∧ p + 32 ≤ l.length := by
  obtain ⟨_, h2⟩ := rdH_err h
  rw [rest_rs] at h2
  have hl : ¬ (l.drop p).length < 32 := by
    intro hc; unfold hashErr at h2; rw [if_pos hc] at h2; cases h2
  have hd : l.drop p = (l.drop p).take 32 ++ (l.drop p).drop 32 := (List.take_append_drop 32 _).symm
  have hx : ((l.drop p).take 32).length = 32 := by rw [List.length_take]; omega
  rw [List.length_drop] at hl
  exact ⟨_, _, hx, hd, rdH_at hd hx, by omega⟩
theorem rdB_err {l : List UInt8} {s : RS} {most : Int} (h : (rdB l s most).2.err = 0) : s.err = 0 ∧ errB (s.num l) (s.rest l) most = 0 := read_err h
/-- Bytes behind their number. -/
theorem rdB_at {l r x : List UInt8} {p : Nat} {most : Int} (h : l.drop p = (Cod.enc x.length ++ x) ++ r) (hx : x.length < 2 ^ 64) (hm : (x.length : Int) ≤ most) : rdB l (rs p) most = (x, rs (p + (Cod.enc x.length ++ x).length)) := by
  rw [List.append_assoc] at h
  have hn := rs_num h hx
  have hr := rest_rs l p
  have hl : ((rs p).rest l).length = (Cod.enc x.length).length + (x.length + r.length) := by rw [hr, h, List.length_append, List.length_append]
  have he : errB ((rs p).num l) ((rs p).rest l) most = 0 := by
    unfold errB; rw [hn]; rw [if_pos rfl, if_neg (by show ¬ (most < 0 ∨ most < (x.length : Int)); omega), if_neg (by show ¬ (((rs p).rest l).length : Int) - ((Cod.enc x.length).length : Int) < (x.length : Int); omega)]
  unfold rdB
  rw [he, if_pos ⟨rfl, rfl⟩]
  have e1 : bytesB ((rs p).num l) ((rs p).rest l) = x := by
    unfold bytesB; rw [hn, hr, h]; show ((Cod.enc x.length ++ (x ++ r)).drop (Cod.enc x.length).length).take x.length = x
    rw [List.drop_left, List.take_left]
  have e2 : lenB ((rs p).num l) ((rs p).rest l) most = (Cod.enc x.length ++ x).length := by
    unfold lenB; rw [if_pos he, hn, List.length_append]
  rw [e1, e2, read_ok]
theorem rdB_inv {l : List UInt8} {p : Nat} {most : Int} (hp : p ≤ l.length) (h : (rdB l (rs p) most).2.err = 0) : ∃ x r : List UInt8, (x.length : Int) ≤ most ∧ l.drop p = (Cod.enc x.length ++ x) ++ r ∧ rdB l (rs p) most = (x, rs (p + (Cod.enc x.length ++ x).length)) ∧ p + (Cod.enc x.length ++ x).length ≤ l.length := by
  obtain ⟨_, h2⟩ := rdB_err h
  obtain ⟨z1, z2, z3, z4⟩ := errB_zero h2
  obtain ⟨n, r, hn, hd, e, hle⟩ := num_inv hp z1
  rw [e, rest_rs, hd] at z4
  rw [e] at z3
  have hrl : n ≤ r.length := by
    rw [List.length_append] at z4
    have z4' : ((Cod.enc n).length : Int) + (n : Int) ≤ (((Cod.enc n).length + r.length : Nat) : Int) := z4
    omega
  have hx : (r.take n).length = n := by rw [List.length_take]; omega
  have hd2 : l.drop p = (Cod.enc (r.take n).length ++ r.take n) ++ r.drop n := by rw [hx, hd, List.append_assoc, List.take_append_drop]
  have z3' : (n : Int) ≤ most := z3
  refine ⟨r.take n, r.drop n, by rw [hx]; exact z3', hd2, rdB_at hd2 (by rw [hx]; exact hn) (by rw [hx]; exact z3'), ?_⟩
  have := congrArg List.length hd2
  rw [List.length_drop, List.length_append] at this
  omega
end Go.Proofs.Ytmapcghgdbfmhaa
