/-
  Votes: the plain law of forms: what is written is read, and no other bytes are. Conditions: none.
-/
import Derived.Test.YtenaakldccjnbaaVoteR
import Derived.Test.YtenaakldccjnbaaVoteD
namespace Go.Proofs.Ytenaakldccjnbaa
open Go Go.RowKit Go.Own Go.Shelf
abbrev rs (p : Nat) : RS := ⟨0, (p : Int)⟩
theorem rs_num {l r : List UInt8} {p n : Nat} (h : l.drop p = Cod.enc n ++ r) (hn : n < 2 ^ 64) : (rs p).num l = (n, (Cod.enc n).length, 0) := by
  unfold RS.num
  rw [show (rs p).pos.toNat = p from Int.toNat_natCast p, h]
  exact Cod.num_enc n r hn
theorem read_ok (p k : Nat) : (rs p).read k 0 = rs (p + k) := by
  unfold RS.read
  rw [if_pos rfl, if_pos rfl]
  simp
theorem errN_in {n k : Nat} {lo hi : Int} (h1 : lo ≤ (n : Int)) (h2 : (n : Int) ≤ hi) : errN (n, k, 0) lo hi = 0 := by
  unfold errN
  rw [if_neg]
  rintro ⟨_, h⟩
  unfold outN at h
  omega
theorem rdN_at {l r : List UInt8} {p n : Nat} {lo hi : Int} (h : l.drop p = Cod.enc n ++ r) (hn : n < 2 ^ 64) (h1 : lo ≤ (n : Int)) (h2 : (n : Int) ≤ hi) : rdN l (rs p) lo hi = ((n : Int), rs (p + (Cod.enc n).length)) := by
  unfold rdN
  rw [rs_num h hn]
  simp only [errN_in h1 h2]
  rw [if_pos ⟨trivial, trivial⟩, read_ok]
theorem rdU_at {l r : List UInt8} {p n : Nat} (h : l.drop p = Cod.enc n ++ r) (hn : n < 2 ^ 64) : rdU l (rs p) = ((n : Int), rs (p + (Cod.enc n).length)) := by
  unfold rdU
  rw [rs_num h hn]
  rw [if_pos ⟨rfl, rfl⟩, read_ok]
theorem rest_rs (l : List UInt8) (p : Nat) : (rs p).rest l = l.drop p := by unfold RS.rest; rw [show (rs p).pos.toNat = p from Int.toNat_natCast p]
theorem rdH_at {l r x : List UInt8} {p : Nat} (h : l.drop p = x ++ r) (hx : x.length = 32) : rdH l (rs p) = (x, rs (p + 32)) := by
  have hl : ¬ (l.drop p).length < 32 := by rw [h, List.length_append]; omega
  unfold rdH
  rw [rest_rs]
  have e : hashErr (l.drop p) = 0 := by unfold hashErr; rw [if_neg hl]
  rw [if_pos ⟨rfl, e⟩, e, show hashLen (l.drop p) = 32 by unfold hashLen; rw [if_neg hl], read_ok]
  congr 1
  unfold hashOf
  rw [if_neg hl, h, List.take_left' hx]
theorem fin_at {l : List UInt8} {p : Nat} (h : l.length ≤ p) : (rs p).fin l = (0, 0) := by
  unfold RS.fin
  rw [if_pos rfl, if_neg (by show ¬ (p : Int) < (l.length : Int); omega)]
theorem drop_more {l x r : List UInt8} {p : Nat} (h : l.drop p = x ++ r) : l.drop (p + x.length) = r := by rw [← List.drop_drop, h, List.drop_left]
/-- What is written of an attestation is read as it. -/
theorem att_read {a : Att} (h : a.Ok) (hf : a.fine) : aF a.bytes = (0, 0) ∧ aAtt a.bytes = a := by
  obtain ⟨f1, f2, f3, f4, f5, f6⟩ := hf
  have hg := h.g
  have e : a.bytes = Cod.enc 1 ++ (Cod.enc a.v.toNat ++ (Cod.enc a.s.toNat ++ (Cod.enc a.t.toNat ++ (a.r ++ (Cod.enc a.g ++ []))))) := by
    simp [Att.bytes, allb, attT, Thg.by]
  obtain ⟨l, hl⟩ : ∃ l, a.bytes = l := ⟨_, rfl⟩
  rw [hl] at e ⊢
  have d0 : l.drop 0 = Cod.enc 1 ++ (Cod.enc a.v.toNat ++ (Cod.enc a.s.toNat ++ (Cod.enc a.t.toNat ++ (a.r ++ (Cod.enc a.g ++ []))))) := by rw [List.drop_zero]; exact e
  obtain ⟨p1, d1, s1⟩ : ∃ p, l.drop p = _ ∧ aS1 l = rs p := ⟨_, drop_more d0, congrArg Prod.snd (rdN_at (lo := 1) (hi := 1) d0 (by omega) (by omega) (by omega))⟩
  obtain ⟨p2, d2, s2⟩ : ∃ p, l.drop p = _ ∧ aV l = (((a.v.toNat : Nat) : Int), rs p) := ⟨_, drop_more d1, by unfold aV; rw [s1]; exact rdN_at d1 (by omega) (by omega) (by omega)⟩
  obtain ⟨p3, d3, s3⟩ : ∃ p, l.drop p = _ ∧ aS l = (((a.s.toNat : Nat) : Int), rs p) := ⟨_, drop_more d2, by unfold aS; rw [s2]; exact rdN_at d2 (by omega) (by omega) (by omega)⟩
  obtain ⟨p4, d4, s4⟩ : ∃ p, l.drop p = _ ∧ aT l = (((a.t.toNat : Nat) : Int), rs p) := ⟨_, drop_more d3, by unfold aT; rw [s3]; exact rdN_at d3 (by omega) (by omega) (by omega)⟩
  obtain ⟨p5, d5, s5⟩ : ∃ p, l.drop p = _ ∧ aR l = (a.r, rs p) := ⟨_, h.r ▸ drop_more d4, by unfold aR; rw [s4]; exact rdH_at d4 h.r⟩
  obtain ⟨p6, d6, s6⟩ : ∃ p, l.drop p = _ ∧ aG l = (((a.g : Nat) : Int), rs p) := ⟨_, drop_more d5, by unfold aG; rw [s5]; exact rdU_at d5 hg⟩
  refine ⟨?_, ?_⟩
  · unfold aF; rw [s6]
    refine fin_at ?_
    have := congrArg List.length d6
    rw [List.length_drop] at this
    simp only [List.length_nil] at this; omega
  · unfold aAtt; rw [s2, s3, s4, s5, s6]
    obtain ⟨v, s, t, r, g⟩ := a
    simp only at f1 f3 f5 ⊢
    simp only [Int.toNat_of_nonneg f1, Int.toNat_of_nonneg f3, Int.toNat_of_nonneg f5, Int.toNat_natCast]
theorem pro_read {a : Pro} (h : a.Ok) (hf : a.fine) : pF a.bytes = (0, 0) ∧ pPro a.bytes = a := by
  obtain ⟨f1, f2, f3, f4⟩ := hf
  have hg := h.g
  have e : a.bytes = Cod.enc 2 ++ (Cod.enc a.v.toNat ++ (Cod.enc a.h.toNat ++ (a.r ++ (Cod.enc a.g ++ [])))) := by
    simp [Pro.bytes, allb, proT, Thg.by]
  obtain ⟨l, hl⟩ : ∃ l, a.bytes = l := ⟨_, rfl⟩
  rw [hl] at e ⊢
  have d0 : l.drop 0 = Cod.enc 2 ++ (Cod.enc a.v.toNat ++ (Cod.enc a.h.toNat ++ (a.r ++ (Cod.enc a.g ++ [])))) := by rw [List.drop_zero]; exact e
  obtain ⟨p1, d1, s1⟩ : ∃ p, l.drop p = _ ∧ pS1 l = rs p := ⟨_, drop_more d0, congrArg Prod.snd (rdN_at (lo := 2) (hi := 2) d0 (by omega) (by omega) (by omega))⟩
  obtain ⟨p2, d2, s2⟩ : ∃ p, l.drop p = _ ∧ pV l = (((a.v.toNat : Nat) : Int), rs p) := ⟨_, drop_more d1, by unfold pV; rw [s1]; exact rdN_at d1 (by omega) (by omega) (by omega)⟩
  obtain ⟨p3, d3, s3⟩ : ∃ p, l.drop p = _ ∧ pH l = (((a.h.toNat : Nat) : Int), rs p) := ⟨_, drop_more d2, by unfold pH; rw [s2]; exact rdN_at d2 (by omega) (by omega) (by omega)⟩
  obtain ⟨p5, d5, s5⟩ : ∃ p, l.drop p = _ ∧ pR l = (a.r, rs p) := ⟨_, h.r ▸ drop_more d3, by unfold pR; rw [s3]; exact rdH_at d3 h.r⟩
  obtain ⟨p6, d6, s6⟩ : ∃ p, l.drop p = _ ∧ pG l = (((a.g : Nat) : Int), rs p) := ⟨_, drop_more d5, by unfold pG; rw [s5]; exact rdU_at d5 hg⟩
  refine ⟨?_, ?_⟩
  · unfold pF; rw [s6]
    refine fin_at ?_
    have := congrArg List.length d6
    rw [List.length_drop] at this
    simp only [List.length_nil] at this; omega
  · unfold pPro; rw [s2, s3, s5, s6]
    obtain ⟨v, s, r, g⟩ := a
    simp only at f1 f3 ⊢
    simp only [Int.toNat_of_nonneg f1, Int.toNat_of_nonneg (show 0 ≤ s by omega), Int.toNat_natCast]
/-- An error stays. -/
theorem read_err {s : RS} {k : Nat} {e : Int} (h : (s.read k e).err = 0) : s.err = 0 ∧ e = 0 := by
  unfold RS.read at h
  by_cases h0 : s.err = 0
  · rw [if_pos h0] at h
    by_cases h1 : e = 0
    · exact ⟨h0, h1⟩
    · rw [if_neg h1] at h; exact absurd h h1
  · rw [if_neg h0] at h; exact absurd h h0
theorem rdN_err {l : List UInt8} {s : RS} {lo hi : Int} (h : (rdN l s lo hi).2.err = 0) : s.err = 0 ∧ errN (s.num l) lo hi = 0 := read_err h
theorem rdU_err {l : List UInt8} {s : RS} (h : (rdU l s).2.err = 0) : s.err = 0 ∧ (s.num l).2.2 = 0 := read_err h
theorem rdH_err {l : List UInt8} {s : RS} (h : (rdH l s).2.err = 0) : s.err = 0 ∧ hashErr (s.rest l) = 0 := read_err h
theorem fin_err {l : List UInt8} {s : RS} (h : (s.fin l).1 = 0) : s.err = 0 ∧ (l.length : Int) ≤ s.pos := by
  unfold RS.fin at h
  by_cases h0 : s.err = 0
  · rw [if_pos h0] at h
    refine ⟨h0, ?_⟩
    by_cases h1 : s.pos < l.length
    · rw [if_pos h1] at h; cases h
    · omega
  · rw [if_neg h0] at h; exact absurd h h0
/-- A number that was read stands there. -/
theorem num_inv {l : List UInt8} {p : Nat} (hp : p ≤ l.length) (h : ((rs p).num l).2.2 = 0) : ∃ n r, n < 2 ^ 64 ∧ l.drop p = Cod.enc n ++ r ∧ (rs p).num l = (n, (Cod.enc n).length, 0) ∧ p + (Cod.enc n).length ≤ l.length := by
  have e : (rs p).num l = Cod.num (l.drop p) := by unfold RS.num; rw [show (rs p).pos.toNat = p from Int.toNat_natCast p]
  obtain ⟨x, k, z⟩ : ∃ x k, (rs p).num l = (x, k, 0) := ⟨((rs p).num l).1, ((rs p).num l).2.1, by rw [← h]⟩
  obtain ⟨h1, h2, r, h3⟩ := Cod.num_one (l.drop p) x k (e.symm.trans z)
  refine ⟨x, r, h1, h3, by rw [z, h2], ?_⟩
  have := congrArg List.length h3
  rw [List.length_drop, List.length_append] at this
  omega
theorem rdN_inv {l : List UInt8} {p : Nat} {lo hi : Int} (hp : p ≤ l.length) (h : (rdN l (rs p) lo hi).2.err = 0) : ∃ n r, n < 2 ^ 64 ∧ l.drop p = Cod.enc n ++ r ∧ rdN l (rs p) lo hi = ((n : Int), rs (p + (Cod.enc n).length)) ∧ (n : Int) ≤ hi ∧ (0 < lo → lo ≤ (n : Int)) ∧ p + (Cod.enc n).length ≤ l.length := by
  obtain ⟨_, h2⟩ := rdN_err h
  obtain ⟨z1, z2, z3, z4⟩ := errN_zero h2
  obtain ⟨n, r, hn, hd, e, hle⟩ := num_inv hp z1
  rw [e] at z3 z4 h2
  refine ⟨n, r, hn, hd, ?_, z3, z4, hle⟩
  unfold rdN
  rw [e, if_pos ⟨rfl, h2⟩, h2, read_ok]
theorem rdU_inv {l : List UInt8} {p : Nat} (hp : p ≤ l.length) (h : (rdU l (rs p)).2.err = 0) : ∃ n r, n < 2 ^ 64 ∧ l.drop p = Cod.enc n ++ r ∧ rdU l (rs p) = ((n : Int), rs (p + (Cod.enc n).length)) ∧ p + (Cod.enc n).length ≤ l.length := by
  obtain ⟨_, h2⟩ := rdU_err h
  obtain ⟨n, r, hn, hd, e, hle⟩ := num_inv hp h2
  exact ⟨n, r, hn, hd, rdU_at hd hn, hle⟩
theorem rdH_inv {l : List UInt8} {p : Nat} (hp : p ≤ l.length) (h : (rdH l (rs p)).2.err = 0) : ∃ x r : List UInt8, x.length = 32 ∧ l.drop p = x ++ r ∧ rdH l (rs p) = (x, rs (p + 32)) ∧ p + 32 ≤ l.length := by
  obtain ⟨_, h2⟩ := rdH_err h
  rw [rest_rs] at h2
  have hl : ¬ (l.drop p).length < 32 := by
    intro hc; unfold hashErr at h2; rw [if_pos hc] at h2; cases h2
  have hd : l.drop p = (l.drop p).take 32 ++ (l.drop p).drop 32 := (List.take_append_drop 32 _).symm
  have hx : ((l.drop p).take 32).length = 32 := by rw [List.length_take]; omega
  rw [List.length_drop] at hl
  exact ⟨_, _, hx, hd, rdH_at hd hx, by omega⟩
/-- What is read as an attestation is its bytes. -/
theorem att_back {l : List UInt8} (h : (aF l).1 = 0) : (aAtt l).Ok ∧ (aAtt l).fine ∧ (aAtt l).bytes = l := by
  obtain ⟨e6, hpos⟩ := fin_err h
  have e5 := (rdU_err e6).1; have e4 := (rdH_err e5).1; have e3 := (rdN_err e4).1; have e2 := (rdN_err e3).1; have e1 := (rdN_err e2).1
  obtain ⟨n0, r0, _, d0, q0, u0, l0, p0⟩ := rdN_inv (p := 0) (Nat.zero_le _) (show (rdN l (rs 0) 1 1).2.err = 0 from e1)
  have k1 : aS1 l = rs _ := congrArg Prod.snd q0
  unfold aV at e2; rw [k1] at e2
  obtain ⟨n1, r1, _, d1, q1, u1, _, p1⟩ := rdN_inv p0 e2
  have k2 := (congrArg (fun z => rdN l z 0 31) k1).trans q1
  change aV l = _ at k2
  unfold aS at e3; rw [k2] at e3
  obtain ⟨n2, r2, _, d2, q2, u2, _, p2⟩ := rdN_inv p1 e3
  have k3 := (congrArg (fun z => rdN l z 0 4294967296) (congrArg Prod.snd k2)).trans q2
  change aS l = _ at k3
  unfold aT at e4; rw [k3] at e4
  obtain ⟨n3, r3, _, d3, q3, u3, _, p3⟩ := rdN_inv p2 e4
  have k4 := (congrArg (fun z => rdN l z 0 4294967296) (congrArg Prod.snd k3)).trans q3
  change aT l = _ at k4
  unfold aR at e5; rw [k4] at e5
  obtain ⟨x, r4, hx, d4, q4, p4⟩ := rdH_inv p3 e5
  have k5 := (congrArg (fun z => rdH l z) (congrArg Prod.snd k4)).trans q4
  change aR l = _ at k5
  unfold aG at e6; rw [k5] at e6
  obtain ⟨n5, r5, h5, d5, q5, p5⟩ := rdU_inv p4 e6
  have k6 := (congrArg (fun z => rdU l z) (congrArg Prod.snd k5)).trans q5
  change aG l = _ at k6
  have ea : aAtt l = ⟨n1, n2, n3, x, n5⟩ := by unfold aAtt; rw [k2, k3, k4, k5, k6]; rfl
  have hn0 : n0 = 1 := by have := l0 (by omega); omega
  rw [k6] at hpos
  have hend : r5 = [] := by
    have t := congrArg List.length d5
    rw [List.length_drop, List.length_append] at t
    have hpos := Int.ofNat_le.1 hpos
    exact List.eq_nil_of_length_eq_zero (by omega)
  rw [ea]
  refine ⟨⟨⟨by simp only; omega, by simp only; omega⟩, ⟨by simp only; omega, by simp only; omega⟩, ⟨by simp only; omega, by simp only; omega⟩, hx, h5⟩, ⟨by simp only; omega, u1, by simp only; omega, u2, by simp only; omega, u3⟩, ?_⟩
  have t1 := drop_more d0; have t2 := drop_more d1; have t3 := drop_more d2; have t4 := drop_more d3; have t5 := drop_more d4
  rw [hx] at t5
  rw [List.drop_zero] at d0
  rw [d0, ← t1, d1, ← t2, d2, ← t3, d3, ← t4, d4, ← t5, d5, hend, hn0]
  simp [Att.bytes, allb, attT, Thg.by]
theorem pro_back {l : List UInt8} (h : (pF l).1 = 0) : (pPro l).Ok ∧ (pPro l).fine ∧ (pPro l).bytes = l := by
  obtain ⟨e6, hpos⟩ := fin_err h
  have e5 := (rdU_err e6).1; have e4 := (rdH_err e5).1; have e3 := (rdN_err e4).1; have e2 := (rdN_err e3).1
  obtain ⟨n0, r0, _, d0, q0, u0, l0, p0⟩ := rdN_inv (p := 0) (Nat.zero_le _) (show (rdN l (rs 0) 2 2).2.err = 0 from e2)
  have k1 : pS1 l = rs _ := congrArg Prod.snd q0
  unfold pV at e3; rw [k1] at e3
  obtain ⟨n1, r1, _, d1, q1, u1, _, p1⟩ := rdN_inv p0 e3
  have k2 := (congrArg (fun z => rdN l z 0 31) k1).trans q1
  change pV l = _ at k2
  unfold pH at e4; rw [k2] at e4
  obtain ⟨n2, r2, _, d2, q2, u2, w2, p2⟩ := rdN_inv p1 e4
  have k3 := (congrArg (fun z => rdN l z 1 4294967296) (congrArg Prod.snd k2)).trans q2
  change pH l = _ at k3
  unfold pR at e5; rw [k3] at e5
  obtain ⟨x, r4, hx, d4, q4, p4⟩ := rdH_inv p2 e5
  have k5 := (congrArg (fun z => rdH l z) (congrArg Prod.snd k3)).trans q4
  change pR l = _ at k5
  unfold pG at e6; rw [k5] at e6
  obtain ⟨n5, r5, h5, d5, q5, p5⟩ := rdU_inv p4 e6
  have k6 := (congrArg (fun z => rdU l z) (congrArg Prod.snd k5)).trans q5
  change pG l = _ at k6
  have ea : pPro l = ⟨n1, n2, x, n5⟩ := by unfold pPro; rw [k2, k3, k5, k6]; rfl
  have hn0 : n0 = 2 := by have := l0 (by omega); omega
  have hn2 := w2 (by omega)
  rw [k6] at hpos
  have hend : r5 = [] := by
    have t := congrArg List.length d5
    rw [List.length_drop, List.length_append] at t
    have hpos := Int.ofNat_le.1 hpos
    exact List.eq_nil_of_length_eq_zero (by omega)
  rw [ea]
  refine ⟨⟨⟨by simp only; omega, by simp only; omega⟩, ⟨by simp only; omega, by simp only; omega⟩, hx, h5⟩, ⟨by simp only; omega, u1, hn2, u2⟩, ?_⟩
  have t1 := drop_more d0; have t2 := drop_more d1; have t4 := drop_more d2; have t5 := drop_more d4
  rw [hx] at t5
  rw [List.drop_zero] at d0
  rw [d0, ← t1, d1, ← t2, d2, ← t4, d4, ← t5, d5, hend, hn0]
  simp [Pro.bytes, allb, proT, Thg.by]
/-- An attestation's bytes are no proposal's, and the other way round. -/
theorem head_att (a : Att) : ∃ r, a.bytes = 1 :: r := ⟨_, by simp only [Att.bytes, allb, attT, List.cons_append, List.flatMap_cons, Thg.by, show Cod.enc (1 : Int).toNat = [1] by kernel_rfl]; rfl⟩
theorem head_pro (a : Pro) : ∃ r, a.bytes = 2 :: r := ⟨_, by simp only [Pro.bytes, allb, proT, List.cons_append, List.flatMap_cons, Thg.by, show Cod.enc (2 : Int).toNat = [2] by kernel_rfl]; rfl⟩
theorem att_nopro {a : Att} : ¬ (pF a.bytes).1 = 0 := fun h => by
  obtain ⟨_, _, h3⟩ := pro_back h
  obtain ⟨r, e⟩ := head_att a
  obtain ⟨r2, e2⟩ := head_pro (pPro a.bytes)
  rw [h3, e] at e2; cases e2
theorem pro_noatt {a : Pro} : ¬ (aF a.bytes).1 = 0 := fun h => by
  obtain ⟨_, _, h3⟩ := att_back h
  obtain ⟨r, e⟩ := head_pro a
  obtain ⟨r2, e2⟩ := head_att (aAtt a.bytes)
  rw [h3, e] at e2; cases e2
end Go.Proofs.Ytenaakldccjnbaa
