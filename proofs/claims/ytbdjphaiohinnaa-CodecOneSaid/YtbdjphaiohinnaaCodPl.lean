/-
  Codec: plain laws: what is written is read as it was; cut off, it is short; what was read has no other bytes. Conditions: none.
-/
import Derived.Test.YtbdjphaiohinnaaCodM
import Derived.Test.YtbdjphaiohinnaaCodO
import Derived.Test.YtbdjphaiohinnaaCodV
import Derived.Test.YtbdjphaiohinnaaCodWr
namespace Go.Proofs.Ytbdjphaiohinnaa
open Go Go.RowKit Go.Own Go.Shelf

/-- A thing's bytes. -/
def thB (x : Th) : List UInt8 :=
  if x.kind = 0 then Cod.enc x.n else if x.kind = 1 then (if x.int < 0 then [] else Cod.enc x.int.toNat) else if x.kind = 2 then x.hash else if x.kind = 3 then Cod.enc x.bytes.length ++ x.bytes else []
/-- What asking for a thing as it is leaves. -/
def rdAsk (l : List UInt8) (s : RS) (x : Th) : RS :=
  if x.kind = 0 then (rdU l s).2 else if x.kind = 1 then (if x.int < 0 then s else (rdN l s x.int x.int).2) else if x.kind = 2 then (rdH l s).2 else if x.kind = 3 then (rdB l s x.bytes.length).2 else s
/-- Whether it is read as it is. -/
def rdIs (l : List UInt8) (s : RS) (x : Th) : Bool :=
  if x.kind = 0 then (rdU l s).1 == (x.n : Int) else if x.kind = 1 then (if x.int < 0 then true else (rdN l s x.int x.int).1 == x.int) else if x.kind = 2 then (rdH l s).1 == x.hash else if x.kind = 3 then (rdB l s x.bytes.length).1 == x.bytes else true

theorem num_at {l : List UInt8} {p : Nat} {n : Nat} {r : List UInt8} (h : l.drop p = Cod.enc n ++ r) (hn : n < 2 ^ 64) : (⟨0, (p : Int)⟩ : RS).num l = (n, (Cod.enc n).length, 0) := by
  unfold RS.num; rw [Int.toNat_natCast, h, Cod.num_enc n r hn]
theorem num_at_cut {l : List UInt8} {p : Nat} {n k : Nat} (h : l.drop p = (Cod.enc n).take k) (hn : n < 2 ^ 64) (hk : k < (Cod.enc n).length) : (⟨0, (p : Int)⟩ : RS).num l = (0, 0, 6) := by
  unfold RS.num; rw [Int.toNat_natCast, h, Cod.num_cut n k hn hk]
theorem rest_at (l : List UInt8) (p : Nat) : (⟨0, (p : Int)⟩ : RS).rest l = l.drop p := by unfold RS.rest; rw [Int.toNat_natCast]

/-- At its place a thing is read as it is. -/
theorem ask_ok (l : List UInt8) (p : Nat) (x : Th) (r : List UInt8) (hx : x.Ok) (hb : x.bytes.length ≤ 200) (h : l.drop p = thB x ++ r) :
    rdIs l ⟨0, (p : Int)⟩ x = true ∧ rdAsk l ⟨0, (p : Int)⟩ x = ⟨0, ((p + (thB x).length : Nat) : Int)⟩ := by
  have hi := hx.bi
  unfold rdIs rdAsk
  unfold thB at h ⊢
  by_cases k0 : x.kind = 0
  · rw [if_pos k0] at h
    have e := num_at h hx.bn
    have e1 : rdU l ⟨0, (p : Int)⟩ = ((x.n : Int), ⟨0, ((p + (Cod.enc x.n).length : Nat) : Int)⟩) := by unfold rdU RS.read; rw [e]; simp
    simp only [if_pos k0, e1]
    simp
  simp only [if_neg k0] at h ⊢
  by_cases k1 : x.kind = 1
  · rw [if_pos k1] at h
    simp only [if_pos k1]
    by_cases h0 : x.int < 0
    · simp only [if_pos h0]; simp
    · rw [if_neg h0] at h
      simp only [if_neg h0]
      have e := num_at h (by omega)
      have e2 : errN (x.int.toNat, (Cod.enc x.int.toNat).length, 0) x.int x.int = 0 := by unfold errN outN; simp only; rw [if_neg (by omega)]
      have e1 : rdN l ⟨0, (p : Int)⟩ x.int x.int = ((x.int.toNat : Int), ⟨0, ((p + (Cod.enc x.int.toNat).length : Nat) : Int)⟩) := by unfold rdN RS.read; rw [e, e2]; simp
      rw [e1]
      simp; omega
  simp only [if_neg k1] at h ⊢
  by_cases k2 : x.kind = 2
  · rw [if_pos k2] at h
    simp only [if_pos k2]
    have hr := rest_at l p
    have hlen : ¬ (l.drop p).length < 32 := by rw [h, List.length_append, hx.hl]; omega
    have e1 : hashErr (l.drop p) = 0 := if_neg hlen
    have e2 : hashLen (l.drop p) = 32 := if_neg hlen
    have e3 : hashOf (l.drop p) = x.hash := by unfold hashOf; rw [if_neg hlen, h, ← hx.hl, List.take_left]
    have e4 : rdH l ⟨0, (p : Int)⟩ = (x.hash, ⟨0, ((p + x.hash.length : Nat) : Int)⟩) := by unfold rdH RS.read; rw [hr, e1, e2, e3, hx.hl]; simp
    rw [e4]; simp
  simp only [if_neg k2] at h ⊢
  by_cases k3 : x.kind = 3
  · rw [if_pos k3, List.append_assoc] at h
    simp only [if_pos k3]
    have e := num_at h (by omega)
    have hr := rest_at l p
    have e1 : errB (x.bytes.length, (Cod.enc x.bytes.length).length, 0) (l.drop p) x.bytes.length = 0 := by
      unfold errB; simp only [if_true]; rw [if_neg (by omega), if_neg (by rw [h]; simp; omega)]
    have e2 : lenB (x.bytes.length, (Cod.enc x.bytes.length).length, 0) (l.drop p) x.bytes.length = (Cod.enc x.bytes.length).length + x.bytes.length := by unfold lenB; rw [if_pos e1]
    have e3 : bytesB (x.bytes.length, (Cod.enc x.bytes.length).length, 0) (l.drop p) = x.bytes := by unfold bytesB; rw [h, List.drop_left, List.take_left]
    have e4 : rdB l ⟨0, (p : Int)⟩ x.bytes.length = (x.bytes, ⟨0, ((p + (Cod.enc x.bytes.length ++ x.bytes).length : Nat) : Int)⟩) := by unfold rdB RS.read; rw [e, hr, e1, e2, e3]; simp
    rw [e4]; simp
  simp only [if_neg k3] at h ⊢
  simp

/-- Cut off, it is short. -/
theorem ask_cut (l : List UInt8) (p : Nat) (x : Th) (k : Nat) (hx : x.Ok) (hb : x.bytes.length ≤ 200) (h : l.drop p = (thB x).take k) (hk : k < (thB x).length) : (rdAsk l ⟨0, (p : Int)⟩ x).err = 6 := by
  have hi := hx.bi
  unfold rdAsk
  unfold thB at h hk
  by_cases k0 : x.kind = 0
  · rw [if_pos k0] at h hk
    have e := num_at_cut h hx.bn hk
    simp only [if_pos k0]
    unfold rdU RS.read; rw [e]; simp
  simp only [if_neg k0] at h hk ⊢
  by_cases k1 : x.kind = 1
  · rw [if_pos k1] at h hk
    simp only [if_pos k1]
    by_cases h0 : x.int < 0
    · rw [if_pos h0] at hk; simp at hk
    · rw [if_neg h0] at h hk
      simp only [if_neg h0]
      have e := num_at_cut h (by omega) hk
      unfold rdN RS.read errN; rw [e]; simp
  simp only [if_neg k1] at h hk ⊢
  by_cases k2 : x.kind = 2
  · rw [if_pos k2] at h hk
    simp only [if_pos k2]
    have hr := rest_at l p
    rw [hx.hl] at hk
    have hlen : (l.drop p).length < 32 := by rw [h, List.length_take]; omega
    have e1 : hashErr (l.drop p) = 6 := if_pos hlen
    unfold rdH RS.read; rw [hr, e1]; simp
  simp only [if_neg k2] at h hk ⊢
  by_cases k3 : x.kind = 3
  · rw [if_pos k3] at h hk
    simp only [if_pos k3]
    have hr := rest_at l p
    by_cases hkl : k < (Cod.enc x.bytes.length).length
    · rw [List.take_append_of_le_length (by omega)] at h
      have e := num_at_cut h (by omega) hkl
      unfold rdB RS.read errB; rw [e]; simp
    · rw [List.take_append] at h
      rw [List.take_of_length_le (by omega)] at h
      have e := num_at h (by omega)
      rw [List.length_append] at hk
      have e1 : errB (x.bytes.length, (Cod.enc x.bytes.length).length, 0) (l.drop p) x.bytes.length = 6 := by
        unfold errB; simp only [if_true]; rw [if_neg (by omega), if_pos (by rw [h]; simp [List.length_take]; omega)]
      unfold rdB RS.read; rw [e, hr, e1]; simp
  simp only [if_neg k3] at h hk
  simp at hk
theorem ask_stays (l : List UInt8) (s : RS) (x : Th) (h : s.err = 6) : (rdAsk l s x).err = 6 := by
  have h0 : ¬ s.err = 0 := by omega
  have e : ∀ k er, s.read k er = s := fun k er => by unfold RS.read; rw [if_neg h0]
  unfold rdAsk rdU rdN rdH rdB
  simp only [e]
  repeat' split
  all_goals exact h

/-- All things' bytes. -/
def thsB (l : List Th) : List UInt8 := l.flatMap thB
theorem thsB_take_succ (l : List Th) (k : Nat) (x : Th) (h : l[k]? = some x) : thsB (l.take (k + 1)) = thsB (l.take k) ++ thB x := by
  obtain ⟨hk, hx⟩ := List.getElem?_eq_some_iff.1 h
  unfold thsB
  rw [List.take_succ_eq_append_getElem hk, hx, List.flatMap_append]
  simp
theorem thsB_split (l : List Th) (k : Nat) (x : Th) (h : l[k]? = some x) : thsB l = thsB (l.take k) ++ (thB x ++ thsB (l.drop (k + 1))) := by
  obtain ⟨hk, hx⟩ := List.getElem?_eq_some_iff.1 h
  conv => lhs; rw [← List.take_append_drop k l, List.drop_eq_getElem_cons hk, hx]
  unfold thsB
  rw [List.flatMap_append, List.flatMap_cons]
theorem thB_len (x : Th) (hx : x.Ok) (hb : x.bytes.length ≤ 200) : (thB x).length ≤ 210 := by
  unfold thB
  have e1 := Cod.enc_length x.n
  have e2 := Cod.enc_length x.int.toNat
  have e3 := Cod.enc_length x.bytes.length
  have e4 := hx.hl
  repeat' split
  all_goals simp
  all_goals omega
theorem thsB_len (l : List Th) (h : ∀ (k : Nat) (x : Th), l[k]? = some x → x.Ok ∧ x.bytes.length ≤ 200) : (thsB l).length ≤ 210 * l.length := by
  induction l with
  | nil => simp [thsB]
  | cons a l ih =>
    have h0 := h 0 a rfl
    have := thB_len a h0.1 h0.2
    have h2 := ih (fun k x hk => h (k + 1) x hk)
    unfold thsB at h2 ⊢
    rw [List.flatMap_cons, List.length_append, List.length_cons]
    omega
end Go.Proofs.Ytbdjphaiohinnaa
