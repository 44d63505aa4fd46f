/-
  Votes: their bytes and digests, told (printed by vote3.py). Conditions: none.
-/
import Derived.Test.YtmapcghgdbfmhaaVoteC
namespace Go.Proofs.Ytmapcghgdbfmhaa
open Go Go.RowKit Go.Own Go.Shelf
def attT (a : Att) : List Thg := [.n 1, .n a.v, .n a.s, .n a.t, .h a.r]
def proT (a : Pro) : List Thg := [.n 2, .n a.v, .n a.h, .h a.r]
def Att.bare (a : Att) : List UInt8 := allb (attT a)
def Pro.bare (a : Pro) : List UInt8 := allb (proT a)
def Att.bytes (a : Att) : List UInt8 := allb (attT a ++ [.u a.g])
def Pro.bytes (a : Pro) : List UInt8 := allb (proT a ++ [.u a.g])
def zhash : List UInt8 := List.replicate 32 0
theorem zhash_len : zhash.length = 32 := by simp [zhash]
theorem att_okT {a : Att} (h : a.Ok) (hf : a.fine) : ∀ (k : Nat) (t : Thg), (attT a ++ [.u a.g])[k]? = some t → t.Ok := fun k t ht => by
  obtain ⟨f1, f2, f3, f4, f5, f6⟩ := hf
  match k, ht with
  | 0, ht => cases ht; exact ⟨by omega, by omega⟩
  | 1, ht => cases ht; exact ⟨by omega, by omega⟩
  | 2, ht => cases ht; exact ⟨by omega, by omega⟩
  | 3, ht => cases ht; exact ⟨by omega, by omega⟩
  | 4, ht => cases ht; exact h.r
  | 5, ht => cases ht; exact h.g
  | k + 6, ht => cases ht
theorem pro_okT {a : Pro} (h : a.Ok) (hf : a.fine) : ∀ (k : Nat) (t : Thg), (proT a ++ [.u a.g])[k]? = some t → t.Ok := fun k t ht => by
  obtain ⟨f1, f2, f3, f4⟩ := hf
  match k, ht with
  | 0, ht => cases ht; exact ⟨by omega, by omega⟩
  | 1, ht => cases ht; exact ⟨by omega, by omega⟩
  | 2, ht => cases ht; exact ⟨by omega, by omega⟩
  | 3, ht => cases ht; exact h.r
  | 4, ht => cases ht; exact h.g
  | k + 5, ht => cases ht
theorem okT_pre {ts : List Thg} {u : Thg} (h : ∀ (k : Nat) (t : Thg), (ts ++ [u])[k]? = some t → t.Ok) : ∀ (k : Nat) (t : Thg), ts[k]? = some t → t.Ok := fun k t ht => h k t (by rw [List.getElem?_append_left (List.getElem?_eq_some_iff.1 ht).1]; exact ht)
theorem enc10 (n : Nat) : (Cod.enc n).length ≤ 10 := Cod.enc_length n
theorem att_len {a : Att} (h : a.r.length = 32) : a.bytes.length ≤ 82 ∧ a.bare.length ≤ 72 := by
  have := enc10 (1 : Int).toNat; have := enc10 a.v.toNat; have := enc10 a.s.toNat; have := enc10 a.t.toNat; have := enc10 a.g
  simp only [Att.bytes, Att.bare, allb, attT, List.flatMap_cons, List.flatMap_nil, List.cons_append, List.nil_append, Thg.by, List.length_append, List.length_nil, h]
  omega
theorem pro_len {a : Pro} (h : a.r.length = 32) : a.bytes.length ≤ 72 ∧ a.bare.length ≤ 62 := by
  have := enc10 (2 : Int).toNat; have := enc10 a.v.toNat; have := enc10 a.h.toNat; have := enc10 a.g
  simp only [Pro.bytes, Pro.bare, allb, proT, List.flatMap_cons, List.flatMap_nil, List.cons_append, List.nil_append, Thg.by, List.length_append, List.length_nil, h]
  omega
end Go.Proofs.Ytmapcghgdbfmhaa
