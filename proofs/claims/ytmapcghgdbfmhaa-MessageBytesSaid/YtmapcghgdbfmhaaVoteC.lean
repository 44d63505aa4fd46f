/-
  Votes: their bytes and digests (printed by vote2.py). Conditions: none.
-/
import Derived.Test.YtmapcghgdbfmhaaVoteB
import Derived.Test.YtmapcghgdbfmhaaCodSw
namespace Go.Proofs.Ytmapcghgdbfmhaa
open Go Go.RowKit Go.Own Go.Shelf
/-- What is written of a vote. -/
inductive Thg | n (x : Int) | h (r : List UInt8) | u (k : Nat)
def Thg.by : Thg → List UInt8
  | .n x => Cod.enc x.toNat
  | .h r => r
  | .u k => Cod.enc k
def Thg.Ok : Thg → Prop
  | .n x => 0 ≤ x ∧ x ≤ 9223372036854775807
  | .h r => r.length = 32
  | .u k => k < 2 ^ 64
def byt (ts : List Thg) (i : Nat) : List UInt8 := (ts.take i).flatMap Thg.by
def allb (ts : List Thg) : List UInt8 := ts.flatMap Thg.by
theorem byt_succ {ts : List Thg} {i : Nat} {t : Thg} (h : ts[i]? = some t) : byt ts (i + 1) = byt ts i ++ t.by := by unfold byt; rw [List.take_add_one, h]; simp
theorem byt_all (ts : List Thg) : byt ts ts.length = allb ts := by unfold byt allb; rw [List.take_length]
theorem byt_le (ts : List Thg) (i : Nat) : (byt ts i).length ≤ (allb ts).length := by
  unfold byt allb
  conv => rhs; rw [← List.take_append_drop i ts, List.flatMap_append, List.length_append]
  omega
theorem add_ok {out bs : List UInt8} (h : out.length + bs.length ≤ 4096) : (⟨4096, out, 0⟩ : WS).add bs = ⟨4096, out ++ bs, 0⟩ := by
  unfold WS.add
  rw [if_pos rfl, if_neg (by simp only; omega)]
theorem row_cast {w : World} {t : TypeId} {v : Value} {n : Nat} {x y z : List UInt8} (h : Row w t 1 v n (B x ++ B y)) (e : x ++ y = z) (hn : n = z.length) : Row w t 1 v z.length (B z) := by
  subst hn; rw [← B_append, e] at h; exact h
theorem hd_get {vs rest : List Value} {i : Nat} {V : Value} (h : vs[i]? = some V) : (vs ++ rest).toArray[i]? = some V := by
  rw [List.getElem?_toArray, List.getElem?_append_left (List.getElem?_eq_some_iff.1 h).1]; exact h

end Go.Proofs.Ytmapcghgdbfmhaa
