/-
  Records: acts, their cells. Conditions: none.
-/
import Derived.Test.YtgipooedgbbliaaRecF
namespace Go.Proofs.Ytgipooedgbbliaa
open Go Go.RowKit Go.Own Go.Shelf
/-- What an act is: a kind, numbers, votes. -/
structure RAct where
  (k l f at_ of_ : Int) (a : Att) (p : Pro)
structure RAct.Ok (x : RAct) : Prop where
  k : i64b x.k
  l : i64b x.l
  f : i64b x.f
  at_ : i64b x.at_
  of_ : i64b x.of_
  a : x.a.Ok
  p : x.p.Ok
def RAct.cl (x : RAct) : List Value := .int .i64 x.k :: .int .i64 x.l :: .int .i64 x.f :: .int .i64 x.at_ :: .int .i64 x.of_ :: (x.a.cl ++ x.p.cl)
def RAct.c (x : RAct) : Array Value := x.cl.toArray
section
variable (x : RAct)
theorem RAct.cl_len {x : RAct} (h : x.Ok) : x.cl.length = 76 := by simp [RAct.cl, Att.cl_len h.a, Pro.cl_len h.p]
theorem RAct.c_size {x : RAct} (h : x.Ok) : x.c.size = 76 := by simp [RAct.c, RAct.cl_len h]
theorem RAct.c_0 : x.c[0]? = some (.int .i64 x.k) := by simp [RAct.c, RAct.cl]
theorem RAct.c_1 : x.c[1]? = some (.int .i64 x.l) := by simp [RAct.c, RAct.cl]
theorem RAct.c_2 : x.c[2]? = some (.int .i64 x.f) := by simp [RAct.c, RAct.cl]
theorem RAct.c_3 : x.c[3]? = some (.int .i64 x.at_) := by simp [RAct.c, RAct.cl]
theorem RAct.c_4 : x.c[4]? = some (.int .i64 x.of_) := by simp [RAct.c, RAct.cl]
theorem RAct.c_a : ∀ (j : Nat) (u : Value), x.a.cl[j]? = some u → x.c[5 + j]? = some u := fun j u h => by
  simp only [RAct.c, RAct.cl, List.getElem?_toArray, show 5 + j = j + 1 + 1 + 1 + 1 + 1 by omega, List.getElem?_cons_succ]
  rw [List.getElem?_append_left (List.getElem?_eq_some_iff.1 h).1]; exact h
theorem RAct.c_p (hx : x.Ok) : ∀ (j : Nat) (u : Value), x.p.cl[j]? = some u → x.c[41 + j]? = some u := fun j u h => by
  have hl := Att.cl_len hx.a
  simp only [RAct.c, RAct.cl, List.getElem?_toArray, show 41 + j = (36 + j) + 1 + 1 + 1 + 1 + 1 by omega, List.getElem?_cons_succ]
  rw [List.getElem?_append_right (by omega), hl, Nat.add_sub_cancel_left]; exact h
end
end Go.Proofs.Ytgipooedgbbliaa
