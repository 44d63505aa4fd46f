/-
  Votes: their cells. Conditions: none.
-/
import Derived.Test.YtmapcghgdbfmhaaSymD
import Derived.Test.YtmapcghgdbfmhaaSeg
import Derived.Test.YtmapcghgdbfmhaaKitB
namespace Go.Proofs.Ytmapcghgdbfmhaa
open Go Go.RowKit Go.Own Go.Shelf

abbrev i64b (x : Int) : Prop := -9223372036854775808 ≤ x ∧ x ≤ 9223372036854775807
structure Att where
  (v s t : Int) (r : List UInt8) (g : Nat)
  deriving DecidableEq
structure Pro where
  (v h : Int) (r : List UInt8) (g : Nat)
  deriving DecidableEq
def Att.c (a : Att) : Array Value := (.int .i64 a.v :: .int .i64 a.s :: .int .i64 a.t :: (B a.r ++ [.int .u64 ((a.g : Nat) : Int)])).toArray
def Pro.c (a : Pro) : Array Value := (.int .i64 a.v :: .int .i64 a.h :: (B a.r ++ [.int .u64 ((a.g : Nat) : Int)])).toArray
structure Att.Ok (a : Att) : Prop where
  v : i64b a.v
  s : i64b a.s
  t : i64b a.t
  r : a.r.length = 32
  g : a.g < 2 ^ 64
structure Pro.Ok (a : Pro) : Prop where
  v : i64b a.v
  h : i64b a.h
  r : a.r.length = 32
  g : a.g < 2 ^ 64
section
variable (a : Att) (p : Pro)
theorem Att.c_size (h : a.r.length = 32) : a.c.size = 36 := by simp [Att.c, B_length, h]
theorem Pro.c_size (h : p.r.length = 32) : p.c.size = 35 := by simp [Pro.c, B_length, h]
theorem Att.c_0 : a.c[0]? = some (.int .i64 a.v) := by simp [Att.c]
theorem Att.c_1 : a.c[1]? = some (.int .i64 a.s) := by simp [Att.c]
theorem Att.c_2 : a.c[2]? = some (.int .i64 a.t) := by simp [Att.c]
theorem Pro.c_0 : p.c[0]? = some (.int .i64 p.v) := by simp [Pro.c]
theorem Pro.c_1 : p.c[1]? = some (.int .i64 p.h) := by simp [Pro.c]
theorem Att.c_tag (h : a.r.length = 32) : a.c[35]? = some (.int .u64 ((a.g : Nat) : Int)) := by
  simp only [Att.c, List.getElem?_toArray, List.getElem?_cons_succ]
  rw [List.getElem?_append_right (by rw [B_length]; omega), B_length, h]; rfl
theorem Pro.c_tag (h : p.r.length = 32) : p.c[34]? = some (.int .u64 ((p.g : Nat) : Int)) := by
  simp only [Pro.c, List.getElem?_toArray, List.getElem?_cons_succ]
  rw [List.getElem?_append_right (by rw [B_length]; omega), B_length, h]; rfl
theorem Att.c_seg : ∀ (j : Nat) (x : Value), (B a.r)[j]? = some x → a.c[3 + j]? = some x := fun j x h => by
  simp only [Att.c, List.getElem?_toArray, show 3 + j = j + 1 + 1 + 1 by omega, List.getElem?_cons_succ]
  rw [List.getElem?_append_left (List.getElem?_eq_some_iff.1 h).1]; exact h
theorem Pro.c_seg : ∀ (j : Nat) (x : Value), (B p.r)[j]? = some x → p.c[2 + j]? = some x := fun j x h => by
  simp only [Pro.c, List.getElem?_toArray, show 2 + j = j + 1 + 1 by omega, List.getElem?_cons_succ]
  rw [List.getElem?_append_left (List.getElem?_eq_some_iff.1 h).1]; exact h
theorem Att.c_set0 (x : Int) : a.c.setIfInBounds 0 (.int .i64 x) = Att.c ⟨x, a.s, a.t, a.r, a.g⟩ := by simp [Att.c]
theorem Att.c_set1 (x : Int) : a.c.setIfInBounds 1 (.int .i64 x) = Att.c ⟨a.v, x, a.t, a.r, a.g⟩ := by simp [Att.c]
theorem Att.c_set2 (x : Int) : a.c.setIfInBounds 2 (.int .i64 x) = Att.c ⟨a.v, a.s, x, a.r, a.g⟩ := by simp [Att.c]
theorem Pro.c_set0 (x : Int) : p.c.setIfInBounds 0 (.int .i64 x) = Pro.c ⟨x, p.h, p.r, p.g⟩ := by simp [Pro.c]
theorem Pro.c_set1 (x : Int) : p.c.setIfInBounds 1 (.int .i64 x) = Pro.c ⟨p.v, x, p.r, p.g⟩ := by simp [Pro.c]
theorem Att.c_settag (x : Nat) (h : a.r.length = 32) : a.c.setIfInBounds 35 (.int .u64 ((x : Nat) : Int)) = Att.c ⟨a.v, a.s, a.t, a.r, x⟩ := by
  simp only [Att.c, List.setIfInBounds_toArray, List.set_cons_succ]
  rw [List.set_append, if_neg (by rw [B_length]; omega), B_length, h]; rfl
theorem Pro.c_settag (x : Nat) (h : p.r.length = 32) : p.c.setIfInBounds 34 (.int .u64 ((x : Nat) : Int)) = Pro.c ⟨p.v, p.h, p.r, x⟩ := by
  simp only [Pro.c, List.setIfInBounds_toArray, List.set_cons_succ]
  rw [List.set_append, if_neg (by rw [B_length]; omega), B_length, h]; rfl
theorem Att.c_one : a.c.all (·.oneCell') = true := by
  simp only [Att.c, List.all_toArray, List.all_cons, List.all_append]
  rw [List.all_eq_true.2 (B_one a.r)]; rfl
theorem Pro.c_one : p.c.all (·.oneCell') = true := by
  simp only [Pro.c, List.all_toArray, List.all_cons, List.all_append]
  rw [List.all_eq_true.2 (B_one p.r)]; rfl
theorem Att.c_seth (x : List UInt8) (h : a.r.length = 32) (hx : x.length = 32) : seg a.c 3 (B x) = Att.c ⟨a.v, a.s, a.t, x, a.g⟩ := by
  apply Array.toList_inj.1
  simp only [seg, Att.c, B_length, hx]
  simp only [List.take_succ_cons, List.take_zero, List.drop_succ_cons, Nat.reduceAdd]
  rw [show List.drop 32 (B a.r ++ [Value.int IntKind.u64 ((a.g : Nat) : Int)]) = [Value.int IntKind.u64 ((a.g : Nat) : Int)] by rw [List.drop_append_of_le_length (by rw [B_length]; omega), List.drop_of_length_le (by rw [B_length]; omega)]; rfl]
  simp
theorem Pro.c_seth (x : List UInt8) (h : p.r.length = 32) (hx : x.length = 32) : seg p.c 2 (B x) = Pro.c ⟨p.v, p.h, x, p.g⟩ := by
  apply Array.toList_inj.1
  simp only [seg, Pro.c, B_length, hx]
  simp only [List.take_succ_cons, List.take_zero, List.drop_succ_cons, Nat.reduceAdd]
  rw [show List.drop 32 (B p.r ++ [Value.int IntKind.u64 ((p.g : Nat) : Int)]) = [Value.int IntKind.u64 ((p.g : Nat) : Int)] by rw [List.drop_append_of_le_length (by rw [B_length]; omega), List.drop_of_length_le (by rw [B_length]; omega)]; rfl]
  simp
end
/-- May a vote be? -/
def Att.fine (a : Att) : Prop := 0 ≤ a.v ∧ a.v ≤ 31 ∧ 0 ≤ a.s ∧ a.s ≤ 4294967296 ∧ 0 ≤ a.t ∧ a.t ≤ 4294967296
def Pro.fine (p : Pro) : Prop := 0 ≤ p.v ∧ p.v ≤ 31 ∧ 1 ≤ p.h ∧ p.h ≤ 4294967296
instance (a : Att) : Decidable a.fine := by unfold Att.fine; infer_instance
instance (p : Pro) : Decidable p.fine := by unfold Pro.fine; infer_instance
def Att.err (a : Att) : Int := if a.fine then 0 else 3
def Pro.err (p : Pro) : Int := if p.fine then 0 else 3
theorem Att.err_ok {a : Att} (h : a.fine) : a.err = 0 := if_pos h
theorem Att.err_no {a : Att} (h : ¬ a.fine) : a.err = 3 := if_neg h
theorem Pro.err_ok {p : Pro} (h : p.fine) : p.err = 0 := if_pos h
theorem Pro.err_no {p : Pro} (h : ¬ p.fine) : p.err = 3 := if_neg h
/-- Bounds: a number, and from where to where it has to be. -/
def bC (bs : List (Int × Int × Int)) : List Value := bs.flatMap fun b => [.int .i64 b.1, .int .i64 b.2.1, .int .i64 b.2.2]
def bIn (b : Int × Int × Int) : Bool := decide (b.2.1 ≤ b.1 ∧ b.1 ≤ b.2.2)
def bErr (bs : List (Int × Int × Int)) : Int := if bs.all bIn then 0 else 3
theorem bC_get (bs : List (Int × Int × Int)) (i : Nat) (b : Int × Int × Int) (h : bs[i]? = some b) (j : Nat) (x : Value) (hx : [Value.int .i64 b.1, .int .i64 b.2.1, .int .i64 b.2.2][j]? = some x) : (bC bs)[i * 3 + j]? = some x := by
  induction bs generalizing i with
  | nil => simp at h
  | cons c r ih =>
    have hj : j < 3 := (List.getElem?_eq_some_iff.1 hx).1
    cases i with
    | zero =>
      simp only [List.getElem?_cons_zero, Option.some.injEq] at h; subst h
      rw [bC, List.flatMap_cons, Nat.zero_mul, Nat.zero_add, List.getElem?_append_left (by simpa using hj)]; exact hx
    | succ i =>
      have := ih i (by simpa using h)
      rw [bC, List.flatMap_cons, List.getElem?_append_right (by simp; omega)]
      rw [show (i + 1) * 3 + j - [Value.int .i64 c.1, .int .i64 c.2.1, .int .i64 c.2.2].length = i * 3 + j by simp; omega]
      exact this
theorem bErr_no {bs : List (Int × Int × Int)} {i : Nat} {b : Int × Int × Int} (h : bs[i]? = some b) (hb : bIn b = false) : bErr bs = 3 := by
  unfold bErr
  rw [if_neg]
  intro hall
  have := List.all_eq_true.1 hall b (List.mem_of_getElem? h)
  rw [hb] at this; cases this
theorem bErr_ok {bs : List (Int × Int × Int)} (h : ∀ (i : Nat) (b : Int × Int × Int), bs[i]? = some b → bIn b = true) : bErr bs = 0 := by
  unfold bErr
  rw [if_pos (List.all_eq_true.2 fun b hb => by obtain ⟨i, hi⟩ := List.getElem?_of_mem hb; exact h i b hi)]
theorem bErr_att (a : Att) : bErr [(a.v, 0, 31), (a.s, 0, 4294967296), (a.t, 0, 4294967296)] = a.err := by
  unfold bErr Att.err Att.fine
  simp only [List.all_cons, List.all_nil, bIn, Bool.and_true, Bool.and_eq_true, decide_eq_true_eq]
  congr 1; simp only [eq_iff_iff]; omega
theorem bErr_pro (p : Pro) : bErr [(p.v, 0, 31), (p.h, 1, 4294967296)] = p.err := by
  unfold bErr Pro.err Pro.fine
  simp only [List.all_cons, List.all_nil, bIn, Bool.and_true, Bool.and_eq_true, decide_eq_true_eq]
  congr 1; simp only [eq_iff_iff]; omega
end Go.Proofs.Ytmapcghgdbfmhaa
