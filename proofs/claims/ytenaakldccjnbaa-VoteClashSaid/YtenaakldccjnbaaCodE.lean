/-
  Codec: the number that stands at a place. Conditions: none.
-/
import Derived.Test.YtenaakldccjnbaaCodD
namespace Go.Proofs.Ytenaakldccjnbaa
open Go Go.RowKit Go.Own Go.Shelf

/-- What Get tells: a number, the place behind it, an error, its place. -/
def getAt (l : List UInt8) (at_ : Int) : Nat × Int × Int × Int :=
  if at_ < 0 ∨ (l.length : Int) < at_ then (0, 0, 3, 0)
  else if (Cod.num (l.drop at_.toNat)).2.2 = 0 then ((Cod.num (l.drop at_.toNat)).1, at_ + ((Cod.num (l.drop at_.toNat)).2.1 : Int), 0, 0) else (0, 0, (Cod.num (l.drop at_.toNat)).2.2, at_)
theorem getAt_out (l : List UInt8) (at_ : Int) (h : at_ < 0 ∨ (l.length : Int) < at_) : getAt l at_ = (0, 0, 3, 0) := by unfold getAt; rw [if_pos h]
theorem getAt_ok (l : List UInt8) (k : Nat) (h : k ≤ l.length) (he : (Cod.num (l.drop k)).2.2 = 0) : getAt l k = ((Cod.num (l.drop k)).1, (k : Int) + ((Cod.num (l.drop k)).2.1 : Int), 0, 0) := by
  unfold getAt; rw [if_neg (by omega), Int.toNat_natCast, if_pos he]
theorem getAt_bad (l : List UInt8) (k : Nat) (h : k ≤ l.length) (he : (Cod.num (l.drop k)).2.2 ≠ 0) : getAt l k = (0, 0, (Cod.num (l.drop k)).2.2, (k : Int)) := by
  unfold getAt; rw [if_neg (by omega), Int.toNat_natCast, if_neg he]
/-- Its four answers as Go's three. -/
def getV (r : Nat × Int × Int × Int) : Value := .tuple #[.int .u64 (r.1 : Int), .int .i64 r.2.1, .agg #[.int .i64 r.2.2.1, .int .i64 r.2.2.2]]

theorem bytes_size : ∀ w, (Go.sizeOf (Try.prog.elem 22)).run Try.prog w = .ok 1 w := fun w => by kernel_rfl

end Go.Proofs.Ytenaakldccjnbaa
