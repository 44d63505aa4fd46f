/-
  The operations of one region of a body, by a name. Conditions: none.
-/
import Derived.Test.YthoaoknggdohpaaPick2
namespace Go.Proofs.Ythoaoknggdohpaa
open Go Go.Own
noncomputable def opsFields : Array Oper := opsOf Try.f39 1
example : opsFields.size = 46 := by kernel_rfl
end Go.Proofs.Ythoaoknggdohpaa
