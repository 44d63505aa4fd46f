/-
  The operations of one region of a body, by a name. Conditions: none.
-/
import Derived.Test.YtpflmldmbpnllaaDoorPick2
namespace Go.Proofs.YtpflmldmbpnllaaDoor
open Go Go.Own
noncomputable def opsFields : Array Oper := opsOf Tryd.f37 1
example : opsFields.size = 46 := by kernel_rfl
end Go.Proofs.YtpflmldmbpnllaaDoor
