/-
  The operations of one region of a body, by a name. Conditions: none.
-/
import Derived.Test.YtpflmldmbpnllaaDoorRows
namespace Go.Own
open Go
/-- The operations of region 'id' in a body. -/
noncomputable def opsIn (id : Nat) : Code → Option (Array Oper)
  | .region k ops _ => if k = id then some ops else none
  | .seq a b => (opsIn id a).or (opsIn id b)
  | .cond _ a b => (opsIn id a).or (opsIn id b)
  | .block _ b => opsIn id b
  | .loop b => opsIn id b
  | .rangeFunc _ _ a b => (opsIn id a).or (opsIn id b)
  | _ => none
noncomputable def opsOf (f : Func) (id : Nat) : Array Oper := ((f.body.bind (opsIn id)).getD #[])
end Go.Own
