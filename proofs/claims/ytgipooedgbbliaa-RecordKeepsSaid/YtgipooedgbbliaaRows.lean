/-
  No cell of these rows narrows 'for every input' (looked for: loops, veiled, ifaces, maps, wideKeys, modest, calm, conditions, laid).
  DERIVED. THE GIVEN ROWS OF THIS SEAT. 4 by the template 'for every input the law returns true; each argument reads behind the call as it read before'; 0 by the template 'total and deterministic' (their statements: YtgipooedgbbliaaTotals.lean).
  GIVEN WITH THE SEED: the statements are not yours to turn. If you find one false, say at which input.
  Laid BY PROGRAM, IN A SANDBOX (cutbox-rows.mjs): the forced cells as the released guide's own fill.sh prints them over the translation 4efd1bfe115d7c7c… (all of the seat's roots in one cut). By AI agents, Wed Nov 11 2026. No macro, syntax, notation, axiom, sorry.
-/
import Derived.Test.YtgipooedgbbliaaChecked
import GoSem.Claim
import GoSem.ClaimJoined
import GoSem.ClaimMapViews
import Derived.JoinedTies
import Derived.KernelRfl
namespace Go.Proofs.Ytgipooedgbbliaa
/- THE CELL 'sum', in the pinned program and in every row, IS THE sha256 OF THE DUMP (.gsa) THAT YtgipooedgbbliaaProg.lean LOADS. Nothing in Lean hashes anything: it is a label: what it is worth is what the hold of that sum in a sandbox is worth. -/
noncomputable def Try.pinned : Pinned := { name := "ytgipooedgbbliaa", sum := "4efd1bfe115d7c7cdc8fdb3ad662e9d03a322caf484bd6825ce45763ab2d567d", checked := Try.checked }
namespace Rows
def none {H : Type} : Left H := { results := [], args := [] }

/-- 'distraintlaw20.RecordKnown': WHATEVER THE INPUT: true; the input reads as it did. -/
def recordKnownSpec : ChangeSpec := { name := "recordKnown", fn := fun _ => fun
  | [] => { results := [.lit (.bool true)], args := [] }
  | _ => none }
def recordKnownRow : OpenClaim := { program := "ytgipooedgbbliaa", sum := "4efd1bfe115d7c7cdc8fdb3ad662e9d03a322caf484bd6825ce45763ab2d567d", func := "distraint/distraintlaw20.RecordKnown", spec := "recordKnown", unfollowed := true, recurses := true, apart := false }
def RecordKnownSaid : Prop := recordKnownRow.holds Try.pinned (OpenSpec.ofChange recordKnownSpec)

/-- ITS FALSE NEIGHBOUR: 'it returns false'. Refute it at one input. -/
def recordKnownWrong : ChangeSpec := { name := "recordKnown", fn := fun _ => fun
  | [] => { results := [.lit (.bool false)], args := [] }
  | _ => none }
def RecordKnownWrongFalsely : Prop := recordKnownRow.holds Try.pinned (OpenSpec.ofChange recordKnownWrong)

/-- 'distraintlaw20.RecordActs': WHATEVER THE INPUT: true; the input reads as it did. -/
def recordActsSpec : ChangeSpec := { name := "recordActs", fn := fun _ => fun
  | [d1, d2, d3, d4] => { results := [.lit (.bool true)], args := [d1, d2, d3, d4] }
  | _ => none }
def recordActsRow : OpenClaim := { program := "ytgipooedgbbliaa", sum := "4efd1bfe115d7c7cdc8fdb3ad662e9d03a322caf484bd6825ce45763ab2d567d", func := "distraint/distraintlaw20.RecordActs", spec := "recordActs", unfollowed := true, recurses := true, apart := false }
def RecordActsSaid : Prop := recordActsRow.holds Try.pinned (OpenSpec.ofChange recordActsSpec)

/-- ITS FALSE NEIGHBOUR: 'it returns false'. Refute it at one input. -/
def recordActsWrong : ChangeSpec := { name := "recordActs", fn := fun _ => fun
  | [d1, d2, d3, d4] => { results := [.lit (.bool false)], args := [d1, d2, d3, d4] }
  | _ => none }
def RecordActsWrongFalsely : Prop := recordActsRow.holds Try.pinned (OpenSpec.ofChange recordActsWrong)

/-- 'distraintlaw20.RecordNone': WHATEVER THE INPUT: true; the input reads as it did. -/
def recordNoneSpec : ChangeSpec := { name := "recordNone", fn := fun _ => fun
  | [d] => { results := [.lit (.bool true)], args := [d] }
  | _ => none }
def recordNoneRow : OpenClaim := { program := "ytgipooedgbbliaa", sum := "4efd1bfe115d7c7cdc8fdb3ad662e9d03a322caf484bd6825ce45763ab2d567d", func := "distraint/distraintlaw20.RecordNone", spec := "recordNone", unfollowed := true, recurses := true, apart := false }
def RecordNoneSaid : Prop := recordNoneRow.holds Try.pinned (OpenSpec.ofChange recordNoneSpec)

/-- ITS FALSE NEIGHBOUR: 'it returns false'. Refute it at one input. -/
def recordNoneWrong : ChangeSpec := { name := "recordNone", fn := fun _ => fun
  | [d] => { results := [.lit (.bool false)], args := [d] }
  | _ => none }
def RecordNoneWrongFalsely : Prop := recordNoneRow.holds Try.pinned (OpenSpec.ofChange recordNoneWrong)

/-- 'distraintlaw20.RecordKeeps': WHATEVER THE INPUT: true; the input reads as it did. -/
def recordKeepsSpec : ChangeSpec := { name := "recordKeeps", fn := fun _ => fun
  | [d1, d2, d3] => { results := [.lit (.bool true)], args := [d1, d2, d3] }
  | _ => none }
def recordKeepsRow : OpenClaim := { program := "ytgipooedgbbliaa", sum := "4efd1bfe115d7c7cdc8fdb3ad662e9d03a322caf484bd6825ce45763ab2d567d", func := "distraint/distraintlaw20.RecordKeeps", spec := "recordKeeps", unfollowed := true, recurses := true, apart := false }
def RecordKeepsSaid : Prop := recordKeepsRow.holds Try.pinned (OpenSpec.ofChange recordKeepsSpec)

/-- ITS FALSE NEIGHBOUR: 'it returns false'. Refute it at one input. -/
def recordKeepsWrong : ChangeSpec := { name := "recordKeeps", fn := fun _ => fun
  | [d1, d2, d3] => { results := [.lit (.bool false)], args := [d1, d2, d3] }
  | _ => none }
def RecordKeepsWrongFalsely : Prop := recordKeepsRow.holds Try.pinned (OpenSpec.ofChange recordKeepsWrong)

/- THE SECOND FORM. 'bulk': how many values and letters a reading holds, each counted each time it is reached (what is shared counts as often as it is met; a slice's spare places count too). A statement '..UptoSaid' is the law's where the arguments, and the package variables that the reading takes, are together of bulk at most 1048576: NARROWER than '..Said'. Prove '..Said' where nothing that the law and all that it calls make is longer than what came in: it says more and counts as full. Else prove '..UptoSaid'. A law counts once. -/
mutual
def uptoBulk {H : Type} : DataW H → Nat
  | .lit (.string bytes) => bytes.length + 1
  | .lit _ => 1
  | .nil => 1
  | .ptr d => uptoBulk d + 1
  | .slice elems spare => uptoBulkAll elems + uptoBulkAll spare + 1
  | .agg parts => uptoBulkAll parts + 1
  | .iface _ d => uptoBulk d + 1
  | .map entries => uptoBulkEntries entries + 1
  | .held _ => 1
def uptoBulkAll {H : Type} : List (DataW H) → Nat
  | [] => 0
  | d :: r => uptoBulk d + uptoBulkAll r
def uptoBulkEntries {H : Type} : List (Lit × DataW H) → Nat
  | [] => 0
  | x :: r => uptoBulkEntry x + uptoBulkEntries r
def uptoBulkEntry {H : Type} : Lit × DataW H → Nat
  | (.string bytes, d) => bytes.length + uptoBulk d + 1
  | (_, d) => uptoBulk d + 1
 end
def uptoSmall : (H : Type) → List (DataW H) → Bool := fun _ ds => decide (uptoBulkAll ds ≤ 1048576)
def OpenSpec.upto (s : _root_.Go.ChangeSpec) : _root_.Go.OpenSpec := { _root_.Go.OpenSpec.ofChange s with cond := some uptoSmall }

/-- 'distraintlaw20.RecordKnown', WHERE WHAT IT READS IS OF BULK AT MOST 1048576: true; the input reads as it did. -/
def recordKnownUptoRow : OpenClaim := { program := "ytgipooedgbbliaa", sum := "4efd1bfe115d7c7cdc8fdb3ad662e9d03a322caf484bd6825ce45763ab2d567d", func := "distraint/distraintlaw20.RecordKnown", spec := "recordKnown", unfollowed := true, recurses := true, apart := false, narrowed := true }
def RecordKnownUptoSaid : Prop := recordKnownUptoRow.holds Try.pinned (OpenSpec.upto recordKnownSpec)

/-- 'distraintlaw20.RecordActs', WHERE WHAT IT READS IS OF BULK AT MOST 1048576: true; the input reads as it did. -/
def recordActsUptoRow : OpenClaim := { program := "ytgipooedgbbliaa", sum := "4efd1bfe115d7c7cdc8fdb3ad662e9d03a322caf484bd6825ce45763ab2d567d", func := "distraint/distraintlaw20.RecordActs", spec := "recordActs", unfollowed := true, recurses := true, apart := false, narrowed := true }
def RecordActsUptoSaid : Prop := recordActsUptoRow.holds Try.pinned (OpenSpec.upto recordActsSpec)

/-- 'distraintlaw20.RecordNone', WHERE WHAT IT READS IS OF BULK AT MOST 1048576: true; the input reads as it did. -/
def recordNoneUptoRow : OpenClaim := { program := "ytgipooedgbbliaa", sum := "4efd1bfe115d7c7cdc8fdb3ad662e9d03a322caf484bd6825ce45763ab2d567d", func := "distraint/distraintlaw20.RecordNone", spec := "recordNone", unfollowed := true, recurses := true, apart := false, narrowed := true }
def RecordNoneUptoSaid : Prop := recordNoneUptoRow.holds Try.pinned (OpenSpec.upto recordNoneSpec)

/-- 'distraintlaw20.RecordKeeps', WHERE WHAT IT READS IS OF BULK AT MOST 1048576: true; the input reads as it did. -/
def recordKeepsUptoRow : OpenClaim := { program := "ytgipooedgbbliaa", sum := "4efd1bfe115d7c7cdc8fdb3ad662e9d03a322caf484bd6825ce45763ab2d567d", func := "distraint/distraintlaw20.RecordKeeps", spec := "recordKeeps", unfollowed := true, recurses := true, apart := false, narrowed := true }
def RecordKeepsUptoSaid : Prop := recordKeepsUptoRow.holds Try.pinned (OpenSpec.upto recordKeepsSpec)

end Rows
end Go.Proofs.Ytgipooedgbbliaa
