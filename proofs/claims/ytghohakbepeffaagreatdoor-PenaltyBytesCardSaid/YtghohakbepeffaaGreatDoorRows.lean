/-
  NARROWER THAN 'FOR EVERY INPUT', by the rows' own cells (each row's printed sentence says how): PenaltyBytes: laid · PenaltyKnown: laid · PenaltyGrows: laid · PenaltyCounts: laid · PenaltyBack: laid.
  DERIVED. THE GIVEN ROWS OF THIS SEAT. 5 by the template 'for every input the law returns true; each argument reads behind the call as it read before'; 0 by the template 'total and deterministic' (their statements: YtghohakbepeffaaGreatDoorTotals.lean).
  GIVEN WITH THE SEED: the statements are not yours to turn. If you find one false, say at which input.
  Laid BY PROGRAM, IN A SANDBOX (cutbox-rows.mjs): the forced cells as the released guide's own fill.sh prints them over the translation 72cc34d7b9f771c8… (all of the seat's roots in one cut). By AI agents, Wed Nov 11 2026. No macro, syntax, notation, axiom, sorry.
-/
import Derived.Test.YtghohakbepeffaaGreatDoorChecked
import GoSem.Claim
import GoSem.ClaimJoined
import GoSem.ClaimMapViews
import Derived.JoinedTies
import Derived.KernelRfl
namespace Go.Proofs.YtghohakbepeffaaGreatDoor
/- THE CELL 'sum', in the pinned program and in every row, IS THE sha256 OF THE DUMP (.gsa) THAT YtghohakbepeffaaGreatDoorProg.lean LOADS. Nothing in Lean hashes anything: it is a label: what it is worth is what the hold of that sum in a sandbox is worth. -/
noncomputable def Tryz.pinned : Pinned := { name := "ytghohakbepeffaagreatdoor", sum := "72cc34d7b9f771c8903fd41a29e8894aaa8b17d8bda5d1163510df059570a59e", checked := Tryz.checked }
namespace Rows
def none {H : Type} : Left H := { results := [], args := [] }

/- WHAT THE LISTED PACKAGE-LEVEL VARIABLES READ AS WHEN THE CALL BEGINS. Each datum BY PROGRAM (the guide's laid-datum.mjs) off the statement by which the dump's own 'gosem.cut.vars' lays the variable. In a bare row this is a premise. The card (YtghohakbepeffaaGreatDoorCards.lean) ties it to the program's text. -/
def laid_errors_errorType {H : Type} : DataW H := .iface "internal/reflectlite.rtype" (.agg [.ptr (.lit (.string [101, 114, 114, 111, 114]))])

/-- 'distraintlaw23.PenaltyBytes': WHATEVER THE INPUT: true; the input reads as it did. -/
def penaltyBytesSpec : ChangeSpec := { name := "penaltyBytes", fn := fun _ => fun
  | [d1, d2] => { results := [.lit (.bool true)], args := [d1, d2] }
  | _ => none }
def penaltyBytesRow : OpenClaim := { program := "ytghohakbepeffaagreatdoor", sum := "72cc34d7b9f771c8903fd41a29e8894aaa8b17d8bda5d1163510df059570a59e", func := "distraint/distraintlaw23.PenaltyBytes", spec := "penaltyBytes", inPlace := ["internal/reflectlite.ValueOf", "(internal/reflectlite.Value).Type", "(internal/reflectlite.Value).IsNil", "internal/reflectlite.TypeOf", "(internal/reflectlite.Value).Elem", "(internal/reflectlite.Value).Set", "math/bits.Sub64"], unfollowed := true, recurses := true, named := ["errors.errorType", "math/bits.divideError", "math/bits.overflowError"], apart := false, laid := [("errors.errorType", laid_errors_errorType)] }
def PenaltyBytesSaid : Prop := penaltyBytesRow.holds Tryz.pinned (OpenSpec.ofChange penaltyBytesSpec)

/-- ITS FALSE NEIGHBOUR: 'it returns false'. Refute it at one input. -/
def penaltyBytesWrong : ChangeSpec := { name := "penaltyBytes", fn := fun _ => fun
  | [d1, d2] => { results := [.lit (.bool false)], args := [d1, d2] }
  | _ => none }
def PenaltyBytesWrongFalsely : Prop := penaltyBytesRow.holds Tryz.pinned (OpenSpec.ofChange penaltyBytesWrong)

/-- 'distraintlaw23.PenaltyKnown': WHATEVER THE INPUT: true; the input reads as it did. -/
def penaltyKnownSpec : ChangeSpec := { name := "penaltyKnown", fn := fun _ => fun
  | [] => { results := [.lit (.bool true)], args := [] }
  | _ => none }
def penaltyKnownRow : OpenClaim := { program := "ytghohakbepeffaagreatdoor", sum := "72cc34d7b9f771c8903fd41a29e8894aaa8b17d8bda5d1163510df059570a59e", func := "distraint/distraintlaw23.PenaltyKnown", spec := "penaltyKnown", inPlace := ["internal/reflectlite.ValueOf", "(internal/reflectlite.Value).Type", "(internal/reflectlite.Value).IsNil", "internal/reflectlite.TypeOf", "(internal/reflectlite.Value).Elem", "(internal/reflectlite.Value).Set", "math/bits.Sub64"], unfollowed := true, recurses := true, named := ["errors.errorType", "math/bits.divideError", "math/bits.overflowError"], apart := false, laid := [("errors.errorType", laid_errors_errorType)] }
def PenaltyKnownSaid : Prop := penaltyKnownRow.holds Tryz.pinned (OpenSpec.ofChange penaltyKnownSpec)

/-- ITS FALSE NEIGHBOUR: 'it returns false'. Refute it at one input. -/
def penaltyKnownWrong : ChangeSpec := { name := "penaltyKnown", fn := fun _ => fun
  | [] => { results := [.lit (.bool false)], args := [] }
  | _ => none }
def PenaltyKnownWrongFalsely : Prop := penaltyKnownRow.holds Tryz.pinned (OpenSpec.ofChange penaltyKnownWrong)

/-- 'distraintlaw23.PenaltyGrows': WHATEVER THE INPUT: true; the input reads as it did. -/
def penaltyGrowsSpec : ChangeSpec := { name := "penaltyGrows", fn := fun _ => fun
  | [d1, d2, d3, d4, d5, d6, d7, d8, d9] => { results := [.lit (.bool true)], args := [d1, d2, d3, d4, d5, d6, d7, d8, d9] }
  | _ => none }
def penaltyGrowsRow : OpenClaim := { program := "ytghohakbepeffaagreatdoor", sum := "72cc34d7b9f771c8903fd41a29e8894aaa8b17d8bda5d1163510df059570a59e", func := "distraint/distraintlaw23.PenaltyGrows", spec := "penaltyGrows", inPlace := ["internal/reflectlite.ValueOf", "(internal/reflectlite.Value).Type", "(internal/reflectlite.Value).IsNil", "internal/reflectlite.TypeOf", "(internal/reflectlite.Value).Elem", "(internal/reflectlite.Value).Set", "math/bits.Sub64"], unfollowed := true, recurses := true, named := ["errors.errorType", "math/bits.divideError", "math/bits.overflowError"], apart := false, laid := [("errors.errorType", laid_errors_errorType)] }
def PenaltyGrowsSaid : Prop := penaltyGrowsRow.holds Tryz.pinned (OpenSpec.ofChange penaltyGrowsSpec)

/-- ITS FALSE NEIGHBOUR: 'it returns false'. Refute it at one input. -/
def penaltyGrowsWrong : ChangeSpec := { name := "penaltyGrows", fn := fun _ => fun
  | [d1, d2, d3, d4, d5, d6, d7, d8, d9] => { results := [.lit (.bool false)], args := [d1, d2, d3, d4, d5, d6, d7, d8, d9] }
  | _ => none }
def PenaltyGrowsWrongFalsely : Prop := penaltyGrowsRow.holds Tryz.pinned (OpenSpec.ofChange penaltyGrowsWrong)

/-- 'distraintlaw23.PenaltyCounts': WHATEVER THE INPUT: true; the input reads as it did. -/
def penaltyCountsSpec : ChangeSpec := { name := "penaltyCounts", fn := fun _ => fun
  | [d1, d2, d3] => { results := [.lit (.bool true)], args := [d1, d2, d3] }
  | _ => none }
def penaltyCountsRow : OpenClaim := { program := "ytghohakbepeffaagreatdoor", sum := "72cc34d7b9f771c8903fd41a29e8894aaa8b17d8bda5d1163510df059570a59e", func := "distraint/distraintlaw23.PenaltyCounts", spec := "penaltyCounts", inPlace := ["internal/reflectlite.ValueOf", "(internal/reflectlite.Value).Type", "(internal/reflectlite.Value).IsNil", "internal/reflectlite.TypeOf", "(internal/reflectlite.Value).Elem", "(internal/reflectlite.Value).Set", "math/bits.Sub64"], unfollowed := true, recurses := true, named := ["errors.errorType", "math/bits.divideError", "math/bits.overflowError"], apart := false, laid := [("errors.errorType", laid_errors_errorType)] }
def PenaltyCountsSaid : Prop := penaltyCountsRow.holds Tryz.pinned (OpenSpec.ofChange penaltyCountsSpec)

/-- ITS FALSE NEIGHBOUR: 'it returns false'. Refute it at one input. -/
def penaltyCountsWrong : ChangeSpec := { name := "penaltyCounts", fn := fun _ => fun
  | [d1, d2, d3] => { results := [.lit (.bool false)], args := [d1, d2, d3] }
  | _ => none }
def PenaltyCountsWrongFalsely : Prop := penaltyCountsRow.holds Tryz.pinned (OpenSpec.ofChange penaltyCountsWrong)

/-- 'distraintlaw23.PenaltyBack': WHATEVER THE INPUT: true; the input reads as it did. -/
def penaltyBackSpec : ChangeSpec := { name := "penaltyBack", fn := fun _ => fun
  | [d1, d2] => { results := [.lit (.bool true)], args := [d1, d2] }
  | _ => none }
def penaltyBackRow : OpenClaim := { program := "ytghohakbepeffaagreatdoor", sum := "72cc34d7b9f771c8903fd41a29e8894aaa8b17d8bda5d1163510df059570a59e", func := "distraint/distraintlaw23.PenaltyBack", spec := "penaltyBack", inPlace := ["internal/reflectlite.ValueOf", "(internal/reflectlite.Value).Type", "(internal/reflectlite.Value).IsNil", "internal/reflectlite.TypeOf", "(internal/reflectlite.Value).Elem", "(internal/reflectlite.Value).Set", "math/bits.Sub64"], unfollowed := true, recurses := true, named := ["errors.errorType", "math/bits.divideError", "math/bits.overflowError"], apart := false, laid := [("errors.errorType", laid_errors_errorType)] }
def PenaltyBackSaid : Prop := penaltyBackRow.holds Tryz.pinned (OpenSpec.ofChange penaltyBackSpec)

/-- ITS FALSE NEIGHBOUR: 'it returns false'. Refute it at one input. -/
def penaltyBackWrong : ChangeSpec := { name := "penaltyBack", fn := fun _ => fun
  | [d1, d2] => { results := [.lit (.bool false)], args := [d1, d2] }
  | _ => none }
def PenaltyBackWrongFalsely : Prop := penaltyBackRow.holds Tryz.pinned (OpenSpec.ofChange penaltyBackWrong)

/- THE SECOND FORM. 'bulk': how many values and letters a reading holds, each counted each time it is reached (what is shared counts as often as it is met; a slice's spare places count too). A statement '..UptoSaid' is the law's where the arguments, and the package variables that the reading takes, are together of bulk at most 1048576: NARROWER than '..Said'. Prove '..Said' where nothing that the law and all that it calls make is longer than what came in: it says more and counts as full. Else prove '..UptoSaid'. A law counts once. -/
mutual
def uptoBulk {H : Type} : DataW H → Nat
  | .lit (.string bytes) => bytes.length + 1
  | .lit _ => 1
  | .nil => 1
  | .ptr d => uptoBulk d + 1
  | .slice elems spare => uptoBulkAll elems + uptoBulkAll spare + 1
  | .agg parts => uptoBulkAll parts + 1
  | .iface _ d => uptoBulk d + 1
  | .map entries => uptoBulkEntries entries + 1
  | .held _ => 1
def uptoBulkAll {H : Type} : List (DataW H) → Nat
  | [] => 0
  | d :: r => uptoBulk d + uptoBulkAll r
def uptoBulkEntries {H : Type} : List (Lit × DataW H) → Nat
  | [] => 0
  | x :: r => uptoBulkEntry x + uptoBulkEntries r
def uptoBulkEntry {H : Type} : Lit × DataW H → Nat
  | (.string bytes, d) => bytes.length + uptoBulk d + 1
  | (_, d) => uptoBulk d + 1
 end
def uptoSmall : (H : Type) → List (DataW H) → Bool := fun _ ds => decide (uptoBulkAll ds ≤ 1048576)
def OpenSpec.upto (s : _root_.Go.ChangeSpec) : _root_.Go.OpenSpec := { _root_.Go.OpenSpec.ofChange s with cond := some uptoSmall }

/-- 'distraintlaw23.PenaltyBytes', WHERE WHAT IT READS IS OF BULK AT MOST 1048576: true; the input reads as it did. -/
def penaltyBytesUptoRow : OpenClaim := { program := "ytghohakbepeffaagreatdoor", sum := "72cc34d7b9f771c8903fd41a29e8894aaa8b17d8bda5d1163510df059570a59e", func := "distraint/distraintlaw23.PenaltyBytes", spec := "penaltyBytes", inPlace := ["internal/reflectlite.ValueOf", "(internal/reflectlite.Value).Type", "(internal/reflectlite.Value).IsNil", "internal/reflectlite.TypeOf", "(internal/reflectlite.Value).Elem", "(internal/reflectlite.Value).Set", "math/bits.Sub64"], unfollowed := true, recurses := true, named := ["errors.errorType", "math/bits.divideError", "math/bits.overflowError"], apart := false, laid := [("errors.errorType", laid_errors_errorType)], narrowed := true }
def PenaltyBytesUptoSaid : Prop := penaltyBytesUptoRow.holds Tryz.pinned (OpenSpec.upto penaltyBytesSpec)

/-- 'distraintlaw23.PenaltyKnown', WHERE WHAT IT READS IS OF BULK AT MOST 1048576: true; the input reads as it did. -/
def penaltyKnownUptoRow : OpenClaim := { program := "ytghohakbepeffaagreatdoor", sum := "72cc34d7b9f771c8903fd41a29e8894aaa8b17d8bda5d1163510df059570a59e", func := "distraint/distraintlaw23.PenaltyKnown", spec := "penaltyKnown", inPlace := ["internal/reflectlite.ValueOf", "(internal/reflectlite.Value).Type", "(internal/reflectlite.Value).IsNil", "internal/reflectlite.TypeOf", "(internal/reflectlite.Value).Elem", "(internal/reflectlite.Value).Set", "math/bits.Sub64"], unfollowed := true, recurses := true, named := ["errors.errorType", "math/bits.divideError", "math/bits.overflowError"], apart := false, laid := [("errors.errorType", laid_errors_errorType)], narrowed := true }
def PenaltyKnownUptoSaid : Prop := penaltyKnownUptoRow.holds Tryz.pinned (OpenSpec.upto penaltyKnownSpec)

/-- 'distraintlaw23.PenaltyGrows', WHERE WHAT IT READS IS OF BULK AT MOST 1048576: true; the input reads as it did. -/
def penaltyGrowsUptoRow : OpenClaim := { program := "ytghohakbepeffaagreatdoor", sum := "72cc34d7b9f771c8903fd41a29e8894aaa8b17d8bda5d1163510df059570a59e", func := "distraint/distraintlaw23.PenaltyGrows", spec := "penaltyGrows", inPlace := ["internal/reflectlite.ValueOf", "(internal/reflectlite.Value).Type", "(internal/reflectlite.Value).IsNil", "internal/reflectlite.TypeOf", "(internal/reflectlite.Value).Elem", "(internal/reflectlite.Value).Set", "math/bits.Sub64"], unfollowed := true, recurses := true, named := ["errors.errorType", "math/bits.divideError", "math/bits.overflowError"], apart := false, laid := [("errors.errorType", laid_errors_errorType)], narrowed := true }
def PenaltyGrowsUptoSaid : Prop := penaltyGrowsUptoRow.holds Tryz.pinned (OpenSpec.upto penaltyGrowsSpec)

/-- 'distraintlaw23.PenaltyCounts', WHERE WHAT IT READS IS OF BULK AT MOST 1048576: true; the input reads as it did. -/
def penaltyCountsUptoRow : OpenClaim := { program := "ytghohakbepeffaagreatdoor", sum := "72cc34d7b9f771c8903fd41a29e8894aaa8b17d8bda5d1163510df059570a59e", func := "distraint/distraintlaw23.PenaltyCounts", spec := "penaltyCounts", inPlace := ["internal/reflectlite.ValueOf", "(internal/reflectlite.Value).Type", "(internal/reflectlite.Value).IsNil", "internal/reflectlite.TypeOf", "(internal/reflectlite.Value).Elem", "(internal/reflectlite.Value).Set", "math/bits.Sub64"], unfollowed := true, recurses := true, named := ["errors.errorType", "math/bits.divideError", "math/bits.overflowError"], apart := false, laid := [("errors.errorType", laid_errors_errorType)], narrowed := true }
def PenaltyCountsUptoSaid : Prop := penaltyCountsUptoRow.holds Tryz.pinned (OpenSpec.upto penaltyCountsSpec)

/-- 'distraintlaw23.PenaltyBack', WHERE WHAT IT READS IS OF BULK AT MOST 1048576: true; the input reads as it did. -/
def penaltyBackUptoRow : OpenClaim := { program := "ytghohakbepeffaagreatdoor", sum := "72cc34d7b9f771c8903fd41a29e8894aaa8b17d8bda5d1163510df059570a59e", func := "distraint/distraintlaw23.PenaltyBack", spec := "penaltyBack", inPlace := ["internal/reflectlite.ValueOf", "(internal/reflectlite.Value).Type", "(internal/reflectlite.Value).IsNil", "internal/reflectlite.TypeOf", "(internal/reflectlite.Value).Elem", "(internal/reflectlite.Value).Set", "math/bits.Sub64"], unfollowed := true, recurses := true, named := ["errors.errorType", "math/bits.divideError", "math/bits.overflowError"], apart := false, laid := [("errors.errorType", laid_errors_errorType)], narrowed := true }
def PenaltyBackUptoSaid : Prop := penaltyBackUptoRow.holds Tryz.pinned (OpenSpec.upto penaltyBackSpec)

end Rows
end Go.Proofs.YtghohakbepeffaaGreatDoor
