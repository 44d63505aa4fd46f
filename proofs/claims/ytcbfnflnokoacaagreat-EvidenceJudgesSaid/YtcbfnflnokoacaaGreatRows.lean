/-
  No cell of these rows narrows 'for every input' (looked for: loops, veiled, ifaces, maps, wideKeys, modest, calm, conditions, laid).
  DERIVED. THE GIVEN ROWS OF THIS SEAT. 5 by the template 'for every input the law returns true; each argument reads behind the call as it read before'; 0 by the template 'total and deterministic' (their statements: YtcbfnflnokoacaaGreatTotals.lean).
  GIVEN WITH THE SEED: the statements are not yours to turn. If you find one false, say at which input.
  Laid BY PROGRAM, IN A SANDBOX (cutbox-rows.mjs): the forced cells as the released guide's own fill.sh prints them over the translation 99392b73297af76f… (all of the seat's roots in one cut). By AI agents, Wed Nov 11 2026. No macro, syntax, notation, axiom, sorry.
-/
import Derived.Test.YtcbfnflnokoacaaGreatChecked
import GoSem.Claim
import GoSem.ClaimJoined
import GoSem.ClaimMapViews
import Derived.JoinedTies
import Derived.KernelRfl
namespace Go.Proofs.YtcbfnflnokoacaaGreat
/- THE CELL 'sum', in the pinned program and in every row, IS THE sha256 OF THE DUMP (.gsa) THAT YtcbfnflnokoacaaGreatProg.lean LOADS. Nothing in Lean hashes anything: it is a label: what it is worth is what the hold of that sum in a sandbox is worth. -/
noncomputable def Tryz.pinned : Pinned := { name := "ytcbfnflnokoacaagreat", sum := "99392b73297af76f59619ef21843dbcb3266036b35a7c0846fa7bec75afd08aa", checked := Tryz.checked }
namespace Rows
def none {H : Type} : Left H := { results := [], args := [] }

/-- 'distraintlaw22.EvidenceProves': WHATEVER THE INPUT: true; the input reads as it did. -/
def evidenceProvesSpec : ChangeSpec := { name := "evidenceProves", fn := fun _ => fun
  | [d1, d2, d3, d4] => { results := [.lit (.bool true)], args := [d1, d2, d3, d4] }
  | _ => none }
def evidenceProvesRow : OpenClaim := { program := "ytcbfnflnokoacaagreat", sum := "99392b73297af76f59619ef21843dbcb3266036b35a7c0846fa7bec75afd08aa", func := "distraint/distraintlaw22.EvidenceProves", spec := "evidenceProves", unfollowed := true, recurses := true, apart := false }
def EvidenceProvesSaid : Prop := evidenceProvesRow.holds Tryz.pinned (OpenSpec.ofChange evidenceProvesSpec)

/-- ITS FALSE NEIGHBOUR: 'it returns false'. Refute it at one input. -/
def evidenceProvesWrong : ChangeSpec := { name := "evidenceProves", fn := fun _ => fun
  | [d1, d2, d3, d4] => { results := [.lit (.bool false)], args := [d1, d2, d3, d4] }
  | _ => none }
def EvidenceProvesWrongFalsely : Prop := evidenceProvesRow.holds Tryz.pinned (OpenSpec.ofChange evidenceProvesWrong)

/-- 'distraintlaw22.EvidenceJudges': WHATEVER THE INPUT: true; the input reads as it did. -/
def evidenceJudgesSpec : ChangeSpec := { name := "evidenceJudges", fn := fun _ => fun
  | [d1, d2, d3, d4] => { results := [.lit (.bool true)], args := [d1, d2, d3, d4] }
  | _ => none }
def evidenceJudgesRow : OpenClaim := { program := "ytcbfnflnokoacaagreat", sum := "99392b73297af76f59619ef21843dbcb3266036b35a7c0846fa7bec75afd08aa", func := "distraint/distraintlaw22.EvidenceJudges", spec := "evidenceJudges", unfollowed := true, recurses := true, apart := false }
def EvidenceJudgesSaid : Prop := evidenceJudgesRow.holds Tryz.pinned (OpenSpec.ofChange evidenceJudgesSpec)

/-- ITS FALSE NEIGHBOUR: 'it returns false'. Refute it at one input. -/
def evidenceJudgesWrong : ChangeSpec := { name := "evidenceJudges", fn := fun _ => fun
  | [d1, d2, d3, d4] => { results := [.lit (.bool false)], args := [d1, d2, d3, d4] }
  | _ => none }
def EvidenceJudgesWrongFalsely : Prop := evidenceJudgesRow.holds Tryz.pinned (OpenSpec.ofChange evidenceJudgesWrong)

/-- 'distraintlaw22.EvidenceKnown': WHATEVER THE INPUT: true; the input reads as it did. -/
def evidenceKnownSpec : ChangeSpec := { name := "evidenceKnown", fn := fun _ => fun
  | [] => { results := [.lit (.bool true)], args := [] }
  | _ => none }
def evidenceKnownRow : OpenClaim := { program := "ytcbfnflnokoacaagreat", sum := "99392b73297af76f59619ef21843dbcb3266036b35a7c0846fa7bec75afd08aa", func := "distraint/distraintlaw22.EvidenceKnown", spec := "evidenceKnown", unfollowed := true, recurses := true, apart := false }
def EvidenceKnownSaid : Prop := evidenceKnownRow.holds Tryz.pinned (OpenSpec.ofChange evidenceKnownSpec)

/-- ITS FALSE NEIGHBOUR: 'it returns false'. Refute it at one input. -/
def evidenceKnownWrong : ChangeSpec := { name := "evidenceKnown", fn := fun _ => fun
  | [] => { results := [.lit (.bool false)], args := [] }
  | _ => none }
def EvidenceKnownWrongFalsely : Prop := evidenceKnownRow.holds Tryz.pinned (OpenSpec.ofChange evidenceKnownWrong)

/-- 'distraintlaw22.EvidenceWhole': WHATEVER THE INPUT: true; the input reads as it did. -/
def evidenceWholeSpec : ChangeSpec := { name := "evidenceWhole", fn := fun _ => fun
  | [d1, d2, d3, d4, d5, d6] => { results := [.lit (.bool true)], args := [d1, d2, d3, d4, d5, d6] }
  | _ => none }
def evidenceWholeRow : OpenClaim := { program := "ytcbfnflnokoacaagreat", sum := "99392b73297af76f59619ef21843dbcb3266036b35a7c0846fa7bec75afd08aa", func := "distraint/distraintlaw22.EvidenceWhole", spec := "evidenceWhole", unfollowed := true, recurses := true, apart := false }
def EvidenceWholeSaid : Prop := evidenceWholeRow.holds Tryz.pinned (OpenSpec.ofChange evidenceWholeSpec)

/-- ITS FALSE NEIGHBOUR: 'it returns false'. Refute it at one input. -/
def evidenceWholeWrong : ChangeSpec := { name := "evidenceWhole", fn := fun _ => fun
  | [d1, d2, d3, d4, d5, d6] => { results := [.lit (.bool false)], args := [d1, d2, d3, d4, d5, d6] }
  | _ => none }
def EvidenceWholeWrongFalsely : Prop := evidenceWholeRow.holds Tryz.pinned (OpenSpec.ofChange evidenceWholeWrong)

/-- 'distraintlaw22.EvidenceSound': WHATEVER THE INPUT: true; the input reads as it did. -/
def evidenceSoundSpec : ChangeSpec := { name := "evidenceSound", fn := fun _ => fun
  | [d1, d2, d3, d4] => { results := [.lit (.bool true)], args := [d1, d2, d3, d4] }
  | _ => none }
def evidenceSoundRow : OpenClaim := { program := "ytcbfnflnokoacaagreat", sum := "99392b73297af76f59619ef21843dbcb3266036b35a7c0846fa7bec75afd08aa", func := "distraint/distraintlaw22.EvidenceSound", spec := "evidenceSound", unfollowed := true, recurses := true, apart := false }
def EvidenceSoundSaid : Prop := evidenceSoundRow.holds Tryz.pinned (OpenSpec.ofChange evidenceSoundSpec)

/-- ITS FALSE NEIGHBOUR: 'it returns false'. Refute it at one input. -/
def evidenceSoundWrong : ChangeSpec := { name := "evidenceSound", fn := fun _ => fun
  | [d1, d2, d3, d4] => { results := [.lit (.bool false)], args := [d1, d2, d3, d4] }
  | _ => none }
def EvidenceSoundWrongFalsely : Prop := evidenceSoundRow.holds Tryz.pinned (OpenSpec.ofChange evidenceSoundWrong)

/- THE SECOND FORM. 'bulk': how many values and letters a reading holds, each counted each time it is reached (what is shared counts as often as it is met; a slice's spare places count too). A statement '..UptoSaid' is the law's where the arguments, and the package variables that the reading takes, are together of bulk at most 1048576: NARROWER than '..Said'. Prove '..Said' where nothing that the law and all that it calls make is longer than what came in: it says more and counts as full. Else prove '..UptoSaid'. A law counts once. -/
mutual
def uptoBulk {H : Type} : DataW H → Nat
  | .lit (.string bytes) => bytes.length + 1
  | .lit _ => 1
  | .nil => 1
  | .ptr d => uptoBulk d + 1
  | .slice elems spare => uptoBulkAll elems + uptoBulkAll spare + 1
  | .agg parts => uptoBulkAll parts + 1
  | .iface _ d => uptoBulk d + 1
  | .map entries => uptoBulkEntries entries + 1
  | .held _ => 1
def uptoBulkAll {H : Type} : List (DataW H) → Nat
  | [] => 0
  | d :: r => uptoBulk d + uptoBulkAll r
def uptoBulkEntries {H : Type} : List (Lit × DataW H) → Nat
  | [] => 0
  | x :: r => uptoBulkEntry x + uptoBulkEntries r
def uptoBulkEntry {H : Type} : Lit × DataW H → Nat
  | (.string bytes, d) => bytes.length + uptoBulk d + 1
  | (_, d) => uptoBulk d + 1
 end
def uptoSmall : (H : Type) → List (DataW H) → Bool := fun _ ds => decide (uptoBulkAll ds ≤ 1048576)
def OpenSpec.upto (s : _root_.Go.ChangeSpec) : _root_.Go.OpenSpec := { _root_.Go.OpenSpec.ofChange s with cond := some uptoSmall }

/-- 'distraintlaw22.EvidenceProves', WHERE WHAT IT READS IS OF BULK AT MOST 1048576: true; the input reads as it did. -/
def evidenceProvesUptoRow : OpenClaim := { program := "ytcbfnflnokoacaagreat", sum := "99392b73297af76f59619ef21843dbcb3266036b35a7c0846fa7bec75afd08aa", func := "distraint/distraintlaw22.EvidenceProves", spec := "evidenceProves", unfollowed := true, recurses := true, apart := false, narrowed := true }
def EvidenceProvesUptoSaid : Prop := evidenceProvesUptoRow.holds Tryz.pinned (OpenSpec.upto evidenceProvesSpec)

/-- 'distraintlaw22.EvidenceJudges', WHERE WHAT IT READS IS OF BULK AT MOST 1048576: true; the input reads as it did. -/
def evidenceJudgesUptoRow : OpenClaim := { program := "ytcbfnflnokoacaagreat", sum := "99392b73297af76f59619ef21843dbcb3266036b35a7c0846fa7bec75afd08aa", func := "distraint/distraintlaw22.EvidenceJudges", spec := "evidenceJudges", unfollowed := true, recurses := true, apart := false, narrowed := true }
def EvidenceJudgesUptoSaid : Prop := evidenceJudgesUptoRow.holds Tryz.pinned (OpenSpec.upto evidenceJudgesSpec)

/-- 'distraintlaw22.EvidenceKnown', WHERE WHAT IT READS IS OF BULK AT MOST 1048576: true; the input reads as it did. -/
def evidenceKnownUptoRow : OpenClaim := { program := "ytcbfnflnokoacaagreat", sum := "99392b73297af76f59619ef21843dbcb3266036b35a7c0846fa7bec75afd08aa", func := "distraint/distraintlaw22.EvidenceKnown", spec := "evidenceKnown", unfollowed := true, recurses := true, apart := false, narrowed := true }
def EvidenceKnownUptoSaid : Prop := evidenceKnownUptoRow.holds Tryz.pinned (OpenSpec.upto evidenceKnownSpec)

/-- 'distraintlaw22.EvidenceWhole', WHERE WHAT IT READS IS OF BULK AT MOST 1048576: true; the input reads as it did. -/
def evidenceWholeUptoRow : OpenClaim := { program := "ytcbfnflnokoacaagreat", sum := "99392b73297af76f59619ef21843dbcb3266036b35a7c0846fa7bec75afd08aa", func := "distraint/distraintlaw22.EvidenceWhole", spec := "evidenceWhole", unfollowed := true, recurses := true, apart := false, narrowed := true }
def EvidenceWholeUptoSaid : Prop := evidenceWholeUptoRow.holds Tryz.pinned (OpenSpec.upto evidenceWholeSpec)

/-- 'distraintlaw22.EvidenceSound', WHERE WHAT IT READS IS OF BULK AT MOST 1048576: true; the input reads as it did. -/
def evidenceSoundUptoRow : OpenClaim := { program := "ytcbfnflnokoacaagreat", sum := "99392b73297af76f59619ef21843dbcb3266036b35a7c0846fa7bec75afd08aa", func := "distraint/distraintlaw22.EvidenceSound", spec := "evidenceSound", unfollowed := true, recurses := true, apart := false, narrowed := true }
def EvidenceSoundUptoSaid : Prop := evidenceSoundUptoRow.holds Tryz.pinned (OpenSpec.upto evidenceSoundSpec)

end Rows
end Go.Proofs.YtcbfnflnokoacaaGreat
