/-
  No cell of these rows narrows 'for every input' (looked for: loops, veiled, ifaces, maps, wideKeys, modest, calm, conditions, laid).
  DERIVED. THE GIVEN ROWS OF THIS SEAT. 6 by the template 'for every input the law returns true; each argument reads behind the call as it read before'; 0 by the template 'total and deterministic' (their statements: YtmapcghgdbfmhaaTotals.lean).
  GIVEN WITH THE SEED: the statements are not yours to turn. If you find one false, say at which input.
  Laid BY PROGRAM, IN A SANDBOX (cutbox-rows.mjs): the forced cells as the released guide's own fill.sh prints them over the translation 44e920ea1f05c057… (all of the seat's roots in one cut). By AI agents, Wed Nov 11 2026. No macro, syntax, notation, axiom, sorry.
-/
import Derived.Test.YtmapcghgdbfmhaaChecked
import GoSem.Claim
import GoSem.ClaimJoined
import GoSem.ClaimMapViews
import Derived.JoinedTies
import Derived.KernelRfl
namespace Go.Proofs.Ytmapcghgdbfmhaa
/- THE CELL 'sum', in the pinned program and in every row, IS THE sha256 OF THE DUMP (.gsa) THAT YtmapcghgdbfmhaaProg.lean LOADS. Nothing in Lean hashes anything: it is a label: what it is worth is what the hold of that sum in a sandbox is worth. -/
noncomputable def Try.pinned : Pinned := { name := "ytmapcghgdbfmhaa", sum := "44e920ea1f05c0572a8701e762f7bc26c5ad8f2fac717f435de221d03e56a783", checked := Try.checked }
namespace Rows
def none {H : Type} : Left H := { results := [], args := [] }

/-- 'distraintlaw06.MessageReads': WHATEVER THE INPUT: true; the input reads as it did. -/
def messageReadsSpec : ChangeSpec := { name := "messageReads", fn := fun _ => fun
  | [d] => { results := [.lit (.bool true)], args := [d] }
  | _ => none }
def messageReadsRow : OpenClaim := { program := "ytmapcghgdbfmhaa", sum := "44e920ea1f05c0572a8701e762f7bc26c5ad8f2fac717f435de221d03e56a783", func := "distraint/distraintlaw06.MessageReads", spec := "messageReads", unfollowed := true, recurses := true, apart := false }
def MessageReadsSaid : Prop := messageReadsRow.holds Try.pinned (OpenSpec.ofChange messageReadsSpec)

/-- ITS FALSE NEIGHBOUR: 'it returns false'. Refute it at one input. -/
def messageReadsWrong : ChangeSpec := { name := "messageReads", fn := fun _ => fun
  | [d] => { results := [.lit (.bool false)], args := [d] }
  | _ => none }
def MessageReadsWrongFalsely : Prop := messageReadsRow.holds Try.pinned (OpenSpec.ofChange messageReadsWrong)

/-- 'distraintlaw06.MessageBytes': WHATEVER THE INPUT: true; the input reads as it did. -/
def messageBytesSpec : ChangeSpec := { name := "messageBytes", fn := fun _ => fun
  | [d] => { results := [.lit (.bool true)], args := [d] }
  | _ => none }
def messageBytesRow : OpenClaim := { program := "ytmapcghgdbfmhaa", sum := "44e920ea1f05c0572a8701e762f7bc26c5ad8f2fac717f435de221d03e56a783", func := "distraint/distraintlaw06.MessageBytes", spec := "messageBytes", unfollowed := true, recurses := true, apart := false }
def MessageBytesSaid : Prop := messageBytesRow.holds Try.pinned (OpenSpec.ofChange messageBytesSpec)

/-- ITS FALSE NEIGHBOUR: 'it returns false'. Refute it at one input. -/
def messageBytesWrong : ChangeSpec := { name := "messageBytes", fn := fun _ => fun
  | [d] => { results := [.lit (.bool false)], args := [d] }
  | _ => none }
def MessageBytesWrongFalsely : Prop := messageBytesRow.holds Try.pinned (OpenSpec.ofChange messageBytesWrong)

/-- 'distraintlaw06.MessageScripts': WHATEVER THE INPUT: true; the input reads as it did. -/
def messageScriptsSpec : ChangeSpec := { name := "messageScripts", fn := fun _ => fun
  | [d1, d2, d3, d4] => { results := [.lit (.bool true)], args := [d1, d2, d3, d4] }
  | _ => none }
def messageScriptsRow : OpenClaim := { program := "ytmapcghgdbfmhaa", sum := "44e920ea1f05c0572a8701e762f7bc26c5ad8f2fac717f435de221d03e56a783", func := "distraint/distraintlaw06.MessageScripts", spec := "messageScripts", unfollowed := true, recurses := true, apart := false }
def MessageScriptsSaid : Prop := messageScriptsRow.holds Try.pinned (OpenSpec.ofChange messageScriptsSpec)

/-- ITS FALSE NEIGHBOUR: 'it returns false'. Refute it at one input. -/
def messageScriptsWrong : ChangeSpec := { name := "messageScripts", fn := fun _ => fun
  | [d1, d2, d3, d4] => { results := [.lit (.bool false)], args := [d1, d2, d3, d4] }
  | _ => none }
def MessageScriptsWrongFalsely : Prop := messageScriptsRow.holds Try.pinned (OpenSpec.ofChange messageScriptsWrong)

/-- 'distraintlaw06.MessageKnown': WHATEVER THE INPUT: true; the input reads as it did. -/
def messageKnownSpec : ChangeSpec := { name := "messageKnown", fn := fun _ => fun
  | [] => { results := [.lit (.bool true)], args := [] }
  | _ => none }
def messageKnownRow : OpenClaim := { program := "ytmapcghgdbfmhaa", sum := "44e920ea1f05c0572a8701e762f7bc26c5ad8f2fac717f435de221d03e56a783", func := "distraint/distraintlaw06.MessageKnown", spec := "messageKnown", unfollowed := true, recurses := true, apart := false }
def MessageKnownSaid : Prop := messageKnownRow.holds Try.pinned (OpenSpec.ofChange messageKnownSpec)

/-- ITS FALSE NEIGHBOUR: 'it returns false'. Refute it at one input. -/
def messageKnownWrong : ChangeSpec := { name := "messageKnown", fn := fun _ => fun
  | [] => { results := [.lit (.bool false)], args := [] }
  | _ => none }
def MessageKnownWrongFalsely : Prop := messageKnownRow.holds Try.pinned (OpenSpec.ofChange messageKnownWrong)

/-- 'distraintlaw06.MessageBack': WHATEVER THE INPUT: true; the input reads as it did. -/
def messageBackSpec : ChangeSpec := { name := "messageBack", fn := fun _ => fun
  | [d1, d2, d3] => { results := [.lit (.bool true)], args := [d1, d2, d3] }
  | _ => none }
def messageBackRow : OpenClaim := { program := "ytmapcghgdbfmhaa", sum := "44e920ea1f05c0572a8701e762f7bc26c5ad8f2fac717f435de221d03e56a783", func := "distraint/distraintlaw06.MessageBack", spec := "messageBack", unfollowed := true, recurses := true, apart := false }
def MessageBackSaid : Prop := messageBackRow.holds Try.pinned (OpenSpec.ofChange messageBackSpec)

/-- ITS FALSE NEIGHBOUR: 'it returns false'. Refute it at one input. -/
def messageBackWrong : ChangeSpec := { name := "messageBack", fn := fun _ => fun
  | [d1, d2, d3] => { results := [.lit (.bool false)], args := [d1, d2, d3] }
  | _ => none }
def MessageBackWrongFalsely : Prop := messageBackRow.holds Try.pinned (OpenSpec.ofChange messageBackWrong)

/-- 'distraintlaw06.MessagePacks': WHATEVER THE INPUT: true; the input reads as it did. -/
def messagePacksSpec : ChangeSpec := { name := "messagePacks", fn := fun _ => fun
  | [d1, d2] => { results := [.lit (.bool true)], args := [d1, d2] }
  | _ => none }
def messagePacksRow : OpenClaim := { program := "ytmapcghgdbfmhaa", sum := "44e920ea1f05c0572a8701e762f7bc26c5ad8f2fac717f435de221d03e56a783", func := "distraint/distraintlaw06.MessagePacks", spec := "messagePacks", unfollowed := true, recurses := true, apart := false }
def MessagePacksSaid : Prop := messagePacksRow.holds Try.pinned (OpenSpec.ofChange messagePacksSpec)

/-- ITS FALSE NEIGHBOUR: 'it returns false'. Refute it at one input. -/
def messagePacksWrong : ChangeSpec := { name := "messagePacks", fn := fun _ => fun
  | [d1, d2] => { results := [.lit (.bool false)], args := [d1, d2] }
  | _ => none }
def MessagePacksWrongFalsely : Prop := messagePacksRow.holds Try.pinned (OpenSpec.ofChange messagePacksWrong)

/- THE SECOND FORM. 'bulk': how many values and letters a reading holds, each counted each time it is reached (what is shared counts as often as it is met; a slice's spare places count too). A statement '..UptoSaid' is the law's where the arguments, and the package variables that the reading takes, are together of bulk at most 1048576: NARROWER than '..Said'. Prove '..Said' where nothing that the law and all that it calls make is longer than what came in: it says more and counts as full. Else prove '..UptoSaid'. A law counts once. -/
mutual
def uptoBulk {H : Type} : DataW H → Nat
  | .lit (.string bytes) => bytes.length + 1
  | .lit _ => 1
  | .nil => 1
  | .ptr d => uptoBulk d + 1
  | .slice elems spare => uptoBulkAll elems + uptoBulkAll spare + 1
  | .agg parts => uptoBulkAll parts + 1
  | .iface _ d => uptoBulk d + 1
  | .map entries => uptoBulkEntries entries + 1
  | .held _ => 1
def uptoBulkAll {H : Type} : List (DataW H) → Nat
  | [] => 0
  | d :: r => uptoBulk d + uptoBulkAll r
def uptoBulkEntries {H : Type} : List (Lit × DataW H) → Nat
  | [] => 0
  | x :: r => uptoBulkEntry x + uptoBulkEntries r
def uptoBulkEntry {H : Type} : Lit × DataW H → Nat
  | (.string bytes, d) => bytes.length + uptoBulk d + 1
  | (_, d) => uptoBulk d + 1
 end
def uptoSmall : (H : Type) → List (DataW H) → Bool := fun _ ds => decide (uptoBulkAll ds ≤ 1048576)
def OpenSpec.upto (s : _root_.Go.ChangeSpec) : _root_.Go.OpenSpec := { _root_.Go.OpenSpec.ofChange s with cond := some uptoSmall }

/-- 'distraintlaw06.MessageReads', WHERE WHAT IT READS IS OF BULK AT MOST 1048576: true; the input reads as it did. -/
def messageReadsUptoRow : OpenClaim := { program := "ytmapcghgdbfmhaa", sum := "44e920ea1f05c0572a8701e762f7bc26c5ad8f2fac717f435de221d03e56a783", func := "distraint/distraintlaw06.MessageReads", spec := "messageReads", unfollowed := true, recurses := true, apart := false, narrowed := true }
def MessageReadsUptoSaid : Prop := messageReadsUptoRow.holds Try.pinned (OpenSpec.upto messageReadsSpec)

/-- 'distraintlaw06.MessageBytes', WHERE WHAT IT READS IS OF BULK AT MOST 1048576: true; the input reads as it did. -/
def messageBytesUptoRow : OpenClaim := { program := "ytmapcghgdbfmhaa", sum := "44e920ea1f05c0572a8701e762f7bc26c5ad8f2fac717f435de221d03e56a783", func := "distraint/distraintlaw06.MessageBytes", spec := "messageBytes", unfollowed := true, recurses := true, apart := false, narrowed := true }
def MessageBytesUptoSaid : Prop := messageBytesUptoRow.holds Try.pinned (OpenSpec.upto messageBytesSpec)

/-- 'distraintlaw06.MessageScripts', WHERE WHAT IT READS IS OF BULK AT MOST 1048576: true; the input reads as it did. -/
def messageScriptsUptoRow : OpenClaim := { program := "ytmapcghgdbfmhaa", sum := "44e920ea1f05c0572a8701e762f7bc26c5ad8f2fac717f435de221d03e56a783", func := "distraint/distraintlaw06.MessageScripts", spec := "messageScripts", unfollowed := true, recurses := true, apart := false, narrowed := true }
def MessageScriptsUptoSaid : Prop := messageScriptsUptoRow.holds Try.pinned (OpenSpec.upto messageScriptsSpec)

/-- 'distraintlaw06.MessageKnown', WHERE WHAT IT READS IS OF BULK AT MOST 1048576: true; the input reads as it did. -/
def messageKnownUptoRow : OpenClaim := { program := "ytmapcghgdbfmhaa", sum := "44e920ea1f05c0572a8701e762f7bc26c5ad8f2fac717f435de221d03e56a783", func := "distraint/distraintlaw06.MessageKnown", spec := "messageKnown", unfollowed := true, recurses := true, apart := false, narrowed := true }
def MessageKnownUptoSaid : Prop := messageKnownUptoRow.holds Try.pinned (OpenSpec.upto messageKnownSpec)

/-- 'distraintlaw06.MessageBack', WHERE WHAT IT READS IS OF BULK AT MOST 1048576: true; the input reads as it did. -/
def messageBackUptoRow : OpenClaim := { program := "ytmapcghgdbfmhaa", sum := "44e920ea1f05c0572a8701e762f7bc26c5ad8f2fac717f435de221d03e56a783", func := "distraint/distraintlaw06.MessageBack", spec := "messageBack", unfollowed := true, recurses := true, apart := false, narrowed := true }
def MessageBackUptoSaid : Prop := messageBackUptoRow.holds Try.pinned (OpenSpec.upto messageBackSpec)

/-- 'distraintlaw06.MessagePacks', WHERE WHAT IT READS IS OF BULK AT MOST 1048576: true; the input reads as it did. -/
def messagePacksUptoRow : OpenClaim := { program := "ytmapcghgdbfmhaa", sum := "44e920ea1f05c0572a8701e762f7bc26c5ad8f2fac717f435de221d03e56a783", func := "distraint/distraintlaw06.MessagePacks", spec := "messagePacks", unfollowed := true, recurses := true, apart := false, narrowed := true }
def MessagePacksUptoSaid : Prop := messagePacksUptoRow.holds Try.pinned (OpenSpec.upto messagePacksSpec)

end Rows
end Go.Proofs.Ytmapcghgdbfmhaa
