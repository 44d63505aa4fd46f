/-
  No cell of these rows narrows 'for every input' (looked for: loops, veiled, ifaces, maps, wideKeys, modest, calm, conditions, laid).
  DERIVED. THE GIVEN ROWS OF THIS SEAT. 6 by the template 'for every input the law returns true; each argument reads behind the call as it read before'; 0 by the template 'total and deterministic' (their statements: YtenaakldccjnbaaTotals.lean).
  GIVEN WITH THE SEED: the statements are not yours to turn. If you find one false, say at which input.
  Laid BY PROGRAM, IN A SANDBOX (cutbox-rows.mjs): the forced cells as the released guide's own fill.sh prints them over the translation 6c9faf21bc7e9a09… (all of the seat's roots in one cut). By AI agents, Wed Nov 11 2026. No macro, syntax, notation, axiom, sorry.
-/
import Derived.Test.YtenaakldccjnbaaChecked
import GoSem.Claim
import GoSem.ClaimJoined
import GoSem.ClaimMapViews
import Derived.JoinedTies
import Derived.KernelRfl
namespace Go.Proofs.Ytenaakldccjnbaa
/- THE CELL 'sum', in the pinned program and in every row, IS THE sha256 OF THE DUMP (.gsa) THAT YtenaakldccjnbaaProg.lean LOADS. Nothing in Lean hashes anything: it is a label: what it is worth is what the hold of that sum in a sandbox is worth. -/
noncomputable def Try.pinned : Pinned := { name := "ytenaakldccjnbaa", sum := "6c9faf21bc7e9a095f535a83d378757dc099484905b529d4f9e6a8339c05a2c9", checked := Try.checked }
namespace Rows
def none {H : Type} : Left H := { results := [], args := [] }

/-- 'distraintlaw04.VoteReads': WHATEVER THE INPUT: true; the input reads as it did. -/
def voteReadsSpec : ChangeSpec := { name := "voteReads", fn := fun _ => fun
  | [d] => { results := [.lit (.bool true)], args := [d] }
  | _ => none }
def voteReadsRow : OpenClaim := { program := "ytenaakldccjnbaa", sum := "6c9faf21bc7e9a095f535a83d378757dc099484905b529d4f9e6a8339c05a2c9", func := "distraint/distraintlaw04.VoteReads", spec := "voteReads", unfollowed := true, recurses := true, apart := false }
def VoteReadsSaid : Prop := voteReadsRow.holds Try.pinned (OpenSpec.ofChange voteReadsSpec)

/-- ITS FALSE NEIGHBOUR: 'it returns false'. Refute it at one input. -/
def voteReadsWrong : ChangeSpec := { name := "voteReads", fn := fun _ => fun
  | [d] => { results := [.lit (.bool false)], args := [d] }
  | _ => none }
def VoteReadsWrongFalsely : Prop := voteReadsRow.holds Try.pinned (OpenSpec.ofChange voteReadsWrong)

/-- 'distraintlaw04.VoteBytes': WHATEVER THE INPUT: true; the input reads as it did. -/
def voteBytesSpec : ChangeSpec := { name := "voteBytes", fn := fun _ => fun
  | [d1, d2] => { results := [.lit (.bool true)], args := [d1, d2] }
  | _ => none }
def voteBytesRow : OpenClaim := { program := "ytenaakldccjnbaa", sum := "6c9faf21bc7e9a095f535a83d378757dc099484905b529d4f9e6a8339c05a2c9", func := "distraint/distraintlaw04.VoteBytes", spec := "voteBytes", unfollowed := true, recurses := true, apart := false }
def VoteBytesSaid : Prop := voteBytesRow.holds Try.pinned (OpenSpec.ofChange voteBytesSpec)

/-- ITS FALSE NEIGHBOUR: 'it returns false'. Refute it at one input. -/
def voteBytesWrong : ChangeSpec := { name := "voteBytes", fn := fun _ => fun
  | [d1, d2] => { results := [.lit (.bool false)], args := [d1, d2] }
  | _ => none }
def VoteBytesWrongFalsely : Prop := voteBytesRow.holds Try.pinned (OpenSpec.ofChange voteBytesWrong)

/-- 'distraintlaw04.VotePairs': WHATEVER THE INPUT: true; the input reads as it did. -/
def votePairsSpec : ChangeSpec := { name := "votePairs", fn := fun _ => fun
  | [d1, d2, d3, d4] => { results := [.lit (.bool true)], args := [d1, d2, d3, d4] }
  | _ => none }
def votePairsRow : OpenClaim := { program := "ytenaakldccjnbaa", sum := "6c9faf21bc7e9a095f535a83d378757dc099484905b529d4f9e6a8339c05a2c9", func := "distraint/distraintlaw04.VotePairs", spec := "votePairs", unfollowed := true, recurses := true, apart := false }
def VotePairsSaid : Prop := votePairsRow.holds Try.pinned (OpenSpec.ofChange votePairsSpec)

/-- ITS FALSE NEIGHBOUR: 'it returns false'. Refute it at one input. -/
def votePairsWrong : ChangeSpec := { name := "votePairs", fn := fun _ => fun
  | [d1, d2, d3, d4] => { results := [.lit (.bool false)], args := [d1, d2, d3, d4] }
  | _ => none }
def VotePairsWrongFalsely : Prop := votePairsRow.holds Try.pinned (OpenSpec.ofChange votePairsWrong)

/-- 'distraintlaw04.VoteKnown': WHATEVER THE INPUT: true; the input reads as it did. -/
def voteKnownSpec : ChangeSpec := { name := "voteKnown", fn := fun _ => fun
  | [] => { results := [.lit (.bool true)], args := [] }
  | _ => none }
def voteKnownRow : OpenClaim := { program := "ytenaakldccjnbaa", sum := "6c9faf21bc7e9a095f535a83d378757dc099484905b529d4f9e6a8339c05a2c9", func := "distraint/distraintlaw04.VoteKnown", spec := "voteKnown", unfollowed := true, recurses := true, apart := false }
def VoteKnownSaid : Prop := voteKnownRow.holds Try.pinned (OpenSpec.ofChange voteKnownSpec)

/-- ITS FALSE NEIGHBOUR: 'it returns false'. Refute it at one input. -/
def voteKnownWrong : ChangeSpec := { name := "voteKnown", fn := fun _ => fun
  | [] => { results := [.lit (.bool false)], args := [] }
  | _ => none }
def VoteKnownWrongFalsely : Prop := voteKnownRow.holds Try.pinned (OpenSpec.ofChange voteKnownWrong)

/-- 'distraintlaw04.VoteClash': WHATEVER THE INPUT: true; the input reads as it did. -/
def voteClashSpec : ChangeSpec := { name := "voteClash", fn := fun _ => fun
  | [d1, d2, d3, d4, d5, d6] => { results := [.lit (.bool true)], args := [d1, d2, d3, d4, d5, d6] }
  | _ => none }
def voteClashRow : OpenClaim := { program := "ytenaakldccjnbaa", sum := "6c9faf21bc7e9a095f535a83d378757dc099484905b529d4f9e6a8339c05a2c9", func := "distraint/distraintlaw04.VoteClash", spec := "voteClash", unfollowed := true, recurses := true, apart := false }
def VoteClashSaid : Prop := voteClashRow.holds Try.pinned (OpenSpec.ofChange voteClashSpec)

/-- ITS FALSE NEIGHBOUR: 'it returns false'. Refute it at one input. -/
def voteClashWrong : ChangeSpec := { name := "voteClash", fn := fun _ => fun
  | [d1, d2, d3, d4, d5, d6] => { results := [.lit (.bool false)], args := [d1, d2, d3, d4, d5, d6] }
  | _ => none }
def VoteClashWrongFalsely : Prop := voteClashRow.holds Try.pinned (OpenSpec.ofChange voteClashWrong)

/-- 'distraintlaw04.VoteBack': WHATEVER THE INPUT: true; the input reads as it did. -/
def voteBackSpec : ChangeSpec := { name := "voteBack", fn := fun _ => fun
  | [d1, d2, d3, d4] => { results := [.lit (.bool true)], args := [d1, d2, d3, d4] }
  | _ => none }
def voteBackRow : OpenClaim := { program := "ytenaakldccjnbaa", sum := "6c9faf21bc7e9a095f535a83d378757dc099484905b529d4f9e6a8339c05a2c9", func := "distraint/distraintlaw04.VoteBack", spec := "voteBack", unfollowed := true, recurses := true, apart := false }
def VoteBackSaid : Prop := voteBackRow.holds Try.pinned (OpenSpec.ofChange voteBackSpec)

/-- ITS FALSE NEIGHBOUR: 'it returns false'. Refute it at one input. -/
def voteBackWrong : ChangeSpec := { name := "voteBack", fn := fun _ => fun
  | [d1, d2, d3, d4] => { results := [.lit (.bool false)], args := [d1, d2, d3, d4] }
  | _ => none }
def VoteBackWrongFalsely : Prop := voteBackRow.holds Try.pinned (OpenSpec.ofChange voteBackWrong)

/- THE SECOND FORM. 'bulk': how many values and letters a reading holds, each counted each time it is reached (what is shared counts as often as it is met; a slice's spare places count too). A statement '..UptoSaid' is the law's where the arguments, and the package variables that the reading takes, are together of bulk at most 1048576: NARROWER than '..Said'. Prove '..Said' where nothing that the law and all that it calls make is longer than what came in: it says more and counts as full. Else prove '..UptoSaid'. A law counts once. -/
mutual
def uptoBulk {H : Type} : DataW H → Nat
  | .lit (.string bytes) => bytes.length + 1
  | .lit _ => 1
  | .nil => 1
  | .ptr d => uptoBulk d + 1
  | .slice elems spare => uptoBulkAll elems + uptoBulkAll spare + 1
  | .agg parts => uptoBulkAll parts + 1
  | .iface _ d => uptoBulk d + 1
  | .map entries => uptoBulkEntries entries + 1
  | .held _ => 1
def uptoBulkAll {H : Type} : List (DataW H) → Nat
  | [] => 0
  | d :: r => uptoBulk d + uptoBulkAll r
def uptoBulkEntries {H : Type} : List (Lit × DataW H) → Nat
  | [] => 0
  | x :: r => uptoBulkEntry x + uptoBulkEntries r
def uptoBulkEntry {H : Type} : Lit × DataW H → Nat
  | (.string bytes, d) => bytes.length + uptoBulk d + 1
  | (_, d) => uptoBulk d + 1
 end
def uptoSmall : (H : Type) → List (DataW H) → Bool := fun _ ds => decide (uptoBulkAll ds ≤ 1048576)
def OpenSpec.upto (s : _root_.Go.ChangeSpec) : _root_.Go.OpenSpec := { _root_.Go.OpenSpec.ofChange s with cond := some uptoSmall }

/-- 'distraintlaw04.VoteReads', WHERE WHAT IT READS IS OF BULK AT MOST 1048576: true; the input reads as it did. -/
def voteReadsUptoRow : OpenClaim := { program := "ytenaakldccjnbaa", sum := "6c9faf21bc7e9a095f535a83d378757dc099484905b529d4f9e6a8339c05a2c9", func := "distraint/distraintlaw04.VoteReads", spec := "voteReads", unfollowed := true, recurses := true, apart := false, narrowed := true }
def VoteReadsUptoSaid : Prop := voteReadsUptoRow.holds Try.pinned (OpenSpec.upto voteReadsSpec)

/-- 'distraintlaw04.VoteBytes', WHERE WHAT IT READS IS OF BULK AT MOST 1048576: true; the input reads as it did. -/
def voteBytesUptoRow : OpenClaim := { program := "ytenaakldccjnbaa", sum := "6c9faf21bc7e9a095f535a83d378757dc099484905b529d4f9e6a8339c05a2c9", func := "distraint/distraintlaw04.VoteBytes", spec := "voteBytes", unfollowed := true, recurses := true, apart := false, narrowed := true }
def VoteBytesUptoSaid : Prop := voteBytesUptoRow.holds Try.pinned (OpenSpec.upto voteBytesSpec)

/-- 'distraintlaw04.VotePairs', WHERE WHAT IT READS IS OF BULK AT MOST 1048576: true; the input reads as it did. -/
def votePairsUptoRow : OpenClaim := { program := "ytenaakldccjnbaa", sum := "6c9faf21bc7e9a095f535a83d378757dc099484905b529d4f9e6a8339c05a2c9", func := "distraint/distraintlaw04.VotePairs", spec := "votePairs", unfollowed := true, recurses := true, apart := false, narrowed := true }
def VotePairsUptoSaid : Prop := votePairsUptoRow.holds Try.pinned (OpenSpec.upto votePairsSpec)

/-- 'distraintlaw04.VoteKnown', WHERE WHAT IT READS IS OF BULK AT MOST 1048576: true; the input reads as it did. -/
def voteKnownUptoRow : OpenClaim := { program := "ytenaakldccjnbaa", sum := "6c9faf21bc7e9a095f535a83d378757dc099484905b529d4f9e6a8339c05a2c9", func := "distraint/distraintlaw04.VoteKnown", spec := "voteKnown", unfollowed := true, recurses := true, apart := false, narrowed := true }
def VoteKnownUptoSaid : Prop := voteKnownUptoRow.holds Try.pinned (OpenSpec.upto voteKnownSpec)

/-- 'distraintlaw04.VoteClash', WHERE WHAT IT READS IS OF BULK AT MOST 1048576: true; the input reads as it did. -/
def voteClashUptoRow : OpenClaim := { program := "ytenaakldccjnbaa", sum := "6c9faf21bc7e9a095f535a83d378757dc099484905b529d4f9e6a8339c05a2c9", func := "distraint/distraintlaw04.VoteClash", spec := "voteClash", unfollowed := true, recurses := true, apart := false, narrowed := true }
def VoteClashUptoSaid : Prop := voteClashUptoRow.holds Try.pinned (OpenSpec.upto voteClashSpec)

/-- 'distraintlaw04.VoteBack', WHERE WHAT IT READS IS OF BULK AT MOST 1048576: true; the input reads as it did. -/
def voteBackUptoRow : OpenClaim := { program := "ytenaakldccjnbaa", sum := "6c9faf21bc7e9a095f535a83d378757dc099484905b529d4f9e6a8339c05a2c9", func := "distraint/distraintlaw04.VoteBack", spec := "voteBack", unfollowed := true, recurses := true, apart := false, narrowed := true }
def VoteBackUptoSaid : Prop := voteBackUptoRow.holds Try.pinned (OpenSpec.upto voteBackSpec)

end Rows
end Go.Proofs.Ytenaakldccjnbaa
