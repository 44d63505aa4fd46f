/-
  No cell of these rows narrows 'for every input' (looked for: loops, veiled, ifaces, maps, wideKeys, modest, calm, conditions, laid).
  DERIVED. THE GIVEN ROWS OF THIS SEAT. 7 by the template 'for every input the law returns true; each argument reads behind the call as it read before'; 0 by the template 'total and deterministic' (their statements: YtolbdhgclcemlaaTotals.lean).
  GIVEN WITH THE SEED: the statements are not yours to turn. If you find one false, say at which input.
  Laid BY PROGRAM, IN A SANDBOX (cutbox-rows.mjs): the forced cells as the released guide's own fill.sh prints them over the translation 9c37aa69d4c3703b… (all of the seat's roots in one cut). By AI agents, Wed Nov 11 2026. No macro, syntax, notation, axiom, sorry.
-/
import Derived.Test.YtolbdhgclcemlaaChecked
import GoSem.Claim
import GoSem.ClaimJoined
import GoSem.ClaimMapViews
import Derived.JoinedTies
import Derived.KernelRfl
namespace Go.Proofs.Ytolbdhgclcemlaa
/- THE CELL 'sum', in the pinned program and in every row, IS THE sha256 OF THE DUMP (.gsa) THAT YtolbdhgclcemlaaProg.lean LOADS. Nothing in Lean hashes anything: it is a label: what it is worth is what the hold of that sum in a sandbox is worth. -/
noncomputable def Try.pinned : Pinned := { name := "ytolbdhgclcemlaa", sum := "9c37aa69d4c3703b248a9b907fface7cfe4d80576089894d600b857015f9ce49", checked := Try.checked }
namespace Rows
def none {H : Type} : Left H := { results := [], args := [] }

/-- 'distraintlaw03.KeccakNone': WHATEVER THE INPUT: true; the input reads as it did. -/
def keccakNoneSpec : ChangeSpec := { name := "keccakNone", fn := fun _ => fun
  | [d] => { results := [.lit (.bool true)], args := [d] }
  | _ => none }
def keccakNoneRow : OpenClaim := { program := "ytolbdhgclcemlaa", sum := "9c37aa69d4c3703b248a9b907fface7cfe4d80576089894d600b857015f9ce49", func := "distraint/distraintlaw03.KeccakNone", spec := "keccakNone", unfollowed := true, recurses := true, apart := false }
def KeccakNoneSaid : Prop := keccakNoneRow.holds Try.pinned (OpenSpec.ofChange keccakNoneSpec)

/-- ITS FALSE NEIGHBOUR: 'it returns false'. Refute it at one input. -/
def keccakNoneWrong : ChangeSpec := { name := "keccakNone", fn := fun _ => fun
  | [d] => { results := [.lit (.bool false)], args := [d] }
  | _ => none }
def KeccakNoneWrongFalsely : Prop := keccakNoneRow.holds Try.pinned (OpenSpec.ofChange keccakNoneWrong)

/-- 'distraintlaw03.KeccakPieces': WHATEVER THE INPUT: true; the input reads as it did. -/
def keccakPiecesSpec : ChangeSpec := { name := "keccakPieces", fn := fun _ => fun
  | [d1, d2] => { results := [.lit (.bool true)], args := [d1, d2] }
  | _ => none }
def keccakPiecesRow : OpenClaim := { program := "ytolbdhgclcemlaa", sum := "9c37aa69d4c3703b248a9b907fface7cfe4d80576089894d600b857015f9ce49", func := "distraint/distraintlaw03.KeccakPieces", spec := "keccakPieces", unfollowed := true, recurses := true, apart := false }
def KeccakPiecesSaid : Prop := keccakPiecesRow.holds Try.pinned (OpenSpec.ofChange keccakPiecesSpec)

/-- ITS FALSE NEIGHBOUR: 'it returns false'. Refute it at one input. -/
def keccakPiecesWrong : ChangeSpec := { name := "keccakPieces", fn := fun _ => fun
  | [d1, d2] => { results := [.lit (.bool false)], args := [d1, d2] }
  | _ => none }
def KeccakPiecesWrongFalsely : Prop := keccakPiecesRow.holds Try.pinned (OpenSpec.ofChange keccakPiecesWrong)

/-- 'distraintlaw03.KeccakSums': WHATEVER THE INPUT: true; the input reads as it did. -/
def keccakSumsSpec : ChangeSpec := { name := "keccakSums", fn := fun _ => fun
  | [d1, d2, d3, d4, d5] => { results := [.lit (.bool true)], args := [d1, d2, d3, d4, d5] }
  | _ => none }
def keccakSumsRow : OpenClaim := { program := "ytolbdhgclcemlaa", sum := "9c37aa69d4c3703b248a9b907fface7cfe4d80576089894d600b857015f9ce49", func := "distraint/distraintlaw03.KeccakSums", spec := "keccakSums", unfollowed := true, recurses := true, apart := false }
def KeccakSumsSaid : Prop := keccakSumsRow.holds Try.pinned (OpenSpec.ofChange keccakSumsSpec)

/-- ITS FALSE NEIGHBOUR: 'it returns false'. Refute it at one input. -/
def keccakSumsWrong : ChangeSpec := { name := "keccakSums", fn := fun _ => fun
  | [d1, d2, d3, d4, d5] => { results := [.lit (.bool false)], args := [d1, d2, d3, d4, d5] }
  | _ => none }
def KeccakSumsWrongFalsely : Prop := keccakSumsRow.holds Try.pinned (OpenSpec.ofChange keccakSumsWrong)

/-- 'distraintlaw03.KeccakKnown': WHATEVER THE INPUT: true; the input reads as it did. -/
def keccakKnownSpec : ChangeSpec := { name := "keccakKnown", fn := fun _ => fun
  | [] => { results := [.lit (.bool true)], args := [] }
  | _ => none }
def keccakKnownRow : OpenClaim := { program := "ytolbdhgclcemlaa", sum := "9c37aa69d4c3703b248a9b907fface7cfe4d80576089894d600b857015f9ce49", func := "distraint/distraintlaw03.KeccakKnown", spec := "keccakKnown", unfollowed := true, recurses := true, apart := false }
def KeccakKnownSaid : Prop := keccakKnownRow.holds Try.pinned (OpenSpec.ofChange keccakKnownSpec)

/-- ITS FALSE NEIGHBOUR: 'it returns false'. Refute it at one input. -/
def keccakKnownWrong : ChangeSpec := { name := "keccakKnown", fn := fun _ => fun
  | [] => { results := [.lit (.bool false)], args := [] }
  | _ => none }
def KeccakKnownWrongFalsely : Prop := keccakKnownRow.holds Try.pinned (OpenSpec.ofChange keccakKnownWrong)

/-- 'distraintlaw03.KeccakTexts': WHATEVER THE INPUT: true; the input reads as it did. -/
def keccakTextsSpec : ChangeSpec := { name := "keccakTexts", fn := fun _ => fun
  | [d1, d2, d3] => { results := [.lit (.bool true)], args := [d1, d2, d3] }
  | _ => none }
def keccakTextsRow : OpenClaim := { program := "ytolbdhgclcemlaa", sum := "9c37aa69d4c3703b248a9b907fface7cfe4d80576089894d600b857015f9ce49", func := "distraint/distraintlaw03.KeccakTexts", spec := "keccakTexts", unfollowed := true, recurses := true, apart := false }
def KeccakTextsSaid : Prop := keccakTextsRow.holds Try.pinned (OpenSpec.ofChange keccakTextsSpec)

/-- ITS FALSE NEIGHBOUR: 'it returns false'. Refute it at one input. -/
def keccakTextsWrong : ChangeSpec := { name := "keccakTexts", fn := fun _ => fun
  | [d1, d2, d3] => { results := [.lit (.bool false)], args := [d1, d2, d3] }
  | _ => none }
def KeccakTextsWrongFalsely : Prop := keccakTextsRow.holds Try.pinned (OpenSpec.ofChange keccakTextsWrong)

/-- 'distraintlaw03.KeccakTurns': WHATEVER THE INPUT: true; the input reads as it did. -/
def keccakTurnsSpec : ChangeSpec := { name := "keccakTurns", fn := fun _ => fun
  | [d1, d2, d3] => { results := [.lit (.bool true)], args := [d1, d2, d3] }
  | _ => none }
def keccakTurnsRow : OpenClaim := { program := "ytolbdhgclcemlaa", sum := "9c37aa69d4c3703b248a9b907fface7cfe4d80576089894d600b857015f9ce49", func := "distraint/distraintlaw03.KeccakTurns", spec := "keccakTurns", unfollowed := true, recurses := true, apart := false }
def KeccakTurnsSaid : Prop := keccakTurnsRow.holds Try.pinned (OpenSpec.ofChange keccakTurnsSpec)

/-- ITS FALSE NEIGHBOUR: 'it returns false'. Refute it at one input. -/
def keccakTurnsWrong : ChangeSpec := { name := "keccakTurns", fn := fun _ => fun
  | [d1, d2, d3] => { results := [.lit (.bool false)], args := [d1, d2, d3] }
  | _ => none }
def KeccakTurnsWrongFalsely : Prop := keccakTurnsRow.holds Try.pinned (OpenSpec.ofChange keccakTurnsWrong)

/-- 'distraintlaw03.KeccakWhole': WHATEVER THE INPUT: true; the input reads as it did. -/
def keccakWholeSpec : ChangeSpec := { name := "keccakWhole", fn := fun _ => fun
  | [d1, d2] => { results := [.lit (.bool true)], args := [d1, d2] }
  | _ => none }
def keccakWholeRow : OpenClaim := { program := "ytolbdhgclcemlaa", sum := "9c37aa69d4c3703b248a9b907fface7cfe4d80576089894d600b857015f9ce49", func := "distraint/distraintlaw03.KeccakWhole", spec := "keccakWhole", unfollowed := true, recurses := true, apart := false }
def KeccakWholeSaid : Prop := keccakWholeRow.holds Try.pinned (OpenSpec.ofChange keccakWholeSpec)

/-- ITS FALSE NEIGHBOUR: 'it returns false'. Refute it at one input. -/
def keccakWholeWrong : ChangeSpec := { name := "keccakWhole", fn := fun _ => fun
  | [d1, d2] => { results := [.lit (.bool false)], args := [d1, d2] }
  | _ => none }
def KeccakWholeWrongFalsely : Prop := keccakWholeRow.holds Try.pinned (OpenSpec.ofChange keccakWholeWrong)

/- THE SECOND FORM. 'bulk': how many values and letters a reading holds, each counted each time it is reached (what is shared counts as often as it is met; a slice's spare places count too). A statement '..UptoSaid' is the law's where the arguments, and the package variables that the reading takes, are together of bulk at most 1048576: NARROWER than '..Said'. Prove '..Said' where nothing that the law and all that it calls make is longer than what came in: it says more and counts as full. Else prove '..UptoSaid'. A law counts once. -/
mutual
def uptoBulk {H : Type} : DataW H → Nat
  | .lit (.string bytes) => bytes.length + 1
  | .lit _ => 1
  | .nil => 1
  | .ptr d => uptoBulk d + 1
  | .slice elems spare => uptoBulkAll elems + uptoBulkAll spare + 1
  | .agg parts => uptoBulkAll parts + 1
  | .iface _ d => uptoBulk d + 1
  | .map entries => uptoBulkEntries entries + 1
  | .held _ => 1
def uptoBulkAll {H : Type} : List (DataW H) → Nat
  | [] => 0
  | d :: r => uptoBulk d + uptoBulkAll r
def uptoBulkEntries {H : Type} : List (Lit × DataW H) → Nat
  | [] => 0
  | x :: r => uptoBulkEntry x + uptoBulkEntries r
def uptoBulkEntry {H : Type} : Lit × DataW H → Nat
  | (.string bytes, d) => bytes.length + uptoBulk d + 1
  | (_, d) => uptoBulk d + 1
 end
def uptoSmall : (H : Type) → List (DataW H) → Bool := fun _ ds => decide (uptoBulkAll ds ≤ 1048576)
def OpenSpec.upto (s : _root_.Go.ChangeSpec) : _root_.Go.OpenSpec := { _root_.Go.OpenSpec.ofChange s with cond := some uptoSmall }

/-- 'distraintlaw03.KeccakNone', WHERE WHAT IT READS IS OF BULK AT MOST 1048576: true; the input reads as it did. -/
def keccakNoneUptoRow : OpenClaim := { program := "ytolbdhgclcemlaa", sum := "9c37aa69d4c3703b248a9b907fface7cfe4d80576089894d600b857015f9ce49", func := "distraint/distraintlaw03.KeccakNone", spec := "keccakNone", unfollowed := true, recurses := true, apart := false, narrowed := true }
def KeccakNoneUptoSaid : Prop := keccakNoneUptoRow.holds Try.pinned (OpenSpec.upto keccakNoneSpec)

/-- 'distraintlaw03.KeccakPieces', WHERE WHAT IT READS IS OF BULK AT MOST 1048576: true; the input reads as it did. -/
def keccakPiecesUptoRow : OpenClaim := { program := "ytolbdhgclcemlaa", sum := "9c37aa69d4c3703b248a9b907fface7cfe4d80576089894d600b857015f9ce49", func := "distraint/distraintlaw03.KeccakPieces", spec := "keccakPieces", unfollowed := true, recurses := true, apart := false, narrowed := true }
def KeccakPiecesUptoSaid : Prop := keccakPiecesUptoRow.holds Try.pinned (OpenSpec.upto keccakPiecesSpec)

/-- 'distraintlaw03.KeccakSums', WHERE WHAT IT READS IS OF BULK AT MOST 1048576: true; the input reads as it did. -/
def keccakSumsUptoRow : OpenClaim := { program := "ytolbdhgclcemlaa", sum := "9c37aa69d4c3703b248a9b907fface7cfe4d80576089894d600b857015f9ce49", func := "distraint/distraintlaw03.KeccakSums", spec := "keccakSums", unfollowed := true, recurses := true, apart := false, narrowed := true }
def KeccakSumsUptoSaid : Prop := keccakSumsUptoRow.holds Try.pinned (OpenSpec.upto keccakSumsSpec)

/-- 'distraintlaw03.KeccakKnown', WHERE WHAT IT READS IS OF BULK AT MOST 1048576: true; the input reads as it did. -/
def keccakKnownUptoRow : OpenClaim := { program := "ytolbdhgclcemlaa", sum := "9c37aa69d4c3703b248a9b907fface7cfe4d80576089894d600b857015f9ce49", func := "distraint/distraintlaw03.KeccakKnown", spec := "keccakKnown", unfollowed := true, recurses := true, apart := false, narrowed := true }
def KeccakKnownUptoSaid : Prop := keccakKnownUptoRow.holds Try.pinned (OpenSpec.upto keccakKnownSpec)

/-- 'distraintlaw03.KeccakTexts', WHERE WHAT IT READS IS OF BULK AT MOST 1048576: true; the input reads as it did. -/
def keccakTextsUptoRow : OpenClaim := { program := "ytolbdhgclcemlaa", sum := "9c37aa69d4c3703b248a9b907fface7cfe4d80576089894d600b857015f9ce49", func := "distraint/distraintlaw03.KeccakTexts", spec := "keccakTexts", unfollowed := true, recurses := true, apart := false, narrowed := true }
def KeccakTextsUptoSaid : Prop := keccakTextsUptoRow.holds Try.pinned (OpenSpec.upto keccakTextsSpec)

/-- 'distraintlaw03.KeccakTurns', WHERE WHAT IT READS IS OF BULK AT MOST 1048576: true; the input reads as it did. -/
def keccakTurnsUptoRow : OpenClaim := { program := "ytolbdhgclcemlaa", sum := "9c37aa69d4c3703b248a9b907fface7cfe4d80576089894d600b857015f9ce49", func := "distraint/distraintlaw03.KeccakTurns", spec := "keccakTurns", unfollowed := true, recurses := true, apart := false, narrowed := true }
def KeccakTurnsUptoSaid : Prop := keccakTurnsUptoRow.holds Try.pinned (OpenSpec.upto keccakTurnsSpec)

/-- 'distraintlaw03.KeccakWhole', WHERE WHAT IT READS IS OF BULK AT MOST 1048576: true; the input reads as it did. -/
def keccakWholeUptoRow : OpenClaim := { program := "ytolbdhgclcemlaa", sum := "9c37aa69d4c3703b248a9b907fface7cfe4d80576089894d600b857015f9ce49", func := "distraint/distraintlaw03.KeccakWhole", spec := "keccakWhole", unfollowed := true, recurses := true, apart := false, narrowed := true }
def KeccakWholeUptoSaid : Prop := keccakWholeUptoRow.holds Try.pinned (OpenSpec.upto keccakWholeSpec)

end Rows
end Go.Proofs.Ytolbdhgclcemlaa
