/-
  No cell of these rows narrows 'for every input' (looked for: loops, veiled, ifaces, maps, wideKeys, modest, calm, conditions, laid).
  DERIVED. THE GIVEN ROWS OF THIS SEAT. 5 by the template 'for every input the law returns true; each argument reads behind the call as it read before'; 0 by the template 'total and deterministic' (their statements: YtkkecoodefjnbaaTotals.lean).
  GIVEN WITH THE SEED: the statements are not yours to turn. If you find one false, say at which input.
  Laid BY PROGRAM, IN A SANDBOX (cutbox-rows.mjs): the forced cells as the released guide's own fill.sh prints them over the translation 51d697bfbd56714f… (all of the seat's roots in one cut). By AI agents, Wed Nov 11 2026. No macro, syntax, notation, axiom, sorry.
-/
import Derived.Test.YtkkecoodefjnbaaChecked
import GoSem.Claim
import GoSem.ClaimJoined
import GoSem.ClaimMapViews
import Derived.JoinedTies
import Derived.KernelRfl
namespace Go.Proofs.Ytkkecoodefjnbaa
/- THE CELL 'sum', in the pinned program and in every row, IS THE sha256 OF THE DUMP (.gsa) THAT YtkkecoodefjnbaaProg.lean LOADS. Nothing in Lean hashes anything: it is a label: what it is worth is what the hold of that sum in a sandbox is worth. -/
noncomputable def Try.pinned : Pinned := { name := "ytkkecoodefjnbaa", sum := "51d697bfbd56714f62a111bdef1394d8d2acaa5a11a06deaf06a648774f45d96", checked := Try.checked }
namespace Rows
def none {H : Type} : Left H := { results := [], args := [] }

/-- 'distraintlaw19.SpanKnown': WHATEVER THE INPUT: true; the input reads as it did. -/
def spanKnownSpec : ChangeSpec := { name := "spanKnown", fn := fun _ => fun
  | [] => { results := [.lit (.bool true)], args := [] }
  | _ => none }
def spanKnownRow : OpenClaim := { program := "ytkkecoodefjnbaa", sum := "51d697bfbd56714f62a111bdef1394d8d2acaa5a11a06deaf06a648774f45d96", func := "distraint/distraintlaw19.SpanKnown", spec := "spanKnown", unfollowed := true, recurses := true, apart := false }
def SpanKnownSaid : Prop := spanKnownRow.holds Try.pinned (OpenSpec.ofChange spanKnownSpec)

/-- ITS FALSE NEIGHBOUR: 'it returns false'. Refute it at one input. -/
def spanKnownWrong : ChangeSpec := { name := "spanKnown", fn := fun _ => fun
  | [] => { results := [.lit (.bool false)], args := [] }
  | _ => none }
def SpanKnownWrongFalsely : Prop := spanKnownRow.holds Try.pinned (OpenSpec.ofChange spanKnownWrong)

/-- 'distraintlaw19.SpanFinds': WHATEVER THE INPUT: true; the input reads as it did. -/
def spanFindsSpec : ChangeSpec := { name := "spanFinds", fn := fun _ => fun
  | [d1, d2, d3, d4] => { results := [.lit (.bool true)], args := [d1, d2, d3, d4] }
  | _ => none }
def spanFindsRow : OpenClaim := { program := "ytkkecoodefjnbaa", sum := "51d697bfbd56714f62a111bdef1394d8d2acaa5a11a06deaf06a648774f45d96", func := "distraint/distraintlaw19.SpanFinds", spec := "spanFinds", unfollowed := true, recurses := true, apart := false }
def SpanFindsSaid : Prop := spanFindsRow.holds Try.pinned (OpenSpec.ofChange spanFindsSpec)

/-- ITS FALSE NEIGHBOUR: 'it returns false'. Refute it at one input. -/
def spanFindsWrong : ChangeSpec := { name := "spanFinds", fn := fun _ => fun
  | [d1, d2, d3, d4] => { results := [.lit (.bool false)], args := [d1, d2, d3, d4] }
  | _ => none }
def SpanFindsWrongFalsely : Prop := spanFindsRow.holds Try.pinned (OpenSpec.ofChange spanFindsWrong)

/-- 'distraintlaw19.SpanActs': WHATEVER THE INPUT: true; the input reads as it did. -/
def spanActsSpec : ChangeSpec := { name := "spanActs", fn := fun _ => fun
  | [d1, d2] => { results := [.lit (.bool true)], args := [d1, d2] }
  | _ => none }
def spanActsRow : OpenClaim := { program := "ytkkecoodefjnbaa", sum := "51d697bfbd56714f62a111bdef1394d8d2acaa5a11a06deaf06a648774f45d96", func := "distraint/distraintlaw19.SpanActs", spec := "spanActs", unfollowed := true, recurses := true, apart := false }
def SpanActsSaid : Prop := spanActsRow.holds Try.pinned (OpenSpec.ofChange spanActsSpec)

/-- ITS FALSE NEIGHBOUR: 'it returns false'. Refute it at one input. -/
def spanActsWrong : ChangeSpec := { name := "spanActs", fn := fun _ => fun
  | [d1, d2] => { results := [.lit (.bool false)], args := [d1, d2] }
  | _ => none }
def SpanActsWrongFalsely : Prop := spanActsRow.holds Try.pinned (OpenSpec.ofChange spanActsWrong)

/-- 'distraintlaw19.SpanNone': WHATEVER THE INPUT: true; the input reads as it did. -/
def spanNoneSpec : ChangeSpec := { name := "spanNone", fn := fun _ => fun
  | [d1, d2] => { results := [.lit (.bool true)], args := [d1, d2] }
  | _ => none }
def spanNoneRow : OpenClaim := { program := "ytkkecoodefjnbaa", sum := "51d697bfbd56714f62a111bdef1394d8d2acaa5a11a06deaf06a648774f45d96", func := "distraint/distraintlaw19.SpanNone", spec := "spanNone", unfollowed := true, recurses := true, apart := false }
def SpanNoneSaid : Prop := spanNoneRow.holds Try.pinned (OpenSpec.ofChange spanNoneSpec)

/-- ITS FALSE NEIGHBOUR: 'it returns false'. Refute it at one input. -/
def spanNoneWrong : ChangeSpec := { name := "spanNone", fn := fun _ => fun
  | [d1, d2] => { results := [.lit (.bool false)], args := [d1, d2] }
  | _ => none }
def SpanNoneWrongFalsely : Prop := spanNoneRow.holds Try.pinned (OpenSpec.ofChange spanNoneWrong)

/-- 'distraintlaw19.SpanOrder': WHATEVER THE INPUT: true; the input reads as it did. -/
def spanOrderSpec : ChangeSpec := { name := "spanOrder", fn := fun _ => fun
  | [d1, d2, d3] => { results := [.lit (.bool true)], args := [d1, d2, d3] }
  | _ => none }
def spanOrderRow : OpenClaim := { program := "ytkkecoodefjnbaa", sum := "51d697bfbd56714f62a111bdef1394d8d2acaa5a11a06deaf06a648774f45d96", func := "distraint/distraintlaw19.SpanOrder", spec := "spanOrder", unfollowed := true, recurses := true, apart := false }
def SpanOrderSaid : Prop := spanOrderRow.holds Try.pinned (OpenSpec.ofChange spanOrderSpec)

/-- ITS FALSE NEIGHBOUR: 'it returns false'. Refute it at one input. -/
def spanOrderWrong : ChangeSpec := { name := "spanOrder", fn := fun _ => fun
  | [d1, d2, d3] => { results := [.lit (.bool false)], args := [d1, d2, d3] }
  | _ => none }
def SpanOrderWrongFalsely : Prop := spanOrderRow.holds Try.pinned (OpenSpec.ofChange spanOrderWrong)

/- THE SECOND FORM. 'bulk': how many values and letters a reading holds, each counted each time it is reached (what is shared counts as often as it is met; a slice's spare places count too). A statement '..UptoSaid' is the law's where the arguments, and the package variables that the reading takes, are together of bulk at most 1048576: NARROWER than '..Said'. Prove '..Said' where nothing that the law and all that it calls make is longer than what came in: it says more and counts as full. Else prove '..UptoSaid'. A law counts once. -/
mutual
def uptoBulk {H : Type} : DataW H → Nat
  | .lit (.string bytes) => bytes.length + 1
  | .lit _ => 1
  | .nil => 1
  | .ptr d => uptoBulk d + 1
  | .slice elems spare => uptoBulkAll elems + uptoBulkAll spare + 1
  | .agg parts => uptoBulkAll parts + 1
  | .iface _ d => uptoBulk d + 1
  | .map entries => uptoBulkEntries entries + 1
  | .held _ => 1
def uptoBulkAll {H : Type} : List (DataW H) → Nat
  | [] => 0
  | d :: r => uptoBulk d + uptoBulkAll r
def uptoBulkEntries {H : Type} : List (Lit × DataW H) → Nat
  | [] => 0
  | x :: r => uptoBulkEntry x + uptoBulkEntries r
def uptoBulkEntry {H : Type} : Lit × DataW H → Nat
  | (.string bytes, d) => bytes.length + uptoBulk d + 1
  | (_, d) => uptoBulk d + 1
 end
def uptoSmall : (H : Type) → List (DataW H) → Bool := fun _ ds => decide (uptoBulkAll ds ≤ 1048576)
def OpenSpec.upto (s : _root_.Go.ChangeSpec) : _root_.Go.OpenSpec := { _root_.Go.OpenSpec.ofChange s with cond := some uptoSmall }

/-- 'distraintlaw19.SpanKnown', WHERE WHAT IT READS IS OF BULK AT MOST 1048576: true; the input reads as it did. -/
def spanKnownUptoRow : OpenClaim := { program := "ytkkecoodefjnbaa", sum := "51d697bfbd56714f62a111bdef1394d8d2acaa5a11a06deaf06a648774f45d96", func := "distraint/distraintlaw19.SpanKnown", spec := "spanKnown", unfollowed := true, recurses := true, apart := false, narrowed := true }
def SpanKnownUptoSaid : Prop := spanKnownUptoRow.holds Try.pinned (OpenSpec.upto spanKnownSpec)

/-- 'distraintlaw19.SpanFinds', WHERE WHAT IT READS IS OF BULK AT MOST 1048576: true; the input reads as it did. -/
def spanFindsUptoRow : OpenClaim := { program := "ytkkecoodefjnbaa", sum := "51d697bfbd56714f62a111bdef1394d8d2acaa5a11a06deaf06a648774f45d96", func := "distraint/distraintlaw19.SpanFinds", spec := "spanFinds", unfollowed := true, recurses := true, apart := false, narrowed := true }
def SpanFindsUptoSaid : Prop := spanFindsUptoRow.holds Try.pinned (OpenSpec.upto spanFindsSpec)

/-- 'distraintlaw19.SpanActs', WHERE WHAT IT READS IS OF BULK AT MOST 1048576: true; the input reads as it did. -/
def spanActsUptoRow : OpenClaim := { program := "ytkkecoodefjnbaa", sum := "51d697bfbd56714f62a111bdef1394d8d2acaa5a11a06deaf06a648774f45d96", func := "distraint/distraintlaw19.SpanActs", spec := "spanActs", unfollowed := true, recurses := true, apart := false, narrowed := true }
def SpanActsUptoSaid : Prop := spanActsUptoRow.holds Try.pinned (OpenSpec.upto spanActsSpec)

/-- 'distraintlaw19.SpanNone', WHERE WHAT IT READS IS OF BULK AT MOST 1048576: true; the input reads as it did. -/
def spanNoneUptoRow : OpenClaim := { program := "ytkkecoodefjnbaa", sum := "51d697bfbd56714f62a111bdef1394d8d2acaa5a11a06deaf06a648774f45d96", func := "distraint/distraintlaw19.SpanNone", spec := "spanNone", unfollowed := true, recurses := true, apart := false, narrowed := true }
def SpanNoneUptoSaid : Prop := spanNoneUptoRow.holds Try.pinned (OpenSpec.upto spanNoneSpec)

/-- 'distraintlaw19.SpanOrder', WHERE WHAT IT READS IS OF BULK AT MOST 1048576: true; the input reads as it did. -/
def spanOrderUptoRow : OpenClaim := { program := "ytkkecoodefjnbaa", sum := "51d697bfbd56714f62a111bdef1394d8d2acaa5a11a06deaf06a648774f45d96", func := "distraint/distraintlaw19.SpanOrder", spec := "spanOrder", unfollowed := true, recurses := true, apart := false, narrowed := true }
def SpanOrderUptoSaid : Prop := spanOrderUptoRow.holds Try.pinned (OpenSpec.upto spanOrderSpec)

end Rows
end Go.Proofs.Ytkkecoodefjnbaa
