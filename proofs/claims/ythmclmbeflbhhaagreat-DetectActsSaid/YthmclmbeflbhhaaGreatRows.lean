/-
  No cell of these rows narrows 'for every input' (looked for: loops, veiled, ifaces, maps, wideKeys, modest, calm, conditions, laid).
  DERIVED. THE GIVEN ROWS OF THIS SEAT. 5 by the template 'for every input the law returns true; each argument reads behind the call as it read before'; 0 by the template 'total and deterministic' (their statements: YthmclmbeflbhhaaGreatTotals.lean).
  GIVEN WITH THE SEED: the statements are not yours to turn. If you find one false, say at which input.
  Laid BY PROGRAM, IN A SANDBOX (cutbox-rows.mjs): the forced cells as the released guide's own fill.sh prints them over the translation 05e9c3dae77e45c7… (all of the seat's roots in one cut). By AI agents, Wed Nov 11 2026. No macro, syntax, notation, axiom, sorry.
-/
import Derived.Test.YthmclmbeflbhhaaGreatChecked
import GoSem.Claim
import GoSem.ClaimJoined
import GoSem.ClaimMapViews
import Derived.JoinedTies
import Derived.KernelRfl
namespace Go.Proofs.YthmclmbeflbhhaaGreat
/- THE CELL 'sum', in the pinned program and in every row, IS THE sha256 OF THE DUMP (.gsa) THAT YthmclmbeflbhhaaGreatProg.lean LOADS. Nothing in Lean hashes anything: it is a label: what it is worth is what the hold of that sum in a sandbox is worth. -/
noncomputable def Tryz.pinned : Pinned := { name := "ythmclmbeflbhhaagreat", sum := "05e9c3dae77e45c704d7773c2b0cea247ccfd2f923ef84aad78b4c190cfb1144", checked := Tryz.checked }
namespace Rows
def none {H : Type} : Left H := { results := [], args := [] }

/-- 'distraintlaw21.DetectKnown': WHATEVER THE INPUT: true; the input reads as it did. -/
def detectKnownSpec : ChangeSpec := { name := "detectKnown", fn := fun _ => fun
  | [] => { results := [.lit (.bool true)], args := [] }
  | _ => none }
def detectKnownRow : OpenClaim := { program := "ythmclmbeflbhhaagreat", sum := "05e9c3dae77e45c704d7773c2b0cea247ccfd2f923ef84aad78b4c190cfb1144", func := "distraint/distraintlaw21.DetectKnown", spec := "detectKnown", unfollowed := true, recurses := true, apart := false }
def DetectKnownSaid : Prop := detectKnownRow.holds Tryz.pinned (OpenSpec.ofChange detectKnownSpec)

/-- ITS FALSE NEIGHBOUR: 'it returns false'. Refute it at one input. -/
def detectKnownWrong : ChangeSpec := { name := "detectKnown", fn := fun _ => fun
  | [] => { results := [.lit (.bool false)], args := [] }
  | _ => none }
def DetectKnownWrongFalsely : Prop := detectKnownRow.holds Tryz.pinned (OpenSpec.ofChange detectKnownWrong)

/-- 'distraintlaw21.DetectInnocent': WHATEVER THE INPUT: true; the input reads as it did. -/
def detectInnocentSpec : ChangeSpec := { name := "detectInnocent", fn := fun _ => fun
  | [d1, d2, d3, d4] => { results := [.lit (.bool true)], args := [d1, d2, d3, d4] }
  | _ => none }
def detectInnocentRow : OpenClaim := { program := "ythmclmbeflbhhaagreat", sum := "05e9c3dae77e45c704d7773c2b0cea247ccfd2f923ef84aad78b4c190cfb1144", func := "distraint/distraintlaw21.DetectInnocent", spec := "detectInnocent", unfollowed := true, recurses := true, apart := false }
def DetectInnocentSaid : Prop := detectInnocentRow.holds Tryz.pinned (OpenSpec.ofChange detectInnocentSpec)

/-- ITS FALSE NEIGHBOUR: 'it returns false'. Refute it at one input. -/
def detectInnocentWrong : ChangeSpec := { name := "detectInnocent", fn := fun _ => fun
  | [d1, d2, d3, d4] => { results := [.lit (.bool false)], args := [d1, d2, d3, d4] }
  | _ => none }
def DetectInnocentWrongFalsely : Prop := detectInnocentRow.holds Tryz.pinned (OpenSpec.ofChange detectInnocentWrong)

/-- 'distraintlaw21.DetectFinds': WHATEVER THE INPUT: true; the input reads as it did. -/
def detectFindsSpec : ChangeSpec := { name := "detectFinds", fn := fun _ => fun
  | [d1, d2, d3] => { results := [.lit (.bool true)], args := [d1, d2, d3] }
  | _ => none }
def detectFindsRow : OpenClaim := { program := "ythmclmbeflbhhaagreat", sum := "05e9c3dae77e45c704d7773c2b0cea247ccfd2f923ef84aad78b4c190cfb1144", func := "distraint/distraintlaw21.DetectFinds", spec := "detectFinds", unfollowed := true, recurses := true, apart := false }
def DetectFindsSaid : Prop := detectFindsRow.holds Tryz.pinned (OpenSpec.ofChange detectFindsSpec)

/-- ITS FALSE NEIGHBOUR: 'it returns false'. Refute it at one input. -/
def detectFindsWrong : ChangeSpec := { name := "detectFinds", fn := fun _ => fun
  | [d1, d2, d3] => { results := [.lit (.bool false)], args := [d1, d2, d3] }
  | _ => none }
def DetectFindsWrongFalsely : Prop := detectFindsRow.holds Tryz.pinned (OpenSpec.ofChange detectFindsWrong)

/-- 'distraintlaw21.DetectActs': WHATEVER THE INPUT: true; the input reads as it did. -/
def detectActsSpec : ChangeSpec := { name := "detectActs", fn := fun _ => fun
  | [d1, d2] => { results := [.lit (.bool true)], args := [d1, d2] }
  | _ => none }
def detectActsRow : OpenClaim := { program := "ythmclmbeflbhhaagreat", sum := "05e9c3dae77e45c704d7773c2b0cea247ccfd2f923ef84aad78b4c190cfb1144", func := "distraint/distraintlaw21.DetectActs", spec := "detectActs", unfollowed := true, recurses := true, apart := false }
def DetectActsSaid : Prop := detectActsRow.holds Tryz.pinned (OpenSpec.ofChange detectActsSpec)

/-- ITS FALSE NEIGHBOUR: 'it returns false'. Refute it at one input. -/
def detectActsWrong : ChangeSpec := { name := "detectActs", fn := fun _ => fun
  | [d1, d2] => { results := [.lit (.bool false)], args := [d1, d2] }
  | _ => none }
def DetectActsWrongFalsely : Prop := detectActsRow.holds Tryz.pinned (OpenSpec.ofChange detectActsWrong)

/-- 'distraintlaw21.DetectNone': WHATEVER THE INPUT: true; the input reads as it did. -/
def detectNoneSpec : ChangeSpec := { name := "detectNone", fn := fun _ => fun
  | [d] => { results := [.lit (.bool true)], args := [d] }
  | _ => none }
def detectNoneRow : OpenClaim := { program := "ythmclmbeflbhhaagreat", sum := "05e9c3dae77e45c704d7773c2b0cea247ccfd2f923ef84aad78b4c190cfb1144", func := "distraint/distraintlaw21.DetectNone", spec := "detectNone", unfollowed := true, recurses := true, apart := false }
def DetectNoneSaid : Prop := detectNoneRow.holds Tryz.pinned (OpenSpec.ofChange detectNoneSpec)

/-- ITS FALSE NEIGHBOUR: 'it returns false'. Refute it at one input. -/
def detectNoneWrong : ChangeSpec := { name := "detectNone", fn := fun _ => fun
  | [d] => { results := [.lit (.bool false)], args := [d] }
  | _ => none }
def DetectNoneWrongFalsely : Prop := detectNoneRow.holds Tryz.pinned (OpenSpec.ofChange detectNoneWrong)

/- THE SECOND FORM. 'bulk': how many values and letters a reading holds, each counted each time it is reached (what is shared counts as often as it is met; a slice's spare places count too). A statement '..UptoSaid' is the law's where the arguments, and the package variables that the reading takes, are together of bulk at most 1048576: NARROWER than '..Said'. Prove '..Said' where nothing that the law and all that it calls make is longer than what came in: it says more and counts as full. Else prove '..UptoSaid'. A law counts once. -/
mutual
def uptoBulk {H : Type} : DataW H → Nat
  | .lit (.string bytes) => bytes.length + 1
  | .lit _ => 1
  | .nil => 1
  | .ptr d => uptoBulk d + 1
  | .slice elems spare => uptoBulkAll elems + uptoBulkAll spare + 1
  | .agg parts => uptoBulkAll parts + 1
  | .iface _ d => uptoBulk d + 1
  | .map entries => uptoBulkEntries entries + 1
  | .held _ => 1
def uptoBulkAll {H : Type} : List (DataW H) → Nat
  | [] => 0
  | d :: r => uptoBulk d + uptoBulkAll r
def uptoBulkEntries {H : Type} : List (Lit × DataW H) → Nat
  | [] => 0
  | x :: r => uptoBulkEntry x + uptoBulkEntries r
def uptoBulkEntry {H : Type} : Lit × DataW H → Nat
  | (.string bytes, d) => bytes.length + uptoBulk d + 1
  | (_, d) => uptoBulk d + 1
 end
def uptoSmall : (H : Type) → List (DataW H) → Bool := fun _ ds => decide (uptoBulkAll ds ≤ 1048576)
def OpenSpec.upto (s : _root_.Go.ChangeSpec) : _root_.Go.OpenSpec := { _root_.Go.OpenSpec.ofChange s with cond := some uptoSmall }

/-- 'distraintlaw21.DetectKnown', WHERE WHAT IT READS IS OF BULK AT MOST 1048576: true; the input reads as it did. -/
def detectKnownUptoRow : OpenClaim := { program := "ythmclmbeflbhhaagreat", sum := "05e9c3dae77e45c704d7773c2b0cea247ccfd2f923ef84aad78b4c190cfb1144", func := "distraint/distraintlaw21.DetectKnown", spec := "detectKnown", unfollowed := true, recurses := true, apart := false, narrowed := true }
def DetectKnownUptoSaid : Prop := detectKnownUptoRow.holds Tryz.pinned (OpenSpec.upto detectKnownSpec)

/-- 'distraintlaw21.DetectInnocent', WHERE WHAT IT READS IS OF BULK AT MOST 1048576: true; the input reads as it did. -/
def detectInnocentUptoRow : OpenClaim := { program := "ythmclmbeflbhhaagreat", sum := "05e9c3dae77e45c704d7773c2b0cea247ccfd2f923ef84aad78b4c190cfb1144", func := "distraint/distraintlaw21.DetectInnocent", spec := "detectInnocent", unfollowed := true, recurses := true, apart := false, narrowed := true }
def DetectInnocentUptoSaid : Prop := detectInnocentUptoRow.holds Tryz.pinned (OpenSpec.upto detectInnocentSpec)

/-- 'distraintlaw21.DetectFinds', WHERE WHAT IT READS IS OF BULK AT MOST 1048576: true; the input reads as it did. -/
def detectFindsUptoRow : OpenClaim := { program := "ythmclmbeflbhhaagreat", sum := "05e9c3dae77e45c704d7773c2b0cea247ccfd2f923ef84aad78b4c190cfb1144", func := "distraint/distraintlaw21.DetectFinds", spec := "detectFinds", unfollowed := true, recurses := true, apart := false, narrowed := true }
def DetectFindsUptoSaid : Prop := detectFindsUptoRow.holds Tryz.pinned (OpenSpec.upto detectFindsSpec)

/-- 'distraintlaw21.DetectActs', WHERE WHAT IT READS IS OF BULK AT MOST 1048576: true; the input reads as it did. -/
def detectActsUptoRow : OpenClaim := { program := "ythmclmbeflbhhaagreat", sum := "05e9c3dae77e45c704d7773c2b0cea247ccfd2f923ef84aad78b4c190cfb1144", func := "distraint/distraintlaw21.DetectActs", spec := "detectActs", unfollowed := true, recurses := true, apart := false, narrowed := true }
def DetectActsUptoSaid : Prop := detectActsUptoRow.holds Tryz.pinned (OpenSpec.upto detectActsSpec)

/-- 'distraintlaw21.DetectNone', WHERE WHAT IT READS IS OF BULK AT MOST 1048576: true; the input reads as it did. -/
def detectNoneUptoRow : OpenClaim := { program := "ythmclmbeflbhhaagreat", sum := "05e9c3dae77e45c704d7773c2b0cea247ccfd2f923ef84aad78b4c190cfb1144", func := "distraint/distraintlaw21.DetectNone", spec := "detectNone", unfollowed := true, recurses := true, apart := false, narrowed := true }
def DetectNoneUptoSaid : Prop := detectNoneUptoRow.holds Tryz.pinned (OpenSpec.upto detectNoneSpec)

end Rows
end Go.Proofs.YthmclmbeflbhhaaGreat
