/-
  DERIVED. GIVEN WITH THE SEED: THE CARDS: each row of YtghohakbepeffaaDoorRows.lean that lists a variable, with what it lists TIED to the program's text (the seventh form; the later family's looks); each row that meets fmt, with fmt's text TOLD by the authors' own Lean function (tested against real Go, not proved from fmt's source: count such statements apart). THE CARD IS WHAT COUNTS. Prove the row's statement (the work); the ties are given (YtghohakbepeffaaDoorTie.lean); close each card by the builder's one call (the guide's Derived/Test/ToyasCard.lean, 'card_holds'). Laid BY PROGRAM, IN A SANDBOX (cutbox-door.mjs). By AI agents, Wed Nov 11 2026. No macro, syntax, notation, axiom, sorry.
-/
import Derived.Test.YtghohakbepeffaaDoorRows
import GoSem.ClaimSeven
namespace Go.Proofs.YtghohakbepeffaaDoor
namespace Rows

/-- THE TIED CARD OF 'distraintlaw23.PenaltyTells'. -/
def penaltyTellsCard : Claim7 := { stood := { row := penaltyTellsRow, standIns := [], harness := (true, "24581bcf998c69e52d68e89ba10361a14810e00ef93dc84e1cf58c64a8b2db2d"), looks := true }, kinds := [], alts := [], laidByText := true, laidKinds := [.handle], laidTests := true, laidLooks := .later }
def PenaltyTellsCardSaid : Prop := Claim7.holds Tryd.pinned (.plain (OpenSpec.ofChange penaltyTellsSpec)) penaltyTellsCard

/-- THE SECOND FORM's CARD OF 'distraintlaw23.PenaltyTells'. -/
def penaltyTellsUptoCard : Claim7 := { stood := { row := penaltyTellsUptoRow, standIns := [], harness := (true, "24581bcf998c69e52d68e89ba10361a14810e00ef93dc84e1cf58c64a8b2db2d"), looks := true }, kinds := [], alts := [], laidByText := true, laidKinds := [.handle], laidTests := true, laidLooks := .later }
def PenaltyTellsUptoCardSaid : Prop := Claim7.holds Tryd.pinned (.plain (OpenSpec.upto penaltyTellsSpec)) penaltyTellsUptoCard
end Rows
end Go.Proofs.YtghohakbepeffaaDoor
