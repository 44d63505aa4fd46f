/-
  DERIVED. GIVEN WITH THE SEED: THE CARDS: each row of YtghohakbepeffaaGreatDoorRows.lean that lists a variable, with what it lists TIED to the program's text (the seventh form; the later family's looks); each row that meets fmt, with fmt's text TOLD by the authors' own Lean function (tested against real Go, not proved from fmt's source: count such statements apart). THE CARD IS WHAT COUNTS. Prove the row's statement (the work); the ties are given (YtghohakbepeffaaGreatDoorTie.lean); close each card by the builder's one call (the guide's Derived/Test/ToyasCard.lean, 'card_holds'). Laid BY PROGRAM, IN A SANDBOX (cutbox-door.mjs). By AI agents, Wed Nov 11 2026. No macro, syntax, notation, axiom, sorry.
-/
import Derived.Test.YtghohakbepeffaaGreatDoorRows
import GoSem.ClaimSeven
namespace Go.Proofs.YtghohakbepeffaaGreatDoor
namespace Rows

/-- THE TIED CARD OF 'distraintlaw23.PenaltyBytes'. -/
def penaltyBytesCard : Claim7 := { stood := { row := penaltyBytesRow, standIns := [], harness := (true, "3d5c771abd8131867ef2d9ed0c56632e10bd21a59c4efc9befad14038798cd09"), looks := true }, kinds := [], alts := [], laidByText := true, laidKinds := [.handle], laidTests := true, laidLooks := .later }
def PenaltyBytesCardSaid : Prop := Claim7.holds Tryz.pinned (.plain (OpenSpec.ofChange penaltyBytesSpec)) penaltyBytesCard

/-- THE TIED CARD OF 'distraintlaw23.PenaltyKnown'. -/
def penaltyKnownCard : Claim7 := { stood := { row := penaltyKnownRow, standIns := [], harness := (true, "3d5c771abd8131867ef2d9ed0c56632e10bd21a59c4efc9befad14038798cd09"), looks := true }, kinds := [], alts := [], laidByText := true, laidKinds := [.handle], laidTests := true, laidLooks := .later }
def PenaltyKnownCardSaid : Prop := Claim7.holds Tryz.pinned (.plain (OpenSpec.ofChange penaltyKnownSpec)) penaltyKnownCard

/-- THE TIED CARD OF 'distraintlaw23.PenaltyGrows'. -/
def penaltyGrowsCard : Claim7 := { stood := { row := penaltyGrowsRow, standIns := [], harness := (true, "3d5c771abd8131867ef2d9ed0c56632e10bd21a59c4efc9befad14038798cd09"), looks := true }, kinds := [], alts := [], laidByText := true, laidKinds := [.handle], laidTests := true, laidLooks := .later }
def PenaltyGrowsCardSaid : Prop := Claim7.holds Tryz.pinned (.plain (OpenSpec.ofChange penaltyGrowsSpec)) penaltyGrowsCard

/-- THE TIED CARD OF 'distraintlaw23.PenaltyCounts'. -/
def penaltyCountsCard : Claim7 := { stood := { row := penaltyCountsRow, standIns := [], harness := (true, "3d5c771abd8131867ef2d9ed0c56632e10bd21a59c4efc9befad14038798cd09"), looks := true }, kinds := [], alts := [], laidByText := true, laidKinds := [.handle], laidTests := true, laidLooks := .later }
def PenaltyCountsCardSaid : Prop := Claim7.holds Tryz.pinned (.plain (OpenSpec.ofChange penaltyCountsSpec)) penaltyCountsCard

/-- THE TIED CARD OF 'distraintlaw23.PenaltyBack'. -/
def penaltyBackCard : Claim7 := { stood := { row := penaltyBackRow, standIns := [], harness := (true, "3d5c771abd8131867ef2d9ed0c56632e10bd21a59c4efc9befad14038798cd09"), looks := true }, kinds := [], alts := [], laidByText := true, laidKinds := [.handle], laidTests := true, laidLooks := .later }
def PenaltyBackCardSaid : Prop := Claim7.holds Tryz.pinned (.plain (OpenSpec.ofChange penaltyBackSpec)) penaltyBackCard

/-- THE SECOND FORM's CARD OF 'distraintlaw23.PenaltyBytes'. -/
def penaltyBytesUptoCard : Claim7 := { stood := { row := penaltyBytesUptoRow, standIns := [], harness := (true, "3d5c771abd8131867ef2d9ed0c56632e10bd21a59c4efc9befad14038798cd09"), looks := true }, kinds := [], alts := [], laidByText := true, laidKinds := [.handle], laidTests := true, laidLooks := .later }
def PenaltyBytesUptoCardSaid : Prop := Claim7.holds Tryz.pinned (.plain (OpenSpec.upto penaltyBytesSpec)) penaltyBytesUptoCard

/-- THE SECOND FORM's CARD OF 'distraintlaw23.PenaltyKnown'. -/
def penaltyKnownUptoCard : Claim7 := { stood := { row := penaltyKnownUptoRow, standIns := [], harness := (true, "3d5c771abd8131867ef2d9ed0c56632e10bd21a59c4efc9befad14038798cd09"), looks := true }, kinds := [], alts := [], laidByText := true, laidKinds := [.handle], laidTests := true, laidLooks := .later }
def PenaltyKnownUptoCardSaid : Prop := Claim7.holds Tryz.pinned (.plain (OpenSpec.upto penaltyKnownSpec)) penaltyKnownUptoCard

/-- THE SECOND FORM's CARD OF 'distraintlaw23.PenaltyGrows'. -/
def penaltyGrowsUptoCard : Claim7 := { stood := { row := penaltyGrowsUptoRow, standIns := [], harness := (true, "3d5c771abd8131867ef2d9ed0c56632e10bd21a59c4efc9befad14038798cd09"), looks := true }, kinds := [], alts := [], laidByText := true, laidKinds := [.handle], laidTests := true, laidLooks := .later }
def PenaltyGrowsUptoCardSaid : Prop := Claim7.holds Tryz.pinned (.plain (OpenSpec.upto penaltyGrowsSpec)) penaltyGrowsUptoCard

/-- THE SECOND FORM's CARD OF 'distraintlaw23.PenaltyCounts'. -/
def penaltyCountsUptoCard : Claim7 := { stood := { row := penaltyCountsUptoRow, standIns := [], harness := (true, "3d5c771abd8131867ef2d9ed0c56632e10bd21a59c4efc9befad14038798cd09"), looks := true }, kinds := [], alts := [], laidByText := true, laidKinds := [.handle], laidTests := true, laidLooks := .later }
def PenaltyCountsUptoCardSaid : Prop := Claim7.holds Tryz.pinned (.plain (OpenSpec.upto penaltyCountsSpec)) penaltyCountsUptoCard

/-- THE SECOND FORM's CARD OF 'distraintlaw23.PenaltyBack'. -/
def penaltyBackUptoCard : Claim7 := { stood := { row := penaltyBackUptoRow, standIns := [], harness := (true, "3d5c771abd8131867ef2d9ed0c56632e10bd21a59c4efc9befad14038798cd09"), looks := true }, kinds := [], alts := [], laidByText := true, laidKinds := [.handle], laidTests := true, laidLooks := .later }
def PenaltyBackUptoCardSaid : Prop := Claim7.holds Tryz.pinned (.plain (OpenSpec.upto penaltyBackSpec)) penaltyBackUptoCard
end Rows
end Go.Proofs.YtghohakbepeffaaGreatDoor
