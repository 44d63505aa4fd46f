/-
  DERIVED. GIVEN WITH THE SEED: THE CARDS: each row of YtpflmldmbpnllaaDoorRows.lean that lists a variable, with what it lists TIED to the program's text (the seventh form; the later family's looks); each row that meets fmt, with fmt's text TOLD by the authors' own Lean function (tested against real Go, not proved from fmt's source: count such statements apart). THE CARD IS WHAT COUNTS. Prove the row's statement (the work); the ties are given (YtpflmldmbpnllaaDoorTie.lean); close each card by the builder's one call (the guide's Derived/Test/ToyasCard.lean, 'card_holds'). Laid BY PROGRAM, IN A SANDBOX (cutbox-door.mjs). By AI agents, Wed Nov 11 2026. No macro, syntax, notation, axiom, sorry.
-/
import Derived.Test.YtpflmldmbpnllaaDoorRows
import GoSem.ClaimSeven
namespace Go.Proofs.YtpflmldmbpnllaaDoor
namespace Rows

/-- THE TIED CARD OF 'distraintlaw07.ParamsTell'. -/
def paramsTellCard : Claim7 := { stood := { row := paramsTellRow, standIns := [], harness := (true, "7b25f5b4f5340dfbe4a5ed5d9b524c08d0c1377ee17e138b2f5ca39dfb92fa89"), looks := false }, kinds := [], alts := [], laidByText := true, laidKinds := [.data, .data, .data], laidTests := true, laidLooks := .later }
def ParamsTellCardSaid : Prop := Claim7.holds Tryd.pinned (.plain (OpenSpec.ofChange paramsTellSpec)) paramsTellCard

/-- THE TIED CARD OF 'distraintlaw07.ParamsForms'. -/
def paramsFormsCard : Claim7 := { stood := { row := paramsFormsRow, standIns := [], harness := (true, "7b25f5b4f5340dfbe4a5ed5d9b524c08d0c1377ee17e138b2f5ca39dfb92fa89"), looks := false }, kinds := [], alts := [], laidByText := true, laidKinds := [.data, .data, .data, .data, .pinned], laidTests := true, laidLooks := .later }
def ParamsFormsCardSaid : Prop := Claim7.holds Tryd.pinned (.plain (OpenSpec.ofChange paramsFormsSpec)) paramsFormsCard

/-- THE TIED CARD OF 'distraintlaw07.ParamsKnown'. -/
def paramsKnownCard : Claim7 := { stood := { row := paramsKnownRow, standIns := [], harness := (true, "7b25f5b4f5340dfbe4a5ed5d9b524c08d0c1377ee17e138b2f5ca39dfb92fa89"), looks := false }, kinds := [], alts := [], laidByText := true, laidKinds := [.data, .data, .data, .data, .pinned], laidTests := true, laidLooks := .later }
def ParamsKnownCardSaid : Prop := Claim7.holds Tryd.pinned (.plain (OpenSpec.ofChange paramsKnownSpec)) paramsKnownCard

/-- THE TIED CARD OF 'distraintlaw07.ParamsBack'. -/
def paramsBackCard : Claim7 := { stood := { row := paramsBackRow, standIns := [], harness := (true, "7b25f5b4f5340dfbe4a5ed5d9b524c08d0c1377ee17e138b2f5ca39dfb92fa89"), looks := false }, kinds := [], alts := [], laidByText := true, laidKinds := [.data, .data, .data, .data, .pinned], laidTests := true, laidLooks := .later }
def ParamsBackCardSaid : Prop := Claim7.holds Tryd.pinned (.plain (OpenSpec.ofChange paramsBackSpec)) paramsBackCard

/-- THE TIED CARD OF 'distraintlaw07.ParamsSet'. -/
def paramsSetCard : Claim7 := { stood := { row := paramsSetRow, standIns := [], harness := (true, "7b25f5b4f5340dfbe4a5ed5d9b524c08d0c1377ee17e138b2f5ca39dfb92fa89"), looks := false }, kinds := [], alts := [], laidByText := true, laidKinds := [.data, .data, .data, .data, .pinned], laidTests := true, laidLooks := .later }
def ParamsSetCardSaid : Prop := Claim7.holds Tryd.pinned (.plain (OpenSpec.ofChange paramsSetSpec)) paramsSetCard

/-- THE SECOND FORM's CARD OF 'distraintlaw07.ParamsTell'. -/
def paramsTellUptoCard : Claim7 := { stood := { row := paramsTellUptoRow, standIns := [], harness := (true, "7b25f5b4f5340dfbe4a5ed5d9b524c08d0c1377ee17e138b2f5ca39dfb92fa89"), looks := false }, kinds := [], alts := [], laidByText := true, laidKinds := [.data, .data, .data], laidTests := true, laidLooks := .later }
def ParamsTellUptoCardSaid : Prop := Claim7.holds Tryd.pinned (.plain (OpenSpec.upto paramsTellSpec)) paramsTellUptoCard

/-- THE SECOND FORM's CARD OF 'distraintlaw07.ParamsForms'. -/
def paramsFormsUptoCard : Claim7 := { stood := { row := paramsFormsUptoRow, standIns := [], harness := (true, "7b25f5b4f5340dfbe4a5ed5d9b524c08d0c1377ee17e138b2f5ca39dfb92fa89"), looks := false }, kinds := [], alts := [], laidByText := true, laidKinds := [.data, .data, .data, .data, .pinned], laidTests := true, laidLooks := .later }
def ParamsFormsUptoCardSaid : Prop := Claim7.holds Tryd.pinned (.plain (OpenSpec.upto paramsFormsSpec)) paramsFormsUptoCard

/-- THE SECOND FORM's CARD OF 'distraintlaw07.ParamsKnown'. -/
def paramsKnownUptoCard : Claim7 := { stood := { row := paramsKnownUptoRow, standIns := [], harness := (true, "7b25f5b4f5340dfbe4a5ed5d9b524c08d0c1377ee17e138b2f5ca39dfb92fa89"), looks := false }, kinds := [], alts := [], laidByText := true, laidKinds := [.data, .data, .data, .data, .pinned], laidTests := true, laidLooks := .later }
def ParamsKnownUptoCardSaid : Prop := Claim7.holds Tryd.pinned (.plain (OpenSpec.upto paramsKnownSpec)) paramsKnownUptoCard

/-- THE SECOND FORM's CARD OF 'distraintlaw07.ParamsBack'. -/
def paramsBackUptoCard : Claim7 := { stood := { row := paramsBackUptoRow, standIns := [], harness := (true, "7b25f5b4f5340dfbe4a5ed5d9b524c08d0c1377ee17e138b2f5ca39dfb92fa89"), looks := false }, kinds := [], alts := [], laidByText := true, laidKinds := [.data, .data, .data, .data, .pinned], laidTests := true, laidLooks := .later }
def ParamsBackUptoCardSaid : Prop := Claim7.holds Tryd.pinned (.plain (OpenSpec.upto paramsBackSpec)) paramsBackUptoCard

/-- THE SECOND FORM's CARD OF 'distraintlaw07.ParamsSet'. -/
def paramsSetUptoCard : Claim7 := { stood := { row := paramsSetUptoRow, standIns := [], harness := (true, "7b25f5b4f5340dfbe4a5ed5d9b524c08d0c1377ee17e138b2f5ca39dfb92fa89"), looks := false }, kinds := [], alts := [], laidByText := true, laidKinds := [.data, .data, .data, .data, .pinned], laidTests := true, laidLooks := .later }
def ParamsSetUptoCardSaid : Prop := Claim7.holds Tryd.pinned (.plain (OpenSpec.upto paramsSetSpec)) paramsSetUptoCard
end Rows
end Go.Proofs.YtpflmldmbpnllaaDoor
