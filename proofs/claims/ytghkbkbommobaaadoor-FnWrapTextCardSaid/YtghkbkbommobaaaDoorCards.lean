/-
  DERIVED. GIVEN WITH THE SEED: THE CARDS: each row of YtghkbkbommobaaaDoorRows.lean that lists a variable, with what it lists TIED to the program's text (the seventh form; the later family's looks); each row that meets fmt, with fmt's text TOLD by the authors' own Lean function (tested against real Go, not proved from fmt's source: count such statements apart). THE CARD IS WHAT COUNTS. Prove the row's statement (the work); the ties are given (YtghkbkbommobaaaDoorTie.lean); close each card by the builder's one call (the guide's Derived/Test/ToyasCard.lean, 'card_holds'). Laid BY PROGRAM, IN A SANDBOX (cutbox-door.mjs). By AI agents, Wed Nov 11 2026. No macro, syntax, notation, axiom, sorry.
-/
import Derived.Test.YtghkbkbommobaaaDoorRows
import GoSem.ClaimSeven
namespace Go.Proofs.YtghkbkbommobaaaDoor
namespace Rows

/-- THE TIED CARD OF 'laws.FnExactLineEdits'. -/
def fnExactLineEditsCard : Claim7 := { stood := { row := fnExactLineEditsRow, standIns := [], harness := (true, "f14851a25bcb42c8c988296c7470e9d1845259d84b78eb585915e882a938cce4"), looks := false }, kinds := [], alts := [], laidByText := true, laidKinds := [.data, .pinned], laidTests := true, laidLooks := .later }
def FnExactLineEditsCardSaid : Prop := Claim7.holds Tryd.pinned (.plain (OpenSpec.ofChange fnExactLineEditsSpec)) fnExactLineEditsCard

/-- THE TIED CARD OF 'laws.FnLineEdits'. -/
def fnLineEditsCard : Claim7 := { stood := { row := fnLineEditsRow, standIns := [], harness := (true, "f14851a25bcb42c8c988296c7470e9d1845259d84b78eb585915e882a938cce4"), looks := false }, kinds := [], alts := [], laidByText := true, laidKinds := [.data, .pinned], laidTests := true, laidLooks := .later }
def FnLineEditsCardSaid : Prop := Claim7.holds Tryd.pinned (.plain (OpenSpec.ofChange fnLineEditsSpec)) fnLineEditsCard

/-- THE TIED CARD OF 'laws.FnExactWrapText'. -/
def fnExactWrapTextCard : Claim7 := { stood := { row := fnExactWrapTextRow, standIns := [], harness := (true, "f14851a25bcb42c8c988296c7470e9d1845259d84b78eb585915e882a938cce4"), looks := false }, kinds := [], alts := [], laidByText := true, laidKinds := [.data, .pinned], laidTests := true, laidLooks := .later }
def FnExactWrapTextCardSaid : Prop := Claim7.holds Tryd.pinned (.plain (OpenSpec.ofChange fnExactWrapTextSpec)) fnExactWrapTextCard

/-- THE TIED CARD OF 'laws.FnWrapText'. -/
def fnWrapTextCard : Claim7 := { stood := { row := fnWrapTextRow, standIns := [], harness := (true, "f14851a25bcb42c8c988296c7470e9d1845259d84b78eb585915e882a938cce4"), looks := false }, kinds := [], alts := [], laidByText := true, laidKinds := [.data, .pinned], laidTests := true, laidLooks := .later }
def FnWrapTextCardSaid : Prop := Claim7.holds Tryd.pinned (.plain (OpenSpec.ofChange fnWrapTextSpec)) fnWrapTextCard

/-- THE SECOND FORM's CARD OF 'laws.FnExactLineEdits'. -/
def fnExactLineEditsUptoCard : Claim7 := { stood := { row := fnExactLineEditsUptoRow, standIns := [], harness := (true, "f14851a25bcb42c8c988296c7470e9d1845259d84b78eb585915e882a938cce4"), looks := false }, kinds := [], alts := [], laidByText := true, laidKinds := [.data, .pinned], laidTests := true, laidLooks := .later }
def FnExactLineEditsUptoCardSaid : Prop := Claim7.holds Tryd.pinned (.plain (OpenSpec.upto fnExactLineEditsSpec)) fnExactLineEditsUptoCard

/-- THE SECOND FORM's CARD OF 'laws.FnLineEdits'. -/
def fnLineEditsUptoCard : Claim7 := { stood := { row := fnLineEditsUptoRow, standIns := [], harness := (true, "f14851a25bcb42c8c988296c7470e9d1845259d84b78eb585915e882a938cce4"), looks := false }, kinds := [], alts := [], laidByText := true, laidKinds := [.data, .pinned], laidTests := true, laidLooks := .later }
def FnLineEditsUptoCardSaid : Prop := Claim7.holds Tryd.pinned (.plain (OpenSpec.upto fnLineEditsSpec)) fnLineEditsUptoCard

/-- THE SECOND FORM's CARD OF 'laws.FnExactWrapText'. -/
def fnExactWrapTextUptoCard : Claim7 := { stood := { row := fnExactWrapTextUptoRow, standIns := [], harness := (true, "f14851a25bcb42c8c988296c7470e9d1845259d84b78eb585915e882a938cce4"), looks := false }, kinds := [], alts := [], laidByText := true, laidKinds := [.data, .pinned], laidTests := true, laidLooks := .later }
def FnExactWrapTextUptoCardSaid : Prop := Claim7.holds Tryd.pinned (.plain (OpenSpec.upto fnExactWrapTextSpec)) fnExactWrapTextUptoCard

/-- THE SECOND FORM's CARD OF 'laws.FnWrapText'. -/
def fnWrapTextUptoCard : Claim7 := { stood := { row := fnWrapTextUptoRow, standIns := [], harness := (true, "f14851a25bcb42c8c988296c7470e9d1845259d84b78eb585915e882a938cce4"), looks := false }, kinds := [], alts := [], laidByText := true, laidKinds := [.data, .pinned], laidTests := true, laidLooks := .later }
def FnWrapTextUptoCardSaid : Prop := Claim7.holds Tryd.pinned (.plain (OpenSpec.upto fnWrapTextSpec)) fnWrapTextUptoCard
end Rows
end Go.Proofs.YtghkbkbommobaaaDoor
