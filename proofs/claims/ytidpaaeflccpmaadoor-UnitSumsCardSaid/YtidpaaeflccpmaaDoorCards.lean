/-
  DERIVED. GIVEN WITH THE SEED: THE CARDS: each row of YtidpaaeflccpmaaDoorRows.lean that lists a variable, with what it lists TIED to the program's text (the seventh form; the later family's looks); each row that meets fmt, with fmt's text TOLD by the authors' own Lean function (tested against real Go, not proved from fmt's source: count such statements apart). THE CARD IS WHAT COUNTS. Prove the row's statement (the work); the ties are given (YtidpaaeflccpmaaDoorTie.lean); close each card by the builder's one call (the guide's Derived/Test/ToyasCard.lean, 'card_holds'). Laid BY PROGRAM, IN A SANDBOX (cutbox-door.mjs). By AI agents, Wed Nov 11 2026. No macro, syntax, notation, axiom, sorry.
-/
import Derived.Test.YtidpaaeflccpmaaDoorRows
import GoSem.ClaimSeven
namespace Go.Proofs.YtidpaaeflccpmaaDoor
namespace Rows

/-- THE TIED CARD OF 'mootkeep1.UnitOrder'. -/
def unitOrderCard : Claim7 := { stood := { row := unitOrderRow, standIns := [], harness := (true, "fc6b7d9ca4d350abdb0971dac1a964e33b41bc7e8f740fd22a53483eece7415b"), looks := false }, kinds := [], alts := [], laidByText := true, laidKinds := [.data, .data, .data], laidTests := true, laidLooks := .later }
def UnitOrderCardSaid : Prop := Claim7.holds Tryd.pinned (.plain (OpenSpec.ofChange unitOrderSpec)) unitOrderCard

/-- THE TIED CARD OF 'mootkeep1.UnitSums'. -/
def unitSumsCard : Claim7 := { stood := { row := unitSumsRow, standIns := [], harness := (true, "fc6b7d9ca4d350abdb0971dac1a964e33b41bc7e8f740fd22a53483eece7415b"), looks := false }, kinds := [], alts := [], laidByText := true, laidKinds := [.data, .data, .data], laidTests := true, laidLooks := .later }
def UnitSumsCardSaid : Prop := Claim7.holds Tryd.pinned (.plain (OpenSpec.ofChange unitSumsSpec)) unitSumsCard

/-- THE TIED CARD OF 'mootkeep1.UnitParts'. -/
def unitPartsCard : Claim7 := { stood := { row := unitPartsRow, standIns := [], harness := (true, "fc6b7d9ca4d350abdb0971dac1a964e33b41bc7e8f740fd22a53483eece7415b"), looks := false }, kinds := [], alts := [], laidByText := true, laidKinds := [.data, .data, .data], laidTests := true, laidLooks := .later }
def UnitPartsCardSaid : Prop := Claim7.holds Tryd.pinned (.plain (OpenSpec.ofChange unitPartsSpec)) unitPartsCard

/-- THE SECOND FORM's CARD OF 'mootkeep1.UnitOrder'. -/
def unitOrderUptoCard : Claim7 := { stood := { row := unitOrderUptoRow, standIns := [], harness := (true, "fc6b7d9ca4d350abdb0971dac1a964e33b41bc7e8f740fd22a53483eece7415b"), looks := false }, kinds := [], alts := [], laidByText := true, laidKinds := [.data, .data, .data], laidTests := true, laidLooks := .later }
def UnitOrderUptoCardSaid : Prop := Claim7.holds Tryd.pinned (.plain (OpenSpec.upto unitOrderSpec)) unitOrderUptoCard

/-- THE SECOND FORM's CARD OF 'mootkeep1.UnitSums'. -/
def unitSumsUptoCard : Claim7 := { stood := { row := unitSumsUptoRow, standIns := [], harness := (true, "fc6b7d9ca4d350abdb0971dac1a964e33b41bc7e8f740fd22a53483eece7415b"), looks := false }, kinds := [], alts := [], laidByText := true, laidKinds := [.data, .data, .data], laidTests := true, laidLooks := .later }
def UnitSumsUptoCardSaid : Prop := Claim7.holds Tryd.pinned (.plain (OpenSpec.upto unitSumsSpec)) unitSumsUptoCard

/-- THE SECOND FORM's CARD OF 'mootkeep1.UnitParts'. -/
def unitPartsUptoCard : Claim7 := { stood := { row := unitPartsUptoRow, standIns := [], harness := (true, "fc6b7d9ca4d350abdb0971dac1a964e33b41bc7e8f740fd22a53483eece7415b"), looks := false }, kinds := [], alts := [], laidByText := true, laidKinds := [.data, .data, .data], laidTests := true, laidLooks := .later }
def UnitPartsUptoCardSaid : Prop := Claim7.holds Tryd.pinned (.plain (OpenSpec.upto unitPartsSpec)) unitPartsUptoCard
end Rows
end Go.Proofs.YtidpaaeflccpmaaDoor
