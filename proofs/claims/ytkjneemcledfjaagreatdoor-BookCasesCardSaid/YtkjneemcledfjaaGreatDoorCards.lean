/-
  DERIVED. GIVEN WITH THE SEED: THE CARDS: each row of YtkjneemcledfjaaGreatDoorRows.lean that lists a variable, with what it lists TIED to the program's text (the seventh form; the later family's looks); each row that meets fmt, with fmt's text TOLD by the authors' own Lean function (tested against real Go, not proved from fmt's source: count such statements apart). THE CARD IS WHAT COUNTS. Prove the row's statement (the work); the ties are given (YtkjneemcledfjaaGreatDoorTie.lean); close each card by the builder's one call (the guide's Derived/Test/ToyasCard.lean, 'card_holds'). Laid BY PROGRAM, IN A SANDBOX (cutbox-door.mjs). By AI agents, Wed Nov 11 2026. No macro, syntax, notation, axiom, sorry.
-/
import Derived.Test.YtkjneemcledfjaaGreatDoorRows
import GoSem.ClaimSeven
namespace Go.Proofs.YtkjneemcledfjaaGreatDoor
namespace Rows

/-- THE TIED CARD OF 'mootkeep1.BookForged'. -/
def bookForgedCard : Claim7 := { stood := { row := bookForgedRow, standIns := [], harness := (true, "3b6c79e013fda6c348be8a2840442345bbbf2e12ce7341f914a5e0b7ed3b38c2"), looks := true }, kinds := [], alts := [], laidByText := true, laidKinds := [.data, .data, .data, .data, .sentinel, .sentinel, .pinned], laidTests := true, laidLooks := .later }
def BookForgedCardSaid : Prop := Claim7.holds Tryz.pinned (.plain (OpenSpec.ofChange bookForgedSpec)) bookForgedCard

/-- THE TIED CARD OF 'mootkeep1.BookReplays'. -/
def bookReplaysCard : Claim7 := { stood := { row := bookReplaysRow, standIns := [], harness := (true, "3b6c79e013fda6c348be8a2840442345bbbf2e12ce7341f914a5e0b7ed3b38c2"), looks := true }, kinds := [], alts := [], laidByText := true, laidKinds := [.data, .data, .data, .data, .sentinel, .sentinel, .pinned], laidTests := true, laidLooks := .later }
def BookReplaysCardSaid : Prop := Claim7.holds Tryz.pinned (.plain (OpenSpec.ofChange bookReplaysSpec)) bookReplaysCard

/-- THE TIED CARD OF 'moottop.BookCases'. -/
def bookCasesCard : Claim7 := { stood := { row := bookCasesRow, standIns := [], harness := (true, "3b6c79e013fda6c348be8a2840442345bbbf2e12ce7341f914a5e0b7ed3b38c2"), looks := true }, kinds := [], alts := [], laidByText := true, laidKinds := [.data, .data, .data, .data, .sentinel, .sentinel, .pinned], laidTests := true, laidLooks := .later }
def BookCasesCardSaid : Prop := Claim7.holds Tryz.pinned (.plain (OpenSpec.ofChange bookCasesSpec)) bookCasesCard

/-- THE SECOND FORM's CARD OF 'mootkeep1.BookForged'. -/
def bookForgedUptoCard : Claim7 := { stood := { row := bookForgedUptoRow, standIns := [], harness := (true, "3b6c79e013fda6c348be8a2840442345bbbf2e12ce7341f914a5e0b7ed3b38c2"), looks := true }, kinds := [], alts := [], laidByText := true, laidKinds := [.data, .data, .data, .data, .sentinel, .sentinel, .pinned], laidTests := true, laidLooks := .later }
def BookForgedUptoCardSaid : Prop := Claim7.holds Tryz.pinned (.plain (OpenSpec.upto bookForgedSpec)) bookForgedUptoCard

/-- THE SECOND FORM's CARD OF 'mootkeep1.BookReplays'. -/
def bookReplaysUptoCard : Claim7 := { stood := { row := bookReplaysUptoRow, standIns := [], harness := (true, "3b6c79e013fda6c348be8a2840442345bbbf2e12ce7341f914a5e0b7ed3b38c2"), looks := true }, kinds := [], alts := [], laidByText := true, laidKinds := [.data, .data, .data, .data, .sentinel, .sentinel, .pinned], laidTests := true, laidLooks := .later }
def BookReplaysUptoCardSaid : Prop := Claim7.holds Tryz.pinned (.plain (OpenSpec.upto bookReplaysSpec)) bookReplaysUptoCard

/-- THE SECOND FORM's CARD OF 'moottop.BookCases'. -/
def bookCasesUptoCard : Claim7 := { stood := { row := bookCasesUptoRow, standIns := [], harness := (true, "3b6c79e013fda6c348be8a2840442345bbbf2e12ce7341f914a5e0b7ed3b38c2"), looks := true }, kinds := [], alts := [], laidByText := true, laidKinds := [.data, .data, .data, .data, .sentinel, .sentinel, .pinned], laidTests := true, laidLooks := .later }
def BookCasesUptoCardSaid : Prop := Claim7.holds Tryz.pinned (.plain (OpenSpec.upto bookCasesSpec)) bookCasesUptoCard
end Rows
end Go.Proofs.YtkjneemcledfjaaGreatDoor
