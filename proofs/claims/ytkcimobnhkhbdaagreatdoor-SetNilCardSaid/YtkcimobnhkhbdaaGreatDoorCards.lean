/-
  DERIVED. GIVEN WITH THE SEED: THE CARDS: each row of YtkcimobnhkhbdaaGreatDoorRows.lean that lists a variable, with what it lists TIED to the program's text (the seventh form; the later family's looks); each row that meets fmt, with fmt's text TOLD by the authors' own Lean function (tested against real Go, not proved from fmt's source: count such statements apart). THE CARD IS WHAT COUNTS. Prove the row's statement (the work); the ties are given (YtkcimobnhkhbdaaGreatDoorTie.lean); close each card by the builder's one call (the guide's Derived/Test/ToyasCard.lean, 'card_holds'). Laid BY PROGRAM, IN A SANDBOX (cutbox-door.mjs). By AI agents, Wed Nov 11 2026. No macro, syntax, notation, axiom, sorry.
-/
import Derived.Test.YtkcimobnhkhbdaaGreatDoorRows
import GoSem.ClaimSeven
namespace Go.Proofs.YtkcimobnhkhbdaaGreatDoor
namespace Rows

/-- THE TIED CARD OF 'frisketlaw20.SetNil'. -/
def setNilCard : Claim7 := { stood := { row := setNilRow, standIns := [], harness := (true, "e5fd5919d0d9c32d4fd3eb43636f5c65ffea2433d470821c850ecbd03ca5e8ba"), looks := true }, kinds := [], alts := [], laidByText := true, laidKinds := [.pinned, .data, .data, .data, .data, .pinned, .sentinel, .sentinel, .data, .listed], laidTests := true, laidLooks := .later }
def SetNilCardSaid : Prop := Claim7.holds Tryz.pinned (.plain (OpenSpec.ofChange setNilSpec)) setNilCard

/-- THE SECOND FORM's CARD OF 'frisketlaw20.SetNil'. -/
def setNilUptoCard : Claim7 := { stood := { row := setNilUptoRow, standIns := [], harness := (true, "e5fd5919d0d9c32d4fd3eb43636f5c65ffea2433d470821c850ecbd03ca5e8ba"), looks := true }, kinds := [], alts := [], laidByText := true, laidKinds := [.pinned, .data, .data, .data, .data, .pinned, .sentinel, .sentinel, .data, .listed], laidTests := true, laidLooks := .later }
def SetNilUptoCardSaid : Prop := Claim7.holds Tryz.pinned (.plain (OpenSpec.upto setNilSpec)) setNilUptoCard
end Rows
end Go.Proofs.YtkcimobnhkhbdaaGreatDoor
