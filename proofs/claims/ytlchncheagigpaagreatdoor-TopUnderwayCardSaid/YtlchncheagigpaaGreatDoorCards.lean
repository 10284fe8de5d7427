/-
  DERIVED. GIVEN WITH THE SEED: THE CARDS: each row of YtlchncheagigpaaGreatDoorRows.lean that lists a variable, with what it lists TIED to the program's text (the seventh form; the later family's looks); each row that meets fmt, with fmt's text TOLD by the authors' own Lean function (tested against real Go, not proved from fmt's source: count such statements apart). THE CARD IS WHAT COUNTS. Prove the row's statement (the work); the ties are given (YtlchncheagigpaaGreatDoorTie.lean); close each card by the builder's one call (the guide's Derived/Test/ToyasCard.lean, 'card_holds'). Laid BY PROGRAM, IN A SANDBOX (cutbox-door.mjs). By AI agents, Wed Nov 11 2026. No macro, syntax, notation, axiom, sorry.
-/
import Derived.Test.YtlchncheagigpaaGreatDoorRows
import GoSem.ClaimSeven
namespace Go.Proofs.YtlchncheagigpaaGreatDoor
namespace Rows

/-- THE TIED CARD OF 'signatorytop.TopUnderway'. -/
def topUnderwayCard : Claim7 := { stood := { row := topUnderwayRow, standIns := [], harness := (true, "b9e7264a8c864994449eae019140d585c06e8b43cda5f9570a73b15c4bd99dd7"), looks := true }, kinds := [], alts := [], laidByText := true, laidKinds := [.funcs], laidTests := true, laidLooks := .later }
def TopUnderwayCardSaid : Prop := Claim7.holds Tryz.pinned (.plain (OpenSpec.ofChange topUnderwaySpec)) topUnderwayCard

/-- THE SECOND FORM's CARD OF 'signatorytop.TopUnderway'. -/
def topUnderwayUptoCard : Claim7 := { stood := { row := topUnderwayUptoRow, standIns := [], harness := (true, "b9e7264a8c864994449eae019140d585c06e8b43cda5f9570a73b15c4bd99dd7"), looks := true }, kinds := [], alts := [], laidByText := true, laidKinds := [.funcs], laidTests := true, laidLooks := .later }
def TopUnderwayUptoCardSaid : Prop := Claim7.holds Tryz.pinned (.plain (OpenSpec.upto topUnderwaySpec)) topUnderwayUptoCard
end Rows
end Go.Proofs.YtlchncheagigpaaGreatDoor
