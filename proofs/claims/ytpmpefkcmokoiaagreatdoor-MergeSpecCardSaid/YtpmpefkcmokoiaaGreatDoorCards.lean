/-
  DERIVED. GIVEN WITH THE SEED: THE CARDS: each row of YtpmpefkcmokoiaaGreatDoorRows.lean that lists a variable, with what it lists TIED to the program's text (the seventh form; the later family's looks); each row that meets fmt, with fmt's text TOLD by the authors' own Lean function (tested against real Go, not proved from fmt's source: count such statements apart). THE CARD IS WHAT COUNTS. Prove the row's statement (the work); the ties are given (YtpmpefkcmokoiaaGreatDoorTie.lean); close each card by the builder's one call (the guide's Derived/Test/ToyasCard.lean, 'card_holds'). Laid BY PROGRAM, IN A SANDBOX (cutbox-door.mjs). By AI agents, Wed Nov 11 2026. No macro, syntax, notation, axiom, sorry.
-/
import Derived.Test.YtpmpefkcmokoiaaGreatDoorRows
import GoSem.ClaimSeven
namespace Go.Proofs.YtpmpefkcmokoiaaGreatDoor
namespace Rows

/-- THE TIED CARD OF 'signatorylaw50.MergeSpec'. -/
def mergeSpecCard : Claim7 := { stood := { row := mergeSpecRow, standIns := [], harness := (true, "75ed6596ee30abdd58d082f273dd5afe18c864f07da85c18b484820de691abc6"), looks := true }, kinds := [], alts := [], laidByText := true, laidKinds := [.data, .data], laidTests := true, laidLooks := .later }
def MergeSpecCardSaid : Prop := Claim7.holds Tryz.pinned (.plain (OpenSpec.ofChange mergeSpecSpec)) mergeSpecCard

/-- THE TIED CARD OF 'signatorylaw50.MergeLiarsSpec'. -/
def mergeLiarsSpecCard : Claim7 := { stood := { row := mergeLiarsSpecRow, standIns := [], harness := (true, "75ed6596ee30abdd58d082f273dd5afe18c864f07da85c18b484820de691abc6"), looks := true }, kinds := [], alts := [], laidByText := true, laidKinds := [.data, .data], laidTests := true, laidLooks := .later }
def MergeLiarsSpecCardSaid : Prop := Claim7.holds Tryz.pinned (.plain (OpenSpec.ofChange mergeLiarsSpecSpec)) mergeLiarsSpecCard

/-- THE TIED CARD OF 'signatorylaw50.MergeLog'. -/
def mergeLogCard : Claim7 := { stood := { row := mergeLogRow, standIns := [], harness := (true, "75ed6596ee30abdd58d082f273dd5afe18c864f07da85c18b484820de691abc6"), looks := true }, kinds := [], alts := [], laidByText := true, laidKinds := [.data, .data], laidTests := true, laidLooks := .later }
def MergeLogCardSaid : Prop := Claim7.holds Tryz.pinned (.plain (OpenSpec.ofChange mergeLogSpec)) mergeLogCard

/-- THE TIED CARD OF 'signatorylaw50.MergeTruth'. -/
def mergeTruthCard : Claim7 := { stood := { row := mergeTruthRow, standIns := [], harness := (true, "75ed6596ee30abdd58d082f273dd5afe18c864f07da85c18b484820de691abc6"), looks := true }, kinds := [], alts := [], laidByText := true, laidKinds := [.data, .data], laidTests := true, laidLooks := .later }
def MergeTruthCardSaid : Prop := Claim7.holds Tryz.pinned (.plain (OpenSpec.ofChange mergeTruthSpec)) mergeTruthCard

/-- THE TIED CARD OF 'signatorylaw50.MergeNamed'. -/
def mergeNamedCard : Claim7 := { stood := { row := mergeNamedRow, standIns := [], harness := (true, "75ed6596ee30abdd58d082f273dd5afe18c864f07da85c18b484820de691abc6"), looks := true }, kinds := [], alts := [], laidByText := true, laidKinds := [.data, .data], laidTests := true, laidLooks := .later }
def MergeNamedCardSaid : Prop := Claim7.holds Tryz.pinned (.plain (OpenSpec.ofChange mergeNamedSpec)) mergeNamedCard

/-- THE TIED CARD OF 'signatorylaw50.MergeOrder'. -/
def mergeOrderCard : Claim7 := { stood := { row := mergeOrderRow, standIns := [], harness := (true, "75ed6596ee30abdd58d082f273dd5afe18c864f07da85c18b484820de691abc6"), looks := true }, kinds := [], alts := [], laidByText := true, laidKinds := [.data, .data], laidTests := true, laidLooks := .later }
def MergeOrderCardSaid : Prop := Claim7.holds Tryz.pinned (.plain (OpenSpec.ofChange mergeOrderSpec)) mergeOrderCard

/-- THE TIED CARD OF 'signatorylaw50.MergeMore'. -/
def mergeMoreCard : Claim7 := { stood := { row := mergeMoreRow, standIns := [], harness := (true, "75ed6596ee30abdd58d082f273dd5afe18c864f07da85c18b484820de691abc6"), looks := true }, kinds := [], alts := [], laidByText := true, laidKinds := [.data, .data], laidTests := true, laidLooks := .later }
def MergeMoreCardSaid : Prop := Claim7.holds Tryz.pinned (.plain (OpenSpec.ofChange mergeMoreSpec)) mergeMoreCard

/-- THE SECOND FORM's CARD OF 'signatorylaw50.MergeSpec'. -/
def mergeSpecUptoCard : Claim7 := { stood := { row := mergeSpecUptoRow, standIns := [], harness := (true, "75ed6596ee30abdd58d082f273dd5afe18c864f07da85c18b484820de691abc6"), looks := true }, kinds := [], alts := [], laidByText := true, laidKinds := [.data, .data], laidTests := true, laidLooks := .later }
def MergeSpecUptoCardSaid : Prop := Claim7.holds Tryz.pinned (.plain (OpenSpec.upto mergeSpecSpec)) mergeSpecUptoCard

/-- THE SECOND FORM's CARD OF 'signatorylaw50.MergeLiarsSpec'. -/
def mergeLiarsSpecUptoCard : Claim7 := { stood := { row := mergeLiarsSpecUptoRow, standIns := [], harness := (true, "75ed6596ee30abdd58d082f273dd5afe18c864f07da85c18b484820de691abc6"), looks := true }, kinds := [], alts := [], laidByText := true, laidKinds := [.data, .data], laidTests := true, laidLooks := .later }
def MergeLiarsSpecUptoCardSaid : Prop := Claim7.holds Tryz.pinned (.plain (OpenSpec.upto mergeLiarsSpecSpec)) mergeLiarsSpecUptoCard

/-- THE SECOND FORM's CARD OF 'signatorylaw50.MergeLog'. -/
def mergeLogUptoCard : Claim7 := { stood := { row := mergeLogUptoRow, standIns := [], harness := (true, "75ed6596ee30abdd58d082f273dd5afe18c864f07da85c18b484820de691abc6"), looks := true }, kinds := [], alts := [], laidByText := true, laidKinds := [.data, .data], laidTests := true, laidLooks := .later }
def MergeLogUptoCardSaid : Prop := Claim7.holds Tryz.pinned (.plain (OpenSpec.upto mergeLogSpec)) mergeLogUptoCard

/-- THE SECOND FORM's CARD OF 'signatorylaw50.MergeTruth'. -/
def mergeTruthUptoCard : Claim7 := { stood := { row := mergeTruthUptoRow, standIns := [], harness := (true, "75ed6596ee30abdd58d082f273dd5afe18c864f07da85c18b484820de691abc6"), looks := true }, kinds := [], alts := [], laidByText := true, laidKinds := [.data, .data], laidTests := true, laidLooks := .later }
def MergeTruthUptoCardSaid : Prop := Claim7.holds Tryz.pinned (.plain (OpenSpec.upto mergeTruthSpec)) mergeTruthUptoCard

/-- THE SECOND FORM's CARD OF 'signatorylaw50.MergeNamed'. -/
def mergeNamedUptoCard : Claim7 := { stood := { row := mergeNamedUptoRow, standIns := [], harness := (true, "75ed6596ee30abdd58d082f273dd5afe18c864f07da85c18b484820de691abc6"), looks := true }, kinds := [], alts := [], laidByText := true, laidKinds := [.data, .data], laidTests := true, laidLooks := .later }
def MergeNamedUptoCardSaid : Prop := Claim7.holds Tryz.pinned (.plain (OpenSpec.upto mergeNamedSpec)) mergeNamedUptoCard

/-- THE SECOND FORM's CARD OF 'signatorylaw50.MergeOrder'. -/
def mergeOrderUptoCard : Claim7 := { stood := { row := mergeOrderUptoRow, standIns := [], harness := (true, "75ed6596ee30abdd58d082f273dd5afe18c864f07da85c18b484820de691abc6"), looks := true }, kinds := [], alts := [], laidByText := true, laidKinds := [.data, .data], laidTests := true, laidLooks := .later }
def MergeOrderUptoCardSaid : Prop := Claim7.holds Tryz.pinned (.plain (OpenSpec.upto mergeOrderSpec)) mergeOrderUptoCard

/-- THE SECOND FORM's CARD OF 'signatorylaw50.MergeMore'. -/
def mergeMoreUptoCard : Claim7 := { stood := { row := mergeMoreUptoRow, standIns := [], harness := (true, "75ed6596ee30abdd58d082f273dd5afe18c864f07da85c18b484820de691abc6"), looks := true }, kinds := [], alts := [], laidByText := true, laidKinds := [.data, .data], laidTests := true, laidLooks := .later }
def MergeMoreUptoCardSaid : Prop := Claim7.holds Tryz.pinned (.plain (OpenSpec.upto mergeMoreSpec)) mergeMoreUptoCard
end Rows
end Go.Proofs.YtpmpefkcmokoiaaGreatDoor
