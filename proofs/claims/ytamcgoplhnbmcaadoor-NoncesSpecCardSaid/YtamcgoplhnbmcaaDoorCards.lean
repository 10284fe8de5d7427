/-
  DERIVED. GIVEN WITH THE SEED: THE CARDS: each row of YtamcgoplhnbmcaaDoorRows.lean that lists a variable, with what it lists TIED to the program's text (the seventh form; the later family's looks); each row that meets fmt, with fmt's text TOLD by the authors' own Lean function (tested against real Go, not proved from fmt's source: count such statements apart). THE CARD IS WHAT COUNTS. Prove the row's statement (the work); the ties are given (YtamcgoplhnbmcaaDoorTie.lean); close each card by the builder's one call (the guide's Derived/Test/ToyasCard.lean, 'card_holds'). Laid BY PROGRAM, IN A SANDBOX (cutbox-door.mjs). By AI agents, Wed Nov 11 2026. No macro, syntax, notation, axiom, sorry.
-/
import Derived.Test.YtamcgoplhnbmcaaDoorRows
import GoSem.ClaimSeven
namespace Go.Proofs.YtamcgoplhnbmcaaDoor
namespace Rows

/-- THE TIED CARD OF 'signatorylaw41.NoncesSpec'. -/
def noncesSpecCard : Claim7 := { stood := { row := noncesSpecRow, standIns := [], harness := (true, "ae6f700ea2bd30feb0747e63825e7d966e37b71281da2088991cb0a2928709ec"), looks := true }, kinds := [], alts := [], laidByText := true, laidKinds := [.data, .data], laidTests := true, laidLooks := .later }
def NoncesSpecCardSaid : Prop := Claim7.holds Tryd.pinned (.plain (OpenSpec.ofChange noncesSpecSpec)) noncesSpecCard

/-- THE TIED CARD OF 'signatorylaw41.NoncesTakeSpec'. -/
def noncesTakeSpecCard : Claim7 := { stood := { row := noncesTakeSpecRow, standIns := [], harness := (true, "ae6f700ea2bd30feb0747e63825e7d966e37b71281da2088991cb0a2928709ec"), looks := true }, kinds := [], alts := [], laidByText := true, laidKinds := [.data, .data], laidTests := true, laidLooks := .later }
def NoncesTakeSpecCardSaid : Prop := Claim7.holds Tryd.pinned (.plain (OpenSpec.ofChange noncesTakeSpecSpec)) noncesTakeSpecCard

/-- THE TIED CARD OF 'signatorylaw41.NoncesOnce'. -/
def noncesOnceCard : Claim7 := { stood := { row := noncesOnceRow, standIns := [], harness := (true, "ae6f700ea2bd30feb0747e63825e7d966e37b71281da2088991cb0a2928709ec"), looks := true }, kinds := [], alts := [], laidByText := true, laidKinds := [.data, .data], laidTests := true, laidLooks := .later }
def NoncesOnceCardSaid : Prop := Claim7.holds Tryd.pinned (.plain (OpenSpec.ofChange noncesOnceSpec)) noncesOnceCard

/-- THE TIED CARD OF 'signatorylaw41.NoncesParts'. -/
def noncesPartsCard : Claim7 := { stood := { row := noncesPartsRow, standIns := [], harness := (true, "ae6f700ea2bd30feb0747e63825e7d966e37b71281da2088991cb0a2928709ec"), looks := true }, kinds := [], alts := [], laidByText := true, laidKinds := [.data, .data], laidTests := true, laidLooks := .later }
def NoncesPartsCardSaid : Prop := Claim7.holds Tryd.pinned (.plain (OpenSpec.ofChange noncesPartsSpec)) noncesPartsCard

/-- THE TIED CARD OF 'signatorylaw41.NoncesValid'. -/
def noncesValidCard : Claim7 := { stood := { row := noncesValidRow, standIns := [], harness := (true, "ae6f700ea2bd30feb0747e63825e7d966e37b71281da2088991cb0a2928709ec"), looks := true }, kinds := [], alts := [], laidByText := true, laidKinds := [.data, .data], laidTests := true, laidLooks := .later }
def NoncesValidCardSaid : Prop := Claim7.holds Tryd.pinned (.plain (OpenSpec.ofChange noncesValidSpec)) noncesValidCard

/-- THE TIED CARD OF 'signatorylaw48.DevicesSpec'. -/
def devicesSpecCard : Claim7 := { stood := { row := devicesSpecRow, standIns := [], harness := (true, "ae6f700ea2bd30feb0747e63825e7d966e37b71281da2088991cb0a2928709ec"), looks := true }, kinds := [], alts := [], laidByText := true, laidKinds := [.data, .data], laidTests := true, laidLooks := .later }
def DevicesSpecCardSaid : Prop := Claim7.holds Tryd.pinned (.plain (OpenSpec.ofChange devicesSpecSpec)) devicesSpecCard

/-- THE TIED CARD OF 'signatorylaw48.DevicesCurrentSpec'. -/
def devicesCurrentSpecCard : Claim7 := { stood := { row := devicesCurrentSpecRow, standIns := [], harness := (true, "ae6f700ea2bd30feb0747e63825e7d966e37b71281da2088991cb0a2928709ec"), looks := true }, kinds := [], alts := [], laidByText := true, laidKinds := [.data, .data], laidTests := true, laidLooks := .later }
def DevicesCurrentSpecCardSaid : Prop := Claim7.holds Tryd.pinned (.plain (OpenSpec.ofChange devicesCurrentSpecSpec)) devicesCurrentSpecCard

/-- THE TIED CARD OF 'signatorylaw48.DevicesOne'. -/
def devicesOneCard : Claim7 := { stood := { row := devicesOneRow, standIns := [], harness := (true, "ae6f700ea2bd30feb0747e63825e7d966e37b71281da2088991cb0a2928709ec"), looks := true }, kinds := [], alts := [], laidByText := true, laidKinds := [.data, .data], laidTests := true, laidLooks := .later }
def DevicesOneCardSaid : Prop := Claim7.holds Tryd.pinned (.plain (OpenSpec.ofChange devicesOneSpec)) devicesOneCard

/-- THE TIED CARD OF 'signatorylaw48.DevicesOld'. -/
def devicesOldCard : Claim7 := { stood := { row := devicesOldRow, standIns := [], harness := (true, "ae6f700ea2bd30feb0747e63825e7d966e37b71281da2088991cb0a2928709ec"), looks := true }, kinds := [], alts := [], laidByText := true, laidKinds := [.data, .data], laidTests := true, laidLooks := .later }
def DevicesOldCardSaid : Prop := Claim7.holds Tryd.pinned (.plain (OpenSpec.ofChange devicesOldSpec)) devicesOldCard

/-- THE TIED CARD OF 'signatorylaw48.DevicesMatter'. -/
def devicesMatterCard : Claim7 := { stood := { row := devicesMatterRow, standIns := [], harness := (true, "ae6f700ea2bd30feb0747e63825e7d966e37b71281da2088991cb0a2928709ec"), looks := true }, kinds := [], alts := [], laidByText := true, laidKinds := [.data, .data], laidTests := true, laidLooks := .later }
def DevicesMatterCardSaid : Prop := Claim7.holds Tryd.pinned (.plain (OpenSpec.ofChange devicesMatterSpec)) devicesMatterCard

/-- THE SECOND FORM's CARD OF 'signatorylaw41.NoncesSpec'. -/
def noncesSpecUptoCard : Claim7 := { stood := { row := noncesSpecUptoRow, standIns := [], harness := (true, "ae6f700ea2bd30feb0747e63825e7d966e37b71281da2088991cb0a2928709ec"), looks := true }, kinds := [], alts := [], laidByText := true, laidKinds := [.data, .data], laidTests := true, laidLooks := .later }
def NoncesSpecUptoCardSaid : Prop := Claim7.holds Tryd.pinned (.plain (OpenSpec.upto noncesSpecSpec)) noncesSpecUptoCard

/-- THE SECOND FORM's CARD OF 'signatorylaw41.NoncesTakeSpec'. -/
def noncesTakeSpecUptoCard : Claim7 := { stood := { row := noncesTakeSpecUptoRow, standIns := [], harness := (true, "ae6f700ea2bd30feb0747e63825e7d966e37b71281da2088991cb0a2928709ec"), looks := true }, kinds := [], alts := [], laidByText := true, laidKinds := [.data, .data], laidTests := true, laidLooks := .later }
def NoncesTakeSpecUptoCardSaid : Prop := Claim7.holds Tryd.pinned (.plain (OpenSpec.upto noncesTakeSpecSpec)) noncesTakeSpecUptoCard

/-- THE SECOND FORM's CARD OF 'signatorylaw41.NoncesOnce'. -/
def noncesOnceUptoCard : Claim7 := { stood := { row := noncesOnceUptoRow, standIns := [], harness := (true, "ae6f700ea2bd30feb0747e63825e7d966e37b71281da2088991cb0a2928709ec"), looks := true }, kinds := [], alts := [], laidByText := true, laidKinds := [.data, .data], laidTests := true, laidLooks := .later }
def NoncesOnceUptoCardSaid : Prop := Claim7.holds Tryd.pinned (.plain (OpenSpec.upto noncesOnceSpec)) noncesOnceUptoCard

/-- THE SECOND FORM's CARD OF 'signatorylaw41.NoncesParts'. -/
def noncesPartsUptoCard : Claim7 := { stood := { row := noncesPartsUptoRow, standIns := [], harness := (true, "ae6f700ea2bd30feb0747e63825e7d966e37b71281da2088991cb0a2928709ec"), looks := true }, kinds := [], alts := [], laidByText := true, laidKinds := [.data, .data], laidTests := true, laidLooks := .later }
def NoncesPartsUptoCardSaid : Prop := Claim7.holds Tryd.pinned (.plain (OpenSpec.upto noncesPartsSpec)) noncesPartsUptoCard

/-- THE SECOND FORM's CARD OF 'signatorylaw41.NoncesValid'. -/
def noncesValidUptoCard : Claim7 := { stood := { row := noncesValidUptoRow, standIns := [], harness := (true, "ae6f700ea2bd30feb0747e63825e7d966e37b71281da2088991cb0a2928709ec"), looks := true }, kinds := [], alts := [], laidByText := true, laidKinds := [.data, .data], laidTests := true, laidLooks := .later }
def NoncesValidUptoCardSaid : Prop := Claim7.holds Tryd.pinned (.plain (OpenSpec.upto noncesValidSpec)) noncesValidUptoCard

/-- THE SECOND FORM's CARD OF 'signatorylaw48.DevicesSpec'. -/
def devicesSpecUptoCard : Claim7 := { stood := { row := devicesSpecUptoRow, standIns := [], harness := (true, "ae6f700ea2bd30feb0747e63825e7d966e37b71281da2088991cb0a2928709ec"), looks := true }, kinds := [], alts := [], laidByText := true, laidKinds := [.data, .data], laidTests := true, laidLooks := .later }
def DevicesSpecUptoCardSaid : Prop := Claim7.holds Tryd.pinned (.plain (OpenSpec.upto devicesSpecSpec)) devicesSpecUptoCard

/-- THE SECOND FORM's CARD OF 'signatorylaw48.DevicesCurrentSpec'. -/
def devicesCurrentSpecUptoCard : Claim7 := { stood := { row := devicesCurrentSpecUptoRow, standIns := [], harness := (true, "ae6f700ea2bd30feb0747e63825e7d966e37b71281da2088991cb0a2928709ec"), looks := true }, kinds := [], alts := [], laidByText := true, laidKinds := [.data, .data], laidTests := true, laidLooks := .later }
def DevicesCurrentSpecUptoCardSaid : Prop := Claim7.holds Tryd.pinned (.plain (OpenSpec.upto devicesCurrentSpecSpec)) devicesCurrentSpecUptoCard

/-- THE SECOND FORM's CARD OF 'signatorylaw48.DevicesOne'. -/
def devicesOneUptoCard : Claim7 := { stood := { row := devicesOneUptoRow, standIns := [], harness := (true, "ae6f700ea2bd30feb0747e63825e7d966e37b71281da2088991cb0a2928709ec"), looks := true }, kinds := [], alts := [], laidByText := true, laidKinds := [.data, .data], laidTests := true, laidLooks := .later }
def DevicesOneUptoCardSaid : Prop := Claim7.holds Tryd.pinned (.plain (OpenSpec.upto devicesOneSpec)) devicesOneUptoCard

/-- THE SECOND FORM's CARD OF 'signatorylaw48.DevicesOld'. -/
def devicesOldUptoCard : Claim7 := { stood := { row := devicesOldUptoRow, standIns := [], harness := (true, "ae6f700ea2bd30feb0747e63825e7d966e37b71281da2088991cb0a2928709ec"), looks := true }, kinds := [], alts := [], laidByText := true, laidKinds := [.data, .data], laidTests := true, laidLooks := .later }
def DevicesOldUptoCardSaid : Prop := Claim7.holds Tryd.pinned (.plain (OpenSpec.upto devicesOldSpec)) devicesOldUptoCard

/-- THE SECOND FORM's CARD OF 'signatorylaw48.DevicesMatter'. -/
def devicesMatterUptoCard : Claim7 := { stood := { row := devicesMatterUptoRow, standIns := [], harness := (true, "ae6f700ea2bd30feb0747e63825e7d966e37b71281da2088991cb0a2928709ec"), looks := true }, kinds := [], alts := [], laidByText := true, laidKinds := [.data, .data], laidTests := true, laidLooks := .later }
def DevicesMatterUptoCardSaid : Prop := Claim7.holds Tryd.pinned (.plain (OpenSpec.upto devicesMatterSpec)) devicesMatterUptoCard
end Rows
end Go.Proofs.YtamcgoplhnbmcaaDoor
