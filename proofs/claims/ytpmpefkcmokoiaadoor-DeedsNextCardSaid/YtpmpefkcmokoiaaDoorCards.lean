/-
  DERIVED. GIVEN WITH THE SEED: THE CARDS: each row of YtpmpefkcmokoiaaDoorRows.lean that lists a variable, with what it lists TIED to the program's text (the seventh form; the later family's looks); each row that meets fmt, with fmt's text TOLD by the authors' own Lean function (tested against real Go, not proved from fmt's source: count such statements apart). THE CARD IS WHAT COUNTS. Prove the row's statement (the work); the ties are given (YtpmpefkcmokoiaaDoorTie.lean); close each card by the builder's one call (the guide's Derived/Test/ToyasCard.lean, 'card_holds'). Laid BY PROGRAM, IN A SANDBOX (cutbox-door.mjs). By AI agents, Wed Nov 11 2026. No macro, syntax, notation, axiom, sorry.
-/
import Derived.Test.YtpmpefkcmokoiaaDoorRows
import GoSem.ClaimSeven
namespace Go.Proofs.YtpmpefkcmokoiaaDoor
namespace Rows

/-- THE TIED CARD OF 'signatorylaw49.DeedsSpec'. -/
def deedsSpecCard : Claim7 := { stood := { row := deedsSpecRow, standIns := [], harness := (true, "b4bd5900933cd1c32d7ed6686b9c79531316ce8527525fd23780c777f75ab3e5"), looks := true }, kinds := [], alts := [], laidByText := true, laidKinds := [.data, .data], laidTests := true, laidLooks := .later }
def DeedsSpecCardSaid : Prop := Claim7.holds Tryd.pinned (.plain (OpenSpec.ofChange deedsSpecSpec)) deedsSpecCard

/-- THE TIED CARD OF 'signatorylaw49.DeedsBound'. -/
def deedsBoundCard : Claim7 := { stood := { row := deedsBoundRow, standIns := [], harness := (true, "b4bd5900933cd1c32d7ed6686b9c79531316ce8527525fd23780c777f75ab3e5"), looks := true }, kinds := [], alts := [], laidByText := true, laidKinds := [.data, .data], laidTests := true, laidLooks := .later }
def DeedsBoundCardSaid : Prop := Claim7.holds Tryd.pinned (.plain (OpenSpec.ofChange deedsBoundSpec)) deedsBoundCard

/-- THE TIED CARD OF 'signatorylaw49.DeedsMade'. -/
def deedsMadeCard : Claim7 := { stood := { row := deedsMadeRow, standIns := [], harness := (true, "b4bd5900933cd1c32d7ed6686b9c79531316ce8527525fd23780c777f75ab3e5"), looks := true }, kinds := [], alts := [], laidByText := true, laidKinds := [.data, .data], laidTests := true, laidLooks := .later }
def DeedsMadeCardSaid : Prop := Claim7.holds Tryd.pinned (.plain (OpenSpec.ofChange deedsMadeSpec)) deedsMadeCard

/-- THE TIED CARD OF 'signatorylaw49.DeedsLog'. -/
def deedsLogCard : Claim7 := { stood := { row := deedsLogRow, standIns := [], harness := (true, "b4bd5900933cd1c32d7ed6686b9c79531316ce8527525fd23780c777f75ab3e5"), looks := true }, kinds := [], alts := [], laidByText := true, laidKinds := [.data, .data], laidTests := true, laidLooks := .later }
def DeedsLogCardSaid : Prop := Claim7.holds Tryd.pinned (.plain (OpenSpec.ofChange deedsLogSpec)) deedsLogCard

/-- THE TIED CARD OF 'signatorylaw49.DeedsBeginning'. -/
def deedsBeginningCard : Claim7 := { stood := { row := deedsBeginningRow, standIns := [], harness := (true, "b4bd5900933cd1c32d7ed6686b9c79531316ce8527525fd23780c777f75ab3e5"), looks := true }, kinds := [], alts := [], laidByText := true, laidKinds := [.data, .data], laidTests := true, laidLooks := .later }
def DeedsBeginningCardSaid : Prop := Claim7.holds Tryd.pinned (.plain (OpenSpec.ofChange deedsBeginningSpec)) deedsBeginningCard

/-- THE TIED CARD OF 'signatorylaw49.DeedsNext'. -/
def deedsNextCard : Claim7 := { stood := { row := deedsNextRow, standIns := [], harness := (true, "b4bd5900933cd1c32d7ed6686b9c79531316ce8527525fd23780c777f75ab3e5"), looks := true }, kinds := [], alts := [], laidByText := true, laidKinds := [.data, .data], laidTests := true, laidLooks := .later }
def DeedsNextCardSaid : Prop := Claim7.holds Tryd.pinned (.plain (OpenSpec.ofChange deedsNextSpec)) deedsNextCard

/-- THE SECOND FORM's CARD OF 'signatorylaw49.DeedsSpec'. -/
def deedsSpecUptoCard : Claim7 := { stood := { row := deedsSpecUptoRow, standIns := [], harness := (true, "b4bd5900933cd1c32d7ed6686b9c79531316ce8527525fd23780c777f75ab3e5"), looks := true }, kinds := [], alts := [], laidByText := true, laidKinds := [.data, .data], laidTests := true, laidLooks := .later }
def DeedsSpecUptoCardSaid : Prop := Claim7.holds Tryd.pinned (.plain (OpenSpec.upto deedsSpecSpec)) deedsSpecUptoCard

/-- THE SECOND FORM's CARD OF 'signatorylaw49.DeedsBound'. -/
def deedsBoundUptoCard : Claim7 := { stood := { row := deedsBoundUptoRow, standIns := [], harness := (true, "b4bd5900933cd1c32d7ed6686b9c79531316ce8527525fd23780c777f75ab3e5"), looks := true }, kinds := [], alts := [], laidByText := true, laidKinds := [.data, .data], laidTests := true, laidLooks := .later }
def DeedsBoundUptoCardSaid : Prop := Claim7.holds Tryd.pinned (.plain (OpenSpec.upto deedsBoundSpec)) deedsBoundUptoCard

/-- THE SECOND FORM's CARD OF 'signatorylaw49.DeedsMade'. -/
def deedsMadeUptoCard : Claim7 := { stood := { row := deedsMadeUptoRow, standIns := [], harness := (true, "b4bd5900933cd1c32d7ed6686b9c79531316ce8527525fd23780c777f75ab3e5"), looks := true }, kinds := [], alts := [], laidByText := true, laidKinds := [.data, .data], laidTests := true, laidLooks := .later }
def DeedsMadeUptoCardSaid : Prop := Claim7.holds Tryd.pinned (.plain (OpenSpec.upto deedsMadeSpec)) deedsMadeUptoCard

/-- THE SECOND FORM's CARD OF 'signatorylaw49.DeedsLog'. -/
def deedsLogUptoCard : Claim7 := { stood := { row := deedsLogUptoRow, standIns := [], harness := (true, "b4bd5900933cd1c32d7ed6686b9c79531316ce8527525fd23780c777f75ab3e5"), looks := true }, kinds := [], alts := [], laidByText := true, laidKinds := [.data, .data], laidTests := true, laidLooks := .later }
def DeedsLogUptoCardSaid : Prop := Claim7.holds Tryd.pinned (.plain (OpenSpec.upto deedsLogSpec)) deedsLogUptoCard

/-- THE SECOND FORM's CARD OF 'signatorylaw49.DeedsBeginning'. -/
def deedsBeginningUptoCard : Claim7 := { stood := { row := deedsBeginningUptoRow, standIns := [], harness := (true, "b4bd5900933cd1c32d7ed6686b9c79531316ce8527525fd23780c777f75ab3e5"), looks := true }, kinds := [], alts := [], laidByText := true, laidKinds := [.data, .data], laidTests := true, laidLooks := .later }
def DeedsBeginningUptoCardSaid : Prop := Claim7.holds Tryd.pinned (.plain (OpenSpec.upto deedsBeginningSpec)) deedsBeginningUptoCard

/-- THE SECOND FORM's CARD OF 'signatorylaw49.DeedsNext'. -/
def deedsNextUptoCard : Claim7 := { stood := { row := deedsNextUptoRow, standIns := [], harness := (true, "b4bd5900933cd1c32d7ed6686b9c79531316ce8527525fd23780c777f75ab3e5"), looks := true }, kinds := [], alts := [], laidByText := true, laidKinds := [.data, .data], laidTests := true, laidLooks := .later }
def DeedsNextUptoCardSaid : Prop := Claim7.holds Tryd.pinned (.plain (OpenSpec.upto deedsNextSpec)) deedsNextUptoCard
end Rows
end Go.Proofs.YtpmpefkcmokoiaaDoor
