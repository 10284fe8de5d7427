/-
  No cell of these rows narrows 'for every input' (looked for: loops, veiled, ifaces, maps, wideKeys, modest, calm, conditions, laid).
  DERIVED. THE GIVEN ROWS OF THIS SEAT. 12 by the template 'for every input the law returns true; each argument reads behind the call as it read before'; 0 by the template 'total and deterministic' (their statements: YtgccoipbcbccnaaTotals.lean).
  GIVEN WITH THE SEED: the statements are not yours to turn. If you find one false, say at which input.
  Laid BY PROGRAM, IN A SANDBOX (cutbox-rows.mjs): the forced cells as the released guide's own fill.sh prints them over the translation 9b0d3733cbfb390d… (all of the seat's roots in one cut). By AI agents, Wed Nov 11 2026. No macro, syntax, notation, axiom, sorry.
-/
import Derived.Test.YtgccoipbcbccnaaChecked
import GoSem.Claim
import GoSem.ClaimJoined
import GoSem.ClaimMapViews
import Derived.JoinedTies
import Derived.KernelRfl
namespace Go.Proofs.Ytgccoipbcbccnaa
/- THE CELL 'sum', in the pinned program and in every row, IS THE sha256 OF THE DUMP (.gsa) THAT YtgccoipbcbccnaaProg.lean LOADS. Nothing in Lean hashes anything: it is a label: what it is worth is what the hold of that sum in a sandbox is worth. -/
noncomputable def Try.pinned : Pinned := { name := "ytgccoipbcbccnaa", sum := "9b0d3733cbfb390dc5604eea9fdb5973691ad607d2f5f8bca2945ff832c1c55e", checked := Try.checked }
namespace Rows
def none {H : Type} : Left H := { results := [], args := [] }

/-- 'signatorylaw14.VersionsSpec': WHATEVER THE INPUT: true; the input reads as it did. -/
def versionsSpecSpec : ChangeSpec := { name := "versionsSpec", fn := fun _ => fun
  | [d1, d2] => { results := [.lit (.bool true)], args := [d1, d2] }
  | _ => none }
def versionsSpecRow : OpenClaim := { program := "ytgccoipbcbccnaa", sum := "9b0d3733cbfb390dc5604eea9fdb5973691ad607d2f5f8bca2945ff832c1c55e", func := "signatory/signatorylaw14.VersionsSpec", spec := "versionsSpec", inPlace := ["slices.overlaps[signatory/api.Amend]"], unfollowed := true, recurses := true, plainKeys := false, apart := false }
def VersionsSpecSaid : Prop := versionsSpecRow.holds Try.pinned (OpenSpec.ofChange versionsSpecSpec)

/-- ITS FALSE NEIGHBOUR: 'it returns false'. Refute it at one input. -/
def versionsSpecWrong : ChangeSpec := { name := "versionsSpec", fn := fun _ => fun
  | [d1, d2] => { results := [.lit (.bool false)], args := [d1, d2] }
  | _ => none }
def VersionsSpecWrongFalsely : Prop := versionsSpecRow.holds Try.pinned (OpenSpec.ofChange versionsSpecWrong)

/-- 'signatorylaw14.VersionsValueSpec': WHATEVER THE INPUT: true; the input reads as it did. -/
def versionsValueSpecSpec : ChangeSpec := { name := "versionsValueSpec", fn := fun _ => fun
  | [d1, d2, d3, d4] => { results := [.lit (.bool true)], args := [d1, d2, d3, d4] }
  | _ => none }
def versionsValueSpecRow : OpenClaim := { program := "ytgccoipbcbccnaa", sum := "9b0d3733cbfb390dc5604eea9fdb5973691ad607d2f5f8bca2945ff832c1c55e", func := "signatory/signatorylaw14.VersionsValueSpec", spec := "versionsValueSpec", inPlace := ["slices.overlaps[signatory/api.Amend]"], unfollowed := true, recurses := true, plainKeys := false, apart := false }
def VersionsValueSpecSaid : Prop := versionsValueSpecRow.holds Try.pinned (OpenSpec.ofChange versionsValueSpecSpec)

/-- ITS FALSE NEIGHBOUR: 'it returns false'. Refute it at one input. -/
def versionsValueSpecWrong : ChangeSpec := { name := "versionsValueSpec", fn := fun _ => fun
  | [d1, d2, d3, d4] => { results := [.lit (.bool false)], args := [d1, d2, d3, d4] }
  | _ => none }
def VersionsValueSpecWrongFalsely : Prop := versionsValueSpecRow.holds Try.pinned (OpenSpec.ofChange versionsValueSpecWrong)

/-- 'signatorylaw14.VersionsThen': WHATEVER THE INPUT: true; the input reads as it did. -/
def versionsThenSpec : ChangeSpec := { name := "versionsThen", fn := fun _ => fun
  | [d1, d2, d3, d4, d5] => { results := [.lit (.bool true)], args := [d1, d2, d3, d4, d5] }
  | _ => none }
def versionsThenRow : OpenClaim := { program := "ytgccoipbcbccnaa", sum := "9b0d3733cbfb390dc5604eea9fdb5973691ad607d2f5f8bca2945ff832c1c55e", func := "signatory/signatorylaw14.VersionsThen", spec := "versionsThen", inPlace := ["slices.overlaps[signatory/api.Amend]"], unfollowed := true, recurses := true, plainKeys := false, apart := false }
def VersionsThenSaid : Prop := versionsThenRow.holds Try.pinned (OpenSpec.ofChange versionsThenSpec)

/-- ITS FALSE NEIGHBOUR: 'it returns false'. Refute it at one input. -/
def versionsThenWrong : ChangeSpec := { name := "versionsThen", fn := fun _ => fun
  | [d1, d2, d3, d4, d5] => { results := [.lit (.bool false)], args := [d1, d2, d3, d4, d5] }
  | _ => none }
def VersionsThenWrongFalsely : Prop := versionsThenRow.holds Try.pinned (OpenSpec.ofChange versionsThenWrong)

/-- 'signatorylaw14.VersionsSteps': WHATEVER THE INPUT: true; the input reads as it did. -/
def versionsStepsSpec : ChangeSpec := { name := "versionsSteps", fn := fun _ => fun
  | [d1, d2, d3, d4] => { results := [.lit (.bool true)], args := [d1, d2, d3, d4] }
  | _ => none }
def versionsStepsRow : OpenClaim := { program := "ytgccoipbcbccnaa", sum := "9b0d3733cbfb390dc5604eea9fdb5973691ad607d2f5f8bca2945ff832c1c55e", func := "signatory/signatorylaw14.VersionsSteps", spec := "versionsSteps", inPlace := ["slices.overlaps[signatory/api.Amend]"], unfollowed := true, recurses := true, plainKeys := false, apart := false }
def VersionsStepsSaid : Prop := versionsStepsRow.holds Try.pinned (OpenSpec.ofChange versionsStepsSpec)

/-- ITS FALSE NEIGHBOUR: 'it returns false'. Refute it at one input. -/
def versionsStepsWrong : ChangeSpec := { name := "versionsSteps", fn := fun _ => fun
  | [d1, d2, d3, d4] => { results := [.lit (.bool false)], args := [d1, d2, d3, d4] }
  | _ => none }
def VersionsStepsWrongFalsely : Prop := versionsStepsRow.holds Try.pinned (OpenSpec.ofChange versionsStepsWrong)

/-- 'signatorylaw14.VersionsOrder': WHATEVER THE INPUT: true; the input reads as it did. -/
def versionsOrderSpec : ChangeSpec := { name := "versionsOrder", fn := fun _ => fun
  | [d1, d2, d3, d4, d5] => { results := [.lit (.bool true)], args := [d1, d2, d3, d4, d5] }
  | _ => none }
def versionsOrderRow : OpenClaim := { program := "ytgccoipbcbccnaa", sum := "9b0d3733cbfb390dc5604eea9fdb5973691ad607d2f5f8bca2945ff832c1c55e", func := "signatory/signatorylaw14.VersionsOrder", spec := "versionsOrder", inPlace := ["slices.overlaps[signatory/api.Amend]"], unfollowed := true, recurses := true, plainKeys := false, apart := false }
def VersionsOrderSaid : Prop := versionsOrderRow.holds Try.pinned (OpenSpec.ofChange versionsOrderSpec)

/-- ITS FALSE NEIGHBOUR: 'it returns false'. Refute it at one input. -/
def versionsOrderWrong : ChangeSpec := { name := "versionsOrder", fn := fun _ => fun
  | [d1, d2, d3, d4, d5] => { results := [.lit (.bool false)], args := [d1, d2, d3, d4, d5] }
  | _ => none }
def VersionsOrderWrongFalsely : Prop := versionsOrderRow.holds Try.pinned (OpenSpec.ofChange versionsOrderWrong)

/-- 'signatorylaw14.VersionsBefore': WHATEVER THE INPUT: true; the input reads as it did. -/
def versionsBeforeSpec : ChangeSpec := { name := "versionsBefore", fn := fun _ => fun
  | [d1, d2, d3, d4, d5] => { results := [.lit (.bool true)], args := [d1, d2, d3, d4, d5] }
  | _ => none }
def versionsBeforeRow : OpenClaim := { program := "ytgccoipbcbccnaa", sum := "9b0d3733cbfb390dc5604eea9fdb5973691ad607d2f5f8bca2945ff832c1c55e", func := "signatory/signatorylaw14.VersionsBefore", spec := "versionsBefore", inPlace := ["slices.overlaps[signatory/api.Amend]"], unfollowed := true, recurses := true, plainKeys := false, apart := false }
def VersionsBeforeSaid : Prop := versionsBeforeRow.holds Try.pinned (OpenSpec.ofChange versionsBeforeSpec)

/-- ITS FALSE NEIGHBOUR: 'it returns false'. Refute it at one input. -/
def versionsBeforeWrong : ChangeSpec := { name := "versionsBefore", fn := fun _ => fun
  | [d1, d2, d3, d4, d5] => { results := [.lit (.bool false)], args := [d1, d2, d3, d4, d5] }
  | _ => none }
def VersionsBeforeWrongFalsely : Prop := versionsBeforeRow.holds Try.pinned (OpenSpec.ofChange versionsBeforeWrong)

/-- 'signatorylaw15.OfficesSpec': WHATEVER THE INPUT: true; the input reads as it did. -/
def officesSpecSpec : ChangeSpec := { name := "officesSpec", fn := fun _ => fun
  | [d1, d2] => { results := [.lit (.bool true)], args := [d1, d2] }
  | _ => none }
def officesSpecRow : OpenClaim := { program := "ytgccoipbcbccnaa", sum := "9b0d3733cbfb390dc5604eea9fdb5973691ad607d2f5f8bca2945ff832c1c55e", func := "signatory/signatorylaw15.OfficesSpec", spec := "officesSpec", inPlace := ["slices.overlaps[signatory/api.Appoint]"], unfollowed := true, recurses := true, plainKeys := false, apart := false }
def OfficesSpecSaid : Prop := officesSpecRow.holds Try.pinned (OpenSpec.ofChange officesSpecSpec)

/-- ITS FALSE NEIGHBOUR: 'it returns false'. Refute it at one input. -/
def officesSpecWrong : ChangeSpec := { name := "officesSpec", fn := fun _ => fun
  | [d1, d2] => { results := [.lit (.bool false)], args := [d1, d2] }
  | _ => none }
def OfficesSpecWrongFalsely : Prop := officesSpecRow.holds Try.pinned (OpenSpec.ofChange officesSpecWrong)

/-- 'signatorylaw15.OfficesHoldsSpec': WHATEVER THE INPUT: true; the input reads as it did. -/
def officesHoldsSpecSpec : ChangeSpec := { name := "officesHoldsSpec", fn := fun _ => fun
  | [d1, d2, d3, d4, d5] => { results := [.lit (.bool true)], args := [d1, d2, d3, d4, d5] }
  | _ => none }
def officesHoldsSpecRow : OpenClaim := { program := "ytgccoipbcbccnaa", sum := "9b0d3733cbfb390dc5604eea9fdb5973691ad607d2f5f8bca2945ff832c1c55e", func := "signatory/signatorylaw15.OfficesHoldsSpec", spec := "officesHoldsSpec", inPlace := ["slices.overlaps[signatory/api.Appoint]"], unfollowed := true, recurses := true, plainKeys := false, apart := false }
def OfficesHoldsSpecSaid : Prop := officesHoldsSpecRow.holds Try.pinned (OpenSpec.ofChange officesHoldsSpecSpec)

/-- ITS FALSE NEIGHBOUR: 'it returns false'. Refute it at one input. -/
def officesHoldsSpecWrong : ChangeSpec := { name := "officesHoldsSpec", fn := fun _ => fun
  | [d1, d2, d3, d4, d5] => { results := [.lit (.bool false)], args := [d1, d2, d3, d4, d5] }
  | _ => none }
def OfficesHoldsSpecWrongFalsely : Prop := officesHoldsSpecRow.holds Try.pinned (OpenSpec.ofChange officesHoldsSpecWrong)

/-- 'signatorylaw15.OfficesLast': WHATEVER THE INPUT: true; the input reads as it did. -/
def officesLastSpec : ChangeSpec := { name := "officesLast", fn := fun _ => fun
  | [d1, d2, d3, d4, d5] => { results := [.lit (.bool true)], args := [d1, d2, d3, d4, d5] }
  | _ => none }
def officesLastRow : OpenClaim := { program := "ytgccoipbcbccnaa", sum := "9b0d3733cbfb390dc5604eea9fdb5973691ad607d2f5f8bca2945ff832c1c55e", func := "signatory/signatorylaw15.OfficesLast", spec := "officesLast", inPlace := ["slices.overlaps[signatory/api.Appoint]"], unfollowed := true, recurses := true, plainKeys := false, apart := false }
def OfficesLastSaid : Prop := officesLastRow.holds Try.pinned (OpenSpec.ofChange officesLastSpec)

/-- ITS FALSE NEIGHBOUR: 'it returns false'. Refute it at one input. -/
def officesLastWrong : ChangeSpec := { name := "officesLast", fn := fun _ => fun
  | [d1, d2, d3, d4, d5] => { results := [.lit (.bool false)], args := [d1, d2, d3, d4, d5] }
  | _ => none }
def OfficesLastWrongFalsely : Prop := officesLastRow.holds Try.pinned (OpenSpec.ofChange officesLastWrong)

/-- 'signatorylaw15.OfficesLater': WHATEVER THE INPUT: true; the input reads as it did. -/
def officesLaterSpec : ChangeSpec := { name := "officesLater", fn := fun _ => fun
  | [d1, d2, d3, d4] => { results := [.lit (.bool true)], args := [d1, d2, d3, d4] }
  | _ => none }
def officesLaterRow : OpenClaim := { program := "ytgccoipbcbccnaa", sum := "9b0d3733cbfb390dc5604eea9fdb5973691ad607d2f5f8bca2945ff832c1c55e", func := "signatory/signatorylaw15.OfficesLater", spec := "officesLater", inPlace := ["slices.overlaps[signatory/api.Appoint]"], unfollowed := true, recurses := true, plainKeys := false, apart := false }
def OfficesLaterSaid : Prop := officesLaterRow.holds Try.pinned (OpenSpec.ofChange officesLaterSpec)

/-- ITS FALSE NEIGHBOUR: 'it returns false'. Refute it at one input. -/
def officesLaterWrong : ChangeSpec := { name := "officesLater", fn := fun _ => fun
  | [d1, d2, d3, d4] => { results := [.lit (.bool false)], args := [d1, d2, d3, d4] }
  | _ => none }
def OfficesLaterWrongFalsely : Prop := officesLaterRow.holds Try.pinned (OpenSpec.ofChange officesLaterWrong)

/-- 'signatorylaw15.OfficesAdded': WHATEVER THE INPUT: true; the input reads as it did. -/
def officesAddedSpec : ChangeSpec := { name := "officesAdded", fn := fun _ => fun
  | [d1, d2, d3, d4, d5, d6] => { results := [.lit (.bool true)], args := [d1, d2, d3, d4, d5, d6] }
  | _ => none }
def officesAddedRow : OpenClaim := { program := "ytgccoipbcbccnaa", sum := "9b0d3733cbfb390dc5604eea9fdb5973691ad607d2f5f8bca2945ff832c1c55e", func := "signatory/signatorylaw15.OfficesAdded", spec := "officesAdded", inPlace := ["slices.overlaps[signatory/api.Appoint]"], unfollowed := true, recurses := true, plainKeys := false, apart := false }
def OfficesAddedSaid : Prop := officesAddedRow.holds Try.pinned (OpenSpec.ofChange officesAddedSpec)

/-- ITS FALSE NEIGHBOUR: 'it returns false'. Refute it at one input. -/
def officesAddedWrong : ChangeSpec := { name := "officesAdded", fn := fun _ => fun
  | [d1, d2, d3, d4, d5, d6] => { results := [.lit (.bool false)], args := [d1, d2, d3, d4, d5, d6] }
  | _ => none }
def OfficesAddedWrongFalsely : Prop := officesAddedRow.holds Try.pinned (OpenSpec.ofChange officesAddedWrong)

/-- 'signatorylaw15.OfficesAll': WHATEVER THE INPUT: true; the input reads as it did. -/
def officesAllSpec : ChangeSpec := { name := "officesAll", fn := fun _ => fun
  | [d1, d2, d3, d4] => { results := [.lit (.bool true)], args := [d1, d2, d3, d4] }
  | _ => none }
def officesAllRow : OpenClaim := { program := "ytgccoipbcbccnaa", sum := "9b0d3733cbfb390dc5604eea9fdb5973691ad607d2f5f8bca2945ff832c1c55e", func := "signatory/signatorylaw15.OfficesAll", spec := "officesAll", inPlace := ["slices.overlaps[signatory/api.Appoint]"], unfollowed := true, recurses := true, plainKeys := false, apart := false }
def OfficesAllSaid : Prop := officesAllRow.holds Try.pinned (OpenSpec.ofChange officesAllSpec)

/-- ITS FALSE NEIGHBOUR: 'it returns false'. Refute it at one input. -/
def officesAllWrong : ChangeSpec := { name := "officesAll", fn := fun _ => fun
  | [d1, d2, d3, d4] => { results := [.lit (.bool false)], args := [d1, d2, d3, d4] }
  | _ => none }
def OfficesAllWrongFalsely : Prop := officesAllRow.holds Try.pinned (OpenSpec.ofChange officesAllWrong)

/- THE SECOND FORM. 'bulk': how many values and letters a reading holds, each counted each time it is reached (what is shared counts as often as it is met; a slice's spare places count too). A statement '..UptoSaid' is the law's where the arguments, and the package variables that the reading takes, are together of bulk at most 1048576: NARROWER than '..Said'. Prove '..Said' where nothing that the law and all that it calls make is longer than what came in: it says more and counts as full. Else prove '..UptoSaid'. A law counts once. -/
mutual
def uptoBulk {H : Type} : DataW H → Nat
  | .lit (.string bytes) => bytes.length + 1
  | .lit _ => 1
  | .nil => 1
  | .ptr d => uptoBulk d + 1
  | .slice elems spare => uptoBulkAll elems + uptoBulkAll spare + 1
  | .agg parts => uptoBulkAll parts + 1
  | .iface _ d => uptoBulk d + 1
  | .map entries => uptoBulkEntries entries + 1
  | .held _ => 1
def uptoBulkAll {H : Type} : List (DataW H) → Nat
  | [] => 0
  | d :: r => uptoBulk d + uptoBulkAll r
def uptoBulkEntries {H : Type} : List (Lit × DataW H) → Nat
  | [] => 0
  | x :: r => uptoBulkEntry x + uptoBulkEntries r
def uptoBulkEntry {H : Type} : Lit × DataW H → Nat
  | (.string bytes, d) => bytes.length + uptoBulk d + 1
  | (_, d) => uptoBulk d + 1
 end
def uptoSmall : (H : Type) → List (DataW H) → Bool := fun _ ds => decide (uptoBulkAll ds ≤ 1048576)
def OpenSpec.upto (s : _root_.Go.ChangeSpec) : _root_.Go.OpenSpec := { _root_.Go.OpenSpec.ofChange s with cond := some uptoSmall }

/-- 'signatorylaw14.VersionsSpec', WHERE WHAT IT READS IS OF BULK AT MOST 1048576: true; the input reads as it did. -/
def versionsSpecUptoRow : OpenClaim := { program := "ytgccoipbcbccnaa", sum := "9b0d3733cbfb390dc5604eea9fdb5973691ad607d2f5f8bca2945ff832c1c55e", func := "signatory/signatorylaw14.VersionsSpec", spec := "versionsSpec", inPlace := ["slices.overlaps[signatory/api.Amend]"], unfollowed := true, recurses := true, plainKeys := false, apart := false, narrowed := true }
def VersionsSpecUptoSaid : Prop := versionsSpecUptoRow.holds Try.pinned (OpenSpec.upto versionsSpecSpec)

/-- 'signatorylaw14.VersionsValueSpec', WHERE WHAT IT READS IS OF BULK AT MOST 1048576: true; the input reads as it did. -/
def versionsValueSpecUptoRow : OpenClaim := { program := "ytgccoipbcbccnaa", sum := "9b0d3733cbfb390dc5604eea9fdb5973691ad607d2f5f8bca2945ff832c1c55e", func := "signatory/signatorylaw14.VersionsValueSpec", spec := "versionsValueSpec", inPlace := ["slices.overlaps[signatory/api.Amend]"], unfollowed := true, recurses := true, plainKeys := false, apart := false, narrowed := true }
def VersionsValueSpecUptoSaid : Prop := versionsValueSpecUptoRow.holds Try.pinned (OpenSpec.upto versionsValueSpecSpec)

/-- 'signatorylaw14.VersionsThen', WHERE WHAT IT READS IS OF BULK AT MOST 1048576: true; the input reads as it did. -/
def versionsThenUptoRow : OpenClaim := { program := "ytgccoipbcbccnaa", sum := "9b0d3733cbfb390dc5604eea9fdb5973691ad607d2f5f8bca2945ff832c1c55e", func := "signatory/signatorylaw14.VersionsThen", spec := "versionsThen", inPlace := ["slices.overlaps[signatory/api.Amend]"], unfollowed := true, recurses := true, plainKeys := false, apart := false, narrowed := true }
def VersionsThenUptoSaid : Prop := versionsThenUptoRow.holds Try.pinned (OpenSpec.upto versionsThenSpec)

/-- 'signatorylaw14.VersionsSteps', WHERE WHAT IT READS IS OF BULK AT MOST 1048576: true; the input reads as it did. -/
def versionsStepsUptoRow : OpenClaim := { program := "ytgccoipbcbccnaa", sum := "9b0d3733cbfb390dc5604eea9fdb5973691ad607d2f5f8bca2945ff832c1c55e", func := "signatory/signatorylaw14.VersionsSteps", spec := "versionsSteps", inPlace := ["slices.overlaps[signatory/api.Amend]"], unfollowed := true, recurses := true, plainKeys := false, apart := false, narrowed := true }
def VersionsStepsUptoSaid : Prop := versionsStepsUptoRow.holds Try.pinned (OpenSpec.upto versionsStepsSpec)

/-- 'signatorylaw14.VersionsOrder', WHERE WHAT IT READS IS OF BULK AT MOST 1048576: true; the input reads as it did. -/
def versionsOrderUptoRow : OpenClaim := { program := "ytgccoipbcbccnaa", sum := "9b0d3733cbfb390dc5604eea9fdb5973691ad607d2f5f8bca2945ff832c1c55e", func := "signatory/signatorylaw14.VersionsOrder", spec := "versionsOrder", inPlace := ["slices.overlaps[signatory/api.Amend]"], unfollowed := true, recurses := true, plainKeys := false, apart := false, narrowed := true }
def VersionsOrderUptoSaid : Prop := versionsOrderUptoRow.holds Try.pinned (OpenSpec.upto versionsOrderSpec)

/-- 'signatorylaw14.VersionsBefore', WHERE WHAT IT READS IS OF BULK AT MOST 1048576: true; the input reads as it did. -/
def versionsBeforeUptoRow : OpenClaim := { program := "ytgccoipbcbccnaa", sum := "9b0d3733cbfb390dc5604eea9fdb5973691ad607d2f5f8bca2945ff832c1c55e", func := "signatory/signatorylaw14.VersionsBefore", spec := "versionsBefore", inPlace := ["slices.overlaps[signatory/api.Amend]"], unfollowed := true, recurses := true, plainKeys := false, apart := false, narrowed := true }
def VersionsBeforeUptoSaid : Prop := versionsBeforeUptoRow.holds Try.pinned (OpenSpec.upto versionsBeforeSpec)

/-- 'signatorylaw15.OfficesSpec', WHERE WHAT IT READS IS OF BULK AT MOST 1048576: true; the input reads as it did. -/
def officesSpecUptoRow : OpenClaim := { program := "ytgccoipbcbccnaa", sum := "9b0d3733cbfb390dc5604eea9fdb5973691ad607d2f5f8bca2945ff832c1c55e", func := "signatory/signatorylaw15.OfficesSpec", spec := "officesSpec", inPlace := ["slices.overlaps[signatory/api.Appoint]"], unfollowed := true, recurses := true, plainKeys := false, apart := false, narrowed := true }
def OfficesSpecUptoSaid : Prop := officesSpecUptoRow.holds Try.pinned (OpenSpec.upto officesSpecSpec)

/-- 'signatorylaw15.OfficesHoldsSpec', WHERE WHAT IT READS IS OF BULK AT MOST 1048576: true; the input reads as it did. -/
def officesHoldsSpecUptoRow : OpenClaim := { program := "ytgccoipbcbccnaa", sum := "9b0d3733cbfb390dc5604eea9fdb5973691ad607d2f5f8bca2945ff832c1c55e", func := "signatory/signatorylaw15.OfficesHoldsSpec", spec := "officesHoldsSpec", inPlace := ["slices.overlaps[signatory/api.Appoint]"], unfollowed := true, recurses := true, plainKeys := false, apart := false, narrowed := true }
def OfficesHoldsSpecUptoSaid : Prop := officesHoldsSpecUptoRow.holds Try.pinned (OpenSpec.upto officesHoldsSpecSpec)

/-- 'signatorylaw15.OfficesLast', WHERE WHAT IT READS IS OF BULK AT MOST 1048576: true; the input reads as it did. -/
def officesLastUptoRow : OpenClaim := { program := "ytgccoipbcbccnaa", sum := "9b0d3733cbfb390dc5604eea9fdb5973691ad607d2f5f8bca2945ff832c1c55e", func := "signatory/signatorylaw15.OfficesLast", spec := "officesLast", inPlace := ["slices.overlaps[signatory/api.Appoint]"], unfollowed := true, recurses := true, plainKeys := false, apart := false, narrowed := true }
def OfficesLastUptoSaid : Prop := officesLastUptoRow.holds Try.pinned (OpenSpec.upto officesLastSpec)

/-- 'signatorylaw15.OfficesLater', WHERE WHAT IT READS IS OF BULK AT MOST 1048576: true; the input reads as it did. -/
def officesLaterUptoRow : OpenClaim := { program := "ytgccoipbcbccnaa", sum := "9b0d3733cbfb390dc5604eea9fdb5973691ad607d2f5f8bca2945ff832c1c55e", func := "signatory/signatorylaw15.OfficesLater", spec := "officesLater", inPlace := ["slices.overlaps[signatory/api.Appoint]"], unfollowed := true, recurses := true, plainKeys := false, apart := false, narrowed := true }
def OfficesLaterUptoSaid : Prop := officesLaterUptoRow.holds Try.pinned (OpenSpec.upto officesLaterSpec)

/-- 'signatorylaw15.OfficesAdded', WHERE WHAT IT READS IS OF BULK AT MOST 1048576: true; the input reads as it did. -/
def officesAddedUptoRow : OpenClaim := { program := "ytgccoipbcbccnaa", sum := "9b0d3733cbfb390dc5604eea9fdb5973691ad607d2f5f8bca2945ff832c1c55e", func := "signatory/signatorylaw15.OfficesAdded", spec := "officesAdded", inPlace := ["slices.overlaps[signatory/api.Appoint]"], unfollowed := true, recurses := true, plainKeys := false, apart := false, narrowed := true }
def OfficesAddedUptoSaid : Prop := officesAddedUptoRow.holds Try.pinned (OpenSpec.upto officesAddedSpec)

/-- 'signatorylaw15.OfficesAll', WHERE WHAT IT READS IS OF BULK AT MOST 1048576: true; the input reads as it did. -/
def officesAllUptoRow : OpenClaim := { program := "ytgccoipbcbccnaa", sum := "9b0d3733cbfb390dc5604eea9fdb5973691ad607d2f5f8bca2945ff832c1c55e", func := "signatory/signatorylaw15.OfficesAll", spec := "officesAll", inPlace := ["slices.overlaps[signatory/api.Appoint]"], unfollowed := true, recurses := true, plainKeys := false, apart := false, narrowed := true }
def OfficesAllUptoSaid : Prop := officesAllUptoRow.holds Try.pinned (OpenSpec.upto officesAllSpec)

end Rows
end Go.Proofs.Ytgccoipbcbccnaa
