/-
  NARROWER THAN 'FOR EVERY INPUT', by the rows' own cells (each row's printed sentence says how): MergeSpec: laid · MergeLiarsSpec: laid · MergeLog: laid · MergeTruth: laid · MergeNamed: laid · MergeOrder: laid · MergeMore: laid.
  DERIVED. THE GIVEN ROWS OF THIS SEAT. 7 by the template 'for every input the law returns true; each argument reads behind the call as it read before'; 0 by the template 'total and deterministic' (their statements: YtpmpefkcmokoiaaGreatDoorTotals.lean).
  GIVEN WITH THE SEED: the statements are not yours to turn. If you find one false, say at which input.
  Laid BY PROGRAM, IN A SANDBOX (cutbox-rows.mjs): the forced cells as the released guide's own fill.sh prints them over the translation 0804860d116b238b… (all of the seat's roots in one cut). By AI agents, Wed Nov 11 2026. No macro, syntax, notation, axiom, sorry.
-/
import Derived.Test.YtpmpefkcmokoiaaGreatDoorChecked
import GoSem.Claim
import GoSem.ClaimJoined
import GoSem.ClaimMapViews
import Derived.JoinedTies
import Derived.KernelRfl
namespace Go.Proofs.YtpmpefkcmokoiaaGreatDoor
/- THE CELL 'sum', in the pinned program and in every row, IS THE sha256 OF THE DUMP (.gsa) THAT YtpmpefkcmokoiaaGreatDoorProg.lean LOADS. Nothing in Lean hashes anything: it is a label: what it is worth is what the hold of that sum in a sandbox is worth. -/
noncomputable def Tryz.pinned : Pinned := { name := "ytpmpefkcmokoiaagreatdoor", sum := "0804860d116b238bff8e11bd1d4dc602234063ffb03b6670081922f33ee62fc2", checked := Tryz.checked }
namespace Rows
def none {H : Type} : Left H := { results := [], args := [] }

/- WHAT THE LISTED PACKAGE-LEVEL VARIABLES READ AS WHEN THE CALL BEGINS. Each datum BY PROGRAM (the guide's laid-datum.mjs) off the statement by which the dump's own 'gosem.cut.vars' lays the variable. In a bare row this is a premise. The card (YtpmpefkcmokoiaaGreatDoorCards.lean) ties it to the program's text. -/
def laid_signatory_digest_start {H : Type} : DataW H := .agg [.lit (.int .u32 1779033703), .lit (.int .u32 3144134277), .lit (.int .u32 1013904242), .lit (.int .u32 2773480762), .lit (.int .u32 1359893119), .lit (.int .u32 2600822924), .lit (.int .u32 528734635), .lit (.int .u32 1541459225)]
def laid_signatory_digest_numbers {H : Type} : DataW H := .agg [.lit (.int .u32 1116352408), .lit (.int .u32 1899447441), .lit (.int .u32 3049323471), .lit (.int .u32 3921009573), .lit (.int .u32 961987163), .lit (.int .u32 1508970993), .lit (.int .u32 2453635748), .lit (.int .u32 2870763221), .lit (.int .u32 3624381080), .lit (.int .u32 310598401), .lit (.int .u32 607225278), .lit (.int .u32 1426881987), .lit (.int .u32 1925078388), .lit (.int .u32 2162078206), .lit (.int .u32 2614888103), .lit (.int .u32 3248222580), .lit (.int .u32 3835390401), .lit (.int .u32 4022224774), .lit (.int .u32 264347078), .lit (.int .u32 604807628), .lit (.int .u32 770255983), .lit (.int .u32 1249150122), .lit (.int .u32 1555081692), .lit (.int .u32 1996064986), .lit (.int .u32 2554220882), .lit (.int .u32 2821834349), .lit (.int .u32 2952996808), .lit (.int .u32 3210313671), .lit (.int .u32 3336571891), .lit (.int .u32 3584528711), .lit (.int .u32 113926993), .lit (.int .u32 338241895), .lit (.int .u32 666307205), .lit (.int .u32 773529912), .lit (.int .u32 1294757372), .lit (.int .u32 1396182291), .lit (.int .u32 1695183700), .lit (.int .u32 1986661051), .lit (.int .u32 2177026350), .lit (.int .u32 2456956037), .lit (.int .u32 2730485921), .lit (.int .u32 2820302411), .lit (.int .u32 3259730800), .lit (.int .u32 3345764771), .lit (.int .u32 3516065817), .lit (.int .u32 3600352804), .lit (.int .u32 4094571909), .lit (.int .u32 275423344), .lit (.int .u32 430227734), .lit (.int .u32 506948616), .lit (.int .u32 659060556), .lit (.int .u32 883997877), .lit (.int .u32 958139571), .lit (.int .u32 1322822218), .lit (.int .u32 1537002063), .lit (.int .u32 1747873779), .lit (.int .u32 1955562222), .lit (.int .u32 2024104815), .lit (.int .u32 2227730452), .lit (.int .u32 2361852424), .lit (.int .u32 2428436474), .lit (.int .u32 2756734187), .lit (.int .u32 3204031479), .lit (.int .u32 3329325298)]

/-- 'signatorylaw50.MergeSpec': WHATEVER THE INPUT: true; the input reads as it did. -/
def mergeSpecSpec : ChangeSpec := { name := "mergeSpec", fn := fun _ => fun
  | [d1, d2] => { results := [.lit (.bool true)], args := [d1, d2] }
  | _ => none }
def mergeSpecRow : OpenClaim := { program := "ytpmpefkcmokoiaagreatdoor", sum := "0804860d116b238bff8e11bd1d4dc602234063ffb03b6670081922f33ee62fc2", func := "signatory/signatorylaw50.MergeSpec", spec := "mergeSpec", inPlace := ["internal/bytealg.Compare"], unfollowed := true, recurses := true, named := ["signatory/digest.start", "signatory/digest.numbers"], plainKeys := false, apart := false, laid := [("signatory/digest.start", laid_signatory_digest_start), ("signatory/digest.numbers", laid_signatory_digest_numbers)] }
def MergeSpecSaid : Prop := mergeSpecRow.holds Tryz.pinned (OpenSpec.ofChange mergeSpecSpec)

/-- ITS FALSE NEIGHBOUR: 'it returns false'. Refute it at one input. -/
def mergeSpecWrong : ChangeSpec := { name := "mergeSpec", fn := fun _ => fun
  | [d1, d2] => { results := [.lit (.bool false)], args := [d1, d2] }
  | _ => none }
def MergeSpecWrongFalsely : Prop := mergeSpecRow.holds Tryz.pinned (OpenSpec.ofChange mergeSpecWrong)

/-- 'signatorylaw50.MergeLiarsSpec': WHATEVER THE INPUT: true; the input reads as it did. -/
def mergeLiarsSpecSpec : ChangeSpec := { name := "mergeLiarsSpec", fn := fun _ => fun
  | [d1, d2, d3] => { results := [.lit (.bool true)], args := [d1, d2, d3] }
  | _ => none }
def mergeLiarsSpecRow : OpenClaim := { program := "ytpmpefkcmokoiaagreatdoor", sum := "0804860d116b238bff8e11bd1d4dc602234063ffb03b6670081922f33ee62fc2", func := "signatory/signatorylaw50.MergeLiarsSpec", spec := "mergeLiarsSpec", inPlace := ["internal/bytealg.Compare"], unfollowed := true, recurses := true, named := ["signatory/digest.start", "signatory/digest.numbers"], plainKeys := false, apart := false, laid := [("signatory/digest.start", laid_signatory_digest_start), ("signatory/digest.numbers", laid_signatory_digest_numbers)] }
def MergeLiarsSpecSaid : Prop := mergeLiarsSpecRow.holds Tryz.pinned (OpenSpec.ofChange mergeLiarsSpecSpec)

/-- ITS FALSE NEIGHBOUR: 'it returns false'. Refute it at one input. -/
def mergeLiarsSpecWrong : ChangeSpec := { name := "mergeLiarsSpec", fn := fun _ => fun
  | [d1, d2, d3] => { results := [.lit (.bool false)], args := [d1, d2, d3] }
  | _ => none }
def MergeLiarsSpecWrongFalsely : Prop := mergeLiarsSpecRow.holds Tryz.pinned (OpenSpec.ofChange mergeLiarsSpecWrong)

/-- 'signatorylaw50.MergeLog': WHATEVER THE INPUT: true; the input reads as it did. -/
def mergeLogSpec : ChangeSpec := { name := "mergeLog", fn := fun _ => fun
  | [d1, d2] => { results := [.lit (.bool true)], args := [d1, d2] }
  | _ => none }
def mergeLogRow : OpenClaim := { program := "ytpmpefkcmokoiaagreatdoor", sum := "0804860d116b238bff8e11bd1d4dc602234063ffb03b6670081922f33ee62fc2", func := "signatory/signatorylaw50.MergeLog", spec := "mergeLog", inPlace := ["internal/bytealg.Compare"], unfollowed := true, recurses := true, named := ["signatory/digest.start", "signatory/digest.numbers"], plainKeys := false, apart := false, laid := [("signatory/digest.start", laid_signatory_digest_start), ("signatory/digest.numbers", laid_signatory_digest_numbers)] }
def MergeLogSaid : Prop := mergeLogRow.holds Tryz.pinned (OpenSpec.ofChange mergeLogSpec)

/-- ITS FALSE NEIGHBOUR: 'it returns false'. Refute it at one input. -/
def mergeLogWrong : ChangeSpec := { name := "mergeLog", fn := fun _ => fun
  | [d1, d2] => { results := [.lit (.bool false)], args := [d1, d2] }
  | _ => none }
def MergeLogWrongFalsely : Prop := mergeLogRow.holds Tryz.pinned (OpenSpec.ofChange mergeLogWrong)

/-- 'signatorylaw50.MergeTruth': WHATEVER THE INPUT: true; the input reads as it did. -/
def mergeTruthSpec : ChangeSpec := { name := "mergeTruth", fn := fun _ => fun
  | [d1, d2, d3] => { results := [.lit (.bool true)], args := [d1, d2, d3] }
  | _ => none }
def mergeTruthRow : OpenClaim := { program := "ytpmpefkcmokoiaagreatdoor", sum := "0804860d116b238bff8e11bd1d4dc602234063ffb03b6670081922f33ee62fc2", func := "signatory/signatorylaw50.MergeTruth", spec := "mergeTruth", inPlace := ["internal/bytealg.Compare"], unfollowed := true, recurses := true, named := ["signatory/digest.start", "signatory/digest.numbers"], plainKeys := false, apart := false, laid := [("signatory/digest.start", laid_signatory_digest_start), ("signatory/digest.numbers", laid_signatory_digest_numbers)] }
def MergeTruthSaid : Prop := mergeTruthRow.holds Tryz.pinned (OpenSpec.ofChange mergeTruthSpec)

/-- ITS FALSE NEIGHBOUR: 'it returns false'. Refute it at one input. -/
def mergeTruthWrong : ChangeSpec := { name := "mergeTruth", fn := fun _ => fun
  | [d1, d2, d3] => { results := [.lit (.bool false)], args := [d1, d2, d3] }
  | _ => none }
def MergeTruthWrongFalsely : Prop := mergeTruthRow.holds Tryz.pinned (OpenSpec.ofChange mergeTruthWrong)

/-- 'signatorylaw50.MergeNamed': WHATEVER THE INPUT: true; the input reads as it did. -/
def mergeNamedSpec : ChangeSpec := { name := "mergeNamed", fn := fun _ => fun
  | [d1, d2] => { results := [.lit (.bool true)], args := [d1, d2] }
  | _ => none }
def mergeNamedRow : OpenClaim := { program := "ytpmpefkcmokoiaagreatdoor", sum := "0804860d116b238bff8e11bd1d4dc602234063ffb03b6670081922f33ee62fc2", func := "signatory/signatorylaw50.MergeNamed", spec := "mergeNamed", inPlace := ["internal/bytealg.Compare"], unfollowed := true, recurses := true, named := ["signatory/digest.start", "signatory/digest.numbers"], plainKeys := false, apart := false, laid := [("signatory/digest.start", laid_signatory_digest_start), ("signatory/digest.numbers", laid_signatory_digest_numbers)] }
def MergeNamedSaid : Prop := mergeNamedRow.holds Tryz.pinned (OpenSpec.ofChange mergeNamedSpec)

/-- ITS FALSE NEIGHBOUR: 'it returns false'. Refute it at one input. -/
def mergeNamedWrong : ChangeSpec := { name := "mergeNamed", fn := fun _ => fun
  | [d1, d2] => { results := [.lit (.bool false)], args := [d1, d2] }
  | _ => none }
def MergeNamedWrongFalsely : Prop := mergeNamedRow.holds Tryz.pinned (OpenSpec.ofChange mergeNamedWrong)

/-- 'signatorylaw50.MergeOrder': WHATEVER THE INPUT: true; the input reads as it did. -/
def mergeOrderSpec : ChangeSpec := { name := "mergeOrder", fn := fun _ => fun
  | [d1, d2, d3, d4] => { results := [.lit (.bool true)], args := [d1, d2, d3, d4] }
  | _ => none }
def mergeOrderRow : OpenClaim := { program := "ytpmpefkcmokoiaagreatdoor", sum := "0804860d116b238bff8e11bd1d4dc602234063ffb03b6670081922f33ee62fc2", func := "signatory/signatorylaw50.MergeOrder", spec := "mergeOrder", inPlace := ["internal/bytealg.Compare"], unfollowed := true, recurses := true, named := ["signatory/digest.start", "signatory/digest.numbers"], plainKeys := false, apart := false, laid := [("signatory/digest.start", laid_signatory_digest_start), ("signatory/digest.numbers", laid_signatory_digest_numbers)] }
def MergeOrderSaid : Prop := mergeOrderRow.holds Tryz.pinned (OpenSpec.ofChange mergeOrderSpec)

/-- ITS FALSE NEIGHBOUR: 'it returns false'. Refute it at one input. -/
def mergeOrderWrong : ChangeSpec := { name := "mergeOrder", fn := fun _ => fun
  | [d1, d2, d3, d4] => { results := [.lit (.bool false)], args := [d1, d2, d3, d4] }
  | _ => none }
def MergeOrderWrongFalsely : Prop := mergeOrderRow.holds Tryz.pinned (OpenSpec.ofChange mergeOrderWrong)

/-- 'signatorylaw50.MergeMore': WHATEVER THE INPUT: true; the input reads as it did. -/
def mergeMoreSpec : ChangeSpec := { name := "mergeMore", fn := fun _ => fun
  | [d1, d2, d3] => { results := [.lit (.bool true)], args := [d1, d2, d3] }
  | _ => none }
def mergeMoreRow : OpenClaim := { program := "ytpmpefkcmokoiaagreatdoor", sum := "0804860d116b238bff8e11bd1d4dc602234063ffb03b6670081922f33ee62fc2", func := "signatory/signatorylaw50.MergeMore", spec := "mergeMore", inPlace := ["internal/bytealg.Compare"], unfollowed := true, recurses := true, named := ["signatory/digest.start", "signatory/digest.numbers"], plainKeys := false, apart := false, laid := [("signatory/digest.start", laid_signatory_digest_start), ("signatory/digest.numbers", laid_signatory_digest_numbers)] }
def MergeMoreSaid : Prop := mergeMoreRow.holds Tryz.pinned (OpenSpec.ofChange mergeMoreSpec)

/-- ITS FALSE NEIGHBOUR: 'it returns false'. Refute it at one input. -/
def mergeMoreWrong : ChangeSpec := { name := "mergeMore", fn := fun _ => fun
  | [d1, d2, d3] => { results := [.lit (.bool false)], args := [d1, d2, d3] }
  | _ => none }
def MergeMoreWrongFalsely : Prop := mergeMoreRow.holds Tryz.pinned (OpenSpec.ofChange mergeMoreWrong)

/- THE SECOND FORM. 'bulk': how many values and letters a reading holds, each counted each time it is reached (what is shared counts as often as it is met; a slice's spare places count too). A statement '..UptoSaid' is the law's where the arguments, and the package variables that the reading takes, are together of bulk at most 1048576: NARROWER than '..Said'. Prove '..Said' where nothing that the law and all that it calls make is longer than what came in: it says more and counts as full. Else prove '..UptoSaid'. A law counts once. -/
mutual
def uptoBulk {H : Type} : DataW H → Nat
  | .lit (.string bytes) => bytes.length + 1
  | .lit _ => 1
  | .nil => 1
  | .ptr d => uptoBulk d + 1
  | .slice elems spare => uptoBulkAll elems + uptoBulkAll spare + 1
  | .agg parts => uptoBulkAll parts + 1
  | .iface _ d => uptoBulk d + 1
  | .map entries => uptoBulkEntries entries + 1
  | .held _ => 1
def uptoBulkAll {H : Type} : List (DataW H) → Nat
  | [] => 0
  | d :: r => uptoBulk d + uptoBulkAll r
def uptoBulkEntries {H : Type} : List (Lit × DataW H) → Nat
  | [] => 0
  | x :: r => uptoBulkEntry x + uptoBulkEntries r
def uptoBulkEntry {H : Type} : Lit × DataW H → Nat
  | (.string bytes, d) => bytes.length + uptoBulk d + 1
  | (_, d) => uptoBulk d + 1
 end
def uptoSmall : (H : Type) → List (DataW H) → Bool := fun _ ds => decide (uptoBulkAll ds ≤ 1048576)
def OpenSpec.upto (s : _root_.Go.ChangeSpec) : _root_.Go.OpenSpec := { _root_.Go.OpenSpec.ofChange s with cond := some uptoSmall }

/-- 'signatorylaw50.MergeSpec', WHERE WHAT IT READS IS OF BULK AT MOST 1048576: true; the input reads as it did. -/
def mergeSpecUptoRow : OpenClaim := { program := "ytpmpefkcmokoiaagreatdoor", sum := "0804860d116b238bff8e11bd1d4dc602234063ffb03b6670081922f33ee62fc2", func := "signatory/signatorylaw50.MergeSpec", spec := "mergeSpec", inPlace := ["internal/bytealg.Compare"], unfollowed := true, recurses := true, named := ["signatory/digest.start", "signatory/digest.numbers"], plainKeys := false, apart := false, laid := [("signatory/digest.start", laid_signatory_digest_start), ("signatory/digest.numbers", laid_signatory_digest_numbers)], narrowed := true }
def MergeSpecUptoSaid : Prop := mergeSpecUptoRow.holds Tryz.pinned (OpenSpec.upto mergeSpecSpec)

/-- 'signatorylaw50.MergeLiarsSpec', WHERE WHAT IT READS IS OF BULK AT MOST 1048576: true; the input reads as it did. -/
def mergeLiarsSpecUptoRow : OpenClaim := { program := "ytpmpefkcmokoiaagreatdoor", sum := "0804860d116b238bff8e11bd1d4dc602234063ffb03b6670081922f33ee62fc2", func := "signatory/signatorylaw50.MergeLiarsSpec", spec := "mergeLiarsSpec", inPlace := ["internal/bytealg.Compare"], unfollowed := true, recurses := true, named := ["signatory/digest.start", "signatory/digest.numbers"], plainKeys := false, apart := false, laid := [("signatory/digest.start", laid_signatory_digest_start), ("signatory/digest.numbers", laid_signatory_digest_numbers)], narrowed := true }
def MergeLiarsSpecUptoSaid : Prop := mergeLiarsSpecUptoRow.holds Tryz.pinned (OpenSpec.upto mergeLiarsSpecSpec)

/-- 'signatorylaw50.MergeLog', WHERE WHAT IT READS IS OF BULK AT MOST 1048576: true; the input reads as it did. -/
def mergeLogUptoRow : OpenClaim := { program := "ytpmpefkcmokoiaagreatdoor", sum := "0804860d116b238bff8e11bd1d4dc602234063ffb03b6670081922f33ee62fc2", func := "signatory/signatorylaw50.MergeLog", spec := "mergeLog", inPlace := ["internal/bytealg.Compare"], unfollowed := true, recurses := true, named := ["signatory/digest.start", "signatory/digest.numbers"], plainKeys := false, apart := false, laid := [("signatory/digest.start", laid_signatory_digest_start), ("signatory/digest.numbers", laid_signatory_digest_numbers)], narrowed := true }
def MergeLogUptoSaid : Prop := mergeLogUptoRow.holds Tryz.pinned (OpenSpec.upto mergeLogSpec)

/-- 'signatorylaw50.MergeTruth', WHERE WHAT IT READS IS OF BULK AT MOST 1048576: true; the input reads as it did. -/
def mergeTruthUptoRow : OpenClaim := { program := "ytpmpefkcmokoiaagreatdoor", sum := "0804860d116b238bff8e11bd1d4dc602234063ffb03b6670081922f33ee62fc2", func := "signatory/signatorylaw50.MergeTruth", spec := "mergeTruth", inPlace := ["internal/bytealg.Compare"], unfollowed := true, recurses := true, named := ["signatory/digest.start", "signatory/digest.numbers"], plainKeys := false, apart := false, laid := [("signatory/digest.start", laid_signatory_digest_start), ("signatory/digest.numbers", laid_signatory_digest_numbers)], narrowed := true }
def MergeTruthUptoSaid : Prop := mergeTruthUptoRow.holds Tryz.pinned (OpenSpec.upto mergeTruthSpec)

/-- 'signatorylaw50.MergeNamed', WHERE WHAT IT READS IS OF BULK AT MOST 1048576: true; the input reads as it did. -/
def mergeNamedUptoRow : OpenClaim := { program := "ytpmpefkcmokoiaagreatdoor", sum := "0804860d116b238bff8e11bd1d4dc602234063ffb03b6670081922f33ee62fc2", func := "signatory/signatorylaw50.MergeNamed", spec := "mergeNamed", inPlace := ["internal/bytealg.Compare"], unfollowed := true, recurses := true, named := ["signatory/digest.start", "signatory/digest.numbers"], plainKeys := false, apart := false, laid := [("signatory/digest.start", laid_signatory_digest_start), ("signatory/digest.numbers", laid_signatory_digest_numbers)], narrowed := true }
def MergeNamedUptoSaid : Prop := mergeNamedUptoRow.holds Tryz.pinned (OpenSpec.upto mergeNamedSpec)

/-- 'signatorylaw50.MergeOrder', WHERE WHAT IT READS IS OF BULK AT MOST 1048576: true; the input reads as it did. -/
def mergeOrderUptoRow : OpenClaim := { program := "ytpmpefkcmokoiaagreatdoor", sum := "0804860d116b238bff8e11bd1d4dc602234063ffb03b6670081922f33ee62fc2", func := "signatory/signatorylaw50.MergeOrder", spec := "mergeOrder", inPlace := ["internal/bytealg.Compare"], unfollowed := true, recurses := true, named := ["signatory/digest.start", "signatory/digest.numbers"], plainKeys := false, apart := false, laid := [("signatory/digest.start", laid_signatory_digest_start), ("signatory/digest.numbers", laid_signatory_digest_numbers)], narrowed := true }
def MergeOrderUptoSaid : Prop := mergeOrderUptoRow.holds Tryz.pinned (OpenSpec.upto mergeOrderSpec)

/-- 'signatorylaw50.MergeMore', WHERE WHAT IT READS IS OF BULK AT MOST 1048576: true; the input reads as it did. -/
def mergeMoreUptoRow : OpenClaim := { program := "ytpmpefkcmokoiaagreatdoor", sum := "0804860d116b238bff8e11bd1d4dc602234063ffb03b6670081922f33ee62fc2", func := "signatory/signatorylaw50.MergeMore", spec := "mergeMore", inPlace := ["internal/bytealg.Compare"], unfollowed := true, recurses := true, named := ["signatory/digest.start", "signatory/digest.numbers"], plainKeys := false, apart := false, laid := [("signatory/digest.start", laid_signatory_digest_start), ("signatory/digest.numbers", laid_signatory_digest_numbers)], narrowed := true }
def MergeMoreUptoSaid : Prop := mergeMoreUptoRow.holds Tryz.pinned (OpenSpec.upto mergeMoreSpec)

end Rows
end Go.Proofs.YtpmpefkcmokoiaaGreatDoor
