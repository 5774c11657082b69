/-
  NARROWER THAN 'FOR EVERY INPUT', by the rows' own cells (each row's printed sentence says how): ConnCuts: laid · ConnOrder: laid · ConnSilence: laid · ConnPlays: laid · ConnMany: laid · CodecForm: laid · CodecFirm: laid · CodecBack: laid · FrameWhole: laid.
  DERIVED. THE GIVEN ROWS OF THIS SEAT. 9 by the template 'for every input the law returns true; each argument reads behind the call as it read before'; 0 by the template 'total and deterministic' (their statements: YthlbcgaegaoanaaGreatDoorTotals.lean).
  GIVEN WITH THE SEED: the statements are not yours to turn. If you find one false, say at which input.
  Laid BY PROGRAM, IN A SANDBOX (cutbox-rows.mjs): the forced cells as the released guide's own fill.sh prints them over the translation bd559eaea3c6aa78… (all of the seat's roots in one cut). By AI agents, Wed Nov 11 2026. No macro, syntax, notation, axiom, sorry.
-/
import Derived.Test.YthlbcgaegaoanaaGreatDoorChecked
import GoSem.Claim
import GoSem.ClaimJoined
import GoSem.ClaimMapViews
import Derived.JoinedTies
import Derived.KernelRfl
namespace Go.Proofs.YthlbcgaegaoanaaGreatDoor
/- THE CELL 'sum', in the pinned program and in every row, IS THE sha256 OF THE DUMP (.gsa) THAT YthlbcgaegaoanaaGreatDoorProg.lean LOADS. Nothing in Lean hashes anything: it is a label: what it is worth is what the hold of that sum in a sandbox is worth. -/
noncomputable def Tryz.pinned : Pinned := { name := "ythlbcgaegaoanaagreatdoor", sum := "bd559eaea3c6aa7835fc43daad447ff9caf9029d1e616eeef10420520983c030", checked := Tryz.checked }
namespace Rows
def none {H : Type} : Left H := { results := [], args := [] }

/- WHAT THE LISTED PACKAGE-LEVEL VARIABLES READ AS WHEN THE CALL BEGINS. Each datum BY PROGRAM (the guide's laid-datum.mjs) off the statement by which the dump's own 'gosem.cut.vars' lays the variable. In a bare row this is a premise. The card (YthlbcgaegaoanaaGreatDoorCards.lean) ties it to the program's text. -/
def laid_errors_errorType {H : Type} : DataW H := .iface "internal/reflectlite.rtype" (.agg [.ptr (.lit (.string [101, 114, 114, 111, 114]))])
def laid_crier_packet_has {H : Type} : DataW H := .agg [.lit (.int .i64 0), .lit (.int .i64 1), .lit (.int .i64 2), .lit (.int .i64 4), .lit (.int .i64 8), .lit (.int .i64 8), .lit (.int .i64 8), .lit (.int .i64 8), .lit (.int .i64 24), .lit (.int .i64 40), .lit (.int .i64 72), .lit (.int .i64 8), .lit (.int .i64 0), .lit (.int .i64 0), .lit (.int .i64 0)]
def laid_crier_packet_flags {H : Type} : DataW H := .agg [.lit (.int .i64 0), .lit (.int .i64 0), .lit (.int .i64 0), .lit (.int .i64 0), .lit (.int .i64 0), .lit (.int .i64 0), .lit (.int .i64 2), .lit (.int .i64 0), .lit (.int .i64 2), .lit (.int .i64 0), .lit (.int .i64 2), .lit (.int .i64 0), .lit (.int .i64 0), .lit (.int .i64 0), .lit (.int .i64 0)]

/-- 'crierlaw14.ConnCuts': WHATEVER THE INPUT: true; the input reads as it did. -/
def connCutsSpec : ChangeSpec := { name := "connCuts", fn := fun _ => fun
  | [d1, d2, d3] => { results := [.lit (.bool true)], args := [d1, d2, d3] }
  | _ => none }
def connCutsRow : OpenClaim := { program := "ythlbcgaegaoanaagreatdoor", sum := "bd559eaea3c6aa7835fc43daad447ff9caf9029d1e616eeef10420520983c030", func := "crier/crierlaw14.ConnCuts", spec := "connCuts", inPlace := ["internal/reflectlite.ValueOf", "(internal/reflectlite.Value).Type", "(internal/reflectlite.Value).IsNil", "internal/reflectlite.TypeOf", "(internal/reflectlite.Value).Elem", "(internal/reflectlite.Value).Set", "internal/bytealg.IndexByteString", "internal/bytealg.IndexString"], unfollowed := true, recurses := true, named := ["crier/packet.flags", "errors.errorType", "crier/packet.has", "internal/bytealg.MaxLen"], apart := false, laid := [("errors.errorType", laid_errors_errorType), ("crier/packet.has", laid_crier_packet_has), ("crier/packet.flags", laid_crier_packet_flags)] }
def ConnCutsSaid : Prop := connCutsRow.holds Tryz.pinned (OpenSpec.ofChange connCutsSpec)

/-- ITS FALSE NEIGHBOUR: 'it returns false'. Refute it at one input. -/
def connCutsWrong : ChangeSpec := { name := "connCuts", fn := fun _ => fun
  | [d1, d2, d3] => { results := [.lit (.bool false)], args := [d1, d2, d3] }
  | _ => none }
def ConnCutsWrongFalsely : Prop := connCutsRow.holds Tryz.pinned (OpenSpec.ofChange connCutsWrong)

/-- 'crierlaw14.ConnOrder': WHATEVER THE INPUT: true; the input reads as it did. -/
def connOrderSpec : ChangeSpec := { name := "connOrder", fn := fun _ => fun
  | [d1, d2] => { results := [.lit (.bool true)], args := [d1, d2] }
  | _ => none }
def connOrderRow : OpenClaim := { program := "ythlbcgaegaoanaagreatdoor", sum := "bd559eaea3c6aa7835fc43daad447ff9caf9029d1e616eeef10420520983c030", func := "crier/crierlaw14.ConnOrder", spec := "connOrder", inPlace := ["internal/reflectlite.ValueOf", "(internal/reflectlite.Value).Type", "(internal/reflectlite.Value).IsNil", "internal/reflectlite.TypeOf", "(internal/reflectlite.Value).Elem", "(internal/reflectlite.Value).Set", "internal/bytealg.IndexByteString", "internal/bytealg.IndexString"], unfollowed := true, recurses := true, named := ["crier/packet.flags", "errors.errorType", "crier/packet.has", "internal/bytealg.MaxLen"], apart := false, laid := [("errors.errorType", laid_errors_errorType), ("crier/packet.has", laid_crier_packet_has), ("crier/packet.flags", laid_crier_packet_flags)] }
def ConnOrderSaid : Prop := connOrderRow.holds Tryz.pinned (OpenSpec.ofChange connOrderSpec)

/-- ITS FALSE NEIGHBOUR: 'it returns false'. Refute it at one input. -/
def connOrderWrong : ChangeSpec := { name := "connOrder", fn := fun _ => fun
  | [d1, d2] => { results := [.lit (.bool false)], args := [d1, d2] }
  | _ => none }
def ConnOrderWrongFalsely : Prop := connOrderRow.holds Tryz.pinned (OpenSpec.ofChange connOrderWrong)

/-- 'crierlaw14.ConnSilence': WHATEVER THE INPUT: true; the input reads as it did. -/
def connSilenceSpec : ChangeSpec := { name := "connSilence", fn := fun _ => fun
  | [d1, d2] => { results := [.lit (.bool true)], args := [d1, d2] }
  | _ => none }
def connSilenceRow : OpenClaim := { program := "ythlbcgaegaoanaagreatdoor", sum := "bd559eaea3c6aa7835fc43daad447ff9caf9029d1e616eeef10420520983c030", func := "crier/crierlaw14.ConnSilence", spec := "connSilence", inPlace := ["internal/reflectlite.ValueOf", "(internal/reflectlite.Value).Type", "(internal/reflectlite.Value).IsNil", "internal/reflectlite.TypeOf", "(internal/reflectlite.Value).Elem", "(internal/reflectlite.Value).Set", "internal/bytealg.IndexByteString", "internal/bytealg.IndexString"], unfollowed := true, recurses := true, named := ["crier/packet.flags", "errors.errorType", "crier/packet.has", "internal/bytealg.MaxLen"], apart := false, laid := [("errors.errorType", laid_errors_errorType), ("crier/packet.has", laid_crier_packet_has), ("crier/packet.flags", laid_crier_packet_flags)] }
def ConnSilenceSaid : Prop := connSilenceRow.holds Tryz.pinned (OpenSpec.ofChange connSilenceSpec)

/-- ITS FALSE NEIGHBOUR: 'it returns false'. Refute it at one input. -/
def connSilenceWrong : ChangeSpec := { name := "connSilence", fn := fun _ => fun
  | [d1, d2] => { results := [.lit (.bool false)], args := [d1, d2] }
  | _ => none }
def ConnSilenceWrongFalsely : Prop := connSilenceRow.holds Tryz.pinned (OpenSpec.ofChange connSilenceWrong)

/-- 'crierlaw14.ConnPlays': WHATEVER THE INPUT: true; the input reads as it did. -/
def connPlaysSpec : ChangeSpec := { name := "connPlays", fn := fun _ => fun
  | [d1, d2, d3] => { results := [.lit (.bool true)], args := [d1, d2, d3] }
  | _ => none }
def connPlaysRow : OpenClaim := { program := "ythlbcgaegaoanaagreatdoor", sum := "bd559eaea3c6aa7835fc43daad447ff9caf9029d1e616eeef10420520983c030", func := "crier/crierlaw14.ConnPlays", spec := "connPlays", inPlace := ["internal/reflectlite.ValueOf", "(internal/reflectlite.Value).Type", "(internal/reflectlite.Value).IsNil", "internal/reflectlite.TypeOf", "(internal/reflectlite.Value).Elem", "(internal/reflectlite.Value).Set", "internal/bytealg.IndexByteString", "internal/bytealg.IndexString"], unfollowed := true, recurses := true, named := ["crier/packet.flags", "errors.errorType", "crier/packet.has", "internal/bytealg.MaxLen"], apart := false, laid := [("errors.errorType", laid_errors_errorType), ("crier/packet.has", laid_crier_packet_has), ("crier/packet.flags", laid_crier_packet_flags)] }
def ConnPlaysSaid : Prop := connPlaysRow.holds Tryz.pinned (OpenSpec.ofChange connPlaysSpec)

/-- ITS FALSE NEIGHBOUR: 'it returns false'. Refute it at one input. -/
def connPlaysWrong : ChangeSpec := { name := "connPlays", fn := fun _ => fun
  | [d1, d2, d3] => { results := [.lit (.bool false)], args := [d1, d2, d3] }
  | _ => none }
def ConnPlaysWrongFalsely : Prop := connPlaysRow.holds Tryz.pinned (OpenSpec.ofChange connPlaysWrong)

/-- 'crierlaw14.ConnMany': WHATEVER THE INPUT: true; the input reads as it did. -/
def connManySpec : ChangeSpec := { name := "connMany", fn := fun _ => fun
  | [d1, d2, d3, d4] => { results := [.lit (.bool true)], args := [d1, d2, d3, d4] }
  | _ => none }
def connManyRow : OpenClaim := { program := "ythlbcgaegaoanaagreatdoor", sum := "bd559eaea3c6aa7835fc43daad447ff9caf9029d1e616eeef10420520983c030", func := "crier/crierlaw14.ConnMany", spec := "connMany", inPlace := ["internal/reflectlite.ValueOf", "(internal/reflectlite.Value).Type", "(internal/reflectlite.Value).IsNil", "internal/reflectlite.TypeOf", "(internal/reflectlite.Value).Elem", "(internal/reflectlite.Value).Set", "internal/bytealg.IndexByteString", "internal/bytealg.IndexString"], unfollowed := true, recurses := true, named := ["crier/packet.flags", "errors.errorType", "crier/packet.has", "internal/bytealg.MaxLen"], apart := false, laid := [("errors.errorType", laid_errors_errorType), ("crier/packet.has", laid_crier_packet_has), ("crier/packet.flags", laid_crier_packet_flags)] }
def ConnManySaid : Prop := connManyRow.holds Tryz.pinned (OpenSpec.ofChange connManySpec)

/-- ITS FALSE NEIGHBOUR: 'it returns false'. Refute it at one input. -/
def connManyWrong : ChangeSpec := { name := "connMany", fn := fun _ => fun
  | [d1, d2, d3, d4] => { results := [.lit (.bool false)], args := [d1, d2, d3, d4] }
  | _ => none }
def ConnManyWrongFalsely : Prop := connManyRow.holds Tryz.pinned (OpenSpec.ofChange connManyWrong)

/-- 'crierlaw3.CodecForm': WHATEVER THE INPUT: true; the input reads as it did. -/
def codecFormSpec : ChangeSpec := { name := "codecForm", fn := fun _ => fun
  | [d1, d2] => { results := [.lit (.bool true)], args := [d1, d2] }
  | _ => none }
def codecFormRow : OpenClaim := { program := "ythlbcgaegaoanaagreatdoor", sum := "bd559eaea3c6aa7835fc43daad447ff9caf9029d1e616eeef10420520983c030", func := "crier/crierlaw3.CodecForm", spec := "codecForm", inPlace := ["internal/bytealg.IndexByteString", "internal/bytealg.IndexString", "internal/reflectlite.ValueOf", "(internal/reflectlite.Value).Type", "(internal/reflectlite.Value).IsNil", "internal/reflectlite.TypeOf", "(internal/reflectlite.Value).Elem", "(internal/reflectlite.Value).Set"], unfollowed := true, recurses := true, named := ["crier/packet.has", "crier/packet.flags", "errors.errorType", "internal/bytealg.MaxLen"], apart := false, laid := [("errors.errorType", laid_errors_errorType), ("crier/packet.has", laid_crier_packet_has), ("crier/packet.flags", laid_crier_packet_flags)] }
def CodecFormSaid : Prop := codecFormRow.holds Tryz.pinned (OpenSpec.ofChange codecFormSpec)

/-- ITS FALSE NEIGHBOUR: 'it returns false'. Refute it at one input. -/
def codecFormWrong : ChangeSpec := { name := "codecForm", fn := fun _ => fun
  | [d1, d2] => { results := [.lit (.bool false)], args := [d1, d2] }
  | _ => none }
def CodecFormWrongFalsely : Prop := codecFormRow.holds Tryz.pinned (OpenSpec.ofChange codecFormWrong)

/-- 'crierlaw3.CodecFirm': WHATEVER THE INPUT: true; the input reads as it did. -/
def codecFirmSpec : ChangeSpec := { name := "codecFirm", fn := fun _ => fun
  | [d1, d2, d3, d4] => { results := [.lit (.bool true)], args := [d1, d2, d3, d4] }
  | _ => none }
def codecFirmRow : OpenClaim := { program := "ythlbcgaegaoanaagreatdoor", sum := "bd559eaea3c6aa7835fc43daad447ff9caf9029d1e616eeef10420520983c030", func := "crier/crierlaw3.CodecFirm", spec := "codecFirm", inPlace := ["internal/bytealg.IndexByteString", "internal/bytealg.IndexString", "internal/reflectlite.ValueOf", "(internal/reflectlite.Value).Type", "(internal/reflectlite.Value).IsNil", "internal/reflectlite.TypeOf", "(internal/reflectlite.Value).Elem", "(internal/reflectlite.Value).Set"], unfollowed := true, recurses := true, named := ["crier/packet.has", "crier/packet.flags", "errors.errorType", "internal/bytealg.MaxLen"], apart := false, laid := [("errors.errorType", laid_errors_errorType), ("crier/packet.has", laid_crier_packet_has), ("crier/packet.flags", laid_crier_packet_flags)] }
def CodecFirmSaid : Prop := codecFirmRow.holds Tryz.pinned (OpenSpec.ofChange codecFirmSpec)

/-- ITS FALSE NEIGHBOUR: 'it returns false'. Refute it at one input. -/
def codecFirmWrong : ChangeSpec := { name := "codecFirm", fn := fun _ => fun
  | [d1, d2, d3, d4] => { results := [.lit (.bool false)], args := [d1, d2, d3, d4] }
  | _ => none }
def CodecFirmWrongFalsely : Prop := codecFirmRow.holds Tryz.pinned (OpenSpec.ofChange codecFirmWrong)

/-- 'crierlaw3.CodecBack': WHATEVER THE INPUT: true; the input reads as it did. -/
def codecBackSpec : ChangeSpec := { name := "codecBack", fn := fun _ => fun
  | [d1, d2, d3] => { results := [.lit (.bool true)], args := [d1, d2, d3] }
  | _ => none }
def codecBackRow : OpenClaim := { program := "ythlbcgaegaoanaagreatdoor", sum := "bd559eaea3c6aa7835fc43daad447ff9caf9029d1e616eeef10420520983c030", func := "crier/crierlaw3.CodecBack", spec := "codecBack", inPlace := ["internal/bytealg.IndexByteString", "internal/bytealg.IndexString", "internal/reflectlite.ValueOf", "(internal/reflectlite.Value).Type", "(internal/reflectlite.Value).IsNil", "internal/reflectlite.TypeOf", "(internal/reflectlite.Value).Elem", "(internal/reflectlite.Value).Set"], unfollowed := true, recurses := true, named := ["crier/packet.has", "crier/packet.flags", "errors.errorType", "internal/bytealg.MaxLen"], apart := false, laid := [("errors.errorType", laid_errors_errorType), ("crier/packet.has", laid_crier_packet_has), ("crier/packet.flags", laid_crier_packet_flags)] }
def CodecBackSaid : Prop := codecBackRow.holds Tryz.pinned (OpenSpec.ofChange codecBackSpec)

/-- ITS FALSE NEIGHBOUR: 'it returns false'. Refute it at one input. -/
def codecBackWrong : ChangeSpec := { name := "codecBack", fn := fun _ => fun
  | [d1, d2, d3] => { results := [.lit (.bool false)], args := [d1, d2, d3] }
  | _ => none }
def CodecBackWrongFalsely : Prop := codecBackRow.holds Tryz.pinned (OpenSpec.ofChange codecBackWrong)

/-- 'crierlaw4.FrameWhole': WHATEVER THE INPUT: true; the input reads as it did. -/
def frameWholeSpec : ChangeSpec := { name := "frameWhole", fn := fun _ => fun
  | [d1, d2] => { results := [.lit (.bool true)], args := [d1, d2] }
  | _ => none }
def frameWholeRow : OpenClaim := { program := "ythlbcgaegaoanaagreatdoor", sum := "bd559eaea3c6aa7835fc43daad447ff9caf9029d1e616eeef10420520983c030", func := "crier/crierlaw4.FrameWhole", spec := "frameWhole", inPlace := ["internal/reflectlite.ValueOf", "(internal/reflectlite.Value).Type", "(internal/reflectlite.Value).IsNil", "internal/reflectlite.TypeOf", "(internal/reflectlite.Value).Elem", "(internal/reflectlite.Value).Set", "internal/bytealg.IndexByteString", "internal/bytealg.IndexString"], unfollowed := true, recurses := true, named := ["crier/packet.flags", "errors.errorType", "crier/packet.has", "internal/bytealg.MaxLen"], apart := false, laid := [("errors.errorType", laid_errors_errorType), ("crier/packet.has", laid_crier_packet_has), ("crier/packet.flags", laid_crier_packet_flags)] }
def FrameWholeSaid : Prop := frameWholeRow.holds Tryz.pinned (OpenSpec.ofChange frameWholeSpec)

/-- ITS FALSE NEIGHBOUR: 'it returns false'. Refute it at one input. -/
def frameWholeWrong : ChangeSpec := { name := "frameWhole", fn := fun _ => fun
  | [d1, d2] => { results := [.lit (.bool false)], args := [d1, d2] }
  | _ => none }
def FrameWholeWrongFalsely : Prop := frameWholeRow.holds Tryz.pinned (OpenSpec.ofChange frameWholeWrong)

/- THE SECOND FORM. 'bulk': how many values and letters a reading holds, each counted each time it is reached (what is shared counts as often as it is met; a slice's spare places count too). A statement '..UptoSaid' is the law's where the arguments, and the package variables that the reading takes, are together of bulk at most 1048576: NARROWER than '..Said'. Prove '..Said' where nothing that the law and all that it calls make is longer than what came in: it says more and counts as full. Else prove '..UptoSaid'. A law counts once. -/
mutual
def uptoBulk {H : Type} : DataW H → Nat
  | .lit (.string bytes) => bytes.length + 1
  | .lit _ => 1
  | .nil => 1
  | .ptr d => uptoBulk d + 1
  | .slice elems spare => uptoBulkAll elems + uptoBulkAll spare + 1
  | .agg parts => uptoBulkAll parts + 1
  | .iface _ d => uptoBulk d + 1
  | .map entries => uptoBulkEntries entries + 1
  | .held _ => 1
def uptoBulkAll {H : Type} : List (DataW H) → Nat
  | [] => 0
  | d :: r => uptoBulk d + uptoBulkAll r
def uptoBulkEntries {H : Type} : List (Lit × DataW H) → Nat
  | [] => 0
  | x :: r => uptoBulkEntry x + uptoBulkEntries r
def uptoBulkEntry {H : Type} : Lit × DataW H → Nat
  | (.string bytes, d) => bytes.length + uptoBulk d + 1
  | (_, d) => uptoBulk d + 1
 end
def uptoSmall : (H : Type) → List (DataW H) → Bool := fun _ ds => decide (uptoBulkAll ds ≤ 1048576)
def OpenSpec.upto (s : _root_.Go.ChangeSpec) : _root_.Go.OpenSpec := { _root_.Go.OpenSpec.ofChange s with cond := some uptoSmall }

/-- 'crierlaw14.ConnCuts', WHERE WHAT IT READS IS OF BULK AT MOST 1048576: true; the input reads as it did. -/
def connCutsUptoRow : OpenClaim := { program := "ythlbcgaegaoanaagreatdoor", sum := "bd559eaea3c6aa7835fc43daad447ff9caf9029d1e616eeef10420520983c030", func := "crier/crierlaw14.ConnCuts", spec := "connCuts", inPlace := ["internal/reflectlite.ValueOf", "(internal/reflectlite.Value).Type", "(internal/reflectlite.Value).IsNil", "internal/reflectlite.TypeOf", "(internal/reflectlite.Value).Elem", "(internal/reflectlite.Value).Set", "internal/bytealg.IndexByteString", "internal/bytealg.IndexString"], unfollowed := true, recurses := true, named := ["crier/packet.flags", "errors.errorType", "crier/packet.has", "internal/bytealg.MaxLen"], apart := false, laid := [("errors.errorType", laid_errors_errorType), ("crier/packet.has", laid_crier_packet_has), ("crier/packet.flags", laid_crier_packet_flags)], narrowed := true }
def ConnCutsUptoSaid : Prop := connCutsUptoRow.holds Tryz.pinned (OpenSpec.upto connCutsSpec)

/-- 'crierlaw14.ConnOrder', WHERE WHAT IT READS IS OF BULK AT MOST 1048576: true; the input reads as it did. -/
def connOrderUptoRow : OpenClaim := { program := "ythlbcgaegaoanaagreatdoor", sum := "bd559eaea3c6aa7835fc43daad447ff9caf9029d1e616eeef10420520983c030", func := "crier/crierlaw14.ConnOrder", spec := "connOrder", inPlace := ["internal/reflectlite.ValueOf", "(internal/reflectlite.Value).Type", "(internal/reflectlite.Value).IsNil", "internal/reflectlite.TypeOf", "(internal/reflectlite.Value).Elem", "(internal/reflectlite.Value).Set", "internal/bytealg.IndexByteString", "internal/bytealg.IndexString"], unfollowed := true, recurses := true, named := ["crier/packet.flags", "errors.errorType", "crier/packet.has", "internal/bytealg.MaxLen"], apart := false, laid := [("errors.errorType", laid_errors_errorType), ("crier/packet.has", laid_crier_packet_has), ("crier/packet.flags", laid_crier_packet_flags)], narrowed := true }
def ConnOrderUptoSaid : Prop := connOrderUptoRow.holds Tryz.pinned (OpenSpec.upto connOrderSpec)

/-- 'crierlaw14.ConnSilence', WHERE WHAT IT READS IS OF BULK AT MOST 1048576: true; the input reads as it did. -/
def connSilenceUptoRow : OpenClaim := { program := "ythlbcgaegaoanaagreatdoor", sum := "bd559eaea3c6aa7835fc43daad447ff9caf9029d1e616eeef10420520983c030", func := "crier/crierlaw14.ConnSilence", spec := "connSilence", inPlace := ["internal/reflectlite.ValueOf", "(internal/reflectlite.Value).Type", "(internal/reflectlite.Value).IsNil", "internal/reflectlite.TypeOf", "(internal/reflectlite.Value).Elem", "(internal/reflectlite.Value).Set", "internal/bytealg.IndexByteString", "internal/bytealg.IndexString"], unfollowed := true, recurses := true, named := ["crier/packet.flags", "errors.errorType", "crier/packet.has", "internal/bytealg.MaxLen"], apart := false, laid := [("errors.errorType", laid_errors_errorType), ("crier/packet.has", laid_crier_packet_has), ("crier/packet.flags", laid_crier_packet_flags)], narrowed := true }
def ConnSilenceUptoSaid : Prop := connSilenceUptoRow.holds Tryz.pinned (OpenSpec.upto connSilenceSpec)

/-- 'crierlaw14.ConnPlays', WHERE WHAT IT READS IS OF BULK AT MOST 1048576: true; the input reads as it did. -/
def connPlaysUptoRow : OpenClaim := { program := "ythlbcgaegaoanaagreatdoor", sum := "bd559eaea3c6aa7835fc43daad447ff9caf9029d1e616eeef10420520983c030", func := "crier/crierlaw14.ConnPlays", spec := "connPlays", inPlace := ["internal/reflectlite.ValueOf", "(internal/reflectlite.Value).Type", "(internal/reflectlite.Value).IsNil", "internal/reflectlite.TypeOf", "(internal/reflectlite.Value).Elem", "(internal/reflectlite.Value).Set", "internal/bytealg.IndexByteString", "internal/bytealg.IndexString"], unfollowed := true, recurses := true, named := ["crier/packet.flags", "errors.errorType", "crier/packet.has", "internal/bytealg.MaxLen"], apart := false, laid := [("errors.errorType", laid_errors_errorType), ("crier/packet.has", laid_crier_packet_has), ("crier/packet.flags", laid_crier_packet_flags)], narrowed := true }
def ConnPlaysUptoSaid : Prop := connPlaysUptoRow.holds Tryz.pinned (OpenSpec.upto connPlaysSpec)

/-- 'crierlaw14.ConnMany', WHERE WHAT IT READS IS OF BULK AT MOST 1048576: true; the input reads as it did. -/
def connManyUptoRow : OpenClaim := { program := "ythlbcgaegaoanaagreatdoor", sum := "bd559eaea3c6aa7835fc43daad447ff9caf9029d1e616eeef10420520983c030", func := "crier/crierlaw14.ConnMany", spec := "connMany", inPlace := ["internal/reflectlite.ValueOf", "(internal/reflectlite.Value).Type", "(internal/reflectlite.Value).IsNil", "internal/reflectlite.TypeOf", "(internal/reflectlite.Value).Elem", "(internal/reflectlite.Value).Set", "internal/bytealg.IndexByteString", "internal/bytealg.IndexString"], unfollowed := true, recurses := true, named := ["crier/packet.flags", "errors.errorType", "crier/packet.has", "internal/bytealg.MaxLen"], apart := false, laid := [("errors.errorType", laid_errors_errorType), ("crier/packet.has", laid_crier_packet_has), ("crier/packet.flags", laid_crier_packet_flags)], narrowed := true }
def ConnManyUptoSaid : Prop := connManyUptoRow.holds Tryz.pinned (OpenSpec.upto connManySpec)

/-- 'crierlaw3.CodecForm', WHERE WHAT IT READS IS OF BULK AT MOST 1048576: true; the input reads as it did. -/
def codecFormUptoRow : OpenClaim := { program := "ythlbcgaegaoanaagreatdoor", sum := "bd559eaea3c6aa7835fc43daad447ff9caf9029d1e616eeef10420520983c030", func := "crier/crierlaw3.CodecForm", spec := "codecForm", inPlace := ["internal/bytealg.IndexByteString", "internal/bytealg.IndexString", "internal/reflectlite.ValueOf", "(internal/reflectlite.Value).Type", "(internal/reflectlite.Value).IsNil", "internal/reflectlite.TypeOf", "(internal/reflectlite.Value).Elem", "(internal/reflectlite.Value).Set"], unfollowed := true, recurses := true, named := ["crier/packet.has", "crier/packet.flags", "errors.errorType", "internal/bytealg.MaxLen"], apart := false, laid := [("errors.errorType", laid_errors_errorType), ("crier/packet.has", laid_crier_packet_has), ("crier/packet.flags", laid_crier_packet_flags)], narrowed := true }
def CodecFormUptoSaid : Prop := codecFormUptoRow.holds Tryz.pinned (OpenSpec.upto codecFormSpec)

/-- 'crierlaw3.CodecFirm', WHERE WHAT IT READS IS OF BULK AT MOST 1048576: true; the input reads as it did. -/
def codecFirmUptoRow : OpenClaim := { program := "ythlbcgaegaoanaagreatdoor", sum := "bd559eaea3c6aa7835fc43daad447ff9caf9029d1e616eeef10420520983c030", func := "crier/crierlaw3.CodecFirm", spec := "codecFirm", inPlace := ["internal/bytealg.IndexByteString", "internal/bytealg.IndexString", "internal/reflectlite.ValueOf", "(internal/reflectlite.Value).Type", "(internal/reflectlite.Value).IsNil", "internal/reflectlite.TypeOf", "(internal/reflectlite.Value).Elem", "(internal/reflectlite.Value).Set"], unfollowed := true, recurses := true, named := ["crier/packet.has", "crier/packet.flags", "errors.errorType", "internal/bytealg.MaxLen"], apart := false, laid := [("errors.errorType", laid_errors_errorType), ("crier/packet.has", laid_crier_packet_has), ("crier/packet.flags", laid_crier_packet_flags)], narrowed := true }
def CodecFirmUptoSaid : Prop := codecFirmUptoRow.holds Tryz.pinned (OpenSpec.upto codecFirmSpec)

/-- 'crierlaw3.CodecBack', WHERE WHAT IT READS IS OF BULK AT MOST 1048576: true; the input reads as it did. -/
def codecBackUptoRow : OpenClaim := { program := "ythlbcgaegaoanaagreatdoor", sum := "bd559eaea3c6aa7835fc43daad447ff9caf9029d1e616eeef10420520983c030", func := "crier/crierlaw3.CodecBack", spec := "codecBack", inPlace := ["internal/bytealg.IndexByteString", "internal/bytealg.IndexString", "internal/reflectlite.ValueOf", "(internal/reflectlite.Value).Type", "(internal/reflectlite.Value).IsNil", "internal/reflectlite.TypeOf", "(internal/reflectlite.Value).Elem", "(internal/reflectlite.Value).Set"], unfollowed := true, recurses := true, named := ["crier/packet.has", "crier/packet.flags", "errors.errorType", "internal/bytealg.MaxLen"], apart := false, laid := [("errors.errorType", laid_errors_errorType), ("crier/packet.has", laid_crier_packet_has), ("crier/packet.flags", laid_crier_packet_flags)], narrowed := true }
def CodecBackUptoSaid : Prop := codecBackUptoRow.holds Tryz.pinned (OpenSpec.upto codecBackSpec)

/-- 'crierlaw4.FrameWhole', WHERE WHAT IT READS IS OF BULK AT MOST 1048576: true; the input reads as it did. -/
def frameWholeUptoRow : OpenClaim := { program := "ythlbcgaegaoanaagreatdoor", sum := "bd559eaea3c6aa7835fc43daad447ff9caf9029d1e616eeef10420520983c030", func := "crier/crierlaw4.FrameWhole", spec := "frameWhole", inPlace := ["internal/reflectlite.ValueOf", "(internal/reflectlite.Value).Type", "(internal/reflectlite.Value).IsNil", "internal/reflectlite.TypeOf", "(internal/reflectlite.Value).Elem", "(internal/reflectlite.Value).Set", "internal/bytealg.IndexByteString", "internal/bytealg.IndexString"], unfollowed := true, recurses := true, named := ["crier/packet.flags", "errors.errorType", "crier/packet.has", "internal/bytealg.MaxLen"], apart := false, laid := [("errors.errorType", laid_errors_errorType), ("crier/packet.has", laid_crier_packet_has), ("crier/packet.flags", laid_crier_packet_flags)], narrowed := true }
def FrameWholeUptoSaid : Prop := frameWholeUptoRow.holds Tryz.pinned (OpenSpec.upto frameWholeSpec)

end Rows
end Go.Proofs.YthlbcgaegaoanaaGreatDoor
