/-
  DERIVED. GIVEN WITH THE SEED: THE CARDS: each row of YthlbcgaegaoanaaGreatDoorRows.lean that lists a variable, with what it lists TIED to the program's text (the seventh form; the later family's looks); each row that meets fmt, with fmt's text TOLD by the authors' own Lean function (tested against real Go, not proved from fmt's source: count such statements apart). THE CARD IS WHAT COUNTS. Prove the row's statement (the work); the ties are given (YthlbcgaegaoanaaGreatDoorTie.lean); close each card by the builder's one call (the guide's Derived/Test/ToyasCard.lean, 'card_holds'). Laid BY PROGRAM, IN A SANDBOX (cutbox-door.mjs). By AI agents, Wed Nov 11 2026. No macro, syntax, notation, axiom, sorry.
-/
import Derived.Test.YthlbcgaegaoanaaGreatDoorRows
import GoSem.ClaimSeven
namespace Go.Proofs.YthlbcgaegaoanaaGreatDoor
namespace Rows

/-- THE TIED CARD OF 'crierlaw14.ConnCuts'. -/
def connCutsCard : Claim7 := { stood := { row := connCutsRow, standIns := [], harness := (true, "bc8c116d2983fe6d59d958e84b47c9b54b14319f0ea25afb959bf9e4073030a3"), looks := true }, kinds := [], alts := [], laidByText := true, laidKinds := [.handle, .data, .data], laidTests := true, laidLooks := .later }
def ConnCutsCardSaid : Prop := Claim7.holds Tryz.pinned (.plain (OpenSpec.ofChange connCutsSpec)) connCutsCard

/-- THE TIED CARD OF 'crierlaw14.ConnOrder'. -/
def connOrderCard : Claim7 := { stood := { row := connOrderRow, standIns := [], harness := (true, "bc8c116d2983fe6d59d958e84b47c9b54b14319f0ea25afb959bf9e4073030a3"), looks := true }, kinds := [], alts := [], laidByText := true, laidKinds := [.handle, .data, .data], laidTests := true, laidLooks := .later }
def ConnOrderCardSaid : Prop := Claim7.holds Tryz.pinned (.plain (OpenSpec.ofChange connOrderSpec)) connOrderCard

/-- THE TIED CARD OF 'crierlaw14.ConnSilence'. -/
def connSilenceCard : Claim7 := { stood := { row := connSilenceRow, standIns := [], harness := (true, "bc8c116d2983fe6d59d958e84b47c9b54b14319f0ea25afb959bf9e4073030a3"), looks := true }, kinds := [], alts := [], laidByText := true, laidKinds := [.handle, .data, .data], laidTests := true, laidLooks := .later }
def ConnSilenceCardSaid : Prop := Claim7.holds Tryz.pinned (.plain (OpenSpec.ofChange connSilenceSpec)) connSilenceCard

/-- THE TIED CARD OF 'crierlaw14.ConnPlays'. -/
def connPlaysCard : Claim7 := { stood := { row := connPlaysRow, standIns := [], harness := (true, "bc8c116d2983fe6d59d958e84b47c9b54b14319f0ea25afb959bf9e4073030a3"), looks := true }, kinds := [], alts := [], laidByText := true, laidKinds := [.handle, .data, .data], laidTests := true, laidLooks := .later }
def ConnPlaysCardSaid : Prop := Claim7.holds Tryz.pinned (.plain (OpenSpec.ofChange connPlaysSpec)) connPlaysCard

/-- THE TIED CARD OF 'crierlaw14.ConnMany'. -/
def connManyCard : Claim7 := { stood := { row := connManyRow, standIns := [], harness := (true, "bc8c116d2983fe6d59d958e84b47c9b54b14319f0ea25afb959bf9e4073030a3"), looks := true }, kinds := [], alts := [], laidByText := true, laidKinds := [.handle, .data, .data], laidTests := true, laidLooks := .later }
def ConnManyCardSaid : Prop := Claim7.holds Tryz.pinned (.plain (OpenSpec.ofChange connManySpec)) connManyCard

/-- THE TIED CARD OF 'crierlaw3.CodecForm'. -/
def codecFormCard : Claim7 := { stood := { row := codecFormRow, standIns := [], harness := (true, "bc8c116d2983fe6d59d958e84b47c9b54b14319f0ea25afb959bf9e4073030a3"), looks := true }, kinds := [], alts := [], laidByText := true, laidKinds := [.handle, .data, .data], laidTests := true, laidLooks := .later }
def CodecFormCardSaid : Prop := Claim7.holds Tryz.pinned (.plain (OpenSpec.ofChange codecFormSpec)) codecFormCard

/-- THE TIED CARD OF 'crierlaw3.CodecFirm'. -/
def codecFirmCard : Claim7 := { stood := { row := codecFirmRow, standIns := [], harness := (true, "bc8c116d2983fe6d59d958e84b47c9b54b14319f0ea25afb959bf9e4073030a3"), looks := true }, kinds := [], alts := [], laidByText := true, laidKinds := [.handle, .data, .data], laidTests := true, laidLooks := .later }
def CodecFirmCardSaid : Prop := Claim7.holds Tryz.pinned (.plain (OpenSpec.ofChange codecFirmSpec)) codecFirmCard

/-- THE TIED CARD OF 'crierlaw3.CodecBack'. -/
def codecBackCard : Claim7 := { stood := { row := codecBackRow, standIns := [], harness := (true, "bc8c116d2983fe6d59d958e84b47c9b54b14319f0ea25afb959bf9e4073030a3"), looks := true }, kinds := [], alts := [], laidByText := true, laidKinds := [.handle, .data, .data], laidTests := true, laidLooks := .later }
def CodecBackCardSaid : Prop := Claim7.holds Tryz.pinned (.plain (OpenSpec.ofChange codecBackSpec)) codecBackCard

/-- THE TIED CARD OF 'crierlaw4.FrameWhole'. -/
def frameWholeCard : Claim7 := { stood := { row := frameWholeRow, standIns := [], harness := (true, "bc8c116d2983fe6d59d958e84b47c9b54b14319f0ea25afb959bf9e4073030a3"), looks := true }, kinds := [], alts := [], laidByText := true, laidKinds := [.handle, .data, .data], laidTests := true, laidLooks := .later }
def FrameWholeCardSaid : Prop := Claim7.holds Tryz.pinned (.plain (OpenSpec.ofChange frameWholeSpec)) frameWholeCard

/-- THE SECOND FORM's CARD OF 'crierlaw14.ConnCuts'. -/
def connCutsUptoCard : Claim7 := { stood := { row := connCutsUptoRow, standIns := [], harness := (true, "bc8c116d2983fe6d59d958e84b47c9b54b14319f0ea25afb959bf9e4073030a3"), looks := true }, kinds := [], alts := [], laidByText := true, laidKinds := [.handle, .data, .data], laidTests := true, laidLooks := .later }
def ConnCutsUptoCardSaid : Prop := Claim7.holds Tryz.pinned (.plain (OpenSpec.upto connCutsSpec)) connCutsUptoCard

/-- THE SECOND FORM's CARD OF 'crierlaw14.ConnOrder'. -/
def connOrderUptoCard : Claim7 := { stood := { row := connOrderUptoRow, standIns := [], harness := (true, "bc8c116d2983fe6d59d958e84b47c9b54b14319f0ea25afb959bf9e4073030a3"), looks := true }, kinds := [], alts := [], laidByText := true, laidKinds := [.handle, .data, .data], laidTests := true, laidLooks := .later }
def ConnOrderUptoCardSaid : Prop := Claim7.holds Tryz.pinned (.plain (OpenSpec.upto connOrderSpec)) connOrderUptoCard

/-- THE SECOND FORM's CARD OF 'crierlaw14.ConnSilence'. -/
def connSilenceUptoCard : Claim7 := { stood := { row := connSilenceUptoRow, standIns := [], harness := (true, "bc8c116d2983fe6d59d958e84b47c9b54b14319f0ea25afb959bf9e4073030a3"), looks := true }, kinds := [], alts := [], laidByText := true, laidKinds := [.handle, .data, .data], laidTests := true, laidLooks := .later }
def ConnSilenceUptoCardSaid : Prop := Claim7.holds Tryz.pinned (.plain (OpenSpec.upto connSilenceSpec)) connSilenceUptoCard

/-- THE SECOND FORM's CARD OF 'crierlaw14.ConnPlays'. -/
def connPlaysUptoCard : Claim7 := { stood := { row := connPlaysUptoRow, standIns := [], harness := (true, "bc8c116d2983fe6d59d958e84b47c9b54b14319f0ea25afb959bf9e4073030a3"), looks := true }, kinds := [], alts := [], laidByText := true, laidKinds := [.handle, .data, .data], laidTests := true, laidLooks := .later }
def ConnPlaysUptoCardSaid : Prop := Claim7.holds Tryz.pinned (.plain (OpenSpec.upto connPlaysSpec)) connPlaysUptoCard

/-- THE SECOND FORM's CARD OF 'crierlaw14.ConnMany'. -/
def connManyUptoCard : Claim7 := { stood := { row := connManyUptoRow, standIns := [], harness := (true, "bc8c116d2983fe6d59d958e84b47c9b54b14319f0ea25afb959bf9e4073030a3"), looks := true }, kinds := [], alts := [], laidByText := true, laidKinds := [.handle, .data, .data], laidTests := true, laidLooks := .later }
def ConnManyUptoCardSaid : Prop := Claim7.holds Tryz.pinned (.plain (OpenSpec.upto connManySpec)) connManyUptoCard

/-- THE SECOND FORM's CARD OF 'crierlaw3.CodecForm'. -/
def codecFormUptoCard : Claim7 := { stood := { row := codecFormUptoRow, standIns := [], harness := (true, "bc8c116d2983fe6d59d958e84b47c9b54b14319f0ea25afb959bf9e4073030a3"), looks := true }, kinds := [], alts := [], laidByText := true, laidKinds := [.handle, .data, .data], laidTests := true, laidLooks := .later }
def CodecFormUptoCardSaid : Prop := Claim7.holds Tryz.pinned (.plain (OpenSpec.upto codecFormSpec)) codecFormUptoCard

/-- THE SECOND FORM's CARD OF 'crierlaw3.CodecFirm'. -/
def codecFirmUptoCard : Claim7 := { stood := { row := codecFirmUptoRow, standIns := [], harness := (true, "bc8c116d2983fe6d59d958e84b47c9b54b14319f0ea25afb959bf9e4073030a3"), looks := true }, kinds := [], alts := [], laidByText := true, laidKinds := [.handle, .data, .data], laidTests := true, laidLooks := .later }
def CodecFirmUptoCardSaid : Prop := Claim7.holds Tryz.pinned (.plain (OpenSpec.upto codecFirmSpec)) codecFirmUptoCard

/-- THE SECOND FORM's CARD OF 'crierlaw3.CodecBack'. -/
def codecBackUptoCard : Claim7 := { stood := { row := codecBackUptoRow, standIns := [], harness := (true, "bc8c116d2983fe6d59d958e84b47c9b54b14319f0ea25afb959bf9e4073030a3"), looks := true }, kinds := [], alts := [], laidByText := true, laidKinds := [.handle, .data, .data], laidTests := true, laidLooks := .later }
def CodecBackUptoCardSaid : Prop := Claim7.holds Tryz.pinned (.plain (OpenSpec.upto codecBackSpec)) codecBackUptoCard

/-- THE SECOND FORM's CARD OF 'crierlaw4.FrameWhole'. -/
def frameWholeUptoCard : Claim7 := { stood := { row := frameWholeUptoRow, standIns := [], harness := (true, "bc8c116d2983fe6d59d958e84b47c9b54b14319f0ea25afb959bf9e4073030a3"), looks := true }, kinds := [], alts := [], laidByText := true, laidKinds := [.handle, .data, .data], laidTests := true, laidLooks := .later }
def FrameWholeUptoCardSaid : Prop := Claim7.holds Tryz.pinned (.plain (OpenSpec.upto frameWholeSpec)) frameWholeUptoCard
end Rows
end Go.Proofs.YthlbcgaegaoanaaGreatDoor
