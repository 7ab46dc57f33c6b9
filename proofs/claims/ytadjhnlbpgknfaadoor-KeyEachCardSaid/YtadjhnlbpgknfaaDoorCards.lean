/-
  DERIVED. GIVEN WITH THE SEED: THE CARDS: each row of YtadjhnlbpgknfaaDoorRows.lean that lists a variable, with what it lists TIED to the program's text (the seventh form; the later family's looks); each row that meets fmt, with fmt's text TOLD by the authors' own Lean function (tested against real Go, not proved from fmt's source: count such statements apart). THE CARD IS WHAT COUNTS. Prove the row's statement (the work); the ties are given (YtadjhnlbpgknfaaDoorTie.lean); close each card by the builder's one call (the guide's Derived/Test/ToyasCard.lean, 'card_holds'). Laid BY PROGRAM, IN A SANDBOX (cutbox-door.mjs). By AI agents, Wed Nov 11 2026. No macro, syntax, notation, axiom, sorry.
-/
import Derived.Test.YtadjhnlbpgknfaaDoorRows
import GoSem.ClaimSeven
namespace Go.Proofs.YtadjhnlbpgknfaaDoor
namespace Rows

/-- THE TIED CARD OF 'beaconlaw15.KeyBytes'. -/
def keyBytesCard : Claim7 := { stood := { row := keyBytesRow, standIns := [], harness := (true, "e1746618c129f8e9dac590e5c83a6d87266378b431fa31c5b80a75dbaabdd8ae"), looks := false }, kinds := [], alts := [], laidByText := true, laidKinds := [.data, .data, .data], laidTests := true, laidLooks := .later }
def KeyBytesCardSaid : Prop := Claim7.holds Tryd.pinned (.plain (OpenSpec.ofChange keyBytesSpec)) keyBytesCard

/-- THE TIED CARD OF 'beaconlaw15.KeyEach'. -/
def keyEachCard : Claim7 := { stood := { row := keyEachRow, standIns := [], harness := (true, "e1746618c129f8e9dac590e5c83a6d87266378b431fa31c5b80a75dbaabdd8ae"), looks := false }, kinds := [], alts := [], laidByText := true, laidKinds := [.data, .data, .data], laidTests := true, laidLooks := .later }
def KeyEachCardSaid : Prop := Claim7.holds Tryd.pinned (.plain (OpenSpec.ofChange keyEachSpec)) keyEachCard

/-- THE SECOND FORM's CARD OF 'beaconlaw15.KeyBytes'. -/
def keyBytesUptoCard : Claim7 := { stood := { row := keyBytesUptoRow, standIns := [], harness := (true, "e1746618c129f8e9dac590e5c83a6d87266378b431fa31c5b80a75dbaabdd8ae"), looks := false }, kinds := [], alts := [], laidByText := true, laidKinds := [.data, .data, .data], laidTests := true, laidLooks := .later }
def KeyBytesUptoCardSaid : Prop := Claim7.holds Tryd.pinned (.plain (OpenSpec.upto keyBytesSpec)) keyBytesUptoCard

/-- THE SECOND FORM's CARD OF 'beaconlaw15.KeyEach'. -/
def keyEachUptoCard : Claim7 := { stood := { row := keyEachUptoRow, standIns := [], harness := (true, "e1746618c129f8e9dac590e5c83a6d87266378b431fa31c5b80a75dbaabdd8ae"), looks := false }, kinds := [], alts := [], laidByText := true, laidKinds := [.data, .data, .data], laidTests := true, laidLooks := .later }
def KeyEachUptoCardSaid : Prop := Claim7.holds Tryd.pinned (.plain (OpenSpec.upto keyEachSpec)) keyEachUptoCard
end Rows
end Go.Proofs.YtadjhnlbpgknfaaDoor
