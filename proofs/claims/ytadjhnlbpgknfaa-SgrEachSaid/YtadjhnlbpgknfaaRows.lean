/-
  No cell of these rows narrows 'for every input' (looked for: loops, veiled, ifaces, maps, wideKeys, modest, calm, conditions, laid).
  DERIVED. THE GIVEN ROWS OF THIS SEAT. 8 by the template 'for every input the law returns true; each argument reads behind the call as it read before'; 0 by the template 'total and deterministic' (their statements: YtadjhnlbpgknfaaTotals.lean).
  GIVEN WITH THE SEED: the statements are not yours to turn. If you find one false, say at which input.
  Laid BY PROGRAM, IN A SANDBOX (cutbox-rows.mjs): the forced cells as the released guide's own fill.sh prints them over the translation b3e83f49a42902e4… (all of the seat's roots in one cut). By AI agents, Wed Nov 11 2026. No macro, syntax, notation, axiom, sorry.
-/
import Derived.Test.YtadjhnlbpgknfaaChecked
import GoSem.Claim
import GoSem.ClaimJoined
import GoSem.ClaimMapViews
import Derived.JoinedTies
import Derived.KernelRfl
namespace Go.Proofs.Ytadjhnlbpgknfaa
/- THE CELL 'sum', in the pinned program and in every row, IS THE sha256 OF THE DUMP (.gsa) THAT YtadjhnlbpgknfaaProg.lean LOADS. Nothing in Lean hashes anything: it is a label: what it is worth is what the hold of that sum in a sandbox is worth. -/
noncomputable def Try.pinned : Pinned := { name := "ytadjhnlbpgknfaa", sum := "b3e83f49a42902e4a7a743d44b99915d3472125e5dd1b737b35b55c5623f67a7", checked := Try.checked }
namespace Rows
def none {H : Type} : Left H := { results := [], args := [] }

/-- 'beaconlaw17.PackNumbers': WHATEVER THE INPUT: true; the input reads as it did. -/
def packNumbersSpec : ChangeSpec := { name := "packNumbers", fn := fun _ => fun
  | [d] => { results := [.lit (.bool true)], args := [d] }
  | _ => none }
def packNumbersRow : OpenClaim := { program := "ytadjhnlbpgknfaa", sum := "b3e83f49a42902e4a7a743d44b99915d3472125e5dd1b737b35b55c5623f67a7", func := "beacon/beaconlaw17.PackNumbers", spec := "packNumbers", apart := false }
def PackNumbersSaid : Prop := packNumbersRow.holds Try.pinned (OpenSpec.ofChange packNumbersSpec)

/-- ITS FALSE NEIGHBOUR: 'it returns false'. Refute it at one input. -/
def packNumbersWrong : ChangeSpec := { name := "packNumbers", fn := fun _ => fun
  | [d] => { results := [.lit (.bool false)], args := [d] }
  | _ => none }
def PackNumbersWrongFalsely : Prop := packNumbersRow.holds Try.pinned (OpenSpec.ofChange packNumbersWrong)

/-- 'beaconlaw21.TokenRound': WHATEVER THE INPUT: true; the input reads as it did. -/
def tokenRoundSpec : ChangeSpec := { name := "tokenRound", fn := fun _ => fun
  | [d] => { results := [.lit (.bool true)], args := [d] }
  | _ => none }
def tokenRoundRow : OpenClaim := { program := "ytadjhnlbpgknfaa", sum := "b3e83f49a42902e4a7a743d44b99915d3472125e5dd1b737b35b55c5623f67a7", func := "beacon/beaconlaw21.TokenRound", spec := "tokenRound", unfollowed := true, recurses := true, apart := false }
def TokenRoundSaid : Prop := tokenRoundRow.holds Try.pinned (OpenSpec.ofChange tokenRoundSpec)

/-- ITS FALSE NEIGHBOUR: 'it returns false'. Refute it at one input. -/
def tokenRoundWrong : ChangeSpec := { name := "tokenRound", fn := fun _ => fun
  | [d] => { results := [.lit (.bool false)], args := [d] }
  | _ => none }
def TokenRoundWrongFalsely : Prop := tokenRoundRow.holds Try.pinned (OpenSpec.ofChange tokenRoundWrong)

/-- 'beaconlaw4.SgrEach': WHATEVER THE INPUT: true; the input reads as it did. -/
def sgrEachSpec : ChangeSpec := { name := "sgrEach", fn := fun _ => fun
  | [d] => { results := [.lit (.bool true)], args := [d] }
  | _ => none }
def sgrEachRow : OpenClaim := { program := "ytadjhnlbpgknfaa", sum := "b3e83f49a42902e4a7a743d44b99915d3472125e5dd1b737b35b55c5623f67a7", func := "beacon/beaconlaw4.SgrEach", spec := "sgrEach", unfollowed := true, recurses := true, apart := false }
def SgrEachSaid : Prop := sgrEachRow.holds Try.pinned (OpenSpec.ofChange sgrEachSpec)

/-- ITS FALSE NEIGHBOUR: 'it returns false'. Refute it at one input. -/
def sgrEachWrong : ChangeSpec := { name := "sgrEach", fn := fun _ => fun
  | [d] => { results := [.lit (.bool false)], args := [d] }
  | _ => none }
def SgrEachWrongFalsely : Prop := sgrEachRow.holds Try.pinned (OpenSpec.ofChange sgrEachWrong)

/-- 'beaconlaw4.SgrApplies': WHATEVER THE INPUT: true; the input reads as it did. -/
def sgrAppliesSpec : ChangeSpec := { name := "sgrApplies", fn := fun _ => fun
  | [d] => { results := [.lit (.bool true)], args := [d] }
  | _ => none }
def sgrAppliesRow : OpenClaim := { program := "ytadjhnlbpgknfaa", sum := "b3e83f49a42902e4a7a743d44b99915d3472125e5dd1b737b35b55c5623f67a7", func := "beacon/beaconlaw4.SgrApplies", spec := "sgrApplies", unfollowed := true, recurses := true, apart := false }
def SgrAppliesSaid : Prop := sgrAppliesRow.holds Try.pinned (OpenSpec.ofChange sgrAppliesSpec)

/-- ITS FALSE NEIGHBOUR: 'it returns false'. Refute it at one input. -/
def sgrAppliesWrong : ChangeSpec := { name := "sgrApplies", fn := fun _ => fun
  | [d] => { results := [.lit (.bool false)], args := [d] }
  | _ => none }
def SgrAppliesWrongFalsely : Prop := sgrAppliesRow.holds Try.pinned (OpenSpec.ofChange sgrAppliesWrong)

/-- 'beaconlaw4.SgrBack': WHATEVER THE INPUT: true; the input reads as it did. -/
def sgrBackSpec : ChangeSpec := { name := "sgrBack", fn := fun _ => fun
  | [d] => { results := [.lit (.bool true)], args := [d] }
  | _ => none }
def sgrBackRow : OpenClaim := { program := "ytadjhnlbpgknfaa", sum := "b3e83f49a42902e4a7a743d44b99915d3472125e5dd1b737b35b55c5623f67a7", func := "beacon/beaconlaw4.SgrBack", spec := "sgrBack", unfollowed := true, recurses := true, apart := false }
def SgrBackSaid : Prop := sgrBackRow.holds Try.pinned (OpenSpec.ofChange sgrBackSpec)

/-- ITS FALSE NEIGHBOUR: 'it returns false'. Refute it at one input. -/
def sgrBackWrong : ChangeSpec := { name := "sgrBack", fn := fun _ => fun
  | [d] => { results := [.lit (.bool false)], args := [d] }
  | _ => none }
def SgrBackWrongFalsely : Prop := sgrBackRow.holds Try.pinned (OpenSpec.ofChange sgrBackWrong)

/-- 'beaconlaw22.SizeLeast': WHATEVER THE INPUT: true; the input reads as it did. -/
def sizeLeastSpec : ChangeSpec := { name := "sizeLeast", fn := fun _ => fun
  | [d] => { results := [.lit (.bool true)], args := [d] }
  | _ => none }
def sizeLeastRow : OpenClaim := { program := "ytadjhnlbpgknfaa", sum := "b3e83f49a42902e4a7a743d44b99915d3472125e5dd1b737b35b55c5623f67a7", func := "beacon/beaconlaw22.SizeLeast", spec := "sizeLeast", inPlace := ["slices.overlaps[beacon/api.Offer]"], unfollowed := true, recurses := true, apart := false }
def SizeLeastSaid : Prop := sizeLeastRow.holds Try.pinned (OpenSpec.ofChange sizeLeastSpec)

/-- ITS FALSE NEIGHBOUR: 'it returns false'. Refute it at one input. -/
def sizeLeastWrong : ChangeSpec := { name := "sizeLeast", fn := fun _ => fun
  | [d] => { results := [.lit (.bool false)], args := [d] }
  | _ => none }
def SizeLeastWrongFalsely : Prop := sizeLeastRow.holds Try.pinned (OpenSpec.ofChange sizeLeastWrong)

/-- 'beaconlaw22.SizeExact': WHATEVER THE INPUT: true; the input reads as it did. -/
def sizeExactSpec : ChangeSpec := { name := "sizeExact", fn := fun _ => fun
  | [d] => { results := [.lit (.bool true)], args := [d] }
  | _ => none }
def sizeExactRow : OpenClaim := { program := "ytadjhnlbpgknfaa", sum := "b3e83f49a42902e4a7a743d44b99915d3472125e5dd1b737b35b55c5623f67a7", func := "beacon/beaconlaw22.SizeExact", spec := "sizeExact", inPlace := ["slices.overlaps[beacon/api.Offer]"], unfollowed := true, recurses := true, apart := false }
def SizeExactSaid : Prop := sizeExactRow.holds Try.pinned (OpenSpec.ofChange sizeExactSpec)

/-- ITS FALSE NEIGHBOUR: 'it returns false'. Refute it at one input. -/
def sizeExactWrong : ChangeSpec := { name := "sizeExact", fn := fun _ => fun
  | [d] => { results := [.lit (.bool false)], args := [d] }
  | _ => none }
def SizeExactWrongFalsely : Prop := sizeExactRow.holds Try.pinned (OpenSpec.ofChange sizeExactWrong)

/-- 'beaconlaw15.KeyTexts': WHATEVER THE INPUT: true; the input reads as it did. -/
def keyTextsSpec : ChangeSpec := { name := "keyTexts", fn := fun _ => fun
  | [d] => { results := [.lit (.bool true)], args := [d] }
  | _ => none }
def keyTextsRow : OpenClaim := { program := "ytadjhnlbpgknfaa", sum := "b3e83f49a42902e4a7a743d44b99915d3472125e5dd1b737b35b55c5623f67a7", func := "beacon/beaconlaw15.KeyTexts", spec := "keyTexts", unfollowed := true, recurses := true, apart := false }
def KeyTextsSaid : Prop := keyTextsRow.holds Try.pinned (OpenSpec.ofChange keyTextsSpec)

/-- ITS FALSE NEIGHBOUR: 'it returns false'. Refute it at one input. -/
def keyTextsWrong : ChangeSpec := { name := "keyTexts", fn := fun _ => fun
  | [d] => { results := [.lit (.bool false)], args := [d] }
  | _ => none }
def KeyTextsWrongFalsely : Prop := keyTextsRow.holds Try.pinned (OpenSpec.ofChange keyTextsWrong)

/- THE SECOND FORM. 'bulk': how many values and letters a reading holds, each counted each time it is reached (what is shared counts as often as it is met; a slice's spare places count too). A statement '..UptoSaid' is the law's where the arguments, and the package variables that the reading takes, are together of bulk at most 1048576: NARROWER than '..Said'. Prove '..Said' where nothing that the law and all that it calls make is longer than what came in: it says more and counts as full. Else prove '..UptoSaid'. A law counts once. -/
mutual
def uptoBulk {H : Type} : DataW H → Nat
  | .lit (.string bytes) => bytes.length + 1
  | .lit _ => 1
  | .nil => 1
  | .ptr d => uptoBulk d + 1
  | .slice elems spare => uptoBulkAll elems + uptoBulkAll spare + 1
  | .agg parts => uptoBulkAll parts + 1
  | .iface _ d => uptoBulk d + 1
  | .map entries => uptoBulkEntries entries + 1
  | .held _ => 1
def uptoBulkAll {H : Type} : List (DataW H) → Nat
  | [] => 0
  | d :: r => uptoBulk d + uptoBulkAll r
def uptoBulkEntries {H : Type} : List (Lit × DataW H) → Nat
  | [] => 0
  | x :: r => uptoBulkEntry x + uptoBulkEntries r
def uptoBulkEntry {H : Type} : Lit × DataW H → Nat
  | (.string bytes, d) => bytes.length + uptoBulk d + 1
  | (_, d) => uptoBulk d + 1
 end
def uptoSmall : (H : Type) → List (DataW H) → Bool := fun _ ds => decide (uptoBulkAll ds ≤ 1048576)
def OpenSpec.upto (s : _root_.Go.ChangeSpec) : _root_.Go.OpenSpec := { _root_.Go.OpenSpec.ofChange s with cond := some uptoSmall }

/-- 'beaconlaw17.PackNumbers', WHERE WHAT IT READS IS OF BULK AT MOST 1048576: true; the input reads as it did. -/
def packNumbersUptoRow : OpenClaim := { program := "ytadjhnlbpgknfaa", sum := "b3e83f49a42902e4a7a743d44b99915d3472125e5dd1b737b35b55c5623f67a7", func := "beacon/beaconlaw17.PackNumbers", spec := "packNumbers", apart := false, narrowed := true }
def PackNumbersUptoSaid : Prop := packNumbersUptoRow.holds Try.pinned (OpenSpec.upto packNumbersSpec)

/-- 'beaconlaw21.TokenRound', WHERE WHAT IT READS IS OF BULK AT MOST 1048576: true; the input reads as it did. -/
def tokenRoundUptoRow : OpenClaim := { program := "ytadjhnlbpgknfaa", sum := "b3e83f49a42902e4a7a743d44b99915d3472125e5dd1b737b35b55c5623f67a7", func := "beacon/beaconlaw21.TokenRound", spec := "tokenRound", unfollowed := true, recurses := true, apart := false, narrowed := true }
def TokenRoundUptoSaid : Prop := tokenRoundUptoRow.holds Try.pinned (OpenSpec.upto tokenRoundSpec)

/-- 'beaconlaw4.SgrEach', WHERE WHAT IT READS IS OF BULK AT MOST 1048576: true; the input reads as it did. -/
def sgrEachUptoRow : OpenClaim := { program := "ytadjhnlbpgknfaa", sum := "b3e83f49a42902e4a7a743d44b99915d3472125e5dd1b737b35b55c5623f67a7", func := "beacon/beaconlaw4.SgrEach", spec := "sgrEach", unfollowed := true, recurses := true, apart := false, narrowed := true }
def SgrEachUptoSaid : Prop := sgrEachUptoRow.holds Try.pinned (OpenSpec.upto sgrEachSpec)

/-- 'beaconlaw4.SgrApplies', WHERE WHAT IT READS IS OF BULK AT MOST 1048576: true; the input reads as it did. -/
def sgrAppliesUptoRow : OpenClaim := { program := "ytadjhnlbpgknfaa", sum := "b3e83f49a42902e4a7a743d44b99915d3472125e5dd1b737b35b55c5623f67a7", func := "beacon/beaconlaw4.SgrApplies", spec := "sgrApplies", unfollowed := true, recurses := true, apart := false, narrowed := true }
def SgrAppliesUptoSaid : Prop := sgrAppliesUptoRow.holds Try.pinned (OpenSpec.upto sgrAppliesSpec)

/-- 'beaconlaw4.SgrBack', WHERE WHAT IT READS IS OF BULK AT MOST 1048576: true; the input reads as it did. -/
def sgrBackUptoRow : OpenClaim := { program := "ytadjhnlbpgknfaa", sum := "b3e83f49a42902e4a7a743d44b99915d3472125e5dd1b737b35b55c5623f67a7", func := "beacon/beaconlaw4.SgrBack", spec := "sgrBack", unfollowed := true, recurses := true, apart := false, narrowed := true }
def SgrBackUptoSaid : Prop := sgrBackUptoRow.holds Try.pinned (OpenSpec.upto sgrBackSpec)

/-- 'beaconlaw22.SizeLeast', WHERE WHAT IT READS IS OF BULK AT MOST 1048576: true; the input reads as it did. -/
def sizeLeastUptoRow : OpenClaim := { program := "ytadjhnlbpgknfaa", sum := "b3e83f49a42902e4a7a743d44b99915d3472125e5dd1b737b35b55c5623f67a7", func := "beacon/beaconlaw22.SizeLeast", spec := "sizeLeast", inPlace := ["slices.overlaps[beacon/api.Offer]"], unfollowed := true, recurses := true, apart := false, narrowed := true }
def SizeLeastUptoSaid : Prop := sizeLeastUptoRow.holds Try.pinned (OpenSpec.upto sizeLeastSpec)

/-- 'beaconlaw22.SizeExact', WHERE WHAT IT READS IS OF BULK AT MOST 1048576: true; the input reads as it did. -/
def sizeExactUptoRow : OpenClaim := { program := "ytadjhnlbpgknfaa", sum := "b3e83f49a42902e4a7a743d44b99915d3472125e5dd1b737b35b55c5623f67a7", func := "beacon/beaconlaw22.SizeExact", spec := "sizeExact", inPlace := ["slices.overlaps[beacon/api.Offer]"], unfollowed := true, recurses := true, apart := false, narrowed := true }
def SizeExactUptoSaid : Prop := sizeExactUptoRow.holds Try.pinned (OpenSpec.upto sizeExactSpec)

/-- 'beaconlaw15.KeyTexts', WHERE WHAT IT READS IS OF BULK AT MOST 1048576: true; the input reads as it did. -/
def keyTextsUptoRow : OpenClaim := { program := "ytadjhnlbpgknfaa", sum := "b3e83f49a42902e4a7a743d44b99915d3472125e5dd1b737b35b55c5623f67a7", func := "beacon/beaconlaw15.KeyTexts", spec := "keyTexts", unfollowed := true, recurses := true, apart := false, narrowed := true }
def KeyTextsUptoSaid : Prop := keyTextsUptoRow.holds Try.pinned (OpenSpec.upto keyTextsSpec)

end Rows
end Go.Proofs.Ytadjhnlbpgknfaa
