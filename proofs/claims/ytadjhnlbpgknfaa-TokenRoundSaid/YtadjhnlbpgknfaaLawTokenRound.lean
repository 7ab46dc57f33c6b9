/- The law TokenRound: for every input it answers true. Conditions: none but the row's own. Laid by a program of this session (wip/tools/xrow.py). -/
import Derived.Test.YtadjhnlbpgknfaaRows
import Derived.Test.YtadjhnlbpgknfaaPSayTokenRound
import Derived.Test.YtadjhnlbpgknfaaPureTokenRound
import Derived.WalkKit
import Derived.ProofKit
import Derived.OpenShut
import Derived.ShutString
import Derived.ChangeOld
import Derived.Below
import Derived.SizedLaws
namespace Go.Proofs.Ytadjhnlbpgknfaa.tokenRound
open Go.ChangeShapes Go.WideShapes Go.ChangeAt Go.RowKit
open Go.ChangeMaps (open_string shut_string)
open Go.Proofs.Ytadjhnlbpgknfaa.P Go.Proofs.YtadjhnlbpgknfaaW.PrintWords Go.Proofs.Ytadjhnlbpgknfaa.Rd
theorem own : ownKnob Try.prog.godebug = none := by kernel_rfl
theorem laidOut : laidOutB Try.prog = true := by kernel_rfl
set_option maxRecDepth 100000 in
theorem lifted (os : Os) (started : os.Started) (H : Type) (enc : TypeId × Value → H) :
    ReturnsInHanded {} Try.checked os 4 .any (Rows.tokenRoundSpec.pre6 enc Try.prog Try.f4 Rows.tokenRoundRow.domain false) (Rows.tokenRoundSpec.post enc Try.prog Try.f4 false true false false) := by
  refine returnsInHanded_of_change_sized (C := Try.checked) own started (by kernel_rfl) Try.func4
    (ChangeSpec.witness6 (enc := enc) (C := Try.checked) false ⟨#[], #[.agg #[.int .i64 0, .slice none 0 0, .slice none 0 0]], []⟩ 12 (by kernel_rfl) (by kernel_rfl) (by kernel_rfl) (by kernel_rfl)) ?_
  intro W base args ds gs before hval0 hW hcnd hsz0 _
  have hsz : (DataW.weightsEach Try.prog (Try.f4.params.toList ++ Rows.tokenRoundSpec.plain.varTypes Try.prog) (ds ++ gs)).all (· ≤ reachBytes) = true := hsz0
  have hval : ∀ (j : Nat) t v, Try.f4.params[j]? = some t → args[j]? = some v → Value.okWide Try.prog W .any base t v := hval0
  have hW' := hW
  obtain ⟨p, q, hA0, hV, rfl, hfz, hnd⟩ := hW
  have hA : DataW.TrodAll enc Try.prog W 0 (fun _ => true) true Try.f4.params.toList args.toList ds p := hA0
  rw [Try.params4] at hA hval hsz
  obtain ⟨v0, vs0, d0, ds0, p0, q0, hargs, rfl, rfl, h0, r0⟩ := trodAll_cons hA
  obtain ⟨rfl, rfl, rfl⟩ := trodAll_nil r0
  obtain rfl : args = #[v0] := by cases args; simp_all
  obtain ⟨rfl, rfl⟩ := trodVars_none hV
  obtain ⟨cs, rfl, _⟩ := okWide_struct Try.underlying45 (hval 0 45 v0 rfl rfl)
  have k0 := h0
  have lt0 : ∀ x ∈ p0, x.block < W.heap.size := by obtain ⟨m, hm⟩ := k0; exact DataW.trod_lt m _ _ _ hm
  obtain ⟨fuel, hf⟩ := h0
  obtain ⟨x, hk, hg⟩ := open45 H enc W 0 _ true fuel _ d0 p0 hf (fun n hn => by
    have z := List.all_eq_true.1 hsz n (DataW.weights_mem_each (j := 0) (t := 45) (d := d0) rfl rfl n hn)
    simpa using z)
  obtain ⟨A1, c1, A2, c2, hcs, hl1, hc1, hl2, hc2⟩ := k45_open hk
  obtain rfl : cs = #[.int .i64 x.f0.f0, .slice A1 x.f0.f1.length c1, .slice A2 x.f1.length c2] := by
    have e : cs.toList = _ := hcs
    exact Array.toList_inj.1 (by rw [e])
  clear hA0 hval0 hsz0 hsz hcs
  obtain ⟨k, h⟩ := Pure.TokenRound x hg
  refine (beaconlaw21_TokenRound.calls k x.f0.f0 A1 c1 x.f0.f1 A2 c2 x.f1 true W hc1 hl1 hc2 hl2 h).mono fun e W' ⟨he, bel0⟩ => ?_
  have bel : Below W.heap.size W W' := bel0
  subst he
  exact ⟨_, rfl, _, _, _, [], _, [], hW', trodAll_mk1 (shut_bool Try.underlying4 _), (trodAll_cons_mk (Below.trod laidOut (by kernel_rfl) (of_decide_eq_true (by kernel_rfl)) k0 bel lt0) trodAll_mk0), rfl, bel.frame _, fun h => by cases h⟩
theorem over : Rows.tokenRoundRow.holds Try.pinned (OpenSpec.ofChange Rows.tokenRoundSpec) :=
  OpenClaim.holds_of_wide 4 Try.f4 rfl rfl rfl rfl rfl rfl rfl ⟨rfl, rfl, rfl, rfl, rfl⟩ rfl rfl rfl rfl rfl (by kernel_rfl) Try.func4 (by kernel_rfl)
    (of_decide_eq_true (by kernel_rfl)) (by unfold Func.isWrapper; first | (rw [if_pos (by decide +kernel)]; kernel_rfl) | (rw [if_neg (by decide +kernel)]; exact ⟨rfl, rfl⟩))
    (fun os started H enc _ => lifted os started H enc)
theorem proved : Rows.TokenRoundSaid := over
end Go.Proofs.Ytadjhnlbpgknfaa.tokenRound
namespace Go.Proofs.Ytadjhnlbpgknfaa
theorem tokenRound_holds : Rows.TokenRoundSaid := tokenRound.proved
#print axioms tokenRound_holds
end Go.Proofs.Ytadjhnlbpgknfaa
