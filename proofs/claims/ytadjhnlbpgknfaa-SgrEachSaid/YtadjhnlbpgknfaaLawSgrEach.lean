/- The law SgrEach: for every input it answers true. Conditions: none but the row's own. Laid by a program of this session (wip/tools/xrow.py). -/
import Derived.Test.YtadjhnlbpgknfaaRows
import Derived.Test.YtadjhnlbpgknfaaESaySgrEach
import Derived.Test.YtadjhnlbpgknfaaPureSgrEach
import Derived.WalkKit
import Derived.ProofKit
import Derived.OpenShut
import Derived.ShutString
import Derived.ChangeOld
import Derived.Below
import Derived.SizedLaws
namespace Go.Proofs.Ytadjhnlbpgknfaa.sgrEach
open Go.ChangeShapes Go.WideShapes Go.ChangeAt Go.RowKit
open Go.ChangeMaps (open_string shut_string)
open Go.Proofs.Ytadjhnlbpgknfaa.E Go.Proofs.YtadjhnlbpgknfaaW.PrintWords Go.Proofs.Ytadjhnlbpgknfaa.Rd
theorem own : ownKnob Try.prog.godebug = none := by kernel_rfl
theorem laidOut : laidOutB Try.prog = true := by kernel_rfl
set_option maxRecDepth 100000 in
theorem lifted (os : Os) (started : os.Started) (H : Type) (enc : TypeId × Value → H) :
    ReturnsInHanded {} Try.checked os 5 .any (Rows.sgrEachSpec.pre6 enc Try.prog Try.f5 Rows.sgrEachRow.domain false) (Rows.sgrEachSpec.post enc Try.prog Try.f5 false true false false) := by
  refine returnsInHanded_of_change_sized (C := Try.checked) own started (by kernel_rfl) Try.func5
    (ChangeSpec.witness6 (enc := enc) (C := Try.checked) false ⟨#[], #[.agg #[.slice none 0 0, .slice none 0 0]], []⟩ 12 (by kernel_rfl) (by kernel_rfl) (by kernel_rfl) (by kernel_rfl)) ?_
  intro W base args ds gs before hval0 hW hcnd hsz0 _
  have hsz : (DataW.weightsEach Try.prog (Try.f5.params.toList ++ Rows.sgrEachSpec.plain.varTypes Try.prog) (ds ++ gs)).all (· ≤ reachBytes) = true := hsz0
  have hval : ∀ (j : Nat) t v, Try.f5.params[j]? = some t → args[j]? = some v → Value.okWide Try.prog W .any base t v := hval0
  have hW' := hW
  obtain ⟨p, q, hA0, hV, rfl, hfz, hnd⟩ := hW
  have hA : DataW.TrodAll enc Try.prog W 0 (fun _ => true) true Try.f5.params.toList args.toList ds p := hA0
  rw [Try.params5] at hA hval hsz
  obtain ⟨v0, vs0, d0, ds0, p0, q0, hargs, rfl, rfl, h0, r0⟩ := trodAll_cons hA
  obtain ⟨rfl, rfl, rfl⟩ := trodAll_nil r0
  obtain rfl : args = #[v0] := by cases args; simp_all
  obtain ⟨rfl, rfl⟩ := trodVars_none hV
  obtain ⟨cs, rfl, _⟩ := okWide_struct Try.underlying54 (hval 0 54 v0 rfl rfl)
  have k0 := h0
  have lt0 : ∀ x ∈ p0, x.block < W.heap.size := by obtain ⟨m, hm⟩ := k0; exact DataW.trod_lt m _ _ _ hm
  obtain ⟨fuel, hf⟩ := h0
  obtain ⟨x, hk, hg⟩ := open54 H enc W 0 _ true fuel _ d0 p0 hf (fun n hn => by
    have z := List.all_eq_true.1 hsz n (DataW.weights_mem_each (j := 0) (t := 54) (d := d0) rfl rfl n hn)
    simpa using z)
  obtain ⟨A0, c0, A1, c1, hcs, hl0, hc0, hl1, hc1⟩ := k54_open hk
  obtain rfl : cs = #[.slice A0 x.f0.length c0, .slice A1 x.f1.length c1] := by
    have e : cs.toList = _ := hcs
    exact Array.toList_inj.1 (by rw [e])
  clear hA0 hval0 hsz0 hsz hcs
  obtain ⟨k, h⟩ := Pure.SgrEach x hg
  refine (beaconlaw4_SgrEach.calls k A0 c0 x.f0 A1 c1 x.f1 true W hc0 hl0 hc1 hl1 h).mono fun e W' ⟨he, bel0⟩ => ?_
  have bel : Below W.heap.size W W' := bel0
  subst he
  exact ⟨_, rfl, _, _, _, [], _, [], hW', trodAll_mk1 (shut_bool Try.underlying4 _), (trodAll_cons_mk (Below.trod laidOut (by kernel_rfl) (of_decide_eq_true (by kernel_rfl)) k0 bel lt0) trodAll_mk0), rfl, bel.frame _, fun h => by cases h⟩
theorem over : Rows.sgrEachRow.holds Try.pinned (OpenSpec.ofChange Rows.sgrEachSpec) :=
  OpenClaim.holds_of_wide 5 Try.f5 rfl rfl rfl rfl rfl rfl rfl ⟨rfl, rfl, rfl, rfl, rfl⟩ rfl rfl rfl rfl rfl (by kernel_rfl) Try.func5 (by kernel_rfl)
    (of_decide_eq_true (by kernel_rfl)) (by unfold Func.isWrapper; first | (rw [if_pos (by decide +kernel)]; kernel_rfl) | (rw [if_neg (by decide +kernel)]; exact ⟨rfl, rfl⟩))
    (fun os started H enc _ => lifted os started H enc)
theorem proved : Rows.SgrEachSaid := over
end Go.Proofs.Ytadjhnlbpgknfaa.sgrEach
namespace Go.Proofs.Ytadjhnlbpgknfaa
theorem sgrEach_holds : Rows.SgrEachSaid := sgrEach.proved
#print axioms sgrEach_holds
end Go.Proofs.Ytadjhnlbpgknfaa
