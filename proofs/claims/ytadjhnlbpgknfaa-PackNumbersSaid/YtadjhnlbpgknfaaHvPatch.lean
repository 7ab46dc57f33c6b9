/- How much views and patches weigh, together: told, whatever they are. -/
import Derived.Test.YtadjhnlbpgknfaaPz
import Derived.Test.YtadjhnlbpgknfaaPOpen
import Derived.Test.YtadjhnlbpgknfaaP3
namespace Go.Proofs.Ytadjhnlbpgknfaa.P
open Go.RowKit Go.Proofs.YtadjhnlbpgknfaaW.PrintWords Go.Proofs.YtadjhnlbpgknfaaW.PrintLast Go.Proofs.YtadjhnlbpgknfaaW.PrintMore Go.Proofs.Ytadjhnlbpgknfaa.Pz

theorem rdV_mem {xs : List S137} {i : Int} (h0 : 0 ≤ i) (h1 : i < xs.length) : rd_T137 xs i ∈ xs := by
  unfold rd_T137
  rw [List.getD_eq_getElem?_getD, List.getElem?_eq_getElem (show i.toNat < xs.length by omega)]
  exact List.getElem_mem _
theorem rdP_mem {xs : List S140} {i : Int} (h0 : 0 ≤ i) (h1 : i < xs.length) : rd_T140 xs i ∈ xs := by
  unfold rd_T140
  rw [List.getD_eq_getElem?_getD, List.getElem?_eq_getElem (show i.toNat < xs.length by omega)]
  exact List.getElem_mem _

/-- A patch's weight, as the laws reckon it. -/
def wPatch (y : S140) : Int := y.f3.length + y.f4.length + y.f8.size
def wView (y : S137) : Int := y.f0.f2.length + y.f4.size
theorem heavy_l1 (vs : List S137) (ps : List S140) (hp : ∀ y ∈ ps, G140 y) (hl : ps.length * 112 ≤ 140737488351232) : ∀ (d : Nat) (i acc : Int), 0 ≤ i → i + d = ps.length → 0 ≤ acc → acc ≤ 1000000000000000 →
    ∃ b : Bool, Ev (fun k => beaconlaw16_Heavy.l1 k acc i vs ps) b ∧ (b = false → acc ≤ 4000 ∧ ∀ y ∈ ps.drop i.toNat, wPatch y ≤ 4000) := by
  intro d
  induction d with
  | zero =>
    intro i acc h0 h1 ha hb
    refine ⟨_, Ev.step (fun k => by rw [beaconlaw16_Heavy.l1]) (ev_neg (by omega) (ev_cst rfl)), fun h => ?_⟩
    simp only [decide_eq_false_iff_not] at h
    refine ⟨by omega, fun y hy => ?_⟩
    rw [List.drop_eq_nil_of_le (by omega)] at hy
    cases hy
  | succ d ih =>
    intro i acc h0 h1 ha hb
    by_cases h : acc < 1048576
    · have hm := hp _ (rdP_mem (xs := ps) h0 (by omega))
      obtain ⟨_, _, _, ⟨g3, _⟩, ⟨g4, _⟩, _, _, _, g8⟩ := hm
      have e : beaconlaw0_PatchWeight.f (rd_T140 ps i).f0 (rd_T140 ps i).f1 (rd_T140 ps i).f2 (rd_T140 ps i).f3 (rd_T140 ps i).f4 (rd_T140 ps i).f5 (rd_T140 ps i).f6 (rd_T140 ps i).f7 (rd_T140 ps i).f8 = some (wPatch (rd_T140 ps i)) := by
        unfold beaconlaw0_PatchWeight.f wPatch
        rw [wrap_in (x := ((rd_T140 ps i).f3.length : Int) + (rd_T140 ps i).f4.length) (by omega) (by omega), wrap_in (by omega) (by omega)]
      have hw : 0 ≤ wPatch (rd_T140 ps i) ∧ wPatch (rd_T140 ps i) ≤ 300000000000000 := by unfold wPatch; omega
      obtain ⟨b, hr, hle⟩ := ih (i + 1) (acc + wPatch (rd_T140 ps i)) (by omega) (by omega) (by omega) (by omega)
      refine ⟨b, Ev.step (fun k => by rw [beaconlaw16_Heavy.l1]) ?_, fun hf => ?_⟩
      · refine ev_pos (by omega) (ev_pos h (ev_pos h0 (ev_bindc e ?_)))
        rw [wrap_in (by omega) (by omega), wrap_in (by omega) (by omega)]
        exact hr
      · obtain ⟨h2, h3⟩ := hle hf
        refine ⟨by omega, fun y hy => ?_⟩
        rw [List.drop_eq_getElem_cons (show i.toNat < ps.length by omega)] at hy
        rcases List.mem_cons.1 hy with rfl | hy
        · have : rd_T140 ps i = ps[i.toNat] := by
            unfold rd_T140
            rw [List.getD_eq_getElem?_getD, List.getElem?_eq_getElem (show i.toNat < ps.length by omega)]
            rfl
          rw [← this]
          omega
        · exact h3 y (by rw [show (i + 1).toNat = i.toNat + 1 by omega]; exact hy)
    · refine ⟨_, Ev.step (fun k => by rw [beaconlaw16_Heavy.l1]) (ev_pos (by omega) (ev_neg h (ev_cst rfl))), fun hf => ?_⟩
      simp only [decide_eq_false_iff_not] at hf
      omega
theorem heavy_l0 (vs : List S137) (ps : List S140) (hv : ∀ y ∈ vs, G137 y) (hp : ∀ y ∈ ps, G140 y) (hlv : vs.length * 80 ≤ 140737488351232) (hl : ps.length * 112 ≤ 140737488351232) : ∀ (d : Nat) (i acc : Int), 0 ≤ i → i + d = vs.length → 0 ≤ acc → acc ≤ 1000000000000000 →
    ∃ b : Bool, Ev (fun k => beaconlaw16_Heavy.l0 k acc i vs ps) b ∧ (b = false → acc ≤ 4000 ∧ (∀ y ∈ vs.drop i.toNat, wView y ≤ 4000) ∧ ∀ y ∈ ps, wPatch y ≤ 4000) := by
  intro d
  induction d with
  | zero =>
    intro i acc h0 h1 ha hb
    obtain ⟨b, hr, hle⟩ := heavy_l1 vs ps hp hl ps.length 0 acc (by omega) (by omega) ha hb
    refine ⟨b, Ev.step (fun k => by rw [beaconlaw16_Heavy.l0]) (ev_neg (by omega) (Ev.step (fun k => by rw [beaconlaw16_Heavy.j1]) hr)), fun hf => ?_⟩
    obtain ⟨h2, h3⟩ := hle hf
    refine ⟨h2, fun y hy => ?_, by simpa using h3⟩
    rw [List.drop_eq_nil_of_le (by omega)] at hy
    cases hy
  | succ d ih =>
    intro i acc h0 h1 ha hb
    by_cases h : acc < 1048576
    · have hm := hv _ (rdV_mem (xs := vs) h0 (by omega))
      obtain ⟨⟨_, _, ⟨g2, _⟩⟩, _, _, _, g4⟩ := hm
      have hw : 0 ≤ wView (rd_T137 vs i) ∧ wView (rd_T137 vs i) ≤ 300000000000000 := by unfold wView; omega
      obtain ⟨b, hr, hle⟩ := ih (i + 1) (acc + wView (rd_T137 vs i)) (by omega) (by omega) (by omega) (by omega)
      refine ⟨b, Ev.step (fun k => by rw [beaconlaw16_Heavy.l0]) ?_, fun hf => ?_⟩
      · refine ev_pos (by omega) (ev_pos h (ev_pos h0 ?_))
        rw [wrap_in (x := acc + (rd_T137 vs i).f0.f2.length) (by omega) (by omega), wrap_in (x := i + 1) (by omega) (by omega), wrap_in (by omega) (by omega), Int.add_assoc]
        exact hr
      · obtain ⟨h2, h3, h4⟩ := hle hf
        refine ⟨by omega, fun y hy => ?_, h4⟩
        rw [List.drop_eq_getElem_cons (show i.toNat < vs.length by omega)] at hy
        rcases List.mem_cons.1 hy with rfl | hy
        · have : rd_T137 vs i = vs[i.toNat] := by
            unfold rd_T137
            rw [List.getD_eq_getElem?_getD, List.getElem?_eq_getElem (show i.toNat < vs.length by omega)]
            rfl
          rw [← this]
          omega
        · exact h3 y (by rw [show (i + 1).toNat = i.toNat + 1 by omega]; exact hy)
    · obtain ⟨b, hr, hle⟩ := heavy_l1 vs ps hp hl ps.length 0 acc (by omega) (by omega) ha hb
      refine ⟨b, Ev.step (fun k => by rw [beaconlaw16_Heavy.l0]) (ev_pos (by omega) (ev_neg h (Ev.step (fun k => by rw [beaconlaw16_Heavy.j1]) hr))), fun hf => ?_⟩
      have := (hle hf).1
      omega
theorem heavy_ev (vs : List S137) (ps : List S140) (hv : ∀ y ∈ vs, G137 y) (hp : ∀ y ∈ ps, G140 y) (hlv : vs.length * 80 ≤ 140737488351232) (hl : ps.length * 112 ≤ 140737488351232) :
    ∃ b : Bool, Ev (fun k => beaconlaw16_Heavy.f k vs ps) b ∧ (b = false → (vs.length : Int) + ps.length ≤ 4000 ∧ (∀ y ∈ vs, wView y ≤ 4000) ∧ ∀ y ∈ ps, wPatch y ≤ 4000) := by
  obtain ⟨b, hr, hle⟩ := heavy_l0 vs ps hv hp hlv hl vs.length 0 (vs.length + ps.length) (by omega) (by omega) (by omega) (by omega)
  refine ⟨b, ?_, fun hf => ?_⟩
  · unfold beaconlaw16_Heavy.f
    rw [wrap_in (by omega) (by omega)]
    exact hr
  · simpa using hle hf
end Go.Proofs.Ytadjhnlbpgknfaa.P
