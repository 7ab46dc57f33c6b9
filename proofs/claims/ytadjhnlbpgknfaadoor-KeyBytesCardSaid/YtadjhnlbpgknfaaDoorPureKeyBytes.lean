/- KeyBytes, the plain side: which bytes any key is, under any modes, is the page's, or refused. -/
import Derived.Test.YtadjhnlbpgknfaaDoorPSayKeyBytes
import Derived.Test.YtadjhnlbpgknfaaDoorKeyFacts
set_option linter.unusedSimpArgs false
set_option linter.unusedVariables false
namespace Go.Proofs.YtadjhnlbpgknfaaDoor.Pure
open Go.RowKit Go.Proofs.YtadjhnlbpgknfaaDoor.P Go.Proofs.YtadjhnlbpgknfaaDoorW.PrintWords Go.Proofs.YtadjhnlbpgknfaaDoorW.PrintLast Go.Proofs.YtadjhnlbpgknfaaDoorW.PrintMore Go.Proofs.YtadjhnlbpgknfaaDoor.Pz
namespace Ky
theorem heavy_l0 (K : List S32) (M : Int) (s : List ByteArray) (hl : s.length ≤ 8796093022208) (hb : ∀ y ∈ s, y.size ≤ 140737488351232) : ∀ (d : Nat) (n i : Int), 0 ≤ n → n ≤ 1000000000000000 → 0 ≤ i → i + d = s.length →
    ∃ b, Ev (fun k => beaconlaw15_Heavy.l0 k n i K M s) b := by
  intro d
  induction d with
  | zero =>
    intro n i hn hn2 h0 h1
    exact ⟨_, Ev.step (fun k => by rw [beaconlaw15_Heavy.l0]) (ev_neg (by omega) (ev_cst rfl))⟩
  | succ d ih =>
    intro n i hn hn2 h0 h1
    by_cases h2 : n < 1048576
    · have hz := hb _ (rdOf_mem (d := ByteArray.empty) (xs := s) h0 (by omega))
      obtain ⟨b, hE⟩ := ih (n + (rdOf ByteArray.empty s i).size) (i + 1) (by omega) (by omega) (by omega) (by omega)
      refine ⟨b, ?_⟩
      refine Ev.step (fun k => by rw [beaconlaw15_Heavy.l0]) ?_
      refine ev_pos (by omega) (ev_pos h2 (ev_pos h0 ?_))
      rw [wrap_in (x := n + _) (by omega) (by omega), wrap_in (x := i + 1) (by omega) (by omega)]
      exact hE
    · exact ⟨_, Ev.step (fun k => by rw [beaconlaw15_Heavy.l0]) (ev_pos (by omega) (ev_neg h2 (ev_cst rfl)))⟩
section
variable (K : List S32) (M : Int) (S : List ByteArray) (x3 : List Int) (h3 : x3.length = 7) (i : Int) (h0 : 0 ≤ i ∧ i < 12) (hi : i < K.length) (hgo : Ev (fun k => beaconlaw15_KeyBytes.l0 k x3 (i + 1) K M S) true)
include h3 h0 hi hgo
theorem kb_l1 : ∀ (d : Nat) (j : Int), 0 ≤ j → j + d = 7 → Ev (fun k => beaconlaw15_KeyBytes.l1 k x3 i j K M S) true := by
  intro d
  induction d with
  | zero =>
    intro j hj hd
    refine Ev.step (fun k => by rw [beaconlaw15_KeyBytes.l1]) (ev_neg (by omega) ?_)
    rw [wrap_in (x := i + 1) (by omega) (by omega)]
    exact hgo
  | succ d ih =>
    intro j hj hd
    have hn := ih (j + 1) (by omega) (by omega)
    rw [← wrap_in (x := j + 1) (by omega) (by omega)] at hn
    refine Ev.step (fun k => by rw [beaconlaw15_KeyBytes.l1]) ?_
    refine ev_pos (by omega) (ev_pos h0.1 (ev_pos hi (ev_pos hj (Ev.bind (bytes_ev _ _ _ _) (ev_bindc (key_f _ _ _) ?_)))))
    obtain ⟨m, hm⟩ : ∃ m, m = rd x3 j := ⟨_, rfl⟩
    rw [← hm]
    by_cases hv : validK (rd_T32 K i).f0 (rd_T32 K i).f1 (rd_T32 K i).f2
    · refine ev_pos (decide_eq_true hv) (ev_bindc (refNum_f _ _) ?_)
      by_cases hmd : 0 ≤ m ∧ m ≤ 1023
      · rw [if_pos ⟨hv, hmd⟩, decide_eq_true hmd]
        refine Ev.step (fun k => by rw [beaconlaw15_KeyBytes.j3]) ?_
        rw [← hm]
        exact ev_pos rfl (ev_pos h0.1 (ev_pos hi (ev_pos hj (ev_pos (by omega) (ev_bindc (ref_f hv) (ev_bindc (num_f _) (ev_pos rfl (ev_pos rfl hn))))))))
      · rw [if_neg (fun e => hmd e.2), decide_eq_false hmd]
        refine Ev.step (fun k => by rw [beaconlaw15_KeyBytes.j3]) ?_
        exact ev_neg (by simp) (ev_bindc (num_f _) (ev_pos rfl (ev_pos rfl hn)))
    · rw [if_neg (fun e => hv e.1)]
      refine ev_neg (by simpa using hv) ?_
      refine Ev.step (fun k => by rw [beaconlaw15_KeyBytes.j3]) ?_
      exact ev_neg (by simp) (ev_bindc (num_f _) (ev_pos rfl (ev_pos rfl hn)))
end
theorem kb_l0 (K : List S32) (M : Int) (S : List ByteArray) (x3 : List Int) (h3 : x3.length = 7) : ∀ (d : Nat) (i : Int), 0 ≤ i → i + d = 12 → Ev (fun k => beaconlaw15_KeyBytes.l0 k x3 i K M S) true := by
  have done : ∀ i, Ev (fun k => beaconlaw15_KeyBytes.j1 k x3 i false K M S) true := fun i => by
    refine Ev.step (fun k => by rw [beaconlaw15_KeyBytes.j1]) ?_
    refine ev_neg (by simp) ?_
    exact Ev.bind (f := fun _ t => some t) wakes_ev (ev_cst rfl)
  intro d
  induction d with
  | zero =>
    intro i h0 hd
    refine Ev.step (fun k => by rw [beaconlaw15_KeyBytes.l0]) ?_
    rw [decide_eq_false (show ¬ i < 12 by omega)]
    exact ev_ite (fun _ => done _) (fun _ => done _)
  | succ d ih =>
    intro i h0 hd
    refine Ev.step (fun k => by rw [beaconlaw15_KeyBytes.l0]) ?_
    by_cases hi : i < K.length
    · refine ev_pos hi ?_
      rw [decide_eq_true (show i < 12 by omega)]
      refine Ev.step (fun k => by rw [beaconlaw15_KeyBytes.j1]) ?_
      exact ev_pos rfl (kb_l1 K M S x3 h3 i ⟨h0, by omega⟩ hi (ih (i + 1) (by omega) (by omega)) 7 0 (by omega) (by omega))
    · exact ev_neg hi (done _)
end Ky
open Ky in
theorem KeyBytes : beaconlaw15_KeyBytes.Pure := by
  rintro ⟨K, M, S⟩ ⟨⟨g1, _, _⟩, _, g2, _, g3⟩
  simp only at g1 g2 g3
  obtain ⟨b, hE⟩ := heavy_l0 K M S (by omega) g3 S.length K.length 0 (by omega) (by omega) (by omega) (by omega)
  show ∃ k, beaconlaw15_KeyBytes.f k K M S = some true
  refine Ev.rounds ?_
  unfold beaconlaw15_KeyBytes.f
  refine Ev.bind (f := fun k t => _) (show Ev (fun k => beaconlaw15_Heavy.f k K M S) b from hE) ?_
  cases b with
  | true => exact ev_pos rfl (ev_cst rfl)
  | false => exact ev_neg (by simp) (kb_l0 K M S _ rfl 12 0 (by omega) (by omega))
end Go.Proofs.YtadjhnlbpgknfaaDoor.Pure
