/- KeyEach, the plain side: each key, with each of the mods, under the modes that matter, is what the page says. -/
import Derived.Test.YtadjhnlbpgknfaaDoorPSayKeyEach
import Derived.Test.YtadjhnlbpgknfaaDoorKeyFacts
set_option linter.unusedSimpArgs false
set_option linter.unusedVariables false
namespace Go.Proofs.YtadjhnlbpgknfaaDoor.Pure
open Go.RowKit Go.Proofs.YtadjhnlbpgknfaaDoor.P Go.Proofs.YtadjhnlbpgknfaaDoorW.PrintWords Go.Proofs.YtadjhnlbpgknfaaDoorW.PrintLast Go.Proofs.YtadjhnlbpgknfaaDoorW.PrintMore Go.Proofs.YtadjhnlbpgknfaaDoor.Pz
namespace Ky
theorem mode_in : ∀ m : Fin 8, 0 ≤ wrap64 (wrap64 (wrap64 (Go.bits .and .i64 (m.val : Int) 1 * 16) + wrap64 (Go.bits .and .i64 ((m.val : Int) / 2) 1 * 4)) + wrap64 ((m.val : Int) / 4 * 128)) ∧
    wrap64 (wrap64 (wrap64 (Go.bits .and .i64 (m.val : Int) 1 * 16) + wrap64 (Go.bits .and .i64 ((m.val : Int) / 2) 1 * 4)) + wrap64 ((m.val : Int) / 4 * 128)) ≤ 1023 := by decide +kernel
section
variable (K : List S32) (M : Int) (S : List ByteArray)
theorem ke_l3 (a b : Int) (x5 : List Int) (c : Int) (r1 r2 r3 : Int) (hgo : Ev (fun k => beaconlaw15_KeyEach.l2 k a b x5 (wrap64 (c + 1)) K M S) true) : ∀ (d q : Nat), q + d = 8 → Ev (fun k => beaconlaw15_KeyEach.l3 k a b x5 c (q : Int) K M S r1 r2 r3) true := by
  intro d
  induction d with
  | zero =>
    intro q hq
    exact Ev.step (fun k => by rw [beaconlaw15_KeyEach.l3]) (ev_neg (by omega) hgo)
  | succ d ih =>
    intro q hq
    have hn := ih (q + 1) (by omega)
    have e1 : wrap64 ((q : Int) + 1) = ((q + 1 : Nat) : Int) := wrap_in (by omega) (by omega)
    have hm := mode_in ⟨q, by omega⟩
    simp only at hm
    refine Ev.step (fun k => by rw [beaconlaw15_KeyEach.l3, e1]) ?_
    refine ev_pos (by omega) (Ev.bind (bytes_ev _ _ _ _) (ev_bindc (key_f _ _ _) ?_))
    by_cases hv : validK r1 r2 r3
    · rw [if_pos ⟨hv, hm⟩]
      exact ev_pos (decide_eq_true hv) (ev_bindc (ref_f hv) (ev_bindc (num_f _) (ev_pos rfl (ev_pos rfl hn))))
    · rw [if_neg (fun e => hv e.1)]
      exact ev_neg (by simpa using hv) (ev_bindc (num_f _) (ev_pos rfl (ev_pos (by simp) hn)))
theorem ke_l2 (a b : Int) (x5 : List Int) (h5 : x5.length ≤ 100) (hgo : Ev (fun k => beaconlaw15_KeyEach.l1 k a (wrap64 (b + 1)) K M S) true) : ∀ (d q : Nat), q + d = x5.length → Ev (fun k => beaconlaw15_KeyEach.l2 k a b x5 (q : Int) K M S) true := by
  intro d
  induction d with
  | zero =>
    intro q hq
    exact Ev.step (fun k => by rw [beaconlaw15_KeyEach.l2]) (ev_neg (by omega) hgo)
  | succ d ih =>
    intro q hq
    have hn := ih (q + 1) (by omega)
    have e1 : wrap64 ((q : Int) + 1) = ((q + 1 : Nat) : Int) := wrap_in (by omega) (by omega)
    refine Ev.step (fun k => by rw [beaconlaw15_KeyEach.l2]) ?_
    exact ev_pos (by omega) (ev_pos (by omega) (ke_l3 K M S a b x5 q a _ b (by rw [e1]; exact hn) 8 0 (by omega)))
theorem ke_l1 (a : Int) (hgo : Ev (fun k => beaconlaw15_KeyEach.l0 k (wrap64 (a + 1)) K M S) true) : ∀ (d : Nat) (b : Int), -1 ≤ b → b + d = 9 → Ev (fun k => beaconlaw15_KeyEach.l1 k a b K M S) true := by
  intro d
  induction d with
  | zero =>
    intro b hb hd
    exact Ev.step (fun k => by rw [beaconlaw15_KeyEach.l1]) (ev_neg (by omega) hgo)
  | succ d ih =>
    intro b hb hd
    have hn := ih (b + 1) (by omega) (by omega)
    refine Ev.step (fun k => by rw [beaconlaw15_KeyEach.l1]) ?_
    exact ev_pos (by omega) (ke_l2 K M S a b _ (by decide) (by rw [wrap_in (by omega) (by omega)]; exact hn) 14 0 rfl)
theorem ke_l0 : ∀ (d : Nat) (a : Int), -1 ≤ a → a + d = 14 → Ev (fun k => beaconlaw15_KeyEach.l0 k a K M S) true := by
  intro d
  induction d with
  | zero =>
    intro a ha hd
    refine Ev.step (fun k => by rw [beaconlaw15_KeyEach.l0]) ?_
    refine ev_neg (by omega) (ev_pos (by omega) ?_)
    exact Ev.bind (f := fun _ t => some t) wakes_ev (ev_cst rfl)
  | succ d ih =>
    intro a ha hd
    have hn := ih (a + 1) (by omega) (by omega)
    refine Ev.step (fun k => by rw [beaconlaw15_KeyEach.l0]) ?_
    exact ev_pos (by omega) (ke_l1 K M S a (by rw [wrap_in (by omega) (by omega)]; exact hn) 10 (-1) (by omega) (by omega))
end
end Ky
open Ky in
theorem KeyEach : beaconlaw15_KeyEach.Pure := by
  rintro ⟨K, M, S⟩ _
  exact Ev.rounds (ke_l0 K M S 15 (-1) (by omega) (by omega))
end Go.Proofs.YtadjhnlbpgknfaaDoor.Pure
