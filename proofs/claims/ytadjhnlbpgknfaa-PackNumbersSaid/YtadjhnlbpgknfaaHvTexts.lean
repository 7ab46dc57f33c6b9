/- How much texts weigh: the sum is told, and it is not below their count. -/
import Derived.Test.YtadjhnlbpgknfaaPz
import Derived.Test.YtadjhnlbpgknfaaP3
namespace Go.Proofs.Ytadjhnlbpgknfaa.P
open Go.RowKit Go.Proofs.YtadjhnlbpgknfaaW.PrintWords Go.Proofs.YtadjhnlbpgknfaaW.PrintLast Go.Proofs.YtadjhnlbpgknfaaW.PrintMore Go.Proofs.Ytadjhnlbpgknfaa.Pz

theorem texts_l0 (xs : List ByteArray) (hx : ∀ y ∈ xs, y.size ≤ 140737488351232) (hl : xs.length ≤ 8796093022208) : ∀ (d : Nat) (i acc : Int), 0 ≤ i → i + d = xs.length → 0 ≤ acc → acc ≤ 281474976710656 →
    ∃ r, Ev (fun k => beaconlaw0_Texts.l0 k xs acc i) r ∧ acc ≤ r := by
  intro d
  induction d with
  | zero =>
    intro i acc h0 h1 ha hb
    exact ⟨acc, Ev.step (fun k => by rw [beaconlaw0_Texts.l0]) (ev_neg (by omega) (ev_cst rfl)), by omega⟩
  | succ d ih =>
    intro i acc h0 h1 ha hb
    by_cases h : acc < 1048576
    · have hm := hx _ (rdOf_mem (d := ByteArray.empty) h0 (show i < (xs.length : Int) by omega))
      obtain ⟨r, hr, hle⟩ := ih (i + 1) (acc + (rdOf ByteArray.empty xs i).size) (by omega) (by omega) (by omega) (by omega)
      refine ⟨r, Ev.step (fun k => by rw [beaconlaw0_Texts.l0]) ?_, by omega⟩
      refine ev_pos (by omega) (ev_pos h (ev_pos h0 ?_))
      rw [wrap_in (by omega) (by omega), wrap_in (by omega) (by omega)]
      exact hr
    · exact ⟨acc, Ev.step (fun k => by rw [beaconlaw0_Texts.l0]) (ev_pos (by omega) (ev_neg h (ev_cst rfl))), by omega⟩
theorem texts_ev (xs : List ByteArray) (hx : ∀ y ∈ xs, y.size ≤ 140737488351232) (hl : xs.length * 16 ≤ 140737488351232) : ∃ r, Ev (fun k => beaconlaw0_Texts.f k xs) r ∧ (xs.length : Int) ≤ r :=
  texts_l0 xs hx (by omega) xs.length 0 xs.length (by omega) (by omega) (by omega) (by omega)

theorem copyStrings_l0 (xs : List ByteArray) (hl : xs.length < 8796093022208) : ∀ (d : Nat) (i : Int), 0 ≤ i → i + d = xs.length → Ev (fun k => beaconref0_CopyStrings.l0 k xs (xs.take i.toNat) i) xs := by
  intro d
  induction d with
  | zero =>
    intro i h0 h1
    refine Ev.step (fun k => by rw [beaconref0_CopyStrings.l0]) ?_
    refine ev_neg (by omega) (ev_cst ?_)
    rw [List.take_of_length_le (by omega)]
  | succ d ih =>
    intro i h0 h1
    refine Ev.step (fun k => by rw [beaconref0_CopyStrings.l0]) ?_
    refine ev_pos (by omega) (ev_pos h0 (ev_pos (by rw [List.length_take]; omega) ?_))
    rw [wrap_in (by omega) (by omega)]
    have e : xs.take i.toNat ++ [rdOf ByteArray.empty xs i] = xs.take (i + 1).toNat := by
      rw [show (i + 1).toNat = i.toNat + 1 by omega, List.take_succ_eq_append_getElem (show i.toNat < xs.length by omega)]
      unfold rdOf
      rw [List.getD_eq_getElem?_getD, List.getElem?_eq_getElem (show i.toNat < xs.length by omega)]
      rfl
    rw [e]
    exact ih (i + 1) (by omega) (by omega)
theorem copyStrings_ev (xs : List ByteArray) (hl : xs.length < 8796093022208) : Ev (fun k => beaconref0_CopyStrings.f k xs) xs := copyStrings_l0 xs hl xs.length 0 (by omega) (by omega)
end Go.Proofs.Ytadjhnlbpgknfaa.P
