/- SgrApplies, the plain side: what numbers make of an attribute, and the numbers that make it, are the page's. -/
import Derived.Test.YtadjhnlbpgknfaaQSaySgrApplies
import Derived.Test.YtadjhnlbpgknfaaSgrFacts
set_option linter.unusedSimpArgs false
set_option linter.unusedVariables false
namespace Go.Proofs.Ytadjhnlbpgknfaa.Pure
open Go.RowKit Go.Proofs.Ytadjhnlbpgknfaa.Q Go.Proofs.YtadjhnlbpgknfaaW.PrintWords Go.Proofs.YtadjhnlbpgknfaaW.PrintLast Go.Proofs.YtadjhnlbpgknfaaW.PrintMore Go.Proofs.Ytadjhnlbpgknfaa.Pz
namespace Sb
theorem form_f (c b : Int) (hc : col c = true) (hb : b = 0 ∨ b = 10) : beaconref3_form.f c b = some (sp c b) := by
  have h : -1 ≤ c ∧ c < 16777472 := by simpa [col] using hc
  have m255 : ∀ x : Int, 0 ≤ x → x < 2 ^ 63 → Go.bits .and .i64 x 255 = x % 256 := fun x h0 h1 => by
    have := bits_mask .i64 63 (by decide) wraps_i64 8 (by decide) x h0 h1
    simpa using this
  unfold beaconref3_form.f sp
  by_cases h1 : c < 0
  · rw [if_pos h1, if_pos (show c = -1 by omega)]
  rw [if_neg h1, if_neg (show ¬ c = -1 by omega)]
  by_cases h2 : c < 8
  · rw [if_pos h2, if_pos h2, wrap_in (x := 30 + b) (by omega) (by omega), wrap_in (by omega) (by omega)]
  rw [if_neg h2, if_neg h2]
  by_cases h3 : c < 16
  · rw [if_pos h3, if_pos h3, wrap_in (x := 82 + b) (by omega) (by omega), wrap_in (by omega) (by omega)]
  rw [if_neg h3, if_neg h3]
  by_cases h4 : c < 256
  · rw [if_pos h4, if_pos h4, wrap_in (by omega) (by omega)]
  rw [if_neg h4, if_neg h4, wrap_in (x := 38 + b) (by omega) (by omega), wrap_in (x := c - 256) (by omega) (by omega), m255 _ (by omega) (by omega), m255 _ (by omega) (by omega)]
theorem refLine_l0 (a b c : Int) (ha : col a = true) (hb : col b = true) : ∀ (d i : Nat), i + d = 8 → ∀ acc : List Int, acc.length + d ≤ 20 →
    Ev (fun k => beaconref3_Line.l0 k fls acc (i : Int) a b c) (acc ++ flOf c i ++ (sp a 0 ++ sp b 10)) := by
  intro d
  induction d with
  | zero =>
    intro i hi acc hl
    obtain rfl : i = 8 := by omega
    have h1 := sp_len a 0
    have h2 := sp_len b 10
    refine Ev.step (fun k => by rw [beaconref3_Line.l0]) ?_
    refine ev_neg (by decide) (ev_bindc (form_f a 0 ha (.inl rfl)) (ev_pos (by omega) (ev_bindc rfl (ev_bindc (form_f b 10 hb (.inr rfl)) (ev_pos (by simp; omega) (ev_cst ?_))))))
    simp [flOf, fls]
  | succ d ih =>
    intro i hi acc hl
    have h8 : i < 8 := by omega
    refine Ev.step (fun k => by rw [beaconref3_Line.l0]) ?_
    refine ev_pos (by omega) (ev_pos (by omega) ?_)
    have er : rd fls (i : Int) = fls.getD i 0 := rfl
    rw [flOf_step c h8, wrap_in (x := (i : Int) + 1) (by omega) (by omega)]
    by_cases hbit : Go.bits .and .i64 (shr .i64 c i) 1 = 1
    · refine ev_pos hbit (ev_pos (by simp [fls]; omega) (ev_pos (by omega) ?_))
      rw [if_pos hbit]
      have hgo := ih (i + 1) (by omega) (acc ++ [fls.getD i 0]) (by simp; omega)
      rw [er]
      simpa [List.append_assoc] using hgo
    · refine ev_neg hbit ?_
      rw [if_neg hbit]
      exact ih (i + 1) (by omega) acc (by omega)
theorem refLine_ev (a b c : Int) (h : mayA a b c = true) : Ev (fun k => beaconref3_Line.f k a b c) (lineOf a b c) := by
  have ha : col a = true := by simp only [mayA, Bool.and_eq_true] at h; exact h.1
  have hb : col b = true := by simp only [mayA, Bool.and_eq_true] at h; exact h.2.1
  exact refLine_l0 a b c ha hb 8 0 rfl [0] (by simp)
theorem eqNumbers_self (l : List Int) (hl : l.length ≤ 1000000000000000) : Ev (fun k => beaconref0_EqNumbers.f k l l) true := by
  have H : ∀ (d i : Nat), i + d = l.length → Ev (fun k => beaconref0_EqNumbers.l0 k l l (i : Int)) true := by
    intro d
    induction d with
    | zero =>
      intro i hi
      exact Ev.step (fun k => by rw [beaconref0_EqNumbers.l0]) (ev_neg (by omega) (ev_cst rfl))
    | succ d ih =>
      intro i hi
      refine Ev.step (fun k => by rw [beaconref0_EqNumbers.l0]) (ev_pos (by omega) (ev_pos (by omega) (ev_pos (by omega) (ev_pos rfl ?_))))
      rw [wrap_in (x := (i : Int) + 1) (by omega) (by omega)]
      exact ih (i + 1) (by omega)
  unfold beaconref0_EqNumbers.f
  exact ev_pos rfl (H l.length 0 (by omega))
theorem numbers_ev : ∀ (d i : Nat) (l : List Int), i + d = l.length → l.length ≤ 1000000000000000 → ∃ r, Ev (fun k => beaconlaw0_Numbers.l0 k l (i : Int)) r := by
  intro d
  induction d with
  | zero =>
    intro i l hi hl
    exact ⟨l, Ev.step (fun k => by rw [beaconlaw0_Numbers.l0]) (ev_neg (by omega) (ev_cst rfl))⟩
  | succ d ih =>
    intro i l hi hl
    obtain ⟨r, h⟩ := ih (i + 1) (l.set i (-99)) (by rw [List.length_set]; omega) (by rw [List.length_set]; omega)
    refine ⟨r, Ev.step (fun k => by rw [beaconlaw0_Numbers.l0]) (ev_pos (by omega) (ev_pos (by omega) ?_))⟩
    rw [wrap_in (x := (i : Int) + 1) (by omega) (by omega), Int.toNat_natCast]
    exact h
theorem copyNumbers_ev (l : List Int) (hl : l.length ≤ 17592186043904) : Ev (fun k => beaconref0_CopyNumbers.f k l) l := by
  have H : ∀ (d i : Nat), i + d = l.length → Ev (fun k => beaconref0_CopyNumbers.l0 k l (l.take i) (i : Int)) l := by
    intro d
    induction d with
    | zero =>
      intro i hi
      refine Ev.step (fun k => by rw [beaconref0_CopyNumbers.l0]) (ev_neg (by omega) (ev_cst ?_))
      rw [List.take_of_length_le (by omega)]
    | succ d ih =>
      intro i hi
      have h : i < l.length := by omega
      refine Ev.step (fun k => by rw [beaconref0_CopyNumbers.l0]) (ev_pos (by omega) (ev_pos (by omega) (ev_pos (by rw [List.length_take]; omega) ?_)))
      rw [wrap_in (x := (i : Int) + 1) (by omega) (by omega), rd_at h, ← List.take_succ_eq_append_getElem h]
      exact ih (i + 1) (by omega)
  exact H l.length 0 (by omega)
def parB (l : List Int) : Bool := decide (l.length ≤ 32) && !(l.any badN)
theorem params_ev (l : List Int) (hl : l.length ≤ 17592186043904) : Ev (fun k => beaconref3_Params.f k l 32) (parB l) := by
  have H : ∀ (d i : Nat), i + d = 33 → (i ≤ l.length) → (l.take i).any badN = false → Ev (fun k => beaconref3_Params.l0 k l 32 (i : Int)) (parB l) := by
    intro d
    induction d with
    | zero =>
      intro i hi hil hb
      have go : Ev (fun k => beaconref3_Params.j1 k l 32 (i : Int) false) (parB l) := by
        refine Ev.step (fun k => by rw [beaconref3_Params.j1]) (ev_neg (by simp) (ev_cst ?_))
        rw [parB, decide_eq_false (show ¬ (l.length : Int) ≤ 32 by omega), decide_eq_false (show ¬ l.length ≤ 32 by omega)]
        rfl
      refine Ev.step (fun k => by rw [beaconref3_Params.l0]) ?_
      by_cases h : i < l.length
      · refine ev_pos (by omega) ?_
        rw [decide_eq_false (show ¬ (i : Int) ≤ 32 by omega)]
        exact go
      · exact ev_neg (by omega) go
    | succ d ih =>
      intro i hi hil hb
      refine Ev.step (fun k => by rw [beaconref3_Params.l0]) ?_
      by_cases h : i < l.length
      · refine ev_pos (by omega) ?_
        rw [decide_eq_true (show (i : Int) ≤ 32 by omega)]
        refine Ev.step (fun k => by rw [beaconref3_Params.j1]) (ev_pos rfl (ev_pos (by omega) (ev_pos (by omega) (ev_bindc (between_f _ _ _) ?_))))
        rw [rd_at h]
        by_cases hn : -1 ≤ l[i] ∧ l[i] ≤ 9999
        · refine ev_pos (by simpa using hn) ?_
          rw [wrap_in (x := (i : Int) + 1) (by omega) (by omega)]
          refine ih (i + 1) (by omega) (by omega) ?_
          rw [List.take_succ_eq_append_getElem h, List.any_append, hb]
          simp [badN]
          omega
        · refine ev_neg (by simpa using hn) (ev_cst ?_)
          have : l.any badN = true := List.any_eq_true.2 ⟨_, List.getElem_mem h, by simp [badN]; omega⟩
          rw [parB, this]
          simp
      · refine ev_neg (by omega) ?_
        refine Ev.step (fun k => by rw [beaconref3_Params.j1]) (ev_neg (by simp) (ev_cst ?_))
        rw [List.take_of_length_le (by omega)] at hb
        rw [parB, hb, decide_eq_true (show (l.length : Int) ≤ 32 by omega), decide_eq_true (show l.length ≤ 32 by omega)]
        rfl
  exact H 33 0 rfl (by omega) (by simp)
theorem applyAll_f (p q r : Int) (l : List Int) : sgr_Apply.f p q r l = some (if mayA p q r && parB l then ((doF p q r l).1, (doF p q r l).2.1, (doF p q r l).2.2, 0) else (0, 0, 0, 1)) := by
  unfold sgr_Apply.f
  rw [may_f, Option.bind_some]
  cases mayA p q r with
  | false => rfl
  | true =>
    by_cases h : l.length ≤ 32 ∧ l.any badN = false
    · have hb : ∀ n ∈ l, n < 100000 := fun n hn => by
        have := List.any_eq_false.1 h.2 n hn
        simp [badN] at this
        omega
      rw [if_pos ⟨rfl, h⟩, sgr_Do.f, if_pos ⟨by omega, hb⟩, parB, h.2, decide_eq_true h.1]
      rfl
    · rw [if_neg (fun e => h e.2)]
      have : parB l = false := by
        cases hp : parB l with
        | false => rfl
        | true =>
          simp only [parB, Bool.and_eq_true, decide_eq_true_eq, Bool.not_eq_true'] at hp
          exact absurd hp h
      rw [this]
      rfl
section
variable (A : List S56) (L : List (List Int)) (hb : ∀ y ∈ L, y.length ≤ 17592186043904) (i : Int) (h0 : 0 ≤ i) (h6 : i < 6) (hi : i < A.length) (hgo : Ev (fun k => beaconlaw4_SgrApplies.l0 k (i + 1) A L) true)
include hb h0 h6 hi hgo
theorem ap_l1 : ∀ (d : Nat) (j : Int), 0 ≤ j → j + d = 6 → Ev (fun k => beaconlaw4_SgrApplies.l1 k i (mayA (rd_T56 A i).f0 (rd_T56 A i).f1 (rd_T56 A i).f2) j A L) true := by
  have done : ∀ j, Ev (fun k => beaconlaw4_SgrApplies.j5 k i (mayA (rd_T56 A i).f0 (rd_T56 A i).f1 (rd_T56 A i).f2) j false A L) true := fun j => by
    refine Ev.step (fun k => by rw [beaconlaw4_SgrApplies.j5]) (ev_neg (by simp) ?_)
    rw [wrap_in (x := i + 1) (by omega) (by omega)]
    exact hgo
  intro d
  induction d with
  | zero =>
    intro j hj hd
    refine Ev.step (fun k => by rw [beaconlaw4_SgrApplies.l1]) ?_
    rw [decide_eq_false (show ¬ j < 6 by omega)]
    exact ev_ite (fun _ => done j) (fun _ => done j)
  | succ d ih =>
    intro j hj hd
    have hn := ih (j + 1) (by omega) (by omega)
    refine Ev.step (fun k => by rw [beaconlaw4_SgrApplies.l1]) ?_
    by_cases hjl : j < L.length
    · refine ev_pos hjl ?_
      rw [decide_eq_true (show j < 6 by omega)]
      have hly : (rd_L2 L j).length ≤ 17592186043904 := hb _ (rdOf_mem (d := ([] : List Int)) (xs := L) hj (by omega))
      refine Ev.step (fun k => by rw [beaconlaw4_SgrApplies.j5]) (ev_pos rfl (ev_pos hj (ev_pos hjl (Ev.bind (copyNumbers_ev _ hly) (ev_pos h0 (ev_pos hi (ev_bindc (applyAll_f _ _ _ _) ?_)))))))
      have fin : ∀ (a b c e : Int) (w : Int) (x y z : Int), e = w → a = x → b = y → c = z → Ev (fun k => beaconlaw4_SgrApplies.j7 k i (mayA (rd_T56 A i).f0 (rd_T56 A i).f1 (rd_T56 A i).f2) j (rd_L2 L j) e w A L a b c x y z) true := by
        rintro a b c e _ _ _ _ rfl rfl rfl rfl
        refine Ev.step (fun k => by rw [beaconlaw4_SgrApplies.j7]) ?_
        refine ev_bindc (num _) (ev_pos rfl ?_)
        refine ev_neg (by simp) (ev_pos hj (ev_pos hjl (Ev.bind (eqNumbers_self _ (by omega)) (ev_pos rfl ?_))))
        rw [wrap_in (x := j + 1) (by omega) (by omega)]
        exact hn
      cases hm : mayA (rd_T56 A i).f0 (rd_T56 A i).f1 (rd_T56 A i).f2 with
      | false =>
        rw [hm] at fin
        refine ev_neg (by simp) ?_
        refine Ev.step (fun k => by rw [beaconlaw4_SgrApplies.j6]) (ev_neg (by simp) ?_)
        exact fin _ _ _ _ _ _ _ _ rfl rfl rfl rfl
      | true =>
        rw [hm] at fin
        refine ev_pos rfl (Ev.bind (params_ev _ hly) ?_)
        cases hp : parB (rd_L2 L j) with
        | false =>
          refine Ev.step (fun k => by rw [beaconlaw4_SgrApplies.j6]) (ev_neg (by simp) ?_)
          exact fin _ _ _ _ _ _ _ _ rfl rfl rfl rfl
        | true =>
          have hm' := hm
          have hp' := hp
          simp only [mayA, Bool.and_eq_true, decide_eq_true_eq] at hm'
          simp only [parB, Bool.and_eq_true, decide_eq_true_eq, Bool.not_eq_true'] at hp'
          have hbn : ∀ n ∈ rd_L2 L j, n < 100000 ∧ -100000 < n := fun n hn => by
            have := List.any_eq_false.1 hp'.2 n hn
            simp [badN] at this
            omega
          refine Ev.step (fun k => by rw [beaconlaw4_SgrApplies.j6]) (ev_pos rfl (ev_pos h0 (ev_pos hi (ev_pos hj (ev_pos hjl (Ev.bind (refApply_ev _ _ _ _ (by omega) hbn hm'.2.2) ?_))))))
          exact fin _ _ _ _ _ _ _ _ rfl rfl rfl rfl
    · exact ev_neg hjl (done j)
theorem ap_row : Ev (fun k => beaconlaw4_SgrApplies.j1 k i true A L) true := by
  refine Ev.step (fun k => by rw [beaconlaw4_SgrApplies.j1]) (ev_pos rfl (ev_pos h0 (ev_pos hi (ev_bindc (attr_f _ _ _) (Ev.bind (line_ev _ _ _) ?_)))))
  have fin : ∀ (x y : List Int) (e w : Int), x = y → e = w → x.length ≤ 100 → w = (if mayA (rd_T56 A i).f0 (rd_T56 A i).f1 (rd_T56 A i).f2 then 0 else 1) → Ev (fun k => beaconlaw4_SgrApplies.j2 k i (mayA (rd_T56 A i).f0 (rd_T56 A i).f1 (rd_T56 A i).f2) x e w y A L) true := by
    rintro x _ e _ rfl rfl hx hw
    refine Ev.step (fun k => by rw [beaconlaw4_SgrApplies.j2]) (ev_pos h0 (ev_pos hi (ev_bindc (check_f _ _ _) (ev_bindc (num _) (ev_pos hw.symm (ev_bindc (num _) (ev_pos rfl (Ev.bind (eqNumbers_self x (by omega)) ?_))))))))
    refine Ev.step (fun k => by rw [beaconlaw4_SgrApplies.j3]) (ev_neg (by simp) ?_)
    obtain ⟨r, hr⟩ := numbers_ev x.length 0 x (by omega) (by omega)
    exact Ev.bind (f := fun k _ => _) hr (ap_l1 A L hb i h0 h6 hi hgo 6 0 (by omega) (by omega))
  cases hm : mayA (rd_T56 A i).f0 (rd_T56 A i).f1 (rd_T56 A i).f2 with
  | false =>
    rw [hm] at fin
    exact ev_neg (by simp) (fin _ _ _ _ rfl rfl (by simp) (by simp))
  | true =>
    rw [hm] at fin
    have := line_len (rd_T56 A i).f0 (rd_T56 A i).f1 (rd_T56 A i).f2
    exact ev_pos rfl (Ev.bind (refLine_ev _ _ _ hm) (fin _ _ _ _ rfl rfl (by simp; omega) (by simp)))
end
theorem ap_l0 (A : List S56) (L : List (List Int)) (hb : ∀ y ∈ L, y.length ≤ 17592186043904) : ∀ (d : Nat) (i : Int), 0 ≤ i → i + d = 6 → Ev (fun k => beaconlaw4_SgrApplies.l0 k i A L) true := by
  have done : ∀ i, Ev (fun k => beaconlaw4_SgrApplies.j1 k i false A L) true := fun i =>
    Ev.step (fun k => by rw [beaconlaw4_SgrApplies.j1]) (ev_neg (by simp) (ev_bindc wakes_f (ev_cst rfl)))
  intro d
  induction d with
  | zero =>
    intro i h0 hd
    refine Ev.step (fun k => by rw [beaconlaw4_SgrApplies.l0]) ?_
    rw [decide_eq_false (show ¬ i < 6 by omega)]
    exact ev_ite (fun _ => done i) (fun _ => done i)
  | succ d ih =>
    intro i h0 hd
    refine Ev.step (fun k => by rw [beaconlaw4_SgrApplies.l0]) ?_
    by_cases hi : i < A.length
    · refine ev_pos hi ?_
      rw [decide_eq_true (show i < 6 by omega)]
      exact ap_row A L hb i h0 (by omega) hi (ih (i + 1) (by omega) (by omega))
    · exact ev_neg hi (done i)
end Sb
open Sb in
theorem SgrApplies : beaconlaw4_SgrApplies.Pure := by
  rintro ⟨A, L⟩ ⟨⟨g1, _, _⟩, g2, _, g3⟩
  simp only at g1 g2 g3
  have hb : ∀ y ∈ L, y.length ≤ 17592186043904 := fun y hy => by have := (g3 y hy).1; omega
  obtain ⟨b, hE, _⟩ := heavy_l0 A L (by omega) hb L.length (A.length + L.length) 0 (by omega) (by omega) (by omega) (by omega)
  show ∃ k, beaconlaw4_SgrApplies.f k A L = some true
  refine Ev.rounds ?_
  unfold beaconlaw4_SgrApplies.f
  have hH : Ev (fun k => beaconlaw4_Heavy.f k A L) b := by
    unfold beaconlaw4_Heavy.f
    rw [wrap_in (by omega) (by omega)]
    exact hE
  refine Ev.bind (f := fun k t => _) hH ?_
  cases b with
  | true => exact ev_pos rfl (ev_cst rfl)
  | false => exact ev_neg (by simp) (ap_l0 A L hb 6 0 (by omega) (by omega))
end Go.Proofs.Ytadjhnlbpgknfaa.Pure
