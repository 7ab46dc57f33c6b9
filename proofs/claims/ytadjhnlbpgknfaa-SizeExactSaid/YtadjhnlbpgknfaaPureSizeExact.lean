/- SizeExact, the plain side: each call tells the offers, and the least size, that the page says, or refuses. -/
import Derived.Test.YtadjhnlbpgknfaaSizeFactsY
set_option linter.unusedSimpArgs false
set_option linter.unusedVariables false
namespace Go.Proofs.Ytadjhnlbpgknfaa.Pure
open Go.RowKit Go.Proofs.Ytadjhnlbpgknfaa.Y Go.Proofs.YtadjhnlbpgknfaaW.PrintWords Go.Proofs.YtadjhnlbpgknfaaW.PrintLast Go.Proofs.YtadjhnlbpgknfaaW.PrintMore Go.Proofs.Ytadjhnlbpgknfaa.Pz
namespace Sz
theorem refNum_f (a b : Int) : beaconref0_Num.f a b = some (decide (0 ≤ a ∧ a ≤ b)) := by
  unfold beaconref0_Num.f
  split <;> simp <;> omega
theorem copy_ev (l : List S75) (hl : l.length ≤ 1000000) : Ev (fun k => beaconref0_CopyOffers.f k l) l := by
  have H : ∀ (d i : Nat), i + d = l.length → Ev (fun k => beaconref0_CopyOffers.l0 k l (l.take i) (i : Int)) l := by
    intro d
    induction d with
    | zero =>
      intro i hi
      refine Ev.step (fun k => by rw [beaconref0_CopyOffers.l0]) (ev_neg (by omega) (ev_cst ?_))
      rw [List.take_of_length_le (by omega)]
    | succ d ih =>
      intro i hi
      have h : i < l.length := by omega
      refine Ev.step (fun k => by rw [beaconref0_CopyOffers.l0]) (ev_pos (by omega) (ev_pos (by omega) (ev_pos (by rw [List.length_take]; omega) ?_)))
      rw [wrap_in (x := (i : Int) + 1) (by omega) (by omega), rd75_at h]
      have := ih (i + 1) (by omega)
      rw [List.take_succ_eq_append_getElem h] at this
      exact this
  exact H l.length 0 (by omega)
theorem offers_ev (l : List S75) (hl : l.length ≤ 1000000) : Ev (fun k => beaconref20_Offers.f k l) (decide (MayP l)) := by
  have H : ∀ (d i : Nat), i + d = l.length → (∀ q : Nat, q < i → (0 ≤ (rd_T75 l q).f0 ∧ Good l q)) → Ev (fun k => beaconref20_Offers.l0 k l (i : Int)) (decide (MayP l)) := by
    intro d
    induction d with
    | zero =>
      intro i hi hg
      refine Ev.step (fun k => by rw [beaconref20_Offers.l0]) (ev_neg (by omega) ?_)
      by_cases h : (l.length : Int) > 0
      · refine ev_pos h (ev_pos (by omega) (ev_cst ?_))
        by_cases h0 : (rd_T75 l 0).f0 = 0
        · rw [decide_eq_true (show MayP l from ⟨by omega, h0, fun q hq => (hg q (by omega)).2⟩), h0]
          rfl
        · rw [decide_eq_false (fun hm => h0 hm.2.1)]
          simpa using h0
      · refine ev_neg h (ev_cst ?_)
        rw [decide_eq_false (fun hm => by have := hm.1; omega)]
    | succ d ih =>
      intro i hi hg
      have h : i < l.length := by omega
      refine Ev.step (fun k => by rw [beaconref20_Offers.l0]) (ev_pos (by omega) (ev_pos (by omega) (ev_bindc (refNum_f _ _) ?_)))
      have e1 : wrap64 ((i : Int) + 1) = ((i + 1 : Nat) : Int) := wrap_in (by omega) (by omega)
      by_cases h4 : 0 ≤ (rd_T75 l i).f0 ∧ (rd_T75 l i).f0 ≤ 4
      · refine ev_pos (decide_eq_true h4) ?_
        rw [e1]
        have next : Good l i → Ev (fun k => beaconref20_Offers.l0 k l ((i + 1 : Nat) : Int)) (decide (MayP l)) := fun hgi => ih (i + 1) (by omega) (fun q hq => by
          by_cases hqi : q = i
          · rw [hqi]; exact ⟨h4.1, hgi⟩
          · exact hg q (by omega))
        by_cases h0 : (i : Int) > 0
        · have e2 : wrap64 ((i : Int) - 1) = ((i - 1 : Nat) : Int) := by rw [wrap_in (by omega) (by omega)]; omega
          refine ev_pos h0 ?_
          rw [e2]
          refine ev_pos (by omega) (ev_pos (by omega) ?_)
          by_cases h5 : (rd_T75 l ((i - 1 : Nat) : Int)).f0 ≥ (rd_T75 l i).f0
          · refine ev_pos h5 (ev_cst ?_)
            rw [decide_eq_false (fun hm => by have := (hm.2.2 i h).2 (by omega); omega)]
          · exact ev_neg h5 (next ⟨h4.2, fun _ => by omega⟩)
        · exact ev_neg h0 (next ⟨h4.2, fun _ => by omega⟩)
      · refine ev_neg (by simpa using h4) (ev_cst ?_)
        rw [decide_eq_false (fun hm => h4 ⟨by have := may_ge hm i h; omega, (hm.2.2 i h).1⟩)]
  exact H l.length 0 (by omega) (fun q hq => by omega)
theorem refDrop_ev (l : List S75) (who : Int) (hl : l.length ≤ 1000000) : Ev (fun k => beaconref20_Drop.f k l who) (l.filter (fun x => !(x.f0 == who))) := by
  have H : ∀ (d i : Nat), i + d = l.length → Ev (fun k => beaconref20_Drop.l0 k l who ((l.take i).filter (fun x => !(x.f0 == who))) (i : Int)) (l.filter (fun x => !(x.f0 == who))) := by
    intro d
    induction d with
    | zero =>
      intro i hi
      refine Ev.step (fun k => by rw [beaconref20_Drop.l0]) (ev_neg (by omega) (ev_cst ?_))
      rw [List.take_of_length_le (by omega)]
    | succ d ih =>
      intro i hi
      have h : i < l.length := by omega
      have hlen : ((l.take i).filter (fun x => !(x.f0 == who))).length ≤ i := Nat.le_trans (List.length_filter_le _ _) (by rw [List.length_take]; omega)
      refine Ev.step (fun k => by rw [beaconref20_Drop.l0]) (ev_pos (by omega) (ev_pos (by omega) ?_))
      rw [wrap_in (x := (i : Int) + 1) (by omega) (by omega), rd75_at h]
      have hn := ih (i + 1) (by omega)
      rw [List.take_succ_eq_append_getElem h, List.filter_append] at hn
      by_cases he : (l[i]).f0 = who
      · refine ev_pos he ?_
        rw [List.filter_cons_of_neg (by simp [he]), List.filter_nil, List.append_nil] at hn
        exact hn
      · refine ev_neg he (ev_pos (by omega) ?_)
        rw [List.filter_cons_of_pos (by simp [he]), List.filter_nil] at hn
        exact hn
  exact H l.length 0 (by omega)
theorem refLeast_ev (l : List S75) (h0 : 0 < l.length) (hl : l.length ≤ 1000000) : Ev (fun k => beaconref20_Least.f k l) (max 1 (rows l), max 1 (cols l)) := by
  have H : ∀ (d i : Nat) (a b : Int), i + d = l.length → Ev (fun k => beaconref20_Least.l0 k l a b (i : Int)) (max 1 (min 40 (mins (·.f1) a (l.drop i))), max 1 (min 40 (mins (·.f2) b (l.drop i)))) := by
    intro d
    induction d with
    | zero =>
      intro i a b hi
      refine Ev.step (fun k => by rw [beaconref20_Least.l0]) (ev_neg (by omega) (ev_cst ?_))
      rw [List.drop_of_length_le (by omega), mx_max, mx_max, mn_min, mn_min]
      rfl
    | succ d ih =>
      intro i a b hi
      have h : i < l.length := by omega
      refine Ev.step (fun k => by rw [beaconref20_Least.l0]) (ev_pos (by omega) (ev_pos (by omega) ?_))
      rw [wrap_in (x := (i : Int) + 1) (by omega) (by omega), mn_min, mn_min, rd75_at h, List.drop_eq_getElem_cons h]
      exact ih (i + 1) _ _ (by omega)
  obtain ⟨y, t, rfl, hy⟩ := head75 h0
  unfold beaconref20_Least.f
  refine ev_pos (by simp) ?_
  rw [hy]
  refine ev_eq (H t.length 1 y.f1 y.f2 (by simp; omega)) ?_
  rw [rows, cols]
  show (max 1 (min 40 (mins (·.f1) y.f1 t)), max 1 (min 40 (mins (·.f2) y.f2 t))) = (max 1 (mins (·.f1) (min 40 y.f1) t), max 1 (mins (·.f2) (min 40 y.f2) t))
  rw [mins_min, mins_min]
theorem eq_self (l : List S75) (hl : l.length ≤ 1000000) : Ev (fun k => beaconref0_EqOffers.f k l l) true := by
  have H : ∀ (d i : Nat), i + d = l.length → Ev (fun k => beaconref0_EqOffers.l0 k l l (i : Int)) true := by
    intro d
    induction d with
    | zero =>
      intro i hi
      exact Ev.step (fun k => by rw [beaconref0_EqOffers.l0]) (ev_neg (by omega) (ev_cst rfl))
    | succ d ih =>
      intro i hi
      refine Ev.step (fun k => by rw [beaconref0_EqOffers.l0]) ?_
      refine ev_pos (by omega) (ev_pos (by omega) (ev_pos (by omega) (ev_neg (by simp) ?_)))
      rw [wrap_in (x := (i : Int) + 1) (by omega) (by omega)]
      exact ih (i + 1) (by omega)
  unfold beaconref0_EqOffers.f
  exact ev_pos rfl (H l.length 0 (by omega))
theorem check_ev (l : List S75) (hl : l.length ≤ 1000000) : Ev (fun k => size_Check.f k l) (if MayP l then 0 else 1) := by
  unfold size_Check.f
  refine Ev.bind (may_ev l hl) ?_
  by_cases h : MayP l
  · rw [if_pos h]
    exact ev_pos (decide_eq_true h) (ev_cst rfl)
  · rw [if_neg h]
    exact ev_neg (by simpa using h) (ev_cst rfl)
theorem place_spec {l : List S75} (hm : MayP l) (who : Int) : placeOf l who ≤ l.length ∧ (∀ i : Nat, i < placeOf l who → (rd_T75 l i).f0 < who) ∧ ∀ i : Nat, placeOf l who ≤ i → i < l.length → who ≤ (rd_T75 l i).f0 := by
  have hle : placeOf l who ≤ l.length := List.findIdx_le_length
  refine ⟨hle, fun i hi => ?_, fun i hi hil => ?_⟩
  · have := List.not_of_lt_findIdx (p := fun y : S75 => decide (who ≤ y.f0)) (xs := l) (i := i) hi
    rw [rd75_at (by omega)]
    simpa using this
  · have hpl : placeOf l who < l.length := by omega
    have h1 : who ≤ (rd_T75 l (placeOf l who)).f0 := by
      have := List.findIdx_getElem (p := fun y : S75 => decide (who ≤ y.f0)) (xs := l) (w := hpl)
      rw [rd75_at hpl]
      exact of_decide_eq_true this
    by_cases e : i = placeOf l who
    · rw [e]; exact h1
    · have := may_lt hm (show placeOf l who < i by omega) hil
      omega
theorem setL_len (l : List S75) (x : S75) : (setL l x).length ≤ l.length + 1 := by
  unfold setL
  split
  · rw [List.length_set]; omega
  · simp only [List.length_append, List.length_take, List.length_drop, List.length_singleton]; omega
theorem refSet_ev (l : List S75) (a b c : Int) (hm : MayP l) : Ev (fun k => beaconref20_Set.f k l a b c) (setL l ⟨a, b, c⟩) := by
  have hl := may_len hm
  obtain ⟨p, hp⟩ : ∃ p, p = placeOf l a := ⟨_, rfl⟩
  obtain ⟨hple, hlow, hhigh⟩ := place_spec hm a
  rw [← hp] at hple hlow hhigh
  have hF : setL l ⟨a, b, c⟩ = if p < l.length ∧ (rd_T75 l p).f0 = a then l.take p ++ [⟨a, b, c⟩] ++ l.drop (p + 1) else l.take p ++ [⟨a, b, c⟩] ++ l.drop p := by
    unfold setL
    simp only [← hp]
    split
    · rename_i h
      rw [List.set_eq_take_append_cons_drop, if_pos h.1]
      simp
    · rfl
  -- behind the place: all the rest is copied
  have hB : ∀ (d i : Nat) (acc : List S75), i + d = l.length → p < i → acc.length ≤ i + 1 → acc ++ l.drop i = setL l ⟨a, b, c⟩ → Ev (fun k => beaconref20_Set.l0 k l acc true (i : Int) a b c) (setL l ⟨a, b, c⟩) := by
    intro d
    induction d with
    | zero =>
      intro i acc hi hpi hacc he
      refine Ev.step (fun k => by rw [beaconref20_Set.l0]) ?_
      refine ev_neg (by omega) (ev_pos rfl (ev_cst ?_))
      rw [List.drop_of_length_le (by omega), List.append_nil] at he
      rw [he]
    | succ d ih =>
      intro i acc hi hpi hacc he
      have h : i < l.length := by omega
      have hne : ¬ (rd_T75 l i).f0 = a := by
        have h1 := hhigh p (Nat.le_refl _) (by omega)
        have h2 := may_lt hm hpi h
        omega
      refine Ev.step (fun k => by rw [beaconref20_Set.l0]) ?_
      refine ev_pos (by omega) (ev_pos rfl ?_)
      refine Ev.step (fun k => by rw [beaconref20_Set.j1]) ?_
      refine ev_neg (by simp) (ev_pos (by omega) (ev_pos (by omega) (ev_neg hne (ev_pos (by omega) ?_))))
      rw [wrap_in (x := (i : Int) + 1) (by omega) (by omega), rd75_at h]
      refine ih (i + 1) (acc ++ [l[i]]) (by omega) (by omega) (by simp; omega) ?_
      rw [← he, List.append_assoc, List.drop_eq_getElem_cons h]
      rfl
  have hA : ∀ (d i : Nat), i + d = l.length → i ≤ p → Ev (fun k => beaconref20_Set.l0 k l (l.take i) false (i : Int) a b c) (setL l ⟨a, b, c⟩) := by
    intro d
    induction d with
    | zero =>
      intro i hi hpi
      refine Ev.step (fun k => by rw [beaconref20_Set.l0]) ?_
      refine ev_neg (by omega) (ev_neg (by simp) (ev_pos (by rw [List.length_take]; omega) (ev_cst ?_)))
      have hpe : p = l.length := by omega
      rw [hF, if_neg (by omega), hpe, List.take_of_length_le (show l.length ≤ i by omega), List.take_of_length_le (Nat.le_refl _), List.drop_of_length_le (Nat.le_refl _), List.append_nil]
    | succ d ih =>
      intro i hi hpi
      have h : i < l.length := by omega
      refine Ev.step (fun k => by rw [beaconref20_Set.l0]) ?_
      refine ev_pos (by omega) (ev_neg (by simp) (ev_pos (by omega) ?_))
      refine Ev.step (fun k => by rw [beaconref20_Set.j1]) ?_
      have e1 : wrap64 ((i : Int) + 1) = ((i + 1 : Nat) : Int) := wrap_in (by omega) (by omega)
      by_cases hip : i = p
      · subst hip
        refine ev_pos (by simpa using hhigh i (Nat.le_refl _) h) (ev_pos (by rw [List.length_take]; omega) (ev_bindc rfl (ev_pos (by omega) (ev_pos (by omega) ?_))))
        rw [e1]
        by_cases he : (rd_T75 l i).f0 = a
        · refine ev_pos he (hB d (i + 1) _ (by omega) (by omega) (by simp; omega) ?_)
          rw [hF, if_pos ⟨h, he⟩]
        · refine ev_neg he (ev_pos (by simp; omega) ?_)
          rw [rd75_at h]
          refine hB d (i + 1) _ (by omega) (by omega) (by simp; omega) ?_
          rw [hF, if_neg (fun e => he e.2), List.append_assoc (l.take i ++ [_]), List.drop_eq_getElem_cons h]
          rfl
      · have hlt := hlow i (by omega)
        refine ev_neg (by simpa using hlt) (ev_pos (by omega) (ev_pos (by omega) (ev_neg (by omega) (ev_pos (by rw [List.length_take]; omega) ?_))))
        rw [e1, rd75_at h]
        have := ih (i + 1) (by omega) (by omega)
        rw [List.take_succ_eq_append_getElem h] at this
        exact this
  exact hA l.length 0 (by omega) (Nat.zero_le _)
section
variable (L O : List S75) (l : List S75) (i : Int) (h0 : 0 ≤ i ∧ i < 12) (hl : l.length ≤ 1000) (hgo : ∀ l' : List S75, l'.length ≤ 1000 → Ev (fun k => beaconlaw22_SizeExact.l0 k l' (i + 1) L O) true)
include h0 hl hgo
theorem j9_ev (x16 : Int) (x18 x19 : List S75) (b : Bool) (h18 : x18.length ≤ 1000) (h19 : x19.length ≤ 1000) : Ev (fun k => beaconlaw22_SizeExact.j9 k l i x16 x18 x19 b L O) true := by
  refine Ev.step (fun k => by rw [beaconlaw22_SizeExact.j9]) ?_
  rw [wrap_in (x := i + 1) (by omega) (by omega)]
  refine ev_ite (fun _ => ?_) (fun _ => ev_ite (fun _ => ?_) (fun _ => hgo l hl))
  · exact Ev.bind (copy_ev x18 (by omega)) (hgo _ h18)
  · exact Ev.bind (copy_ev x19 (by omega)) (hgo _ h19)
theorem l2_ev (x15 x16 : Int) (x18 x19 : List S75) (h18 : x18.length ≤ 1000) (h19 : x19.length ≤ 1000) (a b c : Int) : ∀ (d q : Nat) (x10 : List S75), q + d = x10.length → x10.length ≤ 1000 → Ev (fun k => beaconlaw22_SizeExact.l2 k l i l x10 x15 x16 x18 x19 (q : Int) L O a b c) true := by
  intro d
  induction d with
  | zero =>
    intro q x10 hq hx
    refine Ev.step (fun k => by rw [beaconlaw22_SizeExact.l2]) ?_
    refine ev_neg (by omega) (Ev.bind (eq_self l (by omega)) (ev_pos rfl (ev_ite (fun _ => ?_) (fun _ => ?_))))
    · exact j9_ev L O l i h0 hl hgo x16 x18 x19 _ h18 h19
    · exact j9_ev L O l i h0 hl hgo x16 x18 x19 _ h18 h19
  | succ d ih =>
    intro q x10 hq hx
    refine Ev.step (fun k => by rw [beaconlaw22_SizeExact.l2]) ?_
    refine ev_pos (by omega) (ev_pos (by omega) ?_)
    rw [wrap_in (x := (q : Int) + 1) (by omega) (by omega)]
    exact ih (q + 1) _ (by rw [List.length_set]; omega) (by rw [List.length_set]; omega)
theorem l1_ev (x10 : List S75) (hx10 : x10.length ≤ 1000) (x15 x16 : Int) (x18 x19 : List S75) (h18 : x18.length ≤ 1000) (h19 : x19.length ≤ 1000) (a b c : Int) : ∀ (d q : Nat) (x8 : List S75), q + d = x8.length → x8.length ≤ 1000 → Ev (fun k => beaconlaw22_SizeExact.l1 k l i l x8 x10 x15 x16 x18 x19 (q : Int) L O a b c) true := by
  intro d
  induction d with
  | zero =>
    intro q x8 hq hx
    refine Ev.step (fun k => by rw [beaconlaw22_SizeExact.l1]) ?_
    exact ev_neg (by omega) (l2_ev L O l i h0 hl hgo x15 x16 x18 x19 h18 h19 a b c x10.length 0 x10 (by omega) hx10)
  | succ d ih =>
    intro q x8 hq hx
    refine Ev.step (fun k => by rw [beaconlaw22_SizeExact.l1]) ?_
    refine ev_pos (by omega) (ev_pos (by omega) ?_)
    rw [wrap_in (x := (q : Int) + 1) (by omega) (by omega)]
    exact ih (q + 1) _ (by rw [List.length_set]; omega) (by rw [List.length_set]; omega)
theorem j5_ev (x8 x10 : List S75) (x15 x16 x17 r s : Int) (h8 : x8.length ≤ 1000) (h10 : x10.length ≤ 1000) (a b c : Int) :
    Ev (fun k => beaconlaw22_SizeExact.j5 k l i l (decide (MayP l)) x8 x15 x10 x16 r s x17 x15 x16 x17 x8 x10 r s L O a b c) true := by
  refine Ev.step (fun k => by rw [beaconlaw22_SizeExact.j5]) ?_
  refine Ev.bind (check_ev l (by omega)) (ev_bindc (num_f _) ?_)
  refine ev_neg (by by_cases h : MayP l <;> simp [h]) ?_
  refine ev_bindc (num_f _) (ev_pos rfl (ev_bindc (num_f _) (ev_pos rfl (ev_bindc (num_f _) (ev_pos rfl (Ev.bind (eq_self x8 (by omega)) (ev_pos rfl (Ev.bind (eq_self x10 (by omega)) (ev_pos rfl (ev_pos rfl (ev_pos rfl (Ev.bind (eq_self l (by omega)) ?_))))))))))))
  refine Ev.step (fun k => by rw [beaconlaw22_SizeExact.j6]) ?_
  exact ev_neg (by simp) (l1_ev L O l i h0 hl hgo x10 h10 x15 x16 x8 x10 h8 h10 a b c x8.length 0 x8 (by omega) h8)
theorem j3_ev (a b c : Int) : Ev (fun k => beaconlaw22_SizeExact.j3 k l i L O a b c) true := by
  refine Ev.step (fun k => by rw [beaconlaw22_SizeExact.j3]) ?_
  refine Ev.bind (copy_ev l (by omega)) (Ev.bind (offers_ev l (by omega)) (Ev.bind (set_ev l a b c (by omega)) (Ev.bind (drop_ev l a (by omega)) (Ev.bind (least_ev l (by omega)) ?_))))
  have go := fun x8 x10 x15 x16 x17 r s h8 h10 => j5_ev L O l i h0 hl hgo x8 x10 x15 x16 x17 r s h8 h10 a b c
  by_cases hm : MayP l
  · have hlen := may_len hm
    have hsl := setL_len l ⟨a, b, c⟩
    have hfl := List.length_filter_le (fun x : S75 => !(x.f0 == a)) l
    rw [decide_eq_true hm] at go ⊢
    refine ev_pos rfl (Ev.bind (refLeast_ev l hm.1 (by omega)) (ev_bindc (refNum_f _ _) ?_))
    rw [if_pos hm]
    by_cases h4 : 0 ≤ a ∧ a ≤ 4
    · rw [if_pos ⟨hm, h4⟩]
      refine ev_pos (decide_eq_true h4) (Ev.bind (refSet_ev l a b c hm) ?_)
      refine Ev.step (fun k => by rw [beaconlaw22_SizeExact.j4]) (ev_bindc (between_f _ _ _) ?_)
      by_cases h1 : 1 ≤ a ∧ a ≤ 4
      · rw [if_pos ⟨hm, h1⟩]
        exact ev_pos (decide_eq_true h1) (Ev.bind (refDrop_ev l a (by omega)) (go _ _ _ _ _ _ _ (by simp only; omega) (by simp only; omega)))
      · rw [if_neg (fun e => h1 e.2)]
        exact ev_neg (by simpa using h1) (go _ _ _ _ _ _ _ (by simp only; omega) (by simp))
    · rw [if_neg (fun e => h4 e.2), if_neg (fun e => h4 ⟨by omega, e.2.2⟩)]
      refine ev_neg (by simpa using h4) ?_
      refine Ev.step (fun k => by rw [beaconlaw22_SizeExact.j4]) (ev_bindc (between_f _ _ _) ?_)
      exact ev_neg (by simp; omega) (go _ _ _ _ _ _ _ (by simp) (by simp))
  · rw [decide_eq_false hm] at go ⊢
    rw [if_neg (fun e => hm e.1), if_neg (fun e => hm e.1), if_neg hm]
    exact ev_neg (by simp) (go _ _ _ _ _ _ _ (by simp) (by simp))
end
theorem se_l0 (L O : List S75) : ∀ (d : Nat) (i : Int) (l : List S75), 0 ≤ i → i + d = 12 → l.length ≤ 1000 → Ev (fun k => beaconlaw22_SizeExact.l0 k l i L O) true := by
  have done : ∀ i l, Ev (fun k => beaconlaw22_SizeExact.j2 k l i false L O) true := fun i l => by
    refine Ev.step (fun k => by rw [beaconlaw22_SizeExact.j2]) ?_
    refine ev_neg (by simp) ?_
    exact Ev.bind (f := fun _ t => some t) wakes_ev (ev_cst rfl)
  intro d
  induction d with
  | zero =>
    intro i l h0 hd hm
    refine Ev.step (fun k => by rw [beaconlaw22_SizeExact.l0]) ?_
    rw [decide_eq_false (show ¬ i < 12 by omega)]
    exact ev_ite (fun _ => done _ _) (fun _ => done _ _)
  | succ d ih =>
    intro i l h0 hd hm
    refine Ev.step (fun k => by rw [beaconlaw22_SizeExact.l0]) ?_
    by_cases hi : i < O.length
    · refine ev_pos hi ?_
      rw [decide_eq_true (show i < 12 by omega)]
      refine Ev.step (fun k => by rw [beaconlaw22_SizeExact.j2]) ?_
      refine ev_pos rfl (ev_pos h0 (ev_pos hi ?_))
      have go := fun a b c => j3_ev L O l i ⟨h0, by omega⟩ hm (fun l' hl' => ih (i + 1) l' (by omega) (by omega) hl') a b c
      obtain ⟨r, hr, _, _⟩ := within_f (rd_T75 O i).f0 5 (by decide)
      exact ev_ite (fun _ => ev_bindc hr (go _ _ _)) (fun _ => go _ _ _)
    · exact ev_neg hi (done _ _)
end Sz
open Sz in
theorem SizeExact : beaconlaw22_SizeExact.Pure := by
  rintro ⟨L, O⟩ _
  show ∃ k, beaconlaw22_SizeExact.f k L O = some true
  refine Ev.rounds ?_
  unfold beaconlaw22_SizeExact.f
  have stop : Ev (fun k => beaconlaw22_SizeExact.j0 k true L O) true :=
    Ev.step (fun k => by rw [beaconlaw22_SizeExact.j0]) (ev_pos rfl (ev_cst rfl))
  by_cases h : (L.length : Int) > 200
  · exact ev_pos h stop
  refine ev_neg h ?_
  by_cases h2 : (O.length : Int) > 200
  · rw [decide_eq_true h2]
    exact stop
  · rw [decide_eq_false h2]
    refine Ev.step (fun k => by rw [beaconlaw22_SizeExact.j0]) ?_
    exact ev_neg (by simp) (Ev.bind (copy_ev L (by omega)) (se_l0 L O 12 0 L (by omega) (by omega) (by omega)))
end Go.Proofs.Ytadjhnlbpgknfaa.Pure
