/- SizeLeast, the plain side: whoever comes makes nothing larger; whoever goes nothing smaller. -/
import Derived.Test.YtadjhnlbpgknfaaSizeFactsZ
set_option linter.unusedSimpArgs false
set_option linter.unusedVariables false
namespace Go.Proofs.Ytadjhnlbpgknfaa.Pure
open Go.RowKit Go.Proofs.Ytadjhnlbpgknfaa.Z Go.Proofs.YtadjhnlbpgknfaaW.PrintWords Go.Proofs.YtadjhnlbpgknfaaW.PrintLast Go.Proofs.YtadjhnlbpgknfaaW.PrintMore Go.Proofs.Ytadjhnlbpgknfaa.Pz
namespace Sz
theorem may_filter {l : List S75} (h : MayP l) {who : Int} (hw : 1 ≤ who) : MayP (l.filter (fun x => !(x.f0 == who))) := by
  obtain ⟨y, t, rfl, hy⟩ := head75 h.1
  have h0 : y.f0 = 0 := by have := h.2.1; rwa [hy] at this
  have e : (y :: t).filter (fun x => !(x.f0 == who)) = y :: t.filter (fun x => !(x.f0 == who)) := by
    rw [List.filter_cons_of_pos]
    simp
    omega
  refine may_of_asc (by rw [e]; simp) (by rw [e]; exact h0) (fun x hx => (may_four h x (List.mem_filter.1 hx).1).2) ?_
  exact (may_pair h).filter _
theorem setL_new {l : List S75} {x : S75} (hn : ∀ y ∈ l, y.f0 ≠ x.f0) : setL l x = l.take (placeOf l x.f0) ++ [x] ++ l.drop (placeOf l x.f0) := by
  unfold setL
  rw [if_neg]
  rintro ⟨h1, h2⟩
  rw [rd75_at h1] at h2
  exact hn _ (List.getElem_mem _) h2
theorem place_le (l : List S75) (who : Int) : placeOf l who ≤ l.length := List.findIdx_le_length
theorem may_insert {l : List S75} (h : MayP l) {x : S75} (hn : ∀ y ∈ l, y.f0 ≠ x.f0) (hx : 1 ≤ x.f0 ∧ x.f0 ≤ 4) : MayP (l.take (placeOf l x.f0) ++ [x] ++ l.drop (placeOf l x.f0)) := by
  obtain ⟨p, hp⟩ : ∃ p, p = placeOf l x.f0 := ⟨_, rfl⟩
  have hple : p ≤ l.length := by rw [hp]; exact place_le _ _
  have hlt : ∀ y ∈ l.take p, y.f0 < x.f0 := fun y hy => by
    obtain ⟨i, hi, rfl⟩ := List.mem_iff_getElem.1 hy
    rw [List.length_take] at hi
    have := List.not_of_lt_findIdx (p := fun y : S75 => decide (x.f0 ≤ y.f0)) (xs := l) (i := i) (show i < l.findIdx _ by have := hp; unfold placeOf at this; omega)
    rw [List.getElem_take]
    simp at this
    exact this
  have hge : ∀ y ∈ l.drop p, x.f0 < y.f0 := fun y hy => by
    obtain ⟨i, hi, rfl⟩ := List.mem_iff_getElem.1 hy
    rw [List.length_drop] at hi
    rw [List.getElem_drop]
    have hpl : p < l.length := by omega
    have h1 : x.f0 ≤ (l[p]).f0 := by
      have := List.findIdx_getElem (p := fun y : S75 => decide (x.f0 ≤ y.f0)) (xs := l) (w := show l.findIdx _ < l.length by have := hp; unfold placeOf at this; omega)
      have hp' : l.findIdx (fun y => decide (x.f0 ≤ y.f0)) = p := hp.symm
      simp only [hp'] at this
      simpa using this
    have h2 := hn _ (List.getElem_mem (l := l) (n := p + i) (by omega))
    by_cases hi0 : i = 0
    · subst hi0
      have h2 := hn _ (List.getElem_mem (l := l) (n := p) hpl)
      simp only [Nat.add_zero]
      omega
    · have := List.pairwise_iff_getElem.1 (may_pair h) p (p + i) hpl (by omega) (by omega)
      omega
  rw [← hp]
  obtain ⟨y, t, rfl, hy⟩ := head75 h.1
  have h0 : y.f0 = 0 := by have := h.2.1; rwa [hy] at this
  have hp0 : 0 < p := by
    rcases Nat.eq_zero_or_pos p with hz | hz
    · subst hz
      have := hge y (by simp)
      omega
    · exact hz
  obtain ⟨q, rfl⟩ : ∃ q, p = q + 1 := ⟨p - 1, by omega⟩
  refine may_of_asc (by simp) (by simpa [rd_T75] using h0) (fun z hz => ?_) ?_
  · simp only [List.mem_append, List.mem_singleton] at hz
    rcases hz with (hz | rfl) | hz
    · exact (may_four h z (List.mem_of_mem_take hz)).2
    · exact hx.2
    · exact (may_four h z (List.mem_of_mem_drop hz)).2
  · rw [List.pairwise_append, List.pairwise_append]
    refine ⟨⟨(may_pair h).sublist (List.take_sublist _ _), List.pairwise_singleton _ _, fun a ha b hb => ?_⟩, (may_pair h).sublist (List.drop_sublist _ _), fun a ha b hb => ?_⟩
    · obtain rfl := List.mem_singleton.1 hb
      exact hlt a ha
    · rcases List.mem_append.1 ha with ha | ha
      · have h1 := hlt a ha
        have h2 := hge b hb
        omega
      · obtain rfl := List.mem_singleton.1 ha
        exact hge b hb
theorem sl_l0 (L O : List S75) : ∀ (d : Nat) (i : Int) (l : List S75), 0 ≤ i → i + d = 12 → MayP l → Ev (fun k => beaconlaw22_SizeLeast.l0 k l i L O) true := by
  have done : ∀ i l, Ev (fun k => beaconlaw22_SizeLeast.j1 k l i false L O) true := fun i l => by
    refine Ev.step (fun k => by rw [beaconlaw22_SizeLeast.j1]) ?_
    refine ev_neg (by simp) ?_
    exact Ev.bind (f := fun _ t => some t) wakes_ev (ev_cst rfl)
  intro d
  induction d with
  | zero =>
    intro i l h0 hd hm
    refine Ev.step (fun k => by rw [beaconlaw22_SizeLeast.l0]) ?_
    rw [decide_eq_false (show ¬ i < 12 by omega)]
    exact ev_ite (fun _ => done _ _) (fun _ => done _ _)
  | succ d ih =>
    intro i l h0 hd hm
    refine Ev.step (fun k => by rw [beaconlaw22_SizeLeast.l0]) ?_
    by_cases hi : i < O.length
    · refine ev_pos hi ?_
      rw [decide_eq_true (show i < 12 by omega)]
      obtain ⟨r, hr, hr0, hr4⟩ := within_f (rd_T75 O i).f0 4 (by decide)
      obtain ⟨o, ho⟩ : ∃ o, o = rd_T75 O i := ⟨_, rfl⟩
      rw [← ho] at hr
      have e1 : wrap64 (1 + r) = 1 + r := wrap_in (by omega) (by omega)
      have hlen := may_len hm
      obtain ⟨rest, hrest⟩ : ∃ rest, rest = l.filter (fun x => !(x.f0 == 1 + r)) := ⟨_, rfl⟩
      have hmr : MayP rest := by rw [hrest]; exact may_filter hm (by omega)
      have hlr := may_len hmr
      have hnr : ∀ y ∈ rest, y.f0 ≠ (⟨1 + r, o.f1, o.f2⟩ : S75).f0 := fun y hy => by
        rw [hrest, List.mem_filter] at hy
        simpa using hy.2
      have hD := drop_ev l (1 + r) (by omega)
      rw [if_pos ⟨hm, by omega, by omega⟩, ← hrest] at hD
      have hL1 := least_ev rest (by omega)
      rw [if_pos hmr] at hL1
      have hS := set_ev rest (1 + r) o.f1 o.f2 (by omega)
      rw [if_pos ⟨hmr, by omega, by omega⟩, setL_new hnr] at hS
      obtain ⟨x, hx⟩ : ∃ x, x = rest.take (placeOf rest (1 + r)) ++ [(⟨1 + r, o.f1, o.f2⟩ : S75)] ++ rest.drop (placeOf rest (1 + r)) := ⟨_, rfl⟩
      have hmx : MayP x := by rw [hx]; exact may_insert hmr hnr ⟨by simp only; omega, by simp only; omega⟩
      have hlx := may_len hmx
      have hrows : rows x = min o.f1 (rows rest) := by
        rw [hx, rows, mins_insert, List.take_append_drop]
        rfl
      have hcols : cols x = min o.f2 (cols rest) := by
        rw [hx, cols, mins_insert, List.take_append_drop]
        rfl
      rw [← hx] at hS
      have hL2 := least_ev x (by omega)
      rw [if_pos hmx] at hL2
      have hr40 : rows rest ≤ 40 := mins_le _ _ _
      have hc40 : cols rest ≤ 40 := mins_le _ _ _
      refine Ev.step (fun k => by rw [beaconlaw22_SizeLeast.j1]) (ev_pos rfl (ev_pos h0 (ev_pos hi ?_)))
      rw [← ho]
      refine ev_bindc hr ?_
      rw [e1]
      refine Ev.bind hD (Ev.bind hL1 (Ev.bind hS (Ev.bind hL2 (ev_bindc (num_f _) (ev_bindc (num_f _) (ev_bindc (num_f _) (ev_bindc (num_f _) ?_)))))))
      refine ev_pos (show wrap64 (wrap64 (wrap64 ((0 : Int) + 0) + 0) + 0) = 0 by decide +kernel) (ev_neg (by simp only; omega) (ev_neg (by simp only; omega) (ev_bindc (between_f _ _ _) (ev_pos (by simp only [decide_eq_true_eq]; omega) (ev_bindc (between_f _ _ _) (ev_pos (by simp only [decide_eq_true_eq]; omega) ?_))))))
      rw [mx_max, mx_max, wrap_in (x := i + 1) (by omega) (by omega)]
      exact ev_neg (by simp only; omega) (ev_neg (by simp only; omega) (ih (i + 1) x (by omega) (by omega) hmx))
    · exact ev_neg hi (done _ _)
end Sz
open Sz in
theorem SizeLeast : beaconlaw22_SizeLeast.Pure := by
  rintro ⟨L, O⟩ _
  show ∃ k, beaconlaw22_SizeLeast.f k L O = some true
  refine Ev.rounds ?_
  unfold beaconlaw22_SizeLeast.f
  by_cases h : (O.length : Int) > 200
  · exact ev_pos h (ev_cst rfl)
  · exact ev_neg h (sl_l0 L O 12 0 _ (by omega) (by omega) (by decide +kernel))
end Go.Proofs.Ytadjhnlbpgknfaa.Pure
