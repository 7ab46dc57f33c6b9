/- What the offers' functions tell, plainly: for the laws of layer 22. -/
import Derived.Test.YtadjhnlbpgknfaaYSaySizeExact
import Derived.Test.YtadjhnlbpgknfaaPz
set_option linter.unusedSimpArgs false
set_option linter.unusedVariables false
namespace Go.Proofs.Ytadjhnlbpgknfaa.Pure
open Go.RowKit Go.Proofs.Ytadjhnlbpgknfaa.Y Go.Proofs.YtadjhnlbpgknfaaW.PrintWords Go.Proofs.YtadjhnlbpgknfaaW.PrintLast Go.Proofs.YtadjhnlbpgknfaaW.PrintMore Go.Proofs.Ytadjhnlbpgknfaa.Pz
namespace Sz
theorem mx_max (a b : Int) : mx a b = max a b := by
  unfold mx
  split <;> omega
theorem mn_min (a b : Int) : mn a b = min a b := by
  unfold mn
  split <;> omega
/-- One place of a row that may be. -/
def Good (l : List S75) (i : Nat) : Prop := (rd_T75 l i).f0 ≤ 4 ∧ (0 < i → (rd_T75 l ((i - 1 : Nat) : Int)).f0 < (rd_T75 l i).f0)
instance (l : List S75) (i : Nat) : Decidable (Good l i) := by unfold Good; infer_instance
def MayP (l : List S75) : Prop := 0 < l.length ∧ (rd_T75 l 0).f0 = 0 ∧ ∀ i : Nat, i < l.length → Good l i
instance (l : List S75) : Decidable (MayP l) := by unfold MayP; infer_instance
theorem may_l0 (l : List S75) (hl : l.length ≤ 1000000) (b : Bool) : ∀ (d i : Nat), i + d = l.length → (b = true ↔ ∀ q : Nat, i ≤ q → q < l.length → Good l q) → Ev (fun k => size_May.l0 k l l (l.length : Int) (i : Int)) b := by
  intro d
  induction d with
  | zero =>
    intro i hi hb
    refine Ev.step (fun k => by rw [size_May.l0]) (ev_neg (by omega) (ev_cst ?_))
    rw [hb.2 (fun q h1 h2 => by omega)]
  | succ d ih =>
    intro i hi hb
    refine Ev.step (fun k => by rw [size_May.l0]) (ev_pos (by omega) (ev_pos (by omega) (ev_pos (by omega) ?_)))
    have e1 : wrap64 ((i : Int) + 1) = ((i + 1 : Nat) : Int) := wrap_in (by omega) (by omega)
    by_cases h4 : (rd_T75 l i).f0 > 4
    · refine ev_pos h4 (ev_cst ?_)
      cases b with
      | false => rfl
      | true =>
        have := (hb.1 rfl i (Nat.le_refl _) (by omega)).1
        omega
    refine ev_neg h4 ?_
    rw [e1]
    by_cases h0 : (i : Int) > 0
    · have e2 : wrap64 ((i : Int) - 1) = ((i - 1 : Nat) : Int) := by rw [wrap_in (by omega) (by omega)]; omega
      refine ev_pos h0 ?_
      rw [e2]
      refine ev_pos (by omega) (ev_pos (by omega) ?_)
      by_cases h5 : (rd_T75 l i).f0 ≤ (rd_T75 l ((i - 1 : Nat) : Int)).f0
      · refine ev_pos h5 (ev_cst ?_)
        cases b with
        | false => rfl
        | true =>
          have := (hb.1 rfl i (Nat.le_refl _) (by omega)).2 (by omega)
          omega
      · refine ev_neg h5 (ih (i + 1) (by omega) ?_)
        rw [hb]
        refine ⟨fun h q h1 h2 => h q (by omega) h2, fun h q h1 h2 => ?_⟩
        by_cases hq : q = i
        · subst hq
          exact ⟨by omega, fun _ => by omega⟩
        · exact h q (by omega) h2
    · refine ev_neg h0 (ih (i + 1) (by omega) ?_)
      rw [hb]
      refine ⟨fun h q h1 h2 => h q (by omega) h2, fun h q h1 h2 => ?_⟩
      by_cases hq : q = i
      · subst hq
        exact ⟨by omega, fun _ => by omega⟩
      · exact h q (by omega) h2
theorem may_ev (l : List S75) (hl : l.length ≤ 1000000) : Ev (fun k => size_May.f k l) (decide (MayP l)) := by
  unfold size_May.f
  by_cases h : (l.length : Int) = 0
  · refine ev_pos h (Ev.step (fun k => by rw [size_May.j0]) (ev_pos rfl (ev_cst ?_)))
    rw [decide_eq_false (fun hm => by have := hm.1; omega)]
  refine ev_neg h (ev_pos (by omega) ?_)
  by_cases h0 : (rd_T75 l 0).f0 = 0
  · refine Ev.step (fun k => by rw [size_May.j0]) ?_
    refine ev_neg (by simpa using h0) (may_l0 l hl _ l.length 0 (by omega) ?_)
    rw [decide_eq_true_eq]
    exact ⟨fun hm q _ h2 => hm.2.2 q h2, fun hm => ⟨by omega, h0, fun q h2 => hm q (Nat.zero_le _) h2⟩⟩
  · refine Ev.step (fun k => by rw [size_May.j0]) (ev_pos (by simpa using h0) (ev_cst ?_))
    rw [decide_eq_false (fun hm => h0 hm.2.1)]
theorem may_mono {l : List S75} (h : MayP l) : ∀ (d i : Nat), i + d + 1 < l.length → (rd_T75 l i).f0 < (rd_T75 l ((i + d + 1 : Nat) : Int)).f0 := by
  intro d
  induction d with
  | zero =>
    intro i hi
    have := (h.2.2 (i + 0 + 1) hi).2 (by omega)
    simpa using this
  | succ d ih =>
    intro i hi
    have h1 := ih i (by omega)
    have h2 := (h.2.2 (i + (d + 1) + 1) hi).2 (by omega)
    rw [show i + (d + 1) + 1 - 1 = i + d + 1 by omega] at h2
    omega
theorem may_lt {l : List S75} (h : MayP l) {i j : Nat} (hij : i < j) (hj : j < l.length) : (rd_T75 l i).f0 < (rd_T75 l j).f0 := by
  have := may_mono h (j - i - 1) i (by omega)
  rwa [show i + (j - i - 1) + 1 = j by omega] at this
theorem may_ge {l : List S75} (h : MayP l) : ∀ (i : Nat), i < l.length → (i : Int) ≤ (rd_T75 l i).f0 := by
  intro i
  induction i with
  | zero => intro _; have := h.2.1; simp at this ⊢; omega
  | succ i ih =>
    intro hi
    have h1 := ih (by omega)
    have h2 := may_lt h (show i < i + 1 by omega) hi
    omega
theorem may_len {l : List S75} (h : MayP l) : l.length ≤ 5 := by
  have h0 := h.1
  have h1 := may_ge h (l.length - 1) (by omega)
  have h2 := (h.2.2 (l.length - 1) (by omega)).1
  omega
theorem may_asc {l : List S75} (h : MayP l) : ascB l = true := by
  have hl := may_len h
  simp only [ascB, Bool.and_eq_true, decide_eq_true_eq, List.all_eq_true]
  refine ⟨by omega, fun x hx => ?_, ?_⟩
  · obtain ⟨i, hi, rfl⟩ := List.mem_iff_getElem.1 hx
    rw [← rd75_at hi]
    have h1 := may_ge h i hi
    have h2 := (h.2.2 i hi).1
    omega
  · rw [List.pairwise_iff_getElem]
    intro i j hi hj hij
    have := may_lt h hij hj
    rwa [rd75_at hi, rd75_at hj] at this
theorem may_of_asc {l : List S75} (h0 : 0 < l.length) (hh : (rd_T75 l 0).f0 = 0) (h4 : ∀ x ∈ l, x.f0 ≤ 4) (hp : l.Pairwise (fun a b => a.f0 < b.f0)) : MayP l := by
  refine ⟨h0, hh, fun i hi => ⟨?_, fun hi0 => ?_⟩⟩
  · rw [rd75_at hi]
    exact h4 _ (List.getElem_mem _)
  · rw [rd75_at hi, rd75_at (by omega)]
    exact List.pairwise_iff_getElem.1 hp (i - 1) i (by omega) hi (by omega)
theorem may_pair {l : List S75} (h : MayP l) : l.Pairwise (fun a b => a.f0 < b.f0) := by
  have := may_asc h
  simp only [ascB, Bool.and_eq_true, decide_eq_true_eq] at this
  exact this.2.2
theorem may_four {l : List S75} (h : MayP l) : ∀ x ∈ l, 0 ≤ x.f0 ∧ x.f0 ≤ 4 := by
  have := may_asc h
  simp only [ascB, Bool.and_eq_true, decide_eq_true_eq, List.all_eq_true] at this
  exact this.2.1
theorem head75 {l : List S75} (h : 0 < l.length) : ∃ y t, l = y :: t ∧ rd_T75 l 0 = y := by
  cases l with
  | nil => simp at h
  | cons y t => exact ⟨y, t, rfl, rfl⟩
theorem set_ev (l : List S75) (a b c : Int) (hl : l.length ≤ 1000000) : Ev (fun k => size_Set.f k l a b c) (if MayP l ∧ 0 ≤ a ∧ a ≤ 4 then (setL l ⟨a, b, c⟩, 0) else ([], 1)) := by
  unfold size_Set.f
  refine Ev.bind (f := fun _ _ => _) (may_ev l hl) (ev_cst ?_)
  by_cases h : MayP l ∧ 0 ≤ a ∧ a ≤ 4
  · rw [if_pos h, if_pos ⟨decide_eq_true h.1, h.2⟩, if_pos (may_asc h.1)]
  · rw [if_neg h, if_neg (fun e => h ⟨of_decide_eq_true e.1, e.2⟩)]
theorem drop_ev (l : List S75) (who : Int) (hl : l.length ≤ 1000000) : Ev (fun k => size_Drop.f k l who) (if MayP l ∧ 1 ≤ who ∧ who ≤ 4 then (l.filter (fun x => !(x.f0 == who)), 0) else ([], 1)) := by
  unfold size_Drop.f
  refine Ev.bind (f := fun _ _ => _) (may_ev l hl) (ev_cst ?_)
  by_cases h : MayP l ∧ 1 ≤ who ∧ who ≤ 4
  · have := may_len h.1
    rw [if_pos h, if_pos ⟨decide_eq_true h.1, h.2⟩, if_pos (by omega)]
  · rw [if_neg h, if_neg (fun e => h ⟨of_decide_eq_true e.1, e.2⟩)]
def mins (f : S75 → Int) (m : Int) (l : List S75) : Int := l.foldl (fun m y => min m (f y)) m
theorem mins_min (f : S75 → Int) : ∀ (l : List S75) (a b : Int), mins f (min a b) l = min a (mins f b l)
  | [], _, _ => rfl
  | y :: l, a, b => by
    show mins f (min (min a b) (f y)) l = min a (mins f (min b (f y)) l)
    rw [← mins_min f l a (min b (f y))]
    congr 1
    omega
theorem mins_le (f : S75 → Int) (l : List S75) (a : Int) : mins f a l ≤ a := by
  have := mins_min f l a a
  rw [Int.min_self] at this
  rw [this]
  omega
theorem mins_append (f : S75 → Int) (l t : List S75) (a : Int) : mins f a (l ++ t) = mins f (mins f a l) t := by simp [mins]
theorem mins_insert (f : S75 → Int) (l t : List S75) (x : S75) (a : Int) : mins f a (l ++ [x] ++ t) = min (f x) (mins f a (l ++ t)) := by
  rw [mins_append, mins_append, mins_append]
  show mins f (min (mins f a l) (f x)) t = _
  rw [Int.min_comm, mins_min]
theorem least_l0 (l : List S75) (hl : l.length ≤ 1000000) : ∀ (d i : Nat) (a b : Int), i + d = l.length → Ev (fun k => size_Least.l0 k a b l (l.length : Int) (i : Int)) (max 1 (mins (·.f1) a (l.drop i)), max 1 (mins (·.f2) b (l.drop i)), 0) := by
  intro d
  induction d with
  | zero =>
    intro i a b hi
    refine Ev.step (fun k => by rw [size_Least.l0]) (ev_neg (by omega) (ev_cst ?_))
    rw [List.drop_of_length_le (by omega), mx_max, mx_max]
    rfl
  | succ d ih =>
    intro i a b hi
    have h : i < l.length := by omega
    refine Ev.step (fun k => by rw [size_Least.l0]) (ev_pos (by omega) (ev_pos (by omega) (ev_pos (by omega) ?_)))
    rw [wrap_in (x := (i : Int) + 1) (by omega) (by omega), mn_min, mn_min, rd75_at h, List.drop_eq_getElem_cons h]
    exact ih (i + 1) _ _ (by omega)
def rows (l : List S75) : Int := mins (·.f1) 40 l
def cols (l : List S75) : Int := mins (·.f2) 40 l
theorem least_ev (l : List S75) (hl : l.length ≤ 1000000) : Ev (fun k => size_Least.f k l) (if MayP l then (max 1 (rows l), max 1 (cols l), 0) else (0, 0, 1)) := by
  unfold size_Least.f
  refine Ev.bind (may_ev l hl) ?_
  by_cases h : MayP l
  · rw [if_pos h]
    exact ev_pos (decide_eq_true h) (least_l0 l hl l.length 0 40 40 (by omega))
  · rw [if_neg h]
    exact ev_neg (by simpa using h) (ev_cst rfl)
theorem num_f (a : Int) : beaconlaw22_num.f a = some a := rfl
theorem between_f (a b c : Int) : beaconref0_Between.f a b c = some (decide (b ≤ a ∧ a ≤ c)) := by
  unfold beaconref0_Between.f
  split <;> simp <;> omega
theorem wakes_ev : Ev (fun k => beaconlaw22_wakes.f k) true := by
  unfold beaconlaw22_wakes.f
  have h1 := set_ev [⟨0, 10, 20⟩] 2 15 5 (by decide)
  rw [if_pos (by decide +kernel)] at h1
  have h2 := least_ev (setL [⟨0, 10, 20⟩] ⟨2, 15, 5⟩) (by decide +kernel)
  rw [if_pos (by decide +kernel)] at h2
  refine Ev.bind h1 (Ev.bind h2 (ev_bindc (num_f _) (ev_pos rfl (ev_bindc (num_f _) (ev_pos rfl (ev_pos (by decide +kernel) (ev_cst ?_)))))))
  decide +kernel
theorem within_f (a b : Int) (hb : 0 < b ∧ b ≤ 1000) : ∃ r, beaconlaw0_Within.f a b = some r ∧ 0 ≤ r ∧ r < b := by
  unfold beaconlaw0_Within.f
  have h1 : IntKind.u64.wrap b = b := by rw [IntKind.wrap_u64]; omega
  have h2 : 0 ≤ IntKind.u64.wrap a := by rw [IntKind.wrap_u64]; omega
  rw [h1, if_neg (by omega), Int.tmod_eq_emod_of_nonneg h2]
  have h3 := Int.emod_nonneg (IntKind.u64.wrap a) (show b ≠ 0 by omega)
  have h4 := Int.emod_lt_of_pos (IntKind.u64.wrap a) hb.1
  exact ⟨_, rfl, by rw [wrap_in (by omega) (by omega)]; omega, by rw [wrap_in (by omega) (by omega)]; omega⟩
end Sz
end Go.Proofs.Ytadjhnlbpgknfaa.Pure
