/- KeyTexts, the plain side: keys' text is the page's, which keys a text is too, and each undoes the other. -/
import Derived.Test.YtadjhnlbpgknfaaPSayKeyTexts
import Derived.Test.YtadjhnlbpgknfaaPz
set_option linter.unusedSimpArgs false
set_option linter.unusedVariables false
namespace Go.Proofs.Ytadjhnlbpgknfaa.Pure
open Go.RowKit Go.Proofs.Ytadjhnlbpgknfaa.P Go.Proofs.YtadjhnlbpgknfaaW.PrintWords Go.Proofs.YtadjhnlbpgknfaaW.PrintLast Go.Proofs.YtadjhnlbpgknfaaW.PrintMore Go.Proofs.Ytadjhnlbpgknfaa.Pz
namespace Ky

/-- May the key be? -/
def may (x : S130) : Bool :=
  decide (0 ≤ x.f2 ∧ x.f2 ≤ 7) && (if x.f0 = 1 then decide (32 ≤ x.f1 ∧ x.f1 ≤ 1114111 ∧ x.f1 ≠ 127 ∧ ¬ (55296 ≤ x.f1 ∧ x.f1 ≤ 57343))
    else if x.f0 = 12 then decide (x.f1 = 1 ∨ x.f1 = 2) else decide (2 ≤ x.f0 ∧ x.f0 ≤ 11 ∧ x.f1 = 0))
theorem may_iff (x : S130) : may x = true ↔ (0 ≤ x.f2 ∧ x.f2 ≤ 7) ∧ ((x.f0 = 1 ∧ 32 ≤ x.f1 ∧ x.f1 ≤ 1114111 ∧ x.f1 ≠ 127 ∧ ¬ (55296 ≤ x.f1 ∧ x.f1 ≤ 57343)) ∨ (x.f0 = 12 ∧ (x.f1 = 1 ∨ x.f1 = 2)) ∨ (x.f0 ≠ 1 ∧ x.f0 ≠ 12 ∧ 2 ≤ x.f0 ∧ x.f0 ≤ 11 ∧ x.f1 = 0)) := by
  unfold may
  rw [Bool.and_eq_true, decide_eq_true_eq]
  split
  · rw [decide_eq_true_eq]
    omega
  · split
    · rw [decide_eq_true_eq]
      omega
    · rw [decide_eq_true_eq]
      omega
theorem valid_ev (x : Int) (h0 : 0 ≤ x) (h1 : x ≤ 1114111) : Ev (fun k => utf8_ValidRune.f k x) (decide (¬ (55296 ≤ x ∧ x ≤ 57343))) := by
  unfold utf8_ValidRune.f
  refine ev_pos h0 ?_
  refine Ev.step (fun k => by rw [utf8_ValidRune.j0]) ?_
  by_cases h : x < 55296
  · exact ev_pos (by simpa using h) (ev_cst (by simp; omega))
  · refine ev_neg (by simpa using h) ?_
    by_cases h2 : 57343 < x
    · exact ev_pos h2 (ev_pos h1 (ev_cst (by simp; omega)))
    · exact ev_neg h2 (ev_cst (by simp; omega))
theorem wrap32_in {x : Int} (h0 : 0 ≤ x) (h1 : x ≤ 1114111) : wrap32 x = x := by unfold wrap32; omega
theorem may_j0 (a b c : Int) (z : Bool) (hz : z = decide (¬ (0 ≤ c ∧ c ≤ 7))) : Ev (fun k => key_May.j0 k z a b c) (may ⟨a, b, c⟩) := by
  subst hz
  refine Ev.step (fun k => by rw [key_May.j0]) ?_
  by_cases hc : 0 ≤ c ∧ c ≤ 7
  · refine ev_neg (by simpa using hc) ?_
    by_cases h1 : a = 1
    · refine ev_pos h1 ?_
      by_cases h2 : b ≥ 32
      · refine ev_pos h2 ?_
        by_cases h3 : b = 127
        · exact ev_pos h3 (ev_cst (by (refine congrArg some (Bool.eq_iff_iff.2 ?_); rw [may_iff]; (try dsimp only); (try simp only [decide_eq_true_eq, beq_iff_eq, Bool.not_eq_true', decide_eq_false_iff_not]); all_goals (constructor <;> intro h_ <;> first | omega | trivial | rfl | (cases h_; done) | (simp only [true_and, and_true]; omega)))))
        · refine ev_neg h3 ?_
          by_cases h4 : b ≤ 1114111
          · refine ev_pos h4 ?_
            rw [wrap32_in (by omega) h4]
            exact Ev.bind (f := fun k t => some t) (valid_ev b (by omega) h4) (ev_cst (by (refine congrArg some (Bool.eq_iff_iff.2 ?_); rw [may_iff]; (try dsimp only); (try simp only [decide_eq_true_eq, beq_iff_eq, Bool.not_eq_true', decide_eq_false_iff_not]); all_goals (constructor <;> intro h_ <;> first | omega | trivial | rfl | (cases h_; done) | (simp only [true_and, and_true]; omega)))))
          · exact ev_neg h4 (ev_cst (by (refine congrArg some (Bool.eq_iff_iff.2 ?_); rw [may_iff]; (try dsimp only); (try simp only [decide_eq_true_eq, beq_iff_eq, Bool.not_eq_true', decide_eq_false_iff_not]); all_goals (constructor <;> intro h_ <;> first | omega | trivial | rfl | (cases h_; done) | (simp only [true_and, and_true]; omega)))))
      · exact ev_neg h2 (ev_cst (by (refine congrArg some (Bool.eq_iff_iff.2 ?_); rw [may_iff]; (try dsimp only); (try simp only [decide_eq_true_eq, beq_iff_eq, Bool.not_eq_true', decide_eq_false_iff_not]); all_goals (constructor <;> intro h_ <;> first | omega | trivial | rfl | (cases h_; done) | (simp only [true_and, and_true]; omega)))))
    · refine ev_neg h1 ?_
      by_cases h2 : a = 12
      · refine ev_pos h2 ?_
        by_cases h3 : b = 1
        · exact ev_pos h3 (ev_cst (by (refine congrArg some (Bool.eq_iff_iff.2 ?_); rw [may_iff]; (try dsimp only); (try simp only [decide_eq_true_eq, beq_iff_eq, Bool.not_eq_true', decide_eq_false_iff_not]); all_goals (constructor <;> intro h_ <;> first | omega | trivial | rfl | (cases h_; done) | (simp only [true_and, and_true]; omega)))))
        · exact ev_neg h3 (ev_cst (by (refine congrArg some (Bool.eq_iff_iff.2 ?_); rw [may_iff]; (try dsimp only); (try simp only [decide_eq_true_eq, beq_iff_eq, Bool.not_eq_true', decide_eq_false_iff_not]); all_goals (constructor <;> intro h_ <;> first | omega | trivial | rfl | (cases h_; done) | (simp only [true_and, and_true]; omega)))))
      · refine ev_neg h2 ?_
        by_cases h3 : a > 1
        · refine ev_pos h3 ?_
          by_cases h4 : a < 12
          · exact ev_pos h4 (ev_cst (by (refine congrArg some (Bool.eq_iff_iff.2 ?_); rw [may_iff]; (try dsimp only); (try simp only [decide_eq_true_eq, beq_iff_eq, Bool.not_eq_true', decide_eq_false_iff_not]); all_goals (constructor <;> intro h_ <;> first | omega | trivial | rfl | (cases h_; done) | (simp only [true_and, and_true]; omega)))))
          · exact ev_neg h4 (ev_cst (by (refine congrArg some (Bool.eq_iff_iff.2 ?_); rw [may_iff]; (try dsimp only); (try simp only [decide_eq_true_eq, beq_iff_eq, Bool.not_eq_true', decide_eq_false_iff_not]); all_goals (constructor <;> intro h_ <;> first | omega | trivial | rfl | (cases h_; done) | (simp only [true_and, and_true]; omega)))))
        · exact ev_neg h3 (ev_cst (by (refine congrArg some (Bool.eq_iff_iff.2 ?_); rw [may_iff]; (try dsimp only); (try simp only [decide_eq_true_eq, beq_iff_eq, Bool.not_eq_true', decide_eq_false_iff_not]); all_goals (constructor <;> intro h_ <;> first | omega | trivial | rfl | (cases h_; done) | (simp only [true_and, and_true]; omega)))))
  · exact ev_pos (decide_eq_true hc) (ev_cst (by (refine congrArg some (Bool.eq_iff_iff.2 ?_); rw [may_iff]; (try dsimp only); (try simp only [decide_eq_true_eq, beq_iff_eq, Bool.not_eq_true', decide_eq_false_iff_not]); all_goals (constructor <;> intro h_ <;> first | omega | trivial | rfl | (cases h_; done) | (simp only [true_and, and_true]; omega)))))
theorem may_ev (x : S130) : Ev (fun k => key_May.f k x.f0 x.f1 x.f2) (may x) := by
  unfold key_May.f
  by_cases h : x.f2 < 0
  · exact ev_pos h (may_j0 _ _ _ _ (by simp; omega))
  · exact ev_neg h (may_j0 _ _ _ _ (by simp; omega))
theorem num_f (a b : Int) : beaconref0_Num.f a b = some (decide (0 ≤ a ∧ a ≤ b)) := by
  unfold beaconref0_Num.f
  split <;> simp <;> omega
theorem between_f (a b c : Int) : beaconref0_Between.f a b c = some (decide (b ≤ a ∧ a ≤ c)) := by
  unfold beaconref0_Between.f
  split <;> simp <;> omega
theorem key_f (x : S130) : beaconref15_Key.f x.f0 x.f1 x.f2 = some (may x) := by
  unfold beaconref15_Key.f
  simp only [num_f, between_f, Option.bind_some, decide_eq_true_eq]
  by_cases hc : 0 ≤ x.f2 ∧ x.f2 ≤ 7
  · rw [if_pos hc]
    by_cases h1 : x.f0 = 1
    · rw [if_pos h1]
      by_cases h2 : 32 ≤ x.f1 ∧ x.f1 ≤ 1114111
      · rw [if_pos h2]
        by_cases h3 : x.f1 = 127
        · rw [if_pos h3]
          (refine congrArg some (Bool.eq_iff_iff.2 ?_); rw [may_iff]; (try dsimp only); (try simp only [decide_eq_true_eq, beq_iff_eq, Bool.not_eq_true', decide_eq_false_iff_not]); all_goals (constructor <;> intro h_ <;> first | omega | trivial | rfl | (cases h_; done) | (simp only [true_and, and_true]; omega)))
        · rw [if_neg h3]
          (refine congrArg some (Bool.eq_iff_iff.2 ?_); rw [may_iff]; (try dsimp only); (try simp only [decide_eq_true_eq, beq_iff_eq, Bool.not_eq_true', decide_eq_false_iff_not]); all_goals (constructor <;> intro h_ <;> first | omega | trivial | rfl | (cases h_; done) | (simp only [true_and, and_true]; omega)))
      · rw [if_neg h2]
        (refine congrArg some (Bool.eq_iff_iff.2 ?_); rw [may_iff]; (try dsimp only); (try simp only [decide_eq_true_eq, beq_iff_eq, Bool.not_eq_true', decide_eq_false_iff_not]); all_goals (constructor <;> intro h_ <;> first | omega | trivial | rfl | (cases h_; done) | (simp only [true_and, and_true]; omega)))
    · rw [if_neg h1]
      by_cases h2 : x.f0 = 12
      · rw [if_pos h2]
        (refine congrArg some (Bool.eq_iff_iff.2 ?_); rw [may_iff]; (try dsimp only); (try simp only [decide_eq_true_eq, beq_iff_eq, Bool.not_eq_true', decide_eq_false_iff_not]); all_goals (constructor <;> intro h_ <;> first | omega | trivial | rfl | (cases h_; done) | (simp only [true_and, and_true]; omega)))
      · rw [if_neg h2]
        by_cases h3 : 2 ≤ x.f0 ∧ x.f0 ≤ 11
        · rw [if_pos h3]
          (refine congrArg some (Bool.eq_iff_iff.2 ?_); rw [may_iff]; (try dsimp only); (try simp only [decide_eq_true_eq, beq_iff_eq, Bool.not_eq_true', decide_eq_false_iff_not]); all_goals (constructor <;> intro h_ <;> first | omega | trivial | rfl | (cases h_; done) | (simp only [true_and, and_true]; omega)))
        · rw [if_neg h3]
          (refine congrArg some (Bool.eq_iff_iff.2 ?_); rw [may_iff]; (try dsimp only); (try simp only [decide_eq_true_eq, beq_iff_eq, Bool.not_eq_true', decide_eq_false_iff_not]); all_goals (constructor <;> intro h_ <;> first | omega | trivial | rfl | (cases h_; done) | (simp only [true_and, and_true]; omega)))
  · rw [if_neg hc]
    (refine congrArg some (Bool.eq_iff_iff.2 ?_); rw [may_iff]; (try dsimp only); (try simp only [decide_eq_true_eq, beq_iff_eq, Bool.not_eq_true', decide_eq_false_iff_not]); all_goals (constructor <;> intro h_ <;> first | omega | trivial | rfl | (cases h_; done) | (simp only [true_and, and_true]; omega)))

theorem rdk {l : List S130} {i : Int} (h : i.toNat < l.length) : rd_T130 l i = l[i.toNat] := by
  unfold rd_T130
  rw [List.getD_eq_getElem?_getD, List.getElem?_eq_getElem h]
  rfl
theorem take_succ {α : Type} {l : List α} {i : Int} (h0 : 0 ≤ i) (h : i.toNat < l.length) : l.take (i + 1).toNat = l.take i.toNat ++ [l[i.toNat]] := by
  rw [show (i + 1).toNat = i.toNat + 1 by omega, List.take_succ_eq_append_getElem h]

theorem keys_l0 (l : List S130) (hl : l.length ≤ 4000) : ∀ (d : Nat) (i : Int), 0 ≤ i → i + d = l.length → Ev (fun k => beaconref15_Keys.l0 k l i) ((l.drop i.toNat).all may) := by
  intro d
  induction d with
  | zero =>
    intro i h0 h1
    refine Ev.step (fun k => by rw [beaconref15_Keys.l0]) ?_
    refine ev_neg (by omega) (ev_cst ?_)
    rw [List.drop_eq_nil_of_le (by omega)]
    rfl
  | succ d ih =>
    intro i h0 h1
    have hi : i.toNat < l.length := by omega
    have hd : l.drop i.toNat = l[i.toNat] :: l.drop (i + 1).toNat := by rw [List.drop_eq_getElem_cons hi, show (i + 1).toNat = i.toNat + 1 by omega]
    refine Ev.step (fun k => by rw [beaconref15_Keys.l0]) ?_
    refine ev_pos (by omega) (ev_pos h0 (ev_bindc (key_f _) ?_))
    rw [rdk hi, hd, List.all_cons]
    by_cases hm : may l[i.toNat] = true
    · refine ev_pos hm ?_
      rw [hm, Bool.true_and, wrap_in (x := i + 1) (by omega) (by omega)]
      exact ih (i + 1) (by omega) (by omega)
    · refine ev_neg hm (ev_cst ?_)
      simp [hm]
theorem keys_ev (l : List S130) (hl : l.length ≤ 4000) : Ev (fun k => beaconref15_Keys.f k l) (l.all may) := by
  have := keys_l0 l hl l.length 0 (by omega) (by omega)
  simpa [beaconref15_Keys.f] using this

def kenc (x : S130) : List Int := [x.f0 % 256, x.f2 % 256, x.f1 / 65536 % 256, x.f1 / 256 % 256, x.f1 % 256]
theorem kenc_len (l : List S130) : (l.flatMap kenc).length = 5 * l.length := by
  induction l with
  | nil => rfl
  | cons x l ih =>
    rw [List.flatMap_cons, List.length_append, ih]
    simp [kenc]
    omega
def textOf (l : List S130) : ByteArray × Int := if l.all may then (if l.length ≤ 200 then (strOfNums (l.flatMap kenc), 0) else (⟨#[]⟩, 2)) else (⟨#[]⟩, 1)
theorem text_l0 (l : List S130) (hl : l.length ≤ 4000) : ∀ (d : Nat) (i : Int), 0 ≤ i → i + d = l.length → (l.take i.toNat).all may = true →
    Ev (fun k => key_Text.l0 k l ((l.take (min i.toNat 201)).flatMap kenc) l (l.length : Int) i) (textOf l) := by
  intro d
  induction d with
  | zero =>
    intro i h0 h1 ha
    rw [List.take_of_length_le (by omega)] at ha
    refine Ev.step (fun k => by rw [key_Text.l0]) ?_
    refine ev_neg (by omega) ?_
    by_cases h2 : (l.length : Int) > 200
    · refine ev_pos h2 (ev_cst ?_)
      rw [textOf, if_pos ha, if_neg (by omega)]
    · refine ev_neg h2 (ev_cst ?_)
      rw [textOf, if_pos ha, if_pos (by omega), List.take_of_length_le (by omega)]
  | succ d ih =>
    intro i h0 h1 ha
    have hi : i.toNat < l.length := by omega
    refine Ev.step (fun k => by rw [key_Text.l0]) ?_
    refine ev_pos (by omega) (ev_pos h0 (ev_pos (by omega) (Ev.bind (may_ev _) ?_)))
    have hn := kenc_len (l.take (min i.toNat 201))
    rw [List.length_take] at hn
    rw [rdk hi]
    by_cases hm : may l[i.toNat] = true
    · have ha1 : (l.take (i + 1).toNat).all may = true := by
        rw [take_succ h0 hi, List.all_append, ha]
        simp [hm]
      have hgo := ih (i + 1) (by omega) (by omega) ha1
      rw [← wrap_in (x := i + 1) (by omega) (by omega)] at hgo
      refine ev_pos hm ?_
      by_cases h2 : i ≤ 200
      · refine ev_pos (by omega) (ev_bindc rfl ?_)
        refine ev_pos (by simp only [List.length_cons, List.length_nil]; omega) ?_
        rw [wrap_in (x := i + 1) (by omega) (by omega)] at hgo ⊢
        have e : (l.take (min (i + 1).toNat 201)).flatMap kenc = (l.take (min i.toNat 201)).flatMap kenc ++ kenc l[i.toNat] := by
          rw [show min (i + 1).toNat 201 = (i + 1).toNat by omega, show min i.toNat 201 = i.toNat by omega, take_succ h0 hi, List.flatMap_append]
          simp
        rw [e] at hgo
        exact hgo
      · refine ev_neg (by omega) ?_
        rw [wrap_in (x := i + 1) (by omega) (by omega)] at hgo ⊢
        rw [show min (i + 1).toNat 201 = 201 by omega] at hgo
        rw [show min i.toNat 201 = 201 by omega]
        exact hgo
    · refine ev_neg hm (ev_cst ?_)
      rw [textOf, if_neg]
      intro h
      exact hm (List.all_eq_true.1 h _ (List.getElem_mem hi))
theorem text_ev (l : List S130) (hl : l.length ≤ 4000) : Ev (fun k => key_Text.f k l) (textOf l) := by
  have := text_l0 l hl l.length 0 (by omega) (by omega) (by simp)
  simpa [key_Text.f] using this
theorem rtext_l0 (l : List S130) (hl : l.length ≤ 4000) : ∀ (d : Nat) (i : Int), 0 ≤ i → i + d = l.length →
    Ev (fun k => beaconref15_Text.l0 k l ((l.take i.toNat).flatMap kenc) i) (strOfNums (l.flatMap kenc)) := by
  intro d
  induction d with
  | zero =>
    intro i h0 h1
    refine Ev.step (fun k => by rw [beaconref15_Text.l0]) ?_
    refine ev_neg (by omega) (ev_cst ?_)
    rw [List.take_of_length_le (by omega)]
  | succ d ih =>
    intro i h0 h1
    have hi : i.toNat < l.length := by omega
    refine Ev.step (fun k => by rw [beaconref15_Text.l0]) ?_
    refine ev_pos (by omega) (ev_pos h0 (ev_bindc rfl ?_))
    have hn := kenc_len (l.take i.toNat)
    rw [List.length_take] at hn
    refine ev_pos (by simp only [List.length_cons, List.length_nil]; omega) ?_
    have hgo := ih (i + 1) (by omega) (by omega)
    rw [take_succ h0 hi, List.flatMap_append] at hgo
    rw [wrap_in (x := i + 1) (by omega) (by omega), rdk hi]
    simpa [kenc] using hgo
theorem rtext_ev (l : List S130) (hl : l.length ≤ 4000) : Ev (fun k => beaconref15_Text.f k l) (strOfNums (l.flatMap kenc)) := by
  have := rtext_l0 l hl l.length 0 (by omega) (by omega)
  simpa [beaconref15_Text.f] using this
theorem eq_l0 (l : List S130) (hl : l.length ≤ 4000) : ∀ (d : Nat) (i : Int), 0 ≤ i → i + d = l.length → Ev (fun k => beaconref0_EqKeys.l0 k l l i) true := by
  intro d
  induction d with
  | zero =>
    intro i h0 h1
    refine Ev.step (fun k => by rw [beaconref0_EqKeys.l0]) ?_
    exact ev_neg (by omega) (ev_cst rfl)
  | succ d ih =>
    intro i h0 h1
    refine Ev.step (fun k => by rw [beaconref0_EqKeys.l0]) ?_
    refine ev_pos (by omega) (ev_pos h0 (ev_pos (by omega) (ev_neg (by simp) ?_)))
    rw [wrap_in (x := i + 1) (by omega) (by omega)]
    exact ih (i + 1) (by omega) (by omega)
theorem eq_ev (l : List S130) (hl : l.length ≤ 4000) : Ev (fun k => beaconref0_EqKeys.f k l l) true := by
  unfold beaconref0_EqKeys.f
  exact ev_pos rfl (eq_l0 l hl l.length 0 (by omega) (by omega))
theorem copy_l0 (l : List S130) (hl : l.length ≤ 4000) : ∀ (d : Nat) (i : Int), 0 ≤ i → i + d = l.length → Ev (fun k => beaconref0_CopyKeys.l0 k l (l.take i.toNat) i) l := by
  intro d
  induction d with
  | zero =>
    intro i h0 h1
    refine Ev.step (fun k => by rw [beaconref0_CopyKeys.l0]) ?_
    refine ev_neg (by omega) (ev_cst ?_)
    rw [List.take_of_length_le (by omega)]
  | succ d ih =>
    intro i h0 h1
    have hi : i.toNat < l.length := by omega
    refine Ev.step (fun k => by rw [beaconref0_CopyKeys.l0]) ?_
    refine ev_pos (by omega) (ev_pos h0 (ev_pos (by rw [List.length_take]; omega) ?_))
    have hgo := ih (i + 1) (by omega) (by omega)
    rw [take_succ h0 hi] at hgo
    rw [wrap_in (x := i + 1) (by omega) (by omega), rdk hi]
    exact hgo
theorem copy_ev (l : List S130) (hl : l.length ≤ 4000) : Ev (fun k => beaconref0_CopyKeys.f k l) l := by
  have := copy_l0 l hl l.length 0 (by omega) (by omega)
  simpa [beaconref0_CopyKeys.f] using this
theorem copys_l0 (l : List ByteArray) (hl : l.length ≤ 8796093021952) : ∀ (d : Nat) (i : Int), 0 ≤ i → i + d = l.length → Ev (fun k => beaconref0_CopyStrings.l0 k l (l.take i.toNat) i) l := by
  intro d
  induction d with
  | zero =>
    intro i h0 h1
    refine Ev.step (fun k => by rw [beaconref0_CopyStrings.l0]) ?_
    refine ev_neg (by omega) (ev_cst ?_)
    rw [List.take_of_length_le (by omega)]
  | succ d ih =>
    intro i h0 h1
    have hi : i.toNat < l.length := by omega
    have er : rdOf ByteArray.empty l i = l[i.toNat] := by
      unfold rdOf
      rw [List.getD_eq_getElem?_getD, List.getElem?_eq_getElem hi]
      rfl
    refine Ev.step (fun k => by rw [beaconref0_CopyStrings.l0]) ?_
    refine ev_pos (by omega) (ev_pos h0 (ev_pos (by rw [List.length_take]; omega) ?_))
    have hgo := ih (i + 1) (by omega) (by omega)
    rw [take_succ h0 hi] at hgo
    rw [wrap_in (x := i + 1) (by omega) (by omega), er]
    exact hgo
theorem copys_ev (l : List ByteArray) (hl : l.length ≤ 8796093021952) : Ev (fun k => beaconref0_CopyStrings.f k l) l := by
  have := copys_l0 l hl l.length 0 (by omega) (by omega)
  simpa [beaconref0_CopyStrings.f] using this

/-! Which keys a text is. -/
def kdec (s : ByteArray) (i : Int) : S130 := ⟨bt s i, bt s (i + 2) * 65536 + bt s (i + 3) * 256 + bt s (i + 4), bt s (i + 1)⟩
def kdecs (s : ByteArray) (n : Nat) : List S130 := (List.range n).map fun j => kdec s (5 * j : Nat)
theorem kdecs_succ (s : ByteArray) (n : Nat) : kdecs s (n + 1) = kdecs s n ++ [kdec s (5 * n : Nat)] := by simp [kdecs, List.range_succ]
theorem kdecs_len (s : ByteArray) (n : Nat) : (kdecs s n).length = n := by simp [kdecs]
theorem orr {a b c : Int} (ha : 0 ≤ a ∧ a ≤ 255) (hb : 0 ≤ b ∧ b ≤ 255) (hc : 0 ≤ c ∧ c ≤ 255) :
    Go.bits .or .i64 (Go.bits .or .i64 (wrap64 ((wrap64 a) * 65536)) (wrap64 ((wrap64 b) * 256))) (wrap64 c) = a * 65536 + b * 256 + c := by
  rw [wrap_in (x := a) (by omega) (by omega), wrap_in (x := b) (by omega) (by omega), wrap_in (x := c) (by omega) (by omega), wrap_in (x := a * 65536) (by omega) (by omega), wrap_in (x := b * 256) (by omega) (by omega)]
  rw [bits_join .i64 63 (by decide) wraps_i64 16 (a * 65536) (b * 256) (by omega) (by omega) (by omega) (by omega) (by omega) (by omega)]
  rw [bits_join .i64 63 (by decide) wraps_i64 8 (a * 65536 + b * 256) c (by omega) (by omega) (by omega) (by omega) (by omega) (by omega)]
def okT (s : ByteArray) : Bool := decide (s.size % 5 = 0 ∧ s.size ≤ 1000) && (kdecs s (s.size / 5)).all may
theorem rtake_l0 (s : ByteArray) (n : Nat) (hs : s.size = 5 * n) (hn : n ≤ 200) : ∀ (d j : Nat), j + d = n →
    Ev (fun k => beaconref15_Take.l0 k s (kdecs s j) (5 * j : Nat)) (if (kdecs s n).all may then (kdecs s n, true) else ([], false)) := by
  intro d
  induction d with
  | zero =>
    intro j hj
    obtain rfl : j = n := by omega
    refine Ev.step (fun k => by rw [beaconref15_Take.l0]) ?_
    refine ev_neg (by omega) (Ev.bind (keys_ev _ (by rw [kdecs_len]; omega)) ?_)
    by_cases hm : (kdecs s j).all may = true
    · exact ev_pos hm (ev_cst (by rw [if_pos hm]))
    · exact ev_neg hm (ev_cst (by rw [if_neg hm]))
  | succ d ih =>
    intro j hj
    refine Ev.step (fun k => by rw [beaconref15_Take.l0]) ?_
    have hgo := ih (j + 1) (by omega)
    rw [kdecs_succ] at hgo
    rw [wrap_in (x := ((5 * j : Nat) : Int) + 1) (by omega) (by omega), wrap_in (x := ((5 * j : Nat) : Int) + 2) (by omega) (by omega), wrap_in (x := ((5 * j : Nat) : Int) + 3) (by omega) (by omega), wrap_in (x := ((5 * j : Nat) : Int) + 4) (by omega) (by omega), wrap_in (x := ((5 * j : Nat) : Int) + 5) (by omega) (by omega)]
    rw [orr (bt_range _ _) (bt_range _ _) (bt_range _ _)]
    have r0 := bt_range s (5 * j : Nat)
    have r1 := bt_range s (((5 * j : Nat) : Int) + 1)
    rw [wrap_in (x := bt s (5 * j : Nat)) (by omega) (by omega), wrap_in (x := bt s (((5 * j : Nat) : Int) + 1)) (by omega) (by omega)]
    refine ev_pos (by omega) (ev_pos (by omega) (ev_pos (by omega) (ev_pos (by omega) (ev_pos (by omega) (ev_pos (by omega) (ev_pos (by omega) (ev_pos (by omega) (ev_pos (by omega) (ev_pos (by omega) (ev_pos (by rw [kdecs_len]; omega) ?_))))))))))
    rw [show ((5 * (j + 1) : Nat) : Int) = ((5 * j : Nat) : Int) + 5 by omega] at hgo
    exact hgo
theorem rtake_ev (s : ByteArray) : Ev (fun k => beaconref15_Take.f k s) (if okT s then (kdecs s (s.size / 5), true) else ([], false)) := by
  unfold beaconref15_Take.f
  by_cases h5 : s.size % 5 = 0
  · refine ev_pos (by omega) ?_
    refine Ev.step (fun k => by rw [beaconref15_Take.j0]) ?_
    by_cases h1 : s.size ≤ 1000
    · refine ev_neg (by simp; omega) ?_
      have := rtake_l0 s (s.size / 5) (by omega) (by omega) (s.size / 5) 0 (by omega)
      simp only [okT, h5, h1]
      simpa [kdecs] using this
    · refine ev_pos (by simp; omega) (ev_cst ?_)
      simp [okT, h1]
  · refine ev_neg (by omega) ?_
    refine Ev.step (fun k => by rw [beaconref15_Take.j0]) ?_
    refine ev_pos rfl (ev_cst ?_)
    simp [okT, h5]
theorem bt_cut (s : ByteArray) (a : Nat) (i : Int) (h0 : 0 ≤ i) : bt (s.extract a s.size) i = bt s (a + i) := by
  unfold bt
  have e : ((a : Int) + i).toNat = a + i.toNat := by omega
  by_cases h : a + i.toNat < s.size
  · rw [dif_pos (by rw [ByteArray.size_extract]; omega), dif_pos (by omega)]
    simp only [e, ByteArray.getElem_extract]
  · rw [dif_neg (by rw [ByteArray.size_extract]; omega), dif_neg (by omega)]
theorem cut_cut (s : ByteArray) (a : Nat) : (s.extract a s.size).extract 5 (s.extract a s.size).size = s.extract (a + 5) s.size := by
  rw [ByteArray.extract_extract]
  congr 1
  rw [ByteArray.size_extract]
  omega
theorem toList_nil (s : ByteArray) : s.toList = ([] : List UInt8) ↔ s.size = 0 := by
  rw [ByteArray.toList_eq]
  constructor
  · intro h
    have := congrArg List.length h
    simpa using this
  · intro h
    exact List.eq_nil_of_length_eq_zero (by simpa using h)
theorem take_l0 (s : ByteArray) (n : Nat) (hs : s.size = 5 * n) (hn : n ≤ 200) : ∀ (d j : Nat), j + d = n → (kdecs s j).all may = true →
    Ev (fun k => key_Take.l0 k (s.extract (5 * j) s.size) (kdecs s j)) (if (kdecs s n).all may then (kdecs s n, 0) else ([], 6)) := by
  intro d
  induction d with
  | zero =>
    intro j hj ha
    obtain rfl : j = n := by omega
    refine Ev.step (fun k => by rw [key_Take.l0]) ?_
    refine ev_pos ((toList_nil _).2 (by rw [ByteArray.size_extract]; omega)) (ev_cst ?_)
    rw [if_pos ha]
  | succ d ih =>
    intro j hj ha
    refine Ev.step (fun k => by rw [key_Take.l0]) ?_
    have hz : (s.extract (5 * j) s.size).size = s.size - 5 * j := by rw [ByteArray.size_extract]; omega
    rw [cut_cut, hz, bt_cut _ _ _ (by omega), bt_cut _ _ _ (by omega), bt_cut _ _ _ (by omega), bt_cut _ _ _ (by omega), bt_cut _ _ _ (by omega)]
    rw [orr (bt_range _ _) (bt_range _ _) (bt_range _ _), Int.add_zero]
    have r0 := bt_range s (5 * j : Nat)
    have r1 := bt_range s (((5 * j : Nat) : Int) + 1)
    rw [wrap_in (x := bt s (5 * j : Nat)) (by omega) (by omega), wrap_in (x := bt s (((5 * j : Nat) : Int) + 1)) (by omega) (by omega)]
    refine ev_neg (by rw [toList_nil, hz]; omega) (ev_pos (by omega) (ev_pos (by omega) (ev_pos (by omega) (ev_pos (by omega) (ev_pos (by omega) ?_)))))
    refine Ev.bind (may_ev (kdec s (5 * j : Nat))) ?_
    by_cases hm : may (kdec s (5 * j : Nat)) = true
    · refine ev_pos hm (ev_pos (by rw [kdecs_len]; omega) (ev_pos (by omega) ?_))
      have hgo := ih (j + 1) (by omega) (by rw [kdecs_succ, List.all_append, ha, List.all_cons, hm]; rfl)
      rw [kdecs_succ] at hgo
      exact hgo
    · refine ev_neg hm (ev_cst ?_)
      rw [if_neg]
      intro h
      refine hm (List.all_eq_true.1 h _ ?_)
      exact List.mem_map.2 ⟨j, List.mem_range.2 (by omega), rfl⟩
theorem take_ev (s : ByteArray) : Ev (fun k => key_Take.f k s) (if okT s then (kdecs s (s.size / 5), 0) else ([], 6)) := by
  unfold key_Take.f
  by_cases h5 : s.size % 5 = 0
  · refine ev_pos (by omega) ?_
    refine Ev.step (fun k => by rw [key_Take.j0]) ?_
    by_cases h1 : s.size ≤ 1000
    · refine ev_neg (by simp; omega) ?_
      have := take_l0 s (s.size / 5) (by omega) (by omega) (s.size / 5) 0 (by omega) (by simp [kdecs])
      simp only [okT, h5, h1]
      simpa [kdecs] using this
    · refine ev_pos (by simp; omega) (ev_cst ?_)
      simp [okT, h1]
  · refine ev_neg (by omega) ?_
    refine Ev.step (fun k => by rw [key_Take.j0]) ?_
    refine ev_pos rfl (ev_cst ?_)
    simp [okT, h5]
theorem kenc_kdec (s : ByteArray) (i : Int) : kenc (kdec s i) = [bt s i, bt s (i + 1), bt s (i + 2), bt s (i + 3), bt s (i + 4)] := by
  have r0 := bt_range s i
  have r1 := bt_range s (i + 1)
  have r2 := bt_range s (i + 2)
  have r3 := bt_range s (i + 3)
  have r4 := bt_range s (i + 4)
  simp only [kenc, kdec, List.cons.injEq, and_true]
  refine ⟨by omega, by omega, by omega, by omega, by omega⟩
theorem kencs_kdecs (s : ByteArray) : ∀ n : Nat, (kdecs s n).flatMap kenc = (List.range (5 * n)).map fun q : Nat => bt s q
  | 0 => rfl
  | n + 1 => by
    rw [kdecs_succ, List.flatMap_append, kencs_kdecs s n, show 5 * (n + 1) = 5 * n + 1 + 1 + 1 + 1 + 1 by omega]
    simp only [List.range_succ, List.map_append, List.append_assoc, List.flatMap_cons, List.flatMap_nil, kenc_kdec, List.map_cons, List.map_nil, List.append_nil]
    rfl
theorem back (s : ByteArray) (n : Nat) (hs : s.size = 5 * n) : (strOfNums ((kdecs s n).flatMap kenc)).toList = s.toList := by
  rw [strOfNums_list, kencs_kdecs, ← hs, ByteArray.toList_eq]
  refine List.ext_getElem (by simp) (fun i h1 h2 => ?_)
  have hi : i < s.size := by simpa using h2
  simp only [List.getElem_map, List.getElem_range]
  unfold bt
  rw [dif_pos (by simpa using hi)]
  simp
  rfl
theorem wakes_f : beaconlaw15_wakes.f = some true := by decide +kernel
theorem num (a : Int) : beaconlaw15_num.f a = some a := rfl
theorem loop (tx : List ByteArray) (hl : tx.length ≤ 8796093021954) : ∀ (d : Nat) (i : Int), 0 ≤ i → i + d = tx.length → Ev (fun k => beaconlaw15_KeyTexts.l0 k tx i) true := by
  intro d
  induction d with
  | zero =>
    intro i h0 h1
    refine Ev.step (fun k => by rw [beaconlaw15_KeyTexts.l0]) ?_
    exact ev_neg (by omega) (ev_bindc wakes_f (ev_cst rfl))
  | succ d ih =>
    intro i h0 h1
    have hgo := ih (i + 1) (by omega) (by omega)
    rw [← wrap_in (x := i + 1) (by omega) (by omega)] at hgo
    refine Ev.step (fun k => by rw [beaconlaw15_KeyTexts.l0]) ?_
    refine ev_pos (by omega) (ev_pos h0 (Ev.bind (take_ev _) (Ev.bind (rtake_ev _) (ev_bindc (num _) ?_))))
    by_cases hok : okT (rdOf ByteArray.empty tx i) = true
    · rw [if_pos hok, if_pos hok]
      have h5 : (rdOf ByteArray.empty tx i).size % 5 = 0 ∧ (rdOf ByteArray.empty tx i).size ≤ 1000 := by
        simp only [okT, Bool.and_eq_true, decide_eq_true_eq] at hok
        exact hok.1
      have hm : (kdecs (rdOf ByteArray.empty tx i) ((rdOf ByteArray.empty tx i).size / 5)).all may = true := by
        simp only [okT, Bool.and_eq_true] at hok
        exact hok.2
      refine ev_neg (by simp) (ev_pos rfl (Ev.bind (eq_ev _ (by rw [kdecs_len]; omega)) ?_))
      refine Ev.step (fun k => by rw [beaconlaw15_KeyTexts.j3]) ?_
      refine ev_neg (by simp) (ev_pos rfl (Ev.bind (text_ev _ (by rw [kdecs_len]; omega)) ?_))
      rw [textOf, if_pos hm, if_pos (by rw [kdecs_len]; omega)]
      exact ev_bindc (num _) (ev_pos rfl (ev_pos h0 (ev_pos (by omega) (ev_pos (back _ _ (by omega)) hgo))))
    · rw [if_neg hok, if_neg hok]
      refine ev_neg (by simp) (ev_neg (by simp) (ev_bindc (num _) (ev_pos rfl (Ev.bind (eq_ev _ (by simp)) ?_))))
      refine Ev.step (fun k => by rw [beaconlaw15_KeyTexts.j3]) ?_
      exact ev_neg (by simp) (ev_neg (by simp) hgo)
theorem j0_ev (l : List S130) (hl : l.length ≤ 4000) (m : Int) (s : List ByteArray) (hs : s.length ≤ 8796093021952) (want : ByteArray) (hw : want.size ≤ 100000) (e : Int) : Ev (fun k => beaconlaw15_KeyTexts.j0 k l want e e want l m s) true := by
  refine Ev.step (fun k => by rw [beaconlaw15_KeyTexts.j0]) ?_
  refine ev_bindc (num _) (ev_pos rfl (ev_pos rfl (Ev.bind (eq_ev _ hl) ?_)))
  refine Ev.step (fun k => by rw [beaconlaw15_KeyTexts.j1]) ?_
  refine ev_neg (by simp) (Ev.bind (copys_ev _ hs) (ev_pos (by omega) (ev_bindc rfl (ev_pos (by simp; omega) ?_))))
  exact loop (s ++ [want, want ++ (⟨#[120]⟩ : ByteArray)]) (by simp; omega) (s.length + 2) 0 (by omega) (by simp)
theorem heavy_l0 (l : List S130) (m : Int) (s : List ByteArray) (hl : s.length ≤ 8796093021952) (hb : ∀ y ∈ s, y.size ≤ 140737488351232) : ∀ (d : Nat) (n i : Int), 0 ≤ n → n ≤ 1000000000000000 → 0 ≤ i → i + d = s.length →
    ∃ b, Ev (fun k => beaconlaw15_Heavy.l0 k n i l m s) b ∧ (b = false → n ≤ 4000) := by
  intro d
  induction d with
  | zero =>
    intro n i hn hn2 h0 h1
    refine ⟨decide (n > 4000), ?_, by simp⟩
    refine Ev.step (fun k => by rw [beaconlaw15_Heavy.l0]) ?_
    exact ev_neg (by omega) (ev_cst rfl)
  | succ d ih =>
    intro n i hn hn2 h0 h1
    by_cases h2 : n < 1048576
    · have hz := hb _ (rdOf_mem (d := ByteArray.empty) (xs := s) h0 (by omega))
      obtain ⟨b, hE, hx⟩ := ih (n + (rdOf ByteArray.empty s i).size) (i + 1) (by omega) (by omega) (by omega) (by omega)
      refine ⟨b, ?_, fun e => by have := hx e; omega⟩
      refine Ev.step (fun k => by rw [beaconlaw15_Heavy.l0]) ?_
      refine ev_pos (by omega) (ev_pos h2 (ev_pos h0 ?_))
      rw [wrap_in (x := n + _) (by omega) (by omega), wrap_in (x := i + 1) (by omega) (by omega)]
      exact hE
    · refine ⟨true, ?_, by simp⟩
      refine Ev.step (fun k => by rw [beaconlaw15_Heavy.l0]) ?_
      refine ev_pos (by omega) (ev_neg h2 (ev_cst ?_))
      rw [decide_eq_true (show n > 4000 by omega)]
end Ky
open Ky in
theorem KeyTexts : beaconlaw15_KeyTexts.Pure := by
  rintro ⟨l, m, s⟩ ⟨⟨g1, _, _⟩, _, g2, _, g3⟩
  simp only at g1 g2 g3
  obtain ⟨b, hE, hb⟩ := heavy_l0 l m s (by omega) g3 s.length l.length 0 (by omega) (by omega) (by omega) (by omega)
  show ∃ k, beaconlaw15_KeyTexts.f k l m s = some true
  refine Ev.rounds ?_
  unfold beaconlaw15_KeyTexts.f
  refine Ev.bind (f := fun k t => _) hE ?_
  cases b with
  | true => exact ev_pos rfl (ev_cst rfl)
  | false =>
    have hl := hb rfl
    have hl' : l.length ≤ 4000 := by omega
    refine ev_neg (by simp) (Ev.bind (copy_ev l hl') (Ev.bind (text_ev l hl') (Ev.bind (keys_ev l hl') ?_)))
    have hn := kenc_len l
    by_cases hm : l.all may = true
    · refine ev_pos hm ?_
      by_cases h2 : l.length ≤ 200
      · refine ev_pos (by omega) (Ev.bind (rtext_ev l hl') ?_)
        rw [textOf, if_pos hm, if_pos h2]
        refine j0_ev l hl' m s (by omega) _ ?_ 0
        show (strOfNums (l.flatMap kenc)).data.size ≤ _
        simp only [strOfNums, List.size_toArray, List.length_map, hn]
        omega
      · refine ev_neg (by omega) ?_
        rw [textOf, if_pos hm, if_neg h2]
        exact j0_ev l hl' m s (by omega) _ (by decide) 2
    · refine ev_neg hm ?_
      rw [textOf, if_neg hm]
      exact j0_ev l hl' m s (by omega) _ (by decide) 1
end Go.Proofs.Ytadjhnlbpgknfaa.Pure
