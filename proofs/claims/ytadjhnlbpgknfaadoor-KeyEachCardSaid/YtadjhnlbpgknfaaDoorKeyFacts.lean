/- Which bytes a key is, plainly: for the laws of layer 15. -/
import Derived.Test.YtadjhnlbpgknfaaDoorP3
import Derived.Test.YtadjhnlbpgknfaaDoorP2
import Derived.Test.YtadjhnlbpgknfaaDoorP1
import Derived.Test.YtadjhnlbpgknfaaDoorPz
set_option linter.unusedSimpArgs false
set_option linter.unusedVariables false
namespace Go.Proofs.YtadjhnlbpgknfaaDoor.Pure
open Go.RowKit Go.Proofs.YtadjhnlbpgknfaaDoor.P Go.Proofs.YtadjhnlbpgknfaaDoorW.PrintWords Go.Proofs.YtadjhnlbpgknfaaDoorW.PrintLast Go.Proofs.YtadjhnlbpgknfaaDoorW.PrintMore Go.Proofs.YtadjhnlbpgknfaaDoor.Pz
namespace Ky
theorem between_f (a b c : Int) : beaconref0_Between.f a b c = some (decide (b ≤ a ∧ a ≤ c)) := by
  unfold beaconref0_Between.f
  split <;> simp <;> omega
theorem refNum_f (a b : Int) : beaconref0_Num.f a b = some (decide (0 ≤ a ∧ a ≤ b)) := by
  unfold beaconref0_Num.f
  split <;> simp <;> omega
theorem moded_f (a : Int) : screen_Moded.f a = some (decide (0 ≤ a ∧ a ≤ 1023)) := by
  unfold screen_Moded.f
  split
  · refine congrArg some (decide_eq_decide.2 ?_)
    omega
  · rw [decide_eq_false (by omega)]
theorem num_f (a : Int) : beaconlaw15_num.f a = some a := rfl
theorem valid_rune (r : Int) (h : 32 ≤ r ∧ r ≤ 1114111) : Ev (fun k => utf8_ValidRune.f k r) (decide (¬ (55296 ≤ r ∧ r ≤ 57343))) := by
  unfold utf8_ValidRune.f
  refine ev_pos (by omega) ?_
  refine Ev.step (fun k => by rw [utf8_ValidRune.j0]) ?_
  by_cases h1 : r < 55296
  · refine ev_pos (decide_eq_true h1) (ev_cst ?_)
    rw [decide_eq_true (by omega)]
  · refine ev_neg (by simpa using h1) ?_
    by_cases h2 : 57343 < r
    · refine ev_pos h2 (ev_pos h.2 (ev_cst ?_))
      rw [decide_eq_true (by omega)]
    · refine ev_neg h2 (ev_cst ?_)
      rw [decide_eq_false (by omega)]
theorem may_ev (a b c : Int) : Ev (fun k => key_May.f k a b c) (decide (validK a b c)) := by
  have bad : (¬ (0 ≤ c ∧ c ≤ 7)) → Ev (fun k => key_May.j0 k true a b c) (decide (validK a b c)) := fun h => by
    refine Ev.step (fun k => by rw [key_May.j0]) (ev_pos rfl (ev_cst ?_))
    rw [decide_eq_false (fun hv => h hv.1)]
  unfold key_May.f
  by_cases h1 : c < 0
  · exact ev_pos h1 (bad (by omega))
  refine ev_neg h1 ?_
  by_cases h2 : c > 7
  · rw [decide_eq_true h2]
    exact bad (by omega)
  rw [decide_eq_false h2]
  have hc : 0 ≤ c ∧ c ≤ 7 := by omega
  refine Ev.step (fun k => by rw [key_May.j0]) ?_
  refine ev_neg (by simp) ?_
  by_cases h3 : a = 1
  · subst h3
    refine ev_pos rfl ?_
    by_cases h4 : b ≥ 32
    · refine ev_pos h4 ?_
      by_cases h5 : b = 127
      · refine ev_pos h5 (ev_cst ?_)
        rw [decide_eq_false (by unfold validK; omega)]
      · refine ev_neg h5 ?_
        by_cases h6 : b ≤ 1114111
        · have e : wrap32 b = b := by unfold wrap32; omega
          rw [e]
          refine ev_pos h6 (Ev.bind (f := fun _ t => some t) (valid_rune b ⟨h4, h6⟩) (ev_cst ?_))
          refine congrArg some (decide_eq_decide.2 ?_)
          unfold validK
          omega
        · refine ev_neg h6 (ev_cst ?_)
          rw [decide_eq_false (by unfold validK; omega)]
    · refine ev_neg h4 (ev_cst ?_)
      rw [decide_eq_false (by unfold validK; omega)]
  refine ev_neg h3 ?_
  by_cases h7 : a = 12
  · subst h7
    refine ev_pos rfl ?_
    by_cases h8 : b = 1
    · refine ev_pos h8 (ev_cst ?_)
      rw [decide_eq_true (by unfold validK; omega)]
    · refine ev_neg h8 (ev_cst ?_)
      by_cases h9 : b = 2
      · subst h9
        rw [decide_eq_true (by unfold validK; omega)]
        rfl
      · rw [decide_eq_false (by unfold validK; omega)]
        simpa using h9
  refine ev_neg h7 ?_
  by_cases h8 : a > 1
  · refine ev_pos h8 ?_
    by_cases h9 : a < 12
    · refine ev_pos h9 (ev_cst ?_)
      by_cases h0 : b = 0
      · subst h0
        rw [decide_eq_true (by unfold validK; omega)]
        rfl
      · rw [decide_eq_false (by unfold validK; omega)]
        simpa using h0
    · refine ev_neg h9 (ev_cst ?_)
      rw [decide_eq_false (by unfold validK; omega)]
  · refine ev_neg h8 (ev_cst ?_)
    rw [decide_eq_false (by unfold validK; omega)]
theorem key_f (a b c : Int) : beaconref15_Key.f a b c = some (decide (validK a b c)) := by
  unfold beaconref15_Key.f
  rw [refNum_f, Option.bind_some]
  by_cases hc : 0 ≤ c ∧ c ≤ 7
  · rw [if_pos (decide_eq_true hc)]
    by_cases h1 : a = 1
    · rw [if_pos h1, between_f, Option.bind_some]
      by_cases h2 : 32 ≤ b ∧ b ≤ 1114111
      · rw [if_pos (decide_eq_true h2)]
        by_cases h3 : b = 127
        · rw [if_pos h3, decide_eq_false (by unfold validK; omega)]
        · rw [if_neg h3, between_f, Option.bind_some]
          by_cases h4 : 55296 ≤ b ∧ b ≤ 57343
          · rw [decide_eq_true h4, decide_eq_false (by unfold validK; omega)]
            rfl
          · rw [decide_eq_false h4, decide_eq_true (show validK a b c by unfold validK; omega)]
            rfl
      · rw [if_neg (by simpa using h2), decide_eq_false (by unfold validK; omega)]
    · rw [if_neg h1]
      by_cases h2 : a = 12
      · rw [if_pos h2, between_f, Option.bind_some]
        refine congrArg some (decide_eq_decide.2 ?_)
        unfold validK
        omega
      · rw [if_neg h2, between_f, Option.bind_some]
        by_cases h3 : 2 ≤ a ∧ a ≤ 11
        · rw [if_pos (decide_eq_true h3)]
          by_cases h0 : b = 0
          · subst h0
            rw [decide_eq_true (show validK a 0 c by unfold validK; omega)]
            rfl
          · rw [decide_eq_false (by unfold validK; omega)]
            simpa using h0
        · rw [if_neg (by simpa using h3), decide_eq_false (by unfold validK; omega)]
  · rw [if_neg (by simpa using hc), decide_eq_false (fun h => hc h.1)]
theorem spelt_f {a b c m : Int} (h : validK a b c) : key_Spelt.f a b c m = some (spelledB a b c m) := if_pos h
theorem ref_f {a b c m : Int} (h : validK a b c) : beaconref15_Bytes.f a b c m = some (spelledB a b c m) := if_pos h
theorem bytes_ev (a b c m : Int) : Ev (fun k => key_Bytes.f k a b c m) (if validK a b c ∧ 0 ≤ m ∧ m ≤ 1023 then (spelledB a b c m, 0) else (⟨#[]⟩, 1)) := by
  unfold key_Bytes.f
  by_cases h : validK a b c
  · by_cases hm : 0 ≤ m ∧ m ≤ 1023
    · rw [if_pos ⟨h, hm⟩]
      exact Ev.bind (may_ev a b c) (ev_pos (decide_eq_true h) (ev_bindc (moded_f m) (ev_pos (decide_eq_true hm) (ev_bindc (spelt_f h) (ev_cst rfl)))))
    · rw [if_neg (fun e => hm e.2)]
      refine Ev.bind (may_ev a b c) (ev_pos (decide_eq_true h) (ev_bindc (moded_f m) ?_))
      exact ev_neg (by simpa using hm) (ev_cst rfl)
  · rw [if_neg (fun e => h e.1)]
    refine Ev.bind (may_ev a b c) ?_
    exact ev_neg (by simpa using h) (ev_cst rfl)
theorem wakes_ev : Ev (fun k => beaconlaw15_wakes.f k) true := by
  have h := bytes_ev 2 0 0 16
  rw [if_pos (by decide)] at h
  unfold beaconlaw15_wakes.f
  refine Ev.bind h (ev_bindc (num_f _) (ev_pos rfl (ev_cst ?_)))
  decide +kernel
end Ky
end Go.Proofs.YtadjhnlbpgknfaaDoor.Pure
