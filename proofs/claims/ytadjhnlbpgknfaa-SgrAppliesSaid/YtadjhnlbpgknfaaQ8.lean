-- Laid by a program of this session (wip/tools/xp.py) over the kit's print.
import Derived.Test.YtadjhnlbpgknfaaQ0
import Derived.Test.YtadjhnlbpgknfaaQ1
import Derived.Test.YtadjhnlbpgknfaaQ4
import Derived.Test.YtadjhnlbpgknfaaQ5
import Derived.Test.YtadjhnlbpgknfaaQ6
import Derived.Test.YtadjhnlbpgknfaaQ7
namespace Go.Proofs.Ytadjhnlbpgknfaa.Q
open Go.RowKit Go.Proofs.YtadjhnlbpgknfaaW.PrintWords Go.Proofs.YtadjhnlbpgknfaaW.PrintLast Go.Proofs.YtadjhnlbpgknfaaW.PrintMore
attribute [local go_sem] max2_int min2_int max_two min_two max_three min_three max_four min_four   -- for this text's walks alone
set_option linter.unusedVariables false
set_option linter.unusedSimpArgs false

attribute [local go_sem high] eqA56
/-! ### beaconlaw4_SgrApplies: function 6 -/
mutual
def beaconlaw4_SgrApplies.l0 : Nat → Int → List (S56) → List (List Int) → Option (Bool)
  | 0, _, _, _ => none
  | k + 1, x3, x242000, x242001 => if x3 < (x242000.length : Int) then (beaconlaw4_SgrApplies.j1 k x3 (decide (x3 < 6)) x242000 x242001) else (beaconlaw4_SgrApplies.j1 k x3 false x242000 x242001)
def beaconlaw4_SgrApplies.j1 : Nat → Int → Bool → List (S56) → List (List Int) → Option (Bool)
  | 0, _, _, _, _ => none
  | k + 1, x3, x25, x242000, x242001 => if x25 = true then (if 0 ≤ x3 then (if x3 < (x242000.length : Int) then ((beaconref3_Attr.f ((rd_T56 x242000 x3).f0) ((rd_T56 x242000 x3).f1) ((rd_T56 x242000 x3).f2)).bind fun t245 => ((sgr_Line.f k ((rd_T56 x242000 x3).f0) ((rd_T56 x242000 x3).f1) ((rd_T56 x242000 x3).f2)).bind fun bt247 => (if t245 = true then ((beaconref3_Line.f k ((rd_T56 x242000 x3).f0) ((rd_T56 x242000 x3).f1) ((rd_T56 x242000 x3).f2)).bind fun t252 => (beaconlaw4_SgrApplies.j2 k x3 t245 bt247.1 bt247.2 0 t252 x242000 x242001)) else (beaconlaw4_SgrApplies.j2 k x3 t245 bt247.1 bt247.2 1 ([] : List Int) x242000 x242001)))) else (none)) else (none)) else ((beaconlaw4_wakes.f).bind fun t243 => (some t243))
def beaconlaw4_SgrApplies.j2 : Nat → Int → Bool → List Int → Int → Int → List Int → List (S56) → List (List Int) → Option (Bool)
  | 0, _, _, _, _, _, _, _, _ => none
  | k + 1, x3, x4, x5, x6, x7, x8, x242000, x242001 => if 0 ≤ x3 then (if x3 < (x242000.length : Int) then ((sgr_Check.f ((rd_T56 x242000 x3).f0) ((rd_T56 x242000 x3).f1) ((rd_T56 x242000 x3).f2)).bind fun t256 => ((beaconlaw4_num.f t256).bind fun t257 => (if t257 = x7 then ((beaconlaw4_num.f x6).bind fun t258 => (if t258 = x7 then ((beaconref0_EqNumbers.f k x5 x8).bind fun t259 => (beaconlaw4_SgrApplies.j3 k x3 x4 x5 (!t259) x242000 x242001)) else (beaconlaw4_SgrApplies.j3 k x3 x4 x5 true x242000 x242001))) else (beaconlaw4_SgrApplies.j3 k x3 x4 x5 true x242000 x242001)))) else (none)) else (none)
def beaconlaw4_SgrApplies.j3 : Nat → Int → Bool → List Int → Bool → List (S56) → List (List Int) → Option (Bool)
  | 0, _, _, _, _, _, _ => none
  | k + 1, x3, x4, x5, x70, x242000, x242001 => if x70 = true then (some false) else ((beaconlaw0_Numbers.f k x5).bind fun t260 => (beaconlaw4_SgrApplies.l1 k x3 x4 0 x242000 x242001))
def beaconlaw4_SgrApplies.l1 : Nat → Int → Bool → Int → List (S56) → List (List Int) → Option (Bool)
  | 0, _, _, _, _, _ => none
  | k + 1, x3, x4, x9, x242000, x242001 => if x9 < (x242001.length : Int) then (beaconlaw4_SgrApplies.j5 k x3 x4 x9 (decide (x9 < 6)) x242000 x242001) else (beaconlaw4_SgrApplies.j5 k x3 x4 x9 false x242000 x242001)
def beaconlaw4_SgrApplies.j5 : Nat → Int → Bool → Int → Bool → List (S56) → List (List Int) → Option (Bool)
  | 0, _, _, _, _, _, _ => none
  | k + 1, x3, x4, x9, x81, x242000, x242001 => if x81 = true then (if 0 ≤ x9 then (if x9 < (x242001.length : Int) then ((beaconref0_CopyNumbers.f k (rd_L2 x242001 x9)).bind fun t262 => (if 0 ≤ x3 then (if x3 < (x242000.length : Int) then ((sgr_Apply.f ((rd_T56 x242000 x3).f0) ((rd_T56 x242000 x3).f1) ((rd_T56 x242000 x3).f2) t262).bind fun bt266 => (if x4 = true then ((beaconref3_Params.f k (rd_L2 x242001 x9) 32).bind fun t273 => (beaconlaw4_SgrApplies.j6 k x3 x4 x9 t262 bt266.2.2.2 1 t273 x242000 x242001 bt266.1 bt266.2.1 bt266.2.2.1 0 0 0)) else (beaconlaw4_SgrApplies.j6 k x3 x4 x9 t262 bt266.2.2.2 1 false x242000 x242001 bt266.1 bt266.2.1 bt266.2.2.1 0 0 0))) else (none)) else (none))) else (none)) else (none)) else (beaconlaw4_SgrApplies.l0 k (wrap64 (x3 + 1)) x242000 x242001)
def beaconlaw4_SgrApplies.j6 : Nat → Int → Bool → Int → List Int → Int → Int → Bool → List (S56) → List (List Int) → Int → Int → Int → Int → Int → Int → Option (Bool)
  | 0, _, _, _, _, _, _, _, _, _, _, _, _, _, _, _ => none
  | k + 1, x3, x4, x9, x10, x12, x13, x109, x242000, x242001, x271000, x271001, x271002, x272000, x272001, x272002 => if x109 = true then (if 0 ≤ x3 then (if x3 < (x242000.length : Int) then (if 0 ≤ x9 then (if x9 < (x242001.length : Int) then ((beaconref3_Apply.f k ((rd_T56 x242000 x3).f0) ((rd_T56 x242000 x3).f1) ((rd_T56 x242000 x3).f2) (rd_L2 x242001 x9)).bind fun bt276 => (beaconlaw4_SgrApplies.j7 k x3 x4 x9 x10 x12 0 x242000 x242001 x271000 x271001 x271002 bt276.1 bt276.2.1 bt276.2.2)) else (none)) else (none)) else (none)) else (none)) else (beaconlaw4_SgrApplies.j7 k x3 x4 x9 x10 x12 x13 x242000 x242001 x271000 x271001 x271002 x272000 x272001 x272002)
def beaconlaw4_SgrApplies.j7 : Nat → Int → Bool → Int → List Int → Int → Int → List (S56) → List (List Int) → Int → Int → Int → Int → Int → Int → Option (Bool)
  | 0, _, _, _, _, _, _, _, _, _, _, _, _, _, _ => none
  | k + 1, x3, x4, x9, x10, x12, x13, x242000, x242001, x271000, x271001, x271002, x272000, x272001, x272002 => (beaconlaw4_num.f x12).bind fun t279 => (if t279 = x13 then (if (!(x271000 == x272000) || (!(x271001 == x272001) || (!(x271002 == x272002)))) = true then (some false) else (if 0 ≤ x9 then (if x9 < (x242001.length : Int) then ((beaconref0_EqNumbers.f k x10 (rd_L2 x242001 x9)).bind fun t281 => (if t281 = true then (beaconlaw4_SgrApplies.l1 k x3 x4 (wrap64 (x9 + 1)) x242000 x242001) else (some false))) else (none)) else (none))) else (some false))
end
def beaconlaw4_SgrApplies.f (k : Nat) (l0_0 : List (S56)) (l0_1 : List (List Int)) : Option (Bool) := (beaconlaw4_Heavy.f k l0_0 l0_1).bind fun t242 => (if t242 = true then (some true) else (beaconlaw4_SgrApplies.l0 k 0 l0_0 l0_1))
theorem beaconlaw4_SgrApplies.mono_l : ∀ k, (∀ y0 y1 y2, LeO (beaconlaw4_SgrApplies.l0 k y0 y1 y2) (beaconlaw4_SgrApplies.l0 (k + 1) y0 y1 y2)) ∧ (∀ y0 y1 y2 y3, LeO (beaconlaw4_SgrApplies.j1 k y0 y1 y2 y3) (beaconlaw4_SgrApplies.j1 (k + 1) y0 y1 y2 y3)) ∧ (∀ y0 y1 y2 y3 y4 y5 y6 y7, LeO (beaconlaw4_SgrApplies.j2 k y0 y1 y2 y3 y4 y5 y6 y7) (beaconlaw4_SgrApplies.j2 (k + 1) y0 y1 y2 y3 y4 y5 y6 y7)) ∧ (∀ y0 y1 y2 y3 y4 y5, LeO (beaconlaw4_SgrApplies.j3 k y0 y1 y2 y3 y4 y5) (beaconlaw4_SgrApplies.j3 (k + 1) y0 y1 y2 y3 y4 y5)) ∧ (∀ y0 y1 y2 y3 y4, LeO (beaconlaw4_SgrApplies.l1 k y0 y1 y2 y3 y4) (beaconlaw4_SgrApplies.l1 (k + 1) y0 y1 y2 y3 y4)) ∧ (∀ y0 y1 y2 y3 y4 y5, LeO (beaconlaw4_SgrApplies.j5 k y0 y1 y2 y3 y4 y5) (beaconlaw4_SgrApplies.j5 (k + 1) y0 y1 y2 y3 y4 y5)) ∧ (∀ y0 y1 y2 y3 y4 y5 y6 y7 y8 y9 y10 y11 y12 y13 y14, LeO (beaconlaw4_SgrApplies.j6 k y0 y1 y2 y3 y4 y5 y6 y7 y8 y9 y10 y11 y12 y13 y14) (beaconlaw4_SgrApplies.j6 (k + 1) y0 y1 y2 y3 y4 y5 y6 y7 y8 y9 y10 y11 y12 y13 y14)) ∧ (∀ y0 y1 y2 y3 y4 y5 y6 y7 y8 y9 y10 y11 y12 y13, LeO (beaconlaw4_SgrApplies.j7 k y0 y1 y2 y3 y4 y5 y6 y7 y8 y9 y10 y11 y12 y13) (beaconlaw4_SgrApplies.j7 (k + 1) y0 y1 y2 y3 y4 y5 y6 y7 y8 y9 y10 y11 y12 y13))
  | 0 => ⟨fun _ _ _ r h => by simp [beaconlaw4_SgrApplies.l0] at h, fun _ _ _ _ r h => by simp [beaconlaw4_SgrApplies.j1] at h, fun _ _ _ _ _ _ _ _ r h => by simp [beaconlaw4_SgrApplies.j2] at h, fun _ _ _ _ _ _ r h => by simp [beaconlaw4_SgrApplies.j3] at h, fun _ _ _ _ _ r h => by simp [beaconlaw4_SgrApplies.l1] at h, fun _ _ _ _ _ _ r h => by simp [beaconlaw4_SgrApplies.j5] at h, fun _ _ _ _ _ _ _ _ _ _ _ _ _ _ _ r h => by simp [beaconlaw4_SgrApplies.j6] at h, fun _ _ _ _ _ _ _ _ _ _ _ _ _ _ r h => by simp [beaconlaw4_SgrApplies.j7] at h⟩
  | k + 1 => by
    obtain ⟨ih0, ih1, ih2, ih3, ih4, ih5, ih6, ih7⟩ := beaconlaw4_SgrApplies.mono_l k
    refine ⟨?_, ?_, ?_, ?_, ?_, ?_, ?_, ?_⟩
    · intro y0 y1 y2
      unfold beaconlaw4_SgrApplies.l0
      repeat' first
      | (with_reducible exact ih0 _ _ _)
      | (with_reducible exact ih1 _ _ _ _)
      | (with_reducible exact ih2 _ _ _ _ _ _ _ _)
      | (with_reducible exact ih3 _ _ _ _ _ _)
      | (with_reducible exact ih4 _ _ _ _ _)
      | (with_reducible exact ih5 _ _ _ _ _ _)
      | (with_reducible exact ih6 _ _ _ _ _ _ _ _ _ _ _ _ _ _ _)
      | (with_reducible exact ih7 _ _ _ _ _ _ _ _ _ _ _ _ _ _)
      | (with_reducible exact beaconlaw0_Numbers.mono _ _)
      | (with_reducible exact beaconlaw4_Heavy.mono _ _ _)
      | (with_reducible exact beaconref0_CopyNumbers.mono _ _)
      | (with_reducible exact beaconref0_EqNumbers.mono _ _ _)
      | (with_reducible exact beaconref3_Apply.mono _ _ _ _ _)
      | (with_reducible exact beaconref3_Line.mono _ _ _ _)
      | (with_reducible exact beaconref3_Params.mono _ _ _)
      | (with_reducible exact sgr_Line.mono _ _ _ _)
      | (with_reducible exact LeO.refl _)
      | (with_reducible exact LeO.none _)
      | (with_reducible refine LeO.ite ?_ ?_)
      | (with_reducible refine LeO.bind ?_ (fun _ => ?_))
      | exact ih0 _ _ _
      | exact ih1 _ _ _ _
      | exact ih2 _ _ _ _ _ _ _ _
      | exact ih3 _ _ _ _ _ _
      | exact ih4 _ _ _ _ _
      | exact ih5 _ _ _ _ _ _
      | exact ih6 _ _ _ _ _ _ _ _ _ _ _ _ _ _ _
      | exact ih7 _ _ _ _ _ _ _ _ _ _ _ _ _ _
      | exact beaconlaw0_Numbers.mono _ _
      | exact beaconlaw4_Heavy.mono _ _ _
      | exact beaconref0_CopyNumbers.mono _ _
      | exact beaconref0_EqNumbers.mono _ _ _
      | exact beaconref3_Apply.mono _ _ _ _ _
      | exact beaconref3_Line.mono _ _ _ _
      | exact beaconref3_Params.mono _ _ _
      | exact sgr_Line.mono _ _ _ _
      | exact LeO.none _
      | refine LeO.ite ?_ ?_
      | refine LeO.bind ?_ (fun _ => ?_)
    · intro y0 y1 y2 y3
      unfold beaconlaw4_SgrApplies.j1
      repeat' first
      | (with_reducible exact ih0 _ _ _)
      | (with_reducible exact ih1 _ _ _ _)
      | (with_reducible exact ih2 _ _ _ _ _ _ _ _)
      | (with_reducible exact ih3 _ _ _ _ _ _)
      | (with_reducible exact ih4 _ _ _ _ _)
      | (with_reducible exact ih5 _ _ _ _ _ _)
      | (with_reducible exact ih6 _ _ _ _ _ _ _ _ _ _ _ _ _ _ _)
      | (with_reducible exact ih7 _ _ _ _ _ _ _ _ _ _ _ _ _ _)
      | (with_reducible exact beaconlaw0_Numbers.mono _ _)
      | (with_reducible exact beaconlaw4_Heavy.mono _ _ _)
      | (with_reducible exact beaconref0_CopyNumbers.mono _ _)
      | (with_reducible exact beaconref0_EqNumbers.mono _ _ _)
      | (with_reducible exact beaconref3_Apply.mono _ _ _ _ _)
      | (with_reducible exact beaconref3_Line.mono _ _ _ _)
      | (with_reducible exact beaconref3_Params.mono _ _ _)
      | (with_reducible exact sgr_Line.mono _ _ _ _)
      | (with_reducible exact LeO.refl _)
      | (with_reducible exact LeO.none _)
      | (with_reducible refine LeO.ite ?_ ?_)
      | (with_reducible refine LeO.bind ?_ (fun _ => ?_))
      | exact ih0 _ _ _
      | exact ih1 _ _ _ _
      | exact ih2 _ _ _ _ _ _ _ _
      | exact ih3 _ _ _ _ _ _
      | exact ih4 _ _ _ _ _
      | exact ih5 _ _ _ _ _ _
      | exact ih6 _ _ _ _ _ _ _ _ _ _ _ _ _ _ _
      | exact ih7 _ _ _ _ _ _ _ _ _ _ _ _ _ _
      | exact beaconlaw0_Numbers.mono _ _
      | exact beaconlaw4_Heavy.mono _ _ _
      | exact beaconref0_CopyNumbers.mono _ _
      | exact beaconref0_EqNumbers.mono _ _ _
      | exact beaconref3_Apply.mono _ _ _ _ _
      | exact beaconref3_Line.mono _ _ _ _
      | exact beaconref3_Params.mono _ _ _
      | exact sgr_Line.mono _ _ _ _
      | exact LeO.none _
      | refine LeO.ite ?_ ?_
      | refine LeO.bind ?_ (fun _ => ?_)
    · intro y0 y1 y2 y3 y4 y5 y6 y7
      unfold beaconlaw4_SgrApplies.j2
      repeat' first
      | (with_reducible exact ih0 _ _ _)
      | (with_reducible exact ih1 _ _ _ _)
      | (with_reducible exact ih2 _ _ _ _ _ _ _ _)
      | (with_reducible exact ih3 _ _ _ _ _ _)
      | (with_reducible exact ih4 _ _ _ _ _)
      | (with_reducible exact ih5 _ _ _ _ _ _)
      | (with_reducible exact ih6 _ _ _ _ _ _ _ _ _ _ _ _ _ _ _)
      | (with_reducible exact ih7 _ _ _ _ _ _ _ _ _ _ _ _ _ _)
      | (with_reducible exact beaconlaw0_Numbers.mono _ _)
      | (with_reducible exact beaconlaw4_Heavy.mono _ _ _)
      | (with_reducible exact beaconref0_CopyNumbers.mono _ _)
      | (with_reducible exact beaconref0_EqNumbers.mono _ _ _)
      | (with_reducible exact beaconref3_Apply.mono _ _ _ _ _)
      | (with_reducible exact beaconref3_Line.mono _ _ _ _)
      | (with_reducible exact beaconref3_Params.mono _ _ _)
      | (with_reducible exact sgr_Line.mono _ _ _ _)
      | (with_reducible exact LeO.refl _)
      | (with_reducible exact LeO.none _)
      | (with_reducible refine LeO.ite ?_ ?_)
      | (with_reducible refine LeO.bind ?_ (fun _ => ?_))
      | exact ih0 _ _ _
      | exact ih1 _ _ _ _
      | exact ih2 _ _ _ _ _ _ _ _
      | exact ih3 _ _ _ _ _ _
      | exact ih4 _ _ _ _ _
      | exact ih5 _ _ _ _ _ _
      | exact ih6 _ _ _ _ _ _ _ _ _ _ _ _ _ _ _
      | exact ih7 _ _ _ _ _ _ _ _ _ _ _ _ _ _
      | exact beaconlaw0_Numbers.mono _ _
      | exact beaconlaw4_Heavy.mono _ _ _
      | exact beaconref0_CopyNumbers.mono _ _
      | exact beaconref0_EqNumbers.mono _ _ _
      | exact beaconref3_Apply.mono _ _ _ _ _
      | exact beaconref3_Line.mono _ _ _ _
      | exact beaconref3_Params.mono _ _ _
      | exact sgr_Line.mono _ _ _ _
      | exact LeO.none _
      | refine LeO.ite ?_ ?_
      | refine LeO.bind ?_ (fun _ => ?_)
    · intro y0 y1 y2 y3 y4 y5
      unfold beaconlaw4_SgrApplies.j3
      repeat' first
      | (with_reducible exact ih0 _ _ _)
      | (with_reducible exact ih1 _ _ _ _)
      | (with_reducible exact ih2 _ _ _ _ _ _ _ _)
      | (with_reducible exact ih3 _ _ _ _ _ _)
      | (with_reducible exact ih4 _ _ _ _ _)
      | (with_reducible exact ih5 _ _ _ _ _ _)
      | (with_reducible exact ih6 _ _ _ _ _ _ _ _ _ _ _ _ _ _ _)
      | (with_reducible exact ih7 _ _ _ _ _ _ _ _ _ _ _ _ _ _)
      | (with_reducible exact beaconlaw0_Numbers.mono _ _)
      | (with_reducible exact beaconlaw4_Heavy.mono _ _ _)
      | (with_reducible exact beaconref0_CopyNumbers.mono _ _)
      | (with_reducible exact beaconref0_EqNumbers.mono _ _ _)
      | (with_reducible exact beaconref3_Apply.mono _ _ _ _ _)
      | (with_reducible exact beaconref3_Line.mono _ _ _ _)
      | (with_reducible exact beaconref3_Params.mono _ _ _)
      | (with_reducible exact sgr_Line.mono _ _ _ _)
      | (with_reducible exact LeO.refl _)
      | (with_reducible exact LeO.none _)
      | (with_reducible refine LeO.ite ?_ ?_)
      | (with_reducible refine LeO.bind ?_ (fun _ => ?_))
      | exact ih0 _ _ _
      | exact ih1 _ _ _ _
      | exact ih2 _ _ _ _ _ _ _ _
      | exact ih3 _ _ _ _ _ _
      | exact ih4 _ _ _ _ _
      | exact ih5 _ _ _ _ _ _
      | exact ih6 _ _ _ _ _ _ _ _ _ _ _ _ _ _ _
      | exact ih7 _ _ _ _ _ _ _ _ _ _ _ _ _ _
      | exact beaconlaw0_Numbers.mono _ _
      | exact beaconlaw4_Heavy.mono _ _ _
      | exact beaconref0_CopyNumbers.mono _ _
      | exact beaconref0_EqNumbers.mono _ _ _
      | exact beaconref3_Apply.mono _ _ _ _ _
      | exact beaconref3_Line.mono _ _ _ _
      | exact beaconref3_Params.mono _ _ _
      | exact sgr_Line.mono _ _ _ _
      | exact LeO.none _
      | refine LeO.ite ?_ ?_
      | refine LeO.bind ?_ (fun _ => ?_)
    · intro y0 y1 y2 y3 y4
      unfold beaconlaw4_SgrApplies.l1
      repeat' first
      | (with_reducible exact ih0 _ _ _)
      | (with_reducible exact ih1 _ _ _ _)
      | (with_reducible exact ih2 _ _ _ _ _ _ _ _)
      | (with_reducible exact ih3 _ _ _ _ _ _)
      | (with_reducible exact ih4 _ _ _ _ _)
      | (with_reducible exact ih5 _ _ _ _ _ _)
      | (with_reducible exact ih6 _ _ _ _ _ _ _ _ _ _ _ _ _ _ _)
      | (with_reducible exact ih7 _ _ _ _ _ _ _ _ _ _ _ _ _ _)
      | (with_reducible exact beaconlaw0_Numbers.mono _ _)
      | (with_reducible exact beaconlaw4_Heavy.mono _ _ _)
      | (with_reducible exact beaconref0_CopyNumbers.mono _ _)
      | (with_reducible exact beaconref0_EqNumbers.mono _ _ _)
      | (with_reducible exact beaconref3_Apply.mono _ _ _ _ _)
      | (with_reducible exact beaconref3_Line.mono _ _ _ _)
      | (with_reducible exact beaconref3_Params.mono _ _ _)
      | (with_reducible exact sgr_Line.mono _ _ _ _)
      | (with_reducible exact LeO.refl _)
      | (with_reducible exact LeO.none _)
      | (with_reducible refine LeO.ite ?_ ?_)
      | (with_reducible refine LeO.bind ?_ (fun _ => ?_))
      | exact ih0 _ _ _
      | exact ih1 _ _ _ _
      | exact ih2 _ _ _ _ _ _ _ _
      | exact ih3 _ _ _ _ _ _
      | exact ih4 _ _ _ _ _
      | exact ih5 _ _ _ _ _ _
      | exact ih6 _ _ _ _ _ _ _ _ _ _ _ _ _ _ _
      | exact ih7 _ _ _ _ _ _ _ _ _ _ _ _ _ _
      | exact beaconlaw0_Numbers.mono _ _
      | exact beaconlaw4_Heavy.mono _ _ _
      | exact beaconref0_CopyNumbers.mono _ _
      | exact beaconref0_EqNumbers.mono _ _ _
      | exact beaconref3_Apply.mono _ _ _ _ _
      | exact beaconref3_Line.mono _ _ _ _
      | exact beaconref3_Params.mono _ _ _
      | exact sgr_Line.mono _ _ _ _
      | exact LeO.none _
      | refine LeO.ite ?_ ?_
      | refine LeO.bind ?_ (fun _ => ?_)
    · intro y0 y1 y2 y3 y4 y5
      unfold beaconlaw4_SgrApplies.j5
      repeat' first
      | (with_reducible exact ih0 _ _ _)
      | (with_reducible exact ih1 _ _ _ _)
      | (with_reducible exact ih2 _ _ _ _ _ _ _ _)
      | (with_reducible exact ih3 _ _ _ _ _ _)
      | (with_reducible exact ih4 _ _ _ _ _)
      | (with_reducible exact ih5 _ _ _ _ _ _)
      | (with_reducible exact ih6 _ _ _ _ _ _ _ _ _ _ _ _ _ _ _)
      | (with_reducible exact ih7 _ _ _ _ _ _ _ _ _ _ _ _ _ _)
      | (with_reducible exact beaconlaw0_Numbers.mono _ _)
      | (with_reducible exact beaconlaw4_Heavy.mono _ _ _)
      | (with_reducible exact beaconref0_CopyNumbers.mono _ _)
      | (with_reducible exact beaconref0_EqNumbers.mono _ _ _)
      | (with_reducible exact beaconref3_Apply.mono _ _ _ _ _)
      | (with_reducible exact beaconref3_Line.mono _ _ _ _)
      | (with_reducible exact beaconref3_Params.mono _ _ _)
      | (with_reducible exact sgr_Line.mono _ _ _ _)
      | (with_reducible exact LeO.refl _)
      | (with_reducible exact LeO.none _)
      | (with_reducible refine LeO.ite ?_ ?_)
      | (with_reducible refine LeO.bind ?_ (fun _ => ?_))
      | exact ih0 _ _ _
      | exact ih1 _ _ _ _
      | exact ih2 _ _ _ _ _ _ _ _
      | exact ih3 _ _ _ _ _ _
      | exact ih4 _ _ _ _ _
      | exact ih5 _ _ _ _ _ _
      | exact ih6 _ _ _ _ _ _ _ _ _ _ _ _ _ _ _
      | exact ih7 _ _ _ _ _ _ _ _ _ _ _ _ _ _
      | exact beaconlaw0_Numbers.mono _ _
      | exact beaconlaw4_Heavy.mono _ _ _
      | exact beaconref0_CopyNumbers.mono _ _
      | exact beaconref0_EqNumbers.mono _ _ _
      | exact beaconref3_Apply.mono _ _ _ _ _
      | exact beaconref3_Line.mono _ _ _ _
      | exact beaconref3_Params.mono _ _ _
      | exact sgr_Line.mono _ _ _ _
      | exact LeO.none _
      | refine LeO.ite ?_ ?_
      | refine LeO.bind ?_ (fun _ => ?_)
    · intro y0 y1 y2 y3 y4 y5 y6 y7 y8 y9 y10 y11 y12 y13 y14
      unfold beaconlaw4_SgrApplies.j6
      repeat' first
      | (with_reducible exact ih0 _ _ _)
      | (with_reducible exact ih1 _ _ _ _)
      | (with_reducible exact ih2 _ _ _ _ _ _ _ _)
      | (with_reducible exact ih3 _ _ _ _ _ _)
      | (with_reducible exact ih4 _ _ _ _ _)
      | (with_reducible exact ih5 _ _ _ _ _ _)
      | (with_reducible exact ih6 _ _ _ _ _ _ _ _ _ _ _ _ _ _ _)
      | (with_reducible exact ih7 _ _ _ _ _ _ _ _ _ _ _ _ _ _)
      | (with_reducible exact beaconlaw0_Numbers.mono _ _)
      | (with_reducible exact beaconlaw4_Heavy.mono _ _ _)
      | (with_reducible exact beaconref0_CopyNumbers.mono _ _)
      | (with_reducible exact beaconref0_EqNumbers.mono _ _ _)
      | (with_reducible exact beaconref3_Apply.mono _ _ _ _ _)
      | (with_reducible exact beaconref3_Line.mono _ _ _ _)
      | (with_reducible exact beaconref3_Params.mono _ _ _)
      | (with_reducible exact sgr_Line.mono _ _ _ _)
      | (with_reducible exact LeO.refl _)
      | (with_reducible exact LeO.none _)
      | (with_reducible refine LeO.ite ?_ ?_)
      | (with_reducible refine LeO.bind ?_ (fun _ => ?_))
      | exact ih0 _ _ _
      | exact ih1 _ _ _ _
      | exact ih2 _ _ _ _ _ _ _ _
      | exact ih3 _ _ _ _ _ _
      | exact ih4 _ _ _ _ _
      | exact ih5 _ _ _ _ _ _
      | exact ih6 _ _ _ _ _ _ _ _ _ _ _ _ _ _ _
      | exact ih7 _ _ _ _ _ _ _ _ _ _ _ _ _ _
      | exact beaconlaw0_Numbers.mono _ _
      | exact beaconlaw4_Heavy.mono _ _ _
      | exact beaconref0_CopyNumbers.mono _ _
      | exact beaconref0_EqNumbers.mono _ _ _
      | exact beaconref3_Apply.mono _ _ _ _ _
      | exact beaconref3_Line.mono _ _ _ _
      | exact beaconref3_Params.mono _ _ _
      | exact sgr_Line.mono _ _ _ _
      | exact LeO.none _
      | refine LeO.ite ?_ ?_
      | refine LeO.bind ?_ (fun _ => ?_)
    · intro y0 y1 y2 y3 y4 y5 y6 y7 y8 y9 y10 y11 y12 y13
      unfold beaconlaw4_SgrApplies.j7
      repeat' first
      | (with_reducible exact ih0 _ _ _)
      | (with_reducible exact ih1 _ _ _ _)
      | (with_reducible exact ih2 _ _ _ _ _ _ _ _)
      | (with_reducible exact ih3 _ _ _ _ _ _)
      | (with_reducible exact ih4 _ _ _ _ _)
      | (with_reducible exact ih5 _ _ _ _ _ _)
      | (with_reducible exact ih6 _ _ _ _ _ _ _ _ _ _ _ _ _ _ _)
      | (with_reducible exact ih7 _ _ _ _ _ _ _ _ _ _ _ _ _ _)
      | (with_reducible exact beaconlaw0_Numbers.mono _ _)
      | (with_reducible exact beaconlaw4_Heavy.mono _ _ _)
      | (with_reducible exact beaconref0_CopyNumbers.mono _ _)
      | (with_reducible exact beaconref0_EqNumbers.mono _ _ _)
      | (with_reducible exact beaconref3_Apply.mono _ _ _ _ _)
      | (with_reducible exact beaconref3_Line.mono _ _ _ _)
      | (with_reducible exact beaconref3_Params.mono _ _ _)
      | (with_reducible exact sgr_Line.mono _ _ _ _)
      | (with_reducible exact LeO.refl _)
      | (with_reducible exact LeO.none _)
      | (with_reducible refine LeO.ite ?_ ?_)
      | (with_reducible refine LeO.bind ?_ (fun _ => ?_))
      | exact ih0 _ _ _
      | exact ih1 _ _ _ _
      | exact ih2 _ _ _ _ _ _ _ _
      | exact ih3 _ _ _ _ _ _
      | exact ih4 _ _ _ _ _
      | exact ih5 _ _ _ _ _ _
      | exact ih6 _ _ _ _ _ _ _ _ _ _ _ _ _ _ _
      | exact ih7 _ _ _ _ _ _ _ _ _ _ _ _ _ _
      | exact beaconlaw0_Numbers.mono _ _
      | exact beaconlaw4_Heavy.mono _ _ _
      | exact beaconref0_CopyNumbers.mono _ _
      | exact beaconref0_EqNumbers.mono _ _ _
      | exact beaconref3_Apply.mono _ _ _ _ _
      | exact beaconref3_Line.mono _ _ _ _
      | exact beaconref3_Params.mono _ _ _
      | exact sgr_Line.mono _ _ _ _
      | exact LeO.none _
      | refine LeO.ite ?_ ?_
      | refine LeO.bind ?_ (fun _ => ?_)
theorem beaconlaw4_SgrApplies.mono : ∀ a0 a1 k, LeO (beaconlaw4_SgrApplies.f k a0 a1) (beaconlaw4_SgrApplies.f (k + 1) a0 a1) := by
  intro a0 a1 k
  obtain ⟨ih0, ih1, ih2, ih3, ih4, ih5, ih6, ih7⟩ := beaconlaw4_SgrApplies.mono_l k
  unfold beaconlaw4_SgrApplies.f
  repeat' first
      | (with_reducible exact ih0 _ _ _)
      | (with_reducible exact ih1 _ _ _ _)
      | (with_reducible exact ih2 _ _ _ _ _ _ _ _)
      | (with_reducible exact ih3 _ _ _ _ _ _)
      | (with_reducible exact ih4 _ _ _ _ _)
      | (with_reducible exact ih5 _ _ _ _ _ _)
      | (with_reducible exact ih6 _ _ _ _ _ _ _ _ _ _ _ _ _ _ _)
      | (with_reducible exact ih7 _ _ _ _ _ _ _ _ _ _ _ _ _ _)
      | (with_reducible exact beaconlaw0_Numbers.mono _ _)
      | (with_reducible exact beaconlaw4_Heavy.mono _ _ _)
      | (with_reducible exact beaconref0_CopyNumbers.mono _ _)
      | (with_reducible exact beaconref0_EqNumbers.mono _ _ _)
      | (with_reducible exact beaconref3_Apply.mono _ _ _ _ _)
      | (with_reducible exact beaconref3_Line.mono _ _ _ _)
      | (with_reducible exact beaconref3_Params.mono _ _ _)
      | (with_reducible exact sgr_Line.mono _ _ _ _)
      | (with_reducible exact LeO.refl _)
      | (with_reducible exact LeO.none _)
      | (with_reducible refine LeO.ite ?_ ?_)
      | (with_reducible refine LeO.bind ?_ (fun _ => ?_))
      | exact ih0 _ _ _
      | exact ih1 _ _ _ _
      | exact ih2 _ _ _ _ _ _ _ _
      | exact ih3 _ _ _ _ _ _
      | exact ih4 _ _ _ _ _
      | exact ih5 _ _ _ _ _ _
      | exact ih6 _ _ _ _ _ _ _ _ _ _ _ _ _ _ _
      | exact ih7 _ _ _ _ _ _ _ _ _ _ _ _ _ _
      | exact beaconlaw0_Numbers.mono _ _
      | exact beaconlaw4_Heavy.mono _ _ _
      | exact beaconref0_CopyNumbers.mono _ _
      | exact beaconref0_EqNumbers.mono _ _ _
      | exact beaconref3_Apply.mono _ _ _ _ _
      | exact beaconref3_Line.mono _ _ _ _
      | exact beaconref3_Params.mono _ _ _
      | exact sgr_Line.mono _ _ _ _
      | exact LeO.none _
      | refine LeO.ite ?_ ?_
      | refine LeO.bind ?_ (fun _ => ?_)
def beaconlaw4_SgrApplies.T22 : Bool × List (List Nat × List Nat) := (true, [([], []), ([0], [0]), ([], []), ([1, 2], [1, 2]), ([3], [3]), ([], []), ([5], [5]), ([], []), ([6, 7], [6, 7]), ([8], [8]), ([4, 9], [4, 9]), ([10], []), ([10, 11, 0, 1, 2, 3, 4, 5, 6, 7, 8, 9, 10, 11], [10])])
def beaconlaw4_SgrApplies.B22 : List Nat := [0, 1, 0, 7, 15, 0, 32, 0, 224, 480, 1023, 2047, 4095]
theorem beaconlaw4_SgrApplies.tab22 : rtab .any (opsOf Try.f6 22) = beaconlaw4_SgrApplies.T22 := by kernel_rfl
theorem beaconlaw4_SgrApplies.bits22 : waitsOk beaconlaw4_SgrApplies.T22.2 beaconlaw4_SgrApplies.B22 = true := by kernel_rfl
set_option maxHeartbeats 8000000 in
set_option maxRecDepth 100000 in
theorem beaconlaw4_SgrApplies.calls (k : Nat) (A0_0 : Option Addr) (c0_0 : Nat) (l0_0 : List (S56)) (A0_1 : Option Addr) (c0_1 : Nat) (l0_1 : List (List Int)) (r : Bool) (w : World) (hr0_0 : Kd.C k56 w A0_0 l0_0.length l0_0) (hc0_0 : l0_0.length ≤ c0_0) (hr0_1 : Kd.C (Kd.slice 3 (Kd.int .i64)) w A0_1 l0_1.length l0_1) (hc0_1 : l0_1.length ≤ c0_1) (h : beaconlaw4_SgrApplies.f k l0_0 l0_1 = some r) :
    Calls Try.prog 6 #[.agg #[.slice A0_0 l0_0.length c0_0, .slice A0_1 l0_1.length c0_1]] w fun e w' => e = .returned (.bool r) ∧ Below w.heap.size w w' := by
  have hu54 := Try.underlying54
  have hu56 := Try.underlying56
  have HR0_0 := Aside0.mk hr0_0
  have HC0_0 := Aside0.mk hc0_0
  clear hr0_0 hc0_0
  have HR0_1 := Aside0.mk hr0_1
  have HC0_1 := Aside0.mk hc0_1
  clear hr0_1 hc0_1
  have HB := Aside0.mk (Below.refl w.heap.size w)
  have H : ((beaconlaw4_Heavy.f k l0_0 l0_1).bind fun t242 => (if t242 = true then (some true) else (beaconlaw4_SgrApplies.l0 k 0 l0_0 l0_1))) = some r := h
  clear h
  replace H := Option.bind_eq_some_iff.mp H
  obtain ⟨t242, A20, H⟩ := H
  replace H : (if t242 = true then (some true) else (beaconlaw4_SgrApplies.l0 k 0 l0_0 l0_1)) = some r := H
  have A2 := Aside0.mk A20
  clear A20
  by_cases c3 : t242 = true
  · subst c3
    have H1 : (some true) = some r := by rw [if_pos rfl] at H; exact H
    clear H
    have H := H1
    clear H1
    obtain rfl := Option.some.inj H
    go_enter Try.func6, Try.ntmps6
    go_wp2_with (first | ((with_reducible refine gate_dst (N := 1) rfl ?_); refine box_event ?hg (N := 1) ?hd (cs := #[.slice A0_0 l0_0.length c0_0, .slice A0_1 l0_1.length c0_1]) (t := 54) ?hr ?_; (case hd => rfl); (case hg => rfl); (case hr => first | (go_simp; done) | (go_simp; rfl)); intro gb241 hg w4 hbox hb; have n0_ := Aside0.mk (below_step (by repeat (first | (with_reducible first | exact HB.out | apply below_alloc | apply pw_below_drewN | apply below_drew1) | exact HB.out)) hb); have n1_ := Aside0.mk (hbox); have n2_ := Aside0.mk ((by rw [hg]; exact (below_size (by repeat (first | (with_reducible first | exact HB.out | apply below_alloc | apply pw_below_drewN | apply below_drew1) | exact HB.out))) : w.heap.size ≤ gb241)); have n3_ := Aside0.mk ((by rw [hg]; exact (below_size (by repeat (first | (with_reducible first | exact HB.out | apply below_alloc | apply pw_below_drewN | apply below_drew1) | exact HB.out))) : w.heap.size ≤ gb241)); clear HB; have HB := n0_; have BK241 := n1_; have GW241 := n2_; have GE241 := n3_; clear n0_ n1_ n2_ n3_; clear hb hbox hg; have hcz5_0 : w4.cell? ⟨gb241, 0, none⟩ = some (.slice A0_0 l0_0.length c0_0) := (blk_cell BK241.out 0).trans rfl; have hcz5_1 : w4.cell? ⟨gb241, 1, none⟩ = some (.slice A0_1 l0_1.length c0_1) := (blk_cell BK241.out 1).trans rfl; have hfz5_0 := blk_frozen BK241.out 0; have hfz5_1 := blk_frozen BK241.out 1) | ((with_reducible refine gate_callee (f := 30) rfl ?_); refine goesL_ (some 16) rfl rfl Try.func30 (by kernel_rfl) rfl #[.agg #[.slice A0_0 l0_0.length c0_0, .slice A0_1 l0_1.length c0_1]] rfl (by (try simp only [List.map_toArray, List.map_cons, List.map_nil]); first | done | rfl | (simp only [List.length_drop, List.length_take]; rfl)) ?_; (with_reducible refine (beaconlaw4_Heavy.calls k _ _ l0_0 _ _ l0_1 true _ ?side1 ?side2 ?side3 ?side4 A2.out).mono ?_); (case side1 => repeat (first | exact (Kd.C_below HR0_0.out HB.out) | (with_reducible refine Kd.C_alloc ?_ _) | (with_reducible refine Kd.C_drewN ?_ _) | (with_reducible refine Kd.C_drew ?_))); (case side2 => exact HC0_0.out); (case side3 => repeat (first | exact (Kd.C_below HR0_1.out HB.out) | (with_reducible refine Kd.C_alloc ?_ _) | (with_reducible refine Kd.C_drewN ?_ _) | (with_reducible refine Kd.C_drew ?_))); (case side4 => exact HC0_1.out); rintro e w6 ⟨rfl, hb⟩; refine ⟨_, rfl, ?_⟩; have n0_ := Aside0.mk (blk_below (g := gb241) (o := .cells #[.slice A0_0 l0_0.length c0_0, .slice A0_1 l0_1.length c0_1] 54 (0, 0)) (by (with_reducible repeat (first | refine blk_drewN ?_ _ | refine blk_drew ?_ | refine blk_alloc ?_ _)); exact BK241.out) hb); have n1_ := Aside0.mk (below_step (by repeat (first | (with_reducible first | exact HB.out | apply below_alloc | apply pw_below_drewN | apply below_drew1 | refine below_set ?_ GE241.out) | exact HB.out)) hb); clear BK241; clear HB; have BK241 := n0_; have HB := n1_; clear n0_ n1_; (try clear hb); (try clear hb2); (try clear hk); (try clear hi)))
    go_ret
    exact ⟨by first | rfl | (simp [errW_none, errW_some] <;> rfl) | (simp [*, errW_none, errW_some] <;> rfl), by repeat (first | (with_reducible first | exact HB.out | apply below_alloc | apply pw_below_drewN | apply below_drew1 | refine below_set ?_ GE241.out) | exact HB.out)⟩
  · replace c3 := Bool.eq_false_iff.mpr c3
    subst c3
    have H1 : (beaconlaw4_SgrApplies.l0 k 0 l0_0 l0_1) = some r := by rw [if_neg (show ¬ (false = true) by decide)] at H; exact H
    clear H
    have H := H1
    clear H1
    have H' := Aside0.mk H
    clear H
    go_enter Try.func6, Try.ntmps6
    go_wp2_with (first | ((with_reducible refine gate_dst (N := 1) rfl ?_); refine box_event ?hg (N := 1) ?hd (cs := #[.slice A0_0 l0_0.length c0_0, .slice A0_1 l0_1.length c0_1]) (t := 54) ?hr ?_; (case hd => rfl); (case hg => rfl); (case hr => first | (go_simp; done) | (go_simp; rfl)); intro gb241 hg w7 hbox hb; have n0_ := Aside0.mk (below_step (by repeat (first | (with_reducible first | exact HB.out | apply below_alloc | apply pw_below_drewN | apply below_drew1) | exact HB.out)) hb); have n1_ := Aside0.mk (hbox); have n2_ := Aside0.mk ((by rw [hg]; exact (below_size (by repeat (first | (with_reducible first | exact HB.out | apply below_alloc | apply pw_below_drewN | apply below_drew1) | exact HB.out))) : w.heap.size ≤ gb241)); have n3_ := Aside0.mk ((by rw [hg]; exact (below_size (by repeat (first | (with_reducible first | exact HB.out | apply below_alloc | apply pw_below_drewN | apply below_drew1) | exact HB.out))) : w.heap.size ≤ gb241)); clear HB; have HB := n0_; have BK241 := n1_; have GW241 := n2_; have GE241 := n3_; clear n0_ n1_ n2_ n3_; clear hb hbox hg; have hcz8_0 : w7.cell? ⟨gb241, 0, none⟩ = some (.slice A0_0 l0_0.length c0_0) := (blk_cell BK241.out 0).trans rfl; have hcz8_1 : w7.cell? ⟨gb241, 1, none⟩ = some (.slice A0_1 l0_1.length c0_1) := (blk_cell BK241.out 1).trans rfl; have hfz8_0 := blk_frozen BK241.out 0; have hfz8_1 := blk_frozen BK241.out 1) | ((with_reducible refine gate_callee (f := 30) rfl ?_); refine goesL_ (some 16) rfl rfl Try.func30 (by kernel_rfl) rfl #[.agg #[.slice A0_0 l0_0.length c0_0, .slice A0_1 l0_1.length c0_1]] rfl (by (try simp only [List.map_toArray, List.map_cons, List.map_nil]); first | done | rfl | (simp only [List.length_drop, List.length_take]; rfl)) ?_; (with_reducible refine (beaconlaw4_Heavy.calls k _ _ l0_0 _ _ l0_1 false _ ?side1 ?side2 ?side3 ?side4 A2.out).mono ?_); (case side1 => repeat (first | exact (Kd.C_below HR0_0.out HB.out) | (with_reducible refine Kd.C_alloc ?_ _) | (with_reducible refine Kd.C_drewN ?_ _) | (with_reducible refine Kd.C_drew ?_))); (case side2 => exact HC0_0.out); (case side3 => repeat (first | exact (Kd.C_below HR0_1.out HB.out) | (with_reducible refine Kd.C_alloc ?_ _) | (with_reducible refine Kd.C_drewN ?_ _) | (with_reducible refine Kd.C_drew ?_))); (case side4 => exact HC0_1.out); rintro e w9 ⟨rfl, hb⟩; refine ⟨_, rfl, ?_⟩; have n0_ := Aside0.mk (blk_below (g := gb241) (o := .cells #[.slice A0_0 l0_0.length c0_0, .slice A0_1 l0_1.length c0_1] 54 (0, 0)) (by (with_reducible repeat (first | refine blk_drewN ?_ _ | refine blk_drew ?_ | refine blk_alloc ?_ _)); exact BK241.out) hb); have n1_ := Aside0.mk (below_step (by repeat (first | (with_reducible first | exact HB.out | apply below_alloc | apply pw_below_drewN | apply below_drew1 | refine below_set ?_ GE241.out) | exact HB.out)) hb); clear BK241; clear HB; have BK241 := n0_; have HB := n1_; clear n0_ n1_; (try clear hb); (try clear hb2); (try clear hk); (try clear hi)))
    go_loopg [3] k (fun kq v3 w' => ∃ (x3_1 : Int), v3 = .int .i64 x3_1 ∧ Aside0 (beaconlaw4_SgrApplies.l0 kq x3_1 l0_0 l0_1 = some r) ∧ Aside0 (kq ≤ k) ∧ Aside0 (w'.heap[gb241]? = some (.cells #[(.slice A0_0 l0_0.length c0_0), (.slice A0_1 l0_1.length c0_1)] 54 (0, 0))) ∧ Aside0 (Below w.heap.size w w'))
    case atStart => exact ⟨(0), (by first | rfl | (simp; done) | (simp [*]; done)), H', ⟨Nat.le_refl _⟩, ⟨by (with_reducible repeat (first | refine blk_drewN ?_ _ | refine blk_drew ?_ | refine blk_alloc ?_ _)); exact BK241.out⟩, ⟨by repeat (first | (with_reducible first | exact HB.out | apply below_alloc | apply pw_below_drewN | apply below_drew1 | refine below_set ?_ GE241.out) | exact HB.out)⟩⟩
    case round =>
      clear H'
      try clear p2
      try clear c3
      try clear c6
      try clear hcz5_0
      try clear hcz5_1
      try clear hcz8_0
      try clear hcz8_1
      try clear hfz5_0
      try clear hfz5_1
      try clear hfz8_0
      try clear hfz8_1
      obtain ⟨x3_1, rfl, HA, HK1, BK241, HB⟩ := hrel
      cases gk with
      | zero => exact absurd HA.out (by simp [beaconlaw4_SgrApplies.l0])
      | succ k1 =>
        have H := HA.out
        clear HA
        simp only [beaconlaw4_SgrApplies.l0] at H
        have HC10 := Aside0.mk H
        clear H
        go_upto_region 4 with (fail)
        go_cut [25] (fun v25 wc => ∃ (kq : Nat) (x25_9 : Bool), v25 = .bool x25_9 ∧ Aside0 (beaconlaw4_SgrApplies.j1 kq x3_1 x25_9 l0_0 l0_1 = some r) ∧ Aside0 (kq ≤ k1) ∧ Aside0 (wc.heap[gb241]? = some (.cells #[(.slice A0_0 l0_0.length c0_0), (.slice A0_1 l0_1.length c0_1)] 54 (0, 0))) ∧ Aside0 (Below w.heap.size w wc))
        case first =>
          have H := HC10.out
          clear HC10
          by_cases c11 : x3_1 < (l0_0.length : Int)
          · rw [if_pos c11] at H
            have c11b0 : decide (x3_1 < (l0_0.length : Int)) = true := decide_eq_true c11
            clear c11
            (first | rw [c11b0] | (simp only [i64_w, i32_w]; rw [c11b0]) | skip)
            have H' := Aside0.mk H
            clear H
            have hcz12_0 : wr.cell? ⟨gb241, 0, none⟩ = some (.slice A0_0 l0_0.length c0_0) := (blk_cell BK241.out 0).trans rfl
            have hcz12_1 : wr.cell? ⟨gb241, 1, none⟩ = some (.slice A0_1 l0_1.length c0_1) := (blk_cell BK241.out 1).trans rfl
            have hfz12_0 := blk_frozen BK241.out 0
            have hfz12_1 := blk_frozen BK241.out 1
            go_wp2
            go_meet
            case rel => exact ⟨_, (decide (x3_1 < 6)), (by first | rfl | (simp; done) | (simp [*]; done)), H', ⟨by have := HK1.out; first | omega | exact Nat.le_refl _⟩, ⟨by (with_reducible repeat (first | refine blk_drewN ?_ _ | refine blk_drew ?_ | refine blk_alloc ?_ _)); exact BK241.out⟩, ⟨by repeat (first | (with_reducible first | exact HB.out | apply below_alloc | apply pw_below_drewN | apply below_drew1 | refine below_set ?_ GE241.out) | exact HB.out)⟩⟩
          · rw [if_neg c11] at H
            have c11b0 : decide (x3_1 < (l0_0.length : Int)) = false := decide_eq_false c11
            clear c11
            (first | rw [c11b0] | (simp only [i64_w, i32_w]; rw [c11b0]) | skip)
            have H' := Aside0.mk H
            clear H
            have hcz13_0 : wr.cell? ⟨gb241, 0, none⟩ = some (.slice A0_0 l0_0.length c0_0) := (blk_cell BK241.out 0).trans rfl
            have hcz13_1 : wr.cell? ⟨gb241, 1, none⟩ = some (.slice A0_1 l0_1.length c0_1) := (blk_cell BK241.out 1).trans rfl
            have hfz13_0 := blk_frozen BK241.out 0
            have hfz13_1 := blk_frozen BK241.out 1
            go_wp2
            go_meet
            case rel => exact ⟨_, (false), (by first | rfl | (simp; done) | (simp [*]; done)), H', ⟨by have := HK1.out; first | omega | exact Nat.le_refl _⟩, ⟨by (with_reducible repeat (first | refine blk_drewN ?_ _ | refine blk_drew ?_ | refine blk_alloc ?_ _)); exact BK241.out⟩, ⟨by repeat (first | (with_reducible first | exact HB.out | apply below_alloc | apply pw_below_drewN | apply below_drew1 | refine below_set ?_ GE241.out) | exact HB.out)⟩⟩
        case rest =>
          clear HC10
          try clear c1
          try clear p2
          try clear c3
          try clear c6
          try clear c11
          try clear c11b0
          try clear hcz12_0
          try clear hcz12_1
          try clear hcz13_0
          try clear hcz13_1
          try clear hcz5_0
          try clear hcz5_1
          try clear hcz8_0
          try clear hcz8_1
          try clear hfz12_0
          try clear hfz12_1
          try clear hfz13_0
          try clear hfz13_1
          try clear hfz5_0
          try clear hfz5_1
          try clear hfz8_0
          try clear hfz8_1
          try clear p2
          obtain ⟨kq, x25_9, rfl, HA, HJ9, BK241, HB⟩ := hcut
          cases kq with
          | zero => exact absurd HA.out (by simp [beaconlaw4_SgrApplies.j1])
          | succ kj9 =>
            have H := HA.out
            clear HA
            simp only [beaconlaw4_SgrApplies.j1] at H
            by_cases c14 : x25_9 = true
            · subst c14
              have H1 : (if 0 ≤ x3_1 then (if x3_1 < (l0_0.length : Int) then ((beaconref3_Attr.f ((rd_T56 l0_0 x3_1).f0) ((rd_T56 l0_0 x3_1).f1) ((rd_T56 l0_0 x3_1).f2)).bind fun t245 => ((sgr_Line.f kj9 ((rd_T56 l0_0 x3_1).f0) ((rd_T56 l0_0 x3_1).f1) ((rd_T56 l0_0 x3_1).f2)).bind fun bt247 => (if t245 = true then ((beaconref3_Line.f kj9 ((rd_T56 l0_0 x3_1).f0) ((rd_T56 l0_0 x3_1).f1) ((rd_T56 l0_0 x3_1).f2)).bind fun t252 => (beaconlaw4_SgrApplies.j2 kj9 x3_1 t245 bt247.1 bt247.2 0 t252 l0_0 l0_1)) else (beaconlaw4_SgrApplies.j2 kj9 x3_1 t245 bt247.1 bt247.2 1 ([] : List Int) l0_0 l0_1)))) else (none)) else (none)) = some r := by rw [if_pos rfl] at H; exact H
              clear H
              have H := H1
              clear H1
              by_cases c15 : 0 ≤ x3_1
              · rw [if_pos c15] at H
                have c15b0 : decide (0 ≤ x3_1) = true := decide_eq_true c15
                clear c15
                by_cases c16 : x3_1 < (l0_0.length : Int)
                · rw [if_pos c16] at H
                  have c16b0 : decide (x3_1 < (l0_0.length : Int)) = true := decide_eq_true c16
                  clear c16
                  replace H := Option.bind_eq_some_iff.mp H
                  obtain ⟨t245, A170, H⟩ := H
                  replace H : ((sgr_Line.f kj9 ((rd_T56 l0_0 x3_1).f0) ((rd_T56 l0_0 x3_1).f1) ((rd_T56 l0_0 x3_1).f2)).bind fun bt247 => (if t245 = true then ((beaconref3_Line.f kj9 ((rd_T56 l0_0 x3_1).f0) ((rd_T56 l0_0 x3_1).f1) ((rd_T56 l0_0 x3_1).f2)).bind fun t252 => (beaconlaw4_SgrApplies.j2 kj9 x3_1 t245 bt247.1 bt247.2 0 t252 l0_0 l0_1)) else (beaconlaw4_SgrApplies.j2 kj9 x3_1 t245 bt247.1 bt247.2 1 ([] : List Int) l0_0 l0_1))) = some r := H
                  have A17 := Aside0.mk A170
                  clear A170
                  replace H := Option.bind_eq_some_iff.mp H
                  obtain ⟨⟨t247, t250⟩, A180, H⟩ := H
                  replace H : (if t245 = true then ((beaconref3_Line.f kj9 ((rd_T56 l0_0 x3_1).f0) ((rd_T56 l0_0 x3_1).f1) ((rd_T56 l0_0 x3_1).f2)).bind fun t252 => (beaconlaw4_SgrApplies.j2 kj9 x3_1 t245 t247 t250 0 t252 l0_0 l0_1)) else (beaconlaw4_SgrApplies.j2 kj9 x3_1 t245 t247 t250 1 ([] : List Int) l0_0 l0_1)) = some r := H
                  have A18 := Aside0.mk A180
                  clear A180
                  have HC19 := Aside0.mk H
                  clear H
                  have hcz20_0 : wc.cell? ⟨gb241, 0, none⟩ = some (.slice A0_0 l0_0.length c0_0) := (blk_cell BK241.out 0).trans rfl
                  have hcz20_1 : wc.cell? ⟨gb241, 1, none⟩ = some (.slice A0_1 l0_1.length c0_1) := (blk_cell BK241.out 1).trans rfl
                  have hfz20_0 := blk_frozen BK241.out 0
                  have hfz20_1 := blk_frozen BK241.out 1
                  have p244 : 0 ≤ (x3_1 : Int) := of_decide_eq_true (by first | (with_reducible assumption) | assumption)
                  have q244 : x3_1 < (l0_0.length : Int) := of_decide_eq_true (by first | (with_reducible assumption) | assumption)
                  obtain ⟨ad244, e244, hx244_0, hx244_1, hx244_2⟩ := at_T56 HR0_0.out x3_1 p244 q244
                  cases e244
                  replace hx244_0 := (HB.out.cell (World.block_lt_of_cell? w _ hx244_0)).trans hx244_0
                  replace hx244_1 := (HB.out.cell (World.block_lt_of_cell? w _ hx244_1)).trans hx244_1
                  replace hx244_2 := (HB.out.cell (World.block_lt_of_cell? w _ hx244_2)).trans hx244_2
                  replace p244 := eq_true p244
                  replace q244 := eq_true q244
                  go_upto_if 43 with (first | ((with_reducible refine gate_callee (f := 31) rfl ?_); refine goesL_ (some 33) rfl rfl Try.func31 (by kernel_rfl) rfl #[.agg #[.int .i64 ((rd_T56 l0_0 x3_1).f0), .int .i64 ((rd_T56 l0_0 x3_1).f1), .int .i64 ((rd_T56 l0_0 x3_1).f2)]] rfl (by (try simp only [List.map_toArray, List.map_cons, List.map_nil]); first | done | rfl | (simp only [List.length_drop, List.length_take]; rfl)) ?_; (with_reducible refine (beaconref3_Attr.calls ((rd_T56 l0_0 x3_1).f0) ((rd_T56 l0_0 x3_1).f1) ((rd_T56 l0_0 x3_1).f2) t245 _ A17.out).mono ?_); rintro e w21 ⟨rfl, hb⟩; refine ⟨_, rfl, ?_⟩; have n0_ := Aside0.mk (blk_below (g := gb241) (o := .cells #[.slice (some ad244) l0_0.length c0_0, .slice A0_1 l0_1.length c0_1] 54 (0, 0)) (by (with_reducible repeat (first | refine blk_drewN ?_ _ | refine blk_drew ?_ | refine blk_alloc ?_ _)); exact BK241.out) hb); have n1_ := Aside0.mk (below_step (by repeat (first | (with_reducible first | exact HB.out | apply below_alloc | apply pw_below_drewN | apply below_drew1 | refine below_set ?_ GE241.out) | exact HB.out)) hb); clear BK241; clear HB; have BK241 := n0_; have HB := n1_; clear n0_ n1_; (try clear hb); (try clear hb2); (try clear hk); (try clear hi); have hcz22_0 : w21.cell? ⟨gb241, 0, none⟩ = some (.slice (some ad244) l0_0.length c0_0) := (blk_cell BK241.out 0).trans rfl; have hcz22_1 : w21.cell? ⟨gb241, 1, none⟩ = some (.slice A0_1 l0_1.length c0_1) := (blk_cell BK241.out 1).trans rfl; have hfz22_0 := blk_frozen BK241.out 0; have hfz22_1 := blk_frozen BK241.out 1; have p246 : 0 ≤ (x3_1 : Int) := of_decide_eq_true (by first | (with_reducible assumption) | assumption); have q246 : x3_1 < (l0_0.length : Int) := of_decide_eq_true (by first | (with_reducible assumption) | assumption); obtain ⟨ad246, e246, hx246_0, hx246_1, hx246_2⟩ := at_T56 HR0_0.out x3_1 p246 q246; obtain rfl : ad244 = ad246 := (by injection e246); replace hx246_0 := (HB.out.cell (World.block_lt_of_cell? w _ hx246_0)).trans hx246_0; replace hx246_1 := (HB.out.cell (World.block_lt_of_cell? w _ hx246_1)).trans hx246_1; replace hx246_2 := (HB.out.cell (World.block_lt_of_cell? w _ hx246_2)).trans hx246_2; replace p246 := eq_true p246; replace q246 := eq_true q246) | ((with_reducible refine gate_callee (f := 32) rfl ?_); refine goesL_ (some 40) rfl rfl Try.func32 (by kernel_rfl) rfl #[.agg #[.int .i64 ((rd_T56 l0_0 x3_1).f0), .int .i64 ((rd_T56 l0_0 x3_1).f1), .int .i64 ((rd_T56 l0_0 x3_1).f2)]] rfl (by (try simp only [List.map_toArray, List.map_cons, List.map_nil]); first | done | rfl | (simp only [List.length_drop, List.length_take]; rfl)) ?_; (with_reducible refine (sgr_Line.calls kj9 ((rd_T56 l0_0 x3_1).f0) ((rd_T56 l0_0 x3_1).f1) ((rd_T56 l0_0 x3_1).f2) t247 t250 _ A18.out).mono ?_); rintro e w23 ⟨v248, rfl, ho0, hb⟩; refine ⟨_, rfl, ?_⟩; have n0_ := Aside0.mk (Kd.R_lower ho0 (below_size (by repeat (first | (with_reducible first | exact HB.out | apply below_alloc | apply pw_below_drewN | apply below_drew1 | refine below_set ?_ GE241.out) | exact HB.out)))); have n1_ := Aside0.mk (blk_below (g := gb241) (o := .cells #[.slice (some ad244) l0_0.length c0_0, .slice A0_1 l0_1.length c0_1] 54 (0, 0)) (by (with_reducible repeat (first | refine blk_drewN ?_ _ | refine blk_drew ?_ | refine blk_alloc ?_ _)); exact BK241.out) hb); have n2_ := Aside0.mk (below_step (by repeat (first | (with_reducible first | exact HB.out | apply below_alloc | apply pw_below_drewN | apply below_drew1 | refine below_set ?_ GE241.out) | exact HB.out)) hb); clear BK241; clear HB; have HO249 := n0_; have BK241 := n1_; have HB := n2_; clear n0_ n1_ n2_; (try clear hb); (try clear hb2); (try clear hk); (try clear hi); (try clear ho0)))
                  (try simp only [Act.put, List.setIfInBounds_toArray, List.set_cons_zero, List.set_cons_succ])
                  go_cut [7, 8] (fun v7 v8 wc => ∃ (kq : Nat) (x7_18 : Int) (x8_18 : List Int), v7 = .int .i64 x7_18 ∧ Aside0 (beaconlaw4_SgrApplies.j2 kq x3_1 t245 t247 t250 x7_18 x8_18 l0_0 l0_1 = some r) ∧ Aside0 (kq ≤ kj9) ∧ Aside0 (Kd.R (Kd.int .i64) 3 wc w.heap.size (fun k_ => some k_ ≠ (v8 : Value).ownBlock) v248 t247) ∧ Aside0 (Kd.R (Kd.int .i64) 3 wc w.heap.size (fun k_ => some k_ ≠ (v248 : Value).ownBlock) v8 x8_18) ∧ Aside0 (wc.heap[gb241]? = some (.cells #[(.slice (some ad244) l0_0.length c0_0), (.slice A0_1 l0_1.length c0_1)] 54 (0, 0))) ∧ Aside0 (Below w.heap.size w wc))
                  case first =>
                    have H := HC19.out
                    clear HC19
                    by_cases c24 : t245 = true
                    · subst c24
                      have H1 : ((beaconref3_Line.f kj9 ((rd_T56 l0_0 x3_1).f0) ((rd_T56 l0_0 x3_1).f1) ((rd_T56 l0_0 x3_1).f2)).bind fun t252 => (beaconlaw4_SgrApplies.j2 kj9 x3_1 true t247 t250 0 t252 l0_0 l0_1)) = some r := by rw [if_pos rfl] at H; exact H
                      clear H
                      have H := H1
                      clear H1
                      replace H := Option.bind_eq_some_iff.mp H
                      obtain ⟨t252, A250, H⟩ := H
                      replace H : (beaconlaw4_SgrApplies.j2 kj9 x3_1 true t247 t250 0 t252 l0_0 l0_1) = some r := H
                      have A25 := Aside0.mk A250
                      clear A250
                      have H' := Aside0.mk H
                      clear H
                      have hcz26_0 : w23.cell? ⟨gb241, 0, none⟩ = some (.slice (some ad244) l0_0.length c0_0) := (blk_cell BK241.out 0).trans rfl
                      have hcz26_1 : w23.cell? ⟨gb241, 1, none⟩ = some (.slice A0_1 l0_1.length c0_1) := (blk_cell BK241.out 1).trans rfl
                      have hfz26_0 := blk_frozen BK241.out 0
                      have hfz26_1 := blk_frozen BK241.out 1
                      have p251 : 0 ≤ (x3_1 : Int) := of_decide_eq_true (by first | (with_reducible assumption) | assumption)
                      have q251 : x3_1 < (l0_0.length : Int) := of_decide_eq_true (by first | (with_reducible assumption) | assumption)
                      obtain ⟨ad251, e251, hx251_0, hx251_1, hx251_2⟩ := at_T56 HR0_0.out x3_1 p251 q251
                      obtain rfl : ad244 = ad251 := (by injection e251)
                      replace hx251_0 := (HB.out.cell (World.block_lt_of_cell? w _ hx251_0)).trans hx251_0
                      replace hx251_1 := (HB.out.cell (World.block_lt_of_cell? w _ hx251_1)).trans hx251_1
                      replace hx251_2 := (HB.out.cell (World.block_lt_of_cell? w _ hx251_2)).trans hx251_2
                      replace p251 := eq_true p251
                      replace q251 := eq_true q251
                      go_wp2_with (first | ((with_reducible refine gate_callee (f := 33) rfl ?_); refine goesL_ (some 49) rfl rfl Try.func33 (by kernel_rfl) rfl #[.agg #[.int .i64 ((rd_T56 l0_0 x3_1).f0), .int .i64 ((rd_T56 l0_0 x3_1).f1), .int .i64 ((rd_T56 l0_0 x3_1).f2)]] rfl (by (try simp only [List.map_toArray, List.map_cons, List.map_nil]); first | done | rfl | (simp only [List.length_drop, List.length_take]; rfl)) ?_; (with_reducible refine (beaconref3_Line.calls kj9 ((rd_T56 l0_0 x3_1).f0) ((rd_T56 l0_0 x3_1).f1) ((rd_T56 l0_0 x3_1).f2) t252 _ A25.out).mono ?_); rintro e w27 ⟨v253, rfl, ho0, hb⟩; refine ⟨_, rfl, ?_⟩; have n0_ := Aside0.mk (Kd.R_elder' (by (with_reducible repeat (first | apply Kd.R_alloc | apply Kd.R_drewN | apply Kd.R_drew)); exact HO249.out) (Kd.R_base ho0) hb); have n1_ := Aside0.mk (Kd.R_lower (Kd.R_new' ho0 (Kd.R_lt (by (with_reducible repeat (first | apply Kd.R_alloc | apply Kd.R_drewN | apply Kd.R_drew)); exact HO249.out))) (below_size (by repeat (first | (with_reducible first | exact HB.out | apply below_alloc | apply pw_below_drewN | apply below_drew1 | refine below_set ?_ GE241.out) | exact HB.out)))); have n2_ := Aside0.mk (blk_below (g := gb241) (o := .cells #[.slice (some ad244) l0_0.length c0_0, .slice A0_1 l0_1.length c0_1] 54 (0, 0)) (by (with_reducible repeat (first | refine blk_drewN ?_ _ | refine blk_drew ?_ | refine blk_alloc ?_ _)); exact BK241.out) hb); have n3_ := Aside0.mk (below_step (by repeat (first | (with_reducible first | exact HB.out | apply below_alloc | apply pw_below_drewN | apply below_drew1 | refine below_set ?_ GE241.out) | exact HB.out)) hb); clear HO249; clear BK241; clear HB; have HO249 := n0_; have HO254 := n1_; have BK241 := n2_; have HB := n3_; clear n0_ n1_ n2_ n3_; (try clear hb); (try clear hb2); (try clear hk); (try clear hi); (try clear ho0)))
                      go_meet
                      case rel => exact ⟨_, (0), (t252), (by first | rfl | (simp; done) | (simp [*]; done)), H', ⟨by have := HK1.out; have := HJ9.out; first | omega | exact Nat.le_refl _⟩, ⟨by (with_reducible repeat (first | apply Kd.R_alloc | apply Kd.R_drewN | apply Kd.R_drew)); exact Kd.R_mono HO249.out (fun _ hk => hk.2)⟩, ⟨by (with_reducible repeat (first | apply Kd.R_alloc | apply Kd.R_drewN | apply Kd.R_drew)); exact Kd.R_mono HO254.out (fun _ hk => hk.2)⟩, ⟨by (with_reducible repeat (first | refine blk_drewN ?_ _ | refine blk_drew ?_ | refine blk_alloc ?_ _)); exact BK241.out⟩, ⟨by repeat (first | (with_reducible first | exact HB.out | apply below_alloc | apply pw_below_drewN | apply below_drew1 | refine below_set ?_ GE241.out) | exact HB.out)⟩⟩
                    · replace c24 := Bool.eq_false_iff.mpr c24
                      subst c24
                      have H1 : (beaconlaw4_SgrApplies.j2 kj9 x3_1 false t247 t250 1 ([] : List Int) l0_0 l0_1) = some r := by rw [if_neg (show ¬ (false = true) by decide)] at H; exact H
                      clear H
                      have H := H1
                      clear H1
                      have H' := Aside0.mk H
                      clear H
                      go_wp2
                      go_meet
                      case rel => exact ⟨_, (1), (([] : List Int)), (by first | rfl | (simp; done) | (simp [*]; done)), H', ⟨by have := HK1.out; have := HJ9.out; first | omega | exact Nat.le_refl _⟩, ⟨by (with_reducible repeat (first | apply Kd.R_alloc | apply Kd.R_drewN | apply Kd.R_drew)); exact Kd.R_mono HO249.out (fun _ hk => (by simp [Value.ownBlock]))⟩, ⟨by first | exact Kd.R_nil _ _ _ _ _ | exact Kd.N_nil _ _ _ _ _ | exact Kd.V_nil _ _ _ _ _ | exact Kd.Q_nil _ _ _ _ _ | exact Kd.S_nil _ _ _ _ _⟩, ⟨by (with_reducible repeat (first | refine blk_drewN ?_ _ | refine blk_drew ?_ | refine blk_alloc ?_ _)); exact BK241.out⟩, ⟨by repeat (first | (with_reducible first | exact HB.out | apply below_alloc | apply pw_below_drewN | apply below_drew1 | refine below_set ?_ GE241.out) | exact HB.out)⟩⟩
                  case rest =>
                    clear HC19
                    try clear c1
                    try clear c2
                    try clear p2
                    try clear q2
                    try clear hx2
                    try clear c3
                    try clear c6
                    try clear c11
                    try clear c11b0
                    try clear c14
                    try clear c15
                    try clear c15b0
                    try clear c16
                    try clear c16b0
                    try clear c24
                    try clear p24
                    try clear q24
                    try clear hx24
                    try clear p25
                    try clear q25
                    try clear hx25
                    try clear hcz12_0
                    try clear hcz12_1
                    try clear hcz13_0
                    try clear hcz13_1
                    try clear hcz20_0
                    try clear hcz20_1
                    try clear hcz22_0
                    try clear hcz22_1
                    try clear hcz26_0
                    try clear hcz26_1
                    try clear hcz5_0
                    try clear hcz5_1
                    try clear hcz8_0
                    try clear hcz8_1
                    try clear hfz12_0
                    try clear hfz12_1
                    try clear hfz13_0
                    try clear hfz13_1
                    try clear hfz20_0
                    try clear hfz20_1
                    try clear hfz22_0
                    try clear hfz22_1
                    try clear hfz26_0
                    try clear hfz26_1
                    try clear hfz5_0
                    try clear hfz5_1
                    try clear hfz8_0
                    try clear hfz8_1
                    try clear hx244_0
                    try clear hx244_1
                    try clear hx244_2
                    try clear hx246_0
                    try clear hx246_1
                    try clear hx246_2
                    try clear hx251_0
                    try clear hx251_1
                    try clear hx251_2
                    try clear p2
                    try clear p244
                    try clear p246
                    try clear p251
                    try clear q244
                    try clear q246
                    try clear q251
                    obtain ⟨kq, x7_18, x8_18, rfl, HA, HJ18, HO_5, HO_8, BK241, HB⟩ := hcut
                    cases kq with
                    | zero => exact absurd HA.out (by simp [beaconlaw4_SgrApplies.j2])
                    | succ kj18 =>
                      have H := HA.out
                      clear HA
                      simp only [beaconlaw4_SgrApplies.j2] at H
                      have HC28 := Aside0.mk H
                      clear H
                      go_upto_region 12 with (fail)
                      go_cut [70] (fun v70 wc => ∃ (kq : Nat) (x70_27 : Bool), v70 = .bool x70_27 ∧ Aside0 (beaconlaw4_SgrApplies.j3 kq x3_1 t245 t247 x70_27 l0_0 l0_1 = some r) ∧ Aside0 (kq ≤ kj18) ∧ Aside0 (Kd.R (Kd.int .i64) 3 wc w.heap.size (fun _ => True) v248 t247) ∧ Aside0 (wc.heap[gb241]? = some (.cells #[(.slice (some ad244) l0_0.length c0_0), (.slice A0_1 l0_1.length c0_1)] 54 (0, 0))) ∧ Aside0 (Below w.heap.size w wc))
                      case first =>
                        have H := HC28.out
                        clear HC28
                        by_cases c29 : 0 ≤ x3_1
                        · rw [if_pos c29] at H
                          have c29b0 : decide (0 ≤ x3_1) = true := decide_eq_true c29
                          clear c29
                          (first | rw [c29b0] | (simp only [i64_w, i32_w]; rw [c29b0]) | skip)
                          by_cases c30 : x3_1 < (l0_0.length : Int)
                          · rw [if_pos c30] at H
                            have c30b0 : decide (x3_1 < (l0_0.length : Int)) = true := decide_eq_true c30
                            clear c30
                            replace H := Option.bind_eq_some_iff.mp H
                            obtain ⟨t256, A310, H⟩ := H
                            replace H : ((beaconlaw4_num.f t256).bind fun t257 => (if t257 = x7_18 then ((beaconlaw4_num.f t250).bind fun t258 => (if t258 = x7_18 then ((beaconref0_EqNumbers.f kj18 t247 x8_18).bind fun t259 => (beaconlaw4_SgrApplies.j3 kj18 x3_1 t245 t247 (!t259) l0_0 l0_1)) else (beaconlaw4_SgrApplies.j3 kj18 x3_1 t245 t247 true l0_0 l0_1))) else (beaconlaw4_SgrApplies.j3 kj18 x3_1 t245 t247 true l0_0 l0_1))) = some r := H
                            have A31 := Aside0.mk A310
                            clear A310
                            replace H := Option.bind_eq_some_iff.mp H
                            obtain ⟨t257, A320, H⟩ := H
                            replace H : (if t257 = x7_18 then ((beaconlaw4_num.f t250).bind fun t258 => (if t258 = x7_18 then ((beaconref0_EqNumbers.f kj18 t247 x8_18).bind fun t259 => (beaconlaw4_SgrApplies.j3 kj18 x3_1 t245 t247 (!t259) l0_0 l0_1)) else (beaconlaw4_SgrApplies.j3 kj18 x3_1 t245 t247 true l0_0 l0_1))) else (beaconlaw4_SgrApplies.j3 kj18 x3_1 t245 t247 true l0_0 l0_1)) = some r := H
                            have A32 := Aside0.mk A320
                            clear A320
                            by_cases c33 : t257 = x7_18
                            · rw [if_pos c33] at H
                              have c33b0 : (t257 == x7_18) = true := beq_iff_eq.mpr c33
                              have c33b1 : (t257 != x7_18) = false := bne_eq_false_iff_eq.mpr c33
                              clear c33
                              replace H := Option.bind_eq_some_iff.mp H
                              obtain ⟨t258, A340, H⟩ := H
                              replace H : (if t258 = x7_18 then ((beaconref0_EqNumbers.f kj18 t247 x8_18).bind fun t259 => (beaconlaw4_SgrApplies.j3 kj18 x3_1 t245 t247 (!t259) l0_0 l0_1)) else (beaconlaw4_SgrApplies.j3 kj18 x3_1 t245 t247 true l0_0 l0_1)) = some r := H
                              have A34 := Aside0.mk A340
                              clear A340
                              by_cases c35 : t258 = x7_18
                              · rw [if_pos c35] at H
                                have c35b0 : (t258 == x7_18) = true := beq_iff_eq.mpr c35
                                have c35b1 : (t258 != x7_18) = false := bne_eq_false_iff_eq.mpr c35
                                clear c35
                                replace H := Option.bind_eq_some_iff.mp H
                                obtain ⟨t259, A360, H⟩ := H
                                replace H : (beaconlaw4_SgrApplies.j3 kj18 x3_1 t245 t247 (!t259) l0_0 l0_1) = some r := H
                                have A36 := Aside0.mk A360
                                clear A360
                                have H' := Aside0.mk H
                                clear H
                                have hcz37_0 : wc.cell? ⟨gb241, 0, none⟩ = some (.slice (some ad244) l0_0.length c0_0) := (blk_cell BK241.out 0).trans rfl
                                have hcz37_1 : wc.cell? ⟨gb241, 1, none⟩ = some (.slice A0_1 l0_1.length c0_1) := (blk_cell BK241.out 1).trans rfl
                                have hfz37_0 := blk_frozen BK241.out 0
                                have hfz37_1 := blk_frozen BK241.out 1
                                have p255 : 0 ≤ (x3_1 : Int) := of_decide_eq_true (by first | (with_reducible assumption) | assumption)
                                have q255 : x3_1 < (l0_0.length : Int) := of_decide_eq_true (by first | (with_reducible assumption) | assumption)
                                obtain ⟨ad255, e255, hx255_0, hx255_1, hx255_2⟩ := at_T56 HR0_0.out x3_1 p255 q255
                                obtain rfl : ad244 = ad255 := (by injection e255)
                                replace hx255_0 := (HB.out.cell (World.block_lt_of_cell? w _ hx255_0)).trans hx255_0
                                replace hx255_1 := (HB.out.cell (World.block_lt_of_cell? w _ hx255_1)).trans hx255_1
                                replace hx255_2 := (HB.out.cell (World.block_lt_of_cell? w _ hx255_2)).trans hx255_2
                                replace p255 := eq_true p255
                                replace q255 := eq_true q255
                                go_wp2_with (first | ((with_reducible refine gate_callee (f := 34) rfl ?_); refine goesL_ (some 55) rfl rfl Try.func34 (by kernel_rfl) rfl #[.agg #[.int .i64 ((rd_T56 l0_0 x3_1).f0), .int .i64 ((rd_T56 l0_0 x3_1).f1), .int .i64 ((rd_T56 l0_0 x3_1).f2)]] rfl (by (try simp only [List.map_toArray, List.map_cons, List.map_nil]); first | done | rfl | (simp only [List.length_drop, List.length_take]; rfl)) ?_; (with_reducible refine (sgr_Check.calls ((rd_T56 l0_0 x3_1).f0) ((rd_T56 l0_0 x3_1).f1) ((rd_T56 l0_0 x3_1).f2) t256 _ A31.out).mono ?_); rintro e w38 ⟨rfl, hb⟩; refine ⟨_, rfl, ?_⟩; have n0_ := Aside0.mk (Kd.R_below (by (with_reducible repeat (first | apply Kd.R_alloc | apply Kd.R_drewN | apply Kd.R_drew)); exact HO_5.out) hb); have n1_ := Aside0.mk (Kd.R_below (by (with_reducible repeat (first | apply Kd.R_alloc | apply Kd.R_drewN | apply Kd.R_drew)); exact HO_8.out) hb); have n2_ := Aside0.mk (blk_below (g := gb241) (o := .cells #[.slice (some ad244) l0_0.length c0_0, .slice A0_1 l0_1.length c0_1] 54 (0, 0)) (by (with_reducible repeat (first | refine blk_drewN ?_ _ | refine blk_drew ?_ | refine blk_alloc ?_ _)); exact BK241.out) hb); have n3_ := Aside0.mk (below_step (by repeat (first | (with_reducible first | exact HB.out | apply below_alloc | apply pw_below_drewN | apply below_drew1 | refine below_set ?_ GE241.out) | exact HB.out)) hb); clear HO_5; clear HO_8; clear BK241; clear HB; have HO_5 := n0_; have HO_8 := n1_; have BK241 := n2_; have HB := n3_; clear n0_ n1_ n2_ n3_; (try clear hb); (try clear hb2); (try clear hk); (try clear hi)) | ((with_reducible refine gate_callee (f := 27) rfl ?_); refine goesL_ (some 56) rfl rfl Try.func27 (by kernel_rfl) rfl #[.int .i64 t256] rfl (by (try simp only [List.map_toArray, List.map_cons, List.map_nil]); first | done | rfl | (simp only [List.length_drop, List.length_take]; rfl)) ?_; (with_reducible refine (beaconlaw4_num.calls t256 t257 _ A32.out).mono ?_); rintro e w' ⟨rfl, ⟨nd, rfl⟩⟩; refine ⟨_, rfl, ?_⟩) | (go_at_call 27; (with_reducible refine (beaconlaw4_num.calls t250 t258 _ A34.out).mono ?_); rintro e w' ⟨rfl, ⟨nd, rfl⟩⟩; obtain ⟨Ao39, co39, eo39⟩ := Kd.R_slice HO_5.out; subst eo39; obtain ⟨Ao40, co40, eo40⟩ := Kd.R_slice HO_8.out; subst eo40) | (go_at_call 35; (with_reducible refine (beaconref0_EqNumbers.calls kj18 _ _ t247 _ _ x8_18 t259 _ ?side1 ?side2 ?side3 ?side4 A36.out).mono ?_); (case side1 => repeat (first | exact (Kd.R_reads' HO_5.out).2.2 | (with_reducible refine Kd.C_alloc ?_ _) | (with_reducible refine Kd.C_drewN ?_ _) | (with_reducible refine Kd.C_drew ?_))); (case side2 => exact (Kd.R_reads' HO_5.out).2.1); (case side3 => repeat (first | exact (Kd.R_reads' HO_8.out).2.2 | (with_reducible refine Kd.C_alloc ?_ _) | (with_reducible refine Kd.C_drewN ?_ _) | (with_reducible refine Kd.C_drew ?_))); (case side4 => exact (Kd.R_reads' HO_8.out).2.1); rintro e w' ⟨rfl, ⟨nd, rfl⟩⟩))
                                go_meet
                                case rel => exact ⟨_, (!t259), (by first | rfl | (simp; done) | (simp [*]; done)), H', ⟨by have := HK1.out; have := HJ9.out; have := HJ18.out; first | omega | exact Nat.le_refl _⟩, ⟨by (with_reducible repeat (first | apply Kd.R_alloc | apply Kd.R_drewN | apply Kd.R_drew)); exact Kd.R_mono HO_5.out (fun _ hk => trivial)⟩, ⟨by (with_reducible repeat (first | refine blk_drewN ?_ _ | refine blk_drew ?_ | refine blk_alloc ?_ _)); exact BK241.out⟩, ⟨by repeat (first | (with_reducible first | exact HB.out | apply below_alloc | apply pw_below_drewN | apply below_drew1 | refine below_set ?_ GE241.out) | exact HB.out)⟩⟩
                              · rw [if_neg c35] at H
                                have c35b0 : (t258 == x7_18) = false := beq_eq_false_iff_ne.mpr c35
                                have c35b1 : (t258 != x7_18) = true := bne_iff_ne.mpr c35
                                have H' := Aside0.mk H
                                clear H
                                have hcz41_0 : wc.cell? ⟨gb241, 0, none⟩ = some (.slice (some ad244) l0_0.length c0_0) := (blk_cell BK241.out 0).trans rfl
                                have hcz41_1 : wc.cell? ⟨gb241, 1, none⟩ = some (.slice A0_1 l0_1.length c0_1) := (blk_cell BK241.out 1).trans rfl
                                have hfz41_0 := blk_frozen BK241.out 0
                                have hfz41_1 := blk_frozen BK241.out 1
                                have p255 : 0 ≤ (x3_1 : Int) := of_decide_eq_true (by first | (with_reducible assumption) | assumption)
                                have q255 : x3_1 < (l0_0.length : Int) := of_decide_eq_true (by first | (with_reducible assumption) | assumption)
                                obtain ⟨ad255, e255, hx255_0, hx255_1, hx255_2⟩ := at_T56 HR0_0.out x3_1 p255 q255
                                obtain rfl : ad244 = ad255 := (by injection e255)
                                replace hx255_0 := (HB.out.cell (World.block_lt_of_cell? w _ hx255_0)).trans hx255_0
                                replace hx255_1 := (HB.out.cell (World.block_lt_of_cell? w _ hx255_1)).trans hx255_1
                                replace hx255_2 := (HB.out.cell (World.block_lt_of_cell? w _ hx255_2)).trans hx255_2
                                replace p255 := eq_true p255
                                replace q255 := eq_true q255
                                go_wp2_with (first | ((with_reducible refine gate_callee (f := 34) rfl ?_); refine goesL_ (some 55) rfl rfl Try.func34 (by kernel_rfl) rfl #[.agg #[.int .i64 ((rd_T56 l0_0 x3_1).f0), .int .i64 ((rd_T56 l0_0 x3_1).f1), .int .i64 ((rd_T56 l0_0 x3_1).f2)]] rfl (by (try simp only [List.map_toArray, List.map_cons, List.map_nil]); first | done | rfl | (simp only [List.length_drop, List.length_take]; rfl)) ?_; (with_reducible refine (sgr_Check.calls ((rd_T56 l0_0 x3_1).f0) ((rd_T56 l0_0 x3_1).f1) ((rd_T56 l0_0 x3_1).f2) t256 _ A31.out).mono ?_); rintro e w42 ⟨rfl, hb⟩; refine ⟨_, rfl, ?_⟩; have n0_ := Aside0.mk (Kd.R_below (by (with_reducible repeat (first | apply Kd.R_alloc | apply Kd.R_drewN | apply Kd.R_drew)); exact HO_5.out) hb); have n1_ := Aside0.mk (Kd.R_below (by (with_reducible repeat (first | apply Kd.R_alloc | apply Kd.R_drewN | apply Kd.R_drew)); exact HO_8.out) hb); have n2_ := Aside0.mk (blk_below (g := gb241) (o := .cells #[.slice (some ad244) l0_0.length c0_0, .slice A0_1 l0_1.length c0_1] 54 (0, 0)) (by (with_reducible repeat (first | refine blk_drewN ?_ _ | refine blk_drew ?_ | refine blk_alloc ?_ _)); exact BK241.out) hb); have n3_ := Aside0.mk (below_step (by repeat (first | (with_reducible first | exact HB.out | apply below_alloc | apply pw_below_drewN | apply below_drew1 | refine below_set ?_ GE241.out) | exact HB.out)) hb); clear HO_5; clear HO_8; clear BK241; clear HB; have HO_5 := n0_; have HO_8 := n1_; have BK241 := n2_; have HB := n3_; clear n0_ n1_ n2_ n3_; (try clear hb); (try clear hb2); (try clear hk); (try clear hi)) | ((with_reducible refine gate_callee (f := 27) rfl ?_); refine goesL_ (some 56) rfl rfl Try.func27 (by kernel_rfl) rfl #[.int .i64 t256] rfl (by (try simp only [List.map_toArray, List.map_cons, List.map_nil]); first | done | rfl | (simp only [List.length_drop, List.length_take]; rfl)) ?_; (with_reducible refine (beaconlaw4_num.calls t256 t257 _ A32.out).mono ?_); rintro e w' ⟨rfl, ⟨nd, rfl⟩⟩; refine ⟨_, rfl, ?_⟩) | (go_at_call 27; (with_reducible refine (beaconlaw4_num.calls t250 t258 _ A34.out).mono ?_); rintro e w' ⟨rfl, ⟨nd, rfl⟩⟩))
                                go_meet
                                case rel => exact ⟨_, (true), (by first | rfl | (simp; done) | (simp [*]; done)), H', ⟨by have := HK1.out; have := HJ9.out; have := HJ18.out; first | omega | exact Nat.le_refl _⟩, ⟨by (with_reducible repeat (first | apply Kd.R_alloc | apply Kd.R_drewN | apply Kd.R_drew)); exact Kd.R_mono HO_5.out (fun _ hk => trivial)⟩, ⟨by (with_reducible repeat (first | refine blk_drewN ?_ _ | refine blk_drew ?_ | refine blk_alloc ?_ _)); exact BK241.out⟩, ⟨by repeat (first | (with_reducible first | exact HB.out | apply below_alloc | apply pw_below_drewN | apply below_drew1 | refine below_set ?_ GE241.out) | exact HB.out)⟩⟩
                            · rw [if_neg c33] at H
                              have c33b0 : (t257 == x7_18) = false := beq_eq_false_iff_ne.mpr c33
                              have c33b1 : (t257 != x7_18) = true := bne_iff_ne.mpr c33
                              have H' := Aside0.mk H
                              clear H
                              have hcz43_0 : wc.cell? ⟨gb241, 0, none⟩ = some (.slice (some ad244) l0_0.length c0_0) := (blk_cell BK241.out 0).trans rfl
                              have hcz43_1 : wc.cell? ⟨gb241, 1, none⟩ = some (.slice A0_1 l0_1.length c0_1) := (blk_cell BK241.out 1).trans rfl
                              have hfz43_0 := blk_frozen BK241.out 0
                              have hfz43_1 := blk_frozen BK241.out 1
                              have p255 : 0 ≤ (x3_1 : Int) := of_decide_eq_true (by first | (with_reducible assumption) | assumption)
                              have q255 : x3_1 < (l0_0.length : Int) := of_decide_eq_true (by first | (with_reducible assumption) | assumption)
                              obtain ⟨ad255, e255, hx255_0, hx255_1, hx255_2⟩ := at_T56 HR0_0.out x3_1 p255 q255
                              obtain rfl : ad244 = ad255 := (by injection e255)
                              replace hx255_0 := (HB.out.cell (World.block_lt_of_cell? w _ hx255_0)).trans hx255_0
                              replace hx255_1 := (HB.out.cell (World.block_lt_of_cell? w _ hx255_1)).trans hx255_1
                              replace hx255_2 := (HB.out.cell (World.block_lt_of_cell? w _ hx255_2)).trans hx255_2
                              replace p255 := eq_true p255
                              replace q255 := eq_true q255
                              go_wp2_with (first | ((with_reducible refine gate_callee (f := 34) rfl ?_); refine goesL_ (some 55) rfl rfl Try.func34 (by kernel_rfl) rfl #[.agg #[.int .i64 ((rd_T56 l0_0 x3_1).f0), .int .i64 ((rd_T56 l0_0 x3_1).f1), .int .i64 ((rd_T56 l0_0 x3_1).f2)]] rfl (by (try simp only [List.map_toArray, List.map_cons, List.map_nil]); first | done | rfl | (simp only [List.length_drop, List.length_take]; rfl)) ?_; (with_reducible refine (sgr_Check.calls ((rd_T56 l0_0 x3_1).f0) ((rd_T56 l0_0 x3_1).f1) ((rd_T56 l0_0 x3_1).f2) t256 _ A31.out).mono ?_); rintro e w44 ⟨rfl, hb⟩; refine ⟨_, rfl, ?_⟩; have n0_ := Aside0.mk (Kd.R_below (by (with_reducible repeat (first | apply Kd.R_alloc | apply Kd.R_drewN | apply Kd.R_drew)); exact HO_5.out) hb); have n1_ := Aside0.mk (Kd.R_below (by (with_reducible repeat (first | apply Kd.R_alloc | apply Kd.R_drewN | apply Kd.R_drew)); exact HO_8.out) hb); have n2_ := Aside0.mk (blk_below (g := gb241) (o := .cells #[.slice (some ad244) l0_0.length c0_0, .slice A0_1 l0_1.length c0_1] 54 (0, 0)) (by (with_reducible repeat (first | refine blk_drewN ?_ _ | refine blk_drew ?_ | refine blk_alloc ?_ _)); exact BK241.out) hb); have n3_ := Aside0.mk (below_step (by repeat (first | (with_reducible first | exact HB.out | apply below_alloc | apply pw_below_drewN | apply below_drew1 | refine below_set ?_ GE241.out) | exact HB.out)) hb); clear HO_5; clear HO_8; clear BK241; clear HB; have HO_5 := n0_; have HO_8 := n1_; have BK241 := n2_; have HB := n3_; clear n0_ n1_ n2_ n3_; (try clear hb); (try clear hb2); (try clear hk); (try clear hi)) | ((with_reducible refine gate_callee (f := 27) rfl ?_); refine goesL_ (some 56) rfl rfl Try.func27 (by kernel_rfl) rfl #[.int .i64 t256] rfl (by (try simp only [List.map_toArray, List.map_cons, List.map_nil]); first | done | rfl | (simp only [List.length_drop, List.length_take]; rfl)) ?_; (with_reducible refine (beaconlaw4_num.calls t256 t257 _ A32.out).mono ?_); rintro e w' ⟨rfl, ⟨nd, rfl⟩⟩; refine ⟨_, rfl, ?_⟩))
                              go_meet
                              case rel => exact ⟨_, (true), (by first | rfl | (simp; done) | (simp [*]; done)), H', ⟨by have := HK1.out; have := HJ9.out; have := HJ18.out; first | omega | exact Nat.le_refl _⟩, ⟨by (with_reducible repeat (first | apply Kd.R_alloc | apply Kd.R_drewN | apply Kd.R_drew)); exact Kd.R_mono HO_5.out (fun _ hk => trivial)⟩, ⟨by (with_reducible repeat (first | refine blk_drewN ?_ _ | refine blk_drew ?_ | refine blk_alloc ?_ _)); exact BK241.out⟩, ⟨by repeat (first | (with_reducible first | exact HB.out | apply below_alloc | apply pw_below_drewN | apply below_drew1 | refine below_set ?_ GE241.out) | exact HB.out)⟩⟩
                          · rw [if_neg c30] at H
                            exact absurd H (by simp)
                        · rw [if_neg c29] at H
                          exact absurd H (by simp)
                      case rest =>
                        clear HC28
                        try clear c1
                        try clear c2
                        try clear p2
                        try clear q2
                        try clear hx2
                        try clear c3
                        try clear c6
                        try clear c11
                        try clear c11b0
                        try clear c14
                        try clear c15
                        try clear c15b0
                        try clear c16
                        try clear c16b0
                        try clear c24
                        try clear p24
                        try clear q24
                        try clear hx24
                        try clear p25
                        try clear q25
                        try clear hx25
                        try clear c27
                        try clear c29
                        try clear c29b0
                        try clear c30
                        try clear c30b0
                        try clear c31
                        try clear c32
                        try clear c33
                        try clear c33b0
                        try clear c33b1
                        try clear c34
                        try clear c35
                        try clear c35b0
                        try clear c35b1
                        try clear hcz12_0
                        try clear hcz12_1
                        try clear hcz13_0
                        try clear hcz13_1
                        try clear hcz20_0
                        try clear hcz20_1
                        try clear hcz22_0
                        try clear hcz22_1
                        try clear hcz26_0
                        try clear hcz26_1
                        try clear hcz37_0
                        try clear hcz37_1
                        try clear hcz41_0
                        try clear hcz41_1
                        try clear hcz43_0
                        try clear hcz43_1
                        try clear hcz5_0
                        try clear hcz5_1
                        try clear hcz8_0
                        try clear hcz8_1
                        try clear hfz12_0
                        try clear hfz12_1
                        try clear hfz13_0
                        try clear hfz13_1
                        try clear hfz20_0
                        try clear hfz20_1
                        try clear hfz22_0
                        try clear hfz22_1
                        try clear hfz26_0
                        try clear hfz26_1
                        try clear hfz37_0
                        try clear hfz37_1
                        try clear hfz41_0
                        try clear hfz41_1
                        try clear hfz43_0
                        try clear hfz43_1
                        try clear hfz5_0
                        try clear hfz5_1
                        try clear hfz8_0
                        try clear hfz8_1
                        try clear hx244_0
                        try clear hx244_1
                        try clear hx244_2
                        try clear hx246_0
                        try clear hx246_1
                        try clear hx246_2
                        try clear hx251_0
                        try clear hx251_1
                        try clear hx251_2
                        try clear hx255_0
                        try clear hx255_1
                        try clear hx255_2
                        try clear p2
                        try clear p24
                        try clear p244
                        try clear p246
                        try clear p25
                        try clear p251
                        try clear p255
                        try clear q2
                        try clear q24
                        try clear q244
                        try clear q246
                        try clear q25
                        try clear q251
                        try clear q255
                        obtain ⟨kq, x70_27, rfl, HA, HJ27, HO_5, BK241, HB⟩ := hcut
                        cases kq with
                        | zero => exact absurd HA.out (by simp [beaconlaw4_SgrApplies.j3])
                        | succ kj27 =>
                          have H := HA.out
                          clear HA
                          simp only [beaconlaw4_SgrApplies.j3] at H
                          by_cases c45 : x70_27 = true
                          · subst c45
                            have H1 : (some false) = some r := by rw [if_pos rfl] at H; exact H
                            clear H
                            have H := H1
                            clear H1
                            obtain rfl := Option.some.inj H
                            go_wp2
                            go_ret
                            exact ⟨by first | rfl | (simp [errW_none, errW_some] <;> rfl) | (simp [*, errW_none, errW_some] <;> rfl), by repeat (first | (with_reducible first | exact HB.out | apply below_alloc | apply pw_below_drewN | apply below_drew1 | refine below_set ?_ GE241.out) | exact HB.out)⟩
                          · replace c45 := Bool.eq_false_iff.mpr c45
                            subst c45
                            have H1 : ((beaconlaw0_Numbers.f kj27 t247).bind fun t260 => (beaconlaw4_SgrApplies.l1 kj27 x3_1 t245 0 l0_0 l0_1)) = some r := by rw [if_neg (show ¬ (false = true) by decide)] at H; exact H
                            clear H
                            have H := H1
                            clear H1
                            replace H := Option.bind_eq_some_iff.mp H
                            obtain ⟨t260, A460, H⟩ := H
                            replace H : (beaconlaw4_SgrApplies.l1 kj27 x3_1 t245 0 l0_0 l0_1) = some r := H
                            have A46 := Aside0.mk A460
                            clear A460
                            have H' := Aside0.mk H
                            clear H
                            obtain ⟨Ao47, co47, eo47⟩ := Kd.R_slice HO_5.out
                            subst eo47
                            go_wp2_with (first | ((with_reducible refine gate_callee (f := 36) rfl ?_); refine goesL_ (some 72) rfl rfl Try.func36 (by kernel_rfl) rfl #[.slice Ao47 t247.length co47] rfl (by (try simp only [List.map_toArray, List.map_cons, List.map_nil]); first | done | rfl | (simp only [List.length_drop, List.length_take]; rfl)) ?_; (with_reducible refine (beaconlaw0_Numbers.calls kj27 (fun k_ => some k_ = (.slice Ao47 t247.length co47 : Value).ownBlock) (.slice Ao47 t247.length co47) t247 t260 w _ ?side1 ?side2 A46.out).mono ?_); (case side1 => repeat (first | (with_reducible first | exact HB.out | apply below_alloc | apply pw_below_drewN | apply below_drew1 | refine below_set ?_ GE241.out) | exact HB.out)); (case side2 => exact Kd.R_tight rfl HO_5.out); rintro e w48 ⟨rfl, hy0, hb, hkp⟩; refine ⟨_, rfl, ?_⟩; have n0_ := Aside0.mk (Kd.R_reok rfl hy0 (fun k_ e_ => HO_5.out.1 k_ e_)); have n1_ := Aside0.mk (blk_kept (by (with_reducible repeat (first | refine blk_drewN ?_ _ | refine blk_drew ?_ | refine blk_alloc ?_ _)); exact BK241.out) hkp (fun hs_ => (fun e_ => (Kd.R_ne HO_5.out BK241.out (by decide)) e_) hs_)); have n2_ := Aside0.mk (hb); clear HO_5; clear BK241; clear HB; have HO_5 := n0_; have BK241 := n1_; have HB := n2_; clear n0_ n1_ n2_; (try clear hb); (try clear hkp); (try clear hy0)))
                            go_loopg [9] kj27 (fun kq v9 w' => ∃ (x9_5 : Int), v9 = .int .i64 x9_5 ∧ Aside0 (beaconlaw4_SgrApplies.l1 kq x3_1 t245 x9_5 l0_0 l0_1 = some r) ∧ Aside0 (kq ≤ kj27) ∧ Aside0 (w'.heap[gb241]? = some (.cells #[(.slice (some ad244) l0_0.length c0_0), (.slice A0_1 l0_1.length c0_1)] 54 (0, 0))) ∧ Aside0 (Below w.heap.size w w'))
                            case atStart => exact ⟨(0), (by first | rfl | (simp; done) | (simp [*]; done)), H', ⟨Nat.le_refl _⟩, ⟨by (with_reducible repeat (first | refine blk_drewN ?_ _ | refine blk_drew ?_ | refine blk_alloc ?_ _)); exact BK241.out⟩, ⟨by repeat (first | (with_reducible first | exact HB.out | apply below_alloc | apply pw_below_drewN | apply below_drew1 | refine below_set ?_ GE241.out) | exact HB.out)⟩⟩
                            case round =>
                              clear H'
                              try clear c1
                              try clear c2
                              try clear p2
                              try clear q2
                              try clear hx2
                              try clear c3
                              try clear c4
                              try clear c6
                              try clear c11
                              try clear c11b0
                              try clear c14
                              try clear c15
                              try clear c15b0
                              try clear c16
                              try clear c16b0
                              try clear c24
                              try clear p24
                              try clear q24
                              try clear hx24
                              try clear p25
                              try clear q25
                              try clear hx25
                              try clear c27
                              try clear c29
                              try clear c29b0
                              try clear c30
                              try clear c30b0
                              try clear c31
                              try clear c32
                              try clear c33
                              try clear c33b0
                              try clear c33b1
                              try clear c34
                              try clear c35
                              try clear c35b0
                              try clear c35b1
                              try clear c36
                              try clear c45
                              try clear hcz12_0
                              try clear hcz12_1
                              try clear hcz13_0
                              try clear hcz13_1
                              try clear hcz20_0
                              try clear hcz20_1
                              try clear hcz22_0
                              try clear hcz22_1
                              try clear hcz26_0
                              try clear hcz26_1
                              try clear hcz37_0
                              try clear hcz37_1
                              try clear hcz41_0
                              try clear hcz41_1
                              try clear hcz43_0
                              try clear hcz43_1
                              try clear hcz5_0
                              try clear hcz5_1
                              try clear hcz8_0
                              try clear hcz8_1
                              try clear hfz12_0
                              try clear hfz12_1
                              try clear hfz13_0
                              try clear hfz13_1
                              try clear hfz20_0
                              try clear hfz20_1
                              try clear hfz22_0
                              try clear hfz22_1
                              try clear hfz26_0
                              try clear hfz26_1
                              try clear hfz37_0
                              try clear hfz37_1
                              try clear hfz41_0
                              try clear hfz41_1
                              try clear hfz43_0
                              try clear hfz43_1
                              try clear hfz5_0
                              try clear hfz5_1
                              try clear hfz8_0
                              try clear hfz8_1
                              try clear hx244_0
                              try clear hx244_1
                              try clear hx244_2
                              try clear hx246_0
                              try clear hx246_1
                              try clear hx246_2
                              try clear hx251_0
                              try clear hx251_1
                              try clear hx251_2
                              try clear hx255_0
                              try clear hx255_1
                              try clear hx255_2
                              try clear p2
                              try clear p24
                              try clear p244
                              try clear p246
                              try clear p25
                              try clear p251
                              try clear p255
                              try clear q2
                              try clear q24
                              try clear q244
                              try clear q246
                              try clear q25
                              try clear q251
                              try clear q255
                              obtain ⟨x9_5, rfl, HA, HK5, BK241, HB⟩ := hrel
                              cases gk with
                              | zero => exact absurd HA.out (by simp [beaconlaw4_SgrApplies.l1])
                              | succ k5 =>
                                have H := HA.out
                                clear HA
                                simp only [beaconlaw4_SgrApplies.l1] at H
                                have HC49 := Aside0.mk H
                                clear H
                                go_upto_region 16 with (fail)
                                go_cut [81] (fun v81 wc => ∃ (kq : Nat) (x81_48 : Bool), v81 = .bool x81_48 ∧ Aside0 (beaconlaw4_SgrApplies.j5 kq x3_1 t245 x9_5 x81_48 l0_0 l0_1 = some r) ∧ Aside0 (kq ≤ k5) ∧ Aside0 (wc.heap[gb241]? = some (.cells #[(.slice (some ad244) l0_0.length c0_0), (.slice A0_1 l0_1.length c0_1)] 54 (0, 0))) ∧ Aside0 (Below w.heap.size w wc))
                                case first =>
                                  have H := HC49.out
                                  clear HC49
                                  by_cases c50 : x9_5 < (l0_1.length : Int)
                                  · rw [if_pos c50] at H
                                    have c50b0 : decide (x9_5 < (l0_1.length : Int)) = true := decide_eq_true c50
                                    clear c50
                                    (first | rw [c50b0] | (simp only [i64_w, i32_w]; rw [c50b0]) | skip)
                                    have H' := Aside0.mk H
                                    clear H
                                    have hcz51_0 : wr.cell? ⟨gb241, 0, none⟩ = some (.slice (some ad244) l0_0.length c0_0) := (blk_cell BK241.out 0).trans rfl
                                    have hcz51_1 : wr.cell? ⟨gb241, 1, none⟩ = some (.slice A0_1 l0_1.length c0_1) := (blk_cell BK241.out 1).trans rfl
                                    have hfz51_0 := blk_frozen BK241.out 0
                                    have hfz51_1 := blk_frozen BK241.out 1
                                    go_wp2
                                    go_meet
                                    case rel => exact ⟨_, (decide (x9_5 < 6)), (by first | rfl | (simp; done) | (simp [*]; done)), H', ⟨by have := HK1.out; have := HJ9.out; have := HJ18.out; have := HJ27.out; have := HK5.out; first | omega | exact Nat.le_refl _⟩, ⟨by (with_reducible repeat (first | refine blk_drewN ?_ _ | refine blk_drew ?_ | refine blk_alloc ?_ _)); exact BK241.out⟩, ⟨by repeat (first | (with_reducible first | exact HB.out | apply below_alloc | apply pw_below_drewN | apply below_drew1 | refine below_set ?_ GE241.out) | exact HB.out)⟩⟩
                                  · rw [if_neg c50] at H
                                    have c50b0 : decide (x9_5 < (l0_1.length : Int)) = false := decide_eq_false c50
                                    clear c50
                                    (first | rw [c50b0] | (simp only [i64_w, i32_w]; rw [c50b0]) | skip)
                                    have H' := Aside0.mk H
                                    clear H
                                    have hcz52_0 : wr.cell? ⟨gb241, 0, none⟩ = some (.slice (some ad244) l0_0.length c0_0) := (blk_cell BK241.out 0).trans rfl
                                    have hcz52_1 : wr.cell? ⟨gb241, 1, none⟩ = some (.slice A0_1 l0_1.length c0_1) := (blk_cell BK241.out 1).trans rfl
                                    have hfz52_0 := blk_frozen BK241.out 0
                                    have hfz52_1 := blk_frozen BK241.out 1
                                    go_wp2
                                    go_meet
                                    case rel => exact ⟨_, (false), (by first | rfl | (simp; done) | (simp [*]; done)), H', ⟨by have := HK1.out; have := HJ9.out; have := HJ18.out; have := HJ27.out; have := HK5.out; first | omega | exact Nat.le_refl _⟩, ⟨by (with_reducible repeat (first | refine blk_drewN ?_ _ | refine blk_drew ?_ | refine blk_alloc ?_ _)); exact BK241.out⟩, ⟨by repeat (first | (with_reducible first | exact HB.out | apply below_alloc | apply pw_below_drewN | apply below_drew1 | refine below_set ?_ GE241.out) | exact HB.out)⟩⟩
                                case rest =>
                                  clear HC49
                                  try clear c1
                                  try clear c2
                                  try clear p2
                                  try clear q2
                                  try clear hx2
                                  try clear c3
                                  try clear c4
                                  try clear c5
                                  try clear c6
                                  try clear c11
                                  try clear c11b0
                                  try clear c14
                                  try clear c15
                                  try clear c15b0
                                  try clear c16
                                  try clear c16b0
                                  try clear c24
                                  try clear p24
                                  try clear q24
                                  try clear hx24
                                  try clear p25
                                  try clear q25
                                  try clear hx25
                                  try clear c27
                                  try clear c29
                                  try clear c29b0
                                  try clear c30
                                  try clear c30b0
                                  try clear c31
                                  try clear c32
                                  try clear c33
                                  try clear c33b0
                                  try clear c33b1
                                  try clear c34
                                  try clear c35
                                  try clear c35b0
                                  try clear c35b1
                                  try clear c36
                                  try clear c45
                                  try clear c50
                                  try clear c50b0
                                  try clear hcz12_0
                                  try clear hcz12_1
                                  try clear hcz13_0
                                  try clear hcz13_1
                                  try clear hcz20_0
                                  try clear hcz20_1
                                  try clear hcz22_0
                                  try clear hcz22_1
                                  try clear hcz26_0
                                  try clear hcz26_1
                                  try clear hcz37_0
                                  try clear hcz37_1
                                  try clear hcz41_0
                                  try clear hcz41_1
                                  try clear hcz43_0
                                  try clear hcz43_1
                                  try clear hcz51_0
                                  try clear hcz51_1
                                  try clear hcz52_0
                                  try clear hcz52_1
                                  try clear hcz5_0
                                  try clear hcz5_1
                                  try clear hcz8_0
                                  try clear hcz8_1
                                  try clear hfz12_0
                                  try clear hfz12_1
                                  try clear hfz13_0
                                  try clear hfz13_1
                                  try clear hfz20_0
                                  try clear hfz20_1
                                  try clear hfz22_0
                                  try clear hfz22_1
                                  try clear hfz26_0
                                  try clear hfz26_1
                                  try clear hfz37_0
                                  try clear hfz37_1
                                  try clear hfz41_0
                                  try clear hfz41_1
                                  try clear hfz43_0
                                  try clear hfz43_1
                                  try clear hfz51_0
                                  try clear hfz51_1
                                  try clear hfz52_0
                                  try clear hfz52_1
                                  try clear hfz5_0
                                  try clear hfz5_1
                                  try clear hfz8_0
                                  try clear hfz8_1
                                  try clear hx244_0
                                  try clear hx244_1
                                  try clear hx244_2
                                  try clear hx246_0
                                  try clear hx246_1
                                  try clear hx246_2
                                  try clear hx251_0
                                  try clear hx251_1
                                  try clear hx251_2
                                  try clear hx255_0
                                  try clear hx255_1
                                  try clear hx255_2
                                  try clear p2
                                  try clear p24
                                  try clear p244
                                  try clear p246
                                  try clear p25
                                  try clear p251
                                  try clear p255
                                  try clear q2
                                  try clear q24
                                  try clear q244
                                  try clear q246
                                  try clear q25
                                  try clear q251
                                  try clear q255
                                  obtain ⟨kq, x81_48, rfl, HA, HJ48, BK241, HB⟩ := hcut
                                  cases kq with
                                  | zero => exact absurd HA.out (by simp [beaconlaw4_SgrApplies.j5])
                                  | succ kj48 =>
                                    have H := HA.out
                                    clear HA
                                    simp only [beaconlaw4_SgrApplies.j5] at H
                                    by_cases c53 : x81_48 = true
                                    · subst c53
                                      have H1 : (if 0 ≤ x9_5 then (if x9_5 < (l0_1.length : Int) then ((beaconref0_CopyNumbers.f kj48 (rd_L2 l0_1 x9_5)).bind fun t262 => (if 0 ≤ x3_1 then (if x3_1 < (l0_0.length : Int) then ((sgr_Apply.f ((rd_T56 l0_0 x3_1).f0) ((rd_T56 l0_0 x3_1).f1) ((rd_T56 l0_0 x3_1).f2) t262).bind fun bt266 => (if t245 = true then ((beaconref3_Params.f kj48 (rd_L2 l0_1 x9_5) 32).bind fun t273 => (beaconlaw4_SgrApplies.j6 kj48 x3_1 t245 x9_5 t262 bt266.2.2.2 1 t273 l0_0 l0_1 bt266.1 bt266.2.1 bt266.2.2.1 0 0 0)) else (beaconlaw4_SgrApplies.j6 kj48 x3_1 t245 x9_5 t262 bt266.2.2.2 1 false l0_0 l0_1 bt266.1 bt266.2.1 bt266.2.2.1 0 0 0))) else (none)) else (none))) else (none)) else (none)) = some r := by rw [if_pos rfl] at H; exact H
                                      clear H
                                      have H := H1
                                      clear H1
                                      by_cases c54 : 0 ≤ x9_5
                                      · rw [if_pos c54] at H
                                        have c54b0 : decide (0 ≤ x9_5) = true := decide_eq_true c54
                                        clear c54
                                        by_cases c55 : x9_5 < (l0_1.length : Int)
                                        · rw [if_pos c55] at H
                                          have c55b0 : decide (x9_5 < (l0_1.length : Int)) = true := decide_eq_true c55
                                          clear c55
                                          replace H := Option.bind_eq_some_iff.mp H
                                          obtain ⟨t262, A560, H⟩ := H
                                          replace H : (if 0 ≤ x3_1 then (if x3_1 < (l0_0.length : Int) then ((sgr_Apply.f ((rd_T56 l0_0 x3_1).f0) ((rd_T56 l0_0 x3_1).f1) ((rd_T56 l0_0 x3_1).f2) t262).bind fun bt266 => (if t245 = true then ((beaconref3_Params.f kj48 (rd_L2 l0_1 x9_5) 32).bind fun t273 => (beaconlaw4_SgrApplies.j6 kj48 x3_1 t245 x9_5 t262 bt266.2.2.2 1 t273 l0_0 l0_1 bt266.1 bt266.2.1 bt266.2.2.1 0 0 0)) else (beaconlaw4_SgrApplies.j6 kj48 x3_1 t245 x9_5 t262 bt266.2.2.2 1 false l0_0 l0_1 bt266.1 bt266.2.1 bt266.2.2.1 0 0 0))) else (none)) else (none)) = some r := H
                                          have A56 := Aside0.mk A560
                                          clear A560
                                          by_cases c57 : 0 ≤ x3_1
                                          · rw [if_pos c57] at H
                                            have c57b0 : decide (0 ≤ x3_1) = true := decide_eq_true c57
                                            clear c57
                                            by_cases c58 : x3_1 < (l0_0.length : Int)
                                            · rw [if_pos c58] at H
                                              have c58b0 : decide (x3_1 < (l0_0.length : Int)) = true := decide_eq_true c58
                                              clear c58
                                              replace H := Option.bind_eq_some_iff.mp H
                                              obtain ⟨⟨t266, t267, t268, t269⟩, A590, H⟩ := H
                                              replace H : (if t245 = true then ((beaconref3_Params.f kj48 (rd_L2 l0_1 x9_5) 32).bind fun t273 => (beaconlaw4_SgrApplies.j6 kj48 x3_1 t245 x9_5 t262 t269 1 t273 l0_0 l0_1 t266 t267 t268 0 0 0)) else (beaconlaw4_SgrApplies.j6 kj48 x3_1 t245 x9_5 t262 t269 1 false l0_0 l0_1 t266 t267 t268 0 0 0)) = some r := H
                                              have A59 := Aside0.mk A590
                                              clear A590
                                              have HC60 := Aside0.mk H
                                              clear H
                                              have hcz61_0 : wc.cell? ⟨gb241, 0, none⟩ = some (.slice (some ad244) l0_0.length c0_0) := (blk_cell BK241.out 0).trans rfl
                                              have hcz61_1 : wc.cell? ⟨gb241, 1, none⟩ = some (.slice A0_1 l0_1.length c0_1) := (blk_cell BK241.out 1).trans rfl
                                              have hfz61_0 := blk_frozen BK241.out 0
                                              have hfz61_1 := blk_frozen BK241.out 1
                                              have p261 : 0 ≤ (x9_5 : Int) := of_decide_eq_true (by first | (with_reducible assumption) | assumption)
                                              have q261 : x9_5 < (l0_1.length : Int) := of_decide_eq_true (by first | (with_reducible assumption) | assumption)
                                              obtain ⟨ad261, A261_0, c261_0, e261, hx261_0, hl261_0, hi261_0⟩ := at_L2 HR0_1.out x9_5 p261 q261
                                              cases e261
                                              replace hx261_0 := (HB.out.cell (World.block_lt_of_cell? w _ hx261_0)).trans hx261_0
                                              have HR261_0 := Aside0.mk hi261_0
                                              have HC261_0 := Aside0.mk hl261_0
                                              clear hi261_0 hl261_0
                                              replace p261 := eq_true p261
                                              replace q261 := eq_true q261
                                              go_upto_region 21 with (first | ((with_reducible refine gate_callee (f := 37) rfl ?_); refine goesL_ (some 89) rfl rfl Try.func37 (by kernel_rfl) rfl #[.slice A261_0 (rd_L2 l0_1 x9_5).length c261_0] rfl (by (try simp only [List.map_toArray, List.map_cons, List.map_nil]); first | done | rfl | (simp only [List.length_drop, List.length_take]; rfl)) ?_; (with_reducible refine (beaconref0_CopyNumbers.calls kj48 _ _ (rd_L2 l0_1 x9_5) t262 _ ?side1 ?side2 A56.out).mono ?_); (case side1 => repeat (first | exact (Kd.C_below HR261_0.out HB.out) | (with_reducible refine Kd.C_alloc ?_ _) | (with_reducible refine Kd.C_drewN ?_ _) | (with_reducible refine Kd.C_drew ?_))); (case side2 => exact HC261_0.out); rintro e w62 ⟨v263, rfl, ho0, hb⟩; refine ⟨_, rfl, ?_⟩; have n0_ := Aside0.mk (Kd.R_lower ho0 (below_size (by repeat (first | (with_reducible first | exact HB.out | apply below_alloc | apply pw_below_drewN | apply below_drew1 | refine below_set ?_ GE241.out) | exact HB.out)))); have n1_ := Aside0.mk (blk_below (g := gb241) (o := .cells #[.slice (some ad244) l0_0.length c0_0, .slice (some ad261) l0_1.length c0_1] 54 (0, 0)) (by (with_reducible repeat (first | refine blk_drewN ?_ _ | refine blk_drew ?_ | refine blk_alloc ?_ _)); exact BK241.out) hb); have n2_ := Aside0.mk (below_step (by repeat (first | (with_reducible first | exact HB.out | apply below_alloc | apply pw_below_drewN | apply below_drew1 | refine below_set ?_ GE241.out) | exact HB.out)) hb); clear BK241; clear HB; have HO264 := n0_; have BK241 := n1_; have HB := n2_; clear n0_ n1_ n2_; (try clear hb); (try clear hb2); (try clear hk); (try clear hi); (try clear ho0); have hcz63_0 : w62.cell? ⟨gb241, 0, none⟩ = some (.slice (some ad244) l0_0.length c0_0) := (blk_cell BK241.out 0).trans rfl; have hcz63_1 : w62.cell? ⟨gb241, 1, none⟩ = some (.slice (some ad261) l0_1.length c0_1) := (blk_cell BK241.out 1).trans rfl; have hfz63_0 := blk_frozen BK241.out 0; have hfz63_1 := blk_frozen BK241.out 1; have p265 : 0 ≤ (x3_1 : Int) := of_decide_eq_true (by first | (with_reducible assumption) | assumption); have q265 : x3_1 < (l0_0.length : Int) := of_decide_eq_true (by first | (with_reducible assumption) | assumption); obtain ⟨ad265, e265, hx265_0, hx265_1, hx265_2⟩ := at_T56 HR0_0.out x3_1 p265 q265; obtain rfl : ad244 = ad265 := (by injection e265); replace hx265_0 := (HB.out.cell (World.block_lt_of_cell? w _ hx265_0)).trans hx265_0; replace hx265_1 := (HB.out.cell (World.block_lt_of_cell? w _ hx265_1)).trans hx265_1; replace hx265_2 := (HB.out.cell (World.block_lt_of_cell? w _ hx265_2)).trans hx265_2; replace p265 := eq_true p265; replace q265 := eq_true q265; obtain ⟨Ao64, co64, eo64⟩ := Kd.R_slice HO264.out; subst eo64) | ((with_reducible refine gate_callee (f := 25) rfl ?_); refine goesL_ (some 97) rfl rfl Try.func25 (by kernel_rfl) rfl #[.agg #[.int .i64 ((rd_T56 l0_0 x3_1).f0), .int .i64 ((rd_T56 l0_0 x3_1).f1), .int .i64 ((rd_T56 l0_0 x3_1).f2)], .slice Ao64 t262.length co64] rfl (by (try simp only [List.map_toArray, List.map_cons, List.map_nil]); first | done | rfl | (simp only [List.length_drop, List.length_take]; rfl)) ?_; (with_reducible refine (sgr_Apply.calls ((rd_T56 l0_0 x3_1).f0) ((rd_T56 l0_0 x3_1).f1) ((rd_T56 l0_0 x3_1).f2) _ _ t262 t266 t267 t268 t269 _ ?side1 ?side2 A59.out).mono ?_); (case side1 => repeat (first | exact (Kd.R_reads' HO264.out).2.2 | (with_reducible refine Kd.C_alloc ?_ _) | (with_reducible refine Kd.C_drewN ?_ _) | (with_reducible refine Kd.C_drew ?_))); (case side2 => exact (Kd.R_reads' HO264.out).2.1); rintro e w65 ⟨rfl, hb⟩; refine ⟨_, rfl, ?_⟩; have n0_ := Aside0.mk (Kd.R_below (by (with_reducible repeat (first | apply Kd.R_alloc | apply Kd.R_drewN | apply Kd.R_drew)); exact HO264.out) hb); have n1_ := Aside0.mk (blk_below (g := gb241) (o := .cells #[.slice (some ad244) l0_0.length c0_0, .slice (some ad261) l0_1.length c0_1] 54 (0, 0)) (by (with_reducible repeat (first | refine blk_drewN ?_ _ | refine blk_drew ?_ | refine blk_alloc ?_ _)); exact BK241.out) hb); have n2_ := Aside0.mk (below_step (by repeat (first | (with_reducible first | exact HB.out | apply below_alloc | apply pw_below_drewN | apply below_drew1 | refine below_set ?_ GE241.out) | exact HB.out)) hb); clear HO264; clear BK241; clear HB; have HO264 := n0_; have BK241 := n1_; have HB := n2_; clear n0_ n1_ n2_; (try clear hb); (try clear hb2); (try clear hk); (try clear hi)) | ((with_reducible refine gate_dst (N := 11) rfl ?_); refine box_event ?hg (N := 11) ?hd (cs := #[.int .i64 0, .int .i64 0, .int .i64 0]) (t := 56) ?hr ?_; (case hd => rfl); (case hg => rfl); (case hr => first | (go_simp; done) | (go_simp; rfl)); intro gb270 hg w66 hbox hb; have n0_ := Aside0.mk (Kd.R_below (by (with_reducible repeat (first | apply Kd.R_alloc | apply Kd.R_drewN | apply Kd.R_drew)); exact HO264.out) hb); have n1_ := Aside0.mk (blk_below (g := gb241) (o := .cells #[.slice (some ad244) l0_0.length c0_0, .slice (some ad261) l0_1.length c0_1] 54 (0, 0)) (by (with_reducible repeat (first | refine blk_drewN ?_ _ | refine blk_drew ?_ | refine blk_alloc ?_ _)); exact BK241.out) hb); have n2_ := Aside0.mk (below_step (by repeat (first | (with_reducible first | exact HB.out | apply below_alloc | apply pw_below_drewN | apply below_drew1 | refine below_set ?_ GE241.out) | exact HB.out)) hb); have n3_ := Aside0.mk (hbox); have n4_ := Aside0.mk ((by rw [hg]; exact (below_size (by repeat (first | (with_reducible first | exact HB.out | apply below_alloc | apply pw_below_drewN | apply below_drew1 | refine below_set ?_ GE241.out) | exact HB.out))) : w.heap.size ≤ gb270)); have n5_ := Aside0.mk ((by rw [hg]; exact (below_size (by repeat (first | (with_reducible first | exact HB.out | apply below_alloc | apply pw_below_drewN | apply below_drew1 | refine below_set ?_ GE241.out) | exact HB.out))) : w.heap.size ≤ gb270)); have n6_ := Aside0.mk ((by rw [hg]; exact Nat.ne_of_lt (blk_lt (g := gb241) (o := .cells #[.slice (some ad244) l0_0.length c0_0, .slice (some ad261) l0_1.length c0_1] 54 (0, 0)) (by (with_reducible repeat (first | refine blk_drewN ?_ _ | refine blk_drew ?_ | refine blk_alloc ?_ _)); exact BK241.out)) : gb241 ≠ gb270)); have n7_ := Aside0.mk ((by rw [hg]; exact Nat.ne_of_gt (blk_lt (g := gb241) (o := .cells #[.slice (some ad244) l0_0.length c0_0, .slice (some ad261) l0_1.length c0_1] 54 (0, 0)) (by (with_reducible repeat (first | refine blk_drewN ?_ _ | refine blk_drew ?_ | refine blk_alloc ?_ _)); exact BK241.out)) : gb270 ≠ gb241)); clear HO264; clear BK241; clear HB; have HO264 := n0_; have BK241 := n1_; have HB := n2_; have BK270 := n3_; have GW270 := n4_; have GE270 := n5_; have NB241_270 := n6_; have NB270_241 := n7_; clear n0_ n1_ n2_ n3_ n4_ n5_ n6_ n7_; clear hb hbox hg; have hnb67 := NB270_241.out; have hnc67 := NB241_270.out; have hcz68_0 : w66.cell? ⟨gb270, 0, none⟩ = some (.int .i64 0) := (blk_cell BK270.out 0).trans rfl; have hcz68_1 : w66.cell? ⟨gb270, 1, none⟩ = some (.int .i64 0) := (blk_cell BK270.out 1).trans rfl; have hcz68_2 : w66.cell? ⟨gb270, 2, none⟩ = some (.int .i64 0) := (blk_cell BK270.out 2).trans rfl; have hfz68_0 := blk_frozen BK270.out 0; have hfz68_1 := blk_frozen BK270.out 1; have hfz68_2 := blk_frozen BK270.out 2) | ((with_reducible refine gate_dst (N := 14) rfl ?_); refine box_event ?hg (N := 14) ?hd (cs := #[.int .i64 0, .int .i64 0, .int .i64 0]) (t := 56) ?hr ?_; (case hd => rfl); (case hg => rfl); (case hr => first | (go_simp; done) | (go_simp; rfl)); intro gb271 hg w69 hbox hb; have n0_ := Aside0.mk (Kd.R_below (by (with_reducible repeat (first | apply Kd.R_alloc | apply Kd.R_drewN | apply Kd.R_drew)); exact (Kd.R_mono (Kd.R_far (p := ⟨gb270, 2, none⟩) (Kd.R_far (p := ⟨gb270, 1, none⟩) (Kd.R_far (p := ⟨gb270, 0, none⟩) (Kd.R_types HO264.out BK270.out (by decide)) (fun _ hk => hk.2) (.int .i64 t266)) (fun _ hk => hk.2) (.int .i64 t267)) (fun _ hk => hk.2) (.int .i64 t268)) (fun _ h_ => h_.1))) hb); have n1_ := Aside0.mk (blk_below (g := gb241) (o := .cells #[.slice (some ad244) l0_0.length c0_0, .slice (some ad261) l0_1.length c0_1] 54 (0, 0)) (by (with_reducible repeat (first | refine blk_drewN ?_ _ | refine blk_drew ?_ | refine blk_alloc ?_ _)); refine blk_far ?_ NB241_270.out _; (with_reducible repeat (first | refine blk_drewN ?_ _ | refine blk_drew ?_ | refine blk_alloc ?_ _)); refine blk_far ?_ NB241_270.out _; (with_reducible repeat (first | refine blk_drewN ?_ _ | refine blk_drew ?_ | refine blk_alloc ?_ _)); refine blk_far ?_ NB241_270.out _; (with_reducible repeat (first | refine blk_drewN ?_ _ | refine blk_drew ?_ | refine blk_alloc ?_ _)); exact BK241.out) hb); have n2_ := Aside0.mk (blk_below (g := gb270) (o := .cells #[.int .i64 t266, .int .i64 t267, .int .i64 t268] 56 (0, 0)) (by (with_reducible repeat (first | refine blk_drewN ?_ _ | refine blk_drew ?_ | refine blk_alloc ?_ _)); refine blk_put (cs := #[.int .i64 t266, .int .i64 t267, .int .i64 0]) ?_ 2 _ rfl; (with_reducible repeat (first | refine blk_drewN ?_ _ | refine blk_drew ?_ | refine blk_alloc ?_ _)); refine blk_put (cs := #[.int .i64 t266, .int .i64 0, .int .i64 0]) ?_ 1 _ rfl; (with_reducible repeat (first | refine blk_drewN ?_ _ | refine blk_drew ?_ | refine blk_alloc ?_ _)); refine blk_put (cs := #[.int .i64 0, .int .i64 0, .int .i64 0]) ?_ 0 _ rfl; (with_reducible repeat (first | refine blk_drewN ?_ _ | refine blk_drew ?_ | refine blk_alloc ?_ _)); exact BK270.out) hb); have n3_ := Aside0.mk (below_step (by repeat (first | (with_reducible first | exact HB.out | apply below_alloc | apply pw_below_drewN | apply below_drew1 | refine below_set ?_ GE241.out | refine below_set ?_ GE270.out) | exact HB.out)) hb); have n4_ := Aside0.mk (hbox); have n5_ := Aside0.mk ((by rw [hg]; exact (below_size (by repeat (first | (with_reducible first | exact HB.out | apply below_alloc | apply pw_below_drewN | apply below_drew1 | refine below_set ?_ GE241.out | refine below_set ?_ GE270.out) | exact HB.out))) : w.heap.size ≤ gb271)); have n6_ := Aside0.mk ((by rw [hg]; exact (below_size (by repeat (first | (with_reducible first | exact HB.out | apply below_alloc | apply pw_below_drewN | apply below_drew1 | refine below_set ?_ GE241.out | refine below_set ?_ GE270.out) | exact HB.out))) : w.heap.size ≤ gb271)); have n7_ := Aside0.mk ((by rw [hg]; exact Nat.ne_of_lt (blk_lt (g := gb241) (o := .cells #[.slice (some ad244) l0_0.length c0_0, .slice (some ad261) l0_1.length c0_1] 54 (0, 0)) (by (with_reducible repeat (first | refine blk_drewN ?_ _ | refine blk_drew ?_ | refine blk_alloc ?_ _)); refine blk_far ?_ NB241_270.out _; (with_reducible repeat (first | refine blk_drewN ?_ _ | refine blk_drew ?_ | refine blk_alloc ?_ _)); refine blk_far ?_ NB241_270.out _; (with_reducible repeat (first | refine blk_drewN ?_ _ | refine blk_drew ?_ | refine blk_alloc ?_ _)); refine blk_far ?_ NB241_270.out _; (with_reducible repeat (first | refine blk_drewN ?_ _ | refine blk_drew ?_ | refine blk_alloc ?_ _)); exact BK241.out)) : gb241 ≠ gb271)); have n8_ := Aside0.mk ((by rw [hg]; exact Nat.ne_of_gt (blk_lt (g := gb241) (o := .cells #[.slice (some ad244) l0_0.length c0_0, .slice (some ad261) l0_1.length c0_1] 54 (0, 0)) (by (with_reducible repeat (first | refine blk_drewN ?_ _ | refine blk_drew ?_ | refine blk_alloc ?_ _)); refine blk_far ?_ NB241_270.out _; (with_reducible repeat (first | refine blk_drewN ?_ _ | refine blk_drew ?_ | refine blk_alloc ?_ _)); refine blk_far ?_ NB241_270.out _; (with_reducible repeat (first | refine blk_drewN ?_ _ | refine blk_drew ?_ | refine blk_alloc ?_ _)); refine blk_far ?_ NB241_270.out _; (with_reducible repeat (first | refine blk_drewN ?_ _ | refine blk_drew ?_ | refine blk_alloc ?_ _)); exact BK241.out)) : gb271 ≠ gb241)); have n9_ := Aside0.mk ((by rw [hg]; exact Nat.ne_of_lt (blk_lt (g := gb270) (o := .cells #[.int .i64 t266, .int .i64 t267, .int .i64 t268] 56 (0, 0)) (by (with_reducible repeat (first | refine blk_drewN ?_ _ | refine blk_drew ?_ | refine blk_alloc ?_ _)); refine blk_put (cs := #[.int .i64 t266, .int .i64 t267, .int .i64 0]) ?_ 2 _ rfl; (with_reducible repeat (first | refine blk_drewN ?_ _ | refine blk_drew ?_ | refine blk_alloc ?_ _)); refine blk_put (cs := #[.int .i64 t266, .int .i64 0, .int .i64 0]) ?_ 1 _ rfl; (with_reducible repeat (first | refine blk_drewN ?_ _ | refine blk_drew ?_ | refine blk_alloc ?_ _)); refine blk_put (cs := #[.int .i64 0, .int .i64 0, .int .i64 0]) ?_ 0 _ rfl; (with_reducible repeat (first | refine blk_drewN ?_ _ | refine blk_drew ?_ | refine blk_alloc ?_ _)); exact BK270.out)) : gb270 ≠ gb271)); have n10_ := Aside0.mk ((by rw [hg]; exact Nat.ne_of_gt (blk_lt (g := gb270) (o := .cells #[.int .i64 t266, .int .i64 t267, .int .i64 t268] 56 (0, 0)) (by (with_reducible repeat (first | refine blk_drewN ?_ _ | refine blk_drew ?_ | refine blk_alloc ?_ _)); refine blk_put (cs := #[.int .i64 t266, .int .i64 t267, .int .i64 0]) ?_ 2 _ rfl; (with_reducible repeat (first | refine blk_drewN ?_ _ | refine blk_drew ?_ | refine blk_alloc ?_ _)); refine blk_put (cs := #[.int .i64 t266, .int .i64 0, .int .i64 0]) ?_ 1 _ rfl; (with_reducible repeat (first | refine blk_drewN ?_ _ | refine blk_drew ?_ | refine blk_alloc ?_ _)); refine blk_put (cs := #[.int .i64 0, .int .i64 0, .int .i64 0]) ?_ 0 _ rfl; (with_reducible repeat (first | refine blk_drewN ?_ _ | refine blk_drew ?_ | refine blk_alloc ?_ _)); exact BK270.out)) : gb271 ≠ gb270)); clear HO264; clear BK241; clear BK270; clear HB; have HO264 := n0_; have BK241 := n1_; have BK270 := n2_; have HB := n3_; have BK271 := n4_; have GW271 := n5_; have GE271 := n6_; have NB241_271 := n7_; have NB271_241 := n8_; have NB270_271 := n9_; have NB271_270 := n10_; clear n0_ n1_ n2_ n3_ n4_ n5_ n6_ n7_ n8_ n9_ n10_; clear hb hbox hg; have hnb70 := NB271_241.out; have hnc70 := NB241_271.out; have hnb71 := NB271_270.out; have hnc71 := NB270_271.out; have hcz72_0 : w69.cell? ⟨gb271, 0, none⟩ = some (.int .i64 0) := (blk_cell BK271.out 0).trans rfl; have hcz72_1 : w69.cell? ⟨gb271, 1, none⟩ = some (.int .i64 0) := (blk_cell BK271.out 1).trans rfl; have hcz72_2 : w69.cell? ⟨gb271, 2, none⟩ = some (.int .i64 0) := (blk_cell BK271.out 2).trans rfl; have hfz72_0 := blk_frozen BK271.out 0; have hfz72_1 := blk_frozen BK271.out 1; have hfz72_2 := blk_frozen BK271.out 2))
                                              (try simp only [Act.put, List.setIfInBounds_toArray, List.set_cons_zero, List.set_cons_succ])
                                              go_cut [109] (fun v109 wc => ∃ (kq : Nat) (x109_59 : Bool), v109 = .bool x109_59 ∧ Aside0 (beaconlaw4_SgrApplies.j6 kq x3_1 t245 x9_5 t262 t269 1 x109_59 l0_0 l0_1 t266 t267 t268 0 0 0 = some r) ∧ Aside0 (kq ≤ kj48) ∧ Aside0 (Kd.R (Kd.int .i64) 3 wc w.heap.size (fun _ => True) (.slice Ao64 t262.length co64) t262) ∧ Aside0 (wc.heap[gb241]? = some (.cells #[(.slice (some ad244) l0_0.length c0_0), (.slice (some ad261) l0_1.length c0_1)] 54 (0, 0))) ∧ Aside0 (wc.heap[gb270]? = some (.cells #[.int .i64 t266, .int .i64 t267, .int .i64 t268] 56 (0, 0))) ∧ Aside0 (wc.heap[gb271]? = some (.cells #[.int .i64 0, .int .i64 0, .int .i64 0] 56 (0, 0))) ∧ Aside0 (Below w.heap.size w wc))
                                              case first =>
                                                have H := HC60.out
                                                clear HC60
                                                by_cases c73 : t245 = true
                                                · subst c73
                                                  have H1 : ((beaconref3_Params.f kj48 (rd_L2 l0_1 x9_5) 32).bind fun t273 => (beaconlaw4_SgrApplies.j6 kj48 x3_1 true x9_5 t262 t269 1 t273 l0_0 l0_1 t266 t267 t268 0 0 0)) = some r := by rw [if_pos rfl] at H; exact H
                                                  clear H
                                                  have H := H1
                                                  clear H1
                                                  replace H := Option.bind_eq_some_iff.mp H
                                                  obtain ⟨t273, A740, H⟩ := H
                                                  replace H : (beaconlaw4_SgrApplies.j6 kj48 x3_1 true x9_5 t262 t269 1 t273 l0_0 l0_1 t266 t267 t268 0 0 0) = some r := H
                                                  have A74 := Aside0.mk A740
                                                  clear A740
                                                  have H' := Aside0.mk H
                                                  clear H
                                                  have hnb75 := NB241_270.out
                                                  have hnc75 := NB270_241.out
                                                  have hnb76 := NB241_271.out
                                                  have hnc76 := NB271_241.out
                                                  have hcz77_0 : w69.cell? ⟨gb241, 0, none⟩ = some (.slice (some ad244) l0_0.length c0_0) := (blk_cell BK241.out 0).trans rfl
                                                  have hcz77_1 : w69.cell? ⟨gb241, 1, none⟩ = some (.slice (some ad261) l0_1.length c0_1) := (blk_cell BK241.out 1).trans rfl
                                                  have hfz77_0 := blk_frozen BK241.out 0
                                                  have hfz77_1 := blk_frozen BK241.out 1
                                                  have p272 : 0 ≤ (x9_5 : Int) := of_decide_eq_true (by first | (with_reducible assumption) | assumption)
                                                  have q272 : x9_5 < (l0_1.length : Int) := of_decide_eq_true (by first | (with_reducible assumption) | assumption)
                                                  obtain ⟨ad272, A272_0, c272_0, e272, hx272_0, hl272_0, hi272_0⟩ := at_L2 HR0_1.out x9_5 p272 q272
                                                  obtain rfl : ad261 = ad272 := (by injection e272)
                                                  have hn272_0 : ad261.block ≠ gb271 := Nat.ne_of_lt (Nat.lt_of_lt_of_le (by have := World.block_lt_of_cell? _ _ hx272_0; first | rwa [add_block] at this | exact this) GW271.out)
                                                  have hn272_1 : ad261.block ≠ gb271 := Nat.ne_of_lt (Nat.lt_of_lt_of_le (by have := World.block_lt_of_cell? _ _ hx272_0; first | rwa [add_block] at this | exact this) GW271.out)
                                                  have hn272_2 : ad261.block ≠ gb271 := Nat.ne_of_lt (Nat.lt_of_lt_of_le (by have := World.block_lt_of_cell? _ _ hx272_0; first | rwa [add_block] at this | exact this) GW271.out)
                                                  replace hx272_0 := (HB.out.cell (World.block_lt_of_cell? w _ hx272_0)).trans hx272_0
                                                  have HR272_0 := Aside0.mk hi272_0
                                                  have HC272_0 := Aside0.mk hl272_0
                                                  clear hi272_0 hl272_0
                                                  replace hx272_0 := (cell_far (p := ⟨gb271, 0, none⟩) (by first | (rw [add_block]; exact hn272_0) | (show (Addr.add _ _).block ≠ _; rw [add_block]; exact hn272_0) | exact hn272_0) (.int .i64 0)).trans hx272_0
                                                  replace hx272_0 := (cell_far (p := ⟨gb271, 1, none⟩) (by first | (rw [add_block]; exact hn272_1) | (show (Addr.add _ _).block ≠ _; rw [add_block]; exact hn272_1) | exact hn272_1) (.int .i64 0)).trans hx272_0
                                                  replace hx272_0 := (cell_far (p := ⟨gb271, 2, none⟩) (by first | (rw [add_block]; exact hn272_2) | (show (Addr.add _ _).block ≠ _; rw [add_block]; exact hn272_2) | exact hn272_2) (.int .i64 0)).trans hx272_0
                                                  clear hn272_0
                                                  clear hn272_1
                                                  clear hn272_2
                                                  replace p272 := eq_true p272
                                                  replace q272 := eq_true q272
                                                  go_wp2_with (first | (go_at_call 38; (with_reducible refine (beaconref3_Params.calls kj48 _ _ (rd_L2 l0_1 x9_5) 32 t273 _ ?side1 ?side2 A74.out).mono ?_); (case side1 => exact Kd.C_below HR272_0.out (by repeat (first | (with_reducible first | exact HB.out | apply below_alloc | apply pw_below_drewN | apply below_drew1 | refine below_set ?_ GE241.out | refine below_set ?_ GE270.out | refine below_set ?_ GE271.out) | exact HB.out))); (case side2 => exact HC272_0.out); rintro e w' ⟨rfl, ⟨nd, rfl⟩⟩))
                                                  go_meet
                                                  case rel => exact ⟨_, (t273), (by first | rfl | (simp; done) | (simp [*]; done)), H', ⟨by have := HK1.out; have := HJ9.out; have := HJ18.out; have := HJ27.out; have := HK5.out; have := HJ48.out; first | omega | exact Nat.le_refl _⟩, ⟨by (with_reducible repeat (first | apply Kd.R_alloc | apply Kd.R_drewN | apply Kd.R_drew)); exact Kd.R_mono (Kd.R_far (p := ⟨gb271, 2, none⟩) (Kd.R_far (p := ⟨gb271, 1, none⟩) (Kd.R_far (p := ⟨gb271, 0, none⟩) (Kd.R_types HO264.out BK271.out (by decide)) (fun _ hk => hk.2) (.int .i64 0)) (fun _ hk => hk.2) (.int .i64 0)) (fun _ hk => hk.2) (.int .i64 0)) (fun _ hk => trivial)⟩, ⟨by (with_reducible repeat (first | refine blk_drewN ?_ _ | refine blk_drew ?_ | refine blk_alloc ?_ _)); refine blk_far ?_ NB241_271.out _; (with_reducible repeat (first | refine blk_drewN ?_ _ | refine blk_drew ?_ | refine blk_alloc ?_ _)); refine blk_far ?_ NB241_271.out _; (with_reducible repeat (first | refine blk_drewN ?_ _ | refine blk_drew ?_ | refine blk_alloc ?_ _)); refine blk_far ?_ NB241_271.out _; (with_reducible repeat (first | refine blk_drewN ?_ _ | refine blk_drew ?_ | refine blk_alloc ?_ _)); exact BK241.out⟩, ⟨by (with_reducible repeat (first | refine blk_drewN ?_ _ | refine blk_drew ?_ | refine blk_alloc ?_ _)); refine blk_far ?_ NB270_271.out _; (with_reducible repeat (first | refine blk_drewN ?_ _ | refine blk_drew ?_ | refine blk_alloc ?_ _)); refine blk_far ?_ NB270_271.out _; (with_reducible repeat (first | refine blk_drewN ?_ _ | refine blk_drew ?_ | refine blk_alloc ?_ _)); refine blk_far ?_ NB270_271.out _; (with_reducible repeat (first | refine blk_drewN ?_ _ | refine blk_drew ?_ | refine blk_alloc ?_ _)); exact BK270.out⟩, ⟨by (with_reducible repeat (first | refine blk_drewN ?_ _ | refine blk_drew ?_ | refine blk_alloc ?_ _)); refine blk_put (cs := #[.int .i64 0, .int .i64 0, .int .i64 0]) ?_ 2 _ rfl; (with_reducible repeat (first | refine blk_drewN ?_ _ | refine blk_drew ?_ | refine blk_alloc ?_ _)); refine blk_put (cs := #[.int .i64 0, .int .i64 0, .int .i64 0]) ?_ 1 _ rfl; (with_reducible repeat (first | refine blk_drewN ?_ _ | refine blk_drew ?_ | refine blk_alloc ?_ _)); refine blk_put (cs := #[.int .i64 0, .int .i64 0, .int .i64 0]) ?_ 0 _ rfl; (with_reducible repeat (first | refine blk_drewN ?_ _ | refine blk_drew ?_ | refine blk_alloc ?_ _)); exact BK271.out⟩, ⟨by repeat (first | (with_reducible first | exact HB.out | apply below_alloc | apply pw_below_drewN | apply below_drew1 | refine below_set ?_ GE241.out | refine below_set ?_ GE270.out | refine below_set ?_ GE271.out) | exact HB.out)⟩⟩
                                                · replace c73 := Bool.eq_false_iff.mpr c73
                                                  subst c73
                                                  have H1 : (beaconlaw4_SgrApplies.j6 kj48 x3_1 false x9_5 t262 t269 1 false l0_0 l0_1 t266 t267 t268 0 0 0) = some r := by rw [if_neg (show ¬ (false = true) by decide)] at H; exact H
                                                  clear H
                                                  have H := H1
                                                  clear H1
                                                  have H' := Aside0.mk H
                                                  clear H
                                                  go_wp2
                                                  go_meet
                                                  case rel => exact ⟨_, (false), (by first | rfl | (simp; done) | (simp [*]; done)), H', ⟨by have := HK1.out; have := HJ9.out; have := HJ18.out; have := HJ27.out; have := HK5.out; have := HJ48.out; first | omega | exact Nat.le_refl _⟩, ⟨by (with_reducible repeat (first | apply Kd.R_alloc | apply Kd.R_drewN | apply Kd.R_drew)); exact Kd.R_mono (Kd.R_far (p := ⟨gb271, 2, none⟩) (Kd.R_far (p := ⟨gb271, 1, none⟩) (Kd.R_far (p := ⟨gb271, 0, none⟩) (Kd.R_types HO264.out BK271.out (by decide)) (fun _ hk => hk.2) (.int .i64 0)) (fun _ hk => hk.2) (.int .i64 0)) (fun _ hk => hk.2) (.int .i64 0)) (fun _ hk => trivial)⟩, ⟨by (with_reducible repeat (first | refine blk_drewN ?_ _ | refine blk_drew ?_ | refine blk_alloc ?_ _)); refine blk_far ?_ NB241_271.out _; (with_reducible repeat (first | refine blk_drewN ?_ _ | refine blk_drew ?_ | refine blk_alloc ?_ _)); refine blk_far ?_ NB241_271.out _; (with_reducible repeat (first | refine blk_drewN ?_ _ | refine blk_drew ?_ | refine blk_alloc ?_ _)); refine blk_far ?_ NB241_271.out _; (with_reducible repeat (first | refine blk_drewN ?_ _ | refine blk_drew ?_ | refine blk_alloc ?_ _)); exact BK241.out⟩, ⟨by (with_reducible repeat (first | refine blk_drewN ?_ _ | refine blk_drew ?_ | refine blk_alloc ?_ _)); refine blk_far ?_ NB270_271.out _; (with_reducible repeat (first | refine blk_drewN ?_ _ | refine blk_drew ?_ | refine blk_alloc ?_ _)); refine blk_far ?_ NB270_271.out _; (with_reducible repeat (first | refine blk_drewN ?_ _ | refine blk_drew ?_ | refine blk_alloc ?_ _)); refine blk_far ?_ NB270_271.out _; (with_reducible repeat (first | refine blk_drewN ?_ _ | refine blk_drew ?_ | refine blk_alloc ?_ _)); exact BK270.out⟩, ⟨by (with_reducible repeat (first | refine blk_drewN ?_ _ | refine blk_drew ?_ | refine blk_alloc ?_ _)); refine blk_put (cs := #[.int .i64 0, .int .i64 0, .int .i64 0]) ?_ 2 _ rfl; (with_reducible repeat (first | refine blk_drewN ?_ _ | refine blk_drew ?_ | refine blk_alloc ?_ _)); refine blk_put (cs := #[.int .i64 0, .int .i64 0, .int .i64 0]) ?_ 1 _ rfl; (with_reducible repeat (first | refine blk_drewN ?_ _ | refine blk_drew ?_ | refine blk_alloc ?_ _)); refine blk_put (cs := #[.int .i64 0, .int .i64 0, .int .i64 0]) ?_ 0 _ rfl; (with_reducible repeat (first | refine blk_drewN ?_ _ | refine blk_drew ?_ | refine blk_alloc ?_ _)); exact BK271.out⟩, ⟨by repeat (first | (with_reducible first | exact HB.out | apply below_alloc | apply pw_below_drewN | apply below_drew1 | refine below_set ?_ GE241.out | refine below_set ?_ GE270.out | refine below_set ?_ GE271.out) | exact HB.out)⟩⟩
                                              case rest =>
                                                clear HC60
                                                try clear c1
                                                try clear c2
                                                try clear p2
                                                try clear q2
                                                try clear hx2
                                                try clear c3
                                                try clear c4
                                                try clear c5
                                                try clear c6
                                                try clear c7
                                                try clear c11
                                                try clear c11b0
                                                try clear c14
                                                try clear c15
                                                try clear c15b0
                                                try clear c16
                                                try clear c16b0
                                                try clear c24
                                                try clear p24
                                                try clear q24
                                                try clear hx24
                                                try clear c25
                                                try clear p25
                                                try clear q25
                                                try clear hx25
                                                try clear c26
                                                try clear p26
                                                try clear q26
                                                try clear hx26
                                                try clear c27
                                                try clear p27
                                                try clear q27
                                                try clear hx27
                                                try clear c29
                                                try clear c29b0
                                                try clear c30
                                                try clear c30b0
                                                try clear c31
                                                try clear c32
                                                try clear c33
                                                try clear c33b0
                                                try clear c33b1
                                                try clear c34
                                                try clear c35
                                                try clear c35b0
                                                try clear c35b1
                                                try clear c36
                                                try clear c37
                                                try clear c45
                                                try clear c50
                                                try clear c50b0
                                                try clear c53
                                                try clear c54
                                                try clear c54b0
                                                try clear c55
                                                try clear c55b0
                                                try clear c57
                                                try clear c57b0
                                                try clear c58
                                                try clear c58b0
                                                try clear c67
                                                try clear c70
                                                try clear c71
                                                try clear c73
                                                try clear c75
                                                try clear c76
                                                try clear hcz12_0
                                                try clear hcz12_1
                                                try clear hcz13_0
                                                try clear hcz13_1
                                                try clear hcz20_0
                                                try clear hcz20_1
                                                try clear hcz22_0
                                                try clear hcz22_1
                                                try clear hcz26_0
                                                try clear hcz26_1
                                                try clear hcz37_0
                                                try clear hcz37_1
                                                try clear hcz41_0
                                                try clear hcz41_1
                                                try clear hcz43_0
                                                try clear hcz43_1
                                                try clear hcz51_0
                                                try clear hcz51_1
                                                try clear hcz52_0
                                                try clear hcz52_1
                                                try clear hcz5_0
                                                try clear hcz5_1
                                                try clear hcz61_0
                                                try clear hcz61_1
                                                try clear hcz63_0
                                                try clear hcz63_1
                                                try clear hcz68_0
                                                try clear hcz68_1
                                                try clear hcz68_2
                                                try clear hcz72_0
                                                try clear hcz72_1
                                                try clear hcz72_2
                                                try clear hcz77_0
                                                try clear hcz77_1
                                                try clear hcz8_0
                                                try clear hcz8_1
                                                try clear hfz12_0
                                                try clear hfz12_1
                                                try clear hfz13_0
                                                try clear hfz13_1
                                                try clear hfz20_0
                                                try clear hfz20_1
                                                try clear hfz22_0
                                                try clear hfz22_1
                                                try clear hfz26_0
                                                try clear hfz26_1
                                                try clear hfz37_0
                                                try clear hfz37_1
                                                try clear hfz41_0
                                                try clear hfz41_1
                                                try clear hfz43_0
                                                try clear hfz43_1
                                                try clear hfz51_0
                                                try clear hfz51_1
                                                try clear hfz52_0
                                                try clear hfz52_1
                                                try clear hfz5_0
                                                try clear hfz5_1
                                                try clear hfz61_0
                                                try clear hfz61_1
                                                try clear hfz63_0
                                                try clear hfz63_1
                                                try clear hfz68_0
                                                try clear hfz68_1
                                                try clear hfz68_2
                                                try clear hfz72_0
                                                try clear hfz72_1
                                                try clear hfz72_2
                                                try clear hfz77_0
                                                try clear hfz77_1
                                                try clear hfz8_0
                                                try clear hfz8_1
                                                try clear hx244_0
                                                try clear hx244_1
                                                try clear hx244_2
                                                try clear hx246_0
                                                try clear hx246_1
                                                try clear hx246_2
                                                try clear hx251_0
                                                try clear hx251_1
                                                try clear hx251_2
                                                try clear hx255_0
                                                try clear hx255_1
                                                try clear hx255_2
                                                try clear hx261_0
                                                try clear hx265_0
                                                try clear hx265_1
                                                try clear hx265_2
                                                try clear hx272_0
                                                try clear p2
                                                try clear p24
                                                try clear p244
                                                try clear p246
                                                try clear p25
                                                try clear p251
                                                try clear p255
                                                try clear p261
                                                try clear p265
                                                try clear p272
                                                try clear q2
                                                try clear q24
                                                try clear q244
                                                try clear q246
                                                try clear q25
                                                try clear q251
                                                try clear q255
                                                try clear q261
                                                try clear q265
                                                try clear q272
                                                obtain ⟨kq, x109_59, rfl, HA, HJ59, HO_10, BK241, BK270, BK271, HB⟩ := hcut
                                                cases kq with
                                                | zero => exact absurd HA.out (by simp [beaconlaw4_SgrApplies.j6])
                                                | succ kj59 =>
                                                  have H := HA.out
                                                  clear HA
                                                  simp only [beaconlaw4_SgrApplies.j6] at H
                                                  have HC78 := Aside0.mk H
                                                  clear H
                                                  go_upto_if 109 with (fail)
                                                  go_cut [13] (fun v13 wc => ∃ (kq : Nat) (x13_77 : Int) (x272000_77 : Int) (x272001_77 : Int) (x272002_77 : Int), v13 = .int .i64 x13_77 ∧ Aside0 (beaconlaw4_SgrApplies.j7 kq x3_1 t245 x9_5 t262 t269 x13_77 l0_0 l0_1 t266 t267 t268 x272000_77 x272001_77 x272002_77 = some r) ∧ Aside0 (kq ≤ kj59) ∧ Aside0 (Kd.R (Kd.int .i64) 3 wc w.heap.size (fun _ => True) (.slice Ao64 t262.length co64) t262) ∧ Aside0 (wc.heap[gb241]? = some (.cells #[(.slice (some ad244) l0_0.length c0_0), (.slice (some ad261) l0_1.length c0_1)] 54 (0, 0))) ∧ Aside0 (wc.heap[gb270]? = some (.cells #[.int .i64 t266, .int .i64 t267, .int .i64 t268] 56 (0, 0))) ∧ Aside0 (wc.heap[gb271]? = some (.cells #[.int .i64 x272000_77, .int .i64 x272001_77, .int .i64 x272002_77] 56 (0, 0))) ∧ Aside0 (Below w.heap.size w wc))
                                                  case first =>
                                                    have H := HC78.out
                                                    clear HC78
                                                    by_cases c79 : x109_59 = true
                                                    · subst c79
                                                      have H1 : (if 0 ≤ x3_1 then (if x3_1 < (l0_0.length : Int) then (if 0 ≤ x9_5 then (if x9_5 < (l0_1.length : Int) then ((beaconref3_Apply.f kj59 ((rd_T56 l0_0 x3_1).f0) ((rd_T56 l0_0 x3_1).f1) ((rd_T56 l0_0 x3_1).f2) (rd_L2 l0_1 x9_5)).bind fun bt276 => (beaconlaw4_SgrApplies.j7 kj59 x3_1 t245 x9_5 t262 t269 0 l0_0 l0_1 t266 t267 t268 bt276.1 bt276.2.1 bt276.2.2)) else (none)) else (none)) else (none)) else (none)) = some r := by rw [if_pos rfl] at H; exact H
                                                      clear H
                                                      have H := H1
                                                      clear H1
                                                      by_cases c80 : 0 ≤ x3_1
                                                      · rw [if_pos c80] at H
                                                        have c80b0 : decide (0 ≤ x3_1) = true := decide_eq_true c80
                                                        clear c80
                                                        (first | rw [c80b0] | (simp only [i64_w, i32_w]; rw [c80b0]) | skip)
                                                        by_cases c81 : x3_1 < (l0_0.length : Int)
                                                        · rw [if_pos c81] at H
                                                          have c81b0 : decide (x3_1 < (l0_0.length : Int)) = true := decide_eq_true c81
                                                          clear c81
                                                          by_cases c82 : 0 ≤ x9_5
                                                          · rw [if_pos c82] at H
                                                            have c82b0 : decide (0 ≤ x9_5) = true := decide_eq_true c82
                                                            clear c82
                                                            by_cases c83 : x9_5 < (l0_1.length : Int)
                                                            · rw [if_pos c83] at H
                                                              have c83b0 : decide (x9_5 < (l0_1.length : Int)) = true := decide_eq_true c83
                                                              clear c83
                                                              replace H := Option.bind_eq_some_iff.mp H
                                                              obtain ⟨⟨t276, t277, t278⟩, A840, H⟩ := H
                                                              replace H : (beaconlaw4_SgrApplies.j7 kj59 x3_1 t245 x9_5 t262 t269 0 l0_0 l0_1 t266 t267 t268 t276 t277 t278) = some r := H
                                                              have A84 := Aside0.mk A840
                                                              clear A840
                                                              have H' := Aside0.mk H
                                                              clear H
                                                              try go_wp2
                                                              have n0_ := Aside0.mk (Kd.R_drew HO_10.out)
                                                              have n1_ := Aside0.mk (blk_drew BK241.out)
                                                              have n2_ := Aside0.mk (blk_drew BK270.out)
                                                              have n3_ := Aside0.mk (blk_drew BK271.out)
                                                              have n4_ := Aside0.mk (below_drew1 HB.out)
                                                              clear HO_10
                                                              clear BK241
                                                              clear BK270
                                                              clear BK271
                                                              clear HB
                                                              have HO_10 := n0_
                                                              have BK241 := n1_
                                                              have BK270 := n2_
                                                              have BK271 := n3_
                                                              have HB := n4_
                                                              clear n0_ n1_ n2_ n3_ n4_
                                                              have p274 : 0 ≤ (x3_1 : Int) := of_decide_eq_true (by first | (with_reducible assumption) | assumption)
                                                              have q274 : x3_1 < (l0_0.length : Int) := of_decide_eq_true (by first | (with_reducible assumption) | assumption)
                                                              obtain ⟨ad274, e274, hx274_0, hx274_1, hx274_2⟩ := at_T56 HR0_0.out x3_1 p274 q274
                                                              have hw274_2 := hx274_2
                                                              have hw274_1 := hx274_1
                                                              have hw274_0 := hx274_0
                                                              obtain rfl : ad244 = ad274 := (by injection e274)
                                                              replace hx274_0 := (HB.out.cell (World.block_lt_of_cell? w _ hx274_0)).trans hx274_0
                                                              replace hx274_1 := (HB.out.cell (World.block_lt_of_cell? w _ hx274_1)).trans hx274_1
                                                              replace hx274_2 := (HB.out.cell (World.block_lt_of_cell? w _ hx274_2)).trans hx274_2
                                                              replace p274 := eq_true p274
                                                              replace q274 := eq_true q274
                                                              have p275 : 0 ≤ (x9_5 : Int) := of_decide_eq_true (by first | (with_reducible assumption) | assumption)
                                                              have q275 : x9_5 < (l0_1.length : Int) := of_decide_eq_true (by first | (with_reducible assumption) | assumption)
                                                              obtain ⟨ad275, A275_0, c275_0, e275, hx275_0, hl275_0, hi275_0⟩ := at_L2 HR0_1.out x9_5 p275 q275
                                                              have hw275_0 := hx275_0
                                                              obtain rfl : ad261 = ad275 := (by injection e275)
                                                              replace hx275_0 := (HB.out.cell (World.block_lt_of_cell? w _ hx275_0)).trans hx275_0
                                                              have HR275_0 := Aside0.mk hi275_0
                                                              have HC275_0 := Aside0.mk hl275_0
                                                              clear hi275_0 hl275_0
                                                              replace p275 := eq_true p275
                                                              replace q275 := eq_true q275
                                                              refine start_ (n := 13) (S := fun w' => w'.cell? ⟨gb241, 0, none⟩ = some (.slice (some ad244) l0_0.length c0_0) ∧ w'.cell? ⟨gb241, 1, none⟩ = some (.slice (some ad261) l0_1.length c0_1) ∧ w'.cell? (ad244.add ((x3_1).toNat * 3)) = some (.int .i64 ((rd_T56 l0_0 x3_1).f0)) ∧ w'.cell? ⟨(ad244.add ((x3_1).toNat * 3)).block, (ad244.add ((x3_1).toNat * 3)).off + 1, none⟩ = some (.int .i64 ((rd_T56 l0_0 x3_1).f1)) ∧ w'.cell? ⟨(ad244.add ((x3_1).toNat * 3)).block, (ad244.add ((x3_1).toNat * 3)).off + 2, none⟩ = some (.int .i64 ((rd_T56 l0_0 x3_1).f2)) ∧ w'.cell? (ad261.add (x9_5).toNat) = some (.slice A275_0 (rd_L2 l0_1 x9_5).length c275_0)) (ds := []) #[false, false, false, false, false, false, false, false, false, false, false, false, false] (by kernel_rfl) rfl rfl ⟨(blk_cell BK241.out 0).trans rfl, (blk_cell BK241.out 1).trans rfl, ((HB.out.cell (World.block_lt_of_cell? w _ hw274_0)).trans hw274_0), ((HB.out.cell (World.block_lt_of_cell? w _ hw274_1)).trans hw274_1), ((HB.out.cell (World.block_lt_of_cell? w _ hw274_2)).trans hw274_2), ((HB.out.cell (World.block_lt_of_cell? w _ hw275_0)).trans hw275_0)⟩ (fun hHeld => ?_); refine with_tabW beaconlaw4_SgrApplies.tab22 beaconlaw4_SgrApplies.bits22 (fun HT_ HW_ => ?_)
                                                              generalize wc.drew = w85 at HO_10 BK241 BK270 BK271 HB HR275_0 hx274_0 hx274_1 hx274_2 hx275_0 hHeld ⊢
                                                              refine pure_ (i := 0) (N := some 110) (v := ?_) (a' := ?_) #[true, false, false, false, false, false, false, false, false, false, false, false, false] rfl rfl (any_of HT_.out (by kernel_rfl)) (fun _ _ _ h => h) (Or.inl ⟨by rfl, ?_⟩) ?_ ?_
                                                              rotate_left
                                                              · intro w'
                                                                go_simp
                                                                with_reducible rfl
                                                              rotate_left
                                                              · simp only [Act.put, List.setIfInBounds_toArray, List.set_cons_zero, List.set_cons_succ, i64_w, i32_w]
                                                                rfl
                                                              refine pure_ (i := 2) (N := some 112) (v := ?_) (a' := ?_) #[true, false, true, false, false, false, false, false, false, false, false, false, false] rfl rfl (any_of HT_.out (by kernel_rfl)) (fun _ _ _ h => h) (Or.inl ⟨by rfl, ?_⟩) ?_ ?_
                                                              rotate_left
                                                              · intro w'
                                                                go_simp
                                                                with_reducible rfl
                                                              rotate_left
                                                              · simp only [Act.put, List.setIfInBounds_toArray, List.set_cons_zero, List.set_cons_succ, i64_w, i32_w]
                                                                rfl
                                                              refine pure_ (i := 5) (N := some 115) (v := ?_) (a' := ?_) #[true, false, true, false, false, true, false, false, false, false, false, false, false] rfl rfl (any_of HT_.out (by kernel_rfl)) (fun _ _ _ h => h) (Or.inl ⟨by rfl, ?_⟩) ?_ ?_
                                                              rotate_left
                                                              · intro w'
                                                                go_simp
                                                                with_reducible rfl
                                                              rotate_left
                                                              · simp only [Act.put, List.setIfInBounds_toArray, List.set_cons_zero, List.set_cons_succ, i64_w, i32_w]
                                                                rfl
                                                              refine pure_ (i := 7) (N := some 117) (v := ?_) (a' := ?_) #[true, false, true, false, false, true, false, true, false, false, false, false, false] rfl rfl (any_of HT_.out (by kernel_rfl)) (fun _ _ _ h => h) (Or.inl ⟨by rfl, ?_⟩) ?_ ?_
                                                              rotate_left
                                                              · intro w'
                                                                go_simp
                                                                with_reducible rfl
                                                              rotate_left
                                                              · simp only [Act.put, List.setIfInBounds_toArray, List.set_cons_zero, List.set_cons_succ, i64_w, i32_w]
                                                                rfl
                                                              refine take_ (i := 1) (N := some 111) (v := ?_) (a' := ?_) #[true, true, true, false, false, true, false, true, false, false, false, false, false] rfl rfl (take_ofW HT_.out HW_.out (by kernel_rfl)) (fun _ _ _ h => h) (Or.inl ⟨by rfl, ?_⟩) hHeld ?_ ?_
                                                              rotate_left
                                                              · rintro w' ⟨s0, s1, s2, s3, s4, s5⟩
                                                                go_simp
                                                                with_reducible rfl
                                                              rotate_left
                                                              · simp only [Act.put, List.setIfInBounds_toArray, List.set_cons_zero, List.set_cons_succ, i64_w, i32_w]
                                                                rfl
                                                              refine pure_ (i := 3) (N := some 113) (v := ?_) (a' := ?_) #[true, true, true, true, false, true, false, true, false, false, false, false, false] rfl rfl (any_of HT_.out (by kernel_rfl)) (fun _ _ _ h => h) (Or.inl ⟨by rfl, ?_⟩) ?_ ?_
                                                              rotate_left
                                                              · intro w'
                                                                go_simp
                                                                with_reducible rfl
                                                              rotate_left
                                                              · simp only [Act.put, List.setIfInBounds_toArray, List.set_cons_zero, List.set_cons_succ, i64_w, i32_w]
                                                                rfl
                                                              refine take_ (i := 4) (N := some 114) (v := ?_) (a' := ?_) #[true, true, true, true, true, true, false, true, false, false, false, false, false] rfl rfl (take_ofW HT_.out HW_.out (by kernel_rfl)) (fun _ _ _ h => h) (Or.inl ⟨by rfl, ?_⟩) hHeld ?_ ?_
                                                              rotate_left
                                                              · rintro w' ⟨s0, s1, s2, s3, s4, s5⟩
                                                                go_simp
                                                                with_reducible rfl
                                                              rotate_left
                                                              · simp only [Act.put, List.setIfInBounds_toArray, List.set_cons_zero, List.set_cons_succ, i64_w, i32_w]
                                                                rfl
                                                              refine take_ (i := 6) (N := some 116) (v := ?_) (a' := ?_) #[true, true, true, true, true, true, true, true, false, false, false, false, false] rfl rfl (take_ofW HT_.out HW_.out (by kernel_rfl)) (fun _ _ _ h => h) (Or.inl ⟨by rfl, ?_⟩) hHeld ?_ ?_
                                                              rotate_left
                                                              · rintro w' ⟨s0, s1, s2, s3, s4, s5⟩
                                                                go_simp
                                                                with_reducible rfl
                                                              rotate_left
                                                              · simp only [Act.put, List.setIfInBounds_toArray, List.set_cons_zero, List.set_cons_succ, i64_w, i32_w]
                                                                rfl
                                                              refine pure_ (i := 8) (N := some 118) (v := ?_) (a' := ?_) #[true, true, true, true, true, true, true, true, true, false, false, false, false] rfl rfl (any_of HT_.out (by kernel_rfl)) (fun _ _ _ h => h) (Or.inl ⟨by rfl, ?_⟩) ?_ ?_
                                                              rotate_left
                                                              · intro w'
                                                                go_simp
                                                                with_reducible rfl
                                                              rotate_left
                                                              · simp only [Act.put, List.setIfInBounds_toArray, List.set_cons_zero, List.set_cons_succ, i64_w, i32_w]
                                                                rfl
                                                              refine take_ (i := 9) (N := some 119) (v := ?_) (a' := ?_) #[true, true, true, true, true, true, true, true, true, true, false, false, false] rfl rfl (take_ofW HT_.out HW_.out (by kernel_rfl)) (fun _ _ _ h => h) (Or.inl ⟨by rfl, ?_⟩) hHeld ?_ ?_
                                                              rotate_left
                                                              · rintro w' ⟨s0, s1, s2, s3, s4, s5⟩
                                                                go_simp
                                                                with_reducible rfl
                                                              rotate_left
                                                              · simp only [Act.put, List.setIfInBounds_toArray, List.set_cons_zero, List.set_cons_succ, i64_w, i32_w]
                                                                rfl
                                                              refine one_ (i := 10) (N := some 120) #[true, true, true, true, true, true, true, true, true, true, true, false, false] rfl rfl (one_of HT_.out (by kernel_rfl)) (by decide) (fun K hK => ?_)
                                                              refine goes_ Try.func28 (by kernel_rfl) rfl #[.agg #[.int .i64 ((rd_T56 l0_0 x3_1).f0), .int .i64 ((rd_T56 l0_0 x3_1).f1), .int .i64 ((rd_T56 l0_0 x3_1).f2)], .slice A275_0 (rd_L2 l0_1 x9_5).length c275_0] (by rfl) rfl rfl (by (try simp only [List.map_toArray, List.map_cons, List.map_nil]); first | done | rfl | (simp only [List.length_drop, List.length_take]; rfl)) ?_
                                                              with_reducible refine (beaconref3_Apply.calls kj59 ((rd_T56 l0_0 x3_1).f0) ((rd_T56 l0_0 x3_1).f1) ((rd_T56 l0_0 x3_1).f2) _ _ (rd_L2 l0_1 x9_5) t276 t277 t278 _ ?side1 ?side2 A84.out).mono ?_
                                                              (case side1 => repeat (first | exact (Kd.C_below HR275_0.out HB.out) | (with_reducible refine Kd.C_alloc ?_ _) | (with_reducible refine Kd.C_drewN ?_ _) | (with_reducible refine Kd.C_drew ?_)))
                                                              (case side2 => exact HC275_0.out)
                                                              rintro e w86 ⟨rfl, hb⟩
                                                              refine ⟨_, rfl, ?_⟩
                                                              have n0_ := Aside0.mk (Kd.R_below (by (with_reducible repeat (first | apply Kd.R_alloc | apply Kd.R_drewN | apply Kd.R_drew)); exact HO_10.out) hb)
                                                              have n1_ := Aside0.mk (blk_below (g := gb241) (o := .cells #[.slice (some ad244) l0_0.length c0_0, .slice (some ad261) l0_1.length c0_1] 54 (0, 0)) (by (with_reducible repeat (first | refine blk_drewN ?_ _ | refine blk_drew ?_ | refine blk_alloc ?_ _)); exact BK241.out) hb)
                                                              have n2_ := Aside0.mk (blk_below (g := gb270) (o := .cells #[.int .i64 t266, .int .i64 t267, .int .i64 t268] 56 (0, 0)) (by (with_reducible repeat (first | refine blk_drewN ?_ _ | refine blk_drew ?_ | refine blk_alloc ?_ _)); exact BK270.out) hb)
                                                              have n3_ := Aside0.mk (blk_below (g := gb271) (o := .cells #[.int .i64 0, .int .i64 0, .int .i64 0] 56 (0, 0)) (by (with_reducible repeat (first | refine blk_drewN ?_ _ | refine blk_drew ?_ | refine blk_alloc ?_ _)); exact BK271.out) hb)
                                                              have n4_ := Aside0.mk (below_step (by repeat (first | (with_reducible first | exact HB.out | apply below_alloc | apply pw_below_drewN | apply below_drew1 | refine below_set ?_ GE241.out | refine below_set ?_ GE270.out | refine below_set ?_ GE271.out) | exact HB.out)) hb)
                                                              clear HO_10
                                                              clear BK241
                                                              clear BK270
                                                              clear BK271
                                                              clear HB
                                                              have HO_10 := n0_
                                                              have BK241 := n1_
                                                              have BK270 := n2_
                                                              have BK271 := n3_
                                                              have HB := n4_
                                                              clear n0_ n1_ n2_ n3_ n4_
                                                              (try clear hb)
                                                              (try clear hb2)
                                                              (try clear hk)
                                                              (try clear hi)
                                                              refine hK.out _ _ ⟨(blk_cell BK241.out 0).trans rfl, (blk_cell BK241.out 1).trans rfl, ((HB.out.cell (World.block_lt_of_cell? w _ hw274_0)).trans hw274_0), ((HB.out.cell (World.block_lt_of_cell? w _ hw274_1)).trans hw274_1), ((HB.out.cell (World.block_lt_of_cell? w _ hw274_2)).trans hw274_2), ((HB.out.cell (World.block_lt_of_cell? w _ hw275_0)).trans hw275_0)⟩ (fun hHeld => ?_)
                                                              clear hK K
                                                              refine norm_ (a' := ?_) ?_ ?_
                                                              rotate_left
                                                              · show Act.put _ (some 120) _ = _
                                                                simp only [Act.put, List.setIfInBounds_toArray, List.set_cons_zero, List.set_cons_succ, i64_w, i32_w]
                                                                rfl
                                                              refine pure_ (i := 11) (N := some 13) (v := ?_) (a' := ?_) #[true, true, true, true, true, true, true, true, true, true, true, true, false] rfl rfl (any_of HT_.out (by kernel_rfl)) (fun _ _ _ h => h) (Or.inl ⟨by rfl, ?_⟩) ?_ ?_
                                                              rotate_left
                                                              · intro w'
                                                                go_simp
                                                                with_reducible rfl
                                                              rotate_left
                                                              · simp only [Act.put, List.setIfInBounds_toArray, List.set_cons_zero, List.set_cons_succ, i64_w, i32_w]
                                                                rfl
                                                              refine one_ (i := 12) (N := none) #[true, true, true, true, true, true, true, true, true, true, true, true, true] rfl rfl (one_of HT_.out (by kernel_rfl)) (by decide) (fun K hK => ?_)
                                                              have hs87 : w86.cell? ⟨gb271, 0, none⟩ = some (.int .i64 0) := (blk_cell BK271.out 0).trans rfl
                                                              have hfs87 := blk_frozen BK271.out 0
                                                              have hns87_0 := NB241_271.out
                                                              have hns87_1 := NB270_271.out
                                                              have hms87_0 := NB271_241.out
                                                              have hms87_1 := NB271_270.out
                                                              have hs88 : w86.cell? ⟨gb271, 1, none⟩ = some (.int .i64 0) := (blk_cell BK271.out 1).trans rfl
                                                              have hfs88 := blk_frozen BK271.out 1
                                                              have hns88_0 := NB241_271.out
                                                              have hns88_1 := NB270_271.out
                                                              have hms88_0 := NB271_241.out
                                                              have hms88_1 := NB271_270.out
                                                              have hs89 : w86.cell? ⟨gb271, 2, none⟩ = some (.int .i64 0) := (blk_cell BK271.out 2).trans rfl
                                                              have hfs89 := blk_frozen BK271.out 2
                                                              have hns89_0 := NB241_271.out
                                                              have hns89_1 := NB270_271.out
                                                              have hms89_0 := NB271_241.out
                                                              have hms89_1 := NB271_270.out
                                                              refine skip_ (w1 := ?_) (by rfl) rfl ?_ ?_
                                                              rotate_left
                                                              · go_simp
                                                                rfl
                                                              refine hK.out _ _ ⟨((cell_far (p := ⟨gb271, _, none⟩) NB241_271.out _).trans (((cell_far (p := ⟨gb271, _, none⟩) NB241_271.out _).trans (((cell_far (p := ⟨gb271, _, none⟩) NB241_271.out _).trans (hHeld.1)))))), ((cell_far (p := ⟨gb271, _, none⟩) NB241_271.out _).trans (((cell_far (p := ⟨gb271, _, none⟩) NB241_271.out _).trans (((cell_far (p := ⟨gb271, _, none⟩) NB241_271.out _).trans (hHeld.2.1)))))), ((cell_far (p := ⟨gb271, _, none⟩) (by first | exact Nat.ne_of_lt (Nat.lt_of_lt_of_le (by have := World.block_lt_of_cell? _ _ hw274_0; first | rwa [add_block] at this | exact this) GW271.out) | (rw [add_block]; exact Nat.ne_of_lt (Nat.lt_of_lt_of_le (by have := World.block_lt_of_cell? _ _ hw274_0; first | rwa [add_block] at this | exact this) GW271.out)) | (show (Addr.add _ _).block ≠ _; rw [add_block]; exact Nat.ne_of_lt (Nat.lt_of_lt_of_le (by have := World.block_lt_of_cell? _ _ hw274_0; first | rwa [add_block] at this | exact this) GW271.out)) | (dsimp only; exact Nat.ne_of_lt (Nat.lt_of_lt_of_le (by have := World.block_lt_of_cell? _ _ hw274_0; first | rwa [add_block] at this | exact this) GW271.out))) _).trans (((cell_far (p := ⟨gb271, _, none⟩) (by first | exact Nat.ne_of_lt (Nat.lt_of_lt_of_le (by have := World.block_lt_of_cell? _ _ hw274_0; first | rwa [add_block] at this | exact this) GW271.out) | (rw [add_block]; exact Nat.ne_of_lt (Nat.lt_of_lt_of_le (by have := World.block_lt_of_cell? _ _ hw274_0; first | rwa [add_block] at this | exact this) GW271.out)) | (show (Addr.add _ _).block ≠ _; rw [add_block]; exact Nat.ne_of_lt (Nat.lt_of_lt_of_le (by have := World.block_lt_of_cell? _ _ hw274_0; first | rwa [add_block] at this | exact this) GW271.out)) | (dsimp only; exact Nat.ne_of_lt (Nat.lt_of_lt_of_le (by have := World.block_lt_of_cell? _ _ hw274_0; first | rwa [add_block] at this | exact this) GW271.out))) _).trans (((cell_far (p := ⟨gb271, _, none⟩) (by first | exact Nat.ne_of_lt (Nat.lt_of_lt_of_le (by have := World.block_lt_of_cell? _ _ hw274_0; first | rwa [add_block] at this | exact this) GW271.out) | (rw [add_block]; exact Nat.ne_of_lt (Nat.lt_of_lt_of_le (by have := World.block_lt_of_cell? _ _ hw274_0; first | rwa [add_block] at this | exact this) GW271.out)) | (show (Addr.add _ _).block ≠ _; rw [add_block]; exact Nat.ne_of_lt (Nat.lt_of_lt_of_le (by have := World.block_lt_of_cell? _ _ hw274_0; first | rwa [add_block] at this | exact this) GW271.out)) | (dsimp only; exact Nat.ne_of_lt (Nat.lt_of_lt_of_le (by have := World.block_lt_of_cell? _ _ hw274_0; first | rwa [add_block] at this | exact this) GW271.out))) _).trans (hHeld.2.2.1)))))), ((cell_far (p := ⟨gb271, _, none⟩) (by first | exact Nat.ne_of_lt (Nat.lt_of_lt_of_le (by have := World.block_lt_of_cell? _ _ hw274_1; first | rwa [add_block] at this | exact this) GW271.out) | (rw [add_block]; exact Nat.ne_of_lt (Nat.lt_of_lt_of_le (by have := World.block_lt_of_cell? _ _ hw274_1; first | rwa [add_block] at this | exact this) GW271.out)) | (show (Addr.add _ _).block ≠ _; rw [add_block]; exact Nat.ne_of_lt (Nat.lt_of_lt_of_le (by have := World.block_lt_of_cell? _ _ hw274_1; first | rwa [add_block] at this | exact this) GW271.out)) | (dsimp only; exact Nat.ne_of_lt (Nat.lt_of_lt_of_le (by have := World.block_lt_of_cell? _ _ hw274_1; first | rwa [add_block] at this | exact this) GW271.out))) _).trans (((cell_far (p := ⟨gb271, _, none⟩) (by first | exact Nat.ne_of_lt (Nat.lt_of_lt_of_le (by have := World.block_lt_of_cell? _ _ hw274_1; first | rwa [add_block] at this | exact this) GW271.out) | (rw [add_block]; exact Nat.ne_of_lt (Nat.lt_of_lt_of_le (by have := World.block_lt_of_cell? _ _ hw274_1; first | rwa [add_block] at this | exact this) GW271.out)) | (show (Addr.add _ _).block ≠ _; rw [add_block]; exact Nat.ne_of_lt (Nat.lt_of_lt_of_le (by have := World.block_lt_of_cell? _ _ hw274_1; first | rwa [add_block] at this | exact this) GW271.out)) | (dsimp only; exact Nat.ne_of_lt (Nat.lt_of_lt_of_le (by have := World.block_lt_of_cell? _ _ hw274_1; first | rwa [add_block] at this | exact this) GW271.out))) _).trans (((cell_far (p := ⟨gb271, _, none⟩) (by first | exact Nat.ne_of_lt (Nat.lt_of_lt_of_le (by have := World.block_lt_of_cell? _ _ hw274_1; first | rwa [add_block] at this | exact this) GW271.out) | (rw [add_block]; exact Nat.ne_of_lt (Nat.lt_of_lt_of_le (by have := World.block_lt_of_cell? _ _ hw274_1; first | rwa [add_block] at this | exact this) GW271.out)) | (show (Addr.add _ _).block ≠ _; rw [add_block]; exact Nat.ne_of_lt (Nat.lt_of_lt_of_le (by have := World.block_lt_of_cell? _ _ hw274_1; first | rwa [add_block] at this | exact this) GW271.out)) | (dsimp only; exact Nat.ne_of_lt (Nat.lt_of_lt_of_le (by have := World.block_lt_of_cell? _ _ hw274_1; first | rwa [add_block] at this | exact this) GW271.out))) _).trans (hHeld.2.2.2.1)))))), ((cell_far (p := ⟨gb271, _, none⟩) (by first | exact Nat.ne_of_lt (Nat.lt_of_lt_of_le (by have := World.block_lt_of_cell? _ _ hw274_2; first | rwa [add_block] at this | exact this) GW271.out) | (rw [add_block]; exact Nat.ne_of_lt (Nat.lt_of_lt_of_le (by have := World.block_lt_of_cell? _ _ hw274_2; first | rwa [add_block] at this | exact this) GW271.out)) | (show (Addr.add _ _).block ≠ _; rw [add_block]; exact Nat.ne_of_lt (Nat.lt_of_lt_of_le (by have := World.block_lt_of_cell? _ _ hw274_2; first | rwa [add_block] at this | exact this) GW271.out)) | (dsimp only; exact Nat.ne_of_lt (Nat.lt_of_lt_of_le (by have := World.block_lt_of_cell? _ _ hw274_2; first | rwa [add_block] at this | exact this) GW271.out))) _).trans (((cell_far (p := ⟨gb271, _, none⟩) (by first | exact Nat.ne_of_lt (Nat.lt_of_lt_of_le (by have := World.block_lt_of_cell? _ _ hw274_2; first | rwa [add_block] at this | exact this) GW271.out) | (rw [add_block]; exact Nat.ne_of_lt (Nat.lt_of_lt_of_le (by have := World.block_lt_of_cell? _ _ hw274_2; first | rwa [add_block] at this | exact this) GW271.out)) | (show (Addr.add _ _).block ≠ _; rw [add_block]; exact Nat.ne_of_lt (Nat.lt_of_lt_of_le (by have := World.block_lt_of_cell? _ _ hw274_2; first | rwa [add_block] at this | exact this) GW271.out)) | (dsimp only; exact Nat.ne_of_lt (Nat.lt_of_lt_of_le (by have := World.block_lt_of_cell? _ _ hw274_2; first | rwa [add_block] at this | exact this) GW271.out))) _).trans (((cell_far (p := ⟨gb271, _, none⟩) (by first | exact Nat.ne_of_lt (Nat.lt_of_lt_of_le (by have := World.block_lt_of_cell? _ _ hw274_2; first | rwa [add_block] at this | exact this) GW271.out) | (rw [add_block]; exact Nat.ne_of_lt (Nat.lt_of_lt_of_le (by have := World.block_lt_of_cell? _ _ hw274_2; first | rwa [add_block] at this | exact this) GW271.out)) | (show (Addr.add _ _).block ≠ _; rw [add_block]; exact Nat.ne_of_lt (Nat.lt_of_lt_of_le (by have := World.block_lt_of_cell? _ _ hw274_2; first | rwa [add_block] at this | exact this) GW271.out)) | (dsimp only; exact Nat.ne_of_lt (Nat.lt_of_lt_of_le (by have := World.block_lt_of_cell? _ _ hw274_2; first | rwa [add_block] at this | exact this) GW271.out))) _).trans (hHeld.2.2.2.2.1)))))), ((cell_far (p := ⟨gb271, _, none⟩) (by first | exact Nat.ne_of_lt (Nat.lt_of_lt_of_le (by have := World.block_lt_of_cell? _ _ hw275_0; first | rwa [add_block] at this | exact this) GW271.out) | (rw [add_block]; exact Nat.ne_of_lt (Nat.lt_of_lt_of_le (by have := World.block_lt_of_cell? _ _ hw275_0; first | rwa [add_block] at this | exact this) GW271.out)) | (show (Addr.add _ _).block ≠ _; rw [add_block]; exact Nat.ne_of_lt (Nat.lt_of_lt_of_le (by have := World.block_lt_of_cell? _ _ hw275_0; first | rwa [add_block] at this | exact this) GW271.out)) | (dsimp only; exact Nat.ne_of_lt (Nat.lt_of_lt_of_le (by have := World.block_lt_of_cell? _ _ hw275_0; first | rwa [add_block] at this | exact this) GW271.out))) _).trans (((cell_far (p := ⟨gb271, _, none⟩) (by first | exact Nat.ne_of_lt (Nat.lt_of_lt_of_le (by have := World.block_lt_of_cell? _ _ hw275_0; first | rwa [add_block] at this | exact this) GW271.out) | (rw [add_block]; exact Nat.ne_of_lt (Nat.lt_of_lt_of_le (by have := World.block_lt_of_cell? _ _ hw275_0; first | rwa [add_block] at this | exact this) GW271.out)) | (show (Addr.add _ _).block ≠ _; rw [add_block]; exact Nat.ne_of_lt (Nat.lt_of_lt_of_le (by have := World.block_lt_of_cell? _ _ hw275_0; first | rwa [add_block] at this | exact this) GW271.out)) | (dsimp only; exact Nat.ne_of_lt (Nat.lt_of_lt_of_le (by have := World.block_lt_of_cell? _ _ hw275_0; first | rwa [add_block] at this | exact this) GW271.out))) _).trans (((cell_far (p := ⟨gb271, _, none⟩) (by first | exact Nat.ne_of_lt (Nat.lt_of_lt_of_le (by have := World.block_lt_of_cell? _ _ hw275_0; first | rwa [add_block] at this | exact this) GW271.out) | (rw [add_block]; exact Nat.ne_of_lt (Nat.lt_of_lt_of_le (by have := World.block_lt_of_cell? _ _ hw275_0; first | rwa [add_block] at this | exact this) GW271.out)) | (show (Addr.add _ _).block ≠ _; rw [add_block]; exact Nat.ne_of_lt (Nat.lt_of_lt_of_le (by have := World.block_lt_of_cell? _ _ hw275_0; first | rwa [add_block] at this | exact this) GW271.out)) | (dsimp only; exact Nat.ne_of_lt (Nat.lt_of_lt_of_le (by have := World.block_lt_of_cell? _ _ hw275_0; first | rwa [add_block] at this | exact this) GW271.out))) _).trans (hHeld.2.2.2.2.2))))))⟩ (fun hHeld => ?_)
                                                              clear hK K
                                                              refine done_ (done_of HT_.out (by kernel_rfl)) ?_
                                                              try go_wp2
                                                              go_meet
                                                              case rel => exact ⟨_, (0), (t276), (t277), (t278), (by first | rfl | (simp; done) | (simp [*]; done)), H', ⟨by have := HK1.out; have := HJ9.out; have := HJ18.out; have := HJ27.out; have := HK5.out; have := HJ48.out; have := HJ59.out; first | omega | exact Nat.le_refl _⟩, ⟨by (with_reducible repeat (first | apply Kd.R_alloc | apply Kd.R_drewN | apply Kd.R_drew)); exact Kd.R_mono (Kd.R_far (p := ⟨gb271, 2, none⟩) (Kd.R_far (p := ⟨gb271, 1, none⟩) (Kd.R_far (p := ⟨gb271, 0, none⟩) (Kd.R_types HO_10.out BK271.out (by decide)) (fun _ hk => hk.2) (.int .i64 t276)) (fun _ hk => hk.2) (.int .i64 t277)) (fun _ hk => hk.2) (.int .i64 t278)) (fun _ hk => trivial)⟩, ⟨by (with_reducible repeat (first | refine blk_drewN ?_ _ | refine blk_drew ?_ | refine blk_alloc ?_ _)); refine blk_far ?_ NB241_271.out _; (with_reducible repeat (first | refine blk_drewN ?_ _ | refine blk_drew ?_ | refine blk_alloc ?_ _)); refine blk_far ?_ NB241_271.out _; (with_reducible repeat (first | refine blk_drewN ?_ _ | refine blk_drew ?_ | refine blk_alloc ?_ _)); refine blk_far ?_ NB241_271.out _; (with_reducible repeat (first | refine blk_drewN ?_ _ | refine blk_drew ?_ | refine blk_alloc ?_ _)); exact BK241.out⟩, ⟨by (with_reducible repeat (first | refine blk_drewN ?_ _ | refine blk_drew ?_ | refine blk_alloc ?_ _)); refine blk_far ?_ NB270_271.out _; (with_reducible repeat (first | refine blk_drewN ?_ _ | refine blk_drew ?_ | refine blk_alloc ?_ _)); refine blk_far ?_ NB270_271.out _; (with_reducible repeat (first | refine blk_drewN ?_ _ | refine blk_drew ?_ | refine blk_alloc ?_ _)); refine blk_far ?_ NB270_271.out _; (with_reducible repeat (first | refine blk_drewN ?_ _ | refine blk_drew ?_ | refine blk_alloc ?_ _)); exact BK270.out⟩, ⟨by (with_reducible repeat (first | refine blk_drewN ?_ _ | refine blk_drew ?_ | refine blk_alloc ?_ _)); refine blk_put (cs := #[.int .i64 t276, .int .i64 t277, .int .i64 0]) ?_ 2 _ rfl; (with_reducible repeat (first | refine blk_drewN ?_ _ | refine blk_drew ?_ | refine blk_alloc ?_ _)); refine blk_put (cs := #[.int .i64 t276, .int .i64 0, .int .i64 0]) ?_ 1 _ rfl; (with_reducible repeat (first | refine blk_drewN ?_ _ | refine blk_drew ?_ | refine blk_alloc ?_ _)); refine blk_put (cs := #[.int .i64 0, .int .i64 0, .int .i64 0]) ?_ 0 _ rfl; (with_reducible repeat (first | refine blk_drewN ?_ _ | refine blk_drew ?_ | refine blk_alloc ?_ _)); exact BK271.out⟩, ⟨by repeat (first | (with_reducible first | exact HB.out | apply below_alloc | apply pw_below_drewN | apply below_drew1 | refine below_set ?_ GE241.out | refine below_set ?_ GE270.out | refine below_set ?_ GE271.out) | exact HB.out)⟩⟩
                                                            · rw [if_neg c83] at H
                                                              exact absurd H (by simp)
                                                          · rw [if_neg c82] at H
                                                            exact absurd H (by simp)
                                                        · rw [if_neg c81] at H
                                                          exact absurd H (by simp)
                                                      · rw [if_neg c80] at H
                                                        exact absurd H (by simp)
                                                    · replace c79 := Bool.eq_false_iff.mpr c79
                                                      subst c79
                                                      have H1 : (beaconlaw4_SgrApplies.j7 kj59 x3_1 t245 x9_5 t262 t269 1 l0_0 l0_1 t266 t267 t268 0 0 0) = some r := by rw [if_neg (show ¬ (false = true) by decide)] at H; exact H
                                                      clear H
                                                      have H := H1
                                                      clear H1
                                                      have H' := Aside0.mk H
                                                      clear H
                                                      go_wp2
                                                      go_meet
                                                      case rel => exact ⟨_, (1), (0), (0), (0), (by first | rfl | (simp; done) | (simp [*]; done)), H', ⟨by have := HK1.out; have := HJ9.out; have := HJ18.out; have := HJ27.out; have := HK5.out; have := HJ48.out; have := HJ59.out; first | omega | exact Nat.le_refl _⟩, ⟨by (with_reducible repeat (first | apply Kd.R_alloc | apply Kd.R_drewN | apply Kd.R_drew)); exact HO_10.out⟩, ⟨by (with_reducible repeat (first | refine blk_drewN ?_ _ | refine blk_drew ?_ | refine blk_alloc ?_ _)); exact BK241.out⟩, ⟨by (with_reducible repeat (first | refine blk_drewN ?_ _ | refine blk_drew ?_ | refine blk_alloc ?_ _)); exact BK270.out⟩, ⟨by (with_reducible repeat (first | refine blk_drewN ?_ _ | refine blk_drew ?_ | refine blk_alloc ?_ _)); exact BK271.out⟩, ⟨by repeat (first | (with_reducible first | exact HB.out | apply below_alloc | apply pw_below_drewN | apply below_drew1 | refine below_set ?_ GE241.out | refine below_set ?_ GE270.out | refine below_set ?_ GE271.out) | exact HB.out)⟩⟩
                                                  case rest =>
                                                    clear HC78
                                                    try clear c1
                                                    try clear c2
                                                    try clear p2
                                                    try clear q2
                                                    try clear hx2
                                                    try clear c3
                                                    try clear c4
                                                    try clear c5
                                                    try clear c6
                                                    try clear c7
                                                    try clear c8
                                                    try clear c11
                                                    try clear c11b0
                                                    try clear c14
                                                    try clear c15
                                                    try clear c15b0
                                                    try clear c16
                                                    try clear c16b0
                                                    try clear c24
                                                    try clear p24
                                                    try clear q24
                                                    try clear hx24
                                                    try clear c25
                                                    try clear p25
                                                    try clear q25
                                                    try clear hx25
                                                    try clear c26
                                                    try clear p26
                                                    try clear q26
                                                    try clear hx26
                                                    try clear c27
                                                    try clear p27
                                                    try clear q27
                                                    try clear hx27
                                                    try clear c28
                                                    try clear c29
                                                    try clear c29b0
                                                    try clear c30
                                                    try clear c30b0
                                                    try clear c31
                                                    try clear c32
                                                    try clear c33
                                                    try clear c33b0
                                                    try clear c33b1
                                                    try clear c34
                                                    try clear c35
                                                    try clear c35b0
                                                    try clear c35b1
                                                    try clear c36
                                                    try clear c37
                                                    try clear c45
                                                    try clear c50
                                                    try clear c50b0
                                                    try clear c53
                                                    try clear c54
                                                    try clear c54b0
                                                    try clear c55
                                                    try clear c55b0
                                                    try clear c57
                                                    try clear c57b0
                                                    try clear c58
                                                    try clear c58b0
                                                    try clear c67
                                                    try clear c70
                                                    try clear c71
                                                    try clear c73
                                                    try clear c75
                                                    try clear c76
                                                    try clear c79
                                                    try clear c80
                                                    try clear c80b0
                                                    try clear c81
                                                    try clear c81b0
                                                    try clear c82
                                                    try clear c82b0
                                                    try clear c83
                                                    try clear c83b0
                                                    try clear hcz12_0
                                                    try clear hcz12_1
                                                    try clear hcz13_0
                                                    try clear hcz13_1
                                                    try clear hcz20_0
                                                    try clear hcz20_1
                                                    try clear hcz22_0
                                                    try clear hcz22_1
                                                    try clear hcz26_0
                                                    try clear hcz26_1
                                                    try clear hcz37_0
                                                    try clear hcz37_1
                                                    try clear hcz41_0
                                                    try clear hcz41_1
                                                    try clear hcz43_0
                                                    try clear hcz43_1
                                                    try clear hcz51_0
                                                    try clear hcz51_1
                                                    try clear hcz52_0
                                                    try clear hcz52_1
                                                    try clear hcz5_0
                                                    try clear hcz5_1
                                                    try clear hcz61_0
                                                    try clear hcz61_1
                                                    try clear hcz63_0
                                                    try clear hcz63_1
                                                    try clear hcz68_0
                                                    try clear hcz68_1
                                                    try clear hcz68_2
                                                    try clear hcz72_0
                                                    try clear hcz72_1
                                                    try clear hcz72_2
                                                    try clear hcz77_0
                                                    try clear hcz77_1
                                                    try clear hcz8_0
                                                    try clear hcz8_1
                                                    try clear hfz12_0
                                                    try clear hfz12_1
                                                    try clear hfz13_0
                                                    try clear hfz13_1
                                                    try clear hfz20_0
                                                    try clear hfz20_1
                                                    try clear hfz22_0
                                                    try clear hfz22_1
                                                    try clear hfz26_0
                                                    try clear hfz26_1
                                                    try clear hfz37_0
                                                    try clear hfz37_1
                                                    try clear hfz41_0
                                                    try clear hfz41_1
                                                    try clear hfz43_0
                                                    try clear hfz43_1
                                                    try clear hfz51_0
                                                    try clear hfz51_1
                                                    try clear hfz52_0
                                                    try clear hfz52_1
                                                    try clear hfz5_0
                                                    try clear hfz5_1
                                                    try clear hfz61_0
                                                    try clear hfz61_1
                                                    try clear hfz63_0
                                                    try clear hfz63_1
                                                    try clear hfz68_0
                                                    try clear hfz68_1
                                                    try clear hfz68_2
                                                    try clear hfz72_0
                                                    try clear hfz72_1
                                                    try clear hfz72_2
                                                    try clear hfz77_0
                                                    try clear hfz77_1
                                                    try clear hfz8_0
                                                    try clear hfz8_1
                                                    try clear hx244_0
                                                    try clear hx244_1
                                                    try clear hx244_2
                                                    try clear hx246_0
                                                    try clear hx246_1
                                                    try clear hx246_2
                                                    try clear hx251_0
                                                    try clear hx251_1
                                                    try clear hx251_2
                                                    try clear hx255_0
                                                    try clear hx255_1
                                                    try clear hx255_2
                                                    try clear hx261_0
                                                    try clear hx265_0
                                                    try clear hx265_1
                                                    try clear hx265_2
                                                    try clear hx272_0
                                                    try clear hx274_0
                                                    try clear hx274_1
                                                    try clear hx274_2
                                                    try clear hx275_0
                                                    try clear p2
                                                    try clear p24
                                                    try clear p244
                                                    try clear p246
                                                    try clear p25
                                                    try clear p251
                                                    try clear p255
                                                    try clear p26
                                                    try clear p261
                                                    try clear p265
                                                    try clear p27
                                                    try clear p272
                                                    try clear p274
                                                    try clear p275
                                                    try clear q2
                                                    try clear q24
                                                    try clear q244
                                                    try clear q246
                                                    try clear q25
                                                    try clear q251
                                                    try clear q255
                                                    try clear q26
                                                    try clear q261
                                                    try clear q265
                                                    try clear q27
                                                    try clear q272
                                                    try clear q274
                                                    try clear q275
                                                    obtain ⟨kq, x13_77, x272000_77, x272001_77, x272002_77, rfl, HA, HJ77, HO_10, BK241, BK270, BK271, HB⟩ := hcut
                                                    cases kq with
                                                    | zero => exact absurd HA.out (by simp [beaconlaw4_SgrApplies.j7])
                                                    | succ kj77 =>
                                                      have H := HA.out
                                                      clear HA
                                                      simp only [beaconlaw4_SgrApplies.j7] at H
                                                      replace H := Option.bind_eq_some_iff.mp H
                                                      obtain ⟨t279, A900, H⟩ := H
                                                      replace H : (if t279 = x13_77 then (if (!(t266 == x272000_77) || (!(t267 == x272001_77) || (!(t268 == x272002_77)))) = true then (some false) else (if 0 ≤ x9_5 then (if x9_5 < (l0_1.length : Int) then ((beaconref0_EqNumbers.f kj77 t262 (rd_L2 l0_1 x9_5)).bind fun t281 => (if t281 = true then (beaconlaw4_SgrApplies.l1 kj77 x3_1 t245 (wrap64 (x9_5 + 1)) l0_0 l0_1) else (some false))) else (none)) else (none))) else (some false)) = some r := H
                                                      have A90 := Aside0.mk A900
                                                      clear A900
                                                      by_cases c91 : t279 = x13_77
                                                      · rw [if_pos c91] at H
                                                        have c91b0 : (t279 == x13_77) = true := beq_iff_eq.mpr c91
                                                        have c91b1 : (t279 != x13_77) = false := bne_eq_false_iff_eq.mpr c91
                                                        clear c91
                                                        by_cases c92 : (!(t266 == x272000_77) || (!(t267 == x272001_77) || (!(t268 == x272002_77)))) = true
                                                        · rw [if_pos c92] at H
                                                          have c92b0 : (!(t266 == x272000_77) || (!(t267 == x272001_77) || (!(t268 == x272002_77)))) = true := c92
                                                          clear c92
                                                          obtain rfl := Option.some.inj H
                                                          go_wp2_with (first | ((with_reducible refine gate_callee (f := 27) rfl ?_); refine goesL_ (some 122) rfl rfl Try.func27 (by kernel_rfl) rfl #[.int .i64 t269] rfl (by (try simp only [List.map_toArray, List.map_cons, List.map_nil]); first | done | rfl | (simp only [List.length_drop, List.length_take]; rfl)) ?_; (with_reducible refine (beaconlaw4_num.calls t269 t279 _ A90.out).mono ?_); rintro e w' ⟨rfl, ⟨nd, rfl⟩⟩; refine ⟨_, rfl, ?_⟩; have hnb93 := NB270_241.out; have hnc93 := NB241_270.out; have hnb94 := NB270_271.out; have hnc94 := NB271_270.out; have hcz95_0 : wc.cell? ⟨gb270, 0, none⟩ = some (.int .i64 t266) := (blk_cell BK270.out 0).trans rfl; have hcz95_1 : wc.cell? ⟨gb270, 1, none⟩ = some (.int .i64 t267) := (blk_cell BK270.out 1).trans rfl; have hcz95_2 : wc.cell? ⟨gb270, 2, none⟩ = some (.int .i64 t268) := (blk_cell BK270.out 2).trans rfl; have hfz95_0 := blk_frozen BK270.out 0; have hfz95_1 := blk_frozen BK270.out 1; have hfz95_2 := blk_frozen BK270.out 2; have hnb96 := NB271_241.out; have hnc96 := NB241_271.out; have hcz97_0 : wc.cell? ⟨gb271, 0, none⟩ = some (.int .i64 x272000_77) := (blk_cell BK271.out 0).trans rfl; have hcz97_1 : wc.cell? ⟨gb271, 1, none⟩ = some (.int .i64 x272001_77) := (blk_cell BK271.out 1).trans rfl; have hcz97_2 : wc.cell? ⟨gb271, 2, none⟩ = some (.int .i64 x272002_77) := (blk_cell BK271.out 2).trans rfl; have hfz97_0 := blk_frozen BK271.out 0; have hfz97_1 := blk_frozen BK271.out 1; have hfz97_2 := blk_frozen BK271.out 2))
                                                          go_ret
                                                          exact ⟨by first | rfl | (simp [errW_none, errW_some] <;> rfl) | (simp [*, errW_none, errW_some] <;> rfl), by repeat (first | (with_reducible first | exact HB.out | apply below_alloc | apply pw_below_drewN | apply below_drew1 | refine below_set ?_ GE241.out | refine below_set ?_ GE270.out | refine below_set ?_ GE271.out) | exact HB.out)⟩
                                                        · rw [if_neg c92] at H
                                                          have c92b0 : (!(t266 == x272000_77) || (!(t267 == x272001_77) || (!(t268 == x272002_77)))) = false := by simpa using c92
                                                          clear c92
                                                          by_cases c98 : 0 ≤ x9_5
                                                          · rw [if_pos c98] at H
                                                            have c98b0 : decide (0 ≤ x9_5) = true := decide_eq_true c98
                                                            clear c98
                                                            by_cases c99 : x9_5 < (l0_1.length : Int)
                                                            · rw [if_pos c99] at H
                                                              have c99b0 : decide (x9_5 < (l0_1.length : Int)) = true := decide_eq_true c99
                                                              clear c99
                                                              replace H := Option.bind_eq_some_iff.mp H
                                                              obtain ⟨t281, A1000, H⟩ := H
                                                              replace H : (if t281 = true then (beaconlaw4_SgrApplies.l1 kj77 x3_1 t245 (wrap64 (x9_5 + 1)) l0_0 l0_1) else (some false)) = some r := H
                                                              have A100 := Aside0.mk A1000
                                                              clear A1000
                                                              by_cases c101 : t281 = true
                                                              · subst c101
                                                                have H1 : (beaconlaw4_SgrApplies.l1 kj77 x3_1 t245 (wrap64 (x9_5 + 1)) l0_0 l0_1) = some r := by rw [if_pos rfl] at H; exact H
                                                                clear H
                                                                have H := H1
                                                                clear H1
                                                                have H' := Aside0.mk H
                                                                clear H
                                                                go_wp2_with (first | ((with_reducible refine gate_callee (f := 27) rfl ?_); refine goesL_ (some 122) rfl rfl Try.func27 (by kernel_rfl) rfl #[.int .i64 t269] rfl (by (try simp only [List.map_toArray, List.map_cons, List.map_nil]); first | done | rfl | (simp only [List.length_drop, List.length_take]; rfl)) ?_; (with_reducible refine (beaconlaw4_num.calls t269 t279 _ A90.out).mono ?_); rintro e w' ⟨rfl, ⟨nd, rfl⟩⟩; refine ⟨_, rfl, ?_⟩; have hnb102 := NB270_241.out; have hnc102 := NB241_270.out; have hnb103 := NB270_271.out; have hnc103 := NB271_270.out; have hcz104_0 : wc.cell? ⟨gb270, 0, none⟩ = some (.int .i64 t266) := (blk_cell BK270.out 0).trans rfl; have hcz104_1 : wc.cell? ⟨gb270, 1, none⟩ = some (.int .i64 t267) := (blk_cell BK270.out 1).trans rfl; have hcz104_2 : wc.cell? ⟨gb270, 2, none⟩ = some (.int .i64 t268) := (blk_cell BK270.out 2).trans rfl; have hfz104_0 := blk_frozen BK270.out 0; have hfz104_1 := blk_frozen BK270.out 1; have hfz104_2 := blk_frozen BK270.out 2; have hnb105 := NB271_241.out; have hnc105 := NB241_271.out; have hcz106_0 : wc.cell? ⟨gb271, 0, none⟩ = some (.int .i64 x272000_77) := (blk_cell BK271.out 0).trans rfl; have hcz106_1 : wc.cell? ⟨gb271, 1, none⟩ = some (.int .i64 x272001_77) := (blk_cell BK271.out 1).trans rfl; have hcz106_2 : wc.cell? ⟨gb271, 2, none⟩ = some (.int .i64 x272002_77) := (blk_cell BK271.out 2).trans rfl; have hfz106_0 := blk_frozen BK271.out 0; have hfz106_1 := blk_frozen BK271.out 1; have hfz106_2 := blk_frozen BK271.out 2; have hcz107_0 : wc.cell? ⟨gb241, 0, none⟩ = some (.slice (some ad244) l0_0.length c0_0) := (blk_cell BK241.out 0).trans rfl; have hcz107_1 : wc.cell? ⟨gb241, 1, none⟩ = some (.slice (some ad261) l0_1.length c0_1) := (blk_cell BK241.out 1).trans rfl; have hfz107_0 := blk_frozen BK241.out 0; have hfz107_1 := blk_frozen BK241.out 1; have p280 : 0 ≤ (x9_5 : Int) := of_decide_eq_true (by first | (with_reducible assumption) | assumption); have q280 : x9_5 < (l0_1.length : Int) := of_decide_eq_true (by first | (with_reducible assumption) | assumption); obtain ⟨ad280, A280_0, c280_0, e280, hx280_0, hl280_0, hi280_0⟩ := at_L2 HR0_1.out x9_5 p280 q280; obtain rfl : ad261 = ad280 := (by injection e280); replace hx280_0 := (HB.out.cell (World.block_lt_of_cell? w _ hx280_0)).trans hx280_0; have HR280_0 := Aside0.mk hi280_0; have HC280_0 := Aside0.mk hl280_0; clear hi280_0 hl280_0; replace p280 := eq_true p280; replace q280 := eq_true q280) | (go_at_call 35; (with_reducible refine (beaconref0_EqNumbers.calls kj77 _ _ t262 _ _ (rd_L2 l0_1 x9_5) true _ ?side1 ?side2 ?side3 ?side4 A100.out).mono ?_); (case side1 => repeat (first | exact (Kd.R_reads' HO_10.out).2.2 | (with_reducible refine Kd.C_alloc ?_ _) | (with_reducible refine Kd.C_drewN ?_ _) | (with_reducible refine Kd.C_drew ?_))); (case side2 => exact (Kd.R_reads' HO_10.out).2.1); (case side3 => repeat (first | exact (Kd.C_below HR280_0.out (by repeat (first | (with_reducible first | exact HB.out | apply below_alloc | apply pw_below_drewN | apply below_drew1 | refine below_set ?_ GE241.out | refine below_set ?_ GE270.out | refine below_set ?_ GE271.out) | exact HB.out))) | (with_reducible refine Kd.C_alloc ?_ _) | (with_reducible refine Kd.C_drewN ?_ _) | (with_reducible refine Kd.C_drew ?_))); (case side4 => exact HC280_0.out); rintro e w' ⟨rfl, ⟨nd, rfl⟩⟩))
                                                                go_roundg kj77
                                                                case measure => have := HK1.out; have := HJ9.out; have := HJ18.out; have := HJ27.out; have := HK5.out; have := HJ48.out; have := HJ59.out; have := HJ77.out; omega
                                                                case rel => exact ⟨(wrap64 (x9_5 + 1)), (by first | rfl | (simp; done) | (simp [*]; done)), H', ⟨by have := HK1.out; have := HJ9.out; have := HJ18.out; have := HJ27.out; have := HK5.out; have := HJ48.out; have := HJ59.out; have := HJ77.out; omega⟩, ⟨by (with_reducible repeat (first | refine blk_drewN ?_ _ | refine blk_drew ?_ | refine blk_alloc ?_ _)); exact BK241.out⟩, ⟨by repeat (first | (with_reducible first | exact HB.out | apply below_alloc | apply pw_below_drewN | apply below_drew1 | refine below_set ?_ GE241.out | refine below_set ?_ GE270.out | refine below_set ?_ GE271.out) | exact HB.out)⟩⟩
                                                              · replace c101 := Bool.eq_false_iff.mpr c101
                                                                subst c101
                                                                have H1 : (some false) = some r := by rw [if_neg (show ¬ (false = true) by decide)] at H; exact H
                                                                clear H
                                                                have H := H1
                                                                clear H1
                                                                obtain rfl := Option.some.inj H
                                                                go_wp2_with (first | ((with_reducible refine gate_callee (f := 27) rfl ?_); refine goesL_ (some 122) rfl rfl Try.func27 (by kernel_rfl) rfl #[.int .i64 t269] rfl (by (try simp only [List.map_toArray, List.map_cons, List.map_nil]); first | done | rfl | (simp only [List.length_drop, List.length_take]; rfl)) ?_; (with_reducible refine (beaconlaw4_num.calls t269 t279 _ A90.out).mono ?_); rintro e w' ⟨rfl, ⟨nd, rfl⟩⟩; refine ⟨_, rfl, ?_⟩; have hnb108 := NB270_241.out; have hnc108 := NB241_270.out; have hnb109 := NB270_271.out; have hnc109 := NB271_270.out; have hcz110_0 : wc.cell? ⟨gb270, 0, none⟩ = some (.int .i64 t266) := (blk_cell BK270.out 0).trans rfl; have hcz110_1 : wc.cell? ⟨gb270, 1, none⟩ = some (.int .i64 t267) := (blk_cell BK270.out 1).trans rfl; have hcz110_2 : wc.cell? ⟨gb270, 2, none⟩ = some (.int .i64 t268) := (blk_cell BK270.out 2).trans rfl; have hfz110_0 := blk_frozen BK270.out 0; have hfz110_1 := blk_frozen BK270.out 1; have hfz110_2 := blk_frozen BK270.out 2; have hnb111 := NB271_241.out; have hnc111 := NB241_271.out; have hcz112_0 : wc.cell? ⟨gb271, 0, none⟩ = some (.int .i64 x272000_77) := (blk_cell BK271.out 0).trans rfl; have hcz112_1 : wc.cell? ⟨gb271, 1, none⟩ = some (.int .i64 x272001_77) := (blk_cell BK271.out 1).trans rfl; have hcz112_2 : wc.cell? ⟨gb271, 2, none⟩ = some (.int .i64 x272002_77) := (blk_cell BK271.out 2).trans rfl; have hfz112_0 := blk_frozen BK271.out 0; have hfz112_1 := blk_frozen BK271.out 1; have hfz112_2 := blk_frozen BK271.out 2; have hcz113_0 : wc.cell? ⟨gb241, 0, none⟩ = some (.slice (some ad244) l0_0.length c0_0) := (blk_cell BK241.out 0).trans rfl; have hcz113_1 : wc.cell? ⟨gb241, 1, none⟩ = some (.slice (some ad261) l0_1.length c0_1) := (blk_cell BK241.out 1).trans rfl; have hfz113_0 := blk_frozen BK241.out 0; have hfz113_1 := blk_frozen BK241.out 1; have p280 : 0 ≤ (x9_5 : Int) := of_decide_eq_true (by first | (with_reducible assumption) | assumption); have q280 : x9_5 < (l0_1.length : Int) := of_decide_eq_true (by first | (with_reducible assumption) | assumption); obtain ⟨ad280, A280_0, c280_0, e280, hx280_0, hl280_0, hi280_0⟩ := at_L2 HR0_1.out x9_5 p280 q280; obtain rfl : ad261 = ad280 := (by injection e280); replace hx280_0 := (HB.out.cell (World.block_lt_of_cell? w _ hx280_0)).trans hx280_0; have HR280_0 := Aside0.mk hi280_0; have HC280_0 := Aside0.mk hl280_0; clear hi280_0 hl280_0; replace p280 := eq_true p280; replace q280 := eq_true q280) | (go_at_call 35; (with_reducible refine (beaconref0_EqNumbers.calls kj77 _ _ t262 _ _ (rd_L2 l0_1 x9_5) false _ ?side1 ?side2 ?side3 ?side4 A100.out).mono ?_); (case side1 => repeat (first | exact (Kd.R_reads' HO_10.out).2.2 | (with_reducible refine Kd.C_alloc ?_ _) | (with_reducible refine Kd.C_drewN ?_ _) | (with_reducible refine Kd.C_drew ?_))); (case side2 => exact (Kd.R_reads' HO_10.out).2.1); (case side3 => repeat (first | exact (Kd.C_below HR280_0.out (by repeat (first | (with_reducible first | exact HB.out | apply below_alloc | apply pw_below_drewN | apply below_drew1 | refine below_set ?_ GE241.out | refine below_set ?_ GE270.out | refine below_set ?_ GE271.out) | exact HB.out))) | (with_reducible refine Kd.C_alloc ?_ _) | (with_reducible refine Kd.C_drewN ?_ _) | (with_reducible refine Kd.C_drew ?_))); (case side4 => exact HC280_0.out); rintro e w' ⟨rfl, ⟨nd, rfl⟩⟩))
                                                                go_ret
                                                                exact ⟨by first | rfl | (simp [errW_none, errW_some] <;> rfl) | (simp [*, errW_none, errW_some] <;> rfl), by repeat (first | (with_reducible first | exact HB.out | apply below_alloc | apply pw_below_drewN | apply below_drew1 | refine below_set ?_ GE241.out | refine below_set ?_ GE270.out | refine below_set ?_ GE271.out) | exact HB.out)⟩
                                                            · rw [if_neg c99] at H
                                                              exact absurd H (by simp)
                                                          · rw [if_neg c98] at H
                                                            exact absurd H (by simp)
                                                      · rw [if_neg c91] at H
                                                        have c91b0 : (t279 == x13_77) = false := beq_eq_false_iff_ne.mpr c91
                                                        have c91b1 : (t279 != x13_77) = true := bne_iff_ne.mpr c91
                                                        obtain rfl := Option.some.inj H
                                                        go_wp2_with (first | ((with_reducible refine gate_callee (f := 27) rfl ?_); refine goesL_ (some 122) rfl rfl Try.func27 (by kernel_rfl) rfl #[.int .i64 t269] rfl (by (try simp only [List.map_toArray, List.map_cons, List.map_nil]); first | done | rfl | (simp only [List.length_drop, List.length_take]; rfl)) ?_; (with_reducible refine (beaconlaw4_num.calls t269 t279 _ A90.out).mono ?_); rintro e w' ⟨rfl, ⟨nd, rfl⟩⟩; refine ⟨_, rfl, ?_⟩))
                                                        go_ret
                                                        exact ⟨by first | rfl | (simp [errW_none, errW_some] <;> rfl) | (simp [*, errW_none, errW_some] <;> rfl), by repeat (first | (with_reducible first | exact HB.out | apply below_alloc | apply pw_below_drewN | apply below_drew1 | refine below_set ?_ GE241.out | refine below_set ?_ GE270.out | refine below_set ?_ GE271.out) | exact HB.out)⟩
                                            · rw [if_neg c58] at H
                                              exact absurd H (by simp)
                                          · rw [if_neg c57] at H
                                            exact absurd H (by simp)
                                        · rw [if_neg c55] at H
                                          exact absurd H (by simp)
                                      · rw [if_neg c54] at H
                                        exact absurd H (by simp)
                                    · replace c53 := Bool.eq_false_iff.mpr c53
                                      subst c53
                                      have H1 : (beaconlaw4_SgrApplies.l0 kj48 (wrap64 (x3_1 + 1)) l0_0 l0_1) = some r := by rw [if_neg (show ¬ (false = true) by decide)] at H; exact H
                                      clear H
                                      have H := H1
                                      clear H1
                                      have H' := Aside0.mk H
                                      clear H
                                      go_wp2
                                      go_roundg kj48
                                      case measure => have := HK1.out; have := HJ9.out; have := HJ18.out; have := HJ27.out; have := HK5.out; have := HJ48.out; omega
                                      case rel => exact ⟨(wrap64 (x3_1 + 1)), (by first | rfl | (simp; done) | (simp [*]; done)), H', ⟨by have := HK1.out; have := HJ9.out; have := HJ18.out; have := HJ27.out; have := HK5.out; have := HJ48.out; omega⟩, ⟨by (with_reducible repeat (first | refine blk_drewN ?_ _ | refine blk_drew ?_ | refine blk_alloc ?_ _)); exact BK241.out⟩, ⟨by repeat (first | (with_reducible first | exact HB.out | apply below_alloc | apply pw_below_drewN | apply below_drew1 | refine below_set ?_ GE241.out) | exact HB.out)⟩⟩
                · rw [if_neg c16] at H
                  exact absurd H (by simp)
              · rw [if_neg c15] at H
                exact absurd H (by simp)
            · replace c14 := Bool.eq_false_iff.mpr c14
              subst c14
              have H1 : ((beaconlaw4_wakes.f).bind fun t243 => (some t243)) = some r := by rw [if_neg (show ¬ (false = true) by decide)] at H; exact H
              clear H
              have H := H1
              clear H1
              replace H := Option.bind_eq_some_iff.mp H
              obtain ⟨t243, A1140, H⟩ := H
              replace H : (some t243) = some r := H
              have A114 := Aside0.mk A1140
              clear A1140
              obtain rfl := Option.some.inj H
              go_wp2_with (first | ((with_reducible refine gate_callee (f := 29) rfl ?_); refine goesL_ (some 140) rfl rfl Try.func29 (by kernel_rfl) rfl #[] rfl (by (try simp only [List.map_toArray, List.map_cons, List.map_nil]); first | done | rfl | (simp only [List.length_drop, List.length_take]; rfl)) ?_; (with_reducible refine (beaconlaw4_wakes.calls  t243 _ A114.out).mono ?_); rintro e w115 ⟨rfl, hb⟩; refine ⟨_, rfl, ?_⟩; have n0_ := Aside0.mk (blk_below (g := gb241) (o := .cells #[.slice A0_0 l0_0.length c0_0, .slice A0_1 l0_1.length c0_1] 54 (0, 0)) (by (with_reducible repeat (first | refine blk_drewN ?_ _ | refine blk_drew ?_ | refine blk_alloc ?_ _)); exact BK241.out) hb); have n1_ := Aside0.mk (below_step (by repeat (first | (with_reducible first | exact HB.out | apply below_alloc | apply pw_below_drewN | apply below_drew1 | refine below_set ?_ GE241.out) | exact HB.out)) hb); clear BK241; clear HB; have BK241 := n0_; have HB := n1_; clear n0_ n1_; (try clear hb); (try clear hb2); (try clear hk); (try clear hi)))
              go_ret
              exact ⟨by first | rfl | (simp [errW_none, errW_some] <;> rfl) | (simp [*, errW_none, errW_some] <;> rfl), by repeat (first | (with_reducible first | exact HB.out | apply below_alloc | apply pw_below_drewN | apply below_drew1 | refine below_set ?_ GE241.out) | exact HB.out)⟩

end Go.Proofs.Ytadjhnlbpgknfaa.Q
