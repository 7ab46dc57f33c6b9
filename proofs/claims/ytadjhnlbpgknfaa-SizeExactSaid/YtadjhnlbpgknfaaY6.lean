-- Laid by a program of this session (wip/tools/xp.py) over the kit's print.
import Derived.Test.YtadjhnlbpgknfaaY0
import Derived.Test.YtadjhnlbpgknfaaY2
import Derived.Test.YtadjhnlbpgknfaaY3
import Derived.Test.YtadjhnlbpgknfaaY4
import Derived.Test.YtadjhnlbpgknfaaY5
namespace Go.Proofs.Ytadjhnlbpgknfaa.Y
open Go.RowKit Go.Proofs.YtadjhnlbpgknfaaW.PrintWords Go.Proofs.YtadjhnlbpgknfaaW.PrintLast Go.Proofs.YtadjhnlbpgknfaaW.PrintMore
attribute [local go_sem] max2_int min2_int max_two min_two max_three min_three max_four min_four   -- for this text's walks alone
set_option linter.unusedVariables false
set_option linter.unusedSimpArgs false

/-! ### beaconlaw22_SizeExact: function 9 -/
mutual
def beaconlaw22_SizeExact.j0 : Nat → Bool → List (S75) → List (S75) → Option (Bool)
 | 0, _, _, _ => none
 | k + 1, x33, x173000, x173001 => if x33 = true then (some true) else ((beaconref0_CopyOffers.f k x173000).bind fun t173 => (beaconlaw22_SizeExact.l0 k t173 0 x173000 x173001))
def beaconlaw22_SizeExact.l0 : Nat → List (S75) → Int → List (S75) → List (S75) → Option (Bool)
 | 0, _, _, _, _ => none
 | k + 1, x3, x4, x173000, x173001 => if x4 < (x173001.length : Int) then (beaconlaw22_SizeExact.j2 k x3 x4 (decide (x4 < 12)) x173000 x173001) else (beaconlaw22_SizeExact.j2 k x3 x4 false x173000 x173001)
def beaconlaw22_SizeExact.j2 : Nat → List (S75) → Int → Bool → List (S75) → List (S75) → Option (Bool)
 | 0, _, _, _, _, _ => none
 | k + 1, x3, x4, x45, x173000, x173001 => if x45 = true then (if 0 ≤ x4 then (if x4 < (x173001.length : Int) then (if (Int.tmod x4 3) > 0 then ((beaconlaw0_Within.f ((rd_T75 x173001 x4).f0) 5).bind fun t179 => (beaconlaw22_SizeExact.j3 k x3 x4 x173000 x173001 t179 ((rd_T75 x173001 x4).f1) ((rd_T75 x173001 x4).f2))) else (beaconlaw22_SizeExact.j3 k x3 x4 x173000 x173001 ((rd_T75 x173001 x4).f0) ((rd_T75 x173001 x4).f1) ((rd_T75 x173001 x4).f2))) else (none)) else (none)) else ((beaconlaw22_wakes.f k).bind fun t176 => (some t176))
def beaconlaw22_SizeExact.j3 : Nat → List (S75) → Int → List (S75) → List (S75) → Int → Int → Int → Option (Bool)
 | 0, _, _, _, _, _, _, _ => none
 | k + 1, x3, x4, x173000, x173001, x179000, x179001, x179002 => (beaconref0_CopyOffers.f k x3).bind fun t180 => ((beaconref20_Offers.f k x3).bind fun t183 => ((size_Set.f k t180 x179000 x179001 x179002).bind fun bt184 => ((size_Drop.f k t180 x179000).bind fun bt188 => ((size_Least.f k t180).bind fun bt192 => (if t183 = true then ((beaconref20_Least.f k x3).bind fun bt195 => ((beaconref0_Num.f x179000 4).bind fun t197 => (if t197 = true then ((beaconref20_Set.f k x3 x179000 x179001 x179002).bind fun t198 => (beaconlaw22_SizeExact.j4 k x3 x4 t180 t183 bt184.1 bt184.2 bt188.1 bt188.2 bt192.1 bt192.2.1 bt192.2.2 0 1 0 t198 ([] : List (S75)) bt195.1 bt195.2 x173000 x173001 x179000 x179001 x179002)) else (beaconlaw22_SizeExact.j4 k x3 x4 t180 t183 bt184.1 bt184.2 bt188.1 bt188.2 bt192.1 bt192.2.1 bt192.2.2 1 1 0 ([] : List (S75)) ([] : List (S75)) bt195.1 bt195.2 x173000 x173001 x179000 x179001 x179002)))) else (beaconlaw22_SizeExact.j5 k x3 x4 t180 t183 bt184.1 bt184.2 bt188.1 bt188.2 bt192.1 bt192.2.1 bt192.2.2 1 1 1 ([] : List (S75)) ([] : List (S75)) 0 0 x173000 x173001 x179000 x179001 x179002))))))
def beaconlaw22_SizeExact.j5 : Nat → List (S75) → Int → List (S75) → Bool → List (S75) → Int → List (S75) → Int → Int → Int → Int → Int → Int → Int → List (S75) → List (S75) → Int → Int → List (S75) → List (S75) → Int → Int → Int → Option (Bool)
 | 0, _, _, _, _, _, _, _, _, _, _, _, _, _, _, _, _, _, _, _, _, _, _, _ => none
 | k + 1, x3, x4, x6, x7, x8, x9, x10, x11, x12, x13, x14, x15, x16, x17, x18, x19, x20, x21, x173000, x173001, x179000, x179001, x179002 => (size_Check.f k x6).bind fun t205 => ((beaconlaw22_num.f t205).bind fun t206 => (if ((t206 == 0) != x7) = true then (beaconlaw22_SizeExact.j6 k x3 x4 x6 x8 x10 x15 x16 x18 x19 true x173000 x173001 x179000 x179001 x179002) else ((beaconlaw22_num.f x9).bind fun t207 => (if t207 = x15 then ((beaconlaw22_num.f x11).bind fun t208 => (if t208 = x16 then ((beaconlaw22_num.f x14).bind fun t209 => (if t209 = x17 then ((beaconref0_EqOffers.f k x8 x18).bind fun t210 => (if t210 = true then ((beaconref0_EqOffers.f k x10 x19).bind fun t211 => (if t211 = true then (if x12 = x20 then (if x13 = x21 then ((beaconref0_EqOffers.f k x6 x3).bind fun t212 => (beaconlaw22_SizeExact.j6 k x3 x4 x6 x8 x10 x15 x16 x18 x19 (!t212) x173000 x173001 x179000 x179001 x179002)) else (beaconlaw22_SizeExact.j6 k x3 x4 x6 x8 x10 x15 x16 x18 x19 true x173000 x173001 x179000 x179001 x179002)) else (beaconlaw22_SizeExact.j6 k x3 x4 x6 x8 x10 x15 x16 x18 x19 true x173000 x173001 x179000 x179001 x179002)) else (beaconlaw22_SizeExact.j6 k x3 x4 x6 x8 x10 x15 x16 x18 x19 true x173000 x173001 x179000 x179001 x179002))) else (beaconlaw22_SizeExact.j6 k x3 x4 x6 x8 x10 x15 x16 x18 x19 true x173000 x173001 x179000 x179001 x179002))) else (beaconlaw22_SizeExact.j6 k x3 x4 x6 x8 x10 x15 x16 x18 x19 true x173000 x173001 x179000 x179001 x179002))) else (beaconlaw22_SizeExact.j6 k x3 x4 x6 x8 x10 x15 x16 x18 x19 true x173000 x173001 x179000 x179001 x179002))) else (beaconlaw22_SizeExact.j6 k x3 x4 x6 x8 x10 x15 x16 x18 x19 true x173000 x173001 x179000 x179001 x179002)))))
def beaconlaw22_SizeExact.j6 : Nat → List (S75) → Int → List (S75) → List (S75) → List (S75) → Int → Int → List (S75) → List (S75) → Bool → List (S75) → List (S75) → Int → Int → Int → Option (Bool)
 | 0, _, _, _, _, _, _, _, _, _, _, _, _, _, _, _ => none
 | k + 1, x3, x4, x6, x8, x10, x15, x16, x18, x19, x153, x173000, x173001, x179000, x179001, x179002 => if x153 = true then (some false) else (beaconlaw22_SizeExact.l1 k x3 x4 x6 x8 x10 x15 x16 x18 x19 0 x173000 x173001 x179000 x179001 x179002)
def beaconlaw22_SizeExact.l1 : Nat → List (S75) → Int → List (S75) → List (S75) → List (S75) → Int → Int → List (S75) → List (S75) → Int → List (S75) → List (S75) → Int → Int → Int → Option (Bool)
 | 0, _, _, _, _, _, _, _, _, _, _, _, _, _, _, _ => none
 | k + 1, x3, x4, x6, x8, x10, x15, x16, x18, x19, x22, x173000, x173001, x179000, x179001, x179002 => if x22 < (x8.length : Int) then (if 0 ≤ x22 then (beaconlaw22_SizeExact.l1 k x3 x4 x6 (x8.set (x22 : Int).toNat (⟨(-9), 0, 0⟩ : S75)) x10 x15 x16 x18 x19 (wrap64 (x22 + 1)) x173000 x173001 x179000 x179001 x179002) else (none)) else (beaconlaw22_SizeExact.l2 k x3 x4 x6 x10 x15 x16 x18 x19 0 x173000 x173001 x179000 x179001 x179002)
def beaconlaw22_SizeExact.l2 : Nat → List (S75) → Int → List (S75) → List (S75) → Int → Int → List (S75) → List (S75) → Int → List (S75) → List (S75) → Int → Int → Int → Option (Bool)
 | 0, _, _, _, _, _, _, _, _, _, _, _, _, _, _ => none
 | k + 1, x3, x4, x6, x10, x15, x16, x18, x19, x23, x173000, x173001, x179000, x179001, x179002 => if x23 < (x10.length : Int) then (if 0 ≤ x23 then (beaconlaw22_SizeExact.l2 k x3 x4 x6 (x10.set (x23 : Int).toNat (⟨(-9), 0, 0⟩ : S75)) x15 x16 x18 x19 (wrap64 (x23 + 1)) x173000 x173001 x179000 x179001 x179002) else (none)) else ((beaconref0_EqOffers.f k x6 x3).bind fun t215 => (if t215 = true then (if x15 = 0 then (beaconlaw22_SizeExact.j9 k x3 x4 x16 x18 x19 (decide (x179001 ≥ 0)) x173000 x173001) else (beaconlaw22_SizeExact.j9 k x3 x4 x16 x18 x19 false x173000 x173001)) else (some false)))
def beaconlaw22_SizeExact.j9 : Nat → List (S75) → Int → Int → List (S75) → List (S75) → Bool → List (S75) → List (S75) → Option (Bool)
 | 0, _, _, _, _, _, _, _, _ => none
 | k + 1, x3, x4, x16, x18, x19, x184, x173000, x173001 => if x184 = true then ((beaconref0_CopyOffers.f k x18).bind fun t216 => (beaconlaw22_SizeExact.l0 k t216 (wrap64 (x4 + 1)) x173000 x173001)) else (if x16 = 0 then ((beaconref0_CopyOffers.f k x19).bind fun t219 => (beaconlaw22_SizeExact.l0 k t219 (wrap64 (x4 + 1)) x173000 x173001)) else (beaconlaw22_SizeExact.l0 k x3 (wrap64 (x4 + 1)) x173000 x173001))
def beaconlaw22_SizeExact.j4 : Nat → List (S75) → Int → List (S75) → Bool → List (S75) → Int → List (S75) → Int → Int → Int → Int → Int → Int → Int → List (S75) → List (S75) → Int → Int → List (S75) → List (S75) → Int → Int → Int → Option (Bool)
 | 0, _, _, _, _, _, _, _, _, _, _, _, _, _, _, _, _, _, _, _, _, _, _, _ => none
 | k + 1, x3, x4, x6, x7, x8, x9, x10, x11, x12, x13, x14, x15, x16, x17, x18, x19, x20, x21, x173000, x173001, x179000, x179001, x179002 => (beaconref0_Between.f x179000 1 4).bind fun t201 => (if t201 = true then ((beaconref20_Drop.f k x3 x179000).bind fun t202 => (beaconlaw22_SizeExact.j5 k x3 x4 x6 x7 x8 x9 x10 x11 x12 x13 x14 x15 0 x17 x18 t202 x20 x21 x173000 x173001 x179000 x179001 x179002)) else (beaconlaw22_SizeExact.j5 k x3 x4 x6 x7 x8 x9 x10 x11 x12 x13 x14 x15 x16 x17 x18 x19 x20 x21 x173000 x173001 x179000 x179001 x179002))
end
def beaconlaw22_SizeExact.f (k : Nat) (l0_0 : List (S75)) (l0_1 : List (S75)) : Option (Bool) := if (l0_0.length : Int) > 200 then (beaconlaw22_SizeExact.j0 k true l0_0 l0_1) else (beaconlaw22_SizeExact.j0 k (decide ((l0_1.length : Int) > 200)) l0_0 l0_1)
theorem beaconlaw22_SizeExact.mono_l : ∀ k, (∀ y0 y1 y2, LeO (beaconlaw22_SizeExact.j0 k y0 y1 y2) (beaconlaw22_SizeExact.j0 (k + 1) y0 y1 y2)) ∧ (∀ y0 y1 y2 y3, LeO (beaconlaw22_SizeExact.l0 k y0 y1 y2 y3) (beaconlaw22_SizeExact.l0 (k + 1) y0 y1 y2 y3)) ∧ (∀ y0 y1 y2 y3 y4, LeO (beaconlaw22_SizeExact.j2 k y0 y1 y2 y3 y4) (beaconlaw22_SizeExact.j2 (k + 1) y0 y1 y2 y3 y4)) ∧ (∀ y0 y1 y2 y3 y4 y5 y6, LeO (beaconlaw22_SizeExact.j3 k y0 y1 y2 y3 y4 y5 y6) (beaconlaw22_SizeExact.j3 (k + 1) y0 y1 y2 y3 y4 y5 y6)) ∧ (∀ y0 y1 y2 y3 y4 y5 y6 y7 y8 y9 y10 y11 y12 y13 y14 y15 y16 y17 y18 y19 y20 y21 y22, LeO (beaconlaw22_SizeExact.j5 k y0 y1 y2 y3 y4 y5 y6 y7 y8 y9 y10 y11 y12 y13 y14 y15 y16 y17 y18 y19 y20 y21 y22) (beaconlaw22_SizeExact.j5 (k + 1) y0 y1 y2 y3 y4 y5 y6 y7 y8 y9 y10 y11 y12 y13 y14 y15 y16 y17 y18 y19 y20 y21 y22)) ∧ (∀ y0 y1 y2 y3 y4 y5 y6 y7 y8 y9 y10 y11 y12 y13 y14, LeO (beaconlaw22_SizeExact.j6 k y0 y1 y2 y3 y4 y5 y6 y7 y8 y9 y10 y11 y12 y13 y14) (beaconlaw22_SizeExact.j6 (k + 1) y0 y1 y2 y3 y4 y5 y6 y7 y8 y9 y10 y11 y12 y13 y14)) ∧ (∀ y0 y1 y2 y3 y4 y5 y6 y7 y8 y9 y10 y11 y12 y13 y14, LeO (beaconlaw22_SizeExact.l1 k y0 y1 y2 y3 y4 y5 y6 y7 y8 y9 y10 y11 y12 y13 y14) (beaconlaw22_SizeExact.l1 (k + 1) y0 y1 y2 y3 y4 y5 y6 y7 y8 y9 y10 y11 y12 y13 y14)) ∧ (∀ y0 y1 y2 y3 y4 y5 y6 y7 y8 y9 y10 y11 y12 y13, LeO (beaconlaw22_SizeExact.l2 k y0 y1 y2 y3 y4 y5 y6 y7 y8 y9 y10 y11 y12 y13) (beaconlaw22_SizeExact.l2 (k + 1) y0 y1 y2 y3 y4 y5 y6 y7 y8 y9 y10 y11 y12 y13)) ∧ (∀ y0 y1 y2 y3 y4 y5 y6 y7, LeO (beaconlaw22_SizeExact.j9 k y0 y1 y2 y3 y4 y5 y6 y7) (beaconlaw22_SizeExact.j9 (k + 1) y0 y1 y2 y3 y4 y5 y6 y7)) ∧ (∀ y0 y1 y2 y3 y4 y5 y6 y7 y8 y9 y10 y11 y12 y13 y14 y15 y16 y17 y18 y19 y20 y21 y22, LeO (beaconlaw22_SizeExact.j4 k y0 y1 y2 y3 y4 y5 y6 y7 y8 y9 y10 y11 y12 y13 y14 y15 y16 y17 y18 y19 y20 y21 y22) (beaconlaw22_SizeExact.j4 (k + 1) y0 y1 y2 y3 y4 y5 y6 y7 y8 y9 y10 y11 y12 y13 y14 y15 y16 y17 y18 y19 y20 y21 y22))
 | 0 => ⟨fun _ _ _ r h => by simp [beaconlaw22_SizeExact.j0] at h, fun _ _ _ _ r h => by simp [beaconlaw22_SizeExact.l0] at h, fun _ _ _ _ _ r h => by simp [beaconlaw22_SizeExact.j2] at h, fun _ _ _ _ _ _ _ r h => by simp [beaconlaw22_SizeExact.j3] at h, fun _ _ _ _ _ _ _ _ _ _ _ _ _ _ _ _ _ _ _ _ _ _ _ r h => by simp [beaconlaw22_SizeExact.j5] at h, fun _ _ _ _ _ _ _ _ _ _ _ _ _ _ _ r h => by simp [beaconlaw22_SizeExact.j6] at h, fun _ _ _ _ _ _ _ _ _ _ _ _ _ _ _ r h => by simp [beaconlaw22_SizeExact.l1] at h, fun _ _ _ _ _ _ _ _ _ _ _ _ _ _ r h => by simp [beaconlaw22_SizeExact.l2] at h, fun _ _ _ _ _ _ _ _ r h => by simp [beaconlaw22_SizeExact.j9] at h, fun _ _ _ _ _ _ _ _ _ _ _ _ _ _ _ _ _ _ _ _ _ _ _ r h => by simp [beaconlaw22_SizeExact.j4] at h⟩
 | k + 1 => by
  obtain ⟨ih0, ih1, ih2, ih3, ih4, ih5, ih6, ih7, ih8, ih9⟩ := beaconlaw22_SizeExact.mono_l k
  refine ⟨?_, ?_, ?_, ?_, ?_, ?_, ?_, ?_, ?_, ?_⟩
  ·intro y0 y1 y2
   unfold beaconlaw22_SizeExact.j0
   repeat' first
   | (with_reducible exact ih0 _ _ _)
   | (with_reducible exact ih1 _ _ _ _)
   | (with_reducible exact ih2 _ _ _ _ _)
   | (with_reducible exact ih3 _ _ _ _ _ _ _)
   | (with_reducible exact ih4 _ _ _ _ _ _ _ _ _ _ _ _ _ _ _ _ _ _ _ _ _ _ _)
   | (with_reducible exact ih5 _ _ _ _ _ _ _ _ _ _ _ _ _ _ _)
   | (with_reducible exact ih6 _ _ _ _ _ _ _ _ _ _ _ _ _ _ _)
   | (with_reducible exact ih7 _ _ _ _ _ _ _ _ _ _ _ _ _ _)
   | (with_reducible exact ih8 _ _ _ _ _ _ _ _)
   | (with_reducible exact ih9 _ _ _ _ _ _ _ _ _ _ _ _ _ _ _ _ _ _ _ _ _ _ _)
   | (with_reducible exact beaconlaw22_wakes.mono _)
   | (with_reducible exact beaconref0_CopyOffers.mono _ _)
   | (with_reducible exact beaconref0_EqOffers.mono _ _ _)
   | (with_reducible exact beaconref20_Drop.mono _ _ _)
   | (with_reducible exact beaconref20_Least.mono _ _)
   | (with_reducible exact beaconref20_Offers.mono _ _)
   | (with_reducible exact beaconref20_Set.mono _ _ _ _ _)
   | (with_reducible exact size_Check.mono _ _)
   | (with_reducible exact size_Drop.mono _ _ _)
   | (with_reducible exact size_Least.mono _ _)
   | (with_reducible exact size_Set.mono _ _ _ _ _)
   | (with_reducible exact LeO.refl _)
   | (with_reducible exact LeO.none _)
   | (with_reducible refine LeO.ite ?_ ?_)
   | (with_reducible refine LeO.bind ?_ (fun _ => ?_))
   | exact ih0 _ _ _
   | exact ih1 _ _ _ _
   | exact ih2 _ _ _ _ _
   | exact ih3 _ _ _ _ _ _ _
   | exact ih4 _ _ _ _ _ _ _ _ _ _ _ _ _ _ _ _ _ _ _ _ _ _ _
   | exact ih5 _ _ _ _ _ _ _ _ _ _ _ _ _ _ _
   | exact ih6 _ _ _ _ _ _ _ _ _ _ _ _ _ _ _
   | exact ih7 _ _ _ _ _ _ _ _ _ _ _ _ _ _
   | exact ih8 _ _ _ _ _ _ _ _
   | exact ih9 _ _ _ _ _ _ _ _ _ _ _ _ _ _ _ _ _ _ _ _ _ _ _
   | exact beaconlaw22_wakes.mono _
   | exact beaconref0_CopyOffers.mono _ _
   | exact beaconref0_EqOffers.mono _ _ _
   | exact beaconref20_Drop.mono _ _ _
   | exact beaconref20_Least.mono _ _
   | exact beaconref20_Offers.mono _ _
   | exact beaconref20_Set.mono _ _ _ _ _
   | exact size_Check.mono _ _
   | exact size_Drop.mono _ _ _
   | exact size_Least.mono _ _
   | exact size_Set.mono _ _ _ _ _
   | exact LeO.none _
   | refine LeO.ite ?_ ?_
   | refine LeO.bind ?_ (fun _ => ?_)
  ·intro y0 y1 y2 y3
   unfold beaconlaw22_SizeExact.l0
   repeat' first
   | (with_reducible exact ih0 _ _ _)
   | (with_reducible exact ih1 _ _ _ _)
   | (with_reducible exact ih2 _ _ _ _ _)
   | (with_reducible exact ih3 _ _ _ _ _ _ _)
   | (with_reducible exact ih4 _ _ _ _ _ _ _ _ _ _ _ _ _ _ _ _ _ _ _ _ _ _ _)
   | (with_reducible exact ih5 _ _ _ _ _ _ _ _ _ _ _ _ _ _ _)
   | (with_reducible exact ih6 _ _ _ _ _ _ _ _ _ _ _ _ _ _ _)
   | (with_reducible exact ih7 _ _ _ _ _ _ _ _ _ _ _ _ _ _)
   | (with_reducible exact ih8 _ _ _ _ _ _ _ _)
   | (with_reducible exact ih9 _ _ _ _ _ _ _ _ _ _ _ _ _ _ _ _ _ _ _ _ _ _ _)
   | (with_reducible exact beaconlaw22_wakes.mono _)
   | (with_reducible exact beaconref0_CopyOffers.mono _ _)
   | (with_reducible exact beaconref0_EqOffers.mono _ _ _)
   | (with_reducible exact beaconref20_Drop.mono _ _ _)
   | (with_reducible exact beaconref20_Least.mono _ _)
   | (with_reducible exact beaconref20_Offers.mono _ _)
   | (with_reducible exact beaconref20_Set.mono _ _ _ _ _)
   | (with_reducible exact size_Check.mono _ _)
   | (with_reducible exact size_Drop.mono _ _ _)
   | (with_reducible exact size_Least.mono _ _)
   | (with_reducible exact size_Set.mono _ _ _ _ _)
   | (with_reducible exact LeO.refl _)
   | (with_reducible exact LeO.none _)
   | (with_reducible refine LeO.ite ?_ ?_)
   | (with_reducible refine LeO.bind ?_ (fun _ => ?_))
   | exact ih0 _ _ _
   | exact ih1 _ _ _ _
   | exact ih2 _ _ _ _ _
   | exact ih3 _ _ _ _ _ _ _
   | exact ih4 _ _ _ _ _ _ _ _ _ _ _ _ _ _ _ _ _ _ _ _ _ _ _
   | exact ih5 _ _ _ _ _ _ _ _ _ _ _ _ _ _ _
   | exact ih6 _ _ _ _ _ _ _ _ _ _ _ _ _ _ _
   | exact ih7 _ _ _ _ _ _ _ _ _ _ _ _ _ _
   | exact ih8 _ _ _ _ _ _ _ _
   | exact ih9 _ _ _ _ _ _ _ _ _ _ _ _ _ _ _ _ _ _ _ _ _ _ _
   | exact beaconlaw22_wakes.mono _
   | exact beaconref0_CopyOffers.mono _ _
   | exact beaconref0_EqOffers.mono _ _ _
   | exact beaconref20_Drop.mono _ _ _
   | exact beaconref20_Least.mono _ _
   | exact beaconref20_Offers.mono _ _
   | exact beaconref20_Set.mono _ _ _ _ _
   | exact size_Check.mono _ _
   | exact size_Drop.mono _ _ _
   | exact size_Least.mono _ _
   | exact size_Set.mono _ _ _ _ _
   | exact LeO.none _
   | refine LeO.ite ?_ ?_
   | refine LeO.bind ?_ (fun _ => ?_)
  ·intro y0 y1 y2 y3 y4
   unfold beaconlaw22_SizeExact.j2
   repeat' first
   | (with_reducible exact ih0 _ _ _)
   | (with_reducible exact ih1 _ _ _ _)
   | (with_reducible exact ih2 _ _ _ _ _)
   | (with_reducible exact ih3 _ _ _ _ _ _ _)
   | (with_reducible exact ih4 _ _ _ _ _ _ _ _ _ _ _ _ _ _ _ _ _ _ _ _ _ _ _)
   | (with_reducible exact ih5 _ _ _ _ _ _ _ _ _ _ _ _ _ _ _)
   | (with_reducible exact ih6 _ _ _ _ _ _ _ _ _ _ _ _ _ _ _)
   | (with_reducible exact ih7 _ _ _ _ _ _ _ _ _ _ _ _ _ _)
   | (with_reducible exact ih8 _ _ _ _ _ _ _ _)
   | (with_reducible exact ih9 _ _ _ _ _ _ _ _ _ _ _ _ _ _ _ _ _ _ _ _ _ _ _)
   | (with_reducible exact beaconlaw22_wakes.mono _)
   | (with_reducible exact beaconref0_CopyOffers.mono _ _)
   | (with_reducible exact beaconref0_EqOffers.mono _ _ _)
   | (with_reducible exact beaconref20_Drop.mono _ _ _)
   | (with_reducible exact beaconref20_Least.mono _ _)
   | (with_reducible exact beaconref20_Offers.mono _ _)
   | (with_reducible exact beaconref20_Set.mono _ _ _ _ _)
   | (with_reducible exact size_Check.mono _ _)
   | (with_reducible exact size_Drop.mono _ _ _)
   | (with_reducible exact size_Least.mono _ _)
   | (with_reducible exact size_Set.mono _ _ _ _ _)
   | (with_reducible exact LeO.refl _)
   | (with_reducible exact LeO.none _)
   | (with_reducible refine LeO.ite ?_ ?_)
   | (with_reducible refine LeO.bind ?_ (fun _ => ?_))
   | exact ih0 _ _ _
   | exact ih1 _ _ _ _
   | exact ih2 _ _ _ _ _
   | exact ih3 _ _ _ _ _ _ _
   | exact ih4 _ _ _ _ _ _ _ _ _ _ _ _ _ _ _ _ _ _ _ _ _ _ _
   | exact ih5 _ _ _ _ _ _ _ _ _ _ _ _ _ _ _
   | exact ih6 _ _ _ _ _ _ _ _ _ _ _ _ _ _ _
   | exact ih7 _ _ _ _ _ _ _ _ _ _ _ _ _ _
   | exact ih8 _ _ _ _ _ _ _ _
   | exact ih9 _ _ _ _ _ _ _ _ _ _ _ _ _ _ _ _ _ _ _ _ _ _ _
   | exact beaconlaw22_wakes.mono _
   | exact beaconref0_CopyOffers.mono _ _
   | exact beaconref0_EqOffers.mono _ _ _
   | exact beaconref20_Drop.mono _ _ _
   | exact beaconref20_Least.mono _ _
   | exact beaconref20_Offers.mono _ _
   | exact beaconref20_Set.mono _ _ _ _ _
   | exact size_Check.mono _ _
   | exact size_Drop.mono _ _ _
   | exact size_Least.mono _ _
   | exact size_Set.mono _ _ _ _ _
   | exact LeO.none _
   | refine LeO.ite ?_ ?_
   | refine LeO.bind ?_ (fun _ => ?_)
  ·intro y0 y1 y2 y3 y4 y5 y6
   unfold beaconlaw22_SizeExact.j3
   repeat' first
   | (with_reducible exact ih0 _ _ _)
   | (with_reducible exact ih1 _ _ _ _)
   | (with_reducible exact ih2 _ _ _ _ _)
   | (with_reducible exact ih3 _ _ _ _ _ _ _)
   | (with_reducible exact ih4 _ _ _ _ _ _ _ _ _ _ _ _ _ _ _ _ _ _ _ _ _ _ _)
   | (with_reducible exact ih5 _ _ _ _ _ _ _ _ _ _ _ _ _ _ _)
   | (with_reducible exact ih6 _ _ _ _ _ _ _ _ _ _ _ _ _ _ _)
   | (with_reducible exact ih7 _ _ _ _ _ _ _ _ _ _ _ _ _ _)
   | (with_reducible exact ih8 _ _ _ _ _ _ _ _)
   | (with_reducible exact ih9 _ _ _ _ _ _ _ _ _ _ _ _ _ _ _ _ _ _ _ _ _ _ _)
   | (with_reducible exact beaconlaw22_wakes.mono _)
   | (with_reducible exact beaconref0_CopyOffers.mono _ _)
   | (with_reducible exact beaconref0_EqOffers.mono _ _ _)
   | (with_reducible exact beaconref20_Drop.mono _ _ _)
   | (with_reducible exact beaconref20_Least.mono _ _)
   | (with_reducible exact beaconref20_Offers.mono _ _)
   | (with_reducible exact beaconref20_Set.mono _ _ _ _ _)
   | (with_reducible exact size_Check.mono _ _)
   | (with_reducible exact size_Drop.mono _ _ _)
   | (with_reducible exact size_Least.mono _ _)
   | (with_reducible exact size_Set.mono _ _ _ _ _)
   | (with_reducible exact LeO.refl _)
   | (with_reducible exact LeO.none _)
   | (with_reducible refine LeO.ite ?_ ?_)
   | (with_reducible refine LeO.bind ?_ (fun _ => ?_))
   | exact ih0 _ _ _
   | exact ih1 _ _ _ _
   | exact ih2 _ _ _ _ _
   | exact ih3 _ _ _ _ _ _ _
   | exact ih4 _ _ _ _ _ _ _ _ _ _ _ _ _ _ _ _ _ _ _ _ _ _ _
   | exact ih5 _ _ _ _ _ _ _ _ _ _ _ _ _ _ _
   | exact ih6 _ _ _ _ _ _ _ _ _ _ _ _ _ _ _
   | exact ih7 _ _ _ _ _ _ _ _ _ _ _ _ _ _
   | exact ih8 _ _ _ _ _ _ _ _
   | exact ih9 _ _ _ _ _ _ _ _ _ _ _ _ _ _ _ _ _ _ _ _ _ _ _
   | exact beaconlaw22_wakes.mono _
   | exact beaconref0_CopyOffers.mono _ _
   | exact beaconref0_EqOffers.mono _ _ _
   | exact beaconref20_Drop.mono _ _ _
   | exact beaconref20_Least.mono _ _
   | exact beaconref20_Offers.mono _ _
   | exact beaconref20_Set.mono _ _ _ _ _
   | exact size_Check.mono _ _
   | exact size_Drop.mono _ _ _
   | exact size_Least.mono _ _
   | exact size_Set.mono _ _ _ _ _
   | exact LeO.none _
   | refine LeO.ite ?_ ?_
   | refine LeO.bind ?_ (fun _ => ?_)
  ·intro y0 y1 y2 y3 y4 y5 y6 y7 y8 y9 y10 y11 y12 y13 y14 y15 y16 y17 y18 y19 y20 y21 y22
   unfold beaconlaw22_SizeExact.j5
   repeat' first
   | (with_reducible exact ih0 _ _ _)
   | (with_reducible exact ih1 _ _ _ _)
   | (with_reducible exact ih2 _ _ _ _ _)
   | (with_reducible exact ih3 _ _ _ _ _ _ _)
   | (with_reducible exact ih4 _ _ _ _ _ _ _ _ _ _ _ _ _ _ _ _ _ _ _ _ _ _ _)
   | (with_reducible exact ih5 _ _ _ _ _ _ _ _ _ _ _ _ _ _ _)
   | (with_reducible exact ih6 _ _ _ _ _ _ _ _ _ _ _ _ _ _ _)
   | (with_reducible exact ih7 _ _ _ _ _ _ _ _ _ _ _ _ _ _)
   | (with_reducible exact ih8 _ _ _ _ _ _ _ _)
   | (with_reducible exact ih9 _ _ _ _ _ _ _ _ _ _ _ _ _ _ _ _ _ _ _ _ _ _ _)
   | (with_reducible exact beaconlaw22_wakes.mono _)
   | (with_reducible exact beaconref0_CopyOffers.mono _ _)
   | (with_reducible exact beaconref0_EqOffers.mono _ _ _)
   | (with_reducible exact beaconref20_Drop.mono _ _ _)
   | (with_reducible exact beaconref20_Least.mono _ _)
   | (with_reducible exact beaconref20_Offers.mono _ _)
   | (with_reducible exact beaconref20_Set.mono _ _ _ _ _)
   | (with_reducible exact size_Check.mono _ _)
   | (with_reducible exact size_Drop.mono _ _ _)
   | (with_reducible exact size_Least.mono _ _)
   | (with_reducible exact size_Set.mono _ _ _ _ _)
   | (with_reducible exact LeO.refl _)
   | (with_reducible exact LeO.none _)
   | (with_reducible refine LeO.ite ?_ ?_)
   | (with_reducible refine LeO.bind ?_ (fun _ => ?_))
   | exact ih0 _ _ _
   | exact ih1 _ _ _ _
   | exact ih2 _ _ _ _ _
   | exact ih3 _ _ _ _ _ _ _
   | exact ih4 _ _ _ _ _ _ _ _ _ _ _ _ _ _ _ _ _ _ _ _ _ _ _
   | exact ih5 _ _ _ _ _ _ _ _ _ _ _ _ _ _ _
   | exact ih6 _ _ _ _ _ _ _ _ _ _ _ _ _ _ _
   | exact ih7 _ _ _ _ _ _ _ _ _ _ _ _ _ _
   | exact ih8 _ _ _ _ _ _ _ _
   | exact ih9 _ _ _ _ _ _ _ _ _ _ _ _ _ _ _ _ _ _ _ _ _ _ _
   | exact beaconlaw22_wakes.mono _
   | exact beaconref0_CopyOffers.mono _ _
   | exact beaconref0_EqOffers.mono _ _ _
   | exact beaconref20_Drop.mono _ _ _
   | exact beaconref20_Least.mono _ _
   | exact beaconref20_Offers.mono _ _
   | exact beaconref20_Set.mono _ _ _ _ _
   | exact size_Check.mono _ _
   | exact size_Drop.mono _ _ _
   | exact size_Least.mono _ _
   | exact size_Set.mono _ _ _ _ _
   | exact LeO.none _
   | refine LeO.ite ?_ ?_
   | refine LeO.bind ?_ (fun _ => ?_)
  ·intro y0 y1 y2 y3 y4 y5 y6 y7 y8 y9 y10 y11 y12 y13 y14
   unfold beaconlaw22_SizeExact.j6
   repeat' first
   | (with_reducible exact ih0 _ _ _)
   | (with_reducible exact ih1 _ _ _ _)
   | (with_reducible exact ih2 _ _ _ _ _)
   | (with_reducible exact ih3 _ _ _ _ _ _ _)
   | (with_reducible exact ih4 _ _ _ _ _ _ _ _ _ _ _ _ _ _ _ _ _ _ _ _ _ _ _)
   | (with_reducible exact ih5 _ _ _ _ _ _ _ _ _ _ _ _ _ _ _)
   | (with_reducible exact ih6 _ _ _ _ _ _ _ _ _ _ _ _ _ _ _)
   | (with_reducible exact ih7 _ _ _ _ _ _ _ _ _ _ _ _ _ _)
   | (with_reducible exact ih8 _ _ _ _ _ _ _ _)
   | (with_reducible exact ih9 _ _ _ _ _ _ _ _ _ _ _ _ _ _ _ _ _ _ _ _ _ _ _)
   | (with_reducible exact beaconlaw22_wakes.mono _)
   | (with_reducible exact beaconref0_CopyOffers.mono _ _)
   | (with_reducible exact beaconref0_EqOffers.mono _ _ _)
   | (with_reducible exact beaconref20_Drop.mono _ _ _)
   | (with_reducible exact beaconref20_Least.mono _ _)
   | (with_reducible exact beaconref20_Offers.mono _ _)
   | (with_reducible exact beaconref20_Set.mono _ _ _ _ _)
   | (with_reducible exact size_Check.mono _ _)
   | (with_reducible exact size_Drop.mono _ _ _)
   | (with_reducible exact size_Least.mono _ _)
   | (with_reducible exact size_Set.mono _ _ _ _ _)
   | (with_reducible exact LeO.refl _)
   | (with_reducible exact LeO.none _)
   | (with_reducible refine LeO.ite ?_ ?_)
   | (with_reducible refine LeO.bind ?_ (fun _ => ?_))
   | exact ih0 _ _ _
   | exact ih1 _ _ _ _
   | exact ih2 _ _ _ _ _
   | exact ih3 _ _ _ _ _ _ _
   | exact ih4 _ _ _ _ _ _ _ _ _ _ _ _ _ _ _ _ _ _ _ _ _ _ _
   | exact ih5 _ _ _ _ _ _ _ _ _ _ _ _ _ _ _
   | exact ih6 _ _ _ _ _ _ _ _ _ _ _ _ _ _ _
   | exact ih7 _ _ _ _ _ _ _ _ _ _ _ _ _ _
   | exact ih8 _ _ _ _ _ _ _ _
   | exact ih9 _ _ _ _ _ _ _ _ _ _ _ _ _ _ _ _ _ _ _ _ _ _ _
   | exact beaconlaw22_wakes.mono _
   | exact beaconref0_CopyOffers.mono _ _
   | exact beaconref0_EqOffers.mono _ _ _
   | exact beaconref20_Drop.mono _ _ _
   | exact beaconref20_Least.mono _ _
   | exact beaconref20_Offers.mono _ _
   | exact beaconref20_Set.mono _ _ _ _ _
   | exact size_Check.mono _ _
   | exact size_Drop.mono _ _ _
   | exact size_Least.mono _ _
   | exact size_Set.mono _ _ _ _ _
   | exact LeO.none _
   | refine LeO.ite ?_ ?_
   | refine LeO.bind ?_ (fun _ => ?_)
  ·intro y0 y1 y2 y3 y4 y5 y6 y7 y8 y9 y10 y11 y12 y13 y14
   unfold beaconlaw22_SizeExact.l1
   repeat' first
   | (with_reducible exact ih0 _ _ _)
   | (with_reducible exact ih1 _ _ _ _)
   | (with_reducible exact ih2 _ _ _ _ _)
   | (with_reducible exact ih3 _ _ _ _ _ _ _)
   | (with_reducible exact ih4 _ _ _ _ _ _ _ _ _ _ _ _ _ _ _ _ _ _ _ _ _ _ _)
   | (with_reducible exact ih5 _ _ _ _ _ _ _ _ _ _ _ _ _ _ _)
   | (with_reducible exact ih6 _ _ _ _ _ _ _ _ _ _ _ _ _ _ _)
   | (with_reducible exact ih7 _ _ _ _ _ _ _ _ _ _ _ _ _ _)
   | (with_reducible exact ih8 _ _ _ _ _ _ _ _)
   | (with_reducible exact ih9 _ _ _ _ _ _ _ _ _ _ _ _ _ _ _ _ _ _ _ _ _ _ _)
   | (with_reducible exact beaconlaw22_wakes.mono _)
   | (with_reducible exact beaconref0_CopyOffers.mono _ _)
   | (with_reducible exact beaconref0_EqOffers.mono _ _ _)
   | (with_reducible exact beaconref20_Drop.mono _ _ _)
   | (with_reducible exact beaconref20_Least.mono _ _)
   | (with_reducible exact beaconref20_Offers.mono _ _)
   | (with_reducible exact beaconref20_Set.mono _ _ _ _ _)
   | (with_reducible exact size_Check.mono _ _)
   | (with_reducible exact size_Drop.mono _ _ _)
   | (with_reducible exact size_Least.mono _ _)
   | (with_reducible exact size_Set.mono _ _ _ _ _)
   | (with_reducible exact LeO.refl _)
   | (with_reducible exact LeO.none _)
   | (with_reducible refine LeO.ite ?_ ?_)
   | (with_reducible refine LeO.bind ?_ (fun _ => ?_))
   | exact ih0 _ _ _
   | exact ih1 _ _ _ _
   | exact ih2 _ _ _ _ _
   | exact ih3 _ _ _ _ _ _ _
   | exact ih4 _ _ _ _ _ _ _ _ _ _ _ _ _ _ _ _ _ _ _ _ _ _ _
   | exact ih5 _ _ _ _ _ _ _ _ _ _ _ _ _ _ _
   | exact ih6 _ _ _ _ _ _ _ _ _ _ _ _ _ _ _
   | exact ih7 _ _ _ _ _ _ _ _ _ _ _ _ _ _
   | exact ih8 _ _ _ _ _ _ _ _
   | exact ih9 _ _ _ _ _ _ _ _ _ _ _ _ _ _ _ _ _ _ _ _ _ _ _
   | exact beaconlaw22_wakes.mono _
   | exact beaconref0_CopyOffers.mono _ _
   | exact beaconref0_EqOffers.mono _ _ _
   | exact beaconref20_Drop.mono _ _ _
   | exact beaconref20_Least.mono _ _
   | exact beaconref20_Offers.mono _ _
   | exact beaconref20_Set.mono _ _ _ _ _
   | exact size_Check.mono _ _
   | exact size_Drop.mono _ _ _
   | exact size_Least.mono _ _
   | exact size_Set.mono _ _ _ _ _
   | exact LeO.none _
   | refine LeO.ite ?_ ?_
   | refine LeO.bind ?_ (fun _ => ?_)
  ·intro y0 y1 y2 y3 y4 y5 y6 y7 y8 y9 y10 y11 y12 y13
   unfold beaconlaw22_SizeExact.l2
   repeat' first
   | (with_reducible exact ih0 _ _ _)
   | (with_reducible exact ih1 _ _ _ _)
   | (with_reducible exact ih2 _ _ _ _ _)
   | (with_reducible exact ih3 _ _ _ _ _ _ _)
   | (with_reducible exact ih4 _ _ _ _ _ _ _ _ _ _ _ _ _ _ _ _ _ _ _ _ _ _ _)
   | (with_reducible exact ih5 _ _ _ _ _ _ _ _ _ _ _ _ _ _ _)
   | (with_reducible exact ih6 _ _ _ _ _ _ _ _ _ _ _ _ _ _ _)
   | (with_reducible exact ih7 _ _ _ _ _ _ _ _ _ _ _ _ _ _)
   | (with_reducible exact ih8 _ _ _ _ _ _ _ _)
   | (with_reducible exact ih9 _ _ _ _ _ _ _ _ _ _ _ _ _ _ _ _ _ _ _ _ _ _ _)
   | (with_reducible exact beaconlaw22_wakes.mono _)
   | (with_reducible exact beaconref0_CopyOffers.mono _ _)
   | (with_reducible exact beaconref0_EqOffers.mono _ _ _)
   | (with_reducible exact beaconref20_Drop.mono _ _ _)
   | (with_reducible exact beaconref20_Least.mono _ _)
   | (with_reducible exact beaconref20_Offers.mono _ _)
   | (with_reducible exact beaconref20_Set.mono _ _ _ _ _)
   | (with_reducible exact size_Check.mono _ _)
   | (with_reducible exact size_Drop.mono _ _ _)
   | (with_reducible exact size_Least.mono _ _)
   | (with_reducible exact size_Set.mono _ _ _ _ _)
   | (with_reducible exact LeO.refl _)
   | (with_reducible exact LeO.none _)
   | (with_reducible refine LeO.ite ?_ ?_)
   | (with_reducible refine LeO.bind ?_ (fun _ => ?_))
   | exact ih0 _ _ _
   | exact ih1 _ _ _ _
   | exact ih2 _ _ _ _ _
   | exact ih3 _ _ _ _ _ _ _
   | exact ih4 _ _ _ _ _ _ _ _ _ _ _ _ _ _ _ _ _ _ _ _ _ _ _
   | exact ih5 _ _ _ _ _ _ _ _ _ _ _ _ _ _ _
   | exact ih6 _ _ _ _ _ _ _ _ _ _ _ _ _ _ _
   | exact ih7 _ _ _ _ _ _ _ _ _ _ _ _ _ _
   | exact ih8 _ _ _ _ _ _ _ _
   | exact ih9 _ _ _ _ _ _ _ _ _ _ _ _ _ _ _ _ _ _ _ _ _ _ _
   | exact beaconlaw22_wakes.mono _
   | exact beaconref0_CopyOffers.mono _ _
   | exact beaconref0_EqOffers.mono _ _ _
   | exact beaconref20_Drop.mono _ _ _
   | exact beaconref20_Least.mono _ _
   | exact beaconref20_Offers.mono _ _
   | exact beaconref20_Set.mono _ _ _ _ _
   | exact size_Check.mono _ _
   | exact size_Drop.mono _ _ _
   | exact size_Least.mono _ _
   | exact size_Set.mono _ _ _ _ _
   | exact LeO.none _
   | refine LeO.ite ?_ ?_
   | refine LeO.bind ?_ (fun _ => ?_)
  ·intro y0 y1 y2 y3 y4 y5 y6 y7
   unfold beaconlaw22_SizeExact.j9
   repeat' first
   | (with_reducible exact ih0 _ _ _)
   | (with_reducible exact ih1 _ _ _ _)
   | (with_reducible exact ih2 _ _ _ _ _)
   | (with_reducible exact ih3 _ _ _ _ _ _ _)
   | (with_reducible exact ih4 _ _ _ _ _ _ _ _ _ _ _ _ _ _ _ _ _ _ _ _ _ _ _)
   | (with_reducible exact ih5 _ _ _ _ _ _ _ _ _ _ _ _ _ _ _)
   | (with_reducible exact ih6 _ _ _ _ _ _ _ _ _ _ _ _ _ _ _)
   | (with_reducible exact ih7 _ _ _ _ _ _ _ _ _ _ _ _ _ _)
   | (with_reducible exact ih8 _ _ _ _ _ _ _ _)
   | (with_reducible exact ih9 _ _ _ _ _ _ _ _ _ _ _ _ _ _ _ _ _ _ _ _ _ _ _)
   | (with_reducible exact beaconlaw22_wakes.mono _)
   | (with_reducible exact beaconref0_CopyOffers.mono _ _)
   | (with_reducible exact beaconref0_EqOffers.mono _ _ _)
   | (with_reducible exact beaconref20_Drop.mono _ _ _)
   | (with_reducible exact beaconref20_Least.mono _ _)
   | (with_reducible exact beaconref20_Offers.mono _ _)
   | (with_reducible exact beaconref20_Set.mono _ _ _ _ _)
   | (with_reducible exact size_Check.mono _ _)
   | (with_reducible exact size_Drop.mono _ _ _)
   | (with_reducible exact size_Least.mono _ _)
   | (with_reducible exact size_Set.mono _ _ _ _ _)
   | (with_reducible exact LeO.refl _)
   | (with_reducible exact LeO.none _)
   | (with_reducible refine LeO.ite ?_ ?_)
   | (with_reducible refine LeO.bind ?_ (fun _ => ?_))
   | exact ih0 _ _ _
   | exact ih1 _ _ _ _
   | exact ih2 _ _ _ _ _
   | exact ih3 _ _ _ _ _ _ _
   | exact ih4 _ _ _ _ _ _ _ _ _ _ _ _ _ _ _ _ _ _ _ _ _ _ _
   | exact ih5 _ _ _ _ _ _ _ _ _ _ _ _ _ _ _
   | exact ih6 _ _ _ _ _ _ _ _ _ _ _ _ _ _ _
   | exact ih7 _ _ _ _ _ _ _ _ _ _ _ _ _ _
   | exact ih8 _ _ _ _ _ _ _ _
   | exact ih9 _ _ _ _ _ _ _ _ _ _ _ _ _ _ _ _ _ _ _ _ _ _ _
   | exact beaconlaw22_wakes.mono _
   | exact beaconref0_CopyOffers.mono _ _
   | exact beaconref0_EqOffers.mono _ _ _
   | exact beaconref20_Drop.mono _ _ _
   | exact beaconref20_Least.mono _ _
   | exact beaconref20_Offers.mono _ _
   | exact beaconref20_Set.mono _ _ _ _ _
   | exact size_Check.mono _ _
   | exact size_Drop.mono _ _ _
   | exact size_Least.mono _ _
   | exact size_Set.mono _ _ _ _ _
   | exact LeO.none _
   | refine LeO.ite ?_ ?_
   | refine LeO.bind ?_ (fun _ => ?_)
  ·intro y0 y1 y2 y3 y4 y5 y6 y7 y8 y9 y10 y11 y12 y13 y14 y15 y16 y17 y18 y19 y20 y21 y22
   unfold beaconlaw22_SizeExact.j4
   repeat' first
   | (with_reducible exact ih0 _ _ _)
   | (with_reducible exact ih1 _ _ _ _)
   | (with_reducible exact ih2 _ _ _ _ _)
   | (with_reducible exact ih3 _ _ _ _ _ _ _)
   | (with_reducible exact ih4 _ _ _ _ _ _ _ _ _ _ _ _ _ _ _ _ _ _ _ _ _ _ _)
   | (with_reducible exact ih5 _ _ _ _ _ _ _ _ _ _ _ _ _ _ _)
   | (with_reducible exact ih6 _ _ _ _ _ _ _ _ _ _ _ _ _ _ _)
   | (with_reducible exact ih7 _ _ _ _ _ _ _ _ _ _ _ _ _ _)
   | (with_reducible exact ih8 _ _ _ _ _ _ _ _)
   | (with_reducible exact ih9 _ _ _ _ _ _ _ _ _ _ _ _ _ _ _ _ _ _ _ _ _ _ _)
   | (with_reducible exact beaconlaw22_wakes.mono _)
   | (with_reducible exact beaconref0_CopyOffers.mono _ _)
   | (with_reducible exact beaconref0_EqOffers.mono _ _ _)
   | (with_reducible exact beaconref20_Drop.mono _ _ _)
   | (with_reducible exact beaconref20_Least.mono _ _)
   | (with_reducible exact beaconref20_Offers.mono _ _)
   | (with_reducible exact beaconref20_Set.mono _ _ _ _ _)
   | (with_reducible exact size_Check.mono _ _)
   | (with_reducible exact size_Drop.mono _ _ _)
   | (with_reducible exact size_Least.mono _ _)
   | (with_reducible exact size_Set.mono _ _ _ _ _)
   | (with_reducible exact LeO.refl _)
   | (with_reducible exact LeO.none _)
   | (with_reducible refine LeO.ite ?_ ?_)
   | (with_reducible refine LeO.bind ?_ (fun _ => ?_))
   | exact ih0 _ _ _
   | exact ih1 _ _ _ _
   | exact ih2 _ _ _ _ _
   | exact ih3 _ _ _ _ _ _ _
   | exact ih4 _ _ _ _ _ _ _ _ _ _ _ _ _ _ _ _ _ _ _ _ _ _ _
   | exact ih5 _ _ _ _ _ _ _ _ _ _ _ _ _ _ _
   | exact ih6 _ _ _ _ _ _ _ _ _ _ _ _ _ _ _
   | exact ih7 _ _ _ _ _ _ _ _ _ _ _ _ _ _
   | exact ih8 _ _ _ _ _ _ _ _
   | exact ih9 _ _ _ _ _ _ _ _ _ _ _ _ _ _ _ _ _ _ _ _ _ _ _
   | exact beaconlaw22_wakes.mono _
   | exact beaconref0_CopyOffers.mono _ _
   | exact beaconref0_EqOffers.mono _ _ _
   | exact beaconref20_Drop.mono _ _ _
   | exact beaconref20_Least.mono _ _
   | exact beaconref20_Offers.mono _ _
   | exact beaconref20_Set.mono _ _ _ _ _
   | exact size_Check.mono _ _
   | exact size_Drop.mono _ _ _
   | exact size_Least.mono _ _
   | exact size_Set.mono _ _ _ _ _
   | exact LeO.none _
   | refine LeO.ite ?_ ?_
   | refine LeO.bind ?_ (fun _ => ?_)
theorem beaconlaw22_SizeExact.mono : ∀ a0 a1 k, LeO (beaconlaw22_SizeExact.f k a0 a1) (beaconlaw22_SizeExact.f (k + 1) a0 a1) := by
 intro a0 a1 k
 obtain ⟨ih0, ih1, ih2, ih3, ih4, ih5, ih6, ih7, ih8, ih9⟩ := beaconlaw22_SizeExact.mono_l k
 unfold beaconlaw22_SizeExact.f
 repeat' first
   | (with_reducible exact ih0 _ _ _)
   | (with_reducible exact ih1 _ _ _ _)
   | (with_reducible exact ih2 _ _ _ _ _)
   | (with_reducible exact ih3 _ _ _ _ _ _ _)
   | (with_reducible exact ih4 _ _ _ _ _ _ _ _ _ _ _ _ _ _ _ _ _ _ _ _ _ _ _)
   | (with_reducible exact ih5 _ _ _ _ _ _ _ _ _ _ _ _ _ _ _)
   | (with_reducible exact ih6 _ _ _ _ _ _ _ _ _ _ _ _ _ _ _)
   | (with_reducible exact ih7 _ _ _ _ _ _ _ _ _ _ _ _ _ _)
   | (with_reducible exact ih8 _ _ _ _ _ _ _ _)
   | (with_reducible exact ih9 _ _ _ _ _ _ _ _ _ _ _ _ _ _ _ _ _ _ _ _ _ _ _)
   | (with_reducible exact beaconlaw22_wakes.mono _)
   | (with_reducible exact beaconref0_CopyOffers.mono _ _)
   | (with_reducible exact beaconref0_EqOffers.mono _ _ _)
   | (with_reducible exact beaconref20_Drop.mono _ _ _)
   | (with_reducible exact beaconref20_Least.mono _ _)
   | (with_reducible exact beaconref20_Offers.mono _ _)
   | (with_reducible exact beaconref20_Set.mono _ _ _ _ _)
   | (with_reducible exact size_Check.mono _ _)
   | (with_reducible exact size_Drop.mono _ _ _)
   | (with_reducible exact size_Least.mono _ _)
   | (with_reducible exact size_Set.mono _ _ _ _ _)
   | (with_reducible exact LeO.refl _)
   | (with_reducible exact LeO.none _)
   | (with_reducible refine LeO.ite ?_ ?_)
   | (with_reducible refine LeO.bind ?_ (fun _ => ?_))
   | exact ih0 _ _ _
   | exact ih1 _ _ _ _
   | exact ih2 _ _ _ _ _
   | exact ih3 _ _ _ _ _ _ _
   | exact ih4 _ _ _ _ _ _ _ _ _ _ _ _ _ _ _ _ _ _ _ _ _ _ _
   | exact ih5 _ _ _ _ _ _ _ _ _ _ _ _ _ _ _
   | exact ih6 _ _ _ _ _ _ _ _ _ _ _ _ _ _ _
   | exact ih7 _ _ _ _ _ _ _ _ _ _ _ _ _ _
   | exact ih8 _ _ _ _ _ _ _ _
   | exact ih9 _ _ _ _ _ _ _ _ _ _ _ _ _ _ _ _ _ _ _ _ _ _ _
   | exact beaconlaw22_wakes.mono _
   | exact beaconref0_CopyOffers.mono _ _
   | exact beaconref0_EqOffers.mono _ _ _
   | exact beaconref20_Drop.mono _ _ _
   | exact beaconref20_Least.mono _ _
   | exact beaconref20_Offers.mono _ _
   | exact beaconref20_Set.mono _ _ _ _ _
   | exact size_Check.mono _ _
   | exact size_Drop.mono _ _ _
   | exact size_Least.mono _ _
   | exact size_Set.mono _ _ _ _ _
   | exact LeO.none _
   | refine LeO.ite ?_ ?_
   | refine LeO.bind ?_ (fun _ => ?_)
set_option maxHeartbeats 8000000 in
set_option maxRecDepth 100000 in
theorem beaconlaw22_SizeExact.calls (k : Nat) (A0_0 : Option Addr) (c0_0 : Nat) (l0_0 : List (S75)) (A0_1 : Option Addr) (c0_1 : Nat) (l0_1 : List (S75)) (r : Bool) (w : World) (hr0_0 : Kd.C k75 w A0_0 l0_0.length l0_0) (hc0_0 : l0_0.length ≤ c0_0) (hr0_1 : Kd.C k75 w A0_1 l0_1.length l0_1) (hc0_1 : l0_1.length ≤ c0_1) (h : beaconlaw22_SizeExact.f k l0_0 l0_1 = some r) :
  Calls Try.prog 9 #[.agg #[.slice A0_0 l0_0.length c0_0, .slice A0_1 l0_1.length c0_1]] w fun e w' => e = .returned (.bool r) ∧ Below w.heap.size w w' := by
 have hu73 := Try.underlying73
 have hu75 := Try.underlying75
 have HR0_0 := Aside0.mk hr0_0
 have HC0_0 := Aside0.mk hc0_0
 clear hr0_0 hc0_0
 have HR0_1 := Aside0.mk hr0_1
 have HC0_1 := Aside0.mk hc0_1
 clear hr0_1 hc0_1
 have HB := Aside0.mk (Below.refl w.heap.size w)
 have H : (if (l0_0.length : Int) > 200 then (beaconlaw22_SizeExact.j0 k true l0_0 l0_1) else (beaconlaw22_SizeExact.j0 k (decide ((l0_1.length : Int) > 200)) l0_0 l0_1)) = some r := h
 clear h
 have HC2 := Aside0.mk H
 clear H
 go_enter Try.func9, Try.ntmps9
 go_upto_region 1 with (first | ((with_reducible refine gate_dst (N := 1) rfl ?_); (try (refine gate_guard (by rfl) ?_; dsimp only)); refine box_event ?hg (N := 1) ?hd (cs := #[.slice A0_0 l0_0.length c0_0, .slice A0_1 l0_1.length c0_1]) (t := 73) ?hr ?_; (case hd => rfl); (case hg => rfl); (case hr => first | (go_simp; done) | (go_simp; rfl)); intro gb172 hg w3 hbox hb; have n0_ := Aside0.mk (below_step (by repeat (first | (with_reducible first | exact HB.out | apply below_alloc | apply pw_below_drewN | apply below_drew1) | exact HB.out)) hb); have n1_ := Aside0.mk (hbox); have n2_ := Aside0.mk ((by rw [hg]; exact (below_size (by repeat (first | (with_reducible first | exact HB.out | apply below_alloc | apply pw_below_drewN | apply below_drew1) | exact HB.out))) : w.heap.size ≤ gb172)); have n3_ := Aside0.mk ((by rw [hg]; exact (below_size (by repeat (first | (with_reducible first | exact HB.out | apply below_alloc | apply pw_below_drewN | apply below_drew1) | exact HB.out))) : w.heap.size ≤ gb172)); clear HB; have HB := n0_; have BK172 := n1_; have GW172 := n2_; have GE172 := n3_; clear n0_ n1_ n2_ n3_; clear hb hbox hg))
 (try simp only [Act.put, List.setIfInBounds_toArray, List.set_cons_zero, List.set_cons_succ])
 go_cut [33] (fun v33 wc => ∃ (kq : Nat) (x33_1 : Bool), v33 = .bool x33_1 ∧ Aside0 (beaconlaw22_SizeExact.j0 kq x33_1 l0_0 l0_1 = some r) ∧ Aside0 (kq ≤ k) ∧ Aside0 (wc.heap[gb172]? = some (.cells #[(.slice A0_0 l0_0.length c0_0), (.slice A0_1 l0_1.length c0_1)] 73 (0, 0))) ∧ Aside0 (Below w.heap.size w wc))
 case first =>
  have H := HC2.out
  clear HC2
  by_cases c4 : (l0_0.length : Int) > 200
  ·as_aux_lemma =>
   rw [if_pos c4] at H
   have c4b0 : decide (200 < (l0_0.length : Int)) = true := decide_eq_true c4
   have c4b1 : decide (200 < l0_0.length) = true := decide_eq_true (by omega)
   clear c4
   (first | rw [c4b0] | (simp only [i64_w, i32_w]; rw [c4b0]) | skip)
   have H' := Aside0.mk H
   clear H
   have hcz5_0 : w3.cell? ⟨gb172, 0, none⟩ = some (.slice A0_0 l0_0.length c0_0) := (blk_cell BK172.out 0).trans rfl
   have hcz5_1 : w3.cell? ⟨gb172, 1, none⟩ = some (.slice A0_1 l0_1.length c0_1) := (blk_cell BK172.out 1).trans rfl
   have hfz5_0 := blk_frozen BK172.out 0
   have hfz5_1 := blk_frozen BK172.out 1
   go_wp2
   go_meet
   case rel => exact ⟨_, (true), (by first | rfl | (simp; done) | (simp [*]; done)), H', ⟨by first | omega | exact Nat.le_refl _⟩, ⟨by (with_reducible repeat (first | refine blk_drewN ?_ _ | refine blk_drew ?_ | refine blk_alloc ?_ _)); exact BK172.out⟩, ⟨by repeat (first | (with_reducible first | exact HB.out | apply below_alloc | apply pw_below_drewN | apply below_drew1 | refine below_set ?_ GE172.out) | exact HB.out)⟩⟩
  ·as_aux_lemma =>
   rw [if_neg c4] at H
   have c4b0 : decide (200 < (l0_0.length : Int)) = false := decide_eq_false c4
   have c4b1 : decide (200 < l0_0.length) = false := decide_eq_false (by omega)
   clear c4
   (first | rw [c4b0] | (simp only [i64_w, i32_w]; rw [c4b0]) | skip)
   have H' := Aside0.mk H
   clear H
   have hcz6_0 : w3.cell? ⟨gb172, 0, none⟩ = some (.slice A0_0 l0_0.length c0_0) := (blk_cell BK172.out 0).trans rfl
   have hcz6_1 : w3.cell? ⟨gb172, 1, none⟩ = some (.slice A0_1 l0_1.length c0_1) := (blk_cell BK172.out 1).trans rfl
   have hfz6_0 := blk_frozen BK172.out 0
   have hfz6_1 := blk_frozen BK172.out 1
   go_wp2
   go_meet
   case rel => exact ⟨_, (decide ((l0_1.length : Int) > 200)), (by first | rfl | (simp; done) | (simp [*]; done)), H', ⟨by first | omega | exact Nat.le_refl _⟩, ⟨by (with_reducible repeat (first | refine blk_drewN ?_ _ | refine blk_drew ?_ | refine blk_alloc ?_ _)); exact BK172.out⟩, ⟨by repeat (first | (with_reducible first | exact HB.out | apply below_alloc | apply pw_below_drewN | apply below_drew1 | refine below_set ?_ GE172.out) | exact HB.out)⟩⟩
 case rest =>
  clear HC2
  try clear p2
  try clear c4
  try clear c4b0
  try clear c4b1
  try clear hcz5_0
  try clear hcz5_1
  try clear hcz6_0
  try clear hcz6_1
  try clear hfz5_0
  try clear hfz5_1
  try clear hfz6_0
  try clear hfz6_1
  obtain ⟨kq, x33_1, rfl, HA, HJ1, BK172, HB⟩ := hcut
  cases kq with
  | zero => exact absurd HA.out (by simp [beaconlaw22_SizeExact.j0])
  | succ kj1 =>
   have H := HA.out
   clear HA
   simp only [beaconlaw22_SizeExact.j0] at H
   by_cases c7 : x33_1 = true
   ·subst c7
    have H1 : (some true) = some r := by rw [if_pos rfl] at H; exact H
    clear H
    have H := H1
    clear H1
    obtain rfl := Option.some.inj H
    go_wp2
    go_ret
    exact ⟨by first | rfl | (simp [errW_none, errW_some] <;> rfl) | (simp [*, errW_none, errW_some] <;> rfl), by repeat (first | (with_reducible first | exact HB.out | apply below_alloc | apply pw_below_drewN | apply below_drew1 | refine below_set ?_ GE172.out) | exact HB.out)⟩
   ·replace c7 := Bool.eq_false_iff.mpr c7
    subst c7
    have H1 : ((beaconref0_CopyOffers.f kj1 l0_0).bind fun t173 => (beaconlaw22_SizeExact.l0 kj1 t173 0 l0_0 l0_1)) = some r := by rw [if_neg (show ¬ (false = true) by decide)] at H; exact H
    clear H
    have H := H1
    clear H1
    replace H := Option.bind_eq_some_iff.mp H
    obtain ⟨t173, A80, H⟩ := H
    replace H : (beaconlaw22_SizeExact.l0 kj1 t173 0 l0_0 l0_1) = some r := H
    have A8 := Aside0.mk A80
    clear A80
    have H' := Aside0.mk H
    clear H
    have hcz9_0 : wc.cell? ⟨gb172, 0, none⟩ = some (.slice A0_0 l0_0.length c0_0) := (blk_cell BK172.out 0).trans rfl
    have hcz9_1 : wc.cell? ⟨gb172, 1, none⟩ = some (.slice A0_1 l0_1.length c0_1) := (blk_cell BK172.out 1).trans rfl
    have hfz9_0 := blk_frozen BK172.out 0
    have hfz9_1 := blk_frozen BK172.out 1
    go_wp2_with (first | ((with_reducible refine gate_callee (f := 45) rfl ?_); refine goesL_ (some 36) rfl rfl Try.func45 (by kernel_rfl) rfl #[.slice A0_0 l0_0.length c0_0] rfl (by (try simp only [List.map_toArray, List.map_cons, List.map_nil]); first | done | rfl | (simp only [List.length_drop, List.length_take]; rfl)) ?_; (with_reducible refine (beaconref0_CopyOffers.calls kj1 _ _ l0_0 t173 _ ?side1 ?side2 A8.out).mono ?_); (case side1 => repeat (first | exact (Kd.C_below HR0_0.out HB.out) | (with_reducible refine Kd.C_alloc ?_ _) | (with_reducible refine Kd.C_drewN ?_ _) | (with_reducible refine Kd.C_drew ?_))); (case side2 => exact HC0_0.out); rintro e w10 ⟨v174, rfl, ho0, hb⟩; refine ⟨_, rfl, ?_⟩; have n0_ := Aside0.mk (Kd.R_lower ho0 (below_size (by repeat (first | (with_reducible first | exact HB.out | apply below_alloc | apply pw_below_drewN | apply below_drew1 | refine below_set ?_ GE172.out) | exact HB.out)))); have n1_ := Aside0.mk (blk_below (g := gb172) (o := .cells #[.slice A0_0 l0_0.length c0_0, .slice A0_1 l0_1.length c0_1] 73 (0, 0)) (by (with_reducible repeat (first | refine blk_drewN ?_ _ | refine blk_drew ?_ | refine blk_alloc ?_ _)); exact BK172.out) hb); have n2_ := Aside0.mk (below_step (by repeat (first | (with_reducible first | exact HB.out | apply below_alloc | apply pw_below_drewN | apply below_drew1 | refine below_set ?_ GE172.out) | exact HB.out)) hb); clear BK172; clear HB; have HO175 := n0_; have BK172 := n1_; have HB := n2_; clear n0_ n1_ n2_; (try clear hb); (try clear hb2); (try clear hk); (try clear hi); (try clear ho0)))
    go_loopg [3, 4] kj1 (fun kq v3 v4 w' => ∃ (x3_2 : List (S75)) (x4_2 : Int), v4 = .int .i64 x4_2 ∧ Aside0 (beaconlaw22_SizeExact.l0 kq x3_2 x4_2 l0_0 l0_1 = some r) ∧ Aside0 (kq ≤ kj1) ∧ Aside0 (Kd.R k75 75 w' w.heap.size (fun _ => True) v3 x3_2) ∧ Aside0 (w'.heap[gb172]? = some (.cells #[(.slice A0_0 l0_0.length c0_0), (.slice A0_1 l0_1.length c0_1)] 73 (0, 0))) ∧ Aside0 (Below w.heap.size w w'))
    case atStart => exact ⟨(t173), (0), (by first | rfl | (simp; done) | (simp [*]; done)), H', ⟨Nat.le_refl _⟩, ⟨by (with_reducible repeat (first | apply Kd.R_alloc | apply Kd.R_drewN | apply Kd.R_drew)); exact HO175.out⟩, ⟨by (with_reducible repeat (first | refine blk_drewN ?_ _ | refine blk_drew ?_ | refine blk_alloc ?_ _)); exact BK172.out⟩, ⟨by repeat (first | (with_reducible first | exact HB.out | apply below_alloc | apply pw_below_drewN | apply below_drew1 | refine below_set ?_ GE172.out) | exact HB.out)⟩⟩
    case round =>
     clear H'
     try clear p2
     try clear c4
     try clear c4b0
     try clear c4b1
     try clear c7
     try clear c9
     try clear hcz5_0
     try clear hcz5_1
     try clear hcz6_0
     try clear hcz6_1
     try clear hcz9_0
     try clear hcz9_1
     try clear hfz5_0
     try clear hfz5_1
     try clear hfz6_0
     try clear hfz6_1
     try clear hfz9_0
     try clear hfz9_1
     try clear p2
     obtain ⟨x3_2, x4_2, rfl, HA, HK2, HO_3, BK172, HB⟩ := hrel
     cases gk with
     | zero => exact absurd HA.out (by simp [beaconlaw22_SizeExact.l0])
     | succ k2 =>
      have H := HA.out
      clear HA
      simp only [beaconlaw22_SizeExact.l0] at H
      have HC11 := Aside0.mk H
      clear H
      go_upto_region 5 with (fail)
      go_cut [45] (fun v45 wc => ∃ (kq : Nat) (x45_10 : Bool), v45 = .bool x45_10 ∧ Aside0 (beaconlaw22_SizeExact.j2 kq x3_2 x4_2 x45_10 l0_0 l0_1 = some r) ∧ Aside0 (kq ≤ k2) ∧ Aside0 (Kd.R k75 75 wc w.heap.size (fun _ => True) u3 x3_2) ∧ Aside0 (wc.heap[gb172]? = some (.cells #[(.slice A0_0 l0_0.length c0_0), (.slice A0_1 l0_1.length c0_1)] 73 (0, 0))) ∧ Aside0 (Below w.heap.size w wc))
      case first =>
       have H := HC11.out
       clear HC11
       by_cases c12 : x4_2 < (l0_1.length : Int)
       ·as_aux_lemma =>
        rw [if_pos c12] at H
        have c12b0 : decide (x4_2 < (l0_1.length : Int)) = true := decide_eq_true c12
        clear c12
        (first | rw [c12b0] | (simp only [i64_w, i32_w]; rw [c12b0]) | skip)
        have H' := Aside0.mk H
        clear H
        have hcz13_0 : wr.cell? ⟨gb172, 0, none⟩ = some (.slice A0_0 l0_0.length c0_0) := (blk_cell BK172.out 0).trans rfl
        have hcz13_1 : wr.cell? ⟨gb172, 1, none⟩ = some (.slice A0_1 l0_1.length c0_1) := (blk_cell BK172.out 1).trans rfl
        have hfz13_0 := blk_frozen BK172.out 0
        have hfz13_1 := blk_frozen BK172.out 1
        go_wp2
        go_meet
        case rel => exact ⟨_, (decide (x4_2 < 12)), (by first | rfl | (simp; done) | (simp [*]; done)), H', ⟨by have := HJ1.out; have := HK2.out; first | omega | exact Nat.le_refl _⟩, ⟨by (with_reducible repeat (first | apply Kd.R_alloc | apply Kd.R_drewN | apply Kd.R_drew)); exact HO_3.out⟩, ⟨by (with_reducible repeat (first | refine blk_drewN ?_ _ | refine blk_drew ?_ | refine blk_alloc ?_ _)); exact BK172.out⟩, ⟨by repeat (first | (with_reducible first | exact HB.out | apply below_alloc | apply pw_below_drewN | apply below_drew1 | refine below_set ?_ GE172.out) | exact HB.out)⟩⟩
       ·as_aux_lemma =>
        rw [if_neg c12] at H
        have c12b0 : decide (x4_2 < (l0_1.length : Int)) = false := decide_eq_false c12
        clear c12
        (first | rw [c12b0] | (simp only [i64_w, i32_w]; rw [c12b0]) | skip)
        have H' := Aside0.mk H
        clear H
        have hcz14_0 : wr.cell? ⟨gb172, 0, none⟩ = some (.slice A0_0 l0_0.length c0_0) := (blk_cell BK172.out 0).trans rfl
        have hcz14_1 : wr.cell? ⟨gb172, 1, none⟩ = some (.slice A0_1 l0_1.length c0_1) := (blk_cell BK172.out 1).trans rfl
        have hfz14_0 := blk_frozen BK172.out 0
        have hfz14_1 := blk_frozen BK172.out 1
        go_wp2
        go_meet
        case rel => exact ⟨_, (false), (by first | rfl | (simp; done) | (simp [*]; done)), H', ⟨by have := HJ1.out; have := HK2.out; first | omega | exact Nat.le_refl _⟩, ⟨by (with_reducible repeat (first | apply Kd.R_alloc | apply Kd.R_drewN | apply Kd.R_drew)); exact HO_3.out⟩, ⟨by (with_reducible repeat (first | refine blk_drewN ?_ _ | refine blk_drew ?_ | refine blk_alloc ?_ _)); exact BK172.out⟩, ⟨by repeat (first | (with_reducible first | exact HB.out | apply below_alloc | apply pw_below_drewN | apply below_drew1 | refine below_set ?_ GE172.out) | exact HB.out)⟩⟩
      case rest =>
       clear HC11
       try clear c1
       try clear p2
       try clear c4
       try clear c4b0
       try clear c4b1
       try clear c7
       try clear c9
       try clear c12
       try clear c12b0
       try clear hcz13_0
       try clear hcz13_1
       try clear hcz14_0
       try clear hcz14_1
       try clear hcz5_0
       try clear hcz5_1
       try clear hcz6_0
       try clear hcz6_1
       try clear hcz9_0
       try clear hcz9_1
       try clear hfz13_0
       try clear hfz13_1
       try clear hfz14_0
       try clear hfz14_1
       try clear hfz5_0
       try clear hfz5_1
       try clear hfz6_0
       try clear hfz6_1
       try clear hfz9_0
       try clear hfz9_1
       try clear p2
       obtain ⟨kq, x45_10, rfl, HA, HJ10, HO_3, BK172, HB⟩ := hcut
       cases kq with
       | zero => exact absurd HA.out (by simp [beaconlaw22_SizeExact.j2])
       | succ kj10 =>
        have H := HA.out
        clear HA
        simp only [beaconlaw22_SizeExact.j2] at H
        by_cases c15 : x45_10 = true
        ·subst c15
         have H1 : (if 0 ≤ x4_2 then (if x4_2 < (l0_1.length : Int) then (if (Int.tmod x4_2 3) > 0 then ((beaconlaw0_Within.f ((rd_T75 l0_1 x4_2).f0) 5).bind fun t179 => (beaconlaw22_SizeExact.j3 kj10 x3_2 x4_2 l0_0 l0_1 t179 ((rd_T75 l0_1 x4_2).f1) ((rd_T75 l0_1 x4_2).f2))) else (beaconlaw22_SizeExact.j3 kj10 x3_2 x4_2 l0_0 l0_1 ((rd_T75 l0_1 x4_2).f0) ((rd_T75 l0_1 x4_2).f1) ((rd_T75 l0_1 x4_2).f2))) else (none)) else (none)) = some r := by rw [if_pos rfl] at H; exact H
         clear H
         have H := H1
         clear H1
         by_cases c16 : 0 ≤ x4_2
         ·as_aux_lemma =>
          rw [if_pos c16] at H
          have c16b0 : decide (0 ≤ x4_2) = true := decide_eq_true c16
          clear c16
          by_cases c17 : x4_2 < (l0_1.length : Int)
          ·as_aux_lemma =>
           rw [if_pos c17] at H
           have c17b0 : decide (x4_2 < (l0_1.length : Int)) = true := decide_eq_true c17
           clear c17
           have HC18 := Aside0.mk H
           clear H
           have hcz19_0 : wc.cell? ⟨gb172, 0, none⟩ = some (.slice A0_0 l0_0.length c0_0) := (blk_cell BK172.out 0).trans rfl
           have hcz19_1 : wc.cell? ⟨gb172, 1, none⟩ = some (.slice A0_1 l0_1.length c0_1) := (blk_cell BK172.out 1).trans rfl
           have hfz19_0 := blk_frozen BK172.out 0
           have hfz19_1 := blk_frozen BK172.out 1
           have p177 : 0 ≤ (x4_2 : Int) := of_decide_eq_true (by first | (with_reducible assumption) | assumption)
           have q177 : x4_2 < (l0_1.length : Int) := of_decide_eq_true (by first | (with_reducible assumption) | assumption)
           obtain ⟨ad177, e177, hx177_0, hx177_1, hx177_2⟩ := at_T75 HR0_1.out x4_2 p177 q177
           cases e177
           replace hx177_0 := (HB.out.cell (World.block_lt_of_cell? w _ hx177_0)).trans hx177_0
           replace hx177_1 := (HB.out.cell (World.block_lt_of_cell? w _ hx177_1)).trans hx177_1
           replace hx177_2 := (HB.out.cell (World.block_lt_of_cell? w _ hx177_2)).trans hx177_2
           replace p177 := eq_true p177
           replace q177 := eq_true q177
           go_upto_if 55 with (first | ((with_reducible refine gate_dst (N := 5) rfl ?_); (try (refine gate_guard (by rfl) ?_; dsimp only)); refine box_event ?hg (N := 5) ?hd (cs := #[.int .i64 0, .int .i64 0, .int .i64 0]) (t := 75) ?hr ?_; (case hd => rfl); (case hg => rfl); (case hr => first | (go_simp; done) | (go_simp; rfl)); intro gb178 hg w20 hbox hb; have n0_ := Aside0.mk (Kd.R_below (Kd.R_elderB (by (with_reducible repeat (first | apply Kd.R_alloc | apply Kd.R_drewN | apply Kd.R_drew)); exact HO_3.out) gb178 (Nat.le_of_eq hg.symm)) hb); have n1_ := Aside0.mk (blk_below (g := gb172) (o := .cells #[.slice A0_0 l0_0.length c0_0, .slice (some ad177) l0_1.length c0_1] 73 (0, 0)) (by (with_reducible repeat (first | refine blk_drewN ?_ _ | refine blk_drew ?_ | refine blk_alloc ?_ _)); exact BK172.out) hb); have n2_ := Aside0.mk (below_step (by repeat (first | (with_reducible first | exact HB.out | apply below_alloc | apply pw_below_drewN | apply below_drew1 | refine below_set ?_ GE172.out) | exact HB.out)) hb); have n3_ := Aside0.mk (hbox); have n4_ := Aside0.mk ((by rw [hg]; exact (below_size (by repeat (first | (with_reducible first | exact HB.out | apply below_alloc | apply pw_below_drewN | apply below_drew1 | refine below_set ?_ GE172.out) | exact HB.out))) : w.heap.size ≤ gb178)); have n5_ := Aside0.mk ((by rw [hg]; exact (below_size (by repeat (first | (with_reducible first | exact HB.out | apply below_alloc | apply pw_below_drewN | apply below_drew1 | refine below_set ?_ GE172.out) | exact HB.out))) : w.heap.size ≤ gb178)); have n6_ := Aside0.mk ((by rw [hg]; exact Nat.ne_of_lt (blk_lt (g := gb172) (o := .cells #[.slice A0_0 l0_0.length c0_0, .slice (some ad177) l0_1.length c0_1] 73 (0, 0)) (by (with_reducible repeat (first | refine blk_drewN ?_ _ | refine blk_drew ?_ | refine blk_alloc ?_ _)); exact BK172.out)) : gb172 ≠ gb178)); have n7_ := Aside0.mk ((by rw [hg]; exact Nat.ne_of_gt (blk_lt (g := gb172) (o := .cells #[.slice A0_0 l0_0.length c0_0, .slice (some ad177) l0_1.length c0_1] 73 (0, 0)) (by (with_reducible repeat (first | refine blk_drewN ?_ _ | refine blk_drew ?_ | refine blk_alloc ?_ _)); exact BK172.out)) : gb178 ≠ gb172)); clear HO_3; clear BK172; clear HB; have HO_3 := n0_; have BK172 := n1_; have HB := n2_; have BK178 := n3_; have GW178 := n4_; have GE178 := n5_; have NB172_178 := n6_; have NB178_172 := n7_; clear n0_ n1_ n2_ n3_ n4_ n5_ n6_ n7_; clear hb hbox hg; have hnb21 := NB178_172.out; have hnc21 := NB172_178.out; have hcz22_0 : w20.cell? ⟨gb178, 0, none⟩ = some (.int .i64 0) := (blk_cell BK178.out 0).trans rfl; have hcz22_1 : w20.cell? ⟨gb178, 1, none⟩ = some (.int .i64 0) := (blk_cell BK178.out 1).trans rfl; have hcz22_2 : w20.cell? ⟨gb178, 2, none⟩ = some (.int .i64 0) := (blk_cell BK178.out 2).trans rfl; have hfz22_0 := blk_frozen BK178.out 0; have hfz22_1 := blk_frozen BK178.out 1; have hfz22_2 := blk_frozen BK178.out 2))
           (try simp only [Act.put, List.setIfInBounds_toArray, List.set_cons_zero, List.set_cons_succ])
           go_cut [] (fun wc => ∃ (kq : Nat) (x179000_17 : Int), Aside0 (beaconlaw22_SizeExact.j3 kq x3_2 x4_2 l0_0 l0_1 x179000_17 ((rd_T75 l0_1 x4_2).f1) ((rd_T75 l0_1 x4_2).f2) = some r) ∧ Aside0 (kq ≤ kj10) ∧ Aside0 (Kd.R k75 75 wc w.heap.size (fun k_ => k_ ≠ gb178) u3 x3_2) ∧ Aside0 (wc.heap[gb172]? = some (.cells #[(.slice A0_0 l0_0.length c0_0), (.slice (some ad177) l0_1.length c0_1)] 73 (0, 0))) ∧ Aside0 (wc.heap[gb178]? = some (.cells #[.int .i64 x179000_17, .int .i64 ((rd_T75 l0_1 x4_2).f1), .int .i64 ((rd_T75 l0_1 x4_2).f2)] 75 (0, 0))) ∧ Aside0 (Below w.heap.size w wc))
           case first =>
            have H := HC18.out
            clear HC18
            by_cases c23 : (Int.tmod x4_2 3) > 0
            ·as_aux_lemma =>
             rw [if_pos c23] at H
             have c23b0 : decide (0 < (Int.tmod x4_2 3)) = true := decide_eq_true c23
             clear c23
             (first | rw [c23b0] | (simp only [i64_w, i32_w]; rw [c23b0]) | skip)
             replace H := Option.bind_eq_some_iff.mp H
             obtain ⟨t179, A240, H⟩ := H
             replace H : (beaconlaw22_SizeExact.j3 kj10 x3_2 x4_2 l0_0 l0_1 t179 ((rd_T75 l0_1 x4_2).f1) ((rd_T75 l0_1 x4_2).f2)) = some r := H
             have A24 := Aside0.mk A240
             clear A240
             have H' := Aside0.mk H
             clear H
             have hnb25 := NB178_172.out
             have hnc25 := NB172_178.out
             have hcz26_0 : w20.cell? ⟨gb178, 0, none⟩ = some (.int .i64 0) := (blk_cell BK178.out 0).trans rfl
             have hcz26_1 : w20.cell? ⟨gb178, 1, none⟩ = some (.int .i64 0) := (blk_cell BK178.out 1).trans rfl
             have hcz26_2 : w20.cell? ⟨gb178, 2, none⟩ = some (.int .i64 0) := (blk_cell BK178.out 2).trans rfl
             have hfz26_0 := blk_frozen BK178.out 0
             have hfz26_1 := blk_frozen BK178.out 1
             have hfz26_2 := blk_frozen BK178.out 2
             go_wp2_with (first | ((with_reducible refine gate_callee (f := 19) rfl ?_); refine goesL_ (some 58) rfl rfl Try.func19 (by kernel_rfl) rfl #[.int .i64 ((rd_T75 l0_1 x4_2).f0), .int .i64 5] rfl (by (try simp only [List.map_toArray, List.map_cons, List.map_nil]); first | done | rfl | (simp only [List.length_drop, List.length_take]; rfl)) ?_; (with_reducible refine (beaconlaw0_Within.calls ((rd_T75 l0_1 x4_2).f0) 5 t179 _ A24.out).mono ?_); rintro e w' ⟨rfl, ⟨nd, rfl⟩⟩; refine ⟨_, rfl, ?_⟩))
             go_meet
             case rel => exact ⟨_, (t179), H', ⟨by have := HJ1.out; have := HK2.out; have := HJ10.out; first | omega | exact Nat.le_refl _⟩, ⟨by (with_reducible repeat (first | apply Kd.R_alloc | apply Kd.R_drewN | apply Kd.R_drew)); exact Kd.R_mono (Kd.R_far (p := ⟨gb178, 0, none⟩) (Kd.R_far (p := ⟨gb178, 2, none⟩) (Kd.R_far (p := ⟨gb178, 1, none⟩) (Kd.R_far (p := ⟨gb178, 0, none⟩) (Kd.R_mono HO_3.out (fun k_ hk => (⟨hk, hk.2⟩ : _ ∧ k_ ≠ gb178))) (fun _ hk => hk.2) (.int .i64 ((rd_T75 l0_1 x4_2).f0))) (fun _ hk => hk.2) (.int .i64 ((rd_T75 l0_1 x4_2).f1))) (fun _ hk => hk.2) (.int .i64 ((rd_T75 l0_1 x4_2).f2))) (fun _ hk => hk.2) (.int .i64 t179)) (fun _ hk => hk.1.2)⟩, ⟨by (with_reducible repeat (first | refine blk_drewN ?_ _ | refine blk_drew ?_ | refine blk_alloc ?_ _)); refine blk_far ?_ NB172_178.out _; (with_reducible repeat (first | refine blk_drewN ?_ _ | refine blk_drew ?_ | refine blk_alloc ?_ _)); refine blk_far ?_ NB172_178.out _; (with_reducible repeat (first | refine blk_drewN ?_ _ | refine blk_drew ?_ | refine blk_alloc ?_ _)); refine blk_far ?_ NB172_178.out _; (with_reducible repeat (first | refine blk_drewN ?_ _ | refine blk_drew ?_ | refine blk_alloc ?_ _)); refine blk_far ?_ NB172_178.out _; (with_reducible repeat (first | refine blk_drewN ?_ _ | refine blk_drew ?_ | refine blk_alloc ?_ _)); exact BK172.out⟩, ⟨by (with_reducible repeat (first | refine blk_drewN ?_ _ | refine blk_drew ?_ | refine blk_alloc ?_ _)); refine blk_put (cs := #[.int .i64 ((rd_T75 l0_1 x4_2).f0), .int .i64 ((rd_T75 l0_1 x4_2).f1), .int .i64 ((rd_T75 l0_1 x4_2).f2)]) ?_ 0 _ rfl; (with_reducible repeat (first | refine blk_drewN ?_ _ | refine blk_drew ?_ | refine blk_alloc ?_ _)); refine blk_put (cs := #[.int .i64 ((rd_T75 l0_1 x4_2).f0), .int .i64 ((rd_T75 l0_1 x4_2).f1), .int .i64 0]) ?_ 2 _ rfl; (with_reducible repeat (first | refine blk_drewN ?_ _ | refine blk_drew ?_ | refine blk_alloc ?_ _)); refine blk_put (cs := #[.int .i64 ((rd_T75 l0_1 x4_2).f0), .int .i64 0, .int .i64 0]) ?_ 1 _ rfl; (with_reducible repeat (first | refine blk_drewN ?_ _ | refine blk_drew ?_ | refine blk_alloc ?_ _)); refine blk_put (cs := #[.int .i64 0, .int .i64 0, .int .i64 0]) ?_ 0 _ rfl; (with_reducible repeat (first | refine blk_drewN ?_ _ | refine blk_drew ?_ | refine blk_alloc ?_ _)); exact BK178.out⟩, ⟨by repeat (first | (with_reducible first | exact HB.out | apply below_alloc | apply pw_below_drewN | apply below_drew1 | refine below_set ?_ GE172.out | refine below_set ?_ GE178.out) | exact HB.out)⟩⟩
            ·as_aux_lemma =>
             rw [if_neg c23] at H
             have c23b0 : decide (0 < (Int.tmod x4_2 3)) = false := decide_eq_false c23
             clear c23
             (first | rw [c23b0] | (simp only [i64_w, i32_w]; rw [c23b0]) | skip)
             have H' := Aside0.mk H
             clear H
             go_wp2
             go_meet
             case rel => exact ⟨_, ((rd_T75 l0_1 x4_2).f0), H', ⟨by have := HJ1.out; have := HK2.out; have := HJ10.out; first | omega | exact Nat.le_refl _⟩, ⟨by (with_reducible repeat (first | apply Kd.R_alloc | apply Kd.R_drewN | apply Kd.R_drew)); exact Kd.R_mono (Kd.R_far (p := ⟨gb178, 2, none⟩) (Kd.R_far (p := ⟨gb178, 1, none⟩) (Kd.R_far (p := ⟨gb178, 0, none⟩) (Kd.R_mono HO_3.out (fun k_ hk => (⟨hk, hk.2⟩ : _ ∧ k_ ≠ gb178))) (fun _ hk => hk.2) (.int .i64 ((rd_T75 l0_1 x4_2).f0))) (fun _ hk => hk.2) (.int .i64 ((rd_T75 l0_1 x4_2).f1))) (fun _ hk => hk.2) (.int .i64 ((rd_T75 l0_1 x4_2).f2))) (fun _ hk => hk.1.2)⟩, ⟨by (with_reducible repeat (first | refine blk_drewN ?_ _ | refine blk_drew ?_ | refine blk_alloc ?_ _)); refine blk_far ?_ NB172_178.out _; (with_reducible repeat (first | refine blk_drewN ?_ _ | refine blk_drew ?_ | refine blk_alloc ?_ _)); refine blk_far ?_ NB172_178.out _; (with_reducible repeat (first | refine blk_drewN ?_ _ | refine blk_drew ?_ | refine blk_alloc ?_ _)); refine blk_far ?_ NB172_178.out _; (with_reducible repeat (first | refine blk_drewN ?_ _ | refine blk_drew ?_ | refine blk_alloc ?_ _)); exact BK172.out⟩, ⟨by (with_reducible repeat (first | refine blk_drewN ?_ _ | refine blk_drew ?_ | refine blk_alloc ?_ _)); refine blk_put (cs := #[.int .i64 ((rd_T75 l0_1 x4_2).f0), .int .i64 ((rd_T75 l0_1 x4_2).f1), .int .i64 0]) ?_ 2 _ rfl; (with_reducible repeat (first | refine blk_drewN ?_ _ | refine blk_drew ?_ | refine blk_alloc ?_ _)); refine blk_put (cs := #[.int .i64 ((rd_T75 l0_1 x4_2).f0), .int .i64 0, .int .i64 0]) ?_ 1 _ rfl; (with_reducible repeat (first | refine blk_drewN ?_ _ | refine blk_drew ?_ | refine blk_alloc ?_ _)); refine blk_put (cs := #[.int .i64 0, .int .i64 0, .int .i64 0]) ?_ 0 _ rfl; (with_reducible repeat (first | refine blk_drewN ?_ _ | refine blk_drew ?_ | refine blk_alloc ?_ _)); exact BK178.out⟩, ⟨by repeat (first | (with_reducible first | exact HB.out | apply below_alloc | apply pw_below_drewN | apply below_drew1 | refine below_set ?_ GE172.out | refine below_set ?_ GE178.out) | exact HB.out)⟩⟩
           case rest =>
            clear HC18
            try clear c1
            try clear p1
            try clear q1
            try clear hx1
            try clear c2
            try clear p2
            try clear c4
            try clear c4b0
            try clear c4b1
            try clear c7
            try clear c9
            try clear c12
            try clear c12b0
            try clear c15
            try clear c16
            try clear c16b0
            try clear c17
            try clear c17b0
            try clear p17
            try clear q17
            try clear hx17
            try clear c19
            try clear c21
            try clear c23
            try clear c23b0
            try clear c25
            try clear hcz13_0
            try clear hcz13_1
            try clear hcz14_0
            try clear hcz14_1
            try clear hcz19_0
            try clear hcz19_1
            try clear hcz22_0
            try clear hcz22_1
            try clear hcz22_2
            try clear hcz26_0
            try clear hcz26_1
            try clear hcz26_2
            try clear hcz5_0
            try clear hcz5_1
            try clear hcz6_0
            try clear hcz6_1
            try clear hcz9_0
            try clear hcz9_1
            try clear hfz13_0
            try clear hfz13_1
            try clear hfz14_0
            try clear hfz14_1
            try clear hfz19_0
            try clear hfz19_1
            try clear hfz22_0
            try clear hfz22_1
            try clear hfz22_2
            try clear hfz26_0
            try clear hfz26_1
            try clear hfz26_2
            try clear hfz5_0
            try clear hfz5_1
            try clear hfz6_0
            try clear hfz6_1
            try clear hfz9_0
            try clear hfz9_1
            try clear hx177_0
            try clear hx177_1
            try clear hx177_2
            try clear p177
            try clear p2
            try clear q177
            obtain ⟨kq, x179000_17, HA, HJ17, HO_3, BK172, BK178, HB⟩ := hcut
            cases kq with
            | zero => exact absurd HA.out (by simp [beaconlaw22_SizeExact.j3])
            | succ kj17 =>
             have H := HA.out
             clear HA
             simp only [beaconlaw22_SizeExact.j3] at H
             replace H := Option.bind_eq_some_iff.mp H
             obtain ⟨t180, A270, H⟩ := H
             replace H : ((beaconref20_Offers.f kj17 x3_2).bind fun t183 => ((size_Set.f kj17 t180 x179000_17 ((rd_T75 l0_1 x4_2).f1) ((rd_T75 l0_1 x4_2).f2)).bind fun bt184 => ((size_Drop.f kj17 t180 x179000_17).bind fun bt188 => ((size_Least.f kj17 t180).bind fun bt192 => (if t183 = true then ((beaconref20_Least.f kj17 x3_2).bind fun bt195 => ((beaconref0_Num.f x179000_17 4).bind fun t197 => (if t197 = true then ((beaconref20_Set.f kj17 x3_2 x179000_17 ((rd_T75 l0_1 x4_2).f1) ((rd_T75 l0_1 x4_2).f2)).bind fun t198 => (beaconlaw22_SizeExact.j4 kj17 x3_2 x4_2 t180 t183 bt184.1 bt184.2 bt188.1 bt188.2 bt192.1 bt192.2.1 bt192.2.2 0 1 0 t198 ([] : List (S75)) bt195.1 bt195.2 l0_0 l0_1 x179000_17 ((rd_T75 l0_1 x4_2).f1) ((rd_T75 l0_1 x4_2).f2))) else (beaconlaw22_SizeExact.j4 kj17 x3_2 x4_2 t180 t183 bt184.1 bt184.2 bt188.1 bt188.2 bt192.1 bt192.2.1 bt192.2.2 1 1 0 ([] : List (S75)) ([] : List (S75)) bt195.1 bt195.2 l0_0 l0_1 x179000_17 ((rd_T75 l0_1 x4_2).f1) ((rd_T75 l0_1 x4_2).f2))))) else (beaconlaw22_SizeExact.j5 kj17 x3_2 x4_2 t180 t183 bt184.1 bt184.2 bt188.1 bt188.2 bt192.1 bt192.2.1 bt192.2.2 1 1 1 ([] : List (S75)) ([] : List (S75)) 0 0 l0_0 l0_1 x179000_17 ((rd_T75 l0_1 x4_2).f1) ((rd_T75 l0_1 x4_2).f2))))))) = some r := H
             have A27 := Aside0.mk A270
             clear A270
             replace H := Option.bind_eq_some_iff.mp H
             obtain ⟨t183, A280, H⟩ := H
             replace H : ((size_Set.f kj17 t180 x179000_17 ((rd_T75 l0_1 x4_2).f1) ((rd_T75 l0_1 x4_2).f2)).bind fun bt184 => ((size_Drop.f kj17 t180 x179000_17).bind fun bt188 => ((size_Least.f kj17 t180).bind fun bt192 => (if t183 = true then ((beaconref20_Least.f kj17 x3_2).bind fun bt195 => ((beaconref0_Num.f x179000_17 4).bind fun t197 => (if t197 = true then ((beaconref20_Set.f kj17 x3_2 x179000_17 ((rd_T75 l0_1 x4_2).f1) ((rd_T75 l0_1 x4_2).f2)).bind fun t198 => (beaconlaw22_SizeExact.j4 kj17 x3_2 x4_2 t180 t183 bt184.1 bt184.2 bt188.1 bt188.2 bt192.1 bt192.2.1 bt192.2.2 0 1 0 t198 ([] : List (S75)) bt195.1 bt195.2 l0_0 l0_1 x179000_17 ((rd_T75 l0_1 x4_2).f1) ((rd_T75 l0_1 x4_2).f2))) else (beaconlaw22_SizeExact.j4 kj17 x3_2 x4_2 t180 t183 bt184.1 bt184.2 bt188.1 bt188.2 bt192.1 bt192.2.1 bt192.2.2 1 1 0 ([] : List (S75)) ([] : List (S75)) bt195.1 bt195.2 l0_0 l0_1 x179000_17 ((rd_T75 l0_1 x4_2).f1) ((rd_T75 l0_1 x4_2).f2))))) else (beaconlaw22_SizeExact.j5 kj17 x3_2 x4_2 t180 t183 bt184.1 bt184.2 bt188.1 bt188.2 bt192.1 bt192.2.1 bt192.2.2 1 1 1 ([] : List (S75)) ([] : List (S75)) 0 0 l0_0 l0_1 x179000_17 ((rd_T75 l0_1 x4_2).f1) ((rd_T75 l0_1 x4_2).f2)))))) = some r := H
             have A28 := Aside0.mk A280
             clear A280
             replace H := Option.bind_eq_some_iff.mp H
             obtain ⟨⟨t184, t187⟩, A290, H⟩ := H
             replace H : ((size_Drop.f kj17 t180 x179000_17).bind fun bt188 => ((size_Least.f kj17 t180).bind fun bt192 => (if t183 = true then ((beaconref20_Least.f kj17 x3_2).bind fun bt195 => ((beaconref0_Num.f x179000_17 4).bind fun t197 => (if t197 = true then ((beaconref20_Set.f kj17 x3_2 x179000_17 ((rd_T75 l0_1 x4_2).f1) ((rd_T75 l0_1 x4_2).f2)).bind fun t198 => (beaconlaw22_SizeExact.j4 kj17 x3_2 x4_2 t180 t183 t184 t187 bt188.1 bt188.2 bt192.1 bt192.2.1 bt192.2.2 0 1 0 t198 ([] : List (S75)) bt195.1 bt195.2 l0_0 l0_1 x179000_17 ((rd_T75 l0_1 x4_2).f1) ((rd_T75 l0_1 x4_2).f2))) else (beaconlaw22_SizeExact.j4 kj17 x3_2 x4_2 t180 t183 t184 t187 bt188.1 bt188.2 bt192.1 bt192.2.1 bt192.2.2 1 1 0 ([] : List (S75)) ([] : List (S75)) bt195.1 bt195.2 l0_0 l0_1 x179000_17 ((rd_T75 l0_1 x4_2).f1) ((rd_T75 l0_1 x4_2).f2))))) else (beaconlaw22_SizeExact.j5 kj17 x3_2 x4_2 t180 t183 t184 t187 bt188.1 bt188.2 bt192.1 bt192.2.1 bt192.2.2 1 1 1 ([] : List (S75)) ([] : List (S75)) 0 0 l0_0 l0_1 x179000_17 ((rd_T75 l0_1 x4_2).f1) ((rd_T75 l0_1 x4_2).f2))))) = some r := H
             have A29 := Aside0.mk A290
             clear A290
             replace H := Option.bind_eq_some_iff.mp H
             obtain ⟨⟨t188, t189⟩, A300, H⟩ := H
             replace H : ((size_Least.f kj17 t180).bind fun bt192 => (if t183 = true then ((beaconref20_Least.f kj17 x3_2).bind fun bt195 => ((beaconref0_Num.f x179000_17 4).bind fun t197 => (if t197 = true then ((beaconref20_Set.f kj17 x3_2 x179000_17 ((rd_T75 l0_1 x4_2).f1) ((rd_T75 l0_1 x4_2).f2)).bind fun t198 => (beaconlaw22_SizeExact.j4 kj17 x3_2 x4_2 t180 t183 t184 t187 t188 t189 bt192.1 bt192.2.1 bt192.2.2 0 1 0 t198 ([] : List (S75)) bt195.1 bt195.2 l0_0 l0_1 x179000_17 ((rd_T75 l0_1 x4_2).f1) ((rd_T75 l0_1 x4_2).f2))) else (beaconlaw22_SizeExact.j4 kj17 x3_2 x4_2 t180 t183 t184 t187 t188 t189 bt192.1 bt192.2.1 bt192.2.2 1 1 0 ([] : List (S75)) ([] : List (S75)) bt195.1 bt195.2 l0_0 l0_1 x179000_17 ((rd_T75 l0_1 x4_2).f1) ((rd_T75 l0_1 x4_2).f2))))) else (beaconlaw22_SizeExact.j5 kj17 x3_2 x4_2 t180 t183 t184 t187 t188 t189 bt192.1 bt192.2.1 bt192.2.2 1 1 1 ([] : List (S75)) ([] : List (S75)) 0 0 l0_0 l0_1 x179000_17 ((rd_T75 l0_1 x4_2).f1) ((rd_T75 l0_1 x4_2).f2)))) = some r := H
             have A30 := Aside0.mk A300
             clear A300
             replace H := Option.bind_eq_some_iff.mp H
             obtain ⟨⟨t192, t193, t194⟩, A310, H⟩ := H
             replace H : (if t183 = true then ((beaconref20_Least.f kj17 x3_2).bind fun bt195 => ((beaconref0_Num.f x179000_17 4).bind fun t197 => (if t197 = true then ((beaconref20_Set.f kj17 x3_2 x179000_17 ((rd_T75 l0_1 x4_2).f1) ((rd_T75 l0_1 x4_2).f2)).bind fun t198 => (beaconlaw22_SizeExact.j4 kj17 x3_2 x4_2 t180 t183 t184 t187 t188 t189 t192 t193 t194 0 1 0 t198 ([] : List (S75)) bt195.1 bt195.2 l0_0 l0_1 x179000_17 ((rd_T75 l0_1 x4_2).f1) ((rd_T75 l0_1 x4_2).f2))) else (beaconlaw22_SizeExact.j4 kj17 x3_2 x4_2 t180 t183 t184 t187 t188 t189 t192 t193 t194 1 1 0 ([] : List (S75)) ([] : List (S75)) bt195.1 bt195.2 l0_0 l0_1 x179000_17 ((rd_T75 l0_1 x4_2).f1) ((rd_T75 l0_1 x4_2).f2))))) else (beaconlaw22_SizeExact.j5 kj17 x3_2 x4_2 t180 t183 t184 t187 t188 t189 t192 t193 t194 1 1 1 ([] : List (S75)) ([] : List (S75)) 0 0 l0_0 l0_1 x179000_17 ((rd_T75 l0_1 x4_2).f1) ((rd_T75 l0_1 x4_2).f2))) = some r := H
             have A31 := Aside0.mk A310
             clear A310
             have HC32 := Aside0.mk H
             clear H
             obtain ⟨Ao33, co33, eo33⟩ := Kd.R_slice HO_3.out
             subst eo33
             go_upto_if 83 with (first | ((with_reducible refine gate_callee (f := 45) rfl ?_); refine goesL_ (some 61) rfl rfl Try.func45 (by kernel_rfl) rfl #[.slice Ao33 x3_2.length co33] rfl (by (try simp only [List.map_toArray, List.map_cons, List.map_nil]); first | done | rfl | (simp only [List.length_drop, List.length_take]; rfl)) ?_; (with_reducible refine (beaconref0_CopyOffers.calls kj17 _ _ x3_2 t180 _ ?side1 ?side2 A27.out).mono ?_); (case side1 => repeat (first | exact (Kd.R_reads' HO_3.out).2.2 | (with_reducible refine Kd.C_alloc ?_ _) | (with_reducible refine Kd.C_drewN ?_ _) | (with_reducible refine Kd.C_drew ?_))); (case side2 => exact (Kd.R_reads' HO_3.out).2.1); rintro e w34 ⟨v181, rfl, ho0, hb⟩; refine ⟨_, rfl, ?_⟩; have n0_ := Aside0.mk (Kd.R_elder' (by (with_reducible repeat (first | apply Kd.R_alloc | apply Kd.R_drewN | apply Kd.R_drew)); exact HO_3.out) (Kd.R_base ho0) hb); have n1_ := Aside0.mk (Kd.R_lower (Kd.R_newB (Kd.R_new' ho0 (Kd.R_lt (by (with_reducible repeat (first | apply Kd.R_alloc | apply Kd.R_drewN | apply Kd.R_drew)); exact HO_3.out))) (g := gb178) (o := .cells #[.int .i64 x179000_17, .int .i64 ((rd_T75 l0_1 x4_2).f1), .int .i64 ((rd_T75 l0_1 x4_2).f2)] 75 (0, 0)) (by (with_reducible repeat (first | refine blk_drewN ?_ _ | refine blk_drew ?_ | refine blk_alloc ?_ _)); exact BK178.out)) (below_size (by repeat (first | (with_reducible first | exact HB.out | apply below_alloc | apply pw_below_drewN | apply below_drew1 | refine below_set ?_ GE172.out | refine below_set ?_ GE178.out) | exact HB.out)))); have n2_ := Aside0.mk (blk_below (g := gb172) (o := .cells #[.slice A0_0 l0_0.length c0_0, .slice (some ad177) l0_1.length c0_1] 73 (0, 0)) (by (with_reducible repeat (first | refine blk_drewN ?_ _ | refine blk_drew ?_ | refine blk_alloc ?_ _)); exact BK172.out) hb); have n3_ := Aside0.mk (blk_below (g := gb178) (o := .cells #[.int .i64 x179000_17, .int .i64 ((rd_T75 l0_1 x4_2).f1), .int .i64 ((rd_T75 l0_1 x4_2).f2)] 75 (0, 0)) (by (with_reducible repeat (first | refine blk_drewN ?_ _ | refine blk_drew ?_ | refine blk_alloc ?_ _)); exact BK178.out) hb); have n4_ := Aside0.mk (below_step (by repeat (first | (with_reducible first | exact HB.out | apply below_alloc | apply pw_below_drewN | apply below_drew1 | refine below_set ?_ GE172.out | refine below_set ?_ GE178.out) | exact HB.out)) hb); clear HO_3; clear BK172; clear BK178; clear HB; have HO_3 := n0_; have HO182 := n1_; have BK172 := n2_; have BK178 := n3_; have HB := n4_; clear n0_ n1_ n2_ n3_ n4_; (try clear hb); (try clear hb2); (try clear hk); (try clear hi); (try clear ho0)) | ((with_reducible refine gate_callee (f := 46) rfl ?_); refine goesL_ (some 63) rfl rfl Try.func46 (by kernel_rfl) rfl #[.slice Ao33 x3_2.length co33] rfl (by (try simp only [List.map_toArray, List.map_cons, List.map_nil]); first | done | rfl | (simp only [List.length_drop, List.length_take]; rfl)) ?_; (with_reducible refine (beaconref20_Offers.calls kj17 _ _ x3_2 t183 _ ?side1 ?side2 A28.out).mono ?_); (case side1 => repeat (first | exact (Kd.R_reads' HO_3.out).2.2 | (with_reducible refine Kd.C_alloc ?_ _) | (with_reducible refine Kd.C_drewN ?_ _) | (with_reducible refine Kd.C_drew ?_))); (case side2 => exact (Kd.R_reads' HO_3.out).2.1); rintro e w' ⟨rfl, ⟨nd, rfl⟩⟩; refine ⟨_, rfl, ?_⟩; have hnb35 := NB178_172.out; have hnc35 := NB172_178.out; have hcz36_0 : w34.cell? ⟨gb178, 0, none⟩ = some (.int .i64 x179000_17) := (blk_cell BK178.out 0).trans rfl; have hcz36_1 : w34.cell? ⟨gb178, 1, none⟩ = some (.int .i64 ((rd_T75 l0_1 x4_2).f1)) := (blk_cell BK178.out 1).trans rfl; have hcz36_2 : w34.cell? ⟨gb178, 2, none⟩ = some (.int .i64 ((rd_T75 l0_1 x4_2).f2)) := (blk_cell BK178.out 2).trans rfl; have hfz36_0 := blk_frozen BK178.out 0; have hfz36_1 := blk_frozen BK178.out 1; have hfz36_2 := blk_frozen BK178.out 2; obtain ⟨Ao37, co37, eo37⟩ := Kd.R_slice HO182.out; subst eo37) | ((with_reducible refine gate_callee (f := 41) rfl ?_); refine goesL_ (some 67) rfl rfl Try.func41 (by kernel_rfl) rfl #[.slice Ao37 t180.length co37, .agg #[.int .i64 x179000_17, .int .i64 ((rd_T75 l0_1 x4_2).f1), .int .i64 ((rd_T75 l0_1 x4_2).f2)]] rfl (by (try simp only [List.map_toArray, List.map_cons, List.map_nil]); first | done | rfl | (simp only [List.length_drop, List.length_take]; rfl)) ?_; (with_reducible refine (size_Set.calls kj17 _ _ t180 x179000_17 ((rd_T75 l0_1 x4_2).f1) ((rd_T75 l0_1 x4_2).f2) t184 t187 _ ?side1 ?side2 A29.out).mono ?_); (case side1 => repeat (first | exact (Kd.R_reads' HO182.out).2.2 | (with_reducible refine Kd.C_alloc ?_ _) | (with_reducible refine Kd.C_drewN ?_ _) | (with_reducible refine Kd.C_drew ?_))); (case side2 => exact (Kd.R_reads' HO182.out).2.1); rintro e w38 ⟨v185, rfl, ho0, hb⟩; refine ⟨_, rfl, ?_⟩; have n0_ := Aside0.mk (Kd.R_elder' (by (with_reducible repeat (first | apply Kd.R_alloc | apply Kd.R_drewN | apply Kd.R_drew)); exact HO_3.out) (Kd.R_base ho0) hb); have n1_ := Aside0.mk (Kd.R_elder' (by (with_reducible repeat (first | apply Kd.R_alloc | apply Kd.R_drewN | apply Kd.R_drew)); exact HO182.out) (Kd.R_base ho0) hb); have n2_ := Aside0.mk (Kd.R_lower (Kd.R_newB (Kd.R_new' (Kd.R_new' ho0 (Kd.R_lt (by (with_reducible repeat (first | apply Kd.R_alloc | apply Kd.R_drewN | apply Kd.R_drew)); exact HO_3.out))) (Kd.R_lt (by (with_reducible repeat (first | apply Kd.R_alloc | apply Kd.R_drewN | apply Kd.R_drew)); exact HO182.out))) (g := gb178) (o := .cells #[.int .i64 x179000_17, .int .i64 ((rd_T75 l0_1 x4_2).f1), .int .i64 ((rd_T75 l0_1 x4_2).f2)] 75 (0, 0)) (by (with_reducible repeat (first | refine blk_drewN ?_ _ | refine blk_drew ?_ | refine blk_alloc ?_ _)); exact BK178.out)) (below_size (by repeat (first | (with_reducible first | exact HB.out | apply below_alloc | apply pw_below_drewN | apply below_drew1 | refine below_set ?_ GE172.out | refine below_set ?_ GE178.out) | exact HB.out)))); have n3_ := Aside0.mk (blk_below (g := gb172) (o := .cells #[.slice A0_0 l0_0.length c0_0, .slice (some ad177) l0_1.length c0_1] 73 (0, 0)) (by (with_reducible repeat (first | refine blk_drewN ?_ _ | refine blk_drew ?_ | refine blk_alloc ?_ _)); exact BK172.out) hb); have n4_ := Aside0.mk (blk_below (g := gb178) (o := .cells #[.int .i64 x179000_17, .int .i64 ((rd_T75 l0_1 x4_2).f1), .int .i64 ((rd_T75 l0_1 x4_2).f2)] 75 (0, 0)) (by (with_reducible repeat (first | refine blk_drewN ?_ _ | refine blk_drew ?_ | refine blk_alloc ?_ _)); exact BK178.out) hb); have n5_ := Aside0.mk (below_step (by repeat (first | (with_reducible first | exact HB.out | apply below_alloc | apply pw_below_drewN | apply below_drew1 | refine below_set ?_ GE172.out | refine below_set ?_ GE178.out) | exact HB.out)) hb); clear HO_3; clear HO182; clear BK172; clear BK178; clear HB; have HO_3 := n0_; have HO182 := n1_; have HO186 := n2_; have BK172 := n3_; have BK178 := n4_; have HB := n5_; clear n0_ n1_ n2_ n3_ n4_ n5_; (try clear hb); (try clear hb2); (try clear hk); (try clear hi); (try clear ho0); have hcz39_0 : w38.cell? ⟨gb178, 0, none⟩ = some (.int .i64 x179000_17) := (blk_cell BK178.out 0).trans rfl; have hcz39_1 : w38.cell? ⟨gb178, 1, none⟩ = some (.int .i64 ((rd_T75 l0_1 x4_2).f1)) := (blk_cell BK178.out 1).trans rfl; have hcz39_2 : w38.cell? ⟨gb178, 2, none⟩ = some (.int .i64 ((rd_T75 l0_1 x4_2).f2)) := (blk_cell BK178.out 2).trans rfl; have hfz39_0 := blk_frozen BK178.out 0; have hfz39_1 := blk_frozen BK178.out 1; have hfz39_2 := blk_frozen BK178.out 2) | ((with_reducible refine gate_callee (f := 39) rfl ?_); refine goesL_ (some 74) rfl rfl Try.func39 (by kernel_rfl) rfl #[.slice Ao37 t180.length co37, .int .i64 x179000_17] rfl (by (try simp only [List.map_toArray, List.map_cons, List.map_nil]); first | done | rfl | (simp only [List.length_drop, List.length_take]; rfl)) ?_; (with_reducible refine (size_Drop.calls kj17 _ _ t180 x179000_17 t188 t189 _ ?side1 ?side2 A30.out).mono ?_); (case side1 => repeat (first | exact (Kd.R_reads' HO182.out).2.2 | (with_reducible refine Kd.C_alloc ?_ _) | (with_reducible refine Kd.C_drewN ?_ _) | (with_reducible refine Kd.C_drew ?_))); (case side2 => exact (Kd.R_reads' HO182.out).2.1); rintro e w40 ⟨v190, rfl, ho0, hb⟩; refine ⟨_, rfl, ?_⟩; have n0_ := Aside0.mk (Kd.R_elder' (by (with_reducible repeat (first | apply Kd.R_alloc | apply Kd.R_drewN | apply Kd.R_drew)); exact HO_3.out) (Kd.R_base ho0) hb); have n1_ := Aside0.mk (Kd.R_elder' (by (with_reducible repeat (first | apply Kd.R_alloc | apply Kd.R_drewN | apply Kd.R_drew)); exact HO182.out) (Kd.R_base ho0) hb); have n2_ := Aside0.mk (Kd.R_elder' (by (with_reducible repeat (first | apply Kd.R_alloc | apply Kd.R_drewN | apply Kd.R_drew)); exact HO186.out) (Kd.R_base ho0) hb); have n3_ := Aside0.mk (Kd.R_lower (Kd.R_newB (Kd.R_new' (Kd.R_new' (Kd.R_new' ho0 (Kd.R_lt (by (with_reducible repeat (first | apply Kd.R_alloc | apply Kd.R_drewN | apply Kd.R_drew)); exact HO_3.out))) (Kd.R_lt (by (with_reducible repeat (first | apply Kd.R_alloc | apply Kd.R_drewN | apply Kd.R_drew)); exact HO182.out))) (Kd.R_lt (by (with_reducible repeat (first | apply Kd.R_alloc | apply Kd.R_drewN | apply Kd.R_drew)); exact HO186.out))) (g := gb178) (o := .cells #[.int .i64 x179000_17, .int .i64 ((rd_T75 l0_1 x4_2).f1), .int .i64 ((rd_T75 l0_1 x4_2).f2)] 75 (0, 0)) (by (with_reducible repeat (first | refine blk_drewN ?_ _ | refine blk_drew ?_ | refine blk_alloc ?_ _)); exact BK178.out)) (below_size (by repeat (first | (with_reducible first | exact HB.out | apply below_alloc | apply pw_below_drewN | apply below_drew1 | refine below_set ?_ GE172.out | refine below_set ?_ GE178.out) | exact HB.out)))); have n4_ := Aside0.mk (blk_below (g := gb172) (o := .cells #[.slice A0_0 l0_0.length c0_0, .slice (some ad177) l0_1.length c0_1] 73 (0, 0)) (by (with_reducible repeat (first | refine blk_drewN ?_ _ | refine blk_drew ?_ | refine blk_alloc ?_ _)); exact BK172.out) hb); have n5_ := Aside0.mk (blk_below (g := gb178) (o := .cells #[.int .i64 x179000_17, .int .i64 ((rd_T75 l0_1 x4_2).f1), .int .i64 ((rd_T75 l0_1 x4_2).f2)] 75 (0, 0)) (by (with_reducible repeat (first | refine blk_drewN ?_ _ | refine blk_drew ?_ | refine blk_alloc ?_ _)); exact BK178.out) hb); have n6_ := Aside0.mk (below_step (by repeat (first | (with_reducible first | exact HB.out | apply below_alloc | apply pw_below_drewN | apply below_drew1 | refine below_set ?_ GE172.out | refine below_set ?_ GE178.out) | exact HB.out)) hb); clear HO_3; clear HO182; clear HO186; clear BK172; clear BK178; clear HB; have HO_3 := n0_; have HO182 := n1_; have HO186 := n2_; have HO191 := n3_; have BK172 := n4_; have BK178 := n5_; have HB := n6_; clear n0_ n1_ n2_ n3_ n4_ n5_ n6_; (try clear hb); (try clear hb2); (try clear hk); (try clear hi); (try clear ho0)) | ((with_reducible refine gate_callee (f := 40) rfl ?_); refine goesL_ (some 79) rfl rfl Try.func40 (by kernel_rfl) rfl #[.slice Ao37 t180.length co37] rfl (by (try simp only [List.map_toArray, List.map_cons, List.map_nil]); first | done | rfl | (simp only [List.length_drop, List.length_take]; rfl)) ?_; (with_reducible refine (size_Least.calls kj17 _ _ t180 t192 t193 t194 _ ?side1 ?side2 A31.out).mono ?_); (case side1 => repeat (first | exact (Kd.R_reads' HO182.out).2.2 | (with_reducible refine Kd.C_alloc ?_ _) | (with_reducible refine Kd.C_drewN ?_ _) | (with_reducible refine Kd.C_drew ?_))); (case side2 => exact (Kd.R_reads' HO182.out).2.1); rintro e w41 ⟨rfl, hb⟩; refine ⟨_, rfl, ?_⟩; have n0_ := Aside0.mk (Kd.R_below (by (with_reducible repeat (first | apply Kd.R_alloc | apply Kd.R_drewN | apply Kd.R_drew)); exact HO_3.out) hb); have n1_ := Aside0.mk (Kd.R_below (by (with_reducible repeat (first | apply Kd.R_alloc | apply Kd.R_drewN | apply Kd.R_drew)); exact HO182.out) hb); have n2_ := Aside0.mk (Kd.R_below (by (with_reducible repeat (first | apply Kd.R_alloc | apply Kd.R_drewN | apply Kd.R_drew)); exact HO186.out) hb); have n3_ := Aside0.mk (Kd.R_below (by (with_reducible repeat (first | apply Kd.R_alloc | apply Kd.R_drewN | apply Kd.R_drew)); exact HO191.out) hb); have n4_ := Aside0.mk (blk_below (g := gb172) (o := .cells #[.slice A0_0 l0_0.length c0_0, .slice (some ad177) l0_1.length c0_1] 73 (0, 0)) (by (with_reducible repeat (first | refine blk_drewN ?_ _ | refine blk_drew ?_ | refine blk_alloc ?_ _)); exact BK172.out) hb); have n5_ := Aside0.mk (blk_below (g := gb178) (o := .cells #[.int .i64 x179000_17, .int .i64 ((rd_T75 l0_1 x4_2).f1), .int .i64 ((rd_T75 l0_1 x4_2).f2)] 75 (0, 0)) (by (with_reducible repeat (first | refine blk_drewN ?_ _ | refine blk_drew ?_ | refine blk_alloc ?_ _)); exact BK178.out) hb); have n6_ := Aside0.mk (below_step (by repeat (first | (with_reducible first | exact HB.out | apply below_alloc | apply pw_below_drewN | apply below_drew1 | refine below_set ?_ GE172.out | refine below_set ?_ GE178.out) | exact HB.out)) hb); clear HO_3; clear HO182; clear HO186; clear HO191; clear BK172; clear BK178; clear HB; have HO_3 := n0_; have HO182 := n1_; have HO186 := n2_; have HO191 := n3_; have BK172 := n4_; have BK178 := n5_; have HB := n6_; clear n0_ n1_ n2_ n3_ n4_ n5_ n6_; (try clear hb); (try clear hb2); (try clear hk); (try clear hi)))
             (try simp only [Act.put, List.setIfInBounds_toArray, List.set_cons_zero, List.set_cons_succ])
             go_cut [15, 16, 17, 18, 19, 20, 21] (fun v15 v16 v17 v18 v19 v20 v21 wc => ∃ (kq : Nat) (x15_31 : Int) (x16_31 : Int) (x17_31 : Int) (x18_31 : List (S75)) (x19_31 : List (S75)) (x20_31 : Int) (x21_31 : Int), v15 = .int .i64 x15_31 ∧ v16 = .int .i64 x16_31 ∧ v17 = .int .i64 x17_31 ∧ v20 = .int .i64 x20_31 ∧ v21 = .int .i64 x21_31 ∧ Aside0 (beaconlaw22_SizeExact.j5 kq x3_2 x4_2 t180 t183 t184 t187 t188 t189 t192 t193 t194 x15_31 x16_31 x17_31 x18_31 x19_31 x20_31 x21_31 l0_0 l0_1 x179000_17 ((rd_T75 l0_1 x4_2).f1) ((rd_T75 l0_1 x4_2).f2) = some r) ∧ Aside0 (kq ≤ kj17) ∧ Aside0 (Kd.R k75 75 wc w.heap.size (fun k_ => some k_ ≠ ((.slice Ao37 t180.length co37) : Value).ownBlock ∧ some k_ ≠ (v185 : Value).ownBlock ∧ some k_ ≠ (v190 : Value).ownBlock ∧ some k_ ≠ (v18 : Value).ownBlock ∧ some k_ ≠ (v19 : Value).ownBlock ∧ k_ ≠ gb178) (.slice Ao33 x3_2.length co33) x3_2) ∧ Aside0 (Kd.R k75 75 wc w.heap.size (fun k_ => some k_ ≠ ((.slice Ao33 x3_2.length co33) : Value).ownBlock ∧ some k_ ≠ (v185 : Value).ownBlock ∧ some k_ ≠ (v190 : Value).ownBlock ∧ some k_ ≠ (v18 : Value).ownBlock ∧ some k_ ≠ (v19 : Value).ownBlock ∧ k_ ≠ gb178) (.slice Ao37 t180.length co37) t180) ∧ Aside0 (Kd.R k75 75 wc w.heap.size (fun k_ => some k_ ≠ ((.slice Ao33 x3_2.length co33) : Value).ownBlock ∧ some k_ ≠ ((.slice Ao37 t180.length co37) : Value).ownBlock ∧ some k_ ≠ (v190 : Value).ownBlock ∧ some k_ ≠ (v18 : Value).ownBlock ∧ some k_ ≠ (v19 : Value).ownBlock ∧ k_ ≠ gb178) v185 t184) ∧ Aside0 (Kd.R k75 75 wc w.heap.size (fun k_ => some k_ ≠ ((.slice Ao33 x3_2.length co33) : Value).ownBlock ∧ some k_ ≠ ((.slice Ao37 t180.length co37) : Value).ownBlock ∧ some k_ ≠ (v185 : Value).ownBlock ∧ some k_ ≠ (v18 : Value).ownBlock ∧ some k_ ≠ (v19 : Value).ownBlock ∧ k_ ≠ gb178) v190 t188) ∧ Aside0 (Kd.R k75 75 wc w.heap.size (fun k_ => some k_ ≠ ((.slice Ao33 x3_2.length co33) : Value).ownBlock ∧ some k_ ≠ ((.slice Ao37 t180.length co37) : Value).ownBlock ∧ some k_ ≠ (v185 : Value).ownBlock ∧ some k_ ≠ (v190 : Value).ownBlock ∧ some k_ ≠ (v19 : Value).ownBlock ∧ k_ ≠ gb178) v18 x18_31) ∧ Aside0 (Kd.R k75 75 wc w.heap.size (fun k_ => some k_ ≠ ((.slice Ao33 x3_2.length co33) : Value).ownBlock ∧ some k_ ≠ ((.slice Ao37 t180.length co37) : Value).ownBlock ∧ some k_ ≠ (v185 : Value).ownBlock ∧ some k_ ≠ (v190 : Value).ownBlock ∧ some k_ ≠ (v18 : Value).ownBlock ∧ k_ ≠ gb178) v19 x19_31) ∧ Aside0 (wc.heap[gb172]? = some (.cells #[(.slice A0_0 l0_0.length c0_0), (.slice (some ad177) l0_1.length c0_1)] 73 (0, 0))) ∧ Aside0 (wc.heap[gb178]? = some (.cells #[.int .i64 x179000_17, .int .i64 ((rd_T75 l0_1 x4_2).f1), .int .i64 ((rd_T75 l0_1 x4_2).f2)] 75 (0, 0))) ∧ Aside0 (Below w.heap.size w wc))
             case first =>
              have H := HC32.out
              clear HC32
              by_cases c42 : t183 = true
              ·subst c42
               have H1 : ((beaconref20_Least.f kj17 x3_2).bind fun bt195 => ((beaconref0_Num.f x179000_17 4).bind fun t197 => (if t197 = true then ((beaconref20_Set.f kj17 x3_2 x179000_17 ((rd_T75 l0_1 x4_2).f1) ((rd_T75 l0_1 x4_2).f2)).bind fun t198 => (beaconlaw22_SizeExact.j4 kj17 x3_2 x4_2 t180 true t184 t187 t188 t189 t192 t193 t194 0 1 0 t198 ([] : List (S75)) bt195.1 bt195.2 l0_0 l0_1 x179000_17 ((rd_T75 l0_1 x4_2).f1) ((rd_T75 l0_1 x4_2).f2))) else (beaconlaw22_SizeExact.j4 kj17 x3_2 x4_2 t180 true t184 t187 t188 t189 t192 t193 t194 1 1 0 ([] : List (S75)) ([] : List (S75)) bt195.1 bt195.2 l0_0 l0_1 x179000_17 ((rd_T75 l0_1 x4_2).f1) ((rd_T75 l0_1 x4_2).f2))))) = some r := by rw [if_pos rfl] at H; exact H
               clear H
               have H := H1
               clear H1
               replace H := Option.bind_eq_some_iff.mp H
               obtain ⟨⟨t195, t196⟩, A430, H⟩ := H
               replace H : ((beaconref0_Num.f x179000_17 4).bind fun t197 => (if t197 = true then ((beaconref20_Set.f kj17 x3_2 x179000_17 ((rd_T75 l0_1 x4_2).f1) ((rd_T75 l0_1 x4_2).f2)).bind fun t198 => (beaconlaw22_SizeExact.j4 kj17 x3_2 x4_2 t180 true t184 t187 t188 t189 t192 t193 t194 0 1 0 t198 ([] : List (S75)) t195 t196 l0_0 l0_1 x179000_17 ((rd_T75 l0_1 x4_2).f1) ((rd_T75 l0_1 x4_2).f2))) else (beaconlaw22_SizeExact.j4 kj17 x3_2 x4_2 t180 true t184 t187 t188 t189 t192 t193 t194 1 1 0 ([] : List (S75)) ([] : List (S75)) t195 t196 l0_0 l0_1 x179000_17 ((rd_T75 l0_1 x4_2).f1) ((rd_T75 l0_1 x4_2).f2)))) = some r := H
               have A43 := Aside0.mk A430
               clear A430
               replace H := Option.bind_eq_some_iff.mp H
               obtain ⟨t197, A440, H⟩ := H
               replace H : (if t197 = true then ((beaconref20_Set.f kj17 x3_2 x179000_17 ((rd_T75 l0_1 x4_2).f1) ((rd_T75 l0_1 x4_2).f2)).bind fun t198 => (beaconlaw22_SizeExact.j4 kj17 x3_2 x4_2 t180 true t184 t187 t188 t189 t192 t193 t194 0 1 0 t198 ([] : List (S75)) t195 t196 l0_0 l0_1 x179000_17 ((rd_T75 l0_1 x4_2).f1) ((rd_T75 l0_1 x4_2).f2))) else (beaconlaw22_SizeExact.j4 kj17 x3_2 x4_2 t180 true t184 t187 t188 t189 t192 t193 t194 1 1 0 ([] : List (S75)) ([] : List (S75)) t195 t196 l0_0 l0_1 x179000_17 ((rd_T75 l0_1 x4_2).f1) ((rd_T75 l0_1 x4_2).f2))) = some r := H
               have A44 := Aside0.mk A440
               clear A440
               have HC45 := Aside0.mk H
               clear H
               go_upto_if 91 with (first | ((with_reducible refine gate_callee (f := 47) rfl ?_); refine goesL_ (some 86) rfl rfl Try.func47 (by kernel_rfl) rfl #[.slice Ao33 x3_2.length co33] rfl (by (try simp only [List.map_toArray, List.map_cons, List.map_nil]); first | done | rfl | (simp only [List.length_drop, List.length_take]; rfl)) ?_; (with_reducible refine (beaconref20_Least.calls kj17 _ _ x3_2 t195 t196 _ ?side1 ?side2 A43.out).mono ?_); (case side1 => repeat (first | exact (Kd.R_reads' HO_3.out).2.2 | (with_reducible refine Kd.C_alloc ?_ _) | (with_reducible refine Kd.C_drewN ?_ _) | (with_reducible refine Kd.C_drew ?_))); (case side2 => exact (Kd.R_reads' HO_3.out).2.1); rintro e w46 ⟨rfl, hb⟩; refine ⟨_, rfl, ?_⟩; have n0_ := Aside0.mk (Kd.R_below (by (with_reducible repeat (first | apply Kd.R_alloc | apply Kd.R_drewN | apply Kd.R_drew)); exact HO_3.out) hb); have n1_ := Aside0.mk (Kd.R_below (by (with_reducible repeat (first | apply Kd.R_alloc | apply Kd.R_drewN | apply Kd.R_drew)); exact HO182.out) hb); have n2_ := Aside0.mk (Kd.R_below (by (with_reducible repeat (first | apply Kd.R_alloc | apply Kd.R_drewN | apply Kd.R_drew)); exact HO186.out) hb); have n3_ := Aside0.mk (Kd.R_below (by (with_reducible repeat (first | apply Kd.R_alloc | apply Kd.R_drewN | apply Kd.R_drew)); exact HO191.out) hb); have n4_ := Aside0.mk (blk_below (g := gb172) (o := .cells #[.slice A0_0 l0_0.length c0_0, .slice (some ad177) l0_1.length c0_1] 73 (0, 0)) (by (with_reducible repeat (first | refine blk_drewN ?_ _ | refine blk_drew ?_ | refine blk_alloc ?_ _)); exact BK172.out) hb); have n5_ := Aside0.mk (blk_below (g := gb178) (o := .cells #[.int .i64 x179000_17, .int .i64 ((rd_T75 l0_1 x4_2).f1), .int .i64 ((rd_T75 l0_1 x4_2).f2)] 75 (0, 0)) (by (with_reducible repeat (first | refine blk_drewN ?_ _ | refine blk_drew ?_ | refine blk_alloc ?_ _)); exact BK178.out) hb); have n6_ := Aside0.mk (below_step (by repeat (first | (with_reducible first | exact HB.out | apply below_alloc | apply pw_below_drewN | apply below_drew1 | refine below_set ?_ GE172.out | refine below_set ?_ GE178.out) | exact HB.out)) hb); clear HO_3; clear HO182; clear HO186; clear HO191; clear BK172; clear BK178; clear HB; have HO_3 := n0_; have HO182 := n1_; have HO186 := n2_; have HO191 := n3_; have BK172 := n4_; have BK178 := n5_; have HB := n6_; clear n0_ n1_ n2_ n3_ n4_ n5_ n6_; (try clear hb); (try clear hb2); (try clear hk); (try clear hi); have hnb47 := NB178_172.out; have hnc47 := NB172_178.out; have hcz48_0 : w46.cell? ⟨gb178, 0, none⟩ = some (.int .i64 x179000_17) := (blk_cell BK178.out 0).trans rfl; have hcz48_1 : w46.cell? ⟨gb178, 1, none⟩ = some (.int .i64 ((rd_T75 l0_1 x4_2).f1)) := (blk_cell BK178.out 1).trans rfl; have hcz48_2 : w46.cell? ⟨gb178, 2, none⟩ = some (.int .i64 ((rd_T75 l0_1 x4_2).f2)) := (blk_cell BK178.out 2).trans rfl; have hfz48_0 := blk_frozen BK178.out 0; have hfz48_1 := blk_frozen BK178.out 1; have hfz48_2 := blk_frozen BK178.out 2) | ((with_reducible refine gate_callee (f := 48) rfl ?_); refine goesL_ (some 91) rfl rfl Try.func48 (by kernel_rfl) rfl #[.int .i64 x179000_17, .int .i64 4] rfl (by (try simp only [List.map_toArray, List.map_cons, List.map_nil]); first | done | rfl | (simp only [List.length_drop, List.length_take]; rfl)) ?_; (with_reducible refine (beaconref0_Num.calls x179000_17 4 t197 _ A44.out).mono ?_); rintro e w' ⟨rfl, ⟨nd, rfl⟩⟩; refine ⟨_, rfl, ?_⟩))
               (try simp only [Act.put, List.setIfInBounds_toArray, List.set_cons_zero, List.set_cons_succ])
               go_cut [15, 18] (fun v15 v18 wc => ∃ (kq : Nat) (x15_44 : Int) (x18_44 : List (S75)), v15 = .int .i64 x15_44 ∧ Aside0 (beaconlaw22_SizeExact.j4 kq x3_2 x4_2 t180 true t184 t187 t188 t189 t192 t193 t194 x15_44 1 0 x18_44 ([] : List (S75)) t195 t196 l0_0 l0_1 x179000_17 ((rd_T75 l0_1 x4_2).f1) ((rd_T75 l0_1 x4_2).f2) = some r) ∧ Aside0 (kq ≤ kj17) ∧ Aside0 (Kd.R k75 75 wc w.heap.size (fun k_ => some k_ ≠ ((.slice Ao37 t180.length co37) : Value).ownBlock ∧ some k_ ≠ (v185 : Value).ownBlock ∧ some k_ ≠ (v190 : Value).ownBlock ∧ some k_ ≠ (v18 : Value).ownBlock ∧ some k_ ≠ ((.slice none 0 0) : Value).ownBlock ∧ k_ ≠ gb178) (.slice Ao33 x3_2.length co33) x3_2) ∧ Aside0 (Kd.R k75 75 wc w.heap.size (fun k_ => some k_ ≠ ((.slice Ao33 x3_2.length co33) : Value).ownBlock ∧ some k_ ≠ (v185 : Value).ownBlock ∧ some k_ ≠ (v190 : Value).ownBlock ∧ some k_ ≠ (v18 : Value).ownBlock ∧ some k_ ≠ ((.slice none 0 0) : Value).ownBlock ∧ k_ ≠ gb178) (.slice Ao37 t180.length co37) t180) ∧ Aside0 (Kd.R k75 75 wc w.heap.size (fun k_ => some k_ ≠ ((.slice Ao33 x3_2.length co33) : Value).ownBlock ∧ some k_ ≠ ((.slice Ao37 t180.length co37) : Value).ownBlock ∧ some k_ ≠ (v190 : Value).ownBlock ∧ some k_ ≠ (v18 : Value).ownBlock ∧ some k_ ≠ ((.slice none 0 0) : Value).ownBlock ∧ k_ ≠ gb178) v185 t184) ∧ Aside0 (Kd.R k75 75 wc w.heap.size (fun k_ => some k_ ≠ ((.slice Ao33 x3_2.length co33) : Value).ownBlock ∧ some k_ ≠ ((.slice Ao37 t180.length co37) : Value).ownBlock ∧ some k_ ≠ (v185 : Value).ownBlock ∧ some k_ ≠ (v18 : Value).ownBlock ∧ some k_ ≠ ((.slice none 0 0) : Value).ownBlock ∧ k_ ≠ gb178) v190 t188) ∧ Aside0 (Kd.R k75 75 wc w.heap.size (fun k_ => some k_ ≠ ((.slice Ao33 x3_2.length co33) : Value).ownBlock ∧ some k_ ≠ ((.slice Ao37 t180.length co37) : Value).ownBlock ∧ some k_ ≠ (v185 : Value).ownBlock ∧ some k_ ≠ (v190 : Value).ownBlock ∧ some k_ ≠ ((.slice none 0 0) : Value).ownBlock ∧ k_ ≠ gb178) v18 x18_44) ∧ Aside0 (Kd.R k75 75 wc w.heap.size (fun k_ => some k_ ≠ ((.slice Ao33 x3_2.length co33) : Value).ownBlock ∧ some k_ ≠ ((.slice Ao37 t180.length co37) : Value).ownBlock ∧ some k_ ≠ (v185 : Value).ownBlock ∧ some k_ ≠ (v190 : Value).ownBlock ∧ some k_ ≠ (v18 : Value).ownBlock ∧ k_ ≠ gb178) (.slice none 0 0) ([] : List (S75))) ∧ Aside0 (wc.heap[gb172]? = some (.cells #[(.slice A0_0 l0_0.length c0_0), (.slice (some ad177) l0_1.length c0_1)] 73 (0, 0))) ∧ Aside0 (wc.heap[gb178]? = some (.cells #[.int .i64 x179000_17, .int .i64 ((rd_T75 l0_1 x4_2).f1), .int .i64 ((rd_T75 l0_1 x4_2).f2)] 75 (0, 0))) ∧ Aside0 (Below w.heap.size w wc))
               case first =>
                have H := HC45.out
                clear HC45
                by_cases c49 : t197 = true
                ·subst c49
                 have H1 : ((beaconref20_Set.f kj17 x3_2 x179000_17 ((rd_T75 l0_1 x4_2).f1) ((rd_T75 l0_1 x4_2).f2)).bind fun t198 => (beaconlaw22_SizeExact.j4 kj17 x3_2 x4_2 t180 true t184 t187 t188 t189 t192 t193 t194 0 1 0 t198 ([] : List (S75)) t195 t196 l0_0 l0_1 x179000_17 ((rd_T75 l0_1 x4_2).f1) ((rd_T75 l0_1 x4_2).f2))) = some r := by rw [if_pos rfl] at H; exact H
                 clear H
                 have H := H1
                 clear H1
                 replace H := Option.bind_eq_some_iff.mp H
                 obtain ⟨t198, A500, H⟩ := H
                 replace H : (beaconlaw22_SizeExact.j4 kj17 x3_2 x4_2 t180 true t184 t187 t188 t189 t192 t193 t194 0 1 0 t198 ([] : List (S75)) t195 t196 l0_0 l0_1 x179000_17 ((rd_T75 l0_1 x4_2).f1) ((rd_T75 l0_1 x4_2).f2)) = some r := H
                 have A50 := Aside0.mk A500
                 clear A500
                 have H' := Aside0.mk H
                 clear H
                 have hnb51 := NB178_172.out
                 have hnc51 := NB172_178.out
                 have hcz52_0 : w46.cell? ⟨gb178, 0, none⟩ = some (.int .i64 x179000_17) := (blk_cell BK178.out 0).trans rfl
                 have hcz52_1 : w46.cell? ⟨gb178, 1, none⟩ = some (.int .i64 ((rd_T75 l0_1 x4_2).f1)) := (blk_cell BK178.out 1).trans rfl
                 have hcz52_2 : w46.cell? ⟨gb178, 2, none⟩ = some (.int .i64 ((rd_T75 l0_1 x4_2).f2)) := (blk_cell BK178.out 2).trans rfl
                 have hfz52_0 := blk_frozen BK178.out 0
                 have hfz52_1 := blk_frozen BK178.out 1
                 have hfz52_2 := blk_frozen BK178.out 2
                 go_wp2_with (first | ((with_reducible refine gate_callee (f := 49) rfl ?_); refine goesL_ (some 94) rfl rfl Try.func49 (by kernel_rfl) rfl #[.slice Ao33 x3_2.length co33, .agg #[.int .i64 x179000_17, .int .i64 ((rd_T75 l0_1 x4_2).f1), .int .i64 ((rd_T75 l0_1 x4_2).f2)]] rfl (by (try simp only [List.map_toArray, List.map_cons, List.map_nil]); first | done | rfl | (simp only [List.length_drop, List.length_take]; rfl)) ?_; (with_reducible refine (beaconref20_Set.calls kj17 _ _ x3_2 x179000_17 ((rd_T75 l0_1 x4_2).f1) ((rd_T75 l0_1 x4_2).f2) t198 _ ?side1 ?side2 A50.out).mono ?_); (case side1 => repeat (first | exact (Kd.R_reads' HO_3.out).2.2 | (with_reducible refine Kd.C_alloc ?_ _) | (with_reducible refine Kd.C_drewN ?_ _) | (with_reducible refine Kd.C_drew ?_))); (case side2 => exact (Kd.R_reads' HO_3.out).2.1); rintro e w53 ⟨v199, rfl, ho0, hb⟩; refine ⟨_, rfl, ?_⟩; have n0_ := Aside0.mk (Kd.R_elder' (by (with_reducible repeat (first | apply Kd.R_alloc | apply Kd.R_drewN | apply Kd.R_drew)); exact HO_3.out) (Kd.R_base ho0) hb); have n1_ := Aside0.mk (Kd.R_elder' (by (with_reducible repeat (first | apply Kd.R_alloc | apply Kd.R_drewN | apply Kd.R_drew)); exact HO182.out) (Kd.R_base ho0) hb); have n2_ := Aside0.mk (Kd.R_elder' (by (with_reducible repeat (first | apply Kd.R_alloc | apply Kd.R_drewN | apply Kd.R_drew)); exact HO186.out) (Kd.R_base ho0) hb); have n3_ := Aside0.mk (Kd.R_elder' (by (with_reducible repeat (first | apply Kd.R_alloc | apply Kd.R_drewN | apply Kd.R_drew)); exact HO191.out) (Kd.R_base ho0) hb); have n4_ := Aside0.mk (Kd.R_lower (Kd.R_newB (Kd.R_new' (Kd.R_new' (Kd.R_new' (Kd.R_new' ho0 (Kd.R_lt (by (with_reducible repeat (first | apply Kd.R_alloc | apply Kd.R_drewN | apply Kd.R_drew)); exact HO_3.out))) (Kd.R_lt (by (with_reducible repeat (first | apply Kd.R_alloc | apply Kd.R_drewN | apply Kd.R_drew)); exact HO182.out))) (Kd.R_lt (by (with_reducible repeat (first | apply Kd.R_alloc | apply Kd.R_drewN | apply Kd.R_drew)); exact HO186.out))) (Kd.R_lt (by (with_reducible repeat (first | apply Kd.R_alloc | apply Kd.R_drewN | apply Kd.R_drew)); exact HO191.out))) (g := gb178) (o := .cells #[.int .i64 x179000_17, .int .i64 ((rd_T75 l0_1 x4_2).f1), .int .i64 ((rd_T75 l0_1 x4_2).f2)] 75 (0, 0)) (by (with_reducible repeat (first | refine blk_drewN ?_ _ | refine blk_drew ?_ | refine blk_alloc ?_ _)); exact BK178.out)) (below_size (by repeat (first | (with_reducible first | exact HB.out | apply below_alloc | apply pw_below_drewN | apply below_drew1 | refine below_set ?_ GE172.out | refine below_set ?_ GE178.out) | exact HB.out)))); have n5_ := Aside0.mk (blk_below (g := gb172) (o := .cells #[.slice A0_0 l0_0.length c0_0, .slice (some ad177) l0_1.length c0_1] 73 (0, 0)) (by (with_reducible repeat (first | refine blk_drewN ?_ _ | refine blk_drew ?_ | refine blk_alloc ?_ _)); exact BK172.out) hb); have n6_ := Aside0.mk (blk_below (g := gb178) (o := .cells #[.int .i64 x179000_17, .int .i64 ((rd_T75 l0_1 x4_2).f1), .int .i64 ((rd_T75 l0_1 x4_2).f2)] 75 (0, 0)) (by (with_reducible repeat (first | refine blk_drewN ?_ _ | refine blk_drew ?_ | refine blk_alloc ?_ _)); exact BK178.out) hb); have n7_ := Aside0.mk (below_step (by repeat (first | (with_reducible first | exact HB.out | apply below_alloc | apply pw_below_drewN | apply below_drew1 | refine below_set ?_ GE172.out | refine below_set ?_ GE178.out) | exact HB.out)) hb); clear HO_3; clear HO182; clear HO186; clear HO191; clear BK172; clear BK178; clear HB; have HO_3 := n0_; have HO182 := n1_; have HO186 := n2_; have HO191 := n3_; have HO200 := n4_; have BK172 := n5_; have BK178 := n6_; have HB := n7_; clear n0_ n1_ n2_ n3_ n4_ n5_ n6_ n7_; (try clear hb); (try clear hb2); (try clear hk); (try clear hi); (try clear ho0)))
                 go_meet
                 case rel => exact ⟨_, (0), (t198), (by first | rfl | (simp; done) | (simp [*]; done)), H', ⟨by have := HJ1.out; have := HK2.out; have := HJ10.out; have := HJ17.out; first | omega | exact Nat.le_refl _⟩, ⟨by (with_reducible repeat (first | apply Kd.R_alloc | apply Kd.R_drewN | apply Kd.R_drew)); exact Kd.R_mono HO_3.out (fun _ hk => ⟨hk.1.1.1.2, ⟨hk.1.1.2, ⟨hk.1.2, ⟨hk.2, ⟨(by simp [Value.ownBlock]), hk.1.1.1.1⟩⟩⟩⟩⟩)⟩, ⟨by (with_reducible repeat (first | apply Kd.R_alloc | apply Kd.R_drewN | apply Kd.R_drew)); exact Kd.R_mono HO182.out (fun _ hk => ⟨hk.1.1.1.1.2, ⟨hk.1.1.2, ⟨hk.1.2, ⟨hk.2, ⟨(by simp [Value.ownBlock]), hk.1.1.1.2⟩⟩⟩⟩⟩)⟩, ⟨by (with_reducible repeat (first | apply Kd.R_alloc | apply Kd.R_drewN | apply Kd.R_drew)); exact Kd.R_mono HO186.out (fun _ hk => ⟨hk.1.1.1.1.2, ⟨hk.1.1.1.2, ⟨hk.1.2, ⟨hk.2, ⟨(by simp [Value.ownBlock]), hk.1.1.2⟩⟩⟩⟩⟩)⟩, ⟨by (with_reducible repeat (first | apply Kd.R_alloc | apply Kd.R_drewN | apply Kd.R_drew)); exact Kd.R_mono HO191.out (fun _ hk => ⟨hk.1.1.1.1.2, ⟨hk.1.1.1.2, ⟨hk.1.1.2, ⟨hk.2, ⟨(by simp [Value.ownBlock]), hk.1.2⟩⟩⟩⟩⟩)⟩, ⟨by (with_reducible repeat (first | apply Kd.R_alloc | apply Kd.R_drewN | apply Kd.R_drew)); exact Kd.R_mono HO200.out (fun _ hk => ⟨hk.1.1.1.1.2, ⟨hk.1.1.1.2, ⟨hk.1.1.2, ⟨hk.1.2, ⟨(by simp [Value.ownBlock]), hk.2⟩⟩⟩⟩⟩)⟩, ⟨by first | exact Kd.R_nil _ _ _ _ _ | exact Kd.N_nil _ _ _ _ _ | exact Kd.V_nil _ _ _ _ _ | exact Kd.Q_nil _ _ _ _ _ | exact Kd.S_nil _ _ _ _ _⟩, ⟨by (with_reducible repeat (first | refine blk_drewN ?_ _ | refine blk_drew ?_ | refine blk_alloc ?_ _)); exact BK172.out⟩, ⟨by (with_reducible repeat (first | refine blk_drewN ?_ _ | refine blk_drew ?_ | refine blk_alloc ?_ _)); exact BK178.out⟩, ⟨by repeat (first | (with_reducible first | exact HB.out | apply below_alloc | apply pw_below_drewN | apply below_drew1 | refine below_set ?_ GE172.out | refine below_set ?_ GE178.out) | exact HB.out)⟩⟩
                ·replace c49 := Bool.eq_false_iff.mpr c49
                 subst c49
                 have H1 : (beaconlaw22_SizeExact.j4 kj17 x3_2 x4_2 t180 true t184 t187 t188 t189 t192 t193 t194 1 1 0 ([] : List (S75)) ([] : List (S75)) t195 t196 l0_0 l0_1 x179000_17 ((rd_T75 l0_1 x4_2).f1) ((rd_T75 l0_1 x4_2).f2)) = some r := by rw [if_neg (show ¬ (false = true) by decide)] at H; exact H
                 clear H
                 have H := H1
                 clear H1
                 have H' := Aside0.mk H
                 clear H
                 go_wp2
                 go_meet
                 case rel => exact ⟨_, (1), (([] : List (S75))), (by first | rfl | (simp; done) | (simp [*]; done)), H', ⟨by have := HJ1.out; have := HK2.out; have := HJ10.out; have := HJ17.out; first | omega | exact Nat.le_refl _⟩, ⟨by (with_reducible repeat (first | apply Kd.R_alloc | apply Kd.R_drewN | apply Kd.R_drew)); exact Kd.R_mono HO_3.out (fun _ hk => ⟨hk.1.1.2, ⟨hk.1.2, ⟨hk.2, ⟨(by simp [Value.ownBlock]), ⟨(by simp [Value.ownBlock]), hk.1.1.1⟩⟩⟩⟩⟩)⟩, ⟨by (with_reducible repeat (first | apply Kd.R_alloc | apply Kd.R_drewN | apply Kd.R_drew)); exact Kd.R_mono HO182.out (fun _ hk => ⟨hk.1.1.1.2, ⟨hk.1.2, ⟨hk.2, ⟨(by simp [Value.ownBlock]), ⟨(by simp [Value.ownBlock]), hk.1.1.2⟩⟩⟩⟩⟩)⟩, ⟨by (with_reducible repeat (first | apply Kd.R_alloc | apply Kd.R_drewN | apply Kd.R_drew)); exact Kd.R_mono HO186.out (fun _ hk => ⟨hk.1.1.1.2, ⟨hk.1.1.2, ⟨hk.2, ⟨(by simp [Value.ownBlock]), ⟨(by simp [Value.ownBlock]), hk.1.2⟩⟩⟩⟩⟩)⟩, ⟨by (with_reducible repeat (first | apply Kd.R_alloc | apply Kd.R_drewN | apply Kd.R_drew)); exact Kd.R_mono HO191.out (fun _ hk => ⟨hk.1.1.1.2, ⟨hk.1.1.2, ⟨hk.1.2, ⟨(by simp [Value.ownBlock]), ⟨(by simp [Value.ownBlock]), hk.2⟩⟩⟩⟩⟩)⟩, ⟨by first | exact Kd.R_nil _ _ _ _ _ | exact Kd.N_nil _ _ _ _ _ | exact Kd.V_nil _ _ _ _ _ | exact Kd.Q_nil _ _ _ _ _ | exact Kd.S_nil _ _ _ _ _⟩, ⟨by first | exact Kd.R_nil _ _ _ _ _ | exact Kd.N_nil _ _ _ _ _ | exact Kd.V_nil _ _ _ _ _ | exact Kd.Q_nil _ _ _ _ _ | exact Kd.S_nil _ _ _ _ _⟩, ⟨by (with_reducible repeat (first | refine blk_drewN ?_ _ | refine blk_drew ?_ | refine blk_alloc ?_ _)); exact BK172.out⟩, ⟨by (with_reducible repeat (first | refine blk_drewN ?_ _ | refine blk_drew ?_ | refine blk_alloc ?_ _)); exact BK178.out⟩, ⟨by repeat (first | (with_reducible first | exact HB.out | apply below_alloc | apply pw_below_drewN | apply below_drew1 | refine below_set ?_ GE172.out | refine below_set ?_ GE178.out) | exact HB.out)⟩⟩
               case rest =>
                clear HC45
                try clear c1
                try clear p1
                try clear q1
                try clear hx1
                try clear c2
                try clear p2
                try clear c3
                try clear c4
                try clear c4b0
                try clear c4b1
                try clear c5
                try clear c7
                try clear c9
                try clear c12
                try clear c12b0
                try clear c15
                try clear c16
                try clear c16b0
                try clear c17
                try clear c17b0
                try clear p17
                try clear q17
                try clear hx17
                try clear c19
                try clear c21
                try clear c23
                try clear c23b0
                try clear c25
                try clear c35
                try clear c39
                try clear c40
                try clear c41
                try clear c42
                try clear c45
                try clear c46
                try clear c47
                try clear c48
                try clear c49
                try clear c51
                try clear hcz13_0
                try clear hcz13_1
                try clear hcz14_0
                try clear hcz14_1
                try clear hcz19_0
                try clear hcz19_1
                try clear hcz22_0
                try clear hcz22_1
                try clear hcz22_2
                try clear hcz26_0
                try clear hcz26_1
                try clear hcz26_2
                try clear hcz36_0
                try clear hcz36_1
                try clear hcz36_2
                try clear hcz39_0
                try clear hcz39_1
                try clear hcz39_2
                try clear hcz48_0
                try clear hcz48_1
                try clear hcz48_2
                try clear hcz52_0
                try clear hcz52_1
                try clear hcz52_2
                try clear hcz5_0
                try clear hcz5_1
                try clear hcz6_0
                try clear hcz6_1
                try clear hcz9_0
                try clear hcz9_1
                try clear hfz13_0
                try clear hfz13_1
                try clear hfz14_0
                try clear hfz14_1
                try clear hfz19_0
                try clear hfz19_1
                try clear hfz22_0
                try clear hfz22_1
                try clear hfz22_2
                try clear hfz26_0
                try clear hfz26_1
                try clear hfz26_2
                try clear hfz36_0
                try clear hfz36_1
                try clear hfz36_2
                try clear hfz39_0
                try clear hfz39_1
                try clear hfz39_2
                try clear hfz48_0
                try clear hfz48_1
                try clear hfz48_2
                try clear hfz52_0
                try clear hfz52_1
                try clear hfz52_2
                try clear hfz5_0
                try clear hfz5_1
                try clear hfz6_0
                try clear hfz6_1
                try clear hfz9_0
                try clear hfz9_1
                try clear hx177_0
                try clear hx177_1
                try clear hx177_2
                try clear p1
                try clear p17
                try clear p177
                try clear p2
                try clear q1
                try clear q17
                try clear q177
                obtain ⟨kq, x15_44, x18_44, rfl, HA, HJ44, HO_3, HO_6, HO_8, HO_10, HO_18, HO_19, BK172, BK178, HB⟩ := hcut
                cases kq with
                | zero => exact absurd HA.out (by simp [beaconlaw22_SizeExact.j4])
                | succ kj44 =>
                 have H := HA.out
                 clear HA
                 simp only [beaconlaw22_SizeExact.j4] at H
                 replace H := Option.bind_eq_some_iff.mp H
                 obtain ⟨t201, A540, H⟩ := H
                 replace H : (if t201 = true then ((beaconref20_Drop.f kj44 x3_2 x179000_17).bind fun t202 => (beaconlaw22_SizeExact.j5 kj44 x3_2 x4_2 t180 true t184 t187 t188 t189 t192 t193 t194 x15_44 0 0 x18_44 t202 t195 t196 l0_0 l0_1 x179000_17 ((rd_T75 l0_1 x4_2).f1) ((rd_T75 l0_1 x4_2).f2))) else (beaconlaw22_SizeExact.j5 kj44 x3_2 x4_2 t180 true t184 t187 t188 t189 t192 t193 t194 x15_44 1 0 x18_44 ([] : List (S75)) t195 t196 l0_0 l0_1 x179000_17 ((rd_T75 l0_1 x4_2).f1) ((rd_T75 l0_1 x4_2).f2))) = some r := H
                 have A54 := Aside0.mk A540
                 clear A540
                 by_cases c55 : t201 = true
                 ·subst c55
                  have H1 : ((beaconref20_Drop.f kj44 x3_2 x179000_17).bind fun t202 => (beaconlaw22_SizeExact.j5 kj44 x3_2 x4_2 t180 true t184 t187 t188 t189 t192 t193 t194 x15_44 0 0 x18_44 t202 t195 t196 l0_0 l0_1 x179000_17 ((rd_T75 l0_1 x4_2).f1) ((rd_T75 l0_1 x4_2).f2))) = some r := by rw [if_pos rfl] at H; exact H
                  clear H
                  have H := H1
                  clear H1
                  replace H := Option.bind_eq_some_iff.mp H
                  obtain ⟨t202, A560, H⟩ := H
                  replace H : (beaconlaw22_SizeExact.j5 kj44 x3_2 x4_2 t180 true t184 t187 t188 t189 t192 t193 t194 x15_44 0 0 x18_44 t202 t195 t196 l0_0 l0_1 x179000_17 ((rd_T75 l0_1 x4_2).f1) ((rd_T75 l0_1 x4_2).f2)) = some r := H
                  have A56 := Aside0.mk A560
                  clear A560
                  have H' := Aside0.mk H
                  clear H
                  have hnb57 := NB178_172.out
                  have hnc57 := NB172_178.out
                  have hcz58_0 : wc.cell? ⟨gb178, 0, none⟩ = some (.int .i64 x179000_17) := (blk_cell BK178.out 0).trans rfl
                  have hcz58_1 : wc.cell? ⟨gb178, 1, none⟩ = some (.int .i64 ((rd_T75 l0_1 x4_2).f1)) := (blk_cell BK178.out 1).trans rfl
                  have hcz58_2 : wc.cell? ⟨gb178, 2, none⟩ = some (.int .i64 ((rd_T75 l0_1 x4_2).f2)) := (blk_cell BK178.out 2).trans rfl
                  have hfz58_0 := blk_frozen BK178.out 0
                  have hfz58_1 := blk_frozen BK178.out 1
                  have hfz58_2 := blk_frozen BK178.out 2
                  go_wp2_with (first | ((with_reducible refine gate_callee (f := 43) rfl ?_); refine goesL_ (some 97) rfl rfl Try.func43 (by kernel_rfl) rfl #[.int .i64 x179000_17, .int .i64 1, .int .i64 4] rfl (by (try simp only [List.map_toArray, List.map_cons, List.map_nil]); first | done | rfl | (simp only [List.length_drop, List.length_take]; rfl)) ?_; (with_reducible refine (beaconref0_Between.calls x179000_17 1 4 true _ A54.out).mono ?_); rintro e w' ⟨rfl, ⟨nd, rfl⟩⟩; refine ⟨_, rfl, ?_⟩) | ((with_reducible refine gate_callee (f := 50) rfl ?_); refine goesL_ (some 101) rfl rfl Try.func50 (by kernel_rfl) rfl #[.slice Ao33 x3_2.length co33, .int .i64 x179000_17] rfl (by (try simp only [List.map_toArray, List.map_cons, List.map_nil]); first | done | rfl | (simp only [List.length_drop, List.length_take]; rfl)) ?_; (with_reducible refine (beaconref20_Drop.calls kj44 _ _ x3_2 x179000_17 t202 _ ?side1 ?side2 A56.out).mono ?_); (case side1 => repeat (first | exact (Kd.R_reads' HO_3.out).2.2 | (with_reducible refine Kd.C_alloc ?_ _) | (with_reducible refine Kd.C_drewN ?_ _) | (with_reducible refine Kd.C_drew ?_))); (case side2 => exact (Kd.R_reads' HO_3.out).2.1); rintro e w59 ⟨v203, rfl, ho0, hb⟩; refine ⟨_, rfl, ?_⟩; have n0_ := Aside0.mk (Kd.R_elder' (by (with_reducible repeat (first | apply Kd.R_alloc | apply Kd.R_drewN | apply Kd.R_drew)); exact HO_3.out) (Kd.R_base ho0) hb); have n1_ := Aside0.mk (Kd.R_elder' (by (with_reducible repeat (first | apply Kd.R_alloc | apply Kd.R_drewN | apply Kd.R_drew)); exact HO_6.out) (Kd.R_base ho0) hb); have n2_ := Aside0.mk (Kd.R_elder' (by (with_reducible repeat (first | apply Kd.R_alloc | apply Kd.R_drewN | apply Kd.R_drew)); exact HO_8.out) (Kd.R_base ho0) hb); have n3_ := Aside0.mk (Kd.R_elder' (by (with_reducible repeat (first | apply Kd.R_alloc | apply Kd.R_drewN | apply Kd.R_drew)); exact HO_10.out) (Kd.R_base ho0) hb); have n4_ := Aside0.mk (Kd.R_elder' (by (with_reducible repeat (first | apply Kd.R_alloc | apply Kd.R_drewN | apply Kd.R_drew)); exact HO_18.out) (Kd.R_base ho0) hb); have n5_ := Aside0.mk (Kd.R_elder' (by (with_reducible repeat (first | apply Kd.R_alloc | apply Kd.R_drewN | apply Kd.R_drew)); exact HO_19.out) (Kd.R_base ho0) hb); have n6_ := Aside0.mk (Kd.R_lower (Kd.R_newB (Kd.R_new' (Kd.R_new' (Kd.R_new' (Kd.R_new' (Kd.R_new' (Kd.R_new' ho0 (Kd.R_lt (by (with_reducible repeat (first | apply Kd.R_alloc | apply Kd.R_drewN | apply Kd.R_drew)); exact HO_3.out))) (Kd.R_lt (by (with_reducible repeat (first | apply Kd.R_alloc | apply Kd.R_drewN | apply Kd.R_drew)); exact HO_6.out))) (Kd.R_lt (by (with_reducible repeat (first | apply Kd.R_alloc | apply Kd.R_drewN | apply Kd.R_drew)); exact HO_8.out))) (Kd.R_lt (by (with_reducible repeat (first | apply Kd.R_alloc | apply Kd.R_drewN | apply Kd.R_drew)); exact HO_10.out))) (Kd.R_lt (by (with_reducible repeat (first | apply Kd.R_alloc | apply Kd.R_drewN | apply Kd.R_drew)); exact HO_18.out))) (Kd.R_lt (by (with_reducible repeat (first | apply Kd.R_alloc | apply Kd.R_drewN | apply Kd.R_drew)); exact HO_19.out))) (g := gb178) (o := .cells #[.int .i64 x179000_17, .int .i64 ((rd_T75 l0_1 x4_2).f1), .int .i64 ((rd_T75 l0_1 x4_2).f2)] 75 (0, 0)) (by (with_reducible repeat (first | refine blk_drewN ?_ _ | refine blk_drew ?_ | refine blk_alloc ?_ _)); exact BK178.out)) (below_size (by repeat (first | (with_reducible first | exact HB.out | apply below_alloc | apply pw_below_drewN | apply below_drew1 | refine below_set ?_ GE172.out | refine below_set ?_ GE178.out) | exact HB.out)))); have n7_ := Aside0.mk (blk_below (g := gb172) (o := .cells #[.slice A0_0 l0_0.length c0_0, .slice (some ad177) l0_1.length c0_1] 73 (0, 0)) (by (with_reducible repeat (first | refine blk_drewN ?_ _ | refine blk_drew ?_ | refine blk_alloc ?_ _)); exact BK172.out) hb); have n8_ := Aside0.mk (blk_below (g := gb178) (o := .cells #[.int .i64 x179000_17, .int .i64 ((rd_T75 l0_1 x4_2).f1), .int .i64 ((rd_T75 l0_1 x4_2).f2)] 75 (0, 0)) (by (with_reducible repeat (first | refine blk_drewN ?_ _ | refine blk_drew ?_ | refine blk_alloc ?_ _)); exact BK178.out) hb); have n9_ := Aside0.mk (below_step (by repeat (first | (with_reducible first | exact HB.out | apply below_alloc | apply pw_below_drewN | apply below_drew1 | refine below_set ?_ GE172.out | refine below_set ?_ GE178.out) | exact HB.out)) hb); clear HO_3; clear HO_6; clear HO_8; clear HO_10; clear HO_18; clear HO_19; clear BK172; clear BK178; clear HB; have HO_3 := n0_; have HO_6 := n1_; have HO_8 := n2_; have HO_10 := n3_; have HO_18 := n4_; have HO_19 := n5_; have HO204 := n6_; have BK172 := n7_; have BK178 := n8_; have HB := n9_; clear n0_ n1_ n2_ n3_ n4_ n5_ n6_ n7_ n8_ n9_; (try clear hb); (try clear hb2); (try clear hk); (try clear hi); (try clear ho0)))
                  go_meet
                  case rel => exact ⟨_, (x15_44), (0), (0), (x18_44), (t202), (t195), (t196), (by first | rfl | (simp; done) | (simp [*]; done)), (by first | rfl | (simp; done) | (simp [*]; done)), (by first | rfl | (simp; done) | (simp [*]; done)), (by first | rfl | (simp; done) | (simp [*]; done)), (by first | rfl | (simp; done) | (simp [*]; done)), H', ⟨by have := HJ1.out; have := HK2.out; have := HJ10.out; have := HJ17.out; have := HJ44.out; first | omega | exact Nat.le_refl _⟩, ⟨by (with_reducible repeat (first | apply Kd.R_alloc | apply Kd.R_drewN | apply Kd.R_drew)); exact Kd.R_mono HO_3.out (fun _ hk => ⟨hk.1.1, ⟨hk.1.2.1, ⟨hk.1.2.2.1, ⟨hk.1.2.2.2.1, ⟨hk.2, hk.1.2.2.2.2.2⟩⟩⟩⟩⟩)⟩, ⟨by (with_reducible repeat (first | apply Kd.R_alloc | apply Kd.R_drewN | apply Kd.R_drew)); exact Kd.R_mono HO_6.out (fun _ hk => ⟨hk.1.1, ⟨hk.1.2.1, ⟨hk.1.2.2.1, ⟨hk.1.2.2.2.1, ⟨hk.2, hk.1.2.2.2.2.2⟩⟩⟩⟩⟩)⟩, ⟨by (with_reducible repeat (first | apply Kd.R_alloc | apply Kd.R_drewN | apply Kd.R_drew)); exact Kd.R_mono HO_8.out (fun _ hk => ⟨hk.1.1, ⟨hk.1.2.1, ⟨hk.1.2.2.1, ⟨hk.1.2.2.2.1, ⟨hk.2, hk.1.2.2.2.2.2⟩⟩⟩⟩⟩)⟩, ⟨by (with_reducible repeat (first | apply Kd.R_alloc | apply Kd.R_drewN | apply Kd.R_drew)); exact Kd.R_mono HO_10.out (fun _ hk => ⟨hk.1.1, ⟨hk.1.2.1, ⟨hk.1.2.2.1, ⟨hk.1.2.2.2.1, ⟨hk.2, hk.1.2.2.2.2.2⟩⟩⟩⟩⟩)⟩, ⟨by (with_reducible repeat (first | apply Kd.R_alloc | apply Kd.R_drewN | apply Kd.R_drew)); exact Kd.R_mono HO_18.out (fun _ hk => ⟨hk.1.1, ⟨hk.1.2.1, ⟨hk.1.2.2.1, ⟨hk.1.2.2.2.1, ⟨hk.2, hk.1.2.2.2.2.2⟩⟩⟩⟩⟩)⟩, ⟨by (with_reducible repeat (first | apply Kd.R_alloc | apply Kd.R_drewN | apply Kd.R_drew)); exact Kd.R_mono HO204.out (fun _ hk => ⟨hk.1.1.1.1.1.1.2, ⟨hk.1.1.1.1.1.2, ⟨hk.1.1.1.1.2, ⟨hk.1.1.1.2, ⟨hk.1.1.2, hk.2⟩⟩⟩⟩⟩)⟩, ⟨by (with_reducible repeat (first | refine blk_drewN ?_ _ | refine blk_drew ?_ | refine blk_alloc ?_ _)); exact BK172.out⟩, ⟨by (with_reducible repeat (first | refine blk_drewN ?_ _ | refine blk_drew ?_ | refine blk_alloc ?_ _)); exact BK178.out⟩, ⟨by repeat (first | (with_reducible first | exact HB.out | apply below_alloc | apply pw_below_drewN | apply below_drew1 | refine below_set ?_ GE172.out | refine below_set ?_ GE178.out) | exact HB.out)⟩⟩
                 ·replace c55 := Bool.eq_false_iff.mpr c55
                  subst c55
                  have H1 : (beaconlaw22_SizeExact.j5 kj44 x3_2 x4_2 t180 true t184 t187 t188 t189 t192 t193 t194 x15_44 1 0 x18_44 ([] : List (S75)) t195 t196 l0_0 l0_1 x179000_17 ((rd_T75 l0_1 x4_2).f1) ((rd_T75 l0_1 x4_2).f2)) = some r := by rw [if_neg (show ¬ (false = true) by decide)] at H; exact H
                  clear H
                  have H := H1
                  clear H1
                  have H' := Aside0.mk H
                  clear H
                  have hnb60 := NB178_172.out
                  have hnc60 := NB172_178.out
                  have hcz61_0 : wc.cell? ⟨gb178, 0, none⟩ = some (.int .i64 x179000_17) := (blk_cell BK178.out 0).trans rfl
                  have hcz61_1 : wc.cell? ⟨gb178, 1, none⟩ = some (.int .i64 ((rd_T75 l0_1 x4_2).f1)) := (blk_cell BK178.out 1).trans rfl
                  have hcz61_2 : wc.cell? ⟨gb178, 2, none⟩ = some (.int .i64 ((rd_T75 l0_1 x4_2).f2)) := (blk_cell BK178.out 2).trans rfl
                  have hfz61_0 := blk_frozen BK178.out 0
                  have hfz61_1 := blk_frozen BK178.out 1
                  have hfz61_2 := blk_frozen BK178.out 2
                  go_wp2_with (first | ((with_reducible refine gate_callee (f := 43) rfl ?_); refine goesL_ (some 97) rfl rfl Try.func43 (by kernel_rfl) rfl #[.int .i64 x179000_17, .int .i64 1, .int .i64 4] rfl (by (try simp only [List.map_toArray, List.map_cons, List.map_nil]); first | done | rfl | (simp only [List.length_drop, List.length_take]; rfl)) ?_; (with_reducible refine (beaconref0_Between.calls x179000_17 1 4 false _ A54.out).mono ?_); rintro e w' ⟨rfl, ⟨nd, rfl⟩⟩; refine ⟨_, rfl, ?_⟩))
                  go_meet
                  case rel => exact ⟨_, (x15_44), (1), (0), (x18_44), (([] : List (S75))), (t195), (t196), (by first | rfl | (simp; done) | (simp [*]; done)), (by first | rfl | (simp; done) | (simp [*]; done)), (by first | rfl | (simp; done) | (simp [*]; done)), (by first | rfl | (simp; done) | (simp [*]; done)), (by first | rfl | (simp; done) | (simp [*]; done)), H', ⟨by have := HJ1.out; have := HK2.out; have := HJ10.out; have := HJ17.out; have := HJ44.out; first | omega | exact Nat.le_refl _⟩, ⟨by (with_reducible repeat (first | apply Kd.R_alloc | apply Kd.R_drewN | apply Kd.R_drew)); exact HO_3.out⟩, ⟨by (with_reducible repeat (first | apply Kd.R_alloc | apply Kd.R_drewN | apply Kd.R_drew)); exact HO_6.out⟩, ⟨by (with_reducible repeat (first | apply Kd.R_alloc | apply Kd.R_drewN | apply Kd.R_drew)); exact HO_8.out⟩, ⟨by (with_reducible repeat (first | apply Kd.R_alloc | apply Kd.R_drewN | apply Kd.R_drew)); exact HO_10.out⟩, ⟨by (with_reducible repeat (first | apply Kd.R_alloc | apply Kd.R_drewN | apply Kd.R_drew)); exact HO_18.out⟩, ⟨by (with_reducible repeat (first | apply Kd.R_alloc | apply Kd.R_drewN | apply Kd.R_drew)); exact HO_19.out⟩, ⟨by (with_reducible repeat (first | refine blk_drewN ?_ _ | refine blk_drew ?_ | refine blk_alloc ?_ _)); exact BK172.out⟩, ⟨by (with_reducible repeat (first | refine blk_drewN ?_ _ | refine blk_drew ?_ | refine blk_alloc ?_ _)); exact BK178.out⟩, ⟨by repeat (first | (with_reducible first | exact HB.out | apply below_alloc | apply pw_below_drewN | apply below_drew1 | refine below_set ?_ GE172.out | refine below_set ?_ GE178.out) | exact HB.out)⟩⟩
              ·replace c42 := Bool.eq_false_iff.mpr c42
               subst c42
               have H1 : (beaconlaw22_SizeExact.j5 kj17 x3_2 x4_2 t180 false t184 t187 t188 t189 t192 t193 t194 1 1 1 ([] : List (S75)) ([] : List (S75)) 0 0 l0_0 l0_1 x179000_17 ((rd_T75 l0_1 x4_2).f1) ((rd_T75 l0_1 x4_2).f2)) = some r := by rw [if_neg (show ¬ (false = true) by decide)] at H; exact H
               clear H
               have H := H1
               clear H1
               have H' := Aside0.mk H
               clear H
               go_wp2
               go_meet
               case rel => exact ⟨_, (1), (1), (1), (([] : List (S75))), (([] : List (S75))), (0), (0), (by first | rfl | (simp; done) | (simp [*]; done)), (by first | rfl | (simp; done) | (simp [*]; done)), (by first | rfl | (simp; done) | (simp [*]; done)), (by first | rfl | (simp; done) | (simp [*]; done)), (by first | rfl | (simp; done) | (simp [*]; done)), H', ⟨by have := HJ1.out; have := HK2.out; have := HJ10.out; have := HJ17.out; first | omega | exact Nat.le_refl _⟩, ⟨by (with_reducible repeat (first | apply Kd.R_alloc | apply Kd.R_drewN | apply Kd.R_drew)); exact Kd.R_mono HO_3.out (fun _ hk => ⟨hk.1.1.2, ⟨hk.1.2, ⟨hk.2, ⟨(by simp [Value.ownBlock]), ⟨(by simp [Value.ownBlock]), hk.1.1.1⟩⟩⟩⟩⟩)⟩, ⟨by (with_reducible repeat (first | apply Kd.R_alloc | apply Kd.R_drewN | apply Kd.R_drew)); exact Kd.R_mono HO182.out (fun _ hk => ⟨hk.1.1.1.2, ⟨hk.1.2, ⟨hk.2, ⟨(by simp [Value.ownBlock]), ⟨(by simp [Value.ownBlock]), hk.1.1.2⟩⟩⟩⟩⟩)⟩, ⟨by (with_reducible repeat (first | apply Kd.R_alloc | apply Kd.R_drewN | apply Kd.R_drew)); exact Kd.R_mono HO186.out (fun _ hk => ⟨hk.1.1.1.2, ⟨hk.1.1.2, ⟨hk.2, ⟨(by simp [Value.ownBlock]), ⟨(by simp [Value.ownBlock]), hk.1.2⟩⟩⟩⟩⟩)⟩, ⟨by (with_reducible repeat (first | apply Kd.R_alloc | apply Kd.R_drewN | apply Kd.R_drew)); exact Kd.R_mono HO191.out (fun _ hk => ⟨hk.1.1.1.2, ⟨hk.1.1.2, ⟨hk.1.2, ⟨(by simp [Value.ownBlock]), ⟨(by simp [Value.ownBlock]), hk.2⟩⟩⟩⟩⟩)⟩, ⟨by first | exact Kd.R_nil _ _ _ _ _ | exact Kd.N_nil _ _ _ _ _ | exact Kd.V_nil _ _ _ _ _ | exact Kd.Q_nil _ _ _ _ _ | exact Kd.S_nil _ _ _ _ _⟩, ⟨by first | exact Kd.R_nil _ _ _ _ _ | exact Kd.N_nil _ _ _ _ _ | exact Kd.V_nil _ _ _ _ _ | exact Kd.Q_nil _ _ _ _ _ | exact Kd.S_nil _ _ _ _ _⟩, ⟨by (with_reducible repeat (first | refine blk_drewN ?_ _ | refine blk_drew ?_ | refine blk_alloc ?_ _)); exact BK172.out⟩, ⟨by (with_reducible repeat (first | refine blk_drewN ?_ _ | refine blk_drew ?_ | refine blk_alloc ?_ _)); exact BK178.out⟩, ⟨by repeat (first | (with_reducible first | exact HB.out | apply below_alloc | apply pw_below_drewN | apply below_drew1 | refine below_set ?_ GE172.out | refine below_set ?_ GE178.out) | exact HB.out)⟩⟩
             case rest =>
              clear HC32
              try clear c1
              try clear p1
              try clear q1
              try clear hx1
              try clear c2
              try clear p2
              try clear c3
              try clear c4
              try clear c4b0
              try clear c4b1
              try clear c5
              try clear c6
              try clear c7
              try clear c9
              try clear c12
              try clear c12b0
              try clear c15
              try clear c16
              try clear c16b0
              try clear c17
              try clear c17b0
              try clear p17
              try clear q17
              try clear hx17
              try clear c19
              try clear c21
              try clear c23
              try clear c23b0
              try clear c25
              try clear c35
              try clear c39
              try clear c40
              try clear c41
              try clear c42
              try clear c43
              try clear c45
              try clear c46
              try clear c47
              try clear c48
              try clear c49
              try clear c50
              try clear c51
              try clear c55
              try clear c57
              try clear c60
              try clear hcz13_0
              try clear hcz13_1
              try clear hcz14_0
              try clear hcz14_1
              try clear hcz19_0
              try clear hcz19_1
              try clear hcz22_0
              try clear hcz22_1
              try clear hcz22_2
              try clear hcz26_0
              try clear hcz26_1
              try clear hcz26_2
              try clear hcz36_0
              try clear hcz36_1
              try clear hcz36_2
              try clear hcz39_0
              try clear hcz39_1
              try clear hcz39_2
              try clear hcz48_0
              try clear hcz48_1
              try clear hcz48_2
              try clear hcz52_0
              try clear hcz52_1
              try clear hcz52_2
              try clear hcz58_0
              try clear hcz58_1
              try clear hcz58_2
              try clear hcz5_0
              try clear hcz5_1
              try clear hcz61_0
              try clear hcz61_1
              try clear hcz61_2
              try clear hcz6_0
              try clear hcz6_1
              try clear hcz9_0
              try clear hcz9_1
              try clear hfz13_0
              try clear hfz13_1
              try clear hfz14_0
              try clear hfz14_1
              try clear hfz19_0
              try clear hfz19_1
              try clear hfz22_0
              try clear hfz22_1
              try clear hfz22_2
              try clear hfz26_0
              try clear hfz26_1
              try clear hfz26_2
              try clear hfz36_0
              try clear hfz36_1
              try clear hfz36_2
              try clear hfz39_0
              try clear hfz39_1
              try clear hfz39_2
              try clear hfz48_0
              try clear hfz48_1
              try clear hfz48_2
              try clear hfz52_0
              try clear hfz52_1
              try clear hfz52_2
              try clear hfz58_0
              try clear hfz58_1
              try clear hfz58_2
              try clear hfz5_0
              try clear hfz5_1
              try clear hfz61_0
              try clear hfz61_1
              try clear hfz61_2
              try clear hfz6_0
              try clear hfz6_1
              try clear hfz9_0
              try clear hfz9_1
              try clear hx177_0
              try clear hx177_1
              try clear hx177_2
              try clear p1
              try clear p17
              try clear p177
              try clear p2
              try clear q1
              try clear q17
              try clear q177
              obtain ⟨kq, x15_31, x16_31, x17_31, x18_31, x19_31, x20_31, x21_31, rfl, rfl, rfl, rfl, rfl, HA, HJ31, HO_3, HO_6, HO_8, HO_10, HO_18, HO_19, BK172, BK178, HB⟩ := hcut
              cases kq with
              | zero => exact absurd HA.out (by simp [beaconlaw22_SizeExact.j5])
              | succ kj31 =>
               have H := HA.out
               clear HA
               simp only [beaconlaw22_SizeExact.j5] at H
               have HC62 := Aside0.mk H
               clear H
               go_upto_region 25 with (fail)
               go_cut [153] (fun v153 wc => ∃ (kq : Nat) (x153_61 : Bool), v153 = .bool x153_61 ∧ Aside0 (beaconlaw22_SizeExact.j6 kq x3_2 x4_2 t180 t184 t188 x15_31 x16_31 x18_31 x19_31 x153_61 l0_0 l0_1 x179000_17 ((rd_T75 l0_1 x4_2).f1) ((rd_T75 l0_1 x4_2).f2) = some r) ∧ Aside0 (kq ≤ kj31) ∧ Aside0 (Kd.R k75 75 wc w.heap.size (fun k_ => some k_ ≠ ((.slice Ao37 t180.length co37) : Value).ownBlock ∧ some k_ ≠ (v185 : Value).ownBlock ∧ some k_ ≠ (v190 : Value).ownBlock ∧ some k_ ≠ (u18 : Value).ownBlock ∧ some k_ ≠ (u19 : Value).ownBlock ∧ k_ ≠ gb178) (.slice Ao33 x3_2.length co33) x3_2) ∧ Aside0 (Kd.R k75 75 wc w.heap.size (fun k_ => some k_ ≠ ((.slice Ao33 x3_2.length co33) : Value).ownBlock ∧ some k_ ≠ (v185 : Value).ownBlock ∧ some k_ ≠ (v190 : Value).ownBlock ∧ some k_ ≠ (u18 : Value).ownBlock ∧ some k_ ≠ (u19 : Value).ownBlock ∧ k_ ≠ gb178) (.slice Ao37 t180.length co37) t180) ∧ Aside0 (Kd.R k75 75 wc w.heap.size (fun k_ => some k_ ≠ ((.slice Ao33 x3_2.length co33) : Value).ownBlock ∧ some k_ ≠ ((.slice Ao37 t180.length co37) : Value).ownBlock ∧ some k_ ≠ (v190 : Value).ownBlock ∧ some k_ ≠ (u18 : Value).ownBlock ∧ some k_ ≠ (u19 : Value).ownBlock ∧ k_ ≠ gb178) v185 t184) ∧ Aside0 (Kd.R k75 75 wc w.heap.size (fun k_ => some k_ ≠ ((.slice Ao33 x3_2.length co33) : Value).ownBlock ∧ some k_ ≠ ((.slice Ao37 t180.length co37) : Value).ownBlock ∧ some k_ ≠ (v185 : Value).ownBlock ∧ some k_ ≠ (u18 : Value).ownBlock ∧ some k_ ≠ (u19 : Value).ownBlock ∧ k_ ≠ gb178) v190 t188) ∧ Aside0 (Kd.R k75 75 wc w.heap.size (fun k_ => some k_ ≠ ((.slice Ao33 x3_2.length co33) : Value).ownBlock ∧ some k_ ≠ ((.slice Ao37 t180.length co37) : Value).ownBlock ∧ some k_ ≠ (v185 : Value).ownBlock ∧ some k_ ≠ (v190 : Value).ownBlock ∧ some k_ ≠ (u19 : Value).ownBlock ∧ k_ ≠ gb178) u18 x18_31) ∧ Aside0 (Kd.R k75 75 wc w.heap.size (fun k_ => some k_ ≠ ((.slice Ao33 x3_2.length co33) : Value).ownBlock ∧ some k_ ≠ ((.slice Ao37 t180.length co37) : Value).ownBlock ∧ some k_ ≠ (v185 : Value).ownBlock ∧ some k_ ≠ (v190 : Value).ownBlock ∧ some k_ ≠ (u18 : Value).ownBlock ∧ k_ ≠ gb178) u19 x19_31) ∧ Aside0 (wc.heap[gb172]? = some (.cells #[(.slice A0_0 l0_0.length c0_0), (.slice (some ad177) l0_1.length c0_1)] 73 (0, 0))) ∧ Aside0 (wc.heap[gb178]? = some (.cells #[.int .i64 x179000_17, .int .i64 ((rd_T75 l0_1 x4_2).f1), .int .i64 ((rd_T75 l0_1 x4_2).f2)] 75 (0, 0))) ∧ Aside0 (Below w.heap.size w wc))
               case first =>
                have H := HC62.out
                clear HC62
                replace H := Option.bind_eq_some_iff.mp H
                obtain ⟨t205, A630, H⟩ := H
                replace H : ((beaconlaw22_num.f t205).bind fun t206 => (if ((t206 == 0) != t183) = true then (beaconlaw22_SizeExact.j6 kj31 x3_2 x4_2 t180 t184 t188 x15_31 x16_31 x18_31 x19_31 true l0_0 l0_1 x179000_17 ((rd_T75 l0_1 x4_2).f1) ((rd_T75 l0_1 x4_2).f2)) else ((beaconlaw22_num.f t187).bind fun t207 => (if t207 = x15_31 then ((beaconlaw22_num.f t189).bind fun t208 => (if t208 = x16_31 then ((beaconlaw22_num.f t194).bind fun t209 => (if t209 = x17_31 then ((beaconref0_EqOffers.f kj31 t184 x18_31).bind fun t210 => (if t210 = true then ((beaconref0_EqOffers.f kj31 t188 x19_31).bind fun t211 => (if t211 = true then (if t192 = x20_31 then (if t193 = x21_31 then ((beaconref0_EqOffers.f kj31 t180 x3_2).bind fun t212 => (beaconlaw22_SizeExact.j6 kj31 x3_2 x4_2 t180 t184 t188 x15_31 x16_31 x18_31 x19_31 (!t212) l0_0 l0_1 x179000_17 ((rd_T75 l0_1 x4_2).f1) ((rd_T75 l0_1 x4_2).f2))) else (beaconlaw22_SizeExact.j6 kj31 x3_2 x4_2 t180 t184 t188 x15_31 x16_31 x18_31 x19_31 true l0_0 l0_1 x179000_17 ((rd_T75 l0_1 x4_2).f1) ((rd_T75 l0_1 x4_2).f2))) else (beaconlaw22_SizeExact.j6 kj31 x3_2 x4_2 t180 t184 t188 x15_31 x16_31 x18_31 x19_31 true l0_0 l0_1 x179000_17 ((rd_T75 l0_1 x4_2).f1) ((rd_T75 l0_1 x4_2).f2))) else (beaconlaw22_SizeExact.j6 kj31 x3_2 x4_2 t180 t184 t188 x15_31 x16_31 x18_31 x19_31 true l0_0 l0_1 x179000_17 ((rd_T75 l0_1 x4_2).f1) ((rd_T75 l0_1 x4_2).f2)))) else (beaconlaw22_SizeExact.j6 kj31 x3_2 x4_2 t180 t184 t188 x15_31 x16_31 x18_31 x19_31 true l0_0 l0_1 x179000_17 ((rd_T75 l0_1 x4_2).f1) ((rd_T75 l0_1 x4_2).f2)))) else (beaconlaw22_SizeExact.j6 kj31 x3_2 x4_2 t180 t184 t188 x15_31 x16_31 x18_31 x19_31 true l0_0 l0_1 x179000_17 ((rd_T75 l0_1 x4_2).f1) ((rd_T75 l0_1 x4_2).f2)))) else (beaconlaw22_SizeExact.j6 kj31 x3_2 x4_2 t180 t184 t188 x15_31 x16_31 x18_31 x19_31 true l0_0 l0_1 x179000_17 ((rd_T75 l0_1 x4_2).f1) ((rd_T75 l0_1 x4_2).f2)))) else (beaconlaw22_SizeExact.j6 kj31 x3_2 x4_2 t180 t184 t188 x15_31 x16_31 x18_31 x19_31 true l0_0 l0_1 x179000_17 ((rd_T75 l0_1 x4_2).f1) ((rd_T75 l0_1 x4_2).f2)))))) = some r := H
                have A63 := Aside0.mk A630
                clear A630
                replace H := Option.bind_eq_some_iff.mp H
                obtain ⟨t206, A640, H⟩ := H
                replace H : (if ((t206 == 0) != t183) = true then (beaconlaw22_SizeExact.j6 kj31 x3_2 x4_2 t180 t184 t188 x15_31 x16_31 x18_31 x19_31 true l0_0 l0_1 x179000_17 ((rd_T75 l0_1 x4_2).f1) ((rd_T75 l0_1 x4_2).f2)) else ((beaconlaw22_num.f t187).bind fun t207 => (if t207 = x15_31 then ((beaconlaw22_num.f t189).bind fun t208 => (if t208 = x16_31 then ((beaconlaw22_num.f t194).bind fun t209 => (if t209 = x17_31 then ((beaconref0_EqOffers.f kj31 t184 x18_31).bind fun t210 => (if t210 = true then ((beaconref0_EqOffers.f kj31 t188 x19_31).bind fun t211 => (if t211 = true then (if t192 = x20_31 then (if t193 = x21_31 then ((beaconref0_EqOffers.f kj31 t180 x3_2).bind fun t212 => (beaconlaw22_SizeExact.j6 kj31 x3_2 x4_2 t180 t184 t188 x15_31 x16_31 x18_31 x19_31 (!t212) l0_0 l0_1 x179000_17 ((rd_T75 l0_1 x4_2).f1) ((rd_T75 l0_1 x4_2).f2))) else (beaconlaw22_SizeExact.j6 kj31 x3_2 x4_2 t180 t184 t188 x15_31 x16_31 x18_31 x19_31 true l0_0 l0_1 x179000_17 ((rd_T75 l0_1 x4_2).f1) ((rd_T75 l0_1 x4_2).f2))) else (beaconlaw22_SizeExact.j6 kj31 x3_2 x4_2 t180 t184 t188 x15_31 x16_31 x18_31 x19_31 true l0_0 l0_1 x179000_17 ((rd_T75 l0_1 x4_2).f1) ((rd_T75 l0_1 x4_2).f2))) else (beaconlaw22_SizeExact.j6 kj31 x3_2 x4_2 t180 t184 t188 x15_31 x16_31 x18_31 x19_31 true l0_0 l0_1 x179000_17 ((rd_T75 l0_1 x4_2).f1) ((rd_T75 l0_1 x4_2).f2)))) else (beaconlaw22_SizeExact.j6 kj31 x3_2 x4_2 t180 t184 t188 x15_31 x16_31 x18_31 x19_31 true l0_0 l0_1 x179000_17 ((rd_T75 l0_1 x4_2).f1) ((rd_T75 l0_1 x4_2).f2)))) else (beaconlaw22_SizeExact.j6 kj31 x3_2 x4_2 t180 t184 t188 x15_31 x16_31 x18_31 x19_31 true l0_0 l0_1 x179000_17 ((rd_T75 l0_1 x4_2).f1) ((rd_T75 l0_1 x4_2).f2)))) else (beaconlaw22_SizeExact.j6 kj31 x3_2 x4_2 t180 t184 t188 x15_31 x16_31 x18_31 x19_31 true l0_0 l0_1 x179000_17 ((rd_T75 l0_1 x4_2).f1) ((rd_T75 l0_1 x4_2).f2)))) else (beaconlaw22_SizeExact.j6 kj31 x3_2 x4_2 t180 t184 t188 x15_31 x16_31 x18_31 x19_31 true l0_0 l0_1 x179000_17 ((rd_T75 l0_1 x4_2).f1) ((rd_T75 l0_1 x4_2).f2))))) = some r := H
                have A64 := Aside0.mk A640
                clear A640
                by_cases c65 : ((t206 == 0) != t183) = true
                ·as_aux_lemma =>
                 rw [if_pos c65] at H
                 have c65b0 : ((t206 == 0) != t183) = true := c65
                 (try (have c65b1 : decide ((t206 == 0) = t183) = false := by simpa using c65))
                 (try (have c65b2 : ((t206 == 0) == t183) = false := by simpa using c65))
                 (try (have c65b3 : ¬ ((t206 == 0) = t183) := by simpa using c65))
                 clear c65
                 (first | rw [c65b0] | (simp only [i64_w, i32_w]; rw [c65b0]) | skip)
                 have H' := Aside0.mk H
                 clear H
                 go_wp2_with (first | ((with_reducible refine gate_callee (f := 51) rfl ?_); refine goesL_ (some 103) rfl rfl Try.func51 (by kernel_rfl) rfl #[.slice Ao37 t180.length co37] rfl (by (try simp only [List.map_toArray, List.map_cons, List.map_nil]); first | done | rfl | (simp only [List.length_drop, List.length_take]; rfl)) ?_; (with_reducible refine (size_Check.calls kj31 _ _ t180 t205 _ ?side1 ?side2 A63.out).mono ?_); (case side1 => repeat (first | exact (Kd.R_reads' HO_6.out).2.2 | (with_reducible refine Kd.C_alloc ?_ _) | (with_reducible refine Kd.C_drewN ?_ _) | (with_reducible refine Kd.C_drew ?_))); (case side2 => exact (Kd.R_reads' HO_6.out).2.1); rintro e w66 ⟨rfl, hb⟩; refine ⟨_, rfl, ?_⟩; have n0_ := Aside0.mk (Kd.R_below (by (with_reducible repeat (first | apply Kd.R_alloc | apply Kd.R_drewN | apply Kd.R_drew)); exact HO_3.out) hb); have n1_ := Aside0.mk (Kd.R_below (by (with_reducible repeat (first | apply Kd.R_alloc | apply Kd.R_drewN | apply Kd.R_drew)); exact HO_6.out) hb); have n2_ := Aside0.mk (Kd.R_below (by (with_reducible repeat (first | apply Kd.R_alloc | apply Kd.R_drewN | apply Kd.R_drew)); exact HO_8.out) hb); have n3_ := Aside0.mk (Kd.R_below (by (with_reducible repeat (first | apply Kd.R_alloc | apply Kd.R_drewN | apply Kd.R_drew)); exact HO_10.out) hb); have n4_ := Aside0.mk (Kd.R_below (by (with_reducible repeat (first | apply Kd.R_alloc | apply Kd.R_drewN | apply Kd.R_drew)); exact HO_18.out) hb); have n5_ := Aside0.mk (Kd.R_below (by (with_reducible repeat (first | apply Kd.R_alloc | apply Kd.R_drewN | apply Kd.R_drew)); exact HO_19.out) hb); have n6_ := Aside0.mk (blk_below (g := gb172) (o := .cells #[.slice A0_0 l0_0.length c0_0, .slice (some ad177) l0_1.length c0_1] 73 (0, 0)) (by (with_reducible repeat (first | refine blk_drewN ?_ _ | refine blk_drew ?_ | refine blk_alloc ?_ _)); exact BK172.out) hb); have n7_ := Aside0.mk (blk_below (g := gb178) (o := .cells #[.int .i64 x179000_17, .int .i64 ((rd_T75 l0_1 x4_2).f1), .int .i64 ((rd_T75 l0_1 x4_2).f2)] 75 (0, 0)) (by (with_reducible repeat (first | refine blk_drewN ?_ _ | refine blk_drew ?_ | refine blk_alloc ?_ _)); exact BK178.out) hb); have n8_ := Aside0.mk (below_step (by repeat (first | (with_reducible first | exact HB.out | apply below_alloc | apply pw_below_drewN | apply below_drew1 | refine below_set ?_ GE172.out | refine below_set ?_ GE178.out) | exact HB.out)) hb); clear HO_3; clear HO_6; clear HO_8; clear HO_10; clear HO_18; clear HO_19; clear BK172; clear BK178; clear HB; have HO_3 := n0_; have HO_6 := n1_; have HO_8 := n2_; have HO_10 := n3_; have HO_18 := n4_; have HO_19 := n5_; have BK172 := n6_; have BK178 := n7_; have HB := n8_; clear n0_ n1_ n2_ n3_ n4_ n5_ n6_ n7_ n8_; (try clear hb); (try clear hb2); (try clear hk); (try clear hi)) | ((with_reducible refine gate_callee (f := 42) rfl ?_); refine goesL_ (some 104) rfl rfl Try.func42 (by kernel_rfl) rfl #[.int .i64 t205] rfl (by (try simp only [List.map_toArray, List.map_cons, List.map_nil]); first | done | rfl | (simp only [List.length_drop, List.length_take]; rfl)) ?_; (with_reducible refine (beaconlaw22_num.calls t205 t206 _ A64.out).mono ?_); rintro e w' ⟨rfl, ⟨nd, rfl⟩⟩; refine ⟨_, rfl, ?_⟩))
                 go_meet
                 case rel => exact ⟨_, (true), (by first | rfl | (simp; done) | (simp [*]; done)), H', ⟨by have := HJ1.out; have := HK2.out; have := HJ10.out; have := HJ17.out; have := HJ31.out; first | omega | exact Nat.le_refl _⟩, ⟨by (with_reducible repeat (first | apply Kd.R_alloc | apply Kd.R_drewN | apply Kd.R_drew)); exact HO_3.out⟩, ⟨by (with_reducible repeat (first | apply Kd.R_alloc | apply Kd.R_drewN | apply Kd.R_drew)); exact HO_6.out⟩, ⟨by (with_reducible repeat (first | apply Kd.R_alloc | apply Kd.R_drewN | apply Kd.R_drew)); exact HO_8.out⟩, ⟨by (with_reducible repeat (first | apply Kd.R_alloc | apply Kd.R_drewN | apply Kd.R_drew)); exact HO_10.out⟩, ⟨by (with_reducible repeat (first | apply Kd.R_alloc | apply Kd.R_drewN | apply Kd.R_drew)); exact HO_18.out⟩, ⟨by (with_reducible repeat (first | apply Kd.R_alloc | apply Kd.R_drewN | apply Kd.R_drew)); exact HO_19.out⟩, ⟨by (with_reducible repeat (first | refine blk_drewN ?_ _ | refine blk_drew ?_ | refine blk_alloc ?_ _)); exact BK172.out⟩, ⟨by (with_reducible repeat (first | refine blk_drewN ?_ _ | refine blk_drew ?_ | refine blk_alloc ?_ _)); exact BK178.out⟩, ⟨by repeat (first | (with_reducible first | exact HB.out | apply below_alloc | apply pw_below_drewN | apply below_drew1 | refine below_set ?_ GE172.out | refine below_set ?_ GE178.out) | exact HB.out)⟩⟩
                ·as_aux_lemma =>
                 rw [if_neg c65] at H
                 have c65b0 : ((t206 == 0) != t183) = false := by simpa using c65
                 (try (have c65b1 : decide ((t206 == 0) = t183) = true := by simpa using c65))
                 (try (have c65b2 : ((t206 == 0) == t183) = true := by simpa using c65))
                 clear c65
                 (first | rw [c65b0] | (simp only [i64_w, i32_w]; rw [c65b0]) | skip)
                 replace H := Option.bind_eq_some_iff.mp H
                 obtain ⟨t207, A670, H⟩ := H
                 replace H : (if t207 = x15_31 then ((beaconlaw22_num.f t189).bind fun t208 => (if t208 = x16_31 then ((beaconlaw22_num.f t194).bind fun t209 => (if t209 = x17_31 then ((beaconref0_EqOffers.f kj31 t184 x18_31).bind fun t210 => (if t210 = true then ((beaconref0_EqOffers.f kj31 t188 x19_31).bind fun t211 => (if t211 = true then (if t192 = x20_31 then (if t193 = x21_31 then ((beaconref0_EqOffers.f kj31 t180 x3_2).bind fun t212 => (beaconlaw22_SizeExact.j6 kj31 x3_2 x4_2 t180 t184 t188 x15_31 x16_31 x18_31 x19_31 (!t212) l0_0 l0_1 x179000_17 ((rd_T75 l0_1 x4_2).f1) ((rd_T75 l0_1 x4_2).f2))) else (beaconlaw22_SizeExact.j6 kj31 x3_2 x4_2 t180 t184 t188 x15_31 x16_31 x18_31 x19_31 true l0_0 l0_1 x179000_17 ((rd_T75 l0_1 x4_2).f1) ((rd_T75 l0_1 x4_2).f2))) else (beaconlaw22_SizeExact.j6 kj31 x3_2 x4_2 t180 t184 t188 x15_31 x16_31 x18_31 x19_31 true l0_0 l0_1 x179000_17 ((rd_T75 l0_1 x4_2).f1) ((rd_T75 l0_1 x4_2).f2))) else (beaconlaw22_SizeExact.j6 kj31 x3_2 x4_2 t180 t184 t188 x15_31 x16_31 x18_31 x19_31 true l0_0 l0_1 x179000_17 ((rd_T75 l0_1 x4_2).f1) ((rd_T75 l0_1 x4_2).f2)))) else (beaconlaw22_SizeExact.j6 kj31 x3_2 x4_2 t180 t184 t188 x15_31 x16_31 x18_31 x19_31 true l0_0 l0_1 x179000_17 ((rd_T75 l0_1 x4_2).f1) ((rd_T75 l0_1 x4_2).f2)))) else (beaconlaw22_SizeExact.j6 kj31 x3_2 x4_2 t180 t184 t188 x15_31 x16_31 x18_31 x19_31 true l0_0 l0_1 x179000_17 ((rd_T75 l0_1 x4_2).f1) ((rd_T75 l0_1 x4_2).f2)))) else (beaconlaw22_SizeExact.j6 kj31 x3_2 x4_2 t180 t184 t188 x15_31 x16_31 x18_31 x19_31 true l0_0 l0_1 x179000_17 ((rd_T75 l0_1 x4_2).f1) ((rd_T75 l0_1 x4_2).f2)))) else (beaconlaw22_SizeExact.j6 kj31 x3_2 x4_2 t180 t184 t188 x15_31 x16_31 x18_31 x19_31 true l0_0 l0_1 x179000_17 ((rd_T75 l0_1 x4_2).f1) ((rd_T75 l0_1 x4_2).f2))) = some r := H
                 have A67 := Aside0.mk A670
                 clear A670
                 by_cases c68 : t207 = x15_31
                 ·as_aux_lemma =>
                  rw [if_pos c68] at H
                  have c68b0 : (t207 == x15_31) = true := beq_iff_eq.mpr c68
                  have c68b1 : (t207 != x15_31) = false := bne_eq_false_iff_eq.mpr c68
                  clear c68
                  replace H := Option.bind_eq_some_iff.mp H
                  obtain ⟨t208, A690, H⟩ := H
                  replace H : (if t208 = x16_31 then ((beaconlaw22_num.f t194).bind fun t209 => (if t209 = x17_31 then ((beaconref0_EqOffers.f kj31 t184 x18_31).bind fun t210 => (if t210 = true then ((beaconref0_EqOffers.f kj31 t188 x19_31).bind fun t211 => (if t211 = true then (if t192 = x20_31 then (if t193 = x21_31 then ((beaconref0_EqOffers.f kj31 t180 x3_2).bind fun t212 => (beaconlaw22_SizeExact.j6 kj31 x3_2 x4_2 t180 t184 t188 x15_31 x16_31 x18_31 x19_31 (!t212) l0_0 l0_1 x179000_17 ((rd_T75 l0_1 x4_2).f1) ((rd_T75 l0_1 x4_2).f2))) else (beaconlaw22_SizeExact.j6 kj31 x3_2 x4_2 t180 t184 t188 x15_31 x16_31 x18_31 x19_31 true l0_0 l0_1 x179000_17 ((rd_T75 l0_1 x4_2).f1) ((rd_T75 l0_1 x4_2).f2))) else (beaconlaw22_SizeExact.j6 kj31 x3_2 x4_2 t180 t184 t188 x15_31 x16_31 x18_31 x19_31 true l0_0 l0_1 x179000_17 ((rd_T75 l0_1 x4_2).f1) ((rd_T75 l0_1 x4_2).f2))) else (beaconlaw22_SizeExact.j6 kj31 x3_2 x4_2 t180 t184 t188 x15_31 x16_31 x18_31 x19_31 true l0_0 l0_1 x179000_17 ((rd_T75 l0_1 x4_2).f1) ((rd_T75 l0_1 x4_2).f2)))) else (beaconlaw22_SizeExact.j6 kj31 x3_2 x4_2 t180 t184 t188 x15_31 x16_31 x18_31 x19_31 true l0_0 l0_1 x179000_17 ((rd_T75 l0_1 x4_2).f1) ((rd_T75 l0_1 x4_2).f2)))) else (beaconlaw22_SizeExact.j6 kj31 x3_2 x4_2 t180 t184 t188 x15_31 x16_31 x18_31 x19_31 true l0_0 l0_1 x179000_17 ((rd_T75 l0_1 x4_2).f1) ((rd_T75 l0_1 x4_2).f2)))) else (beaconlaw22_SizeExact.j6 kj31 x3_2 x4_2 t180 t184 t188 x15_31 x16_31 x18_31 x19_31 true l0_0 l0_1 x179000_17 ((rd_T75 l0_1 x4_2).f1) ((rd_T75 l0_1 x4_2).f2))) = some r := H
                  have A69 := Aside0.mk A690
                  clear A690
                  by_cases c70 : t208 = x16_31
                  ·as_aux_lemma =>
                   rw [if_pos c70] at H
                   have c70b0 : (t208 == x16_31) = true := beq_iff_eq.mpr c70
                   have c70b1 : (t208 != x16_31) = false := bne_eq_false_iff_eq.mpr c70
                   clear c70
                   replace H := Option.bind_eq_some_iff.mp H
                   obtain ⟨t209, A710, H⟩ := H
                   replace H : (if t209 = x17_31 then ((beaconref0_EqOffers.f kj31 t184 x18_31).bind fun t210 => (if t210 = true then ((beaconref0_EqOffers.f kj31 t188 x19_31).bind fun t211 => (if t211 = true then (if t192 = x20_31 then (if t193 = x21_31 then ((beaconref0_EqOffers.f kj31 t180 x3_2).bind fun t212 => (beaconlaw22_SizeExact.j6 kj31 x3_2 x4_2 t180 t184 t188 x15_31 x16_31 x18_31 x19_31 (!t212) l0_0 l0_1 x179000_17 ((rd_T75 l0_1 x4_2).f1) ((rd_T75 l0_1 x4_2).f2))) else (beaconlaw22_SizeExact.j6 kj31 x3_2 x4_2 t180 t184 t188 x15_31 x16_31 x18_31 x19_31 true l0_0 l0_1 x179000_17 ((rd_T75 l0_1 x4_2).f1) ((rd_T75 l0_1 x4_2).f2))) else (beaconlaw22_SizeExact.j6 kj31 x3_2 x4_2 t180 t184 t188 x15_31 x16_31 x18_31 x19_31 true l0_0 l0_1 x179000_17 ((rd_T75 l0_1 x4_2).f1) ((rd_T75 l0_1 x4_2).f2))) else (beaconlaw22_SizeExact.j6 kj31 x3_2 x4_2 t180 t184 t188 x15_31 x16_31 x18_31 x19_31 true l0_0 l0_1 x179000_17 ((rd_T75 l0_1 x4_2).f1) ((rd_T75 l0_1 x4_2).f2)))) else (beaconlaw22_SizeExact.j6 kj31 x3_2 x4_2 t180 t184 t188 x15_31 x16_31 x18_31 x19_31 true l0_0 l0_1 x179000_17 ((rd_T75 l0_1 x4_2).f1) ((rd_T75 l0_1 x4_2).f2)))) else (beaconlaw22_SizeExact.j6 kj31 x3_2 x4_2 t180 t184 t188 x15_31 x16_31 x18_31 x19_31 true l0_0 l0_1 x179000_17 ((rd_T75 l0_1 x4_2).f1) ((rd_T75 l0_1 x4_2).f2))) = some r := H
                   have A71 := Aside0.mk A710
                   clear A710
                   by_cases c72 : t209 = x17_31
                   ·as_aux_lemma =>
                    rw [if_pos c72] at H
                    have c72b0 : (t209 == x17_31) = true := beq_iff_eq.mpr c72
                    have c72b1 : (t209 != x17_31) = false := bne_eq_false_iff_eq.mpr c72
                    clear c72
                    replace H := Option.bind_eq_some_iff.mp H
                    obtain ⟨t210, A730, H⟩ := H
                    replace H : (if t210 = true then ((beaconref0_EqOffers.f kj31 t188 x19_31).bind fun t211 => (if t211 = true then (if t192 = x20_31 then (if t193 = x21_31 then ((beaconref0_EqOffers.f kj31 t180 x3_2).bind fun t212 => (beaconlaw22_SizeExact.j6 kj31 x3_2 x4_2 t180 t184 t188 x15_31 x16_31 x18_31 x19_31 (!t212) l0_0 l0_1 x179000_17 ((rd_T75 l0_1 x4_2).f1) ((rd_T75 l0_1 x4_2).f2))) else (beaconlaw22_SizeExact.j6 kj31 x3_2 x4_2 t180 t184 t188 x15_31 x16_31 x18_31 x19_31 true l0_0 l0_1 x179000_17 ((rd_T75 l0_1 x4_2).f1) ((rd_T75 l0_1 x4_2).f2))) else (beaconlaw22_SizeExact.j6 kj31 x3_2 x4_2 t180 t184 t188 x15_31 x16_31 x18_31 x19_31 true l0_0 l0_1 x179000_17 ((rd_T75 l0_1 x4_2).f1) ((rd_T75 l0_1 x4_2).f2))) else (beaconlaw22_SizeExact.j6 kj31 x3_2 x4_2 t180 t184 t188 x15_31 x16_31 x18_31 x19_31 true l0_0 l0_1 x179000_17 ((rd_T75 l0_1 x4_2).f1) ((rd_T75 l0_1 x4_2).f2)))) else (beaconlaw22_SizeExact.j6 kj31 x3_2 x4_2 t180 t184 t188 x15_31 x16_31 x18_31 x19_31 true l0_0 l0_1 x179000_17 ((rd_T75 l0_1 x4_2).f1) ((rd_T75 l0_1 x4_2).f2))) = some r := H
                    have A73 := Aside0.mk A730
                    clear A730
                    by_cases c74 : t210 = true
                    ·subst c74
                     have H1 : ((beaconref0_EqOffers.f kj31 t188 x19_31).bind fun t211 => (if t211 = true then (if t192 = x20_31 then (if t193 = x21_31 then ((beaconref0_EqOffers.f kj31 t180 x3_2).bind fun t212 => (beaconlaw22_SizeExact.j6 kj31 x3_2 x4_2 t180 t184 t188 x15_31 x16_31 x18_31 x19_31 (!t212) l0_0 l0_1 x179000_17 ((rd_T75 l0_1 x4_2).f1) ((rd_T75 l0_1 x4_2).f2))) else (beaconlaw22_SizeExact.j6 kj31 x3_2 x4_2 t180 t184 t188 x15_31 x16_31 x18_31 x19_31 true l0_0 l0_1 x179000_17 ((rd_T75 l0_1 x4_2).f1) ((rd_T75 l0_1 x4_2).f2))) else (beaconlaw22_SizeExact.j6 kj31 x3_2 x4_2 t180 t184 t188 x15_31 x16_31 x18_31 x19_31 true l0_0 l0_1 x179000_17 ((rd_T75 l0_1 x4_2).f1) ((rd_T75 l0_1 x4_2).f2))) else (beaconlaw22_SizeExact.j6 kj31 x3_2 x4_2 t180 t184 t188 x15_31 x16_31 x18_31 x19_31 true l0_0 l0_1 x179000_17 ((rd_T75 l0_1 x4_2).f1) ((rd_T75 l0_1 x4_2).f2)))) = some r := by rw [if_pos rfl] at H; exact H
                     clear H
                     have H := H1
                     clear H1
                     replace H := Option.bind_eq_some_iff.mp H
                     obtain ⟨t211, A750, H⟩ := H
                     replace H : (if t211 = true then (if t192 = x20_31 then (if t193 = x21_31 then ((beaconref0_EqOffers.f kj31 t180 x3_2).bind fun t212 => (beaconlaw22_SizeExact.j6 kj31 x3_2 x4_2 t180 t184 t188 x15_31 x16_31 x18_31 x19_31 (!t212) l0_0 l0_1 x179000_17 ((rd_T75 l0_1 x4_2).f1) ((rd_T75 l0_1 x4_2).f2))) else (beaconlaw22_SizeExact.j6 kj31 x3_2 x4_2 t180 t184 t188 x15_31 x16_31 x18_31 x19_31 true l0_0 l0_1 x179000_17 ((rd_T75 l0_1 x4_2).f1) ((rd_T75 l0_1 x4_2).f2))) else (beaconlaw22_SizeExact.j6 kj31 x3_2 x4_2 t180 t184 t188 x15_31 x16_31 x18_31 x19_31 true l0_0 l0_1 x179000_17 ((rd_T75 l0_1 x4_2).f1) ((rd_T75 l0_1 x4_2).f2))) else (beaconlaw22_SizeExact.j6 kj31 x3_2 x4_2 t180 t184 t188 x15_31 x16_31 x18_31 x19_31 true l0_0 l0_1 x179000_17 ((rd_T75 l0_1 x4_2).f1) ((rd_T75 l0_1 x4_2).f2))) = some r := H
                     have A75 := Aside0.mk A750
                     clear A750
                     by_cases c76 : t211 = true
                     ·subst c76
                      have H1 : (if t192 = x20_31 then (if t193 = x21_31 then ((beaconref0_EqOffers.f kj31 t180 x3_2).bind fun t212 => (beaconlaw22_SizeExact.j6 kj31 x3_2 x4_2 t180 t184 t188 x15_31 x16_31 x18_31 x19_31 (!t212) l0_0 l0_1 x179000_17 ((rd_T75 l0_1 x4_2).f1) ((rd_T75 l0_1 x4_2).f2))) else (beaconlaw22_SizeExact.j6 kj31 x3_2 x4_2 t180 t184 t188 x15_31 x16_31 x18_31 x19_31 true l0_0 l0_1 x179000_17 ((rd_T75 l0_1 x4_2).f1) ((rd_T75 l0_1 x4_2).f2))) else (beaconlaw22_SizeExact.j6 kj31 x3_2 x4_2 t180 t184 t188 x15_31 x16_31 x18_31 x19_31 true l0_0 l0_1 x179000_17 ((rd_T75 l0_1 x4_2).f1) ((rd_T75 l0_1 x4_2).f2))) = some r := by rw [if_pos rfl] at H; exact H
                      clear H
                      have H := H1
                      clear H1
                      by_cases c77 : t192 = x20_31
                      ·as_aux_lemma =>
                       rw [if_pos c77] at H
                       have c77b0 : (t192 == x20_31) = true := beq_iff_eq.mpr c77
                       have c77b1 : (t192 != x20_31) = false := bne_eq_false_iff_eq.mpr c77
                       clear c77
                       by_cases c78 : t193 = x21_31
                       ·as_aux_lemma =>
                        rw [if_pos c78] at H
                        have c78b0 : (t193 == x21_31) = true := beq_iff_eq.mpr c78
                        have c78b1 : (t193 != x21_31) = false := bne_eq_false_iff_eq.mpr c78
                        clear c78
                        replace H := Option.bind_eq_some_iff.mp H
                        obtain ⟨t212, A790, H⟩ := H
                        replace H : (beaconlaw22_SizeExact.j6 kj31 x3_2 x4_2 t180 t184 t188 x15_31 x16_31 x18_31 x19_31 (!t212) l0_0 l0_1 x179000_17 ((rd_T75 l0_1 x4_2).f1) ((rd_T75 l0_1 x4_2).f2)) = some r := H
                        have A79 := Aside0.mk A790
                        clear A790
                        have H' := Aside0.mk H
                        clear H
                        go_wp2_with (first | ((with_reducible refine gate_callee (f := 51) rfl ?_); refine goesL_ (some 103) rfl rfl Try.func51 (by kernel_rfl) rfl #[.slice Ao37 t180.length co37] rfl (by (try simp only [List.map_toArray, List.map_cons, List.map_nil]); first | done | rfl | (simp only [List.length_drop, List.length_take]; rfl)) ?_; (with_reducible refine (size_Check.calls kj31 _ _ t180 t205 _ ?side1 ?side2 A63.out).mono ?_); (case side1 => repeat (first | exact (Kd.R_reads' HO_6.out).2.2 | (with_reducible refine Kd.C_alloc ?_ _) | (with_reducible refine Kd.C_drewN ?_ _) | (with_reducible refine Kd.C_drew ?_))); (case side2 => exact (Kd.R_reads' HO_6.out).2.1); rintro e w80 ⟨rfl, hb⟩; refine ⟨_, rfl, ?_⟩; have n0_ := Aside0.mk (Kd.R_below (by (with_reducible repeat (first | apply Kd.R_alloc | apply Kd.R_drewN | apply Kd.R_drew)); exact HO_3.out) hb); have n1_ := Aside0.mk (Kd.R_below (by (with_reducible repeat (first | apply Kd.R_alloc | apply Kd.R_drewN | apply Kd.R_drew)); exact HO_6.out) hb); have n2_ := Aside0.mk (Kd.R_below (by (with_reducible repeat (first | apply Kd.R_alloc | apply Kd.R_drewN | apply Kd.R_drew)); exact HO_8.out) hb); have n3_ := Aside0.mk (Kd.R_below (by (with_reducible repeat (first | apply Kd.R_alloc | apply Kd.R_drewN | apply Kd.R_drew)); exact HO_10.out) hb); have n4_ := Aside0.mk (Kd.R_below (by (with_reducible repeat (first | apply Kd.R_alloc | apply Kd.R_drewN | apply Kd.R_drew)); exact HO_18.out) hb); have n5_ := Aside0.mk (Kd.R_below (by (with_reducible repeat (first | apply Kd.R_alloc | apply Kd.R_drewN | apply Kd.R_drew)); exact HO_19.out) hb); have n6_ := Aside0.mk (blk_below (g := gb172) (o := .cells #[.slice A0_0 l0_0.length c0_0, .slice (some ad177) l0_1.length c0_1] 73 (0, 0)) (by (with_reducible repeat (first | refine blk_drewN ?_ _ | refine blk_drew ?_ | refine blk_alloc ?_ _)); exact BK172.out) hb); have n7_ := Aside0.mk (blk_below (g := gb178) (o := .cells #[.int .i64 x179000_17, .int .i64 ((rd_T75 l0_1 x4_2).f1), .int .i64 ((rd_T75 l0_1 x4_2).f2)] 75 (0, 0)) (by (with_reducible repeat (first | refine blk_drewN ?_ _ | refine blk_drew ?_ | refine blk_alloc ?_ _)); exact BK178.out) hb); have n8_ := Aside0.mk (below_step (by repeat (first | (with_reducible first | exact HB.out | apply below_alloc | apply pw_below_drewN | apply below_drew1 | refine below_set ?_ GE172.out | refine below_set ?_ GE178.out) | exact HB.out)) hb); clear HO_3; clear HO_6; clear HO_8; clear HO_10; clear HO_18; clear HO_19; clear BK172; clear BK178; clear HB; have HO_3 := n0_; have HO_6 := n1_; have HO_8 := n2_; have HO_10 := n3_; have HO_18 := n4_; have HO_19 := n5_; have BK172 := n6_; have BK178 := n7_; have HB := n8_; clear n0_ n1_ n2_ n3_ n4_ n5_ n6_ n7_ n8_; (try clear hb); (try clear hb2); (try clear hk); (try clear hi)) | ((with_reducible refine gate_callee (f := 42) rfl ?_); refine goesL_ (some 104) rfl rfl Try.func42 (by kernel_rfl) rfl #[.int .i64 t205] rfl (by (try simp only [List.map_toArray, List.map_cons, List.map_nil]); first | done | rfl | (simp only [List.length_drop, List.length_take]; rfl)) ?_; (with_reducible refine (beaconlaw22_num.calls t205 t206 _ A64.out).mono ?_); rintro e w' ⟨rfl, ⟨nd, rfl⟩⟩; refine ⟨_, rfl, ?_⟩) | (go_at_call 42; (with_reducible refine (beaconlaw22_num.calls t187 t207 _ A67.out).mono ?_); rintro e w' ⟨rfl, ⟨nd, rfl⟩⟩) | (go_at_call 42; (with_reducible refine (beaconlaw22_num.calls t189 t208 _ A69.out).mono ?_); rintro e w' ⟨rfl, ⟨nd, rfl⟩⟩) | (go_at_call 42; (with_reducible refine (beaconlaw22_num.calls t194 t209 _ A71.out).mono ?_); rintro e w' ⟨rfl, ⟨nd, rfl⟩⟩; obtain ⟨Ao81, co81, eo81⟩ := Kd.R_slice HO_8.out; subst eo81; obtain ⟨Ao82, co82, eo82⟩ := Kd.R_slice HO_18.out; subst eo82) | (go_at_call 52; (with_reducible refine (beaconref0_EqOffers.calls kj31 _ _ t184 _ _ x18_31 true _ ?side1 ?side2 ?side3 ?side4 A73.out).mono ?_); (case side1 => repeat (first | exact (Kd.R_reads' HO_8.out).2.2 | (with_reducible refine Kd.C_alloc ?_ _) | (with_reducible refine Kd.C_drewN ?_ _) | (with_reducible refine Kd.C_drew ?_))); (case side2 => exact (Kd.R_reads' HO_8.out).2.1); (case side3 => repeat (first | exact (Kd.R_reads' HO_18.out).2.2 | (with_reducible refine Kd.C_alloc ?_ _) | (with_reducible refine Kd.C_drewN ?_ _) | (with_reducible refine Kd.C_drew ?_))); (case side4 => exact (Kd.R_reads' HO_18.out).2.1); rintro e w' ⟨rfl, ⟨nd, rfl⟩⟩; obtain ⟨Ao83, co83, eo83⟩ := Kd.R_slice HO_10.out; subst eo83; obtain ⟨Ao84, co84, eo84⟩ := Kd.R_slice HO_19.out; subst eo84) | (go_at_call 52; (with_reducible refine (beaconref0_EqOffers.calls kj31 _ _ t188 _ _ x19_31 true _ ?side1 ?side2 ?side3 ?side4 A75.out).mono ?_); (case side1 => repeat (first | exact (Kd.R_reads' HO_10.out).2.2 | (with_reducible refine Kd.C_alloc ?_ _) | (with_reducible refine Kd.C_drewN ?_ _) | (with_reducible refine Kd.C_drew ?_))); (case side2 => exact (Kd.R_reads' HO_10.out).2.1); (case side3 => repeat (first | exact (Kd.R_reads' HO_19.out).2.2 | (with_reducible refine Kd.C_alloc ?_ _) | (with_reducible refine Kd.C_drewN ?_ _) | (with_reducible refine Kd.C_drew ?_))); (case side4 => exact (Kd.R_reads' HO_19.out).2.1); rintro e w' ⟨rfl, ⟨nd, rfl⟩⟩) | (go_at_call 52; (with_reducible refine (beaconref0_EqOffers.calls kj31 _ _ t180 _ _ x3_2 t212 _ ?side1 ?side2 ?side3 ?side4 A79.out).mono ?_); (case side1 => repeat (first | exact (Kd.R_reads' HO_6.out).2.2 | (with_reducible refine Kd.C_alloc ?_ _) | (with_reducible refine Kd.C_drewN ?_ _) | (with_reducible refine Kd.C_drew ?_))); (case side2 => exact (Kd.R_reads' HO_6.out).2.1); (case side3 => repeat (first | exact (Kd.R_reads' HO_3.out).2.2 | (with_reducible refine Kd.C_alloc ?_ _) | (with_reducible refine Kd.C_drewN ?_ _) | (with_reducible refine Kd.C_drew ?_))); (case side4 => exact (Kd.R_reads' HO_3.out).2.1); rintro e w' ⟨rfl, ⟨nd, rfl⟩⟩))
                        go_meet
                        case rel => exact ⟨_, (!t212), (by first | rfl | (simp; done) | (simp [*]; done)), H', ⟨by have := HJ1.out; have := HK2.out; have := HJ10.out; have := HJ17.out; have := HJ31.out; first | omega | exact Nat.le_refl _⟩, ⟨by (with_reducible repeat (first | apply Kd.R_alloc | apply Kd.R_drewN | apply Kd.R_drew)); exact HO_3.out⟩, ⟨by (with_reducible repeat (first | apply Kd.R_alloc | apply Kd.R_drewN | apply Kd.R_drew)); exact HO_6.out⟩, ⟨by (with_reducible repeat (first | apply Kd.R_alloc | apply Kd.R_drewN | apply Kd.R_drew)); exact HO_8.out⟩, ⟨by (with_reducible repeat (first | apply Kd.R_alloc | apply Kd.R_drewN | apply Kd.R_drew)); exact HO_10.out⟩, ⟨by (with_reducible repeat (first | apply Kd.R_alloc | apply Kd.R_drewN | apply Kd.R_drew)); exact HO_18.out⟩, ⟨by (with_reducible repeat (first | apply Kd.R_alloc | apply Kd.R_drewN | apply Kd.R_drew)); exact HO_19.out⟩, ⟨by (with_reducible repeat (first | refine blk_drewN ?_ _ | refine blk_drew ?_ | refine blk_alloc ?_ _)); exact BK172.out⟩, ⟨by (with_reducible repeat (first | refine blk_drewN ?_ _ | refine blk_drew ?_ | refine blk_alloc ?_ _)); exact BK178.out⟩, ⟨by repeat (first | (with_reducible first | exact HB.out | apply below_alloc | apply pw_below_drewN | apply below_drew1 | refine below_set ?_ GE172.out | refine below_set ?_ GE178.out) | exact HB.out)⟩⟩
                       ·as_aux_lemma =>
                        rw [if_neg c78] at H
                        have c78b0 : (t193 == x21_31) = false := beq_eq_false_iff_ne.mpr c78
                        have c78b1 : (t193 != x21_31) = true := bne_iff_ne.mpr c78
                        have H' := Aside0.mk H
                        clear H
                        go_wp2_with (first | ((with_reducible refine gate_callee (f := 51) rfl ?_); refine goesL_ (some 103) rfl rfl Try.func51 (by kernel_rfl) rfl #[.slice Ao37 t180.length co37] rfl (by (try simp only [List.map_toArray, List.map_cons, List.map_nil]); first | done | rfl | (simp only [List.length_drop, List.length_take]; rfl)) ?_; (with_reducible refine (size_Check.calls kj31 _ _ t180 t205 _ ?side1 ?side2 A63.out).mono ?_); (case side1 => repeat (first | exact (Kd.R_reads' HO_6.out).2.2 | (with_reducible refine Kd.C_alloc ?_ _) | (with_reducible refine Kd.C_drewN ?_ _) | (with_reducible refine Kd.C_drew ?_))); (case side2 => exact (Kd.R_reads' HO_6.out).2.1); rintro e w85 ⟨rfl, hb⟩; refine ⟨_, rfl, ?_⟩; have n0_ := Aside0.mk (Kd.R_below (by (with_reducible repeat (first | apply Kd.R_alloc | apply Kd.R_drewN | apply Kd.R_drew)); exact HO_3.out) hb); have n1_ := Aside0.mk (Kd.R_below (by (with_reducible repeat (first | apply Kd.R_alloc | apply Kd.R_drewN | apply Kd.R_drew)); exact HO_6.out) hb); have n2_ := Aside0.mk (Kd.R_below (by (with_reducible repeat (first | apply Kd.R_alloc | apply Kd.R_drewN | apply Kd.R_drew)); exact HO_8.out) hb); have n3_ := Aside0.mk (Kd.R_below (by (with_reducible repeat (first | apply Kd.R_alloc | apply Kd.R_drewN | apply Kd.R_drew)); exact HO_10.out) hb); have n4_ := Aside0.mk (Kd.R_below (by (with_reducible repeat (first | apply Kd.R_alloc | apply Kd.R_drewN | apply Kd.R_drew)); exact HO_18.out) hb); have n5_ := Aside0.mk (Kd.R_below (by (with_reducible repeat (first | apply Kd.R_alloc | apply Kd.R_drewN | apply Kd.R_drew)); exact HO_19.out) hb); have n6_ := Aside0.mk (blk_below (g := gb172) (o := .cells #[.slice A0_0 l0_0.length c0_0, .slice (some ad177) l0_1.length c0_1] 73 (0, 0)) (by (with_reducible repeat (first | refine blk_drewN ?_ _ | refine blk_drew ?_ | refine blk_alloc ?_ _)); exact BK172.out) hb); have n7_ := Aside0.mk (blk_below (g := gb178) (o := .cells #[.int .i64 x179000_17, .int .i64 ((rd_T75 l0_1 x4_2).f1), .int .i64 ((rd_T75 l0_1 x4_2).f2)] 75 (0, 0)) (by (with_reducible repeat (first | refine blk_drewN ?_ _ | refine blk_drew ?_ | refine blk_alloc ?_ _)); exact BK178.out) hb); have n8_ := Aside0.mk (below_step (by repeat (first | (with_reducible first | exact HB.out | apply below_alloc | apply pw_below_drewN | apply below_drew1 | refine below_set ?_ GE172.out | refine below_set ?_ GE178.out) | exact HB.out)) hb); clear HO_3; clear HO_6; clear HO_8; clear HO_10; clear HO_18; clear HO_19; clear BK172; clear BK178; clear HB; have HO_3 := n0_; have HO_6 := n1_; have HO_8 := n2_; have HO_10 := n3_; have HO_18 := n4_; have HO_19 := n5_; have BK172 := n6_; have BK178 := n7_; have HB := n8_; clear n0_ n1_ n2_ n3_ n4_ n5_ n6_ n7_ n8_; (try clear hb); (try clear hb2); (try clear hk); (try clear hi)) | ((with_reducible refine gate_callee (f := 42) rfl ?_); refine goesL_ (some 104) rfl rfl Try.func42 (by kernel_rfl) rfl #[.int .i64 t205] rfl (by (try simp only [List.map_toArray, List.map_cons, List.map_nil]); first | done | rfl | (simp only [List.length_drop, List.length_take]; rfl)) ?_; (with_reducible refine (beaconlaw22_num.calls t205 t206 _ A64.out).mono ?_); rintro e w' ⟨rfl, ⟨nd, rfl⟩⟩; refine ⟨_, rfl, ?_⟩) | (go_at_call 42; (with_reducible refine (beaconlaw22_num.calls t187 t207 _ A67.out).mono ?_); rintro e w' ⟨rfl, ⟨nd, rfl⟩⟩) | (go_at_call 42; (with_reducible refine (beaconlaw22_num.calls t189 t208 _ A69.out).mono ?_); rintro e w' ⟨rfl, ⟨nd, rfl⟩⟩) | (go_at_call 42; (with_reducible refine (beaconlaw22_num.calls t194 t209 _ A71.out).mono ?_); rintro e w' ⟨rfl, ⟨nd, rfl⟩⟩; obtain ⟨Ao86, co86, eo86⟩ := Kd.R_slice HO_8.out; subst eo86; obtain ⟨Ao87, co87, eo87⟩ := Kd.R_slice HO_18.out; subst eo87) | (go_at_call 52; (with_reducible refine (beaconref0_EqOffers.calls kj31 _ _ t184 _ _ x18_31 true _ ?side1 ?side2 ?side3 ?side4 A73.out).mono ?_); (case side1 => repeat (first | exact (Kd.R_reads' HO_8.out).2.2 | (with_reducible refine Kd.C_alloc ?_ _) | (with_reducible refine Kd.C_drewN ?_ _) | (with_reducible refine Kd.C_drew ?_))); (case side2 => exact (Kd.R_reads' HO_8.out).2.1); (case side3 => repeat (first | exact (Kd.R_reads' HO_18.out).2.2 | (with_reducible refine Kd.C_alloc ?_ _) | (with_reducible refine Kd.C_drewN ?_ _) | (with_reducible refine Kd.C_drew ?_))); (case side4 => exact (Kd.R_reads' HO_18.out).2.1); rintro e w' ⟨rfl, ⟨nd, rfl⟩⟩; obtain ⟨Ao88, co88, eo88⟩ := Kd.R_slice HO_10.out; subst eo88; obtain ⟨Ao89, co89, eo89⟩ := Kd.R_slice HO_19.out; subst eo89) | (go_at_call 52; (with_reducible refine (beaconref0_EqOffers.calls kj31 _ _ t188 _ _ x19_31 true _ ?side1 ?side2 ?side3 ?side4 A75.out).mono ?_); (case side1 => repeat (first | exact (Kd.R_reads' HO_10.out).2.2 | (with_reducible refine Kd.C_alloc ?_ _) | (with_reducible refine Kd.C_drewN ?_ _) | (with_reducible refine Kd.C_drew ?_))); (case side2 => exact (Kd.R_reads' HO_10.out).2.1); (case side3 => repeat (first | exact (Kd.R_reads' HO_19.out).2.2 | (with_reducible refine Kd.C_alloc ?_ _) | (with_reducible refine Kd.C_drewN ?_ _) | (with_reducible refine Kd.C_drew ?_))); (case side4 => exact (Kd.R_reads' HO_19.out).2.1); rintro e w' ⟨rfl, ⟨nd, rfl⟩⟩))
                        go_meet
                        case rel => exact ⟨_, (true), (by first | rfl | (simp; done) | (simp [*]; done)), H', ⟨by have := HJ1.out; have := HK2.out; have := HJ10.out; have := HJ17.out; have := HJ31.out; first | omega | exact Nat.le_refl _⟩, ⟨by (with_reducible repeat (first | apply Kd.R_alloc | apply Kd.R_drewN | apply Kd.R_drew)); exact HO_3.out⟩, ⟨by (with_reducible repeat (first | apply Kd.R_alloc | apply Kd.R_drewN | apply Kd.R_drew)); exact HO_6.out⟩, ⟨by (with_reducible repeat (first | apply Kd.R_alloc | apply Kd.R_drewN | apply Kd.R_drew)); exact HO_8.out⟩, ⟨by (with_reducible repeat (first | apply Kd.R_alloc | apply Kd.R_drewN | apply Kd.R_drew)); exact HO_10.out⟩, ⟨by (with_reducible repeat (first | apply Kd.R_alloc | apply Kd.R_drewN | apply Kd.R_drew)); exact HO_18.out⟩, ⟨by (with_reducible repeat (first | apply Kd.R_alloc | apply Kd.R_drewN | apply Kd.R_drew)); exact HO_19.out⟩, ⟨by (with_reducible repeat (first | refine blk_drewN ?_ _ | refine blk_drew ?_ | refine blk_alloc ?_ _)); exact BK172.out⟩, ⟨by (with_reducible repeat (first | refine blk_drewN ?_ _ | refine blk_drew ?_ | refine blk_alloc ?_ _)); exact BK178.out⟩, ⟨by repeat (first | (with_reducible first | exact HB.out | apply below_alloc | apply pw_below_drewN | apply below_drew1 | refine below_set ?_ GE172.out | refine below_set ?_ GE178.out) | exact HB.out)⟩⟩
                      ·as_aux_lemma =>
                       rw [if_neg c77] at H
                       have c77b0 : (t192 == x20_31) = false := beq_eq_false_iff_ne.mpr c77
                       have c77b1 : (t192 != x20_31) = true := bne_iff_ne.mpr c77
                       have H' := Aside0.mk H
                       clear H
                       go_wp2_with (first | ((with_reducible refine gate_callee (f := 51) rfl ?_); refine goesL_ (some 103) rfl rfl Try.func51 (by kernel_rfl) rfl #[.slice Ao37 t180.length co37] rfl (by (try simp only [List.map_toArray, List.map_cons, List.map_nil]); first | done | rfl | (simp only [List.length_drop, List.length_take]; rfl)) ?_; (with_reducible refine (size_Check.calls kj31 _ _ t180 t205 _ ?side1 ?side2 A63.out).mono ?_); (case side1 => repeat (first | exact (Kd.R_reads' HO_6.out).2.2 | (with_reducible refine Kd.C_alloc ?_ _) | (with_reducible refine Kd.C_drewN ?_ _) | (with_reducible refine Kd.C_drew ?_))); (case side2 => exact (Kd.R_reads' HO_6.out).2.1); rintro e w90 ⟨rfl, hb⟩; refine ⟨_, rfl, ?_⟩; have n0_ := Aside0.mk (Kd.R_below (by (with_reducible repeat (first | apply Kd.R_alloc | apply Kd.R_drewN | apply Kd.R_drew)); exact HO_3.out) hb); have n1_ := Aside0.mk (Kd.R_below (by (with_reducible repeat (first | apply Kd.R_alloc | apply Kd.R_drewN | apply Kd.R_drew)); exact HO_6.out) hb); have n2_ := Aside0.mk (Kd.R_below (by (with_reducible repeat (first | apply Kd.R_alloc | apply Kd.R_drewN | apply Kd.R_drew)); exact HO_8.out) hb); have n3_ := Aside0.mk (Kd.R_below (by (with_reducible repeat (first | apply Kd.R_alloc | apply Kd.R_drewN | apply Kd.R_drew)); exact HO_10.out) hb); have n4_ := Aside0.mk (Kd.R_below (by (with_reducible repeat (first | apply Kd.R_alloc | apply Kd.R_drewN | apply Kd.R_drew)); exact HO_18.out) hb); have n5_ := Aside0.mk (Kd.R_below (by (with_reducible repeat (first | apply Kd.R_alloc | apply Kd.R_drewN | apply Kd.R_drew)); exact HO_19.out) hb); have n6_ := Aside0.mk (blk_below (g := gb172) (o := .cells #[.slice A0_0 l0_0.length c0_0, .slice (some ad177) l0_1.length c0_1] 73 (0, 0)) (by (with_reducible repeat (first | refine blk_drewN ?_ _ | refine blk_drew ?_ | refine blk_alloc ?_ _)); exact BK172.out) hb); have n7_ := Aside0.mk (blk_below (g := gb178) (o := .cells #[.int .i64 x179000_17, .int .i64 ((rd_T75 l0_1 x4_2).f1), .int .i64 ((rd_T75 l0_1 x4_2).f2)] 75 (0, 0)) (by (with_reducible repeat (first | refine blk_drewN ?_ _ | refine blk_drew ?_ | refine blk_alloc ?_ _)); exact BK178.out) hb); have n8_ := Aside0.mk (below_step (by repeat (first | (with_reducible first | exact HB.out | apply below_alloc | apply pw_below_drewN | apply below_drew1 | refine below_set ?_ GE172.out | refine below_set ?_ GE178.out) | exact HB.out)) hb); clear HO_3; clear HO_6; clear HO_8; clear HO_10; clear HO_18; clear HO_19; clear BK172; clear BK178; clear HB; have HO_3 := n0_; have HO_6 := n1_; have HO_8 := n2_; have HO_10 := n3_; have HO_18 := n4_; have HO_19 := n5_; have BK172 := n6_; have BK178 := n7_; have HB := n8_; clear n0_ n1_ n2_ n3_ n4_ n5_ n6_ n7_ n8_; (try clear hb); (try clear hb2); (try clear hk); (try clear hi)) | ((with_reducible refine gate_callee (f := 42) rfl ?_); refine goesL_ (some 104) rfl rfl Try.func42 (by kernel_rfl) rfl #[.int .i64 t205] rfl (by (try simp only [List.map_toArray, List.map_cons, List.map_nil]); first | done | rfl | (simp only [List.length_drop, List.length_take]; rfl)) ?_; (with_reducible refine (beaconlaw22_num.calls t205 t206 _ A64.out).mono ?_); rintro e w' ⟨rfl, ⟨nd, rfl⟩⟩; refine ⟨_, rfl, ?_⟩) | (go_at_call 42; (with_reducible refine (beaconlaw22_num.calls t187 t207 _ A67.out).mono ?_); rintro e w' ⟨rfl, ⟨nd, rfl⟩⟩) | (go_at_call 42; (with_reducible refine (beaconlaw22_num.calls t189 t208 _ A69.out).mono ?_); rintro e w' ⟨rfl, ⟨nd, rfl⟩⟩) | (go_at_call 42; (with_reducible refine (beaconlaw22_num.calls t194 t209 _ A71.out).mono ?_); rintro e w' ⟨rfl, ⟨nd, rfl⟩⟩; obtain ⟨Ao91, co91, eo91⟩ := Kd.R_slice HO_8.out; subst eo91; obtain ⟨Ao92, co92, eo92⟩ := Kd.R_slice HO_18.out; subst eo92) | (go_at_call 52; (with_reducible refine (beaconref0_EqOffers.calls kj31 _ _ t184 _ _ x18_31 true _ ?side1 ?side2 ?side3 ?side4 A73.out).mono ?_); (case side1 => repeat (first | exact (Kd.R_reads' HO_8.out).2.2 | (with_reducible refine Kd.C_alloc ?_ _) | (with_reducible refine Kd.C_drewN ?_ _) | (with_reducible refine Kd.C_drew ?_))); (case side2 => exact (Kd.R_reads' HO_8.out).2.1); (case side3 => repeat (first | exact (Kd.R_reads' HO_18.out).2.2 | (with_reducible refine Kd.C_alloc ?_ _) | (with_reducible refine Kd.C_drewN ?_ _) | (with_reducible refine Kd.C_drew ?_))); (case side4 => exact (Kd.R_reads' HO_18.out).2.1); rintro e w' ⟨rfl, ⟨nd, rfl⟩⟩; obtain ⟨Ao93, co93, eo93⟩ := Kd.R_slice HO_10.out; subst eo93; obtain ⟨Ao94, co94, eo94⟩ := Kd.R_slice HO_19.out; subst eo94) | (go_at_call 52; (with_reducible refine (beaconref0_EqOffers.calls kj31 _ _ t188 _ _ x19_31 true _ ?side1 ?side2 ?side3 ?side4 A75.out).mono ?_); (case side1 => repeat (first | exact (Kd.R_reads' HO_10.out).2.2 | (with_reducible refine Kd.C_alloc ?_ _) | (with_reducible refine Kd.C_drewN ?_ _) | (with_reducible refine Kd.C_drew ?_))); (case side2 => exact (Kd.R_reads' HO_10.out).2.1); (case side3 => repeat (first | exact (Kd.R_reads' HO_19.out).2.2 | (with_reducible refine Kd.C_alloc ?_ _) | (with_reducible refine Kd.C_drewN ?_ _) | (with_reducible refine Kd.C_drew ?_))); (case side4 => exact (Kd.R_reads' HO_19.out).2.1); rintro e w' ⟨rfl, ⟨nd, rfl⟩⟩))
                       go_meet
                       case rel => exact ⟨_, (true), (by first | rfl | (simp; done) | (simp [*]; done)), H', ⟨by have := HJ1.out; have := HK2.out; have := HJ10.out; have := HJ17.out; have := HJ31.out; first | omega | exact Nat.le_refl _⟩, ⟨by (with_reducible repeat (first | apply Kd.R_alloc | apply Kd.R_drewN | apply Kd.R_drew)); exact HO_3.out⟩, ⟨by (with_reducible repeat (first | apply Kd.R_alloc | apply Kd.R_drewN | apply Kd.R_drew)); exact HO_6.out⟩, ⟨by (with_reducible repeat (first | apply Kd.R_alloc | apply Kd.R_drewN | apply Kd.R_drew)); exact HO_8.out⟩, ⟨by (with_reducible repeat (first | apply Kd.R_alloc | apply Kd.R_drewN | apply Kd.R_drew)); exact HO_10.out⟩, ⟨by (with_reducible repeat (first | apply Kd.R_alloc | apply Kd.R_drewN | apply Kd.R_drew)); exact HO_18.out⟩, ⟨by (with_reducible repeat (first | apply Kd.R_alloc | apply Kd.R_drewN | apply Kd.R_drew)); exact HO_19.out⟩, ⟨by (with_reducible repeat (first | refine blk_drewN ?_ _ | refine blk_drew ?_ | refine blk_alloc ?_ _)); exact BK172.out⟩, ⟨by (with_reducible repeat (first | refine blk_drewN ?_ _ | refine blk_drew ?_ | refine blk_alloc ?_ _)); exact BK178.out⟩, ⟨by repeat (first | (with_reducible first | exact HB.out | apply below_alloc | apply pw_below_drewN | apply below_drew1 | refine below_set ?_ GE172.out | refine below_set ?_ GE178.out) | exact HB.out)⟩⟩
                     ·replace c76 := Bool.eq_false_iff.mpr c76
                      subst c76
                      have H1 : (beaconlaw22_SizeExact.j6 kj31 x3_2 x4_2 t180 t184 t188 x15_31 x16_31 x18_31 x19_31 true l0_0 l0_1 x179000_17 ((rd_T75 l0_1 x4_2).f1) ((rd_T75 l0_1 x4_2).f2)) = some r := by rw [if_neg (show ¬ (false = true) by decide)] at H; exact H
                      clear H
                      have H := H1
                      clear H1
                      have H' := Aside0.mk H
                      clear H
                      go_wp2_with (first | ((with_reducible refine gate_callee (f := 51) rfl ?_); refine goesL_ (some 103) rfl rfl Try.func51 (by kernel_rfl) rfl #[.slice Ao37 t180.length co37] rfl (by (try simp only [List.map_toArray, List.map_cons, List.map_nil]); first | done | rfl | (simp only [List.length_drop, List.length_take]; rfl)) ?_; (with_reducible refine (size_Check.calls kj31 _ _ t180 t205 _ ?side1 ?side2 A63.out).mono ?_); (case side1 => repeat (first | exact (Kd.R_reads' HO_6.out).2.2 | (with_reducible refine Kd.C_alloc ?_ _) | (with_reducible refine Kd.C_drewN ?_ _) | (with_reducible refine Kd.C_drew ?_))); (case side2 => exact (Kd.R_reads' HO_6.out).2.1); rintro e w95 ⟨rfl, hb⟩; refine ⟨_, rfl, ?_⟩; have n0_ := Aside0.mk (Kd.R_below (by (with_reducible repeat (first | apply Kd.R_alloc | apply Kd.R_drewN | apply Kd.R_drew)); exact HO_3.out) hb); have n1_ := Aside0.mk (Kd.R_below (by (with_reducible repeat (first | apply Kd.R_alloc | apply Kd.R_drewN | apply Kd.R_drew)); exact HO_6.out) hb); have n2_ := Aside0.mk (Kd.R_below (by (with_reducible repeat (first | apply Kd.R_alloc | apply Kd.R_drewN | apply Kd.R_drew)); exact HO_8.out) hb); have n3_ := Aside0.mk (Kd.R_below (by (with_reducible repeat (first | apply Kd.R_alloc | apply Kd.R_drewN | apply Kd.R_drew)); exact HO_10.out) hb); have n4_ := Aside0.mk (Kd.R_below (by (with_reducible repeat (first | apply Kd.R_alloc | apply Kd.R_drewN | apply Kd.R_drew)); exact HO_18.out) hb); have n5_ := Aside0.mk (Kd.R_below (by (with_reducible repeat (first | apply Kd.R_alloc | apply Kd.R_drewN | apply Kd.R_drew)); exact HO_19.out) hb); have n6_ := Aside0.mk (blk_below (g := gb172) (o := .cells #[.slice A0_0 l0_0.length c0_0, .slice (some ad177) l0_1.length c0_1] 73 (0, 0)) (by (with_reducible repeat (first | refine blk_drewN ?_ _ | refine blk_drew ?_ | refine blk_alloc ?_ _)); exact BK172.out) hb); have n7_ := Aside0.mk (blk_below (g := gb178) (o := .cells #[.int .i64 x179000_17, .int .i64 ((rd_T75 l0_1 x4_2).f1), .int .i64 ((rd_T75 l0_1 x4_2).f2)] 75 (0, 0)) (by (with_reducible repeat (first | refine blk_drewN ?_ _ | refine blk_drew ?_ | refine blk_alloc ?_ _)); exact BK178.out) hb); have n8_ := Aside0.mk (below_step (by repeat (first | (with_reducible first | exact HB.out | apply below_alloc | apply pw_below_drewN | apply below_drew1 | refine below_set ?_ GE172.out | refine below_set ?_ GE178.out) | exact HB.out)) hb); clear HO_3; clear HO_6; clear HO_8; clear HO_10; clear HO_18; clear HO_19; clear BK172; clear BK178; clear HB; have HO_3 := n0_; have HO_6 := n1_; have HO_8 := n2_; have HO_10 := n3_; have HO_18 := n4_; have HO_19 := n5_; have BK172 := n6_; have BK178 := n7_; have HB := n8_; clear n0_ n1_ n2_ n3_ n4_ n5_ n6_ n7_ n8_; (try clear hb); (try clear hb2); (try clear hk); (try clear hi)) | ((with_reducible refine gate_callee (f := 42) rfl ?_); refine goesL_ (some 104) rfl rfl Try.func42 (by kernel_rfl) rfl #[.int .i64 t205] rfl (by (try simp only [List.map_toArray, List.map_cons, List.map_nil]); first | done | rfl | (simp only [List.length_drop, List.length_take]; rfl)) ?_; (with_reducible refine (beaconlaw22_num.calls t205 t206 _ A64.out).mono ?_); rintro e w' ⟨rfl, ⟨nd, rfl⟩⟩; refine ⟨_, rfl, ?_⟩) | (go_at_call 42; (with_reducible refine (beaconlaw22_num.calls t187 t207 _ A67.out).mono ?_); rintro e w' ⟨rfl, ⟨nd, rfl⟩⟩) | (go_at_call 42; (with_reducible refine (beaconlaw22_num.calls t189 t208 _ A69.out).mono ?_); rintro e w' ⟨rfl, ⟨nd, rfl⟩⟩) | (go_at_call 42; (with_reducible refine (beaconlaw22_num.calls t194 t209 _ A71.out).mono ?_); rintro e w' ⟨rfl, ⟨nd, rfl⟩⟩; obtain ⟨Ao96, co96, eo96⟩ := Kd.R_slice HO_8.out; subst eo96; obtain ⟨Ao97, co97, eo97⟩ := Kd.R_slice HO_18.out; subst eo97) | (go_at_call 52; (with_reducible refine (beaconref0_EqOffers.calls kj31 _ _ t184 _ _ x18_31 true _ ?side1 ?side2 ?side3 ?side4 A73.out).mono ?_); (case side1 => repeat (first | exact (Kd.R_reads' HO_8.out).2.2 | (with_reducible refine Kd.C_alloc ?_ _) | (with_reducible refine Kd.C_drewN ?_ _) | (with_reducible refine Kd.C_drew ?_))); (case side2 => exact (Kd.R_reads' HO_8.out).2.1); (case side3 => repeat (first | exact (Kd.R_reads' HO_18.out).2.2 | (with_reducible refine Kd.C_alloc ?_ _) | (with_reducible refine Kd.C_drewN ?_ _) | (with_reducible refine Kd.C_drew ?_))); (case side4 => exact (Kd.R_reads' HO_18.out).2.1); rintro e w' ⟨rfl, ⟨nd, rfl⟩⟩; obtain ⟨Ao98, co98, eo98⟩ := Kd.R_slice HO_10.out; subst eo98; obtain ⟨Ao99, co99, eo99⟩ := Kd.R_slice HO_19.out; subst eo99) | (go_at_call 52; (with_reducible refine (beaconref0_EqOffers.calls kj31 _ _ t188 _ _ x19_31 false _ ?side1 ?side2 ?side3 ?side4 A75.out).mono ?_); (case side1 => repeat (first | exact (Kd.R_reads' HO_10.out).2.2 | (with_reducible refine Kd.C_alloc ?_ _) | (with_reducible refine Kd.C_drewN ?_ _) | (with_reducible refine Kd.C_drew ?_))); (case side2 => exact (Kd.R_reads' HO_10.out).2.1); (case side3 => repeat (first | exact (Kd.R_reads' HO_19.out).2.2 | (with_reducible refine Kd.C_alloc ?_ _) | (with_reducible refine Kd.C_drewN ?_ _) | (with_reducible refine Kd.C_drew ?_))); (case side4 => exact (Kd.R_reads' HO_19.out).2.1); rintro e w' ⟨rfl, ⟨nd, rfl⟩⟩))
                      go_meet
                      case rel => exact ⟨_, (true), (by first | rfl | (simp; done) | (simp [*]; done)), H', ⟨by have := HJ1.out; have := HK2.out; have := HJ10.out; have := HJ17.out; have := HJ31.out; first | omega | exact Nat.le_refl _⟩, ⟨by (with_reducible repeat (first | apply Kd.R_alloc | apply Kd.R_drewN | apply Kd.R_drew)); exact HO_3.out⟩, ⟨by (with_reducible repeat (first | apply Kd.R_alloc | apply Kd.R_drewN | apply Kd.R_drew)); exact HO_6.out⟩, ⟨by (with_reducible repeat (first | apply Kd.R_alloc | apply Kd.R_drewN | apply Kd.R_drew)); exact HO_8.out⟩, ⟨by (with_reducible repeat (first | apply Kd.R_alloc | apply Kd.R_drewN | apply Kd.R_drew)); exact HO_10.out⟩, ⟨by (with_reducible repeat (first | apply Kd.R_alloc | apply Kd.R_drewN | apply Kd.R_drew)); exact HO_18.out⟩, ⟨by (with_reducible repeat (first | apply Kd.R_alloc | apply Kd.R_drewN | apply Kd.R_drew)); exact HO_19.out⟩, ⟨by (with_reducible repeat (first | refine blk_drewN ?_ _ | refine blk_drew ?_ | refine blk_alloc ?_ _)); exact BK172.out⟩, ⟨by (with_reducible repeat (first | refine blk_drewN ?_ _ | refine blk_drew ?_ | refine blk_alloc ?_ _)); exact BK178.out⟩, ⟨by repeat (first | (with_reducible first | exact HB.out | apply below_alloc | apply pw_below_drewN | apply below_drew1 | refine below_set ?_ GE172.out | refine below_set ?_ GE178.out) | exact HB.out)⟩⟩
                    ·replace c74 := Bool.eq_false_iff.mpr c74
                     subst c74
                     have H1 : (beaconlaw22_SizeExact.j6 kj31 x3_2 x4_2 t180 t184 t188 x15_31 x16_31 x18_31 x19_31 true l0_0 l0_1 x179000_17 ((rd_T75 l0_1 x4_2).f1) ((rd_T75 l0_1 x4_2).f2)) = some r := by rw [if_neg (show ¬ (false = true) by decide)] at H; exact H
                     clear H
                     have H := H1
                     clear H1
                     have H' := Aside0.mk H
                     clear H
                     go_wp2_with (first | ((with_reducible refine gate_callee (f := 51) rfl ?_); refine goesL_ (some 103) rfl rfl Try.func51 (by kernel_rfl) rfl #[.slice Ao37 t180.length co37] rfl (by (try simp only [List.map_toArray, List.map_cons, List.map_nil]); first | done | rfl | (simp only [List.length_drop, List.length_take]; rfl)) ?_; (with_reducible refine (size_Check.calls kj31 _ _ t180 t205 _ ?side1 ?side2 A63.out).mono ?_); (case side1 => repeat (first | exact (Kd.R_reads' HO_6.out).2.2 | (with_reducible refine Kd.C_alloc ?_ _) | (with_reducible refine Kd.C_drewN ?_ _) | (with_reducible refine Kd.C_drew ?_))); (case side2 => exact (Kd.R_reads' HO_6.out).2.1); rintro e w100 ⟨rfl, hb⟩; refine ⟨_, rfl, ?_⟩; have n0_ := Aside0.mk (Kd.R_below (by (with_reducible repeat (first | apply Kd.R_alloc | apply Kd.R_drewN | apply Kd.R_drew)); exact HO_3.out) hb); have n1_ := Aside0.mk (Kd.R_below (by (with_reducible repeat (first | apply Kd.R_alloc | apply Kd.R_drewN | apply Kd.R_drew)); exact HO_6.out) hb); have n2_ := Aside0.mk (Kd.R_below (by (with_reducible repeat (first | apply Kd.R_alloc | apply Kd.R_drewN | apply Kd.R_drew)); exact HO_8.out) hb); have n3_ := Aside0.mk (Kd.R_below (by (with_reducible repeat (first | apply Kd.R_alloc | apply Kd.R_drewN | apply Kd.R_drew)); exact HO_10.out) hb); have n4_ := Aside0.mk (Kd.R_below (by (with_reducible repeat (first | apply Kd.R_alloc | apply Kd.R_drewN | apply Kd.R_drew)); exact HO_18.out) hb); have n5_ := Aside0.mk (Kd.R_below (by (with_reducible repeat (first | apply Kd.R_alloc | apply Kd.R_drewN | apply Kd.R_drew)); exact HO_19.out) hb); have n6_ := Aside0.mk (blk_below (g := gb172) (o := .cells #[.slice A0_0 l0_0.length c0_0, .slice (some ad177) l0_1.length c0_1] 73 (0, 0)) (by (with_reducible repeat (first | refine blk_drewN ?_ _ | refine blk_drew ?_ | refine blk_alloc ?_ _)); exact BK172.out) hb); have n7_ := Aside0.mk (blk_below (g := gb178) (o := .cells #[.int .i64 x179000_17, .int .i64 ((rd_T75 l0_1 x4_2).f1), .int .i64 ((rd_T75 l0_1 x4_2).f2)] 75 (0, 0)) (by (with_reducible repeat (first | refine blk_drewN ?_ _ | refine blk_drew ?_ | refine blk_alloc ?_ _)); exact BK178.out) hb); have n8_ := Aside0.mk (below_step (by repeat (first | (with_reducible first | exact HB.out | apply below_alloc | apply pw_below_drewN | apply below_drew1 | refine below_set ?_ GE172.out | refine below_set ?_ GE178.out) | exact HB.out)) hb); clear HO_3; clear HO_6; clear HO_8; clear HO_10; clear HO_18; clear HO_19; clear BK172; clear BK178; clear HB; have HO_3 := n0_; have HO_6 := n1_; have HO_8 := n2_; have HO_10 := n3_; have HO_18 := n4_; have HO_19 := n5_; have BK172 := n6_; have BK178 := n7_; have HB := n8_; clear n0_ n1_ n2_ n3_ n4_ n5_ n6_ n7_ n8_; (try clear hb); (try clear hb2); (try clear hk); (try clear hi)) | ((with_reducible refine gate_callee (f := 42) rfl ?_); refine goesL_ (some 104) rfl rfl Try.func42 (by kernel_rfl) rfl #[.int .i64 t205] rfl (by (try simp only [List.map_toArray, List.map_cons, List.map_nil]); first | done | rfl | (simp only [List.length_drop, List.length_take]; rfl)) ?_; (with_reducible refine (beaconlaw22_num.calls t205 t206 _ A64.out).mono ?_); rintro e w' ⟨rfl, ⟨nd, rfl⟩⟩; refine ⟨_, rfl, ?_⟩) | (go_at_call 42; (with_reducible refine (beaconlaw22_num.calls t187 t207 _ A67.out).mono ?_); rintro e w' ⟨rfl, ⟨nd, rfl⟩⟩) | (go_at_call 42; (with_reducible refine (beaconlaw22_num.calls t189 t208 _ A69.out).mono ?_); rintro e w' ⟨rfl, ⟨nd, rfl⟩⟩) | (go_at_call 42; (with_reducible refine (beaconlaw22_num.calls t194 t209 _ A71.out).mono ?_); rintro e w' ⟨rfl, ⟨nd, rfl⟩⟩; obtain ⟨Ao101, co101, eo101⟩ := Kd.R_slice HO_8.out; subst eo101; obtain ⟨Ao102, co102, eo102⟩ := Kd.R_slice HO_18.out; subst eo102) | (go_at_call 52; (with_reducible refine (beaconref0_EqOffers.calls kj31 _ _ t184 _ _ x18_31 false _ ?side1 ?side2 ?side3 ?side4 A73.out).mono ?_); (case side1 => repeat (first | exact (Kd.R_reads' HO_8.out).2.2 | (with_reducible refine Kd.C_alloc ?_ _) | (with_reducible refine Kd.C_drewN ?_ _) | (with_reducible refine Kd.C_drew ?_))); (case side2 => exact (Kd.R_reads' HO_8.out).2.1); (case side3 => repeat (first | exact (Kd.R_reads' HO_18.out).2.2 | (with_reducible refine Kd.C_alloc ?_ _) | (with_reducible refine Kd.C_drewN ?_ _) | (with_reducible refine Kd.C_drew ?_))); (case side4 => exact (Kd.R_reads' HO_18.out).2.1); rintro e w' ⟨rfl, ⟨nd, rfl⟩⟩))
                     go_meet
                     case rel => exact ⟨_, (true), (by first | rfl | (simp; done) | (simp [*]; done)), H', ⟨by have := HJ1.out; have := HK2.out; have := HJ10.out; have := HJ17.out; have := HJ31.out; first | omega | exact Nat.le_refl _⟩, ⟨by (with_reducible repeat (first | apply Kd.R_alloc | apply Kd.R_drewN | apply Kd.R_drew)); exact HO_3.out⟩, ⟨by (with_reducible repeat (first | apply Kd.R_alloc | apply Kd.R_drewN | apply Kd.R_drew)); exact HO_6.out⟩, ⟨by (with_reducible repeat (first | apply Kd.R_alloc | apply Kd.R_drewN | apply Kd.R_drew)); exact HO_8.out⟩, ⟨by (with_reducible repeat (first | apply Kd.R_alloc | apply Kd.R_drewN | apply Kd.R_drew)); exact HO_10.out⟩, ⟨by (with_reducible repeat (first | apply Kd.R_alloc | apply Kd.R_drewN | apply Kd.R_drew)); exact HO_18.out⟩, ⟨by (with_reducible repeat (first | apply Kd.R_alloc | apply Kd.R_drewN | apply Kd.R_drew)); exact HO_19.out⟩, ⟨by (with_reducible repeat (first | refine blk_drewN ?_ _ | refine blk_drew ?_ | refine blk_alloc ?_ _)); exact BK172.out⟩, ⟨by (with_reducible repeat (first | refine blk_drewN ?_ _ | refine blk_drew ?_ | refine blk_alloc ?_ _)); exact BK178.out⟩, ⟨by repeat (first | (with_reducible first | exact HB.out | apply below_alloc | apply pw_below_drewN | apply below_drew1 | refine below_set ?_ GE172.out | refine below_set ?_ GE178.out) | exact HB.out)⟩⟩
                   ·as_aux_lemma =>
                    rw [if_neg c72] at H
                    have c72b0 : (t209 == x17_31) = false := beq_eq_false_iff_ne.mpr c72
                    have c72b1 : (t209 != x17_31) = true := bne_iff_ne.mpr c72
                    have H' := Aside0.mk H
                    clear H
                    go_wp2_with (first | ((with_reducible refine gate_callee (f := 51) rfl ?_); refine goesL_ (some 103) rfl rfl Try.func51 (by kernel_rfl) rfl #[.slice Ao37 t180.length co37] rfl (by (try simp only [List.map_toArray, List.map_cons, List.map_nil]); first | done | rfl | (simp only [List.length_drop, List.length_take]; rfl)) ?_; (with_reducible refine (size_Check.calls kj31 _ _ t180 t205 _ ?side1 ?side2 A63.out).mono ?_); (case side1 => repeat (first | exact (Kd.R_reads' HO_6.out).2.2 | (with_reducible refine Kd.C_alloc ?_ _) | (with_reducible refine Kd.C_drewN ?_ _) | (with_reducible refine Kd.C_drew ?_))); (case side2 => exact (Kd.R_reads' HO_6.out).2.1); rintro e w103 ⟨rfl, hb⟩; refine ⟨_, rfl, ?_⟩; have n0_ := Aside0.mk (Kd.R_below (by (with_reducible repeat (first | apply Kd.R_alloc | apply Kd.R_drewN | apply Kd.R_drew)); exact HO_3.out) hb); have n1_ := Aside0.mk (Kd.R_below (by (with_reducible repeat (first | apply Kd.R_alloc | apply Kd.R_drewN | apply Kd.R_drew)); exact HO_6.out) hb); have n2_ := Aside0.mk (Kd.R_below (by (with_reducible repeat (first | apply Kd.R_alloc | apply Kd.R_drewN | apply Kd.R_drew)); exact HO_8.out) hb); have n3_ := Aside0.mk (Kd.R_below (by (with_reducible repeat (first | apply Kd.R_alloc | apply Kd.R_drewN | apply Kd.R_drew)); exact HO_10.out) hb); have n4_ := Aside0.mk (Kd.R_below (by (with_reducible repeat (first | apply Kd.R_alloc | apply Kd.R_drewN | apply Kd.R_drew)); exact HO_18.out) hb); have n5_ := Aside0.mk (Kd.R_below (by (with_reducible repeat (first | apply Kd.R_alloc | apply Kd.R_drewN | apply Kd.R_drew)); exact HO_19.out) hb); have n6_ := Aside0.mk (blk_below (g := gb172) (o := .cells #[.slice A0_0 l0_0.length c0_0, .slice (some ad177) l0_1.length c0_1] 73 (0, 0)) (by (with_reducible repeat (first | refine blk_drewN ?_ _ | refine blk_drew ?_ | refine blk_alloc ?_ _)); exact BK172.out) hb); have n7_ := Aside0.mk (blk_below (g := gb178) (o := .cells #[.int .i64 x179000_17, .int .i64 ((rd_T75 l0_1 x4_2).f1), .int .i64 ((rd_T75 l0_1 x4_2).f2)] 75 (0, 0)) (by (with_reducible repeat (first | refine blk_drewN ?_ _ | refine blk_drew ?_ | refine blk_alloc ?_ _)); exact BK178.out) hb); have n8_ := Aside0.mk (below_step (by repeat (first | (with_reducible first | exact HB.out | apply below_alloc | apply pw_below_drewN | apply below_drew1 | refine below_set ?_ GE172.out | refine below_set ?_ GE178.out) | exact HB.out)) hb); clear HO_3; clear HO_6; clear HO_8; clear HO_10; clear HO_18; clear HO_19; clear BK172; clear BK178; clear HB; have HO_3 := n0_; have HO_6 := n1_; have HO_8 := n2_; have HO_10 := n3_; have HO_18 := n4_; have HO_19 := n5_; have BK172 := n6_; have BK178 := n7_; have HB := n8_; clear n0_ n1_ n2_ n3_ n4_ n5_ n6_ n7_ n8_; (try clear hb); (try clear hb2); (try clear hk); (try clear hi)) | ((with_reducible refine gate_callee (f := 42) rfl ?_); refine goesL_ (some 104) rfl rfl Try.func42 (by kernel_rfl) rfl #[.int .i64 t205] rfl (by (try simp only [List.map_toArray, List.map_cons, List.map_nil]); first | done | rfl | (simp only [List.length_drop, List.length_take]; rfl)) ?_; (with_reducible refine (beaconlaw22_num.calls t205 t206 _ A64.out).mono ?_); rintro e w' ⟨rfl, ⟨nd, rfl⟩⟩; refine ⟨_, rfl, ?_⟩) | (go_at_call 42; (with_reducible refine (beaconlaw22_num.calls t187 t207 _ A67.out).mono ?_); rintro e w' ⟨rfl, ⟨nd, rfl⟩⟩) | (go_at_call 42; (with_reducible refine (beaconlaw22_num.calls t189 t208 _ A69.out).mono ?_); rintro e w' ⟨rfl, ⟨nd, rfl⟩⟩) | (go_at_call 42; (with_reducible refine (beaconlaw22_num.calls t194 t209 _ A71.out).mono ?_); rintro e w' ⟨rfl, ⟨nd, rfl⟩⟩))
                    go_meet
                    case rel => exact ⟨_, (true), (by first | rfl | (simp; done) | (simp [*]; done)), H', ⟨by have := HJ1.out; have := HK2.out; have := HJ10.out; have := HJ17.out; have := HJ31.out; first | omega | exact Nat.le_refl _⟩, ⟨by (with_reducible repeat (first | apply Kd.R_alloc | apply Kd.R_drewN | apply Kd.R_drew)); exact HO_3.out⟩, ⟨by (with_reducible repeat (first | apply Kd.R_alloc | apply Kd.R_drewN | apply Kd.R_drew)); exact HO_6.out⟩, ⟨by (with_reducible repeat (first | apply Kd.R_alloc | apply Kd.R_drewN | apply Kd.R_drew)); exact HO_8.out⟩, ⟨by (with_reducible repeat (first | apply Kd.R_alloc | apply Kd.R_drewN | apply Kd.R_drew)); exact HO_10.out⟩, ⟨by (with_reducible repeat (first | apply Kd.R_alloc | apply Kd.R_drewN | apply Kd.R_drew)); exact HO_18.out⟩, ⟨by (with_reducible repeat (first | apply Kd.R_alloc | apply Kd.R_drewN | apply Kd.R_drew)); exact HO_19.out⟩, ⟨by (with_reducible repeat (first | refine blk_drewN ?_ _ | refine blk_drew ?_ | refine blk_alloc ?_ _)); exact BK172.out⟩, ⟨by (with_reducible repeat (first | refine blk_drewN ?_ _ | refine blk_drew ?_ | refine blk_alloc ?_ _)); exact BK178.out⟩, ⟨by repeat (first | (with_reducible first | exact HB.out | apply below_alloc | apply pw_below_drewN | apply below_drew1 | refine below_set ?_ GE172.out | refine below_set ?_ GE178.out) | exact HB.out)⟩⟩
                  ·as_aux_lemma =>
                   rw [if_neg c70] at H
                   have c70b0 : (t208 == x16_31) = false := beq_eq_false_iff_ne.mpr c70
                   have c70b1 : (t208 != x16_31) = true := bne_iff_ne.mpr c70
                   have H' := Aside0.mk H
                   clear H
                   go_wp2_with (first | ((with_reducible refine gate_callee (f := 51) rfl ?_); refine goesL_ (some 103) rfl rfl Try.func51 (by kernel_rfl) rfl #[.slice Ao37 t180.length co37] rfl (by (try simp only [List.map_toArray, List.map_cons, List.map_nil]); first | done | rfl | (simp only [List.length_drop, List.length_take]; rfl)) ?_; (with_reducible refine (size_Check.calls kj31 _ _ t180 t205 _ ?side1 ?side2 A63.out).mono ?_); (case side1 => repeat (first | exact (Kd.R_reads' HO_6.out).2.2 | (with_reducible refine Kd.C_alloc ?_ _) | (with_reducible refine Kd.C_drewN ?_ _) | (with_reducible refine Kd.C_drew ?_))); (case side2 => exact (Kd.R_reads' HO_6.out).2.1); rintro e w104 ⟨rfl, hb⟩; refine ⟨_, rfl, ?_⟩; have n0_ := Aside0.mk (Kd.R_below (by (with_reducible repeat (first | apply Kd.R_alloc | apply Kd.R_drewN | apply Kd.R_drew)); exact HO_3.out) hb); have n1_ := Aside0.mk (Kd.R_below (by (with_reducible repeat (first | apply Kd.R_alloc | apply Kd.R_drewN | apply Kd.R_drew)); exact HO_6.out) hb); have n2_ := Aside0.mk (Kd.R_below (by (with_reducible repeat (first | apply Kd.R_alloc | apply Kd.R_drewN | apply Kd.R_drew)); exact HO_8.out) hb); have n3_ := Aside0.mk (Kd.R_below (by (with_reducible repeat (first | apply Kd.R_alloc | apply Kd.R_drewN | apply Kd.R_drew)); exact HO_10.out) hb); have n4_ := Aside0.mk (Kd.R_below (by (with_reducible repeat (first | apply Kd.R_alloc | apply Kd.R_drewN | apply Kd.R_drew)); exact HO_18.out) hb); have n5_ := Aside0.mk (Kd.R_below (by (with_reducible repeat (first | apply Kd.R_alloc | apply Kd.R_drewN | apply Kd.R_drew)); exact HO_19.out) hb); have n6_ := Aside0.mk (blk_below (g := gb172) (o := .cells #[.slice A0_0 l0_0.length c0_0, .slice (some ad177) l0_1.length c0_1] 73 (0, 0)) (by (with_reducible repeat (first | refine blk_drewN ?_ _ | refine blk_drew ?_ | refine blk_alloc ?_ _)); exact BK172.out) hb); have n7_ := Aside0.mk (blk_below (g := gb178) (o := .cells #[.int .i64 x179000_17, .int .i64 ((rd_T75 l0_1 x4_2).f1), .int .i64 ((rd_T75 l0_1 x4_2).f2)] 75 (0, 0)) (by (with_reducible repeat (first | refine blk_drewN ?_ _ | refine blk_drew ?_ | refine blk_alloc ?_ _)); exact BK178.out) hb); have n8_ := Aside0.mk (below_step (by repeat (first | (with_reducible first | exact HB.out | apply below_alloc | apply pw_below_drewN | apply below_drew1 | refine below_set ?_ GE172.out | refine below_set ?_ GE178.out) | exact HB.out)) hb); clear HO_3; clear HO_6; clear HO_8; clear HO_10; clear HO_18; clear HO_19; clear BK172; clear BK178; clear HB; have HO_3 := n0_; have HO_6 := n1_; have HO_8 := n2_; have HO_10 := n3_; have HO_18 := n4_; have HO_19 := n5_; have BK172 := n6_; have BK178 := n7_; have HB := n8_; clear n0_ n1_ n2_ n3_ n4_ n5_ n6_ n7_ n8_; (try clear hb); (try clear hb2); (try clear hk); (try clear hi)) | ((with_reducible refine gate_callee (f := 42) rfl ?_); refine goesL_ (some 104) rfl rfl Try.func42 (by kernel_rfl) rfl #[.int .i64 t205] rfl (by (try simp only [List.map_toArray, List.map_cons, List.map_nil]); first | done | rfl | (simp only [List.length_drop, List.length_take]; rfl)) ?_; (with_reducible refine (beaconlaw22_num.calls t205 t206 _ A64.out).mono ?_); rintro e w' ⟨rfl, ⟨nd, rfl⟩⟩; refine ⟨_, rfl, ?_⟩) | (go_at_call 42; (with_reducible refine (beaconlaw22_num.calls t187 t207 _ A67.out).mono ?_); rintro e w' ⟨rfl, ⟨nd, rfl⟩⟩) | (go_at_call 42; (with_reducible refine (beaconlaw22_num.calls t189 t208 _ A69.out).mono ?_); rintro e w' ⟨rfl, ⟨nd, rfl⟩⟩))
                   go_meet
                   case rel => exact ⟨_, (true), (by first | rfl | (simp; done) | (simp [*]; done)), H', ⟨by have := HJ1.out; have := HK2.out; have := HJ10.out; have := HJ17.out; have := HJ31.out; first | omega | exact Nat.le_refl _⟩, ⟨by (with_reducible repeat (first | apply Kd.R_alloc | apply Kd.R_drewN | apply Kd.R_drew)); exact HO_3.out⟩, ⟨by (with_reducible repeat (first | apply Kd.R_alloc | apply Kd.R_drewN | apply Kd.R_drew)); exact HO_6.out⟩, ⟨by (with_reducible repeat (first | apply Kd.R_alloc | apply Kd.R_drewN | apply Kd.R_drew)); exact HO_8.out⟩, ⟨by (with_reducible repeat (first | apply Kd.R_alloc | apply Kd.R_drewN | apply Kd.R_drew)); exact HO_10.out⟩, ⟨by (with_reducible repeat (first | apply Kd.R_alloc | apply Kd.R_drewN | apply Kd.R_drew)); exact HO_18.out⟩, ⟨by (with_reducible repeat (first | apply Kd.R_alloc | apply Kd.R_drewN | apply Kd.R_drew)); exact HO_19.out⟩, ⟨by (with_reducible repeat (first | refine blk_drewN ?_ _ | refine blk_drew ?_ | refine blk_alloc ?_ _)); exact BK172.out⟩, ⟨by (with_reducible repeat (first | refine blk_drewN ?_ _ | refine blk_drew ?_ | refine blk_alloc ?_ _)); exact BK178.out⟩, ⟨by repeat (first | (with_reducible first | exact HB.out | apply below_alloc | apply pw_below_drewN | apply below_drew1 | refine below_set ?_ GE172.out | refine below_set ?_ GE178.out) | exact HB.out)⟩⟩
                 ·as_aux_lemma =>
                  rw [if_neg c68] at H
                  have c68b0 : (t207 == x15_31) = false := beq_eq_false_iff_ne.mpr c68
                  have c68b1 : (t207 != x15_31) = true := bne_iff_ne.mpr c68
                  have H' := Aside0.mk H
                  clear H
                  go_wp2_with (first | ((with_reducible refine gate_callee (f := 51) rfl ?_); refine goesL_ (some 103) rfl rfl Try.func51 (by kernel_rfl) rfl #[.slice Ao37 t180.length co37] rfl (by (try simp only [List.map_toArray, List.map_cons, List.map_nil]); first | done | rfl | (simp only [List.length_drop, List.length_take]; rfl)) ?_; (with_reducible refine (size_Check.calls kj31 _ _ t180 t205 _ ?side1 ?side2 A63.out).mono ?_); (case side1 => repeat (first | exact (Kd.R_reads' HO_6.out).2.2 | (with_reducible refine Kd.C_alloc ?_ _) | (with_reducible refine Kd.C_drewN ?_ _) | (with_reducible refine Kd.C_drew ?_))); (case side2 => exact (Kd.R_reads' HO_6.out).2.1); rintro e w105 ⟨rfl, hb⟩; refine ⟨_, rfl, ?_⟩; have n0_ := Aside0.mk (Kd.R_below (by (with_reducible repeat (first | apply Kd.R_alloc | apply Kd.R_drewN | apply Kd.R_drew)); exact HO_3.out) hb); have n1_ := Aside0.mk (Kd.R_below (by (with_reducible repeat (first | apply Kd.R_alloc | apply Kd.R_drewN | apply Kd.R_drew)); exact HO_6.out) hb); have n2_ := Aside0.mk (Kd.R_below (by (with_reducible repeat (first | apply Kd.R_alloc | apply Kd.R_drewN | apply Kd.R_drew)); exact HO_8.out) hb); have n3_ := Aside0.mk (Kd.R_below (by (with_reducible repeat (first | apply Kd.R_alloc | apply Kd.R_drewN | apply Kd.R_drew)); exact HO_10.out) hb); have n4_ := Aside0.mk (Kd.R_below (by (with_reducible repeat (first | apply Kd.R_alloc | apply Kd.R_drewN | apply Kd.R_drew)); exact HO_18.out) hb); have n5_ := Aside0.mk (Kd.R_below (by (with_reducible repeat (first | apply Kd.R_alloc | apply Kd.R_drewN | apply Kd.R_drew)); exact HO_19.out) hb); have n6_ := Aside0.mk (blk_below (g := gb172) (o := .cells #[.slice A0_0 l0_0.length c0_0, .slice (some ad177) l0_1.length c0_1] 73 (0, 0)) (by (with_reducible repeat (first | refine blk_drewN ?_ _ | refine blk_drew ?_ | refine blk_alloc ?_ _)); exact BK172.out) hb); have n7_ := Aside0.mk (blk_below (g := gb178) (o := .cells #[.int .i64 x179000_17, .int .i64 ((rd_T75 l0_1 x4_2).f1), .int .i64 ((rd_T75 l0_1 x4_2).f2)] 75 (0, 0)) (by (with_reducible repeat (first | refine blk_drewN ?_ _ | refine blk_drew ?_ | refine blk_alloc ?_ _)); exact BK178.out) hb); have n8_ := Aside0.mk (below_step (by repeat (first | (with_reducible first | exact HB.out | apply below_alloc | apply pw_below_drewN | apply below_drew1 | refine below_set ?_ GE172.out | refine below_set ?_ GE178.out) | exact HB.out)) hb); clear HO_3; clear HO_6; clear HO_8; clear HO_10; clear HO_18; clear HO_19; clear BK172; clear BK178; clear HB; have HO_3 := n0_; have HO_6 := n1_; have HO_8 := n2_; have HO_10 := n3_; have HO_18 := n4_; have HO_19 := n5_; have BK172 := n6_; have BK178 := n7_; have HB := n8_; clear n0_ n1_ n2_ n3_ n4_ n5_ n6_ n7_ n8_; (try clear hb); (try clear hb2); (try clear hk); (try clear hi)) | ((with_reducible refine gate_callee (f := 42) rfl ?_); refine goesL_ (some 104) rfl rfl Try.func42 (by kernel_rfl) rfl #[.int .i64 t205] rfl (by (try simp only [List.map_toArray, List.map_cons, List.map_nil]); first | done | rfl | (simp only [List.length_drop, List.length_take]; rfl)) ?_; (with_reducible refine (beaconlaw22_num.calls t205 t206 _ A64.out).mono ?_); rintro e w' ⟨rfl, ⟨nd, rfl⟩⟩; refine ⟨_, rfl, ?_⟩) | (go_at_call 42; (with_reducible refine (beaconlaw22_num.calls t187 t207 _ A67.out).mono ?_); rintro e w' ⟨rfl, ⟨nd, rfl⟩⟩))
                  go_meet
                  case rel => exact ⟨_, (true), (by first | rfl | (simp; done) | (simp [*]; done)), H', ⟨by have := HJ1.out; have := HK2.out; have := HJ10.out; have := HJ17.out; have := HJ31.out; first | omega | exact Nat.le_refl _⟩, ⟨by (with_reducible repeat (first | apply Kd.R_alloc | apply Kd.R_drewN | apply Kd.R_drew)); exact HO_3.out⟩, ⟨by (with_reducible repeat (first | apply Kd.R_alloc | apply Kd.R_drewN | apply Kd.R_drew)); exact HO_6.out⟩, ⟨by (with_reducible repeat (first | apply Kd.R_alloc | apply Kd.R_drewN | apply Kd.R_drew)); exact HO_8.out⟩, ⟨by (with_reducible repeat (first | apply Kd.R_alloc | apply Kd.R_drewN | apply Kd.R_drew)); exact HO_10.out⟩, ⟨by (with_reducible repeat (first | apply Kd.R_alloc | apply Kd.R_drewN | apply Kd.R_drew)); exact HO_18.out⟩, ⟨by (with_reducible repeat (first | apply Kd.R_alloc | apply Kd.R_drewN | apply Kd.R_drew)); exact HO_19.out⟩, ⟨by (with_reducible repeat (first | refine blk_drewN ?_ _ | refine blk_drew ?_ | refine blk_alloc ?_ _)); exact BK172.out⟩, ⟨by (with_reducible repeat (first | refine blk_drewN ?_ _ | refine blk_drew ?_ | refine blk_alloc ?_ _)); exact BK178.out⟩, ⟨by repeat (first | (with_reducible first | exact HB.out | apply below_alloc | apply pw_below_drewN | apply below_drew1 | refine below_set ?_ GE172.out | refine below_set ?_ GE178.out) | exact HB.out)⟩⟩
               case rest =>
                clear HC62
                try clear c1
                try clear p1
                try clear q1
                try clear hx1
                try clear c2
                try clear p2
                try clear c3
                try clear c4
                try clear c4b0
                try clear c4b1
                try clear c5
                try clear c6
                try clear c7
                try clear c9
                try clear c12
                try clear c12b0
                try clear c15
                try clear c16
                try clear c16b0
                try clear c17
                try clear c17b0
                try clear p17
                try clear q17
                try clear hx17
                try clear c19
                try clear c21
                try clear c23
                try clear c23b0
                try clear c25
                try clear c35
                try clear c39
                try clear c40
                try clear c41
                try clear c42
                try clear c43
                try clear c45
                try clear c46
                try clear c47
                try clear c48
                try clear c49
                try clear c50
                try clear c51
                try clear c55
                try clear c57
                try clear c60
                try clear c65
                try clear c65b0
                try clear c65b1
                try clear c65b2
                try clear c68
                try clear c68b0
                try clear c68b1
                try clear c70
                try clear c70b0
                try clear c70b1
                try clear c72
                try clear c72b0
                try clear c72b1
                try clear c74
                try clear c76
                try clear c77
                try clear c77b0
                try clear c77b1
                try clear c78
                try clear c78b0
                try clear c78b1
                try clear hcz13_0
                try clear hcz13_1
                try clear hcz14_0
                try clear hcz14_1
                try clear hcz19_0
                try clear hcz19_1
                try clear hcz22_0
                try clear hcz22_1
                try clear hcz22_2
                try clear hcz26_0
                try clear hcz26_1
                try clear hcz26_2
                try clear hcz36_0
                try clear hcz36_1
                try clear hcz36_2
                try clear hcz39_0
                try clear hcz39_1
                try clear hcz39_2
                try clear hcz48_0
                try clear hcz48_1
                try clear hcz48_2
                try clear hcz52_0
                try clear hcz52_1
                try clear hcz52_2
                try clear hcz58_0
                try clear hcz58_1
                try clear hcz58_2
                try clear hcz5_0
                try clear hcz5_1
                try clear hcz61_0
                try clear hcz61_1
                try clear hcz61_2
                try clear hcz6_0
                try clear hcz6_1
                try clear hcz9_0
                try clear hcz9_1
                try clear hfz13_0
                try clear hfz13_1
                try clear hfz14_0
                try clear hfz14_1
                try clear hfz19_0
                try clear hfz19_1
                try clear hfz22_0
                try clear hfz22_1
                try clear hfz22_2
                try clear hfz26_0
                try clear hfz26_1
                try clear hfz26_2
                try clear hfz36_0
                try clear hfz36_1
                try clear hfz36_2
                try clear hfz39_0
                try clear hfz39_1
                try clear hfz39_2
                try clear hfz48_0
                try clear hfz48_1
                try clear hfz48_2
                try clear hfz52_0
                try clear hfz52_1
                try clear hfz52_2
                try clear hfz58_0
                try clear hfz58_1
                try clear hfz58_2
                try clear hfz5_0
                try clear hfz5_1
                try clear hfz61_0
                try clear hfz61_1
                try clear hfz61_2
                try clear hfz6_0
                try clear hfz6_1
                try clear hfz9_0
                try clear hfz9_1
                try clear hx177_0
                try clear hx177_1
                try clear hx177_2
                try clear p1
                try clear p17
                try clear p177
                try clear p2
                try clear q1
                try clear q17
                try clear q177
                obtain ⟨kq, x153_61, rfl, HA, HJ61, HO_3, HO_6, HO_8, HO_10, HO_18, HO_19, BK172, BK178, HB⟩ := hcut
                cases kq with
                | zero => exact absurd HA.out (by simp [beaconlaw22_SizeExact.j6])
                | succ kj61 =>
                 have H := HA.out
                 clear HA
                 simp only [beaconlaw22_SizeExact.j6] at H
                 by_cases c106 : x153_61 = true
                 ·subst c106
                  have H1 : (some false) = some r := by rw [if_pos rfl] at H; exact H
                  clear H
                  have H := H1
                  clear H1
                  obtain rfl := Option.some.inj H
                  go_wp2
                  go_ret
                  exact ⟨by first | rfl | (simp [errW_none, errW_some] <;> rfl) | (simp [*, errW_none, errW_some] <;> rfl), by repeat (first | (with_reducible first | exact HB.out | apply below_alloc | apply pw_below_drewN | apply below_drew1 | refine below_set ?_ GE172.out | refine below_set ?_ GE178.out) | exact HB.out)⟩
                 ·replace c106 := Bool.eq_false_iff.mpr c106
                  subst c106
                  have H1 : (beaconlaw22_SizeExact.l1 kj61 x3_2 x4_2 t180 t184 t188 x15_31 x16_31 x18_31 x19_31 0 l0_0 l0_1 x179000_17 ((rd_T75 l0_1 x4_2).f1) ((rd_T75 l0_1 x4_2).f2)) = some r := by rw [if_neg (show ¬ (false = true) by decide)] at H; exact H
                  clear H
                  have H := H1
                  clear H1
                  have H' := Aside0.mk H
                  clear H
                  go_wp2
                  go_loopg [22] kj61 (fun kq v22 w' => ∃ (x8_7 : List (S75)) (x22_7 : Int) (x179000_7 : Int) (x179001_7 : Int) (x179002_7 : Int), v22 = .int .i64 x22_7 ∧ Aside0 (beaconlaw22_SizeExact.l1 kq x3_2 x4_2 t180 x8_7 t188 x15_31 x16_31 x18_31 x19_31 x22_7 l0_0 l0_1 x179000_7 x179001_7 x179002_7 = some r) ∧ Aside0 (kq ≤ kj61) ∧ Aside0 (Kd.R k75 75 w' w.heap.size (fun k_ => some k_ ≠ ((.slice Ao37 t180.length co37) : Value).ownBlock ∧ some k_ ≠ (v185 : Value).ownBlock ∧ some k_ ≠ (v190 : Value).ownBlock ∧ some k_ ≠ (u18 : Value).ownBlock ∧ some k_ ≠ (u19 : Value).ownBlock ∧ k_ ≠ gb178) (.slice Ao33 x3_2.length co33) x3_2) ∧ Aside0 (Kd.R k75 75 w' w.heap.size (fun k_ => some k_ ≠ ((.slice Ao33 x3_2.length co33) : Value).ownBlock ∧ some k_ ≠ (v185 : Value).ownBlock ∧ some k_ ≠ (v190 : Value).ownBlock ∧ some k_ ≠ (u18 : Value).ownBlock ∧ some k_ ≠ (u19 : Value).ownBlock ∧ k_ ≠ gb178) (.slice Ao37 t180.length co37) t180) ∧ Aside0 (Kd.R k75 75 w' w.heap.size (fun k_ => some k_ ≠ ((.slice Ao33 x3_2.length co33) : Value).ownBlock ∧ some k_ ≠ ((.slice Ao37 t180.length co37) : Value).ownBlock ∧ some k_ ≠ (v190 : Value).ownBlock ∧ some k_ ≠ (u18 : Value).ownBlock ∧ some k_ ≠ (u19 : Value).ownBlock ∧ k_ ≠ gb178) v185 x8_7) ∧ Aside0 (Kd.R k75 75 w' w.heap.size (fun k_ => some k_ ≠ ((.slice Ao33 x3_2.length co33) : Value).ownBlock ∧ some k_ ≠ ((.slice Ao37 t180.length co37) : Value).ownBlock ∧ some k_ ≠ (v185 : Value).ownBlock ∧ some k_ ≠ (u18 : Value).ownBlock ∧ some k_ ≠ (u19 : Value).ownBlock ∧ k_ ≠ gb178) v190 t188) ∧ Aside0 (Kd.R k75 75 w' w.heap.size (fun k_ => some k_ ≠ ((.slice Ao33 x3_2.length co33) : Value).ownBlock ∧ some k_ ≠ ((.slice Ao37 t180.length co37) : Value).ownBlock ∧ some k_ ≠ (v185 : Value).ownBlock ∧ some k_ ≠ (v190 : Value).ownBlock ∧ some k_ ≠ (u19 : Value).ownBlock ∧ k_ ≠ gb178) u18 x18_31) ∧ Aside0 (Kd.R k75 75 w' w.heap.size (fun k_ => some k_ ≠ ((.slice Ao33 x3_2.length co33) : Value).ownBlock ∧ some k_ ≠ ((.slice Ao37 t180.length co37) : Value).ownBlock ∧ some k_ ≠ (v185 : Value).ownBlock ∧ some k_ ≠ (v190 : Value).ownBlock ∧ some k_ ≠ (u18 : Value).ownBlock ∧ k_ ≠ gb178) u19 x19_31) ∧ Aside0 (w'.heap[gb172]? = some (.cells #[(.slice A0_0 l0_0.length c0_0), (.slice (some ad177) l0_1.length c0_1)] 73 (0, 0))) ∧ Aside0 (w'.heap[gb178]? = some (.cells #[.int .i64 x179000_7, .int .i64 x179001_7, .int .i64 x179002_7] 75 (0, 0))) ∧ Aside0 (Below w.heap.size w w'))
                  case atStart => exact ⟨(t184), (0), (x179000_17), (((rd_T75 l0_1 x4_2).f1)), (((rd_T75 l0_1 x4_2).f2)), (by first | rfl | (simp; done) | (simp [*]; done)), H', ⟨Nat.le_refl _⟩, ⟨by (with_reducible repeat (first | apply Kd.R_alloc | apply Kd.R_drewN | apply Kd.R_drew)); exact HO_3.out⟩, ⟨by (with_reducible repeat (first | apply Kd.R_alloc | apply Kd.R_drewN | apply Kd.R_drew)); exact HO_6.out⟩, ⟨by (with_reducible repeat (first | apply Kd.R_alloc | apply Kd.R_drewN | apply Kd.R_drew)); exact HO_8.out⟩, ⟨by (with_reducible repeat (first | apply Kd.R_alloc | apply Kd.R_drewN | apply Kd.R_drew)); exact HO_10.out⟩, ⟨by (with_reducible repeat (first | apply Kd.R_alloc | apply Kd.R_drewN | apply Kd.R_drew)); exact HO_18.out⟩, ⟨by (with_reducible repeat (first | apply Kd.R_alloc | apply Kd.R_drewN | apply Kd.R_drew)); exact HO_19.out⟩, ⟨by (with_reducible repeat (first | refine blk_drewN ?_ _ | refine blk_drew ?_ | refine blk_alloc ?_ _)); exact BK172.out⟩, ⟨by (with_reducible repeat (first | refine blk_drewN ?_ _ | refine blk_drew ?_ | refine blk_alloc ?_ _)); exact BK178.out⟩, ⟨by repeat (first | (with_reducible first | exact HB.out | apply below_alloc | apply pw_below_drewN | apply below_drew1 | refine below_set ?_ GE172.out | refine below_set ?_ GE178.out) | exact HB.out)⟩⟩
                  case round =>
                   clear H'
                   try clear c1
                   try clear p1
                   try clear q1
                   try clear hx1
                   try clear c2
                   try clear p2
                   try clear c3
                   try clear c4
                   try clear c4b0
                   try clear c4b1
                   try clear c5
                   try clear c6
                   try clear c7
                   try clear c9
                   try clear c10
                   try clear c12
                   try clear c12b0
                   try clear c15
                   try clear c16
                   try clear c16b0
                   try clear c17
                   try clear c17b0
                   try clear p17
                   try clear q17
                   try clear hx17
                   try clear c19
                   try clear c21
                   try clear c23
                   try clear c23b0
                   try clear c25
                   try clear c35
                   try clear c39
                   try clear c40
                   try clear c41
                   try clear c42
                   try clear c43
                   try clear c45
                   try clear c46
                   try clear c47
                   try clear c48
                   try clear c49
                   try clear c50
                   try clear c51
                   try clear c55
                   try clear c57
                   try clear c60
                   try clear c65
                   try clear c65b0
                   try clear c65b1
                   try clear c65b2
                   try clear c68
                   try clear c68b0
                   try clear c68b1
                   try clear c70
                   try clear c70b0
                   try clear c70b1
                   try clear c72
                   try clear c72b0
                   try clear c72b1
                   try clear c74
                   try clear c76
                   try clear c77
                   try clear c77b0
                   try clear c77b1
                   try clear c78
                   try clear c78b0
                   try clear c78b1
                   try clear c106
                   try clear hcz13_0
                   try clear hcz13_1
                   try clear hcz14_0
                   try clear hcz14_1
                   try clear hcz19_0
                   try clear hcz19_1
                   try clear hcz22_0
                   try clear hcz22_1
                   try clear hcz22_2
                   try clear hcz26_0
                   try clear hcz26_1
                   try clear hcz26_2
                   try clear hcz36_0
                   try clear hcz36_1
                   try clear hcz36_2
                   try clear hcz39_0
                   try clear hcz39_1
                   try clear hcz39_2
                   try clear hcz48_0
                   try clear hcz48_1
                   try clear hcz48_2
                   try clear hcz52_0
                   try clear hcz52_1
                   try clear hcz52_2
                   try clear hcz58_0
                   try clear hcz58_1
                   try clear hcz58_2
                   try clear hcz5_0
                   try clear hcz5_1
                   try clear hcz61_0
                   try clear hcz61_1
                   try clear hcz61_2
                   try clear hcz6_0
                   try clear hcz6_1
                   try clear hcz9_0
                   try clear hcz9_1
                   try clear hfz13_0
                   try clear hfz13_1
                   try clear hfz14_0
                   try clear hfz14_1
                   try clear hfz19_0
                   try clear hfz19_1
                   try clear hfz22_0
                   try clear hfz22_1
                   try clear hfz22_2
                   try clear hfz26_0
                   try clear hfz26_1
                   try clear hfz26_2
                   try clear hfz36_0
                   try clear hfz36_1
                   try clear hfz36_2
                   try clear hfz39_0
                   try clear hfz39_1
                   try clear hfz39_2
                   try clear hfz48_0
                   try clear hfz48_1
                   try clear hfz48_2
                   try clear hfz52_0
                   try clear hfz52_1
                   try clear hfz52_2
                   try clear hfz58_0
                   try clear hfz58_1
                   try clear hfz58_2
                   try clear hfz5_0
                   try clear hfz5_1
                   try clear hfz61_0
                   try clear hfz61_1
                   try clear hfz61_2
                   try clear hfz6_0
                   try clear hfz6_1
                   try clear hfz9_0
                   try clear hfz9_1
                   try clear hx177_0
                   try clear hx177_1
                   try clear hx177_2
                   try clear p1
                   try clear p17
                   try clear p177
                   try clear p2
                   try clear q1
                   try clear q17
                   try clear q177
                   obtain ⟨x8_7, x22_7, x179000_7, x179001_7, x179002_7, rfl, HA, HK7, HO_3, HO_6, HO_8, HO_10, HO_18, HO_19, BK172, BK178, HB⟩ := hrel
                   cases gk with
                   | zero => exact absurd HA.out (by simp [beaconlaw22_SizeExact.l1])
                   | succ k7 =>
                    have H := HA.out
                    clear HA
                    simp only [beaconlaw22_SizeExact.l1] at H
                    by_cases c107 : x22_7 < (x8_7.length : Int)
                    ·as_aux_lemma =>
                     rw [if_pos c107] at H
                     have c107b0 : decide (x22_7 < (x8_7.length : Int)) = true := decide_eq_true c107
                     clear c107
                     by_cases c108 : 0 ≤ x22_7
                     ·as_aux_lemma =>
                      rw [if_pos c108] at H
                      have c108b0 : decide (0 ≤ x22_7) = true := decide_eq_true c108
                      clear c108
                      obtain ⟨y213, hy213⟩ : ∃ y_ : List (S75), y_ = (x8_7.set (x22_7 : Int).toNat (⟨(-9), 0, 0⟩ : S75)) := ⟨_, rfl⟩
                      replace H : (beaconlaw22_SizeExact.l1 k7 x3_2 x4_2 t180 y213 t188 x15_31 x16_31 x18_31 x19_31 (wrap64 (x22_7 + 1)) l0_0 l0_1 x179000_7 x179001_7 x179002_7) = some r := by first | (rw [hy213]; with_reducible exact H) | (have H2_ := (Option.bind_some _ _).symm.trans H; rw [hy213]; with_reducible exact H2_) | (have H2_ := (Option.bind_some _ _).symm.trans H; with_reducible exact H2_) | with_reducible exact H | (rw [hy213]; exact H) | exact H
                      have Ny213 := Aside0.mk hy213
                      clear hy213
                      have H' := Aside0.mk H
                      clear H
                      obtain ⟨Ao110, co110, eo110⟩ := Kd.R_slice HO_8.out
                      subst eo110
                      have p109 : 0 ≤ (x22_7 : Int) := of_decide_eq_true (by first | (with_reducible assumption) | assumption)
                      have q109 : (x22_7 : Int) < ((x8_7.length : Int) : Int) := of_decide_eq_true (by first | (with_reducible assumption) | assumption)
                      obtain ⟨go109, co109, eo109, gb109, gl109, cl109, HG109⟩ := Kd.R_form HO_8.out (by omega)
                      (first | cases eo109 | (injection eo109 with ea_ en_ ec_; (first | subst ea_ | (injection ea_ with ea_; subst ea_)); subst ec_; clear en_))
                      have GB109 := Aside0.mk gb109
                      have GG109 := Aside0.mk HG109
                      clear gb109 gl109 HG109
                      obtain ⟨ce109, hcl109, hM109, hcc109, hfr109⟩ := Kd.R_elem HO_8.out z75 (x22_7 : Int) p109 q109
                      obtain rfl := k75_openM hM109
                      have hx109_0 : wr.cell? ⟨go109, (x22_7 : Int).toNat * 3, none⟩ = some (.int .i64 ((rd_T75 x8_7 x22_7).f0)) := hcc109 0 _ rfl
                      have hx109_1 : wr.cell? ⟨go109, (x22_7 : Int).toNat * 3 + 1, none⟩ = some (.int .i64 ((rd_T75 x8_7 x22_7).f1)) := hcc109 1 _ rfl
                      have hx109_2 : wr.cell? ⟨go109, (x22_7 : Int).toNat * 3 + 2, none⟩ = some (.int .i64 ((rd_T75 x8_7 x22_7).f2)) := hcc109 2 _ rfl
                      have hf109_0 : wr.frozen? ⟨go109, (x22_7 : Int).toNat * 3, none⟩ = false := hfr109 0
                      have hf109_1 : wr.frozen? ⟨go109, (x22_7 : Int).toNat * 3 + 1, none⟩ = false := hfr109 1
                      have hf109_2 : wr.frozen? ⟨go109, (x22_7 : Int).toNat * 3 + 2, none⟩ = false := hfr109 2
                      clear hcl109 hcc109 hfr109 hM109
                      replace p109 := eq_true p109
                      replace q109 := eq_true q109
                      have HX111 := Aside0.mk (show Kd.R k75 75 wr w.heap.size (fun k_ => some k_ ≠ (.slice Ao33 x3_2.length co33 : Value).ownBlock ∧ some k_ ≠ (.slice Ao37 t180.length co37 : Value).ownBlock ∧ some k_ ≠ (v190 : Value).ownBlock ∧ some k_ ≠ (u18 : Value).ownBlock ∧ some k_ ≠ (u19 : Value).ownBlock ∧ k_ ≠ gb178) (.slice (some ⟨go109, 0, none⟩) x8_7.length co110) x8_7 from (by (with_reducible repeat (first | apply Kd.R_alloc | apply Kd.R_drewN | apply Kd.R_drew)); exact HO_8.out))
                      obtain ⟨ce111, hcl111, hM111, hcc111, hfr111⟩ := Kd.R_elem HX111.out z75 (x22_7 : Int) (of_decide_eq_true (by first | (with_reducible assumption) | assumption)) (by have h_ : (x22_7 : Int) < ((x8_7.length : Int) : Int) := of_decide_eq_true (by first | (with_reducible assumption) | assumption); first | exact h_ | (have e_ := (Kd.R_reads' HO_8.out).1; omega) | simpa using h_)
                      obtain rfl := k75_openM hM111
                      have HP111 := Kd.R_seg HX111.out (x22_7 : Int) (of_decide_eq_true (by first | (with_reducible assumption) | assumption)) (by have h_ : (x22_7 : Int) < ((x8_7.length : Int) : Int) := of_decide_eq_true (by first | (with_reducible assumption) | assumption); first | exact h_ | (have e_ := (Kd.R_reads' HO_8.out).1; omega) | simpa using h_) (seg := [.int .i64 (-9), .int .i64 0, .int .i64 0]) (j := 0) hcl111 hcc111 (show 3 ≤ 3 from by decide) (x' := (⟨(-9), 0, 0⟩ : S75)) (k75_mkM _ _ _ (⟨(-9), 0, 0⟩ : S75) ) (fun _ hk => hk)
                      have hx111_0 := hcc111 0 _ rfl
                      (try simp only [show (k75).sz = 3 from rfl, Nat.mul_one, Nat.add_zero] at hx111_0)
                      have hf111_0 := hfr111 0
                      (try simp only [show (k75).sz = 3 from rfl, Nat.mul_one, Nat.add_zero] at hf111_0)
                      have hx111_1 := hcc111 1 _ rfl
                      (try simp only [show (k75).sz = 3 from rfl, Nat.mul_one, Nat.add_zero] at hx111_1)
                      have hf111_1 := hfr111 1
                      (try simp only [show (k75).sz = 3 from rfl, Nat.mul_one, Nat.add_zero] at hf111_1)
                      have hx111_2 := hcc111 2 _ rfl
                      (try simp only [show (k75).sz = 3 from rfl, Nat.mul_one, Nat.add_zero] at hx111_2)
                      have hf111_2 := hfr111 2
                      (try simp only [show (k75).sz = 3 from rfl, Nat.mul_one, Nat.add_zero] at hf111_2)
                      clear hcl111 hcc111 hfr111 hM111
                      go_wp2_with (first | ((with_reducible refine gate_store (t := 75) (p := 163) rfl ?_); refine store_event (t := 75) (p := 163) (v := ?vo_w112) (w1 := (((wr.setCell ⟨go109, (x22_7 : Int).toNat * 3, none⟩ (.int .i64 (-9))).setCell ⟨go109, (x22_7 : Int).toNat * 3 + 1, none⟩ (.int .i64 0)).setCell ⟨go109, (x22_7 : Int).toNat * 3 + 2, none⟩ (.int .i64 0))) ?hg ?ho ?hn ?hr ?_; (case ho => rfl); (case hg => rfl); (case hn => rfl); (case hr => first | (go_simp; done) | (go_simp; rfl)); intro w112 hw; have hg : wr.grownBy w112 (some go109) := (by rw [hw]; exact HP111.2); have hp_ : Kd.R k75 75 w112 w.heap.size (fun k_ => some k_ ≠ (.slice Ao33 x3_2.length co33 : Value).ownBlock ∧ some k_ ≠ (.slice Ao37 t180.length co37 : Value).ownBlock ∧ some k_ ≠ (v190 : Value).ownBlock ∧ some k_ ≠ (u18 : Value).ownBlock ∧ some k_ ≠ (u19 : Value).ownBlock ∧ k_ ≠ gb178) (.slice (some ⟨go109, 0, none⟩) x8_7.length co110) y213 := (by rw [hw, Ny213.out]; exact HP111.1); clear HP111; have n0_ := Aside0.mk (Kd.R_after (v := (.slice (some ⟨go109, 0, none⟩) x8_7.length co110)) (v1 := (.slice (some ⟨go109, 0, none⟩) x8_7.length co110)) (ok := (fun k_ => some k_ ≠ (.slice Ao37 t180.length co37 : Value).ownBlock ∧ some k_ ≠ (v190 : Value).ownBlock ∧ some k_ ≠ (u18 : Value).ownBlock ∧ some k_ ≠ (u19 : Value).ownBlock ∧ k_ ≠ gb178)) (by (with_reducible repeat (first | apply Kd.R_alloc | apply Kd.R_drewN | apply Kd.R_drew)); exact Kd.R_mono HO_3.out (fun _ hk => ⟨⟨hk.1, ⟨hk.2.2.1, ⟨hk.2.2.2.1, ⟨hk.2.2.2.2.1, hk.2.2.2.2.2⟩⟩⟩⟩, hk.2.1⟩)) hg (.inl rfl)); have n1_ := Aside0.mk (Kd.R_after (v := (.slice (some ⟨go109, 0, none⟩) x8_7.length co110)) (v1 := (.slice (some ⟨go109, 0, none⟩) x8_7.length co110)) (ok := (fun k_ => some k_ ≠ (.slice Ao33 x3_2.length co33 : Value).ownBlock ∧ some k_ ≠ (v190 : Value).ownBlock ∧ some k_ ≠ (u18 : Value).ownBlock ∧ some k_ ≠ (u19 : Value).ownBlock ∧ k_ ≠ gb178)) (by (with_reducible repeat (first | apply Kd.R_alloc | apply Kd.R_drewN | apply Kd.R_drew)); exact Kd.R_mono HO_6.out (fun _ hk => ⟨⟨hk.1, ⟨hk.2.2.1, ⟨hk.2.2.2.1, ⟨hk.2.2.2.2.1, hk.2.2.2.2.2⟩⟩⟩⟩, hk.2.1⟩)) hg (.inl rfl)); have n2_ := Aside0.mk (hp_); have n3_ := Aside0.mk (Kd.R_after (v := (.slice (some ⟨go109, 0, none⟩) x8_7.length co110)) (v1 := (.slice (some ⟨go109, 0, none⟩) x8_7.length co110)) (ok := (fun k_ => some k_ ≠ (.slice Ao33 x3_2.length co33 : Value).ownBlock ∧ some k_ ≠ (.slice Ao37 t180.length co37 : Value).ownBlock ∧ some k_ ≠ (u18 : Value).ownBlock ∧ some k_ ≠ (u19 : Value).ownBlock ∧ k_ ≠ gb178)) (by (with_reducible repeat (first | apply Kd.R_alloc | apply Kd.R_drewN | apply Kd.R_drew)); exact Kd.R_mono HO_10.out (fun _ hk => ⟨⟨hk.1, ⟨hk.2.1, ⟨hk.2.2.2.1, ⟨hk.2.2.2.2.1, hk.2.2.2.2.2⟩⟩⟩⟩, hk.2.2.1⟩)) hg (.inl rfl)); have n4_ := Aside0.mk (Kd.R_after (v := (.slice (some ⟨go109, 0, none⟩) x8_7.length co110)) (v1 := (.slice (some ⟨go109, 0, none⟩) x8_7.length co110)) (ok := (fun k_ => some k_ ≠ (.slice Ao33 x3_2.length co33 : Value).ownBlock ∧ some k_ ≠ (.slice Ao37 t180.length co37 : Value).ownBlock ∧ some k_ ≠ (v190 : Value).ownBlock ∧ some k_ ≠ (u19 : Value).ownBlock ∧ k_ ≠ gb178)) (by (with_reducible repeat (first | apply Kd.R_alloc | apply Kd.R_drewN | apply Kd.R_drew)); exact Kd.R_mono HO_18.out (fun _ hk => ⟨⟨hk.1, ⟨hk.2.1, ⟨hk.2.2.2.1, ⟨hk.2.2.2.2.1, hk.2.2.2.2.2⟩⟩⟩⟩, hk.2.2.1⟩)) hg (.inl rfl)); have n5_ := Aside0.mk (Kd.R_after (v := (.slice (some ⟨go109, 0, none⟩) x8_7.length co110)) (v1 := (.slice (some ⟨go109, 0, none⟩) x8_7.length co110)) (ok := (fun k_ => some k_ ≠ (.slice Ao33 x3_2.length co33 : Value).ownBlock ∧ some k_ ≠ (.slice Ao37 t180.length co37 : Value).ownBlock ∧ some k_ ≠ (v190 : Value).ownBlock ∧ some k_ ≠ (u18 : Value).ownBlock ∧ k_ ≠ gb178)) (by (with_reducible repeat (first | apply Kd.R_alloc | apply Kd.R_drewN | apply Kd.R_drew)); exact Kd.R_mono HO_19.out (fun _ hk => ⟨⟨hk.1, ⟨hk.2.1, ⟨hk.2.2.2.1, ⟨hk.2.2.2.2.1, hk.2.2.2.2.2⟩⟩⟩⟩, hk.2.2.1⟩)) hg (.inl rfl)); have n6_ := Aside0.mk (blk_grown (g := gb172) (o := .cells #[.slice A0_0 l0_0.length c0_0, .slice (some ad177) l0_1.length c0_1] 73 (0, 0)) (by (with_reducible repeat (first | refine blk_drewN ?_ _ | refine blk_drew ?_ | refine blk_alloc ?_ _)); exact BK172.out) hg (Kd.R_ne HO_8.out BK172.out (by decide))); have n7_ := Aside0.mk (blk_grown (g := gb178) (o := .cells #[.int .i64 x179000_7, .int .i64 x179001_7, .int .i64 x179002_7] 75 (0, 0)) (by (with_reducible repeat (first | refine blk_drewN ?_ _ | refine blk_drew ?_ | refine blk_alloc ?_ _)); exact BK178.out) hg (Kd.R_away HO_8.out (fun _ hk => hk.2.2.2.2.2))); have n8_ := Aside0.mk ((by rw [hw]; exact below_set (below_set (below_set (HB.out) GB109.out) GB109.out) GB109.out : Below w.heap.size w w112)); clear HO_3; clear HO_6; clear HO_8; clear HO_10; clear HO_18; clear HO_19; clear BK172; clear BK178; clear HB; have HO_3 := n0_; have HO_6 := n1_; have HO_8 := n2_; have HO_10 := n3_; have HO_18 := n4_; have HO_19 := n5_; have BK172 := n6_; have BK178 := n7_; have HB := n8_; clear n0_ n1_ n2_ n3_ n4_ n5_ n6_ n7_ n8_; clear hg hw hp_))
                      go_roundg k7
                      case measure => have := HJ1.out; have := HK2.out; have := HJ10.out; have := HJ17.out; have := HJ31.out; have := HJ61.out; have := HK7.out; omega
                      case rel => exact ⟨(y213), (wrap64 (x22_7 + 1)), (x179000_7), (x179001_7), (x179002_7), (by first | rfl | (simp; done) | (simp [*]; done)), H', ⟨by have := HJ1.out; have := HK2.out; have := HJ10.out; have := HJ17.out; have := HJ31.out; have := HJ61.out; have := HK7.out; omega⟩, ⟨by (with_reducible repeat (first | apply Kd.R_alloc | apply Kd.R_drewN | apply Kd.R_drew)); exact Kd.R_mono HO_3.out (fun _ hk => ⟨hk.1.1, ⟨hk.2, ⟨hk.1.2.1, ⟨hk.1.2.2.1, ⟨hk.1.2.2.2.1, hk.1.2.2.2.2⟩⟩⟩⟩⟩)⟩, ⟨by (with_reducible repeat (first | apply Kd.R_alloc | apply Kd.R_drewN | apply Kd.R_drew)); exact Kd.R_mono HO_6.out (fun _ hk => ⟨hk.1.1, ⟨hk.2, ⟨hk.1.2.1, ⟨hk.1.2.2.1, ⟨hk.1.2.2.2.1, hk.1.2.2.2.2⟩⟩⟩⟩⟩)⟩, ⟨by (with_reducible repeat (first | apply Kd.R_alloc | apply Kd.R_drewN | apply Kd.R_drew)); exact HO_8.out⟩, ⟨by (with_reducible repeat (first | apply Kd.R_alloc | apply Kd.R_drewN | apply Kd.R_drew)); exact Kd.R_mono HO_10.out (fun _ hk => ⟨hk.1.1, ⟨hk.1.2.1, ⟨hk.2, ⟨hk.1.2.2.1, ⟨hk.1.2.2.2.1, hk.1.2.2.2.2⟩⟩⟩⟩⟩)⟩, ⟨by (with_reducible repeat (first | apply Kd.R_alloc | apply Kd.R_drewN | apply Kd.R_drew)); exact Kd.R_mono HO_18.out (fun _ hk => ⟨hk.1.1, ⟨hk.1.2.1, ⟨hk.2, ⟨hk.1.2.2.1, ⟨hk.1.2.2.2.1, hk.1.2.2.2.2⟩⟩⟩⟩⟩)⟩, ⟨by (with_reducible repeat (first | apply Kd.R_alloc | apply Kd.R_drewN | apply Kd.R_drew)); exact Kd.R_mono HO_19.out (fun _ hk => ⟨hk.1.1, ⟨hk.1.2.1, ⟨hk.2, ⟨hk.1.2.2.1, ⟨hk.1.2.2.2.1, hk.1.2.2.2.2⟩⟩⟩⟩⟩)⟩, ⟨by (with_reducible repeat (first | refine blk_drewN ?_ _ | refine blk_drew ?_ | refine blk_alloc ?_ _)); exact BK172.out⟩, ⟨by (with_reducible repeat (first | refine blk_drewN ?_ _ | refine blk_drew ?_ | refine blk_alloc ?_ _)); exact BK178.out⟩, ⟨by repeat (first | (with_reducible first | exact HB.out | apply below_alloc | apply pw_below_drewN | apply below_drew1 | refine below_set ?_ GE172.out | refine below_set ?_ GE178.out) | exact HB.out)⟩⟩
                     ·as_aux_lemma =>
                      rw [if_neg c108] at H
                      exact absurd H (by simp)
                    ·as_aux_lemma =>
                     rw [if_neg c107] at H
                     have c107b0 : decide (x22_7 < (x8_7.length : Int)) = false := decide_eq_false c107
                     clear c107
                     have H' := Aside0.mk H
                     clear H
                     obtain ⟨Ao113, co113, eo113⟩ := Kd.R_slice HO_8.out
                     subst eo113
                     go_wp2
                     go_loopg [23] k7 (fun kq v23 w' => ∃ (x10_8 : List (S75)) (x23_8 : Int) (x179000_8 : Int) (x179001_8 : Int) (x179002_8 : Int), v23 = .int .i64 x23_8 ∧ Aside0 (beaconlaw22_SizeExact.l2 kq x3_2 x4_2 t180 x10_8 x15_31 x16_31 x18_31 x19_31 x23_8 l0_0 l0_1 x179000_8 x179001_8 x179002_8 = some r) ∧ Aside0 (kq ≤ k7) ∧ Aside0 (Kd.R k75 75 w' w.heap.size (fun k_ => some k_ ≠ ((.slice Ao37 t180.length co37) : Value).ownBlock ∧ some k_ ≠ (v190 : Value).ownBlock ∧ some k_ ≠ (u18 : Value).ownBlock ∧ some k_ ≠ (u19 : Value).ownBlock ∧ k_ ≠ gb178) (.slice Ao33 x3_2.length co33) x3_2) ∧ Aside0 (Kd.R k75 75 w' w.heap.size (fun k_ => some k_ ≠ ((.slice Ao33 x3_2.length co33) : Value).ownBlock ∧ some k_ ≠ (v190 : Value).ownBlock ∧ some k_ ≠ (u18 : Value).ownBlock ∧ some k_ ≠ (u19 : Value).ownBlock ∧ k_ ≠ gb178) (.slice Ao37 t180.length co37) t180) ∧ Aside0 (Kd.R k75 75 w' w.heap.size (fun k_ => some k_ ≠ ((.slice Ao33 x3_2.length co33) : Value).ownBlock ∧ some k_ ≠ ((.slice Ao37 t180.length co37) : Value).ownBlock ∧ some k_ ≠ (u18 : Value).ownBlock ∧ some k_ ≠ (u19 : Value).ownBlock ∧ k_ ≠ gb178) v190 x10_8) ∧ Aside0 (Kd.R k75 75 w' w.heap.size (fun k_ => some k_ ≠ ((.slice Ao33 x3_2.length co33) : Value).ownBlock ∧ some k_ ≠ ((.slice Ao37 t180.length co37) : Value).ownBlock ∧ some k_ ≠ (v190 : Value).ownBlock ∧ some k_ ≠ (u19 : Value).ownBlock ∧ k_ ≠ gb178) u18 x18_31) ∧ Aside0 (Kd.R k75 75 w' w.heap.size (fun k_ => some k_ ≠ ((.slice Ao33 x3_2.length co33) : Value).ownBlock ∧ some k_ ≠ ((.slice Ao37 t180.length co37) : Value).ownBlock ∧ some k_ ≠ (v190 : Value).ownBlock ∧ some k_ ≠ (u18 : Value).ownBlock ∧ k_ ≠ gb178) u19 x19_31) ∧ Aside0 (w'.heap[gb172]? = some (.cells #[(.slice A0_0 l0_0.length c0_0), (.slice (some ad177) l0_1.length c0_1)] 73 (0, 0))) ∧ Aside0 (w'.heap[gb178]? = some (.cells #[.int .i64 x179000_8, .int .i64 x179001_8, .int .i64 x179002_8] 75 (0, 0))) ∧ Aside0 (Below w.heap.size w w'))
                     case atStart => exact ⟨(t188), (0), (x179000_7), (x179001_7), (x179002_7), (by first | rfl | (simp; done) | (simp [*]; done)), H', ⟨Nat.le_refl _⟩, ⟨by (with_reducible repeat (first | apply Kd.R_alloc | apply Kd.R_drewN | apply Kd.R_drew)); exact Kd.R_mono HO_3.out (fun _ hk => ⟨hk.1, ⟨hk.2.2.1, ⟨hk.2.2.2.1, ⟨hk.2.2.2.2.1, hk.2.2.2.2.2⟩⟩⟩⟩)⟩, ⟨by (with_reducible repeat (first | apply Kd.R_alloc | apply Kd.R_drewN | apply Kd.R_drew)); exact Kd.R_mono HO_6.out (fun _ hk => ⟨hk.1, ⟨hk.2.2.1, ⟨hk.2.2.2.1, ⟨hk.2.2.2.2.1, hk.2.2.2.2.2⟩⟩⟩⟩)⟩, ⟨by (with_reducible repeat (first | apply Kd.R_alloc | apply Kd.R_drewN | apply Kd.R_drew)); exact Kd.R_mono HO_10.out (fun _ hk => ⟨hk.1, ⟨hk.2.1, ⟨hk.2.2.2.1, ⟨hk.2.2.2.2.1, hk.2.2.2.2.2⟩⟩⟩⟩)⟩, ⟨by (with_reducible repeat (first | apply Kd.R_alloc | apply Kd.R_drewN | apply Kd.R_drew)); exact Kd.R_mono HO_18.out (fun _ hk => ⟨hk.1, ⟨hk.2.1, ⟨hk.2.2.2.1, ⟨hk.2.2.2.2.1, hk.2.2.2.2.2⟩⟩⟩⟩)⟩, ⟨by (with_reducible repeat (first | apply Kd.R_alloc | apply Kd.R_drewN | apply Kd.R_drew)); exact Kd.R_mono HO_19.out (fun _ hk => ⟨hk.1, ⟨hk.2.1, ⟨hk.2.2.2.1, ⟨hk.2.2.2.2.1, hk.2.2.2.2.2⟩⟩⟩⟩)⟩, ⟨by (with_reducible repeat (first | refine blk_drewN ?_ _ | refine blk_drew ?_ | refine blk_alloc ?_ _)); exact BK172.out⟩, ⟨by (with_reducible repeat (first | refine blk_drewN ?_ _ | refine blk_drew ?_ | refine blk_alloc ?_ _)); exact BK178.out⟩, ⟨by repeat (first | (with_reducible first | exact HB.out | apply below_alloc | apply pw_below_drewN | apply below_drew1 | refine below_set ?_ GE172.out | refine below_set ?_ GE178.out) | exact HB.out)⟩⟩
                     case round =>
                      clear H'
                      try clear c1
                      try clear p1
                      try clear q1
                      try clear hx1
                      try clear hf1
                      try clear c2
                      try clear p2
                      try clear c3
                      try clear c4
                      try clear c4b0
                      try clear c4b1
                      try clear c5
                      try clear c6
                      try clear p6
                      try clear c7
                      try clear c9
                      try clear c10
                      try clear p10
                      try clear q10
                      try clear hx10
                      try clear hf10
                      try clear c11
                      try clear hx11
                      try clear hf11
                      try clear c12
                      try clear c12b0
                      try clear c15
                      try clear c16
                      try clear c16b0
                      try clear c17
                      try clear c17b0
                      try clear p17
                      try clear q17
                      try clear hx17
                      try clear c19
                      try clear c21
                      try clear c23
                      try clear c23b0
                      try clear c25
                      try clear c35
                      try clear c39
                      try clear c40
                      try clear c41
                      try clear c42
                      try clear c43
                      try clear c45
                      try clear c46
                      try clear c47
                      try clear c48
                      try clear c49
                      try clear c50
                      try clear c51
                      try clear c55
                      try clear c57
                      try clear c60
                      try clear p64
                      try clear c65
                      try clear c65b0
                      try clear c65b1
                      try clear c65b2
                      try clear c68
                      try clear c68b0
                      try clear c68b1
                      try clear c70
                      try clear c70b0
                      try clear c70b1
                      try clear c72
                      try clear c72b0
                      try clear c72b1
                      try clear c74
                      try clear c76
                      try clear c77
                      try clear c77b0
                      try clear c77b1
                      try clear c78
                      try clear c78b0
                      try clear c78b1
                      try clear c106
                      try clear c107
                      try clear c107b0
                      try clear c108
                      try clear c108b0
                      try clear c109
                      try clear p109
                      try clear q109
                      try clear hx109
                      try clear hf109
                      try clear c111
                      try clear hx111
                      try clear hf111
                      try clear hcz13_0
                      try clear hcz13_1
                      try clear hcz14_0
                      try clear hcz14_1
                      try clear hcz19_0
                      try clear hcz19_1
                      try clear hcz22_0
                      try clear hcz22_1
                      try clear hcz22_2
                      try clear hcz26_0
                      try clear hcz26_1
                      try clear hcz26_2
                      try clear hcz36_0
                      try clear hcz36_1
                      try clear hcz36_2
                      try clear hcz39_0
                      try clear hcz39_1
                      try clear hcz39_2
                      try clear hcz48_0
                      try clear hcz48_1
                      try clear hcz48_2
                      try clear hcz52_0
                      try clear hcz52_1
                      try clear hcz52_2
                      try clear hcz58_0
                      try clear hcz58_1
                      try clear hcz58_2
                      try clear hcz5_0
                      try clear hcz5_1
                      try clear hcz61_0
                      try clear hcz61_1
                      try clear hcz61_2
                      try clear hcz6_0
                      try clear hcz6_1
                      try clear hcz9_0
                      try clear hcz9_1
                      try clear hfz13_0
                      try clear hfz13_1
                      try clear hfz14_0
                      try clear hfz14_1
                      try clear hfz19_0
                      try clear hfz19_1
                      try clear hfz22_0
                      try clear hfz22_1
                      try clear hfz22_2
                      try clear hfz26_0
                      try clear hfz26_1
                      try clear hfz26_2
                      try clear hfz36_0
                      try clear hfz36_1
                      try clear hfz36_2
                      try clear hfz39_0
                      try clear hfz39_1
                      try clear hfz39_2
                      try clear hfz48_0
                      try clear hfz48_1
                      try clear hfz48_2
                      try clear hfz52_0
                      try clear hfz52_1
                      try clear hfz52_2
                      try clear hfz58_0
                      try clear hfz58_1
                      try clear hfz58_2
                      try clear hfz5_0
                      try clear hfz5_1
                      try clear hfz61_0
                      try clear hfz61_1
                      try clear hfz61_2
                      try clear hfz6_0
                      try clear hfz6_1
                      try clear hfz9_0
                      try clear hfz9_1
                      try clear hx109_0
                      try clear hx109_1
                      try clear hx109_2
                      try clear hx111_0
                      try clear hx111_1
                      try clear hx111_2
                      try clear hx177_0
                      try clear hx177_1
                      try clear hx177_2
                      try clear p1
                      try clear p109
                      try clear p17
                      try clear p177
                      try clear p2
                      try clear q1
                      try clear q109
                      try clear q17
                      try clear q177
                      obtain ⟨x10_8, x23_8, x179000_8, x179001_8, x179002_8, rfl, HA, HK8, HO_3, HO_6, HO_10, HO_18, HO_19, BK172, BK178, HB⟩ := hrel
                      cases gk with
                      | zero => exact absurd HA.out (by simp [beaconlaw22_SizeExact.l2])
                      | succ k8 =>
                       have H := HA.out
                       clear HA
                       simp only [beaconlaw22_SizeExact.l2] at H
                       by_cases c114 : x23_8 < (x10_8.length : Int)
                       ·as_aux_lemma =>
                        rw [if_pos c114] at H
                        have c114b0 : decide (x23_8 < (x10_8.length : Int)) = true := decide_eq_true c114
                        clear c114
                        by_cases c115 : 0 ≤ x23_8
                        ·as_aux_lemma =>
                         rw [if_pos c115] at H
                         have c115b0 : decide (0 ≤ x23_8) = true := decide_eq_true c115
                         clear c115
                         obtain ⟨y214, hy214⟩ : ∃ y_ : List (S75), y_ = (x10_8.set (x23_8 : Int).toNat (⟨(-9), 0, 0⟩ : S75)) := ⟨_, rfl⟩
                         replace H : (beaconlaw22_SizeExact.l2 k8 x3_2 x4_2 t180 y214 x15_31 x16_31 x18_31 x19_31 (wrap64 (x23_8 + 1)) l0_0 l0_1 x179000_8 x179001_8 x179002_8) = some r := by first | (rw [hy214]; with_reducible exact H) | (have H2_ := (Option.bind_some _ _).symm.trans H; rw [hy214]; with_reducible exact H2_) | (have H2_ := (Option.bind_some _ _).symm.trans H; with_reducible exact H2_) | with_reducible exact H | (rw [hy214]; exact H) | exact H
                         have Ny214 := Aside0.mk hy214
                         clear hy214
                         have H' := Aside0.mk H
                         clear H
                         obtain ⟨Ao117, co117, eo117⟩ := Kd.R_slice HO_10.out
                         subst eo117
                         have p116 : 0 ≤ (x23_8 : Int) := of_decide_eq_true (by first | (with_reducible assumption) | assumption)
                         have q116 : (x23_8 : Int) < ((x10_8.length : Int) : Int) := of_decide_eq_true (by first | (with_reducible assumption) | assumption)
                         obtain ⟨go116, co116, eo116, gb116, gl116, cl116, HG116⟩ := Kd.R_form HO_10.out (by omega)
                         (first | cases eo116 | (injection eo116 with ea_ en_ ec_; (first | subst ea_ | (injection ea_ with ea_; subst ea_)); subst ec_; clear en_))
                         have GB116 := Aside0.mk gb116
                         have GG116 := Aside0.mk HG116
                         clear gb116 gl116 HG116
                         obtain ⟨ce116, hcl116, hM116, hcc116, hfr116⟩ := Kd.R_elem HO_10.out z75 (x23_8 : Int) p116 q116
                         obtain rfl := k75_openM hM116
                         have hx116_0 : wr.cell? ⟨go116, (x23_8 : Int).toNat * 3, none⟩ = some (.int .i64 ((rd_T75 x10_8 x23_8).f0)) := hcc116 0 _ rfl
                         have hx116_1 : wr.cell? ⟨go116, (x23_8 : Int).toNat * 3 + 1, none⟩ = some (.int .i64 ((rd_T75 x10_8 x23_8).f1)) := hcc116 1 _ rfl
                         have hx116_2 : wr.cell? ⟨go116, (x23_8 : Int).toNat * 3 + 2, none⟩ = some (.int .i64 ((rd_T75 x10_8 x23_8).f2)) := hcc116 2 _ rfl
                         have hf116_0 : wr.frozen? ⟨go116, (x23_8 : Int).toNat * 3, none⟩ = false := hfr116 0
                         have hf116_1 : wr.frozen? ⟨go116, (x23_8 : Int).toNat * 3 + 1, none⟩ = false := hfr116 1
                         have hf116_2 : wr.frozen? ⟨go116, (x23_8 : Int).toNat * 3 + 2, none⟩ = false := hfr116 2
                         clear hcl116 hcc116 hfr116 hM116
                         replace p116 := eq_true p116
                         replace q116 := eq_true q116
                         have HX118 := Aside0.mk (show Kd.R k75 75 wr w.heap.size (fun k_ => some k_ ≠ (.slice Ao33 x3_2.length co33 : Value).ownBlock ∧ some k_ ≠ (.slice Ao37 t180.length co37 : Value).ownBlock ∧ some k_ ≠ (u18 : Value).ownBlock ∧ some k_ ≠ (u19 : Value).ownBlock ∧ k_ ≠ gb178) (.slice (some ⟨go116, 0, none⟩) x10_8.length co117) x10_8 from (by (with_reducible repeat (first | apply Kd.R_alloc | apply Kd.R_drewN | apply Kd.R_drew)); exact HO_10.out))
                         obtain ⟨ce118, hcl118, hM118, hcc118, hfr118⟩ := Kd.R_elem HX118.out z75 (x23_8 : Int) (of_decide_eq_true (by first | (with_reducible assumption) | assumption)) (by have h_ : (x23_8 : Int) < ((x10_8.length : Int) : Int) := of_decide_eq_true (by first | (with_reducible assumption) | assumption); first | exact h_ | (have e_ := (Kd.R_reads' HO_10.out).1; omega) | simpa using h_)
                         obtain rfl := k75_openM hM118
                         have HP118 := Kd.R_seg HX118.out (x23_8 : Int) (of_decide_eq_true (by first | (with_reducible assumption) | assumption)) (by have h_ : (x23_8 : Int) < ((x10_8.length : Int) : Int) := of_decide_eq_true (by first | (with_reducible assumption) | assumption); first | exact h_ | (have e_ := (Kd.R_reads' HO_10.out).1; omega) | simpa using h_) (seg := [.int .i64 (-9), .int .i64 0, .int .i64 0]) (j := 0) hcl118 hcc118 (show 3 ≤ 3 from by decide) (x' := (⟨(-9), 0, 0⟩ : S75)) (k75_mkM _ _ _ (⟨(-9), 0, 0⟩ : S75) ) (fun _ hk => hk)
                         have hx118_0 := hcc118 0 _ rfl
                         (try simp only [show (k75).sz = 3 from rfl, Nat.mul_one, Nat.add_zero] at hx118_0)
                         have hf118_0 := hfr118 0
                         (try simp only [show (k75).sz = 3 from rfl, Nat.mul_one, Nat.add_zero] at hf118_0)
                         have hx118_1 := hcc118 1 _ rfl
                         (try simp only [show (k75).sz = 3 from rfl, Nat.mul_one, Nat.add_zero] at hx118_1)
                         have hf118_1 := hfr118 1
                         (try simp only [show (k75).sz = 3 from rfl, Nat.mul_one, Nat.add_zero] at hf118_1)
                         have hx118_2 := hcc118 2 _ rfl
                         (try simp only [show (k75).sz = 3 from rfl, Nat.mul_one, Nat.add_zero] at hx118_2)
                         have hf118_2 := hfr118 2
                         (try simp only [show (k75).sz = 3 from rfl, Nat.mul_one, Nat.add_zero] at hf118_2)
                         clear hcl118 hcc118 hfr118 hM118
                         go_wp2_with (first | ((with_reducible refine gate_store (t := 75) (p := 173) rfl ?_); refine store_event (t := 75) (p := 173) (v := ?vo_w119) (w1 := (((wr.setCell ⟨go116, (x23_8 : Int).toNat * 3, none⟩ (.int .i64 (-9))).setCell ⟨go116, (x23_8 : Int).toNat * 3 + 1, none⟩ (.int .i64 0)).setCell ⟨go116, (x23_8 : Int).toNat * 3 + 2, none⟩ (.int .i64 0))) ?hg ?ho ?hn ?hr ?_; (case ho => rfl); (case hg => rfl); (case hn => rfl); (case hr => first | (go_simp; done) | (go_simp; rfl)); intro w119 hw; have hg : wr.grownBy w119 (some go116) := (by rw [hw]; exact HP118.2); have hp_ : Kd.R k75 75 w119 w.heap.size (fun k_ => some k_ ≠ (.slice Ao33 x3_2.length co33 : Value).ownBlock ∧ some k_ ≠ (.slice Ao37 t180.length co37 : Value).ownBlock ∧ some k_ ≠ (u18 : Value).ownBlock ∧ some k_ ≠ (u19 : Value).ownBlock ∧ k_ ≠ gb178) (.slice (some ⟨go116, 0, none⟩) x10_8.length co117) y214 := (by rw [hw, Ny214.out]; exact HP118.1); clear HP118; have n0_ := Aside0.mk (Kd.R_after (v := (.slice (some ⟨go116, 0, none⟩) x10_8.length co117)) (v1 := (.slice (some ⟨go116, 0, none⟩) x10_8.length co117)) (ok := (fun k_ => some k_ ≠ (.slice Ao37 t180.length co37 : Value).ownBlock ∧ some k_ ≠ (u18 : Value).ownBlock ∧ some k_ ≠ (u19 : Value).ownBlock ∧ k_ ≠ gb178)) (by (with_reducible repeat (first | apply Kd.R_alloc | apply Kd.R_drewN | apply Kd.R_drew)); exact Kd.R_mono HO_3.out (fun _ hk => ⟨⟨hk.1, ⟨hk.2.2.1, ⟨hk.2.2.2.1, hk.2.2.2.2⟩⟩⟩, hk.2.1⟩)) hg (.inl rfl)); have n1_ := Aside0.mk (Kd.R_after (v := (.slice (some ⟨go116, 0, none⟩) x10_8.length co117)) (v1 := (.slice (some ⟨go116, 0, none⟩) x10_8.length co117)) (ok := (fun k_ => some k_ ≠ (.slice Ao33 x3_2.length co33 : Value).ownBlock ∧ some k_ ≠ (u18 : Value).ownBlock ∧ some k_ ≠ (u19 : Value).ownBlock ∧ k_ ≠ gb178)) (by (with_reducible repeat (first | apply Kd.R_alloc | apply Kd.R_drewN | apply Kd.R_drew)); exact Kd.R_mono HO_6.out (fun _ hk => ⟨⟨hk.1, ⟨hk.2.2.1, ⟨hk.2.2.2.1, hk.2.2.2.2⟩⟩⟩, hk.2.1⟩)) hg (.inl rfl)); have n2_ := Aside0.mk (hp_); have n3_ := Aside0.mk (Kd.R_after (v := (.slice (some ⟨go116, 0, none⟩) x10_8.length co117)) (v1 := (.slice (some ⟨go116, 0, none⟩) x10_8.length co117)) (ok := (fun k_ => some k_ ≠ (.slice Ao33 x3_2.length co33 : Value).ownBlock ∧ some k_ ≠ (.slice Ao37 t180.length co37 : Value).ownBlock ∧ some k_ ≠ (u19 : Value).ownBlock ∧ k_ ≠ gb178)) (by (with_reducible repeat (first | apply Kd.R_alloc | apply Kd.R_drewN | apply Kd.R_drew)); exact Kd.R_mono HO_18.out (fun _ hk => ⟨⟨hk.1, ⟨hk.2.1, ⟨hk.2.2.2.1, hk.2.2.2.2⟩⟩⟩, hk.2.2.1⟩)) hg (.inl rfl)); have n4_ := Aside0.mk (Kd.R_after (v := (.slice (some ⟨go116, 0, none⟩) x10_8.length co117)) (v1 := (.slice (some ⟨go116, 0, none⟩) x10_8.length co117)) (ok := (fun k_ => some k_ ≠ (.slice Ao33 x3_2.length co33 : Value).ownBlock ∧ some k_ ≠ (.slice Ao37 t180.length co37 : Value).ownBlock ∧ some k_ ≠ (u18 : Value).ownBlock ∧ k_ ≠ gb178)) (by (with_reducible repeat (first | apply Kd.R_alloc | apply Kd.R_drewN | apply Kd.R_drew)); exact Kd.R_mono HO_19.out (fun _ hk => ⟨⟨hk.1, ⟨hk.2.1, ⟨hk.2.2.2.1, hk.2.2.2.2⟩⟩⟩, hk.2.2.1⟩)) hg (.inl rfl)); have n5_ := Aside0.mk (blk_grown (g := gb172) (o := .cells #[.slice A0_0 l0_0.length c0_0, .slice (some ad177) l0_1.length c0_1] 73 (0, 0)) (by (with_reducible repeat (first | refine blk_drewN ?_ _ | refine blk_drew ?_ | refine blk_alloc ?_ _)); exact BK172.out) hg (Kd.R_ne HO_10.out BK172.out (by decide))); have n6_ := Aside0.mk (blk_grown (g := gb178) (o := .cells #[.int .i64 x179000_8, .int .i64 x179001_8, .int .i64 x179002_8] 75 (0, 0)) (by (with_reducible repeat (first | refine blk_drewN ?_ _ | refine blk_drew ?_ | refine blk_alloc ?_ _)); exact BK178.out) hg (Kd.R_away HO_10.out (fun _ hk => hk.2.2.2.2))); have n7_ := Aside0.mk ((by rw [hw]; exact below_set (below_set (below_set (HB.out) GB116.out) GB116.out) GB116.out : Below w.heap.size w w119)); clear HO_3; clear HO_6; clear HO_10; clear HO_18; clear HO_19; clear BK172; clear BK178; clear HB; have HO_3 := n0_; have HO_6 := n1_; have HO_10 := n2_; have HO_18 := n3_; have HO_19 := n4_; have BK172 := n5_; have BK178 := n6_; have HB := n7_; clear n0_ n1_ n2_ n3_ n4_ n5_ n6_ n7_; clear hg hw hp_))
                         go_roundg k8
                         case measure => have := HJ1.out; have := HK2.out; have := HJ10.out; have := HJ17.out; have := HJ31.out; have := HJ61.out; have := HK7.out; have := HK8.out; omega
                         case rel => exact ⟨(y214), (wrap64 (x23_8 + 1)), (x179000_8), (x179001_8), (x179002_8), (by first | rfl | (simp; done) | (simp [*]; done)), H', ⟨by have := HJ1.out; have := HK2.out; have := HJ10.out; have := HJ17.out; have := HJ31.out; have := HJ61.out; have := HK7.out; have := HK8.out; omega⟩, ⟨by (with_reducible repeat (first | apply Kd.R_alloc | apply Kd.R_drewN | apply Kd.R_drew)); exact Kd.R_mono HO_3.out (fun _ hk => ⟨hk.1.1, ⟨hk.2, ⟨hk.1.2.1, ⟨hk.1.2.2.1, hk.1.2.2.2⟩⟩⟩⟩)⟩, ⟨by (with_reducible repeat (first | apply Kd.R_alloc | apply Kd.R_drewN | apply Kd.R_drew)); exact Kd.R_mono HO_6.out (fun _ hk => ⟨hk.1.1, ⟨hk.2, ⟨hk.1.2.1, ⟨hk.1.2.2.1, hk.1.2.2.2⟩⟩⟩⟩)⟩, ⟨by (with_reducible repeat (first | apply Kd.R_alloc | apply Kd.R_drewN | apply Kd.R_drew)); exact HO_10.out⟩, ⟨by (with_reducible repeat (first | apply Kd.R_alloc | apply Kd.R_drewN | apply Kd.R_drew)); exact Kd.R_mono HO_18.out (fun _ hk => ⟨hk.1.1, ⟨hk.1.2.1, ⟨hk.2, ⟨hk.1.2.2.1, hk.1.2.2.2⟩⟩⟩⟩)⟩, ⟨by (with_reducible repeat (first | apply Kd.R_alloc | apply Kd.R_drewN | apply Kd.R_drew)); exact Kd.R_mono HO_19.out (fun _ hk => ⟨hk.1.1, ⟨hk.1.2.1, ⟨hk.2, ⟨hk.1.2.2.1, hk.1.2.2.2⟩⟩⟩⟩)⟩, ⟨by (with_reducible repeat (first | refine blk_drewN ?_ _ | refine blk_drew ?_ | refine blk_alloc ?_ _)); exact BK172.out⟩, ⟨by (with_reducible repeat (first | refine blk_drewN ?_ _ | refine blk_drew ?_ | refine blk_alloc ?_ _)); exact BK178.out⟩, ⟨by repeat (first | (with_reducible first | exact HB.out | apply below_alloc | apply pw_below_drewN | apply below_drew1 | refine below_set ?_ GE172.out | refine below_set ?_ GE178.out) | exact HB.out)⟩⟩
                        ·as_aux_lemma =>
                         rw [if_neg c115] at H
                         exact absurd H (by simp)
                       ·as_aux_lemma =>
                        rw [if_neg c114] at H
                        have c114b0 : decide (x23_8 < (x10_8.length : Int)) = false := decide_eq_false c114
                        clear c114
                        replace H := Option.bind_eq_some_iff.mp H
                        obtain ⟨t215, A1200, H⟩ := H
                        replace H : (if t215 = true then (if x15_31 = 0 then (beaconlaw22_SizeExact.j9 k8 x3_2 x4_2 x16_31 x18_31 x19_31 (decide (x179001_8 ≥ 0)) l0_0 l0_1) else (beaconlaw22_SizeExact.j9 k8 x3_2 x4_2 x16_31 x18_31 x19_31 false l0_0 l0_1)) else (some false)) = some r := H
                        have A120 := Aside0.mk A1200
                        clear A1200
                        by_cases c121 : t215 = true
                        ·subst c121
                         have H1 : (if x15_31 = 0 then (beaconlaw22_SizeExact.j9 k8 x3_2 x4_2 x16_31 x18_31 x19_31 (decide (x179001_8 ≥ 0)) l0_0 l0_1) else (beaconlaw22_SizeExact.j9 k8 x3_2 x4_2 x16_31 x18_31 x19_31 false l0_0 l0_1)) = some r := by rw [if_pos rfl] at H; exact H
                         clear H
                         have H := H1
                         clear H1
                         have HC122 := Aside0.mk H
                         clear H
                         obtain ⟨Ao123, co123, eo123⟩ := Kd.R_slice HO_10.out
                         subst eo123
                         go_upto_region 37 with (first | ((with_reducible refine gate_callee (f := 52) rfl ?_); refine goesL_ (some 176) rfl rfl Try.func52 (by kernel_rfl) rfl #[.slice Ao37 t180.length co37, .slice Ao33 x3_2.length co33] rfl (by (try simp only [List.map_toArray, List.map_cons, List.map_nil]); first | done | rfl | (simp only [List.length_drop, List.length_take]; rfl)) ?_; (with_reducible refine (beaconref0_EqOffers.calls k8 _ _ t180 _ _ x3_2 true _ ?side1 ?side2 ?side3 ?side4 A120.out).mono ?_); (case side1 => repeat (first | exact (Kd.R_reads' HO_6.out).2.2 | (with_reducible refine Kd.C_alloc ?_ _) | (with_reducible refine Kd.C_drewN ?_ _) | (with_reducible refine Kd.C_drew ?_))); (case side2 => exact (Kd.R_reads' HO_6.out).2.1); (case side3 => repeat (first | exact (Kd.R_reads' HO_3.out).2.2 | (with_reducible refine Kd.C_alloc ?_ _) | (with_reducible refine Kd.C_drewN ?_ _) | (with_reducible refine Kd.C_drew ?_))); (case side4 => exact (Kd.R_reads' HO_3.out).2.1); rintro e w' ⟨rfl, ⟨nd, rfl⟩⟩; refine ⟨_, rfl, ?_⟩))
                         (try simp only [Act.put, List.setIfInBounds_toArray, List.set_cons_zero, List.set_cons_succ])
                         go_cut [184] (fun v184 wc => ∃ (kq : Nat) (x184_121 : Bool), v184 = .bool x184_121 ∧ Aside0 (beaconlaw22_SizeExact.j9 kq x3_2 x4_2 x16_31 x18_31 x19_31 x184_121 l0_0 l0_1 = some r) ∧ Aside0 (kq ≤ k8) ∧ Aside0 (Kd.R k75 75 wc w.heap.size (fun k_ => some k_ ≠ (u18 : Value).ownBlock ∧ some k_ ≠ (u19 : Value).ownBlock ∧ k_ ≠ gb178) (.slice Ao33 x3_2.length co33) x3_2) ∧ Aside0 (Kd.R k75 75 wc w.heap.size (fun k_ => some k_ ≠ ((.slice Ao33 x3_2.length co33) : Value).ownBlock ∧ some k_ ≠ (u19 : Value).ownBlock ∧ k_ ≠ gb178) u18 x18_31) ∧ Aside0 (Kd.R k75 75 wc w.heap.size (fun k_ => some k_ ≠ ((.slice Ao33 x3_2.length co33) : Value).ownBlock ∧ some k_ ≠ (u18 : Value).ownBlock ∧ k_ ≠ gb178) u19 x19_31) ∧ Aside0 (wc.heap[gb172]? = some (.cells #[(.slice A0_0 l0_0.length c0_0), (.slice (some ad177) l0_1.length c0_1)] 73 (0, 0))) ∧ Aside0 (wc.heap[gb178]? = some (.cells #[.int .i64 x179000_8, .int .i64 x179001_8, .int .i64 x179002_8] 75 (0, 0))) ∧ Aside0 (Below w.heap.size w wc))
                         case first =>
                          have H := HC122.out
                          clear HC122
                          by_cases c124 : x15_31 = 0
                          ·as_aux_lemma =>
                           rw [if_pos c124] at H
                           have c124b0 : (x15_31 == 0) = true := beq_iff_eq.mpr c124
                           have c124b1 : (x15_31 != 0) = false := bne_eq_false_iff_eq.mpr c124
                           clear c124
                           (first | rw [c124b0] | (simp only [i64_w, i32_w]; rw [c124b0]) | skip)
                           have H' := Aside0.mk H
                           clear H
                           have hnb125 := NB178_172.out
                           have hnc125 := NB172_178.out
                           have hcz126_0 : wr.cell? ⟨gb178, 0, none⟩ = some (.int .i64 x179000_8) := (blk_cell BK178.out 0).trans rfl
                           have hcz126_1 : wr.cell? ⟨gb178, 1, none⟩ = some (.int .i64 x179001_8) := (blk_cell BK178.out 1).trans rfl
                           have hcz126_2 : wr.cell? ⟨gb178, 2, none⟩ = some (.int .i64 x179002_8) := (blk_cell BK178.out 2).trans rfl
                           have hfz126_0 := blk_frozen BK178.out 0
                           have hfz126_1 := blk_frozen BK178.out 1
                           have hfz126_2 := blk_frozen BK178.out 2
                           go_wp2
                           go_meet
                           case rel => exact ⟨_, (decide (x179001_8 ≥ 0)), (by first | rfl | (simp; done) | (simp [*]; done)), H', ⟨by have := HJ1.out; have := HK2.out; have := HJ10.out; have := HJ17.out; have := HJ31.out; have := HJ61.out; have := HK7.out; have := HK8.out; first | omega | exact Nat.le_refl _⟩, ⟨by (with_reducible repeat (first | apply Kd.R_alloc | apply Kd.R_drewN | apply Kd.R_drew)); exact Kd.R_mono HO_3.out (fun _ hk => ⟨hk.2.2.1, ⟨hk.2.2.2.1, hk.2.2.2.2⟩⟩)⟩, ⟨by (with_reducible repeat (first | apply Kd.R_alloc | apply Kd.R_drewN | apply Kd.R_drew)); exact Kd.R_mono HO_18.out (fun _ hk => ⟨hk.1, ⟨hk.2.2.2.1, hk.2.2.2.2⟩⟩)⟩, ⟨by (with_reducible repeat (first | apply Kd.R_alloc | apply Kd.R_drewN | apply Kd.R_drew)); exact Kd.R_mono HO_19.out (fun _ hk => ⟨hk.1, ⟨hk.2.2.2.1, hk.2.2.2.2⟩⟩)⟩, ⟨by (with_reducible repeat (first | refine blk_drewN ?_ _ | refine blk_drew ?_ | refine blk_alloc ?_ _)); exact BK172.out⟩, ⟨by (with_reducible repeat (first | refine blk_drewN ?_ _ | refine blk_drew ?_ | refine blk_alloc ?_ _)); exact BK178.out⟩, ⟨by repeat (first | (with_reducible first | exact HB.out | apply below_alloc | apply pw_below_drewN | apply below_drew1 | refine below_set ?_ GE172.out | refine below_set ?_ GE178.out) | exact HB.out)⟩⟩
                          ·as_aux_lemma =>
                           rw [if_neg c124] at H
                           have c124b0 : (x15_31 == 0) = false := beq_eq_false_iff_ne.mpr c124
                           have c124b1 : (x15_31 != 0) = true := bne_iff_ne.mpr c124
                           (first | rw [c124b0] | (simp only [i64_w, i32_w]; rw [c124b0]) | skip)
                           have H' := Aside0.mk H
                           clear H
                           go_wp2
                           go_meet
                           case rel => exact ⟨_, (false), (by first | rfl | (simp; done) | (simp [*]; done)), H', ⟨by have := HJ1.out; have := HK2.out; have := HJ10.out; have := HJ17.out; have := HJ31.out; have := HJ61.out; have := HK7.out; have := HK8.out; first | omega | exact Nat.le_refl _⟩, ⟨by (with_reducible repeat (first | apply Kd.R_alloc | apply Kd.R_drewN | apply Kd.R_drew)); exact Kd.R_mono HO_3.out (fun _ hk => ⟨hk.2.2.1, ⟨hk.2.2.2.1, hk.2.2.2.2⟩⟩)⟩, ⟨by (with_reducible repeat (first | apply Kd.R_alloc | apply Kd.R_drewN | apply Kd.R_drew)); exact Kd.R_mono HO_18.out (fun _ hk => ⟨hk.1, ⟨hk.2.2.2.1, hk.2.2.2.2⟩⟩)⟩, ⟨by (with_reducible repeat (first | apply Kd.R_alloc | apply Kd.R_drewN | apply Kd.R_drew)); exact Kd.R_mono HO_19.out (fun _ hk => ⟨hk.1, ⟨hk.2.2.2.1, hk.2.2.2.2⟩⟩)⟩, ⟨by (with_reducible repeat (first | refine blk_drewN ?_ _ | refine blk_drew ?_ | refine blk_alloc ?_ _)); exact BK172.out⟩, ⟨by (with_reducible repeat (first | refine blk_drewN ?_ _ | refine blk_drew ?_ | refine blk_alloc ?_ _)); exact BK178.out⟩, ⟨by repeat (first | (with_reducible first | exact HB.out | apply below_alloc | apply pw_below_drewN | apply below_drew1 | refine below_set ?_ GE172.out | refine below_set ?_ GE178.out) | exact HB.out)⟩⟩
                         case rest =>
                          clear HC122
                          try clear c1
                          try clear p1
                          try clear q1
                          try clear hx1
                          try clear hf1
                          try clear c2
                          try clear p2
                          try clear c3
                          try clear c4
                          try clear c4b0
                          try clear c4b1
                          try clear c5
                          try clear c6
                          try clear p6
                          try clear c7
                          try clear c9
                          try clear c10
                          try clear p10
                          try clear q10
                          try clear hx10
                          try clear hf10
                          try clear c11
                          try clear p11
                          try clear q11
                          try clear hx11
                          try clear hf11
                          try clear c12
                          try clear c12b0
                          try clear c15
                          try clear c16
                          try clear c16b0
                          try clear c17
                          try clear c17b0
                          try clear p17
                          try clear q17
                          try clear hx17
                          try clear c19
                          try clear c21
                          try clear c23
                          try clear c23b0
                          try clear c25
                          try clear c35
                          try clear c39
                          try clear c40
                          try clear c41
                          try clear c42
                          try clear c43
                          try clear c45
                          try clear c46
                          try clear c47
                          try clear c48
                          try clear c49
                          try clear c50
                          try clear c51
                          try clear c52
                          try clear c55
                          try clear c57
                          try clear c60
                          try clear p64
                          try clear c65
                          try clear c65b0
                          try clear c65b1
                          try clear c65b2
                          try clear c68
                          try clear c68b0
                          try clear c68b1
                          try clear c70
                          try clear c70b0
                          try clear c70b1
                          try clear c72
                          try clear c72b0
                          try clear c72b1
                          try clear c74
                          try clear c76
                          try clear c77
                          try clear c77b0
                          try clear c77b1
                          try clear c78
                          try clear c78b0
                          try clear c78b1
                          try clear c106
                          try clear c107
                          try clear c107b0
                          try clear c108
                          try clear c108b0
                          try clear c109
                          try clear p109
                          try clear q109
                          try clear hx109
                          try clear hf109
                          try clear c111
                          try clear hx111
                          try clear hf111
                          try clear c114
                          try clear c114b0
                          try clear c115
                          try clear c115b0
                          try clear c116
                          try clear p116
                          try clear q116
                          try clear hx116
                          try clear hf116
                          try clear c118
                          try clear hx118
                          try clear hf118
                          try clear c121
                          try clear c124
                          try clear c124b0
                          try clear c124b1
                          try clear c125
                          try clear hcz126_0
                          try clear hcz126_1
                          try clear hcz126_2
                          try clear hcz13_0
                          try clear hcz13_1
                          try clear hcz14_0
                          try clear hcz14_1
                          try clear hcz19_0
                          try clear hcz19_1
                          try clear hcz22_0
                          try clear hcz22_1
                          try clear hcz22_2
                          try clear hcz26_0
                          try clear hcz26_1
                          try clear hcz26_2
                          try clear hcz36_0
                          try clear hcz36_1
                          try clear hcz36_2
                          try clear hcz39_0
                          try clear hcz39_1
                          try clear hcz39_2
                          try clear hcz48_0
                          try clear hcz48_1
                          try clear hcz48_2
                          try clear hcz52_0
                          try clear hcz52_1
                          try clear hcz52_2
                          try clear hcz58_0
                          try clear hcz58_1
                          try clear hcz58_2
                          try clear hcz5_0
                          try clear hcz5_1
                          try clear hcz61_0
                          try clear hcz61_1
                          try clear hcz61_2
                          try clear hcz6_0
                          try clear hcz6_1
                          try clear hcz9_0
                          try clear hcz9_1
                          try clear hfz126_0
                          try clear hfz126_1
                          try clear hfz126_2
                          try clear hfz13_0
                          try clear hfz13_1
                          try clear hfz14_0
                          try clear hfz14_1
                          try clear hfz19_0
                          try clear hfz19_1
                          try clear hfz22_0
                          try clear hfz22_1
                          try clear hfz22_2
                          try clear hfz26_0
                          try clear hfz26_1
                          try clear hfz26_2
                          try clear hfz36_0
                          try clear hfz36_1
                          try clear hfz36_2
                          try clear hfz39_0
                          try clear hfz39_1
                          try clear hfz39_2
                          try clear hfz48_0
                          try clear hfz48_1
                          try clear hfz48_2
                          try clear hfz52_0
                          try clear hfz52_1
                          try clear hfz52_2
                          try clear hfz58_0
                          try clear hfz58_1
                          try clear hfz58_2
                          try clear hfz5_0
                          try clear hfz5_1
                          try clear hfz61_0
                          try clear hfz61_1
                          try clear hfz61_2
                          try clear hfz6_0
                          try clear hfz6_1
                          try clear hfz9_0
                          try clear hfz9_1
                          try clear hx109_0
                          try clear hx109_1
                          try clear hx109_2
                          try clear hx111_0
                          try clear hx111_1
                          try clear hx111_2
                          try clear hx116_0
                          try clear hx116_1
                          try clear hx116_2
                          try clear hx118_0
                          try clear hx118_1
                          try clear hx118_2
                          try clear hx177_0
                          try clear hx177_1
                          try clear hx177_2
                          try clear p1
                          try clear p10
                          try clear p109
                          try clear p116
                          try clear p17
                          try clear p177
                          try clear p2
                          try clear p6
                          try clear p64
                          try clear q1
                          try clear q10
                          try clear q109
                          try clear q116
                          try clear q17
                          try clear q177
                          obtain ⟨kq, x184_121, rfl, HA, HJ121, HO_3, HO_18, HO_19, BK172, BK178, HB⟩ := hcut
                          cases kq with
                          | zero => exact absurd HA.out (by simp [beaconlaw22_SizeExact.j9])
                          | succ kj121 =>
                           have H := HA.out
                           clear HA
                           simp only [beaconlaw22_SizeExact.j9] at H
                           by_cases c127 : x184_121 = true
                           ·subst c127
                            have H1 : ((beaconref0_CopyOffers.f kj121 x18_31).bind fun t216 => (beaconlaw22_SizeExact.l0 kj121 t216 (wrap64 (x4_2 + 1)) l0_0 l0_1)) = some r := by rw [if_pos rfl] at H; exact H
                            clear H
                            have H := H1
                            clear H1
                            replace H := Option.bind_eq_some_iff.mp H
                            obtain ⟨t216, A1280, H⟩ := H
                            replace H : (beaconlaw22_SizeExact.l0 kj121 t216 (wrap64 (x4_2 + 1)) l0_0 l0_1) = some r := H
                            have A128 := Aside0.mk A1280
                            clear A1280
                            have H' := Aside0.mk H
                            clear H
                            obtain ⟨Ao129, co129, eo129⟩ := Kd.R_slice HO_18.out
                            subst eo129
                            go_wp2_with (first | ((with_reducible refine gate_callee (f := 45) rfl ?_); refine goesL_ (some 186) rfl rfl Try.func45 (by kernel_rfl) rfl #[.slice Ao129 x18_31.length co129] rfl (by (try simp only [List.map_toArray, List.map_cons, List.map_nil]); first | done | rfl | (simp only [List.length_drop, List.length_take]; rfl)) ?_; (with_reducible refine (beaconref0_CopyOffers.calls kj121 _ _ x18_31 t216 _ ?side1 ?side2 A128.out).mono ?_); (case side1 => repeat (first | exact (Kd.R_reads' HO_18.out).2.2 | (with_reducible refine Kd.C_alloc ?_ _) | (with_reducible refine Kd.C_drewN ?_ _) | (with_reducible refine Kd.C_drew ?_))); (case side2 => exact (Kd.R_reads' HO_18.out).2.1); rintro e w130 ⟨v217, rfl, ho0, hb⟩; refine ⟨_, rfl, ?_⟩; have n0_ := Aside0.mk (Kd.R_elder' (by (with_reducible repeat (first | apply Kd.R_alloc | apply Kd.R_drewN | apply Kd.R_drew)); exact HO_3.out) (Kd.R_base ho0) hb); have n1_ := Aside0.mk (Kd.R_elder' (by (with_reducible repeat (first | apply Kd.R_alloc | apply Kd.R_drewN | apply Kd.R_drew)); exact HO_18.out) (Kd.R_base ho0) hb); have n2_ := Aside0.mk (Kd.R_elder' (by (with_reducible repeat (first | apply Kd.R_alloc | apply Kd.R_drewN | apply Kd.R_drew)); exact HO_19.out) (Kd.R_base ho0) hb); have n3_ := Aside0.mk (Kd.R_lower (Kd.R_newB (Kd.R_new' (Kd.R_new' (Kd.R_new' ho0 (Kd.R_lt (by (with_reducible repeat (first | apply Kd.R_alloc | apply Kd.R_drewN | apply Kd.R_drew)); exact HO_3.out))) (Kd.R_lt (by (with_reducible repeat (first | apply Kd.R_alloc | apply Kd.R_drewN | apply Kd.R_drew)); exact HO_18.out))) (Kd.R_lt (by (with_reducible repeat (first | apply Kd.R_alloc | apply Kd.R_drewN | apply Kd.R_drew)); exact HO_19.out))) (g := gb178) (o := .cells #[.int .i64 x179000_8, .int .i64 x179001_8, .int .i64 x179002_8] 75 (0, 0)) (by (with_reducible repeat (first | refine blk_drewN ?_ _ | refine blk_drew ?_ | refine blk_alloc ?_ _)); exact BK178.out)) (below_size (by repeat (first | (with_reducible first | exact HB.out | apply below_alloc | apply pw_below_drewN | apply below_drew1 | refine below_set ?_ GE172.out | refine below_set ?_ GE178.out) | exact HB.out)))); have n4_ := Aside0.mk (blk_below (g := gb172) (o := .cells #[.slice A0_0 l0_0.length c0_0, .slice (some ad177) l0_1.length c0_1] 73 (0, 0)) (by (with_reducible repeat (first | refine blk_drewN ?_ _ | refine blk_drew ?_ | refine blk_alloc ?_ _)); exact BK172.out) hb); have n5_ := Aside0.mk (blk_below (g := gb178) (o := .cells #[.int .i64 x179000_8, .int .i64 x179001_8, .int .i64 x179002_8] 75 (0, 0)) (by (with_reducible repeat (first | refine blk_drewN ?_ _ | refine blk_drew ?_ | refine blk_alloc ?_ _)); exact BK178.out) hb); have n6_ := Aside0.mk (below_step (by repeat (first | (with_reducible first | exact HB.out | apply below_alloc | apply pw_below_drewN | apply below_drew1 | refine below_set ?_ GE172.out | refine below_set ?_ GE178.out) | exact HB.out)) hb); clear HO_3; clear HO_18; clear HO_19; clear BK172; clear BK178; clear HB; have HO_3 := n0_; have HO_18 := n1_; have HO_19 := n2_; have HO218 := n3_; have BK172 := n4_; have BK178 := n5_; have HB := n6_; clear n0_ n1_ n2_ n3_ n4_ n5_ n6_; (try clear hb); (try clear hb2); (try clear hk); (try clear hi); (try clear ho0)))
                            go_roundg kj121
                            case measure => have := HJ1.out; have := HK2.out; have := HJ10.out; have := HJ17.out; have := HJ31.out; have := HJ61.out; have := HK7.out; have := HK8.out; have := HJ121.out; omega
                            case rel => exact ⟨(t216), (wrap64 (x4_2 + 1)), (by first | rfl | (simp; done) | (simp [*]; done)), H', ⟨by have := HJ1.out; have := HK2.out; have := HJ10.out; have := HJ17.out; have := HJ31.out; have := HJ61.out; have := HK7.out; have := HK8.out; have := HJ121.out; omega⟩, ⟨by (with_reducible repeat (first | apply Kd.R_alloc | apply Kd.R_drewN | apply Kd.R_drew)); exact Kd.R_mono HO218.out (fun _ hk => trivial)⟩, ⟨by (with_reducible repeat (first | refine blk_drewN ?_ _ | refine blk_drew ?_ | refine blk_alloc ?_ _)); exact BK172.out⟩, ⟨by repeat (first | (with_reducible first | exact HB.out | apply below_alloc | apply pw_below_drewN | apply below_drew1 | refine below_set ?_ GE172.out | refine below_set ?_ GE178.out) | exact HB.out)⟩⟩
                           ·replace c127 := Bool.eq_false_iff.mpr c127
                            subst c127
                            have H1 : (if x16_31 = 0 then ((beaconref0_CopyOffers.f kj121 x19_31).bind fun t219 => (beaconlaw22_SizeExact.l0 kj121 t219 (wrap64 (x4_2 + 1)) l0_0 l0_1)) else (beaconlaw22_SizeExact.l0 kj121 x3_2 (wrap64 (x4_2 + 1)) l0_0 l0_1)) = some r := by rw [if_neg (show ¬ (false = true) by decide)] at H; exact H
                            clear H
                            have H := H1
                            clear H1
                            by_cases c131 : x16_31 = 0
                            ·as_aux_lemma =>
                             rw [if_pos c131] at H
                             have c131b0 : (x16_31 == 0) = true := beq_iff_eq.mpr c131
                             have c131b1 : (x16_31 != 0) = false := bne_eq_false_iff_eq.mpr c131
                             clear c131
                             replace H := Option.bind_eq_some_iff.mp H
                             obtain ⟨t219, A1320, H⟩ := H
                             replace H : (beaconlaw22_SizeExact.l0 kj121 t219 (wrap64 (x4_2 + 1)) l0_0 l0_1) = some r := H
                             have A132 := Aside0.mk A1320
                             clear A1320
                             have H' := Aside0.mk H
                             clear H
                             obtain ⟨Ao133, co133, eo133⟩ := Kd.R_slice HO_19.out
                             subst eo133
                             go_wp2_with (first | ((with_reducible refine gate_callee (f := 45) rfl ?_); refine goesL_ (some 190) rfl rfl Try.func45 (by kernel_rfl) rfl #[.slice Ao133 x19_31.length co133] rfl (by (try simp only [List.map_toArray, List.map_cons, List.map_nil]); first | done | rfl | (simp only [List.length_drop, List.length_take]; rfl)) ?_; (with_reducible refine (beaconref0_CopyOffers.calls kj121 _ _ x19_31 t219 _ ?side1 ?side2 A132.out).mono ?_); (case side1 => repeat (first | exact (Kd.R_reads' HO_19.out).2.2 | (with_reducible refine Kd.C_alloc ?_ _) | (with_reducible refine Kd.C_drewN ?_ _) | (with_reducible refine Kd.C_drew ?_))); (case side2 => exact (Kd.R_reads' HO_19.out).2.1); rintro e w134 ⟨v220, rfl, ho0, hb⟩; refine ⟨_, rfl, ?_⟩; have n0_ := Aside0.mk (Kd.R_elder' (by (with_reducible repeat (first | apply Kd.R_alloc | apply Kd.R_drewN | apply Kd.R_drew)); exact HO_3.out) (Kd.R_base ho0) hb); have n1_ := Aside0.mk (Kd.R_elder' (by (with_reducible repeat (first | apply Kd.R_alloc | apply Kd.R_drewN | apply Kd.R_drew)); exact HO_18.out) (Kd.R_base ho0) hb); have n2_ := Aside0.mk (Kd.R_elder' (by (with_reducible repeat (first | apply Kd.R_alloc | apply Kd.R_drewN | apply Kd.R_drew)); exact HO_19.out) (Kd.R_base ho0) hb); have n3_ := Aside0.mk (Kd.R_lower (Kd.R_newB (Kd.R_new' (Kd.R_new' (Kd.R_new' ho0 (Kd.R_lt (by (with_reducible repeat (first | apply Kd.R_alloc | apply Kd.R_drewN | apply Kd.R_drew)); exact HO_3.out))) (Kd.R_lt (by (with_reducible repeat (first | apply Kd.R_alloc | apply Kd.R_drewN | apply Kd.R_drew)); exact HO_18.out))) (Kd.R_lt (by (with_reducible repeat (first | apply Kd.R_alloc | apply Kd.R_drewN | apply Kd.R_drew)); exact HO_19.out))) (g := gb178) (o := .cells #[.int .i64 x179000_8, .int .i64 x179001_8, .int .i64 x179002_8] 75 (0, 0)) (by (with_reducible repeat (first | refine blk_drewN ?_ _ | refine blk_drew ?_ | refine blk_alloc ?_ _)); exact BK178.out)) (below_size (by repeat (first | (with_reducible first | exact HB.out | apply below_alloc | apply pw_below_drewN | apply below_drew1 | refine below_set ?_ GE172.out | refine below_set ?_ GE178.out) | exact HB.out)))); have n4_ := Aside0.mk (blk_below (g := gb172) (o := .cells #[.slice A0_0 l0_0.length c0_0, .slice (some ad177) l0_1.length c0_1] 73 (0, 0)) (by (with_reducible repeat (first | refine blk_drewN ?_ _ | refine blk_drew ?_ | refine blk_alloc ?_ _)); exact BK172.out) hb); have n5_ := Aside0.mk (blk_below (g := gb178) (o := .cells #[.int .i64 x179000_8, .int .i64 x179001_8, .int .i64 x179002_8] 75 (0, 0)) (by (with_reducible repeat (first | refine blk_drewN ?_ _ | refine blk_drew ?_ | refine blk_alloc ?_ _)); exact BK178.out) hb); have n6_ := Aside0.mk (below_step (by repeat (first | (with_reducible first | exact HB.out | apply below_alloc | apply pw_below_drewN | apply below_drew1 | refine below_set ?_ GE172.out | refine below_set ?_ GE178.out) | exact HB.out)) hb); clear HO_3; clear HO_18; clear HO_19; clear BK172; clear BK178; clear HB; have HO_3 := n0_; have HO_18 := n1_; have HO_19 := n2_; have HO221 := n3_; have BK172 := n4_; have BK178 := n5_; have HB := n6_; clear n0_ n1_ n2_ n3_ n4_ n5_ n6_; (try clear hb); (try clear hb2); (try clear hk); (try clear hi); (try clear ho0)))
                             go_roundg kj121
                             case measure => have := HJ1.out; have := HK2.out; have := HJ10.out; have := HJ17.out; have := HJ31.out; have := HJ61.out; have := HK7.out; have := HK8.out; have := HJ121.out; omega
                             case rel => exact ⟨(t219), (wrap64 (x4_2 + 1)), (by first | rfl | (simp; done) | (simp [*]; done)), H', ⟨by have := HJ1.out; have := HK2.out; have := HJ10.out; have := HJ17.out; have := HJ31.out; have := HJ61.out; have := HK7.out; have := HK8.out; have := HJ121.out; omega⟩, ⟨by (with_reducible repeat (first | apply Kd.R_alloc | apply Kd.R_drewN | apply Kd.R_drew)); exact Kd.R_mono HO221.out (fun _ hk => trivial)⟩, ⟨by (with_reducible repeat (first | refine blk_drewN ?_ _ | refine blk_drew ?_ | refine blk_alloc ?_ _)); exact BK172.out⟩, ⟨by repeat (first | (with_reducible first | exact HB.out | apply below_alloc | apply pw_below_drewN | apply below_drew1 | refine below_set ?_ GE172.out | refine below_set ?_ GE178.out) | exact HB.out)⟩⟩
                            ·as_aux_lemma =>
                             rw [if_neg c131] at H
                             have c131b0 : (x16_31 == 0) = false := beq_eq_false_iff_ne.mpr c131
                             have c131b1 : (x16_31 != 0) = true := bne_iff_ne.mpr c131
                             have H' := Aside0.mk H
                             clear H
                             go_wp2
                             go_roundg kj121
                             case measure => have := HJ1.out; have := HK2.out; have := HJ10.out; have := HJ17.out; have := HJ31.out; have := HJ61.out; have := HK7.out; have := HK8.out; have := HJ121.out; omega
                             case rel => exact ⟨(x3_2), (wrap64 (x4_2 + 1)), (by first | rfl | (simp; done) | (simp [*]; done)), H', ⟨by have := HJ1.out; have := HK2.out; have := HJ10.out; have := HJ17.out; have := HJ31.out; have := HJ61.out; have := HK7.out; have := HK8.out; have := HJ121.out; omega⟩, ⟨by (with_reducible repeat (first | apply Kd.R_alloc | apply Kd.R_drewN | apply Kd.R_drew)); exact Kd.R_mono HO_3.out (fun _ hk => trivial)⟩, ⟨by (with_reducible repeat (first | refine blk_drewN ?_ _ | refine blk_drew ?_ | refine blk_alloc ?_ _)); exact BK172.out⟩, ⟨by repeat (first | (with_reducible first | exact HB.out | apply below_alloc | apply pw_below_drewN | apply below_drew1 | refine below_set ?_ GE172.out | refine below_set ?_ GE178.out) | exact HB.out)⟩⟩
                        ·replace c121 := Bool.eq_false_iff.mpr c121
                         subst c121
                         have H1 : (some false) = some r := by rw [if_neg (show ¬ (false = true) by decide)] at H; exact H
                         clear H
                         have H := H1
                         clear H1
                         obtain rfl := Option.some.inj H
                         obtain ⟨Ao135, co135, eo135⟩ := Kd.R_slice HO_10.out
                         subst eo135
                         go_wp2_with (first | ((with_reducible refine gate_callee (f := 52) rfl ?_); refine goesL_ (some 176) rfl rfl Try.func52 (by kernel_rfl) rfl #[.slice Ao37 t180.length co37, .slice Ao33 x3_2.length co33] rfl (by (try simp only [List.map_toArray, List.map_cons, List.map_nil]); first | done | rfl | (simp only [List.length_drop, List.length_take]; rfl)) ?_; (with_reducible refine (beaconref0_EqOffers.calls k8 _ _ t180 _ _ x3_2 false _ ?side1 ?side2 ?side3 ?side4 A120.out).mono ?_); (case side1 => repeat (first | exact (Kd.R_reads' HO_6.out).2.2 | (with_reducible refine Kd.C_alloc ?_ _) | (with_reducible refine Kd.C_drewN ?_ _) | (with_reducible refine Kd.C_drew ?_))); (case side2 => exact (Kd.R_reads' HO_6.out).2.1); (case side3 => repeat (first | exact (Kd.R_reads' HO_3.out).2.2 | (with_reducible refine Kd.C_alloc ?_ _) | (with_reducible refine Kd.C_drewN ?_ _) | (with_reducible refine Kd.C_drew ?_))); (case side4 => exact (Kd.R_reads' HO_3.out).2.1); rintro e w' ⟨rfl, ⟨nd, rfl⟩⟩; refine ⟨_, rfl, ?_⟩))
                         go_ret
                         exact ⟨by first | rfl | (simp [errW_none, errW_some] <;> rfl) | (simp [*, errW_none, errW_some] <;> rfl), by repeat (first | (with_reducible first | exact HB.out | apply below_alloc | apply pw_below_drewN | apply below_drew1 | refine below_set ?_ GE172.out | refine below_set ?_ GE178.out) | exact HB.out)⟩
          ·as_aux_lemma =>
           rw [if_neg c17] at H
           exact absurd H (by simp)
         ·as_aux_lemma =>
          rw [if_neg c16] at H
          exact absurd H (by simp)
        ·replace c15 := Bool.eq_false_iff.mpr c15
         subst c15
         have H1 : ((beaconlaw22_wakes.f kj10).bind fun t176 => (some t176)) = some r := by rw [if_neg (show ¬ (false = true) by decide)] at H; exact H
         clear H
         have H := H1
         clear H1
         replace H := Option.bind_eq_some_iff.mp H
         obtain ⟨t176, A1360, H⟩ := H
         replace H : (some t176) = some r := H
         have A136 := Aside0.mk A1360
         clear A1360
         obtain rfl := Option.some.inj H
         go_wp2_with (first | ((with_reducible refine gate_callee (f := 44) rfl ?_); refine goesL_ (some 191) rfl rfl Try.func44 (by kernel_rfl) rfl #[] rfl (by (try simp only [List.map_toArray, List.map_cons, List.map_nil]); first | done | rfl | (simp only [List.length_drop, List.length_take]; rfl)) ?_; (with_reducible refine (beaconlaw22_wakes.calls kj10  t176 _ A136.out).mono ?_); rintro e w137 ⟨rfl, hb⟩; refine ⟨_, rfl, ?_⟩; have n0_ := Aside0.mk (Kd.R_below (by (with_reducible repeat (first | apply Kd.R_alloc | apply Kd.R_drewN | apply Kd.R_drew)); exact HO_3.out) hb); have n1_ := Aside0.mk (blk_below (g := gb172) (o := .cells #[.slice A0_0 l0_0.length c0_0, .slice A0_1 l0_1.length c0_1] 73 (0, 0)) (by (with_reducible repeat (first | refine blk_drewN ?_ _ | refine blk_drew ?_ | refine blk_alloc ?_ _)); exact BK172.out) hb); have n2_ := Aside0.mk (below_step (by repeat (first | (with_reducible first | exact HB.out | apply below_alloc | apply pw_below_drewN | apply below_drew1 | refine below_set ?_ GE172.out) | exact HB.out)) hb); clear HO_3; clear BK172; clear HB; have HO_3 := n0_; have BK172 := n1_; have HB := n2_; clear n0_ n1_ n2_; (try clear hb); (try clear hb2); (try clear hk); (try clear hi)))
         go_ret
         exact ⟨by first | rfl | (simp [errW_none, errW_some] <;> rfl) | (simp [*, errW_none, errW_some] <;> rfl), by repeat (first | (with_reducible first | exact HB.out | apply below_alloc | apply pw_below_drewN | apply below_drew1 | refine below_set ?_ GE172.out) | exact HB.out)⟩

end Go.Proofs.Ytadjhnlbpgknfaa.Y
