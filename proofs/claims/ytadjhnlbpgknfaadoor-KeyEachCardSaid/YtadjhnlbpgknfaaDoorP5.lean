-- Laid by a program of this session (wip/tools/xp.py) over the kit's print.
import Derived.Test.YtadjhnlbpgknfaaDoorP0
import Derived.Test.YtadjhnlbpgknfaaDoorP2
import Derived.Test.YtadjhnlbpgknfaaDoorP3
namespace Go.Proofs.YtadjhnlbpgknfaaDoor.P
open Go.RowKit Go.Proofs.YtadjhnlbpgknfaaDoorW.PrintWords Go.Proofs.YtadjhnlbpgknfaaDoorW.PrintLast Go.Proofs.YtadjhnlbpgknfaaDoorW.PrintMore
attribute [local go_sem] max2_int min2_int max_two min_two max_three min_three max_four min_four   -- for this text's walks alone
set_option linter.unusedVariables false
set_option linter.unusedSimpArgs false

/-! ### beaconlaw15_KeyEach: function 4 -/
mutual
def beaconlaw15_KeyEach.l0 : Nat → Int → List (S32) → Int → List ByteArray → Option (Bool)
  | 0, _, _, _, _ => none
  | k + 1, x3, x138000, x138001, x138002 => if x3 ≤ 13 then (beaconlaw15_KeyEach.l1 k x3 (-1) x138000 x138001 x138002) else (if (x138000.length : Int) ≥ 0 then ((beaconlaw15_wakes.f k).bind fun t138 => (some t138)) else (some false))
def beaconlaw15_KeyEach.l1 : Nat → Int → Int → List (S32) → Int → List ByteArray → Option (Bool)
  | 0, _, _, _, _, _ => none
  | k + 1, x3, x4, x138000, x138001, x138002 => if x4 ≤ 8 then (beaconlaw15_KeyEach.l2 k x3 x4 (([0, 1, 2, 97, 122, 65, 64, 95, 91, 49, 32, 127, 233, 55296] : List Int)) 0 x138000 x138001 x138002) else (beaconlaw15_KeyEach.l0 k (wrap64 (x3 + 1)) x138000 x138001 x138002)
def beaconlaw15_KeyEach.l2 : Nat → Int → Int → List Int → Int → List (S32) → Int → List ByteArray → Option (Bool)
  | 0, _, _, _, _, _, _, _ => none
  | k + 1, x3, x4, x5, x6, x138000, x138001, x138002 => if x6 < (x5.length : Int) then (if 0 ≤ x6 then (beaconlaw15_KeyEach.l3 k x3 x4 x5 x6 0 x138000 x138001 x138002 x3 (rd x5 x6) x4) else (none)) else (beaconlaw15_KeyEach.l1 k x3 (wrap64 (x4 + 1)) x138000 x138001 x138002)
def beaconlaw15_KeyEach.l3 : Nat → Int → Int → List Int → Int → Int → List (S32) → Int → List ByteArray → Int → Int → Int → Option (Bool)
  | 0, _, _, _, _, _, _, _, _, _, _, _ => none
  | k + 1, x3, x4, x5, x6, x8, x138000, x138001, x138002, x144000, x144001, x144002 => if x8 < 8 then ((key_Bytes.f k x144000 x144001 x144002 (wrap64 ((wrap64 ((wrap64 ((Go.bits .and .i64 x8 1) * 16)) + (wrap64 ((Go.bits .and .i64 (x8 / 2) 1) * 4)))) + (wrap64 ((x8 / 4) * 128))))).bind fun bt144 => ((beaconref15_Key.f x144000 x144001 x144002).bind fun t146 => (if t146 = true then ((beaconref15_Bytes.f x144000 x144001 x144002 (wrap64 ((wrap64 ((wrap64 ((Go.bits .and .i64 x8 1) * 16)) + (wrap64 ((Go.bits .and .i64 (x8 / 2) 1) * 4)))) + (wrap64 ((x8 / 4) * 128))))).bind fun t147 => ((beaconlaw15_num.f bt144.2).bind fun t148 => (if t148 = 0 then (if bt144.1.toList = t147.toList then (beaconlaw15_KeyEach.l3 k x3 x4 x5 x6 (wrap64 (x8 + 1)) x138000 x138001 x138002 x144000 x144001 x144002) else (some false)) else (some false)))) else ((beaconlaw15_num.f bt144.2).bind fun t149 => (if t149 = 1 then (if bt144.1.toList = ([] : List UInt8) then (beaconlaw15_KeyEach.l3 k x3 x4 x5 x6 (wrap64 (x8 + 1)) x138000 x138001 x138002 x144000 x144001 x144002) else (some false)) else (some false)))))) else (beaconlaw15_KeyEach.l2 k x3 x4 x5 (wrap64 (x6 + 1)) x138000 x138001 x138002)
end
def beaconlaw15_KeyEach.f (k : Nat) (l0_0 : List (S32)) (a0_1 : Int) (l0_2 : List ByteArray) : Option (Bool) := beaconlaw15_KeyEach.l0 k (-1) l0_0 a0_1 l0_2
theorem beaconlaw15_KeyEach.mono_l : ∀ k, (∀ y0 y1 y2 y3, LeO (beaconlaw15_KeyEach.l0 k y0 y1 y2 y3) (beaconlaw15_KeyEach.l0 (k + 1) y0 y1 y2 y3)) ∧ (∀ y0 y1 y2 y3 y4, LeO (beaconlaw15_KeyEach.l1 k y0 y1 y2 y3 y4) (beaconlaw15_KeyEach.l1 (k + 1) y0 y1 y2 y3 y4)) ∧ (∀ y0 y1 y2 y3 y4 y5 y6, LeO (beaconlaw15_KeyEach.l2 k y0 y1 y2 y3 y4 y5 y6) (beaconlaw15_KeyEach.l2 (k + 1) y0 y1 y2 y3 y4 y5 y6)) ∧ (∀ y0 y1 y2 y3 y4 y5 y6 y7 y8 y9 y10, LeO (beaconlaw15_KeyEach.l3 k y0 y1 y2 y3 y4 y5 y6 y7 y8 y9 y10) (beaconlaw15_KeyEach.l3 (k + 1) y0 y1 y2 y3 y4 y5 y6 y7 y8 y9 y10))
  | 0 => ⟨fun _ _ _ _ r h => by simp [beaconlaw15_KeyEach.l0] at h, fun _ _ _ _ _ r h => by simp [beaconlaw15_KeyEach.l1] at h, fun _ _ _ _ _ _ _ r h => by simp [beaconlaw15_KeyEach.l2] at h, fun _ _ _ _ _ _ _ _ _ _ _ r h => by simp [beaconlaw15_KeyEach.l3] at h⟩
  | k + 1 => by
    obtain ⟨ih0, ih1, ih2, ih3⟩ := beaconlaw15_KeyEach.mono_l k
    refine ⟨?_, ?_, ?_, ?_⟩
    · intro y0 y1 y2 y3
      unfold beaconlaw15_KeyEach.l0
      repeat' first
      | (with_reducible exact ih0 _ _ _ _)
      | (with_reducible exact ih1 _ _ _ _ _)
      | (with_reducible exact ih2 _ _ _ _ _ _ _)
      | (with_reducible exact ih3 _ _ _ _ _ _ _ _ _ _ _)
      | (with_reducible exact beaconlaw15_wakes.mono _)
      | (with_reducible exact key_Bytes.mono _ _ _ _ _)
      | (with_reducible exact LeO.refl _)
      | (with_reducible exact LeO.none _)
      | (with_reducible refine LeO.ite ?_ ?_)
      | (with_reducible refine LeO.bind ?_ (fun _ => ?_))
      | exact ih0 _ _ _ _
      | exact ih1 _ _ _ _ _
      | exact ih2 _ _ _ _ _ _ _
      | exact ih3 _ _ _ _ _ _ _ _ _ _ _
      | exact beaconlaw15_wakes.mono _
      | exact key_Bytes.mono _ _ _ _ _
      | exact LeO.none _
      | refine LeO.ite ?_ ?_
      | refine LeO.bind ?_ (fun _ => ?_)
    · intro y0 y1 y2 y3 y4
      unfold beaconlaw15_KeyEach.l1
      repeat' first
      | (with_reducible exact ih0 _ _ _ _)
      | (with_reducible exact ih1 _ _ _ _ _)
      | (with_reducible exact ih2 _ _ _ _ _ _ _)
      | (with_reducible exact ih3 _ _ _ _ _ _ _ _ _ _ _)
      | (with_reducible exact beaconlaw15_wakes.mono _)
      | (with_reducible exact key_Bytes.mono _ _ _ _ _)
      | (with_reducible exact LeO.refl _)
      | (with_reducible exact LeO.none _)
      | (with_reducible refine LeO.ite ?_ ?_)
      | (with_reducible refine LeO.bind ?_ (fun _ => ?_))
      | exact ih0 _ _ _ _
      | exact ih1 _ _ _ _ _
      | exact ih2 _ _ _ _ _ _ _
      | exact ih3 _ _ _ _ _ _ _ _ _ _ _
      | exact beaconlaw15_wakes.mono _
      | exact key_Bytes.mono _ _ _ _ _
      | exact LeO.none _
      | refine LeO.ite ?_ ?_
      | refine LeO.bind ?_ (fun _ => ?_)
    · intro y0 y1 y2 y3 y4 y5 y6
      unfold beaconlaw15_KeyEach.l2
      repeat' first
      | (with_reducible exact ih0 _ _ _ _)
      | (with_reducible exact ih1 _ _ _ _ _)
      | (with_reducible exact ih2 _ _ _ _ _ _ _)
      | (with_reducible exact ih3 _ _ _ _ _ _ _ _ _ _ _)
      | (with_reducible exact beaconlaw15_wakes.mono _)
      | (with_reducible exact key_Bytes.mono _ _ _ _ _)
      | (with_reducible exact LeO.refl _)
      | (with_reducible exact LeO.none _)
      | (with_reducible refine LeO.ite ?_ ?_)
      | (with_reducible refine LeO.bind ?_ (fun _ => ?_))
      | exact ih0 _ _ _ _
      | exact ih1 _ _ _ _ _
      | exact ih2 _ _ _ _ _ _ _
      | exact ih3 _ _ _ _ _ _ _ _ _ _ _
      | exact beaconlaw15_wakes.mono _
      | exact key_Bytes.mono _ _ _ _ _
      | exact LeO.none _
      | refine LeO.ite ?_ ?_
      | refine LeO.bind ?_ (fun _ => ?_)
    · intro y0 y1 y2 y3 y4 y5 y6 y7 y8 y9 y10
      unfold beaconlaw15_KeyEach.l3
      repeat' first
      | (with_reducible exact ih0 _ _ _ _)
      | (with_reducible exact ih1 _ _ _ _ _)
      | (with_reducible exact ih2 _ _ _ _ _ _ _)
      | (with_reducible exact ih3 _ _ _ _ _ _ _ _ _ _ _)
      | (with_reducible exact beaconlaw15_wakes.mono _)
      | (with_reducible exact key_Bytes.mono _ _ _ _ _)
      | (with_reducible exact LeO.refl _)
      | (with_reducible exact LeO.none _)
      | (with_reducible refine LeO.ite ?_ ?_)
      | (with_reducible refine LeO.bind ?_ (fun _ => ?_))
      | exact ih0 _ _ _ _
      | exact ih1 _ _ _ _ _
      | exact ih2 _ _ _ _ _ _ _
      | exact ih3 _ _ _ _ _ _ _ _ _ _ _
      | exact beaconlaw15_wakes.mono _
      | exact key_Bytes.mono _ _ _ _ _
      | exact LeO.none _
      | refine LeO.ite ?_ ?_
      | refine LeO.bind ?_ (fun _ => ?_)
theorem beaconlaw15_KeyEach.mono : ∀ a0 a1 a2 k, LeO (beaconlaw15_KeyEach.f k a0 a1 a2) (beaconlaw15_KeyEach.f (k + 1) a0 a1 a2) := by
  intro a0 a1 a2 k
  obtain ⟨ih0, ih1, ih2, ih3⟩ := beaconlaw15_KeyEach.mono_l k
  unfold beaconlaw15_KeyEach.f
  repeat' first
      | (with_reducible exact ih0 _ _ _ _)
      | (with_reducible exact ih1 _ _ _ _ _)
      | (with_reducible exact ih2 _ _ _ _ _ _ _)
      | (with_reducible exact ih3 _ _ _ _ _ _ _ _ _ _ _)
      | (with_reducible exact beaconlaw15_wakes.mono _)
      | (with_reducible exact key_Bytes.mono _ _ _ _ _)
      | (with_reducible exact LeO.refl _)
      | (with_reducible exact LeO.none _)
      | (with_reducible refine LeO.ite ?_ ?_)
      | (with_reducible refine LeO.bind ?_ (fun _ => ?_))
      | exact ih0 _ _ _ _
      | exact ih1 _ _ _ _ _
      | exact ih2 _ _ _ _ _ _ _
      | exact ih3 _ _ _ _ _ _ _ _ _ _ _
      | exact beaconlaw15_wakes.mono _
      | exact key_Bytes.mono _ _ _ _ _
      | exact LeO.none _
      | refine LeO.ite ?_ ?_
      | refine LeO.bind ?_ (fun _ => ?_)
set_option maxHeartbeats 8000000 in
set_option maxRecDepth 100000 in
theorem beaconlaw15_KeyEach.calls (k : Nat) (A0_0 : Option Addr) (c0_0 : Nat) (l0_0 : List (S32)) (a0_1 : Int) (A0_2 : Option Addr) (c0_2 : Nat) (l0_2 : List ByteArray) (r : Bool) (w : World) (hr0_0 : Kd.C k32 w A0_0 l0_0.length l0_0) (hc0_0 : l0_0.length ≤ c0_0) (hr0_2 : Kd.C Kd.string w A0_2 l0_2.length l0_2) (hc0_2 : l0_2.length ≤ c0_2) (h : beaconlaw15_KeyEach.f k l0_0 a0_1 l0_2 = some r) :
    Calls Tryd.prog 4 #[.agg #[.slice A0_0 l0_0.length c0_0, .int .i64 a0_1, .slice A0_2 l0_2.length c0_2]] w fun e w' => e = .returned (.bool r) ∧ Below w.heap.size w w' := by
  have hu25 := Tryd.underlying25
  have hu32 := Tryd.underlying32
  have HR0_0 := Aside0.mk hr0_0
  have HC0_0 := Aside0.mk hc0_0
  clear hr0_0 hc0_0
  have HR0_2 := Aside0.mk hr0_2
  have HC0_2 := Aside0.mk hc0_2
  clear hr0_2 hc0_2
  have HB := Aside0.mk (Below.refl w.heap.size w)
  have H : (beaconlaw15_KeyEach.l0 k (-1) l0_0 a0_1 l0_2) = some r := h
  clear h
  have H' := Aside0.mk H
  clear H
  go_enter Tryd.func4, Tryd.ntmps4
  go_wp2_with (first | ((with_reducible refine gate_dst (N := 1) rfl ?_); refine box_event ?hg (N := 1) ?hd (cs := #[.slice A0_0 l0_0.length c0_0, .int .i64 a0_1, .slice A0_2 l0_2.length c0_2]) (t := 25) ?hr ?_; (case hd => rfl); (case hg => rfl); (case hr => first | (go_simp; done) | (go_simp; rfl)); intro gb137 hg w2 hbox hb; have n0_ := Aside0.mk (below_step (by repeat (first | (with_reducible first | exact HB.out | apply below_alloc | apply pw_below_drewN | apply below_drew1) | exact HB.out)) hb); have n1_ := Aside0.mk (hbox); have n2_ := Aside0.mk ((by rw [hg]; exact (below_size (by repeat (first | (with_reducible first | exact HB.out | apply below_alloc | apply pw_below_drewN | apply below_drew1) | exact HB.out))) : w.heap.size ≤ gb137)); have n3_ := Aside0.mk ((by rw [hg]; exact (below_size (by repeat (first | (with_reducible first | exact HB.out | apply below_alloc | apply pw_below_drewN | apply below_drew1) | exact HB.out))) : w.heap.size ≤ gb137)); clear HB; have HB := n0_; have BK137 := n1_; have GW137 := n2_; have GE137 := n3_; clear n0_ n1_ n2_ n3_; clear hb hbox hg))
  go_loopg [3] k (fun kq v3 w' => ∃ (x3_1 : Int), v3 = .int .i64 x3_1 ∧ Aside0 (beaconlaw15_KeyEach.l0 kq x3_1 l0_0 a0_1 l0_2 = some r) ∧ Aside0 (kq ≤ k) ∧ Aside0 (w'.heap[gb137]? = some (.cells #[(.slice A0_0 l0_0.length c0_0), .int .i64 a0_1, (.slice A0_2 l0_2.length c0_2)] 25 (0, 0))) ∧ Aside0 (Below w.heap.size w w'))
  case atStart => exact ⟨((-1)), (by first | rfl | (simp; done) | (simp [*]; done)), H', ⟨Nat.le_refl _⟩, ⟨by (with_reducible repeat (first | refine blk_drewN ?_ _ | refine blk_drew ?_ | refine blk_alloc ?_ _)); exact BK137.out⟩, ⟨by repeat (first | (with_reducible first | exact HB.out | apply below_alloc | apply pw_below_drewN | apply below_drew1 | refine below_set ?_ GE137.out) | exact HB.out)⟩⟩
  case round =>
    clear H'
    try clear p2
    obtain ⟨x3_1, rfl, HA, HK1, BK137, HB⟩ := hrel
    cases gk with
    | zero => exact absurd HA.out (by simp [beaconlaw15_KeyEach.l0])
    | succ k1 =>
      have H := HA.out
      clear HA
      simp only [beaconlaw15_KeyEach.l0] at H
      by_cases c3 : x3_1 ≤ 13
      · rw [if_pos c3] at H
        have c3b0 : decide (x3_1 ≤ 13) = true := decide_eq_true c3
        clear c3
        have H' := Aside0.mk H
        clear H
        go_wp2
        go_loopg [4] k1 (fun kq v4 w' => ∃ (x4_2 : Int), v4 = .int .i64 x4_2 ∧ Aside0 (beaconlaw15_KeyEach.l1 kq x3_1 x4_2 l0_0 a0_1 l0_2 = some r) ∧ Aside0 (kq ≤ k1) ∧ Aside0 (w'.heap[gb137]? = some (.cells #[(.slice A0_0 l0_0.length c0_0), .int .i64 a0_1, (.slice A0_2 l0_2.length c0_2)] 25 (0, 0))) ∧ Aside0 (Below w.heap.size w w'))
        case atStart => exact ⟨((-1)), (by first | rfl | (simp; done) | (simp [*]; done)), H', ⟨Nat.le_refl _⟩, ⟨by (with_reducible repeat (first | refine blk_drewN ?_ _ | refine blk_drew ?_ | refine blk_alloc ?_ _)); exact BK137.out⟩, ⟨by repeat (first | (with_reducible first | exact HB.out | apply below_alloc | apply pw_below_drewN | apply below_drew1 | refine below_set ?_ GE137.out) | exact HB.out)⟩⟩
        case round =>
          clear H'
          try clear p2
          try clear c3
          try clear c3b0
          try clear p2
          obtain ⟨x4_2, rfl, HA, HK2, BK137, HB⟩ := hrel
          cases gk with
          | zero => exact absurd HA.out (by simp [beaconlaw15_KeyEach.l1])
          | succ k2 =>
            have H := HA.out
            clear HA
            simp only [beaconlaw15_KeyEach.l1] at H
            by_cases c4 : x4_2 ≤ 8
            · rw [if_pos c4] at H
              have c4b0 : decide (x4_2 ≤ 8) = true := decide_eq_true c4
              clear c4
              obtain ⟨y139, hy139⟩ : ∃ y_ : List Int, y_ = (([0, 1, 2, 97, 122, 65, 64, 95, 91, 49, 32, 127, 233, 55296] : List Int)) := ⟨_, rfl⟩
              replace H : (beaconlaw15_KeyEach.l2 k2 x3_1 x4_2 y139 0 l0_0 a0_1 l0_2) = some r := by first | (rw [hy139]; with_reducible exact H) | (have H2_ := (Option.bind_some _ _).symm.trans H; rw [hy139]; with_reducible exact H2_) | (have H2_ := (Option.bind_some _ _).symm.trans H; with_reducible exact H2_) | with_reducible exact H | (rw [hy139]; exact H) | exact H
              have Ny139 := Aside0.mk hy139
              clear hy139
              have H' := Aside0.mk H
              clear H
              go_wp2_with (first | ((with_reducible refine gate_dst (N := 22) rfl ?_); refine Kd.R_lit (Kd.int .i64) _ 3 ?hg (N := 22) ?hd (xs := ([0, 1, 2, 97, 122, 65, 64, 95, 91, 49, 32, 127, 233, 55296] : List Int)) (inner := [.int .i64 0, .int .i64 1, .int .i64 2, .int .i64 97, .int .i64 122, .int .i64 65, .int .i64 64, .int .i64 95, .int .i64 91, .int .i64 49, .int .i64 32, .int .i64 127, .int .i64 233, .int .i64 55296]) (ok := fun _ => True) (okp := fun _ => True) ?hr ?hp (fun _ hk => hk) trivial (Below.refl _ _) (Nat.le_refl _) (by simp) ?_; (case hd => rfl); (case hg => rfl); (case hr => first | (go_simp; done) | (go_simp; rfl)); (case hp => exact (Reps.one (show Kd.M (Kd.int .i64) _ _ _ 0 [.int .i64 0] from rfl) (Reps.one (show Kd.M (Kd.int .i64) _ _ _ 1 [.int .i64 1] from rfl) (Reps.one (show Kd.M (Kd.int .i64) _ _ _ 2 [.int .i64 2] from rfl) (Reps.one (show Kd.M (Kd.int .i64) _ _ _ 97 [.int .i64 97] from rfl) (Reps.one (show Kd.M (Kd.int .i64) _ _ _ 122 [.int .i64 122] from rfl) (Reps.one (show Kd.M (Kd.int .i64) _ _ _ 65 [.int .i64 65] from rfl) (Reps.one (show Kd.M (Kd.int .i64) _ _ _ 64 [.int .i64 64] from rfl) (Reps.one (show Kd.M (Kd.int .i64) _ _ _ 95 [.int .i64 95] from rfl) (Reps.one (show Kd.M (Kd.int .i64) _ _ _ 91 [.int .i64 91] from rfl) (Reps.one (show Kd.M (Kd.int .i64) _ _ _ 49 [.int .i64 49] from rfl) (Reps.one (show Kd.M (Kd.int .i64) _ _ _ 32 [.int .i64 32] from rfl) (Reps.one (show Kd.M (Kd.int .i64) _ _ _ 127 [.int .i64 127] from rfl) (Reps.one (show Kd.M (Kd.int .i64) _ _ _ 233 [.int .i64 233] from rfl) (Reps.one (show Kd.M (Kd.int .i64) _ _ _ 55296 [.int .i64 55296] from rfl) (Reps.none _ _)))))))))))))))); intro v140 w5 ho6 hb hg_ hnew_; clear hg_ hnew_; (first | rw [← Ny139.out] at ho6 | (simp only [Int.reduceToNat] at ho6; rw [← Ny139.out] at ho6)); have n0_ := Aside0.mk (Kd.R_lower ho6 (below_size (by repeat (first | (with_reducible first | exact HB.out | apply below_alloc | apply pw_below_drewN | apply below_drew1 | refine below_set ?_ GE137.out) | exact HB.out)))); have n1_ := Aside0.mk (blk_below (g := gb137) (o := .cells #[.slice A0_0 l0_0.length c0_0, .int .i64 a0_1, .slice A0_2 l0_2.length c0_2] 25 (0, 0)) (by (with_reducible repeat (first | refine blk_drewN ?_ _ | refine blk_drew ?_ | refine blk_alloc ?_ _)); exact BK137.out) hb); have n2_ := Aside0.mk (below_step (by repeat (first | (with_reducible first | exact HB.out | apply below_alloc | apply pw_below_drewN | apply below_drew1 | refine below_set ?_ GE137.out) | exact HB.out)) hb); clear BK137; clear HB; have HO141 := n0_; have BK137 := n1_; have HB := n2_; clear n0_ n1_ n2_; clear hb ho6))
              go_loopg [6] k2 (fun kq v6 w' => ∃ (x6_3 : Int), v6 = .int .i64 x6_3 ∧ Aside0 (beaconlaw15_KeyEach.l2 kq x3_1 x4_2 y139 x6_3 l0_0 a0_1 l0_2 = some r) ∧ Aside0 (kq ≤ k2) ∧ Aside0 (Kd.R (Kd.int .i64) 3 w' w.heap.size (fun _ => True) v140 y139) ∧ Aside0 (w'.heap[gb137]? = some (.cells #[(.slice A0_0 l0_0.length c0_0), .int .i64 a0_1, (.slice A0_2 l0_2.length c0_2)] 25 (0, 0))) ∧ Aside0 (Below w.heap.size w w'))
              case atStart => exact ⟨(0), (by first | rfl | (simp; done) | (simp [*]; done)), H', ⟨Nat.le_refl _⟩, ⟨by (with_reducible repeat (first | apply Kd.R_alloc | apply Kd.R_drewN | apply Kd.R_drew)); exact HO141.out⟩, ⟨by (with_reducible repeat (first | refine blk_drewN ?_ _ | refine blk_drew ?_ | refine blk_alloc ?_ _)); exact BK137.out⟩, ⟨by repeat (first | (with_reducible first | exact HB.out | apply below_alloc | apply pw_below_drewN | apply below_drew1 | refine below_set ?_ GE137.out) | exact HB.out)⟩⟩
              case round =>
                clear H'
                try clear p2
                try clear c3
                try clear c3b0
                try clear c4
                try clear c4b0
                try clear p2
                obtain ⟨x6_3, rfl, HA, HK3, HO_5, BK137, HB⟩ := hrel
                cases gk with
                | zero => exact absurd HA.out (by simp [beaconlaw15_KeyEach.l2])
                | succ k3 =>
                  have H := HA.out
                  clear HA
                  simp only [beaconlaw15_KeyEach.l2] at H
                  by_cases c7 : x6_3 < (y139.length : Int)
                  · rw [if_pos c7] at H
                    have c7b0 : decide (x6_3 < (y139.length : Int)) = true := decide_eq_true c7
                    clear c7
                    by_cases c8 : 0 ≤ x6_3
                    · rw [if_pos c8] at H
                      have c8b0 : decide (0 ≤ x6_3) = true := decide_eq_true c8
                      clear c8
                      have H' := Aside0.mk H
                      clear H
                      obtain ⟨Ao9, co9, eo9⟩ := Kd.R_slice HO_5.out
                      subst eo9
                      have p142 : 0 ≤ (x6_3 : Int) := of_decide_eq_true (by first | (with_reducible assumption) | assumption)
                      have q142 : x6_3 < (y139.length : Int) := of_decide_eq_true (by first | (with_reducible assumption) | assumption)
                      obtain ⟨ad142, e142, hx142_0⟩ := Kd.at_int (Kd.R_reads' HO_5.out).2.2 x6_3 p142 q142
                      cases e142
                      replace p142 := eq_true p142
                      replace q142 := eq_true q142
                      go_wp2_with (first | ((with_reducible refine gate_dst (N := 7) rfl ?_); refine box_event ?hg (N := 7) ?hd (cs := #[.int .i64 0, .int .i64 0, .int .i64 0]) (t := 32) ?hr ?_; (case hd => rfl); (case hg => rfl); (case hr => first | (go_simp; done) | (go_simp; rfl)); intro gb143 hg w10 hbox hb; have n0_ := Aside0.mk (Kd.R_below (by (with_reducible repeat (first | apply Kd.R_alloc | apply Kd.R_drewN | apply Kd.R_drew)); exact HO_5.out) hb); have n1_ := Aside0.mk (blk_below (g := gb137) (o := .cells #[.slice A0_0 l0_0.length c0_0, .int .i64 a0_1, .slice A0_2 l0_2.length c0_2] 25 (0, 0)) (by (with_reducible repeat (first | refine blk_drewN ?_ _ | refine blk_drew ?_ | refine blk_alloc ?_ _)); exact BK137.out) hb); have n2_ := Aside0.mk (below_step (by repeat (first | (with_reducible first | exact HB.out | apply below_alloc | apply pw_below_drewN | apply below_drew1 | refine below_set ?_ GE137.out) | exact HB.out)) hb); have n3_ := Aside0.mk (hbox); have n4_ := Aside0.mk ((by rw [hg]; exact (below_size (by repeat (first | (with_reducible first | exact HB.out | apply below_alloc | apply pw_below_drewN | apply below_drew1 | refine below_set ?_ GE137.out) | exact HB.out))) : w.heap.size ≤ gb143)); have n5_ := Aside0.mk ((by rw [hg]; exact (below_size (by repeat (first | (with_reducible first | exact HB.out | apply below_alloc | apply pw_below_drewN | apply below_drew1 | refine below_set ?_ GE137.out) | exact HB.out))) : w.heap.size ≤ gb143)); have n6_ := Aside0.mk ((by rw [hg]; exact Nat.ne_of_lt (blk_lt (g := gb137) (o := .cells #[.slice A0_0 l0_0.length c0_0, .int .i64 a0_1, .slice A0_2 l0_2.length c0_2] 25 (0, 0)) (by (with_reducible repeat (first | refine blk_drewN ?_ _ | refine blk_drew ?_ | refine blk_alloc ?_ _)); exact BK137.out)) : gb137 ≠ gb143)); have n7_ := Aside0.mk ((by rw [hg]; exact Nat.ne_of_gt (blk_lt (g := gb137) (o := .cells #[.slice A0_0 l0_0.length c0_0, .int .i64 a0_1, .slice A0_2 l0_2.length c0_2] 25 (0, 0)) (by (with_reducible repeat (first | refine blk_drewN ?_ _ | refine blk_drew ?_ | refine blk_alloc ?_ _)); exact BK137.out)) : gb143 ≠ gb137)); clear HO_5; clear BK137; clear HB; have HO_5 := n0_; have BK137 := n1_; have HB := n2_; have BK143 := n3_; have GW143 := n4_; have GE143 := n5_; have NB137_143 := n6_; have NB143_137 := n7_; clear n0_ n1_ n2_ n3_ n4_ n5_ n6_ n7_; clear hb hbox hg; have hnb11 := NB143_137.out; have hnc11 := NB137_143.out; have hcz12_0 : w10.cell? ⟨gb143, 0, none⟩ = some (.int .i64 0) := (blk_cell BK143.out 0).trans rfl; have hcz12_1 : w10.cell? ⟨gb143, 1, none⟩ = some (.int .i64 0) := (blk_cell BK143.out 1).trans rfl; have hcz12_2 : w10.cell? ⟨gb143, 2, none⟩ = some (.int .i64 0) := (blk_cell BK143.out 2).trans rfl; have hfz12_0 := blk_frozen BK143.out 0; have hfz12_1 := blk_frozen BK143.out 1; have hfz12_2 := blk_frozen BK143.out 2))
                      go_loopg [8] k3 (fun kq v8 w' => ∃ (x8_4 : Int), v8 = .int .i64 x8_4 ∧ Aside0 (beaconlaw15_KeyEach.l3 kq x3_1 x4_2 y139 x6_3 x8_4 l0_0 a0_1 l0_2 x3_1 (rd y139 x6_3) x4_2 = some r) ∧ Aside0 (kq ≤ k3) ∧ Aside0 (Kd.R (Kd.int .i64) 3 w' w.heap.size (fun _ => True) (.slice (some ad142) y139.length co9) y139) ∧ Aside0 (w'.heap[gb137]? = some (.cells #[(.slice A0_0 l0_0.length c0_0), .int .i64 a0_1, (.slice A0_2 l0_2.length c0_2)] 25 (0, 0))) ∧ Aside0 (w'.heap[gb143]? = some (.cells #[.int .i64 x3_1, .int .i64 (rd y139 x6_3), .int .i64 x4_2] 32 (0, 0))) ∧ Aside0 (Below w.heap.size w w'))
                      case atStart => exact ⟨(0), (by first | rfl | (simp; done) | (simp [*]; done)), H', ⟨Nat.le_refl _⟩, ⟨by (with_reducible repeat (first | apply Kd.R_alloc | apply Kd.R_drewN | apply Kd.R_drew)); exact Kd.R_mono (Kd.R_far (p := ⟨gb143, 2, none⟩) (Kd.R_far (p := ⟨gb143, 1, none⟩) (Kd.R_far (p := ⟨gb143, 0, none⟩) (Kd.R_types HO_5.out BK143.out (by decide)) (fun _ hk => hk.2) (.int .i64 x3_1)) (fun _ hk => hk.2) (.int .i64 (rd y139 x6_3))) (fun _ hk => hk.2) (.int .i64 x4_2)) (fun _ hk => trivial)⟩, ⟨by (with_reducible repeat (first | refine blk_drewN ?_ _ | refine blk_drew ?_ | refine blk_alloc ?_ _)); refine blk_far ?_ NB137_143.out _; (with_reducible repeat (first | refine blk_drewN ?_ _ | refine blk_drew ?_ | refine blk_alloc ?_ _)); refine blk_far ?_ NB137_143.out _; (with_reducible repeat (first | refine blk_drewN ?_ _ | refine blk_drew ?_ | refine blk_alloc ?_ _)); refine blk_far ?_ NB137_143.out _; (with_reducible repeat (first | refine blk_drewN ?_ _ | refine blk_drew ?_ | refine blk_alloc ?_ _)); exact BK137.out⟩, ⟨by (with_reducible repeat (first | refine blk_drewN ?_ _ | refine blk_drew ?_ | refine blk_alloc ?_ _)); refine blk_put (cs := #[.int .i64 x3_1, .int .i64 (rd y139 x6_3), .int .i64 0]) ?_ 2 _ rfl; (with_reducible repeat (first | refine blk_drewN ?_ _ | refine blk_drew ?_ | refine blk_alloc ?_ _)); refine blk_put (cs := #[.int .i64 x3_1, .int .i64 0, .int .i64 0]) ?_ 1 _ rfl; (with_reducible repeat (first | refine blk_drewN ?_ _ | refine blk_drew ?_ | refine blk_alloc ?_ _)); refine blk_put (cs := #[.int .i64 0, .int .i64 0, .int .i64 0]) ?_ 0 _ rfl; (with_reducible repeat (first | refine blk_drewN ?_ _ | refine blk_drew ?_ | refine blk_alloc ?_ _)); exact BK143.out⟩, ⟨by repeat (first | (with_reducible first | exact HB.out | apply below_alloc | apply pw_below_drewN | apply below_drew1 | refine below_set ?_ GE137.out | refine below_set ?_ GE143.out) | exact HB.out)⟩⟩
                      case round =>
                        clear H'
                        try clear c1
                        try clear p1
                        try clear q1
                        try clear hx1
                        try clear p2
                        try clear c3
                        try clear c3b0
                        try clear c4
                        try clear c4b0
                        try clear c7
                        try clear c7b0
                        try clear c8
                        try clear c8b0
                        try clear c11
                        try clear hcz12_0
                        try clear hcz12_1
                        try clear hcz12_2
                        try clear hfz12_0
                        try clear hfz12_1
                        try clear hfz12_2
                        try clear hx142_0
                        try clear p142
                        try clear p2
                        try clear q142
                        obtain ⟨x8_4, rfl, HA, HK4, HO_5, BK137, BK143, HB⟩ := hrel
                        cases gk with
                        | zero => exact absurd HA.out (by simp [beaconlaw15_KeyEach.l3])
                        | succ k4 =>
                          have H := HA.out
                          clear HA
                          simp only [beaconlaw15_KeyEach.l3] at H
                          by_cases c13 : x8_4 < 8
                          · rw [if_pos c13] at H
                            have c13b0 : decide (x8_4 < 8) = true := decide_eq_true c13
                            clear c13
                            replace H := Option.bind_eq_some_iff.mp H
                            obtain ⟨⟨t144, t145⟩, A140, H⟩ := H
                            replace H : ((beaconref15_Key.f x3_1 (rd y139 x6_3) x4_2).bind fun t146 => (if t146 = true then ((beaconref15_Bytes.f x3_1 (rd y139 x6_3) x4_2 (wrap64 ((wrap64 ((wrap64 ((Go.bits .and .i64 x8_4 1) * 16)) + (wrap64 ((Go.bits .and .i64 (x8_4 / 2) 1) * 4)))) + (wrap64 ((x8_4 / 4) * 128))))).bind fun t147 => ((beaconlaw15_num.f t145).bind fun t148 => (if t148 = 0 then (if t144.toList = t147.toList then (beaconlaw15_KeyEach.l3 k4 x3_1 x4_2 y139 x6_3 (wrap64 (x8_4 + 1)) l0_0 a0_1 l0_2 x3_1 (rd y139 x6_3) x4_2) else (some false)) else (some false)))) else ((beaconlaw15_num.f t145).bind fun t149 => (if t149 = 1 then (if t144.toList = ([] : List UInt8) then (beaconlaw15_KeyEach.l3 k4 x3_1 x4_2 y139 x6_3 (wrap64 (x8_4 + 1)) l0_0 a0_1 l0_2 x3_1 (rd y139 x6_3) x4_2) else (some false)) else (some false))))) = some r := H
                            have A14 := Aside0.mk A140
                            clear A140
                            replace H := Option.bind_eq_some_iff.mp H
                            obtain ⟨t146, A150, H⟩ := H
                            replace H : (if t146 = true then ((beaconref15_Bytes.f x3_1 (rd y139 x6_3) x4_2 (wrap64 ((wrap64 ((wrap64 ((Go.bits .and .i64 x8_4 1) * 16)) + (wrap64 ((Go.bits .and .i64 (x8_4 / 2) 1) * 4)))) + (wrap64 ((x8_4 / 4) * 128))))).bind fun t147 => ((beaconlaw15_num.f t145).bind fun t148 => (if t148 = 0 then (if t144.toList = t147.toList then (beaconlaw15_KeyEach.l3 k4 x3_1 x4_2 y139 x6_3 (wrap64 (x8_4 + 1)) l0_0 a0_1 l0_2 x3_1 (rd y139 x6_3) x4_2) else (some false)) else (some false)))) else ((beaconlaw15_num.f t145).bind fun t149 => (if t149 = 1 then (if t144.toList = ([] : List UInt8) then (beaconlaw15_KeyEach.l3 k4 x3_1 x4_2 y139 x6_3 (wrap64 (x8_4 + 1)) l0_0 a0_1 l0_2 x3_1 (rd y139 x6_3) x4_2) else (some false)) else (some false)))) = some r := H
                            have A15 := Aside0.mk A150
                            clear A150
                            by_cases c16 : t146 = true
                            · subst c16
                              have H1 : ((beaconref15_Bytes.f x3_1 (rd y139 x6_3) x4_2 (wrap64 ((wrap64 ((wrap64 ((Go.bits .and .i64 x8_4 1) * 16)) + (wrap64 ((Go.bits .and .i64 (x8_4 / 2) 1) * 4)))) + (wrap64 ((x8_4 / 4) * 128))))).bind fun t147 => ((beaconlaw15_num.f t145).bind fun t148 => (if t148 = 0 then (if t144.toList = t147.toList then (beaconlaw15_KeyEach.l3 k4 x3_1 x4_2 y139 x6_3 (wrap64 (x8_4 + 1)) l0_0 a0_1 l0_2 x3_1 (rd y139 x6_3) x4_2) else (some false)) else (some false)))) = some r := by rw [if_pos rfl] at H; exact H
                              clear H
                              have H := H1
                              clear H1
                              replace H := Option.bind_eq_some_iff.mp H
                              obtain ⟨t147, A170, H⟩ := H
                              replace H : ((beaconlaw15_num.f t145).bind fun t148 => (if t148 = 0 then (if t144.toList = t147.toList then (beaconlaw15_KeyEach.l3 k4 x3_1 x4_2 y139 x6_3 (wrap64 (x8_4 + 1)) l0_0 a0_1 l0_2 x3_1 (rd y139 x6_3) x4_2) else (some false)) else (some false))) = some r := H
                              have A17 := Aside0.mk A170
                              clear A170
                              replace H := Option.bind_eq_some_iff.mp H
                              obtain ⟨t148, A180, H⟩ := H
                              replace H : (if t148 = 0 then (if t144.toList = t147.toList then (beaconlaw15_KeyEach.l3 k4 x3_1 x4_2 y139 x6_3 (wrap64 (x8_4 + 1)) l0_0 a0_1 l0_2 x3_1 (rd y139 x6_3) x4_2) else (some false)) else (some false)) = some r := H
                              have A18 := Aside0.mk A180
                              clear A180
                              by_cases c19 : t148 = 0
                              · rw [if_pos c19] at H
                                have c19b0 : (t148 == 0) = true := beq_iff_eq.mpr c19
                                have c19b1 : (t148 != 0) = false := bne_eq_false_iff_eq.mpr c19
                                clear c19
                                by_cases c20 : t144.toList = t147.toList
                                · rw [if_pos c20] at H
                                  have c20b0 : (t144.toList == t147.toList) = true := beq_iff_eq.mpr c20
                                  have c20b1 : (t144.toList != t147.toList) = false := bne_eq_false_iff_eq.mpr c20
                                  clear c20
                                  have H' := Aside0.mk H
                                  clear H
                                  have hnb21 := NB143_137.out
                                  have hnc21 := NB137_143.out
                                  have hcz22_0 : wr.cell? ⟨gb143, 0, none⟩ = some (.int .i64 x3_1) := (blk_cell BK143.out 0).trans rfl
                                  have hcz22_1 : wr.cell? ⟨gb143, 1, none⟩ = some (.int .i64 (rd y139 x6_3)) := (blk_cell BK143.out 1).trans rfl
                                  have hcz22_2 : wr.cell? ⟨gb143, 2, none⟩ = some (.int .i64 x4_2) := (blk_cell BK143.out 2).trans rfl
                                  have hfz22_0 := blk_frozen BK143.out 0
                                  have hfz22_1 := blk_frozen BK143.out 1
                                  have hfz22_2 := blk_frozen BK143.out 2
                                  go_wp2_with (first | ((with_reducible refine gate_callee (f := 6) rfl ?_); refine goesL_ (some 55) rfl rfl Tryd.func6 (by kernel_rfl) rfl #[.agg #[.int .i64 x3_1, .int .i64 (rd y139 x6_3), .int .i64 x4_2], .int .i64 (wrap64 ((wrap64 ((wrap64 ((Go.bits .and .i64 x8_4 1) * 16)) + (wrap64 ((Go.bits .and .i64 (x8_4 / 2) 1) * 4)))) + (wrap64 ((x8_4 / 4) * 128))))] rfl (by (try simp only [List.map_toArray, List.map_cons, List.map_nil]); first | done | rfl | (simp only [List.length_drop, List.length_take]; rfl)) ?_; (with_reducible refine (key_Bytes.calls k4 x3_1 (rd y139 x6_3) x4_2 (wrap64 ((wrap64 ((wrap64 ((Go.bits .and .i64 x8_4 1) * 16)) + (wrap64 ((Go.bits .and .i64 (x8_4 / 2) 1) * 4)))) + (wrap64 ((x8_4 / 4) * 128)))) t144 t145 _ A14.out).mono ?_); rintro e w23 ⟨rfl, hb⟩; refine ⟨_, rfl, ?_⟩; have n0_ := Aside0.mk (Kd.R_below (by (with_reducible repeat (first | apply Kd.R_alloc | apply Kd.R_drewN | apply Kd.R_drew)); exact HO_5.out) hb); have n1_ := Aside0.mk (blk_below (g := gb137) (o := .cells #[.slice A0_0 l0_0.length c0_0, .int .i64 a0_1, .slice A0_2 l0_2.length c0_2] 25 (0, 0)) (by (with_reducible repeat (first | refine blk_drewN ?_ _ | refine blk_drew ?_ | refine blk_alloc ?_ _)); exact BK137.out) hb); have n2_ := Aside0.mk (blk_below (g := gb143) (o := .cells #[.int .i64 x3_1, .int .i64 (rd y139 x6_3), .int .i64 x4_2] 32 (0, 0)) (by (with_reducible repeat (first | refine blk_drewN ?_ _ | refine blk_drew ?_ | refine blk_alloc ?_ _)); exact BK143.out) hb); have n3_ := Aside0.mk (below_step (by repeat (first | (with_reducible first | exact HB.out | apply below_alloc | apply pw_below_drewN | apply below_drew1 | refine below_set ?_ GE137.out | refine below_set ?_ GE143.out) | exact HB.out)) hb); clear HO_5; clear BK137; clear BK143; clear HB; have HO_5 := n0_; have BK137 := n1_; have BK143 := n2_; have HB := n3_; clear n0_ n1_ n2_ n3_; (try clear hb); (try clear hb2); (try clear hk); (try clear hi); have hcz24_0 : w23.cell? ⟨gb143, 0, none⟩ = some (.int .i64 x3_1) := (blk_cell BK143.out 0).trans rfl; have hcz24_1 : w23.cell? ⟨gb143, 1, none⟩ = some (.int .i64 (rd y139 x6_3)) := (blk_cell BK143.out 1).trans rfl; have hcz24_2 : w23.cell? ⟨gb143, 2, none⟩ = some (.int .i64 x4_2) := (blk_cell BK143.out 2).trans rfl; have hfz24_0 := blk_frozen BK143.out 0; have hfz24_1 := blk_frozen BK143.out 1; have hfz24_2 := blk_frozen BK143.out 2) | ((with_reducible refine gate_callee (f := 7) rfl ?_); refine goesL_ (some 59) rfl rfl Tryd.func7 (by kernel_rfl) rfl #[.agg #[.int .i64 x3_1, .int .i64 (rd y139 x6_3), .int .i64 x4_2]] rfl (by (try simp only [List.map_toArray, List.map_cons, List.map_nil]); first | done | rfl | (simp only [List.length_drop, List.length_take]; rfl)) ?_; (with_reducible refine (beaconref15_Key.calls x3_1 (rd y139 x6_3) x4_2 true _ A15.out).mono ?_); rintro e w25 ⟨rfl, hb⟩; refine ⟨_, rfl, ?_⟩; have n0_ := Aside0.mk (Kd.R_below (by (with_reducible repeat (first | apply Kd.R_alloc | apply Kd.R_drewN | apply Kd.R_drew)); exact HO_5.out) hb); have n1_ := Aside0.mk (blk_below (g := gb137) (o := .cells #[.slice A0_0 l0_0.length c0_0, .int .i64 a0_1, .slice A0_2 l0_2.length c0_2] 25 (0, 0)) (by (with_reducible repeat (first | refine blk_drewN ?_ _ | refine blk_drew ?_ | refine blk_alloc ?_ _)); exact BK137.out) hb); have n2_ := Aside0.mk (blk_below (g := gb143) (o := .cells #[.int .i64 x3_1, .int .i64 (rd y139 x6_3), .int .i64 x4_2] 32 (0, 0)) (by (with_reducible repeat (first | refine blk_drewN ?_ _ | refine blk_drew ?_ | refine blk_alloc ?_ _)); exact BK143.out) hb); have n3_ := Aside0.mk (below_step (by repeat (first | (with_reducible first | exact HB.out | apply below_alloc | apply pw_below_drewN | apply below_drew1 | refine below_set ?_ GE137.out | refine below_set ?_ GE143.out) | exact HB.out)) hb); clear HO_5; clear BK137; clear BK143; clear HB; have HO_5 := n0_; have BK137 := n1_; have BK143 := n2_; have HB := n3_; clear n0_ n1_ n2_ n3_; (try clear hb); (try clear hb2); (try clear hk); (try clear hi); have hcz26_0 : w25.cell? ⟨gb143, 0, none⟩ = some (.int .i64 x3_1) := (blk_cell BK143.out 0).trans rfl; have hcz26_1 : w25.cell? ⟨gb143, 1, none⟩ = some (.int .i64 (rd y139 x6_3)) := (blk_cell BK143.out 1).trans rfl; have hcz26_2 : w25.cell? ⟨gb143, 2, none⟩ = some (.int .i64 x4_2) := (blk_cell BK143.out 2).trans rfl; have hfz26_0 := blk_frozen BK143.out 0; have hfz26_1 := blk_frozen BK143.out 1; have hfz26_2 := blk_frozen BK143.out 2) | ((with_reducible refine gate_callee (f := 9) rfl ?_); refine goesL_ (some 62) rfl rfl Tryd.func9 (by kernel_rfl) rfl #[.agg #[.int .i64 x3_1, .int .i64 (rd y139 x6_3), .int .i64 x4_2], .int .i64 (wrap64 ((wrap64 ((wrap64 ((Go.bits .and .i64 x8_4 1) * 16)) + (wrap64 ((Go.bits .and .i64 (x8_4 / 2) 1) * 4)))) + (wrap64 ((x8_4 / 4) * 128))))] rfl (by (try simp only [List.map_toArray, List.map_cons, List.map_nil]); first | done | rfl | (simp only [List.length_drop, List.length_take]; rfl)) ?_; (with_reducible refine (beaconref15_Bytes.calls x3_1 (rd y139 x6_3) x4_2 (wrap64 ((wrap64 ((wrap64 ((Go.bits .and .i64 x8_4 1) * 16)) + (wrap64 ((Go.bits .and .i64 (x8_4 / 2) 1) * 4)))) + (wrap64 ((x8_4 / 4) * 128)))) t147 _ A17.out).mono ?_); rintro e w27 ⟨rfl, hb⟩; refine ⟨_, rfl, ?_⟩; have n0_ := Aside0.mk (Kd.R_below (by (with_reducible repeat (first | apply Kd.R_alloc | apply Kd.R_drewN | apply Kd.R_drew)); exact HO_5.out) hb); have n1_ := Aside0.mk (blk_below (g := gb137) (o := .cells #[.slice A0_0 l0_0.length c0_0, .int .i64 a0_1, .slice A0_2 l0_2.length c0_2] 25 (0, 0)) (by (with_reducible repeat (first | refine blk_drewN ?_ _ | refine blk_drew ?_ | refine blk_alloc ?_ _)); exact BK137.out) hb); have n2_ := Aside0.mk (blk_below (g := gb143) (o := .cells #[.int .i64 x3_1, .int .i64 (rd y139 x6_3), .int .i64 x4_2] 32 (0, 0)) (by (with_reducible repeat (first | refine blk_drewN ?_ _ | refine blk_drew ?_ | refine blk_alloc ?_ _)); exact BK143.out) hb); have n3_ := Aside0.mk (below_step (by repeat (first | (with_reducible first | exact HB.out | apply below_alloc | apply pw_below_drewN | apply below_drew1 | refine below_set ?_ GE137.out | refine below_set ?_ GE143.out) | exact HB.out)) hb); clear HO_5; clear BK137; clear BK143; clear HB; have HO_5 := n0_; have BK137 := n1_; have BK143 := n2_; have HB := n3_; clear n0_ n1_ n2_ n3_; (try clear hb); (try clear hb2); (try clear hk); (try clear hi)) | ((with_reducible refine gate_callee (f := 10) rfl ?_); refine goesL_ (some 64) rfl rfl Tryd.func10 (by kernel_rfl) rfl #[.int .i64 t145] rfl (by (try simp only [List.map_toArray, List.map_cons, List.map_nil]); first | done | rfl | (simp only [List.length_drop, List.length_take]; rfl)) ?_; (with_reducible refine (beaconlaw15_num.calls t145 t148 _ A18.out).mono ?_); rintro e w' ⟨rfl, ⟨nd, rfl⟩⟩; refine ⟨_, rfl, ?_⟩))
                                  go_roundg k4
                                  case measure => have := HK1.out; have := HK2.out; have := HK3.out; have := HK4.out; omega
                                  case rel => exact ⟨(wrap64 (x8_4 + 1)), (by first | rfl | (simp; done) | (simp [*]; done)), H', ⟨by have := HK1.out; have := HK2.out; have := HK3.out; have := HK4.out; omega⟩, ⟨by (with_reducible repeat (first | apply Kd.R_alloc | apply Kd.R_drewN | apply Kd.R_drew)); exact HO_5.out⟩, ⟨by (with_reducible repeat (first | refine blk_drewN ?_ _ | refine blk_drew ?_ | refine blk_alloc ?_ _)); exact BK137.out⟩, ⟨by (with_reducible repeat (first | refine blk_drewN ?_ _ | refine blk_drew ?_ | refine blk_alloc ?_ _)); exact BK143.out⟩, ⟨by repeat (first | (with_reducible first | exact HB.out | apply below_alloc | apply pw_below_drewN | apply below_drew1 | refine below_set ?_ GE137.out | refine below_set ?_ GE143.out) | exact HB.out)⟩⟩
                                · rw [if_neg c20] at H
                                  have c20b0 : (t144.toList == t147.toList) = false := beq_eq_false_iff_ne.mpr c20
                                  have c20b1 : (t144.toList != t147.toList) = true := bne_iff_ne.mpr c20
                                  obtain rfl := Option.some.inj H
                                  have hnb28 := NB143_137.out
                                  have hnc28 := NB137_143.out
                                  have hcz29_0 : wr.cell? ⟨gb143, 0, none⟩ = some (.int .i64 x3_1) := (blk_cell BK143.out 0).trans rfl
                                  have hcz29_1 : wr.cell? ⟨gb143, 1, none⟩ = some (.int .i64 (rd y139 x6_3)) := (blk_cell BK143.out 1).trans rfl
                                  have hcz29_2 : wr.cell? ⟨gb143, 2, none⟩ = some (.int .i64 x4_2) := (blk_cell BK143.out 2).trans rfl
                                  have hfz29_0 := blk_frozen BK143.out 0
                                  have hfz29_1 := blk_frozen BK143.out 1
                                  have hfz29_2 := blk_frozen BK143.out 2
                                  go_wp2_with (first | ((with_reducible refine gate_callee (f := 6) rfl ?_); refine goesL_ (some 55) rfl rfl Tryd.func6 (by kernel_rfl) rfl #[.agg #[.int .i64 x3_1, .int .i64 (rd y139 x6_3), .int .i64 x4_2], .int .i64 (wrap64 ((wrap64 ((wrap64 ((Go.bits .and .i64 x8_4 1) * 16)) + (wrap64 ((Go.bits .and .i64 (x8_4 / 2) 1) * 4)))) + (wrap64 ((x8_4 / 4) * 128))))] rfl (by (try simp only [List.map_toArray, List.map_cons, List.map_nil]); first | done | rfl | (simp only [List.length_drop, List.length_take]; rfl)) ?_; (with_reducible refine (key_Bytes.calls k4 x3_1 (rd y139 x6_3) x4_2 (wrap64 ((wrap64 ((wrap64 ((Go.bits .and .i64 x8_4 1) * 16)) + (wrap64 ((Go.bits .and .i64 (x8_4 / 2) 1) * 4)))) + (wrap64 ((x8_4 / 4) * 128)))) t144 t145 _ A14.out).mono ?_); rintro e w30 ⟨rfl, hb⟩; refine ⟨_, rfl, ?_⟩; have n0_ := Aside0.mk (Kd.R_below (by (with_reducible repeat (first | apply Kd.R_alloc | apply Kd.R_drewN | apply Kd.R_drew)); exact HO_5.out) hb); have n1_ := Aside0.mk (blk_below (g := gb137) (o := .cells #[.slice A0_0 l0_0.length c0_0, .int .i64 a0_1, .slice A0_2 l0_2.length c0_2] 25 (0, 0)) (by (with_reducible repeat (first | refine blk_drewN ?_ _ | refine blk_drew ?_ | refine blk_alloc ?_ _)); exact BK137.out) hb); have n2_ := Aside0.mk (blk_below (g := gb143) (o := .cells #[.int .i64 x3_1, .int .i64 (rd y139 x6_3), .int .i64 x4_2] 32 (0, 0)) (by (with_reducible repeat (first | refine blk_drewN ?_ _ | refine blk_drew ?_ | refine blk_alloc ?_ _)); exact BK143.out) hb); have n3_ := Aside0.mk (below_step (by repeat (first | (with_reducible first | exact HB.out | apply below_alloc | apply pw_below_drewN | apply below_drew1 | refine below_set ?_ GE137.out | refine below_set ?_ GE143.out) | exact HB.out)) hb); clear HO_5; clear BK137; clear BK143; clear HB; have HO_5 := n0_; have BK137 := n1_; have BK143 := n2_; have HB := n3_; clear n0_ n1_ n2_ n3_; (try clear hb); (try clear hb2); (try clear hk); (try clear hi); have hcz31_0 : w30.cell? ⟨gb143, 0, none⟩ = some (.int .i64 x3_1) := (blk_cell BK143.out 0).trans rfl; have hcz31_1 : w30.cell? ⟨gb143, 1, none⟩ = some (.int .i64 (rd y139 x6_3)) := (blk_cell BK143.out 1).trans rfl; have hcz31_2 : w30.cell? ⟨gb143, 2, none⟩ = some (.int .i64 x4_2) := (blk_cell BK143.out 2).trans rfl; have hfz31_0 := blk_frozen BK143.out 0; have hfz31_1 := blk_frozen BK143.out 1; have hfz31_2 := blk_frozen BK143.out 2) | ((with_reducible refine gate_callee (f := 7) rfl ?_); refine goesL_ (some 59) rfl rfl Tryd.func7 (by kernel_rfl) rfl #[.agg #[.int .i64 x3_1, .int .i64 (rd y139 x6_3), .int .i64 x4_2]] rfl (by (try simp only [List.map_toArray, List.map_cons, List.map_nil]); first | done | rfl | (simp only [List.length_drop, List.length_take]; rfl)) ?_; (with_reducible refine (beaconref15_Key.calls x3_1 (rd y139 x6_3) x4_2 true _ A15.out).mono ?_); rintro e w32 ⟨rfl, hb⟩; refine ⟨_, rfl, ?_⟩; have n0_ := Aside0.mk (Kd.R_below (by (with_reducible repeat (first | apply Kd.R_alloc | apply Kd.R_drewN | apply Kd.R_drew)); exact HO_5.out) hb); have n1_ := Aside0.mk (blk_below (g := gb137) (o := .cells #[.slice A0_0 l0_0.length c0_0, .int .i64 a0_1, .slice A0_2 l0_2.length c0_2] 25 (0, 0)) (by (with_reducible repeat (first | refine blk_drewN ?_ _ | refine blk_drew ?_ | refine blk_alloc ?_ _)); exact BK137.out) hb); have n2_ := Aside0.mk (blk_below (g := gb143) (o := .cells #[.int .i64 x3_1, .int .i64 (rd y139 x6_3), .int .i64 x4_2] 32 (0, 0)) (by (with_reducible repeat (first | refine blk_drewN ?_ _ | refine blk_drew ?_ | refine blk_alloc ?_ _)); exact BK143.out) hb); have n3_ := Aside0.mk (below_step (by repeat (first | (with_reducible first | exact HB.out | apply below_alloc | apply pw_below_drewN | apply below_drew1 | refine below_set ?_ GE137.out | refine below_set ?_ GE143.out) | exact HB.out)) hb); clear HO_5; clear BK137; clear BK143; clear HB; have HO_5 := n0_; have BK137 := n1_; have BK143 := n2_; have HB := n3_; clear n0_ n1_ n2_ n3_; (try clear hb); (try clear hb2); (try clear hk); (try clear hi); have hcz33_0 : w32.cell? ⟨gb143, 0, none⟩ = some (.int .i64 x3_1) := (blk_cell BK143.out 0).trans rfl; have hcz33_1 : w32.cell? ⟨gb143, 1, none⟩ = some (.int .i64 (rd y139 x6_3)) := (blk_cell BK143.out 1).trans rfl; have hcz33_2 : w32.cell? ⟨gb143, 2, none⟩ = some (.int .i64 x4_2) := (blk_cell BK143.out 2).trans rfl; have hfz33_0 := blk_frozen BK143.out 0; have hfz33_1 := blk_frozen BK143.out 1; have hfz33_2 := blk_frozen BK143.out 2) | ((with_reducible refine gate_callee (f := 9) rfl ?_); refine goesL_ (some 62) rfl rfl Tryd.func9 (by kernel_rfl) rfl #[.agg #[.int .i64 x3_1, .int .i64 (rd y139 x6_3), .int .i64 x4_2], .int .i64 (wrap64 ((wrap64 ((wrap64 ((Go.bits .and .i64 x8_4 1) * 16)) + (wrap64 ((Go.bits .and .i64 (x8_4 / 2) 1) * 4)))) + (wrap64 ((x8_4 / 4) * 128))))] rfl (by (try simp only [List.map_toArray, List.map_cons, List.map_nil]); first | done | rfl | (simp only [List.length_drop, List.length_take]; rfl)) ?_; (with_reducible refine (beaconref15_Bytes.calls x3_1 (rd y139 x6_3) x4_2 (wrap64 ((wrap64 ((wrap64 ((Go.bits .and .i64 x8_4 1) * 16)) + (wrap64 ((Go.bits .and .i64 (x8_4 / 2) 1) * 4)))) + (wrap64 ((x8_4 / 4) * 128)))) t147 _ A17.out).mono ?_); rintro e w34 ⟨rfl, hb⟩; refine ⟨_, rfl, ?_⟩; have n0_ := Aside0.mk (Kd.R_below (by (with_reducible repeat (first | apply Kd.R_alloc | apply Kd.R_drewN | apply Kd.R_drew)); exact HO_5.out) hb); have n1_ := Aside0.mk (blk_below (g := gb137) (o := .cells #[.slice A0_0 l0_0.length c0_0, .int .i64 a0_1, .slice A0_2 l0_2.length c0_2] 25 (0, 0)) (by (with_reducible repeat (first | refine blk_drewN ?_ _ | refine blk_drew ?_ | refine blk_alloc ?_ _)); exact BK137.out) hb); have n2_ := Aside0.mk (blk_below (g := gb143) (o := .cells #[.int .i64 x3_1, .int .i64 (rd y139 x6_3), .int .i64 x4_2] 32 (0, 0)) (by (with_reducible repeat (first | refine blk_drewN ?_ _ | refine blk_drew ?_ | refine blk_alloc ?_ _)); exact BK143.out) hb); have n3_ := Aside0.mk (below_step (by repeat (first | (with_reducible first | exact HB.out | apply below_alloc | apply pw_below_drewN | apply below_drew1 | refine below_set ?_ GE137.out | refine below_set ?_ GE143.out) | exact HB.out)) hb); clear HO_5; clear BK137; clear BK143; clear HB; have HO_5 := n0_; have BK137 := n1_; have BK143 := n2_; have HB := n3_; clear n0_ n1_ n2_ n3_; (try clear hb); (try clear hb2); (try clear hk); (try clear hi)) | ((with_reducible refine gate_callee (f := 10) rfl ?_); refine goesL_ (some 64) rfl rfl Tryd.func10 (by kernel_rfl) rfl #[.int .i64 t145] rfl (by (try simp only [List.map_toArray, List.map_cons, List.map_nil]); first | done | rfl | (simp only [List.length_drop, List.length_take]; rfl)) ?_; (with_reducible refine (beaconlaw15_num.calls t145 t148 _ A18.out).mono ?_); rintro e w' ⟨rfl, ⟨nd, rfl⟩⟩; refine ⟨_, rfl, ?_⟩))
                                  go_ret
                                  exact ⟨by first | rfl | (simp [errW_none, errW_some] <;> rfl) | (simp [*, errW_none, errW_some] <;> rfl), by repeat (first | (with_reducible first | exact HB.out | apply below_alloc | apply pw_below_drewN | apply below_drew1 | refine below_set ?_ GE137.out | refine below_set ?_ GE143.out) | exact HB.out)⟩
                              · rw [if_neg c19] at H
                                have c19b0 : (t148 == 0) = false := beq_eq_false_iff_ne.mpr c19
                                have c19b1 : (t148 != 0) = true := bne_iff_ne.mpr c19
                                obtain rfl := Option.some.inj H
                                have hnb35 := NB143_137.out
                                have hnc35 := NB137_143.out
                                have hcz36_0 : wr.cell? ⟨gb143, 0, none⟩ = some (.int .i64 x3_1) := (blk_cell BK143.out 0).trans rfl
                                have hcz36_1 : wr.cell? ⟨gb143, 1, none⟩ = some (.int .i64 (rd y139 x6_3)) := (blk_cell BK143.out 1).trans rfl
                                have hcz36_2 : wr.cell? ⟨gb143, 2, none⟩ = some (.int .i64 x4_2) := (blk_cell BK143.out 2).trans rfl
                                have hfz36_0 := blk_frozen BK143.out 0
                                have hfz36_1 := blk_frozen BK143.out 1
                                have hfz36_2 := blk_frozen BK143.out 2
                                go_wp2_with (first | ((with_reducible refine gate_callee (f := 6) rfl ?_); refine goesL_ (some 55) rfl rfl Tryd.func6 (by kernel_rfl) rfl #[.agg #[.int .i64 x3_1, .int .i64 (rd y139 x6_3), .int .i64 x4_2], .int .i64 (wrap64 ((wrap64 ((wrap64 ((Go.bits .and .i64 x8_4 1) * 16)) + (wrap64 ((Go.bits .and .i64 (x8_4 / 2) 1) * 4)))) + (wrap64 ((x8_4 / 4) * 128))))] rfl (by (try simp only [List.map_toArray, List.map_cons, List.map_nil]); first | done | rfl | (simp only [List.length_drop, List.length_take]; rfl)) ?_; (with_reducible refine (key_Bytes.calls k4 x3_1 (rd y139 x6_3) x4_2 (wrap64 ((wrap64 ((wrap64 ((Go.bits .and .i64 x8_4 1) * 16)) + (wrap64 ((Go.bits .and .i64 (x8_4 / 2) 1) * 4)))) + (wrap64 ((x8_4 / 4) * 128)))) t144 t145 _ A14.out).mono ?_); rintro e w37 ⟨rfl, hb⟩; refine ⟨_, rfl, ?_⟩; have n0_ := Aside0.mk (Kd.R_below (by (with_reducible repeat (first | apply Kd.R_alloc | apply Kd.R_drewN | apply Kd.R_drew)); exact HO_5.out) hb); have n1_ := Aside0.mk (blk_below (g := gb137) (o := .cells #[.slice A0_0 l0_0.length c0_0, .int .i64 a0_1, .slice A0_2 l0_2.length c0_2] 25 (0, 0)) (by (with_reducible repeat (first | refine blk_drewN ?_ _ | refine blk_drew ?_ | refine blk_alloc ?_ _)); exact BK137.out) hb); have n2_ := Aside0.mk (blk_below (g := gb143) (o := .cells #[.int .i64 x3_1, .int .i64 (rd y139 x6_3), .int .i64 x4_2] 32 (0, 0)) (by (with_reducible repeat (first | refine blk_drewN ?_ _ | refine blk_drew ?_ | refine blk_alloc ?_ _)); exact BK143.out) hb); have n3_ := Aside0.mk (below_step (by repeat (first | (with_reducible first | exact HB.out | apply below_alloc | apply pw_below_drewN | apply below_drew1 | refine below_set ?_ GE137.out | refine below_set ?_ GE143.out) | exact HB.out)) hb); clear HO_5; clear BK137; clear BK143; clear HB; have HO_5 := n0_; have BK137 := n1_; have BK143 := n2_; have HB := n3_; clear n0_ n1_ n2_ n3_; (try clear hb); (try clear hb2); (try clear hk); (try clear hi); have hcz38_0 : w37.cell? ⟨gb143, 0, none⟩ = some (.int .i64 x3_1) := (blk_cell BK143.out 0).trans rfl; have hcz38_1 : w37.cell? ⟨gb143, 1, none⟩ = some (.int .i64 (rd y139 x6_3)) := (blk_cell BK143.out 1).trans rfl; have hcz38_2 : w37.cell? ⟨gb143, 2, none⟩ = some (.int .i64 x4_2) := (blk_cell BK143.out 2).trans rfl; have hfz38_0 := blk_frozen BK143.out 0; have hfz38_1 := blk_frozen BK143.out 1; have hfz38_2 := blk_frozen BK143.out 2) | ((with_reducible refine gate_callee (f := 7) rfl ?_); refine goesL_ (some 59) rfl rfl Tryd.func7 (by kernel_rfl) rfl #[.agg #[.int .i64 x3_1, .int .i64 (rd y139 x6_3), .int .i64 x4_2]] rfl (by (try simp only [List.map_toArray, List.map_cons, List.map_nil]); first | done | rfl | (simp only [List.length_drop, List.length_take]; rfl)) ?_; (with_reducible refine (beaconref15_Key.calls x3_1 (rd y139 x6_3) x4_2 true _ A15.out).mono ?_); rintro e w39 ⟨rfl, hb⟩; refine ⟨_, rfl, ?_⟩; have n0_ := Aside0.mk (Kd.R_below (by (with_reducible repeat (first | apply Kd.R_alloc | apply Kd.R_drewN | apply Kd.R_drew)); exact HO_5.out) hb); have n1_ := Aside0.mk (blk_below (g := gb137) (o := .cells #[.slice A0_0 l0_0.length c0_0, .int .i64 a0_1, .slice A0_2 l0_2.length c0_2] 25 (0, 0)) (by (with_reducible repeat (first | refine blk_drewN ?_ _ | refine blk_drew ?_ | refine blk_alloc ?_ _)); exact BK137.out) hb); have n2_ := Aside0.mk (blk_below (g := gb143) (o := .cells #[.int .i64 x3_1, .int .i64 (rd y139 x6_3), .int .i64 x4_2] 32 (0, 0)) (by (with_reducible repeat (first | refine blk_drewN ?_ _ | refine blk_drew ?_ | refine blk_alloc ?_ _)); exact BK143.out) hb); have n3_ := Aside0.mk (below_step (by repeat (first | (with_reducible first | exact HB.out | apply below_alloc | apply pw_below_drewN | apply below_drew1 | refine below_set ?_ GE137.out | refine below_set ?_ GE143.out) | exact HB.out)) hb); clear HO_5; clear BK137; clear BK143; clear HB; have HO_5 := n0_; have BK137 := n1_; have BK143 := n2_; have HB := n3_; clear n0_ n1_ n2_ n3_; (try clear hb); (try clear hb2); (try clear hk); (try clear hi); have hcz40_0 : w39.cell? ⟨gb143, 0, none⟩ = some (.int .i64 x3_1) := (blk_cell BK143.out 0).trans rfl; have hcz40_1 : w39.cell? ⟨gb143, 1, none⟩ = some (.int .i64 (rd y139 x6_3)) := (blk_cell BK143.out 1).trans rfl; have hcz40_2 : w39.cell? ⟨gb143, 2, none⟩ = some (.int .i64 x4_2) := (blk_cell BK143.out 2).trans rfl; have hfz40_0 := blk_frozen BK143.out 0; have hfz40_1 := blk_frozen BK143.out 1; have hfz40_2 := blk_frozen BK143.out 2) | ((with_reducible refine gate_callee (f := 9) rfl ?_); refine goesL_ (some 62) rfl rfl Tryd.func9 (by kernel_rfl) rfl #[.agg #[.int .i64 x3_1, .int .i64 (rd y139 x6_3), .int .i64 x4_2], .int .i64 (wrap64 ((wrap64 ((wrap64 ((Go.bits .and .i64 x8_4 1) * 16)) + (wrap64 ((Go.bits .and .i64 (x8_4 / 2) 1) * 4)))) + (wrap64 ((x8_4 / 4) * 128))))] rfl (by (try simp only [List.map_toArray, List.map_cons, List.map_nil]); first | done | rfl | (simp only [List.length_drop, List.length_take]; rfl)) ?_; (with_reducible refine (beaconref15_Bytes.calls x3_1 (rd y139 x6_3) x4_2 (wrap64 ((wrap64 ((wrap64 ((Go.bits .and .i64 x8_4 1) * 16)) + (wrap64 ((Go.bits .and .i64 (x8_4 / 2) 1) * 4)))) + (wrap64 ((x8_4 / 4) * 128)))) t147 _ A17.out).mono ?_); rintro e w41 ⟨rfl, hb⟩; refine ⟨_, rfl, ?_⟩; have n0_ := Aside0.mk (Kd.R_below (by (with_reducible repeat (first | apply Kd.R_alloc | apply Kd.R_drewN | apply Kd.R_drew)); exact HO_5.out) hb); have n1_ := Aside0.mk (blk_below (g := gb137) (o := .cells #[.slice A0_0 l0_0.length c0_0, .int .i64 a0_1, .slice A0_2 l0_2.length c0_2] 25 (0, 0)) (by (with_reducible repeat (first | refine blk_drewN ?_ _ | refine blk_drew ?_ | refine blk_alloc ?_ _)); exact BK137.out) hb); have n2_ := Aside0.mk (blk_below (g := gb143) (o := .cells #[.int .i64 x3_1, .int .i64 (rd y139 x6_3), .int .i64 x4_2] 32 (0, 0)) (by (with_reducible repeat (first | refine blk_drewN ?_ _ | refine blk_drew ?_ | refine blk_alloc ?_ _)); exact BK143.out) hb); have n3_ := Aside0.mk (below_step (by repeat (first | (with_reducible first | exact HB.out | apply below_alloc | apply pw_below_drewN | apply below_drew1 | refine below_set ?_ GE137.out | refine below_set ?_ GE143.out) | exact HB.out)) hb); clear HO_5; clear BK137; clear BK143; clear HB; have HO_5 := n0_; have BK137 := n1_; have BK143 := n2_; have HB := n3_; clear n0_ n1_ n2_ n3_; (try clear hb); (try clear hb2); (try clear hk); (try clear hi)) | ((with_reducible refine gate_callee (f := 10) rfl ?_); refine goesL_ (some 64) rfl rfl Tryd.func10 (by kernel_rfl) rfl #[.int .i64 t145] rfl (by (try simp only [List.map_toArray, List.map_cons, List.map_nil]); first | done | rfl | (simp only [List.length_drop, List.length_take]; rfl)) ?_; (with_reducible refine (beaconlaw15_num.calls t145 t148 _ A18.out).mono ?_); rintro e w' ⟨rfl, ⟨nd, rfl⟩⟩; refine ⟨_, rfl, ?_⟩))
                                go_ret
                                exact ⟨by first | rfl | (simp [errW_none, errW_some] <;> rfl) | (simp [*, errW_none, errW_some] <;> rfl), by repeat (first | (with_reducible first | exact HB.out | apply below_alloc | apply pw_below_drewN | apply below_drew1 | refine below_set ?_ GE137.out | refine below_set ?_ GE143.out) | exact HB.out)⟩
                            · replace c16 := Bool.eq_false_iff.mpr c16
                              subst c16
                              have H1 : ((beaconlaw15_num.f t145).bind fun t149 => (if t149 = 1 then (if t144.toList = ([] : List UInt8) then (beaconlaw15_KeyEach.l3 k4 x3_1 x4_2 y139 x6_3 (wrap64 (x8_4 + 1)) l0_0 a0_1 l0_2 x3_1 (rd y139 x6_3) x4_2) else (some false)) else (some false))) = some r := by rw [if_neg (show ¬ (false = true) by decide)] at H; exact H
                              clear H
                              have H := H1
                              clear H1
                              replace H := Option.bind_eq_some_iff.mp H
                              obtain ⟨t149, A420, H⟩ := H
                              replace H : (if t149 = 1 then (if t144.toList = ([] : List UInt8) then (beaconlaw15_KeyEach.l3 k4 x3_1 x4_2 y139 x6_3 (wrap64 (x8_4 + 1)) l0_0 a0_1 l0_2 x3_1 (rd y139 x6_3) x4_2) else (some false)) else (some false)) = some r := H
                              have A42 := Aside0.mk A420
                              clear A420
                              by_cases c43 : t149 = 1
                              · rw [if_pos c43] at H
                                have c43b0 : (t149 == 1) = true := beq_iff_eq.mpr c43
                                have c43b1 : (t149 != 1) = false := bne_eq_false_iff_eq.mpr c43
                                clear c43
                                by_cases c44 : t144.toList = ([] : List UInt8)
                                · rw [if_pos c44] at H
                                  have c44b0 : (t144.toList == ([] : List UInt8)) = true := beq_iff_eq.mpr c44
                                  have c44b1 : (t144.toList != ([] : List UInt8)) = false := bne_eq_false_iff_eq.mpr c44
                                  clear c44
                                  have H' := Aside0.mk H
                                  clear H
                                  have hnb45 := NB143_137.out
                                  have hnc45 := NB137_143.out
                                  have hcz46_0 : wr.cell? ⟨gb143, 0, none⟩ = some (.int .i64 x3_1) := (blk_cell BK143.out 0).trans rfl
                                  have hcz46_1 : wr.cell? ⟨gb143, 1, none⟩ = some (.int .i64 (rd y139 x6_3)) := (blk_cell BK143.out 1).trans rfl
                                  have hcz46_2 : wr.cell? ⟨gb143, 2, none⟩ = some (.int .i64 x4_2) := (blk_cell BK143.out 2).trans rfl
                                  have hfz46_0 := blk_frozen BK143.out 0
                                  have hfz46_1 := blk_frozen BK143.out 1
                                  have hfz46_2 := blk_frozen BK143.out 2
                                  go_wp2_with (first | ((with_reducible refine gate_callee (f := 6) rfl ?_); refine goesL_ (some 55) rfl rfl Tryd.func6 (by kernel_rfl) rfl #[.agg #[.int .i64 x3_1, .int .i64 (rd y139 x6_3), .int .i64 x4_2], .int .i64 (wrap64 ((wrap64 ((wrap64 ((Go.bits .and .i64 x8_4 1) * 16)) + (wrap64 ((Go.bits .and .i64 (x8_4 / 2) 1) * 4)))) + (wrap64 ((x8_4 / 4) * 128))))] rfl (by (try simp only [List.map_toArray, List.map_cons, List.map_nil]); first | done | rfl | (simp only [List.length_drop, List.length_take]; rfl)) ?_; (with_reducible refine (key_Bytes.calls k4 x3_1 (rd y139 x6_3) x4_2 (wrap64 ((wrap64 ((wrap64 ((Go.bits .and .i64 x8_4 1) * 16)) + (wrap64 ((Go.bits .and .i64 (x8_4 / 2) 1) * 4)))) + (wrap64 ((x8_4 / 4) * 128)))) t144 t145 _ A14.out).mono ?_); rintro e w47 ⟨rfl, hb⟩; refine ⟨_, rfl, ?_⟩; have n0_ := Aside0.mk (Kd.R_below (by (with_reducible repeat (first | apply Kd.R_alloc | apply Kd.R_drewN | apply Kd.R_drew)); exact HO_5.out) hb); have n1_ := Aside0.mk (blk_below (g := gb137) (o := .cells #[.slice A0_0 l0_0.length c0_0, .int .i64 a0_1, .slice A0_2 l0_2.length c0_2] 25 (0, 0)) (by (with_reducible repeat (first | refine blk_drewN ?_ _ | refine blk_drew ?_ | refine blk_alloc ?_ _)); exact BK137.out) hb); have n2_ := Aside0.mk (blk_below (g := gb143) (o := .cells #[.int .i64 x3_1, .int .i64 (rd y139 x6_3), .int .i64 x4_2] 32 (0, 0)) (by (with_reducible repeat (first | refine blk_drewN ?_ _ | refine blk_drew ?_ | refine blk_alloc ?_ _)); exact BK143.out) hb); have n3_ := Aside0.mk (below_step (by repeat (first | (with_reducible first | exact HB.out | apply below_alloc | apply pw_below_drewN | apply below_drew1 | refine below_set ?_ GE137.out | refine below_set ?_ GE143.out) | exact HB.out)) hb); clear HO_5; clear BK137; clear BK143; clear HB; have HO_5 := n0_; have BK137 := n1_; have BK143 := n2_; have HB := n3_; clear n0_ n1_ n2_ n3_; (try clear hb); (try clear hb2); (try clear hk); (try clear hi); have hcz48_0 : w47.cell? ⟨gb143, 0, none⟩ = some (.int .i64 x3_1) := (blk_cell BK143.out 0).trans rfl; have hcz48_1 : w47.cell? ⟨gb143, 1, none⟩ = some (.int .i64 (rd y139 x6_3)) := (blk_cell BK143.out 1).trans rfl; have hcz48_2 : w47.cell? ⟨gb143, 2, none⟩ = some (.int .i64 x4_2) := (blk_cell BK143.out 2).trans rfl; have hfz48_0 := blk_frozen BK143.out 0; have hfz48_1 := blk_frozen BK143.out 1; have hfz48_2 := blk_frozen BK143.out 2) | ((with_reducible refine gate_callee (f := 7) rfl ?_); refine goesL_ (some 59) rfl rfl Tryd.func7 (by kernel_rfl) rfl #[.agg #[.int .i64 x3_1, .int .i64 (rd y139 x6_3), .int .i64 x4_2]] rfl (by (try simp only [List.map_toArray, List.map_cons, List.map_nil]); first | done | rfl | (simp only [List.length_drop, List.length_take]; rfl)) ?_; (with_reducible refine (beaconref15_Key.calls x3_1 (rd y139 x6_3) x4_2 false _ A15.out).mono ?_); rintro e w49 ⟨rfl, hb⟩; refine ⟨_, rfl, ?_⟩; have n0_ := Aside0.mk (Kd.R_below (by (with_reducible repeat (first | apply Kd.R_alloc | apply Kd.R_drewN | apply Kd.R_drew)); exact HO_5.out) hb); have n1_ := Aside0.mk (blk_below (g := gb137) (o := .cells #[.slice A0_0 l0_0.length c0_0, .int .i64 a0_1, .slice A0_2 l0_2.length c0_2] 25 (0, 0)) (by (with_reducible repeat (first | refine blk_drewN ?_ _ | refine blk_drew ?_ | refine blk_alloc ?_ _)); exact BK137.out) hb); have n2_ := Aside0.mk (blk_below (g := gb143) (o := .cells #[.int .i64 x3_1, .int .i64 (rd y139 x6_3), .int .i64 x4_2] 32 (0, 0)) (by (with_reducible repeat (first | refine blk_drewN ?_ _ | refine blk_drew ?_ | refine blk_alloc ?_ _)); exact BK143.out) hb); have n3_ := Aside0.mk (below_step (by repeat (first | (with_reducible first | exact HB.out | apply below_alloc | apply pw_below_drewN | apply below_drew1 | refine below_set ?_ GE137.out | refine below_set ?_ GE143.out) | exact HB.out)) hb); clear HO_5; clear BK137; clear BK143; clear HB; have HO_5 := n0_; have BK137 := n1_; have BK143 := n2_; have HB := n3_; clear n0_ n1_ n2_ n3_; (try clear hb); (try clear hb2); (try clear hk); (try clear hi)) | ((with_reducible refine gate_callee (f := 10) rfl ?_); refine goesL_ (some 64) rfl rfl Tryd.func10 (by kernel_rfl) rfl #[.int .i64 t145] rfl (by (try simp only [List.map_toArray, List.map_cons, List.map_nil]); first | done | rfl | (simp only [List.length_drop, List.length_take]; rfl)) ?_; (with_reducible refine (beaconlaw15_num.calls t145 t149 _ A42.out).mono ?_); rintro e w' ⟨rfl, ⟨nd, rfl⟩⟩; refine ⟨_, rfl, ?_⟩))
                                  go_roundg k4
                                  case measure => have := HK1.out; have := HK2.out; have := HK3.out; have := HK4.out; omega
                                  case rel => exact ⟨(wrap64 (x8_4 + 1)), (by first | rfl | (simp; done) | (simp [*]; done)), H', ⟨by have := HK1.out; have := HK2.out; have := HK3.out; have := HK4.out; omega⟩, ⟨by (with_reducible repeat (first | apply Kd.R_alloc | apply Kd.R_drewN | apply Kd.R_drew)); exact HO_5.out⟩, ⟨by (with_reducible repeat (first | refine blk_drewN ?_ _ | refine blk_drew ?_ | refine blk_alloc ?_ _)); exact BK137.out⟩, ⟨by (with_reducible repeat (first | refine blk_drewN ?_ _ | refine blk_drew ?_ | refine blk_alloc ?_ _)); exact BK143.out⟩, ⟨by repeat (first | (with_reducible first | exact HB.out | apply below_alloc | apply pw_below_drewN | apply below_drew1 | refine below_set ?_ GE137.out | refine below_set ?_ GE143.out) | exact HB.out)⟩⟩
                                · rw [if_neg c44] at H
                                  have c44b0 : (t144.toList == ([] : List UInt8)) = false := beq_eq_false_iff_ne.mpr c44
                                  have c44b1 : (t144.toList != ([] : List UInt8)) = true := bne_iff_ne.mpr c44
                                  obtain rfl := Option.some.inj H
                                  have hnb50 := NB143_137.out
                                  have hnc50 := NB137_143.out
                                  have hcz51_0 : wr.cell? ⟨gb143, 0, none⟩ = some (.int .i64 x3_1) := (blk_cell BK143.out 0).trans rfl
                                  have hcz51_1 : wr.cell? ⟨gb143, 1, none⟩ = some (.int .i64 (rd y139 x6_3)) := (blk_cell BK143.out 1).trans rfl
                                  have hcz51_2 : wr.cell? ⟨gb143, 2, none⟩ = some (.int .i64 x4_2) := (blk_cell BK143.out 2).trans rfl
                                  have hfz51_0 := blk_frozen BK143.out 0
                                  have hfz51_1 := blk_frozen BK143.out 1
                                  have hfz51_2 := blk_frozen BK143.out 2
                                  go_wp2_with (first | ((with_reducible refine gate_callee (f := 6) rfl ?_); refine goesL_ (some 55) rfl rfl Tryd.func6 (by kernel_rfl) rfl #[.agg #[.int .i64 x3_1, .int .i64 (rd y139 x6_3), .int .i64 x4_2], .int .i64 (wrap64 ((wrap64 ((wrap64 ((Go.bits .and .i64 x8_4 1) * 16)) + (wrap64 ((Go.bits .and .i64 (x8_4 / 2) 1) * 4)))) + (wrap64 ((x8_4 / 4) * 128))))] rfl (by (try simp only [List.map_toArray, List.map_cons, List.map_nil]); first | done | rfl | (simp only [List.length_drop, List.length_take]; rfl)) ?_; (with_reducible refine (key_Bytes.calls k4 x3_1 (rd y139 x6_3) x4_2 (wrap64 ((wrap64 ((wrap64 ((Go.bits .and .i64 x8_4 1) * 16)) + (wrap64 ((Go.bits .and .i64 (x8_4 / 2) 1) * 4)))) + (wrap64 ((x8_4 / 4) * 128)))) t144 t145 _ A14.out).mono ?_); rintro e w52 ⟨rfl, hb⟩; refine ⟨_, rfl, ?_⟩; have n0_ := Aside0.mk (Kd.R_below (by (with_reducible repeat (first | apply Kd.R_alloc | apply Kd.R_drewN | apply Kd.R_drew)); exact HO_5.out) hb); have n1_ := Aside0.mk (blk_below (g := gb137) (o := .cells #[.slice A0_0 l0_0.length c0_0, .int .i64 a0_1, .slice A0_2 l0_2.length c0_2] 25 (0, 0)) (by (with_reducible repeat (first | refine blk_drewN ?_ _ | refine blk_drew ?_ | refine blk_alloc ?_ _)); exact BK137.out) hb); have n2_ := Aside0.mk (blk_below (g := gb143) (o := .cells #[.int .i64 x3_1, .int .i64 (rd y139 x6_3), .int .i64 x4_2] 32 (0, 0)) (by (with_reducible repeat (first | refine blk_drewN ?_ _ | refine blk_drew ?_ | refine blk_alloc ?_ _)); exact BK143.out) hb); have n3_ := Aside0.mk (below_step (by repeat (first | (with_reducible first | exact HB.out | apply below_alloc | apply pw_below_drewN | apply below_drew1 | refine below_set ?_ GE137.out | refine below_set ?_ GE143.out) | exact HB.out)) hb); clear HO_5; clear BK137; clear BK143; clear HB; have HO_5 := n0_; have BK137 := n1_; have BK143 := n2_; have HB := n3_; clear n0_ n1_ n2_ n3_; (try clear hb); (try clear hb2); (try clear hk); (try clear hi); have hcz53_0 : w52.cell? ⟨gb143, 0, none⟩ = some (.int .i64 x3_1) := (blk_cell BK143.out 0).trans rfl; have hcz53_1 : w52.cell? ⟨gb143, 1, none⟩ = some (.int .i64 (rd y139 x6_3)) := (blk_cell BK143.out 1).trans rfl; have hcz53_2 : w52.cell? ⟨gb143, 2, none⟩ = some (.int .i64 x4_2) := (blk_cell BK143.out 2).trans rfl; have hfz53_0 := blk_frozen BK143.out 0; have hfz53_1 := blk_frozen BK143.out 1; have hfz53_2 := blk_frozen BK143.out 2) | ((with_reducible refine gate_callee (f := 7) rfl ?_); refine goesL_ (some 59) rfl rfl Tryd.func7 (by kernel_rfl) rfl #[.agg #[.int .i64 x3_1, .int .i64 (rd y139 x6_3), .int .i64 x4_2]] rfl (by (try simp only [List.map_toArray, List.map_cons, List.map_nil]); first | done | rfl | (simp only [List.length_drop, List.length_take]; rfl)) ?_; (with_reducible refine (beaconref15_Key.calls x3_1 (rd y139 x6_3) x4_2 false _ A15.out).mono ?_); rintro e w54 ⟨rfl, hb⟩; refine ⟨_, rfl, ?_⟩; have n0_ := Aside0.mk (Kd.R_below (by (with_reducible repeat (first | apply Kd.R_alloc | apply Kd.R_drewN | apply Kd.R_drew)); exact HO_5.out) hb); have n1_ := Aside0.mk (blk_below (g := gb137) (o := .cells #[.slice A0_0 l0_0.length c0_0, .int .i64 a0_1, .slice A0_2 l0_2.length c0_2] 25 (0, 0)) (by (with_reducible repeat (first | refine blk_drewN ?_ _ | refine blk_drew ?_ | refine blk_alloc ?_ _)); exact BK137.out) hb); have n2_ := Aside0.mk (blk_below (g := gb143) (o := .cells #[.int .i64 x3_1, .int .i64 (rd y139 x6_3), .int .i64 x4_2] 32 (0, 0)) (by (with_reducible repeat (first | refine blk_drewN ?_ _ | refine blk_drew ?_ | refine blk_alloc ?_ _)); exact BK143.out) hb); have n3_ := Aside0.mk (below_step (by repeat (first | (with_reducible first | exact HB.out | apply below_alloc | apply pw_below_drewN | apply below_drew1 | refine below_set ?_ GE137.out | refine below_set ?_ GE143.out) | exact HB.out)) hb); clear HO_5; clear BK137; clear BK143; clear HB; have HO_5 := n0_; have BK137 := n1_; have BK143 := n2_; have HB := n3_; clear n0_ n1_ n2_ n3_; (try clear hb); (try clear hb2); (try clear hk); (try clear hi)) | ((with_reducible refine gate_callee (f := 10) rfl ?_); refine goesL_ (some 64) rfl rfl Tryd.func10 (by kernel_rfl) rfl #[.int .i64 t145] rfl (by (try simp only [List.map_toArray, List.map_cons, List.map_nil]); first | done | rfl | (simp only [List.length_drop, List.length_take]; rfl)) ?_; (with_reducible refine (beaconlaw15_num.calls t145 t149 _ A42.out).mono ?_); rintro e w' ⟨rfl, ⟨nd, rfl⟩⟩; refine ⟨_, rfl, ?_⟩))
                                  go_ret
                                  exact ⟨by first | rfl | (simp [errW_none, errW_some] <;> rfl) | (simp [*, errW_none, errW_some] <;> rfl), by repeat (first | (with_reducible first | exact HB.out | apply below_alloc | apply pw_below_drewN | apply below_drew1 | refine below_set ?_ GE137.out | refine below_set ?_ GE143.out) | exact HB.out)⟩
                              · rw [if_neg c43] at H
                                have c43b0 : (t149 == 1) = false := beq_eq_false_iff_ne.mpr c43
                                have c43b1 : (t149 != 1) = true := bne_iff_ne.mpr c43
                                obtain rfl := Option.some.inj H
                                have hnb55 := NB143_137.out
                                have hnc55 := NB137_143.out
                                have hcz56_0 : wr.cell? ⟨gb143, 0, none⟩ = some (.int .i64 x3_1) := (blk_cell BK143.out 0).trans rfl
                                have hcz56_1 : wr.cell? ⟨gb143, 1, none⟩ = some (.int .i64 (rd y139 x6_3)) := (blk_cell BK143.out 1).trans rfl
                                have hcz56_2 : wr.cell? ⟨gb143, 2, none⟩ = some (.int .i64 x4_2) := (blk_cell BK143.out 2).trans rfl
                                have hfz56_0 := blk_frozen BK143.out 0
                                have hfz56_1 := blk_frozen BK143.out 1
                                have hfz56_2 := blk_frozen BK143.out 2
                                go_wp2_with (first | ((with_reducible refine gate_callee (f := 6) rfl ?_); refine goesL_ (some 55) rfl rfl Tryd.func6 (by kernel_rfl) rfl #[.agg #[.int .i64 x3_1, .int .i64 (rd y139 x6_3), .int .i64 x4_2], .int .i64 (wrap64 ((wrap64 ((wrap64 ((Go.bits .and .i64 x8_4 1) * 16)) + (wrap64 ((Go.bits .and .i64 (x8_4 / 2) 1) * 4)))) + (wrap64 ((x8_4 / 4) * 128))))] rfl (by (try simp only [List.map_toArray, List.map_cons, List.map_nil]); first | done | rfl | (simp only [List.length_drop, List.length_take]; rfl)) ?_; (with_reducible refine (key_Bytes.calls k4 x3_1 (rd y139 x6_3) x4_2 (wrap64 ((wrap64 ((wrap64 ((Go.bits .and .i64 x8_4 1) * 16)) + (wrap64 ((Go.bits .and .i64 (x8_4 / 2) 1) * 4)))) + (wrap64 ((x8_4 / 4) * 128)))) t144 t145 _ A14.out).mono ?_); rintro e w57 ⟨rfl, hb⟩; refine ⟨_, rfl, ?_⟩; have n0_ := Aside0.mk (Kd.R_below (by (with_reducible repeat (first | apply Kd.R_alloc | apply Kd.R_drewN | apply Kd.R_drew)); exact HO_5.out) hb); have n1_ := Aside0.mk (blk_below (g := gb137) (o := .cells #[.slice A0_0 l0_0.length c0_0, .int .i64 a0_1, .slice A0_2 l0_2.length c0_2] 25 (0, 0)) (by (with_reducible repeat (first | refine blk_drewN ?_ _ | refine blk_drew ?_ | refine blk_alloc ?_ _)); exact BK137.out) hb); have n2_ := Aside0.mk (blk_below (g := gb143) (o := .cells #[.int .i64 x3_1, .int .i64 (rd y139 x6_3), .int .i64 x4_2] 32 (0, 0)) (by (with_reducible repeat (first | refine blk_drewN ?_ _ | refine blk_drew ?_ | refine blk_alloc ?_ _)); exact BK143.out) hb); have n3_ := Aside0.mk (below_step (by repeat (first | (with_reducible first | exact HB.out | apply below_alloc | apply pw_below_drewN | apply below_drew1 | refine below_set ?_ GE137.out | refine below_set ?_ GE143.out) | exact HB.out)) hb); clear HO_5; clear BK137; clear BK143; clear HB; have HO_5 := n0_; have BK137 := n1_; have BK143 := n2_; have HB := n3_; clear n0_ n1_ n2_ n3_; (try clear hb); (try clear hb2); (try clear hk); (try clear hi); have hcz58_0 : w57.cell? ⟨gb143, 0, none⟩ = some (.int .i64 x3_1) := (blk_cell BK143.out 0).trans rfl; have hcz58_1 : w57.cell? ⟨gb143, 1, none⟩ = some (.int .i64 (rd y139 x6_3)) := (blk_cell BK143.out 1).trans rfl; have hcz58_2 : w57.cell? ⟨gb143, 2, none⟩ = some (.int .i64 x4_2) := (blk_cell BK143.out 2).trans rfl; have hfz58_0 := blk_frozen BK143.out 0; have hfz58_1 := blk_frozen BK143.out 1; have hfz58_2 := blk_frozen BK143.out 2) | ((with_reducible refine gate_callee (f := 7) rfl ?_); refine goesL_ (some 59) rfl rfl Tryd.func7 (by kernel_rfl) rfl #[.agg #[.int .i64 x3_1, .int .i64 (rd y139 x6_3), .int .i64 x4_2]] rfl (by (try simp only [List.map_toArray, List.map_cons, List.map_nil]); first | done | rfl | (simp only [List.length_drop, List.length_take]; rfl)) ?_; (with_reducible refine (beaconref15_Key.calls x3_1 (rd y139 x6_3) x4_2 false _ A15.out).mono ?_); rintro e w59 ⟨rfl, hb⟩; refine ⟨_, rfl, ?_⟩; have n0_ := Aside0.mk (Kd.R_below (by (with_reducible repeat (first | apply Kd.R_alloc | apply Kd.R_drewN | apply Kd.R_drew)); exact HO_5.out) hb); have n1_ := Aside0.mk (blk_below (g := gb137) (o := .cells #[.slice A0_0 l0_0.length c0_0, .int .i64 a0_1, .slice A0_2 l0_2.length c0_2] 25 (0, 0)) (by (with_reducible repeat (first | refine blk_drewN ?_ _ | refine blk_drew ?_ | refine blk_alloc ?_ _)); exact BK137.out) hb); have n2_ := Aside0.mk (blk_below (g := gb143) (o := .cells #[.int .i64 x3_1, .int .i64 (rd y139 x6_3), .int .i64 x4_2] 32 (0, 0)) (by (with_reducible repeat (first | refine blk_drewN ?_ _ | refine blk_drew ?_ | refine blk_alloc ?_ _)); exact BK143.out) hb); have n3_ := Aside0.mk (below_step (by repeat (first | (with_reducible first | exact HB.out | apply below_alloc | apply pw_below_drewN | apply below_drew1 | refine below_set ?_ GE137.out | refine below_set ?_ GE143.out) | exact HB.out)) hb); clear HO_5; clear BK137; clear BK143; clear HB; have HO_5 := n0_; have BK137 := n1_; have BK143 := n2_; have HB := n3_; clear n0_ n1_ n2_ n3_; (try clear hb); (try clear hb2); (try clear hk); (try clear hi)) | ((with_reducible refine gate_callee (f := 10) rfl ?_); refine goesL_ (some 64) rfl rfl Tryd.func10 (by kernel_rfl) rfl #[.int .i64 t145] rfl (by (try simp only [List.map_toArray, List.map_cons, List.map_nil]); first | done | rfl | (simp only [List.length_drop, List.length_take]; rfl)) ?_; (with_reducible refine (beaconlaw15_num.calls t145 t149 _ A42.out).mono ?_); rintro e w' ⟨rfl, ⟨nd, rfl⟩⟩; refine ⟨_, rfl, ?_⟩))
                                go_ret
                                exact ⟨by first | rfl | (simp [errW_none, errW_some] <;> rfl) | (simp [*, errW_none, errW_some] <;> rfl), by repeat (first | (with_reducible first | exact HB.out | apply below_alloc | apply pw_below_drewN | apply below_drew1 | refine below_set ?_ GE137.out | refine below_set ?_ GE143.out) | exact HB.out)⟩
                          · rw [if_neg c13] at H
                            have c13b0 : decide (x8_4 < 8) = false := decide_eq_false c13
                            clear c13
                            have H' := Aside0.mk H
                            clear H
                            go_wp2
                            go_roundg k4
                            case measure => have := HK1.out; have := HK2.out; have := HK3.out; have := HK4.out; omega
                            case rel => exact ⟨(wrap64 (x6_3 + 1)), (by first | rfl | (simp; done) | (simp [*]; done)), H', ⟨by have := HK1.out; have := HK2.out; have := HK3.out; have := HK4.out; omega⟩, ⟨by (with_reducible repeat (first | apply Kd.R_alloc | apply Kd.R_drewN | apply Kd.R_drew)); exact HO_5.out⟩, ⟨by (with_reducible repeat (first | refine blk_drewN ?_ _ | refine blk_drew ?_ | refine blk_alloc ?_ _)); exact BK137.out⟩, ⟨by repeat (first | (with_reducible first | exact HB.out | apply below_alloc | apply pw_below_drewN | apply below_drew1 | refine below_set ?_ GE137.out | refine below_set ?_ GE143.out) | exact HB.out)⟩⟩
                    · rw [if_neg c8] at H
                      exact absurd H (by simp)
                  · rw [if_neg c7] at H
                    have c7b0 : decide (x6_3 < (y139.length : Int)) = false := decide_eq_false c7
                    clear c7
                    have H' := Aside0.mk H
                    clear H
                    obtain ⟨Ao60, co60, eo60⟩ := Kd.R_slice HO_5.out
                    subst eo60
                    go_wp2
                    go_roundg k3
                    case measure => have := HK1.out; have := HK2.out; have := HK3.out; omega
                    case rel => exact ⟨(wrap64 (x4_2 + 1)), (by first | rfl | (simp; done) | (simp [*]; done)), H', ⟨by have := HK1.out; have := HK2.out; have := HK3.out; omega⟩, ⟨by (with_reducible repeat (first | refine blk_drewN ?_ _ | refine blk_drew ?_ | refine blk_alloc ?_ _)); exact BK137.out⟩, ⟨by repeat (first | (with_reducible first | exact HB.out | apply below_alloc | apply pw_below_drewN | apply below_drew1 | refine below_set ?_ GE137.out) | exact HB.out)⟩⟩
            · rw [if_neg c4] at H
              have c4b0 : decide (x4_2 ≤ 8) = false := decide_eq_false c4
              clear c4
              have H' := Aside0.mk H
              clear H
              go_wp2
              go_roundg k2
              case measure => have := HK1.out; have := HK2.out; omega
              case rel => exact ⟨(wrap64 (x3_1 + 1)), (by first | rfl | (simp; done) | (simp [*]; done)), H', ⟨by have := HK1.out; have := HK2.out; omega⟩, ⟨by (with_reducible repeat (first | refine blk_drewN ?_ _ | refine blk_drew ?_ | refine blk_alloc ?_ _)); exact BK137.out⟩, ⟨by repeat (first | (with_reducible first | exact HB.out | apply below_alloc | apply pw_below_drewN | apply below_drew1 | refine below_set ?_ GE137.out) | exact HB.out)⟩⟩
      · rw [if_neg c3] at H
        have c3b0 : decide (x3_1 ≤ 13) = false := decide_eq_false c3
        clear c3
        by_cases c61 : (l0_0.length : Int) ≥ 0
        · rw [if_pos c61] at H
          have c61b0 : decide (0 ≤ (l0_0.length : Int)) = true := decide_eq_true c61
          have c61b1 : decide (0 ≤ l0_0.length) = true := decide_eq_true (by omega)
          clear c61
          replace H := Option.bind_eq_some_iff.mp H
          obtain ⟨t138, A620, H⟩ := H
          replace H : (some t138) = some r := H
          have A62 := Aside0.mk A620
          clear A620
          obtain rfl := Option.some.inj H
          have hcz63_0 : wr.cell? ⟨gb137, 0, none⟩ = some (.slice A0_0 l0_0.length c0_0) := (blk_cell BK137.out 0).trans rfl
          have hcz63_1 : wr.cell? ⟨gb137, 1, none⟩ = some (.int .i64 a0_1) := (blk_cell BK137.out 1).trans rfl
          have hcz63_2 : wr.cell? ⟨gb137, 2, none⟩ = some (.slice A0_2 l0_2.length c0_2) := (blk_cell BK137.out 2).trans rfl
          have hfz63_0 := blk_frozen BK137.out 0
          have hfz63_1 := blk_frozen BK137.out 1
          have hfz63_2 := blk_frozen BK137.out 2
          go_wp2_with (first | (go_at_call 11; (with_reducible refine (beaconlaw15_wakes.calls k1  t138 _ A62.out).mono ?_); rintro e w64 ⟨rfl, hb⟩; have n0_ := Aside0.mk (blk_below (g := gb137) (o := .cells #[.slice A0_0 l0_0.length c0_0, .int .i64 a0_1, .slice A0_2 l0_2.length c0_2] 25 (0, 0)) (by (with_reducible repeat (first | refine blk_drewN ?_ _ | refine blk_drew ?_ | refine blk_alloc ?_ _)); exact BK137.out) hb); have n1_ := Aside0.mk (below_step (by repeat (first | (with_reducible first | exact HB.out | apply below_alloc | apply pw_below_drewN | apply below_drew1 | refine below_set ?_ GE137.out) | exact HB.out)) hb); clear BK137; clear HB; have BK137 := n0_; have HB := n1_; clear n0_ n1_; (try clear hb); (try clear hb2); (try clear hk); (try clear hi)))
          go_ret
          exact ⟨by first | rfl | (simp [errW_none, errW_some] <;> rfl) | (simp [*, errW_none, errW_some] <;> rfl), by repeat (first | (with_reducible first | exact HB.out | apply below_alloc | apply pw_below_drewN | apply below_drew1 | refine below_set ?_ GE137.out) | exact HB.out)⟩
        · exact absurd (show (l0_0.length : Int) ≥ 0 by omega) c61

end Go.Proofs.YtadjhnlbpgknfaaDoor.P
