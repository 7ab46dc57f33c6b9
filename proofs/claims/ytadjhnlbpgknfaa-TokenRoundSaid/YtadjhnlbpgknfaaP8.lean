-- Laid by a program of this session (wip/tools/xp.py) over the kit's print.
import Derived.Test.YtadjhnlbpgknfaaP0
import Derived.Test.YtadjhnlbpgknfaaP7
namespace Go.Proofs.Ytadjhnlbpgknfaa.P
open Go.RowKit Go.Proofs.YtadjhnlbpgknfaaW.PrintWords Go.Proofs.YtadjhnlbpgknfaaW.PrintLast Go.Proofs.YtadjhnlbpgknfaaW.PrintMore
attribute [local go_sem] max2_int min2_int max_two min_two max_three min_three max_four min_four   -- for this text's walks alone
set_option linter.unusedVariables false
set_option linter.unusedSimpArgs false

/-! ### token_Ask: function 20 -/
def token_Ask.j0 : Nat → Int → Bool → Int → List Int → Option (Int × List Int × Int)
  | 0, _, _, _, _ => none
  | k + 1, x1, x13, x193000, x193001 => if x13 = true then (some (0, ([] : List Int), 1)) else ((token_own.f x193000 x193001).bind fun bt196 => (if bt196.1 = 0 then (some (x1, bt196.2, 0)) else (if bt196.1 = x1 then (some (bt196.1, bt196.2, 0)) else ((slices_Contains_int_int.f k bt196.2 x1).bind fun t200 => (if t200 = true then (some (bt196.1, bt196.2, 0)) else (if bt196.2.length < 17592186044416 then (some (bt196.1, (bt196.2 ++ [x1]), 0)) else (none)))))))
def token_Ask.f (k : Nat) (a0_0 : Int) (l0_1 : List Int) (a1 : Int) : Option (Int × List Int × Int) := (token_May.f k a0_0 l0_1).bind fun t194 => (if t194 = true then ((token_viewer.f a1).bind fun t195 => (token_Ask.j0 k a1 (!t195) a0_0 l0_1)) else (token_Ask.j0 k a1 true a0_0 l0_1))
theorem token_Ask.mono_l : ∀ k, (∀ y0 y1 y2 y3, LeO (token_Ask.j0 k y0 y1 y2 y3) (token_Ask.j0 (k + 1) y0 y1 y2 y3))
  | 0 => fun _ _ _ _ r h => by simp [token_Ask.j0] at h
  | k + 1 => by
    have ih0 := token_Ask.mono_l k
    · intro y0 y1 y2 y3
      unfold token_Ask.j0
      repeat' first
      | (with_reducible exact ih0 _ _ _ _)
      | (with_reducible exact slices_Contains_int_int.mono _ _ _)
      | (with_reducible exact token_May.mono _ _ _)
      | (with_reducible exact LeO.refl _)
      | (with_reducible exact LeO.none _)
      | (with_reducible refine LeO.ite ?_ ?_)
      | (with_reducible refine LeO.bind ?_ (fun _ => ?_))
      | exact ih0 _ _ _ _
      | exact slices_Contains_int_int.mono _ _ _
      | exact token_May.mono _ _ _
      | exact LeO.none _
      | refine LeO.ite ?_ ?_
      | refine LeO.bind ?_ (fun _ => ?_)
theorem token_Ask.mono : ∀ a0 a1 a2 k, LeO (token_Ask.f k a0 a1 a2) (token_Ask.f (k + 1) a0 a1 a2) := by
  intro a0 a1 a2 k
  have ih0 := token_Ask.mono_l k
  unfold token_Ask.f
  repeat' first
      | (with_reducible exact ih0 _ _ _ _)
      | (with_reducible exact slices_Contains_int_int.mono _ _ _)
      | (with_reducible exact token_May.mono _ _ _)
      | (with_reducible exact LeO.refl _)
      | (with_reducible exact LeO.none _)
      | (with_reducible refine LeO.ite ?_ ?_)
      | (with_reducible refine LeO.bind ?_ (fun _ => ?_))
      | exact ih0 _ _ _ _
      | exact slices_Contains_int_int.mono _ _ _
      | exact token_May.mono _ _ _
      | exact LeO.none _
      | refine LeO.ite ?_ ?_
      | refine LeO.bind ?_ (fun _ => ?_)
set_option maxHeartbeats 8000000 in
set_option maxRecDepth 100000 in
theorem token_Ask.calls (k : Nat) (a0_0 : Int) (A0_1 : Option Addr) (c0_1 : Nat) (l0_1 : List Int) (a1 : Int) (r1 : Int) (r2 : List Int) (r3 : Int) (w : World) (hr0_1 : Kd.C (Kd.int .i64) w A0_1 l0_1.length l0_1) (hc0_1 : l0_1.length ≤ c0_1) (h : token_Ask.f k a0_0 l0_1 a1 = some (r1, r2, r3)) :
    Calls Try.prog 20 #[.agg #[.int .i64 a0_0, .slice A0_1 l0_1.length c0_1], .int .i64 a1] w fun e w' => ∃ v1_ : Value, e = .returned (.tuple #[.agg #[.int .i64 r1, v1_], .int .i64 r3]) ∧ Kd.R (Kd.int .i64) 3 w' w.heap.size (fun _ => True) v1_ r2 ∧ Below w.heap.size w w' := by
  have hu43 := Try.underlying43
  have HR0_1 := Aside0.mk hr0_1
  have HC0_1 := Aside0.mk hc0_1
  clear hr0_1 hc0_1
  have HB := Aside0.mk (Below.refl w.heap.size w)
  have H : ((token_May.f k a0_0 l0_1).bind fun t194 => (if t194 = true then ((token_viewer.f a1).bind fun t195 => (token_Ask.j0 k a1 (!t195) a0_0 l0_1)) else (token_Ask.j0 k a1 true a0_0 l0_1))) = some (r1, r2, r3) := h
  clear h
  have HC3 := Aside0.mk H
  clear H
  go_enter Try.func20, Try.ntmps20
  go_upto_region 1 with (first | ((with_reducible refine gate_dst (N := 2) rfl ?_); refine box_event ?hg (N := 2) ?hd (cs := #[.int .i64 a0_0, .slice A0_1 l0_1.length c0_1]) (t := 43) ?hr ?_; (case hd => rfl); (case hg => rfl); (case hr => first | (go_simp; done) | (go_simp; rfl)); intro gb192 hg w4 hbox hb; have n0_ := Aside0.mk (below_step (by repeat (first | (with_reducible first | exact HB.out | apply below_alloc | apply pw_below_drewN | apply below_drew1) | exact HB.out)) hb); have n1_ := Aside0.mk (hbox); have n2_ := Aside0.mk ((by rw [hg]; exact (below_size (by repeat (first | (with_reducible first | exact HB.out | apply below_alloc | apply pw_below_drewN | apply below_drew1) | exact HB.out))) : w.heap.size ≤ gb192)); have n3_ := Aside0.mk ((by rw [hg]; exact (below_size (by repeat (first | (with_reducible first | exact HB.out | apply below_alloc | apply pw_below_drewN | apply below_drew1) | exact HB.out))) : w.heap.size ≤ gb192)); clear HB; have HB := n0_; have BK192 := n1_; have GW192 := n2_; have GE192 := n3_; clear n0_ n1_ n2_ n3_; clear hb hbox hg) | ((with_reducible refine gate_dst (N := 4) rfl ?_); refine box_event ?hg (N := 4) ?hd (cs := #[.int .i64 0, .slice none 0 0]) (t := 43) ?hr ?_; (case hd => rfl); (case hg => rfl); (case hr => first | (go_simp; done) | (go_simp; rfl)); intro gb193 hg w5 hbox hb; have n0_ := Aside0.mk (blk_below (g := gb192) (o := .cells #[.int .i64 a0_0, .slice A0_1 l0_1.length c0_1] 43 (0, 0)) (by (with_reducible repeat (first | refine blk_drewN ?_ _ | refine blk_drew ?_ | refine blk_alloc ?_ _)); exact BK192.out) hb); have n1_ := Aside0.mk (below_step (by repeat (first | (with_reducible first | exact HB.out | apply below_alloc | apply pw_below_drewN | apply below_drew1 | refine below_set ?_ GE192.out) | exact HB.out)) hb); have n2_ := Aside0.mk (hbox); have n3_ := Aside0.mk ((by rw [hg]; exact (below_size (by repeat (first | (with_reducible first | exact HB.out | apply below_alloc | apply pw_below_drewN | apply below_drew1 | refine below_set ?_ GE192.out) | exact HB.out))) : w.heap.size ≤ gb193)); have n4_ := Aside0.mk ((by rw [hg]; exact (below_size (by repeat (first | (with_reducible first | exact HB.out | apply below_alloc | apply pw_below_drewN | apply below_drew1 | refine below_set ?_ GE192.out) | exact HB.out))) : w.heap.size ≤ gb193)); have n5_ := Aside0.mk ((by rw [hg]; exact Nat.ne_of_lt (blk_lt (g := gb192) (o := .cells #[.int .i64 a0_0, .slice A0_1 l0_1.length c0_1] 43 (0, 0)) (by (with_reducible repeat (first | refine blk_drewN ?_ _ | refine blk_drew ?_ | refine blk_alloc ?_ _)); exact BK192.out)) : gb192 ≠ gb193)); have n6_ := Aside0.mk ((by rw [hg]; exact Nat.ne_of_gt (blk_lt (g := gb192) (o := .cells #[.int .i64 a0_0, .slice A0_1 l0_1.length c0_1] 43 (0, 0)) (by (with_reducible repeat (first | refine blk_drewN ?_ _ | refine blk_drew ?_ | refine blk_alloc ?_ _)); exact BK192.out)) : gb193 ≠ gb192)); clear BK192; clear HB; have BK192 := n0_; have HB := n1_; have BK193 := n2_; have GW193 := n3_; have GE193 := n4_; have NB192_193 := n5_; have NB193_192 := n6_; clear n0_ n1_ n2_ n3_ n4_ n5_ n6_; clear hb hbox hg))
  (try simp only [Act.put, List.setIfInBounds_toArray, List.set_cons_zero, List.set_cons_succ])
  go_cut [13] (fun v13 wc => ∃ (kq : Nat) (x13_2 : Bool), v13 = .bool x13_2 ∧ Aside0 (token_Ask.j0 kq a1 x13_2 a0_0 l0_1 = some (r1, r2, r3)) ∧ Aside0 (kq ≤ k) ∧ Aside0 (wc.heap[gb192]? = some (.cells #[.int .i64 a0_0, (.slice A0_1 l0_1.length c0_1)] 43 (0, 0))) ∧ Aside0 (wc.heap[gb193]? = some (.cells #[.int .i64 0, (.slice none 0 0)] 43 (0, 0))) ∧ Aside0 (Below w.heap.size w wc))
  case first =>
    have H := HC3.out
    clear HC3
    replace H := Option.bind_eq_some_iff.mp H
    obtain ⟨t194, A60, H⟩ := H
    replace H : (if t194 = true then ((token_viewer.f a1).bind fun t195 => (token_Ask.j0 k a1 (!t195) a0_0 l0_1)) else (token_Ask.j0 k a1 true a0_0 l0_1)) = some (r1, r2, r3) := H
    have A6 := Aside0.mk A60
    clear A60
    by_cases c7 : t194 = true
    · subst c7
      have H1 : ((token_viewer.f a1).bind fun t195 => (token_Ask.j0 k a1 (!t195) a0_0 l0_1)) = some (r1, r2, r3) := by rw [if_pos rfl] at H; exact H
      clear H
      have H := H1
      clear H1
      replace H := Option.bind_eq_some_iff.mp H
      obtain ⟨t195, A80, H⟩ := H
      replace H : (token_Ask.j0 k a1 (!t195) a0_0 l0_1) = some (r1, r2, r3) := H
      have A8 := Aside0.mk A80
      clear A80
      have H' := Aside0.mk H
      clear H
      have hnb9 := NB192_193.out
      have hnc9 := NB193_192.out
      have hcz10_0 : w5.cell? ⟨gb192, 0, none⟩ = some (.int .i64 a0_0) := (blk_cell BK192.out 0).trans rfl
      have hcz10_1 : w5.cell? ⟨gb192, 1, none⟩ = some (.slice A0_1 l0_1.length c0_1) := (blk_cell BK192.out 1).trans rfl
      have hfz10_0 := blk_frozen BK192.out 0
      have hfz10_1 := blk_frozen BK192.out 1
      go_wp2_with (first | ((with_reducible refine gate_callee (f := 67) rfl ?_); refine goesL_ (some 7) rfl rfl Try.func67 (by kernel_rfl) rfl #[.agg #[.int .i64 a0_0, .slice A0_1 l0_1.length c0_1]] rfl (by (try simp only [List.map_toArray, List.map_cons, List.map_nil]); first | done | rfl | (simp only [List.length_drop, List.length_take]; rfl)) ?_; (with_reducible refine (token_May.calls k a0_0 _ _ l0_1 true _ ?side1 ?side2 A6.out).mono ?_); (case side1 => repeat (first | exact (Kd.C_below HR0_1.out HB.out) | (with_reducible refine Kd.C_alloc ?_ _) | (with_reducible refine Kd.C_drewN ?_ _) | (with_reducible refine Kd.C_drew ?_))); (case side2 => exact HC0_1.out); rintro e w11 ⟨rfl, hb⟩; refine ⟨_, rfl, ?_⟩; have n0_ := Aside0.mk (blk_below (g := gb192) (o := .cells #[.int .i64 a0_0, .slice A0_1 l0_1.length c0_1] 43 (0, 0)) (by (with_reducible repeat (first | refine blk_drewN ?_ _ | refine blk_drew ?_ | refine blk_alloc ?_ _)); exact BK192.out) hb); have n1_ := Aside0.mk (blk_below (g := gb193) (o := .cells #[.int .i64 0, .slice none 0 0] 43 (0, 0)) (by (with_reducible repeat (first | refine blk_drewN ?_ _ | refine blk_drew ?_ | refine blk_alloc ?_ _)); exact BK193.out) hb); have n2_ := Aside0.mk (below_step (by repeat (first | (with_reducible first | exact HB.out | apply below_alloc | apply pw_below_drewN | apply below_drew1 | refine below_set ?_ GE192.out | refine below_set ?_ GE193.out) | exact HB.out)) hb); clear BK192; clear BK193; clear HB; have BK192 := n0_; have BK193 := n1_; have HB := n2_; clear n0_ n1_ n2_; (try clear hb); (try clear hb2); (try clear hk); (try clear hi)) | (go_at_call 68; (with_reducible refine (token_viewer.calls a1 t195 _ A8.out).mono ?_); rintro e w' ⟨rfl, ⟨nd, rfl⟩⟩))
      go_meet
      case rel => exact ⟨_, (!t195), (by first | rfl | (simp; done) | (simp [*]; done)), H', ⟨by first | omega | exact Nat.le_refl _⟩, ⟨by (with_reducible repeat (first | refine blk_drewN ?_ _ | refine blk_drew ?_ | refine blk_alloc ?_ _)); exact BK192.out⟩, ⟨by (with_reducible repeat (first | refine blk_drewN ?_ _ | refine blk_drew ?_ | refine blk_alloc ?_ _)); exact BK193.out⟩, ⟨by repeat (first | (with_reducible first | exact HB.out | apply below_alloc | apply pw_below_drewN | apply below_drew1 | refine below_set ?_ GE192.out | refine below_set ?_ GE193.out) | exact HB.out)⟩⟩
    · replace c7 := Bool.eq_false_iff.mpr c7
      subst c7
      have H1 : (token_Ask.j0 k a1 true a0_0 l0_1) = some (r1, r2, r3) := by rw [if_neg (show ¬ (false = true) by decide)] at H; exact H
      clear H
      have H := H1
      clear H1
      have H' := Aside0.mk H
      clear H
      have hnb12 := NB192_193.out
      have hnc12 := NB193_192.out
      have hcz13_0 : w5.cell? ⟨gb192, 0, none⟩ = some (.int .i64 a0_0) := (blk_cell BK192.out 0).trans rfl
      have hcz13_1 : w5.cell? ⟨gb192, 1, none⟩ = some (.slice A0_1 l0_1.length c0_1) := (blk_cell BK192.out 1).trans rfl
      have hfz13_0 := blk_frozen BK192.out 0
      have hfz13_1 := blk_frozen BK192.out 1
      go_wp2_with (first | ((with_reducible refine gate_callee (f := 67) rfl ?_); refine goesL_ (some 7) rfl rfl Try.func67 (by kernel_rfl) rfl #[.agg #[.int .i64 a0_0, .slice A0_1 l0_1.length c0_1]] rfl (by (try simp only [List.map_toArray, List.map_cons, List.map_nil]); first | done | rfl | (simp only [List.length_drop, List.length_take]; rfl)) ?_; (with_reducible refine (token_May.calls k a0_0 _ _ l0_1 false _ ?side1 ?side2 A6.out).mono ?_); (case side1 => repeat (first | exact (Kd.C_below HR0_1.out HB.out) | (with_reducible refine Kd.C_alloc ?_ _) | (with_reducible refine Kd.C_drewN ?_ _) | (with_reducible refine Kd.C_drew ?_))); (case side2 => exact HC0_1.out); rintro e w14 ⟨rfl, hb⟩; refine ⟨_, rfl, ?_⟩; have n0_ := Aside0.mk (blk_below (g := gb192) (o := .cells #[.int .i64 a0_0, .slice A0_1 l0_1.length c0_1] 43 (0, 0)) (by (with_reducible repeat (first | refine blk_drewN ?_ _ | refine blk_drew ?_ | refine blk_alloc ?_ _)); exact BK192.out) hb); have n1_ := Aside0.mk (blk_below (g := gb193) (o := .cells #[.int .i64 0, .slice none 0 0] 43 (0, 0)) (by (with_reducible repeat (first | refine blk_drewN ?_ _ | refine blk_drew ?_ | refine blk_alloc ?_ _)); exact BK193.out) hb); have n2_ := Aside0.mk (below_step (by repeat (first | (with_reducible first | exact HB.out | apply below_alloc | apply pw_below_drewN | apply below_drew1 | refine below_set ?_ GE192.out | refine below_set ?_ GE193.out) | exact HB.out)) hb); clear BK192; clear BK193; clear HB; have BK192 := n0_; have BK193 := n1_; have HB := n2_; clear n0_ n1_ n2_; (try clear hb); (try clear hb2); (try clear hk); (try clear hi)))
      go_meet
      case rel => exact ⟨_, (true), (by first | rfl | (simp; done) | (simp [*]; done)), H', ⟨by first | omega | exact Nat.le_refl _⟩, ⟨by (with_reducible repeat (first | refine blk_drewN ?_ _ | refine blk_drew ?_ | refine blk_alloc ?_ _)); exact BK192.out⟩, ⟨by (with_reducible repeat (first | refine blk_drewN ?_ _ | refine blk_drew ?_ | refine blk_alloc ?_ _)); exact BK193.out⟩, ⟨by repeat (first | (with_reducible first | exact HB.out | apply below_alloc | apply pw_below_drewN | apply below_drew1 | refine below_set ?_ GE192.out | refine below_set ?_ GE193.out) | exact HB.out)⟩⟩
  case rest =>
    clear HC3
    try clear c1
    try clear c2
    try clear p2
    try clear c6
    try clear c7
    try clear c9
    try clear c12
    try clear hcz10_0
    try clear hcz10_1
    try clear hcz13_0
    try clear hcz13_1
    try clear hfz10_0
    try clear hfz10_1
    try clear hfz13_0
    try clear hfz13_1
    obtain ⟨kq, x13_2, rfl, HA, HJ2, BK192, BK193, HB⟩ := hcut
    cases kq with
    | zero => exact absurd HA.out (by simp [token_Ask.j0])
    | succ kj2 =>
      have H := HA.out
      clear HA
      simp only [token_Ask.j0] at H
      by_cases c15 : x13_2 = true
      · subst c15
        have H1 : (some (0, ([] : List Int), 1)) = some (r1, r2, r3) := by rw [if_pos rfl] at H; exact H
        clear H
        have H := H1
        clear H1
        simp only [Option.some.injEq, Prod.mk.injEq] at H
        obtain ⟨rfl, rfl, rfl⟩ := H
        have hnb16 := NB193_192.out
        have hnc16 := NB192_193.out
        have hcz17_0 : wc.cell? ⟨gb193, 0, none⟩ = some (.int .i64 0) := (blk_cell BK193.out 0).trans rfl
        have hcz17_1 : wc.cell? ⟨gb193, 1, none⟩ = some (.slice none 0 0) := (blk_cell BK193.out 1).trans rfl
        have hfz17_0 := blk_frozen BK193.out 0
        have hfz17_1 := blk_frozen BK193.out 1
        go_wp2
        refine bodyPost_ret (results_ct rfl _ _ gb193 43 #[.int .i64 0, .slice none 0 0] (0, 0) _ rfl (by (with_reducible repeat (first | refine blk_drewN ?_ _ | refine blk_drew ?_ | refine blk_alloc ?_ _)); refine blk_put (cs := #[.int .i64 0, .slice none 0 0]) ?_ 1 _ rfl; (with_reducible repeat (first | refine blk_drewN ?_ _ | refine blk_drew ?_ | refine blk_alloc ?_ _)); refine blk_put (cs := #[.int .i64 0, .slice none 0 0]) ?_ 0 _ rfl; (with_reducible repeat (first | refine blk_drewN ?_ _ | refine blk_drew ?_ | refine blk_alloc ?_ _)); exact BK193.out) Try.underlying43 rfl (by kernel_rfl)) rfl ?_
        exact ⟨_, by first | rfl | (simp [errW_none, errW_some] <;> rfl) | (simp [*, errW_none, errW_some] <;> rfl), by first | exact Kd.R_nil _ _ _ _ _ | exact Kd.N_nil _ _ _ _ _ | exact Kd.V_nil _ _ _ _ _ | exact Kd.Q_nil _ _ _ _ _ | exact Kd.S_nil _ _ _ _ _, by repeat (first | (with_reducible first | exact HB.out | apply below_alloc | apply pw_below_drewN | apply below_drew1 | refine below_set ?_ GE192.out | refine below_set ?_ GE193.out) | exact HB.out)⟩
      · replace c15 := Bool.eq_false_iff.mpr c15
        subst c15
        have H1 : ((token_own.f a0_0 l0_1).bind fun bt196 => (if bt196.1 = 0 then (some (a1, bt196.2, 0)) else (if bt196.1 = a1 then (some (bt196.1, bt196.2, 0)) else ((slices_Contains_int_int.f kj2 bt196.2 a1).bind fun t200 => (if t200 = true then (some (bt196.1, bt196.2, 0)) else (if bt196.2.length < 17592186044416 then (some (bt196.1, (bt196.2 ++ [a1]), 0)) else (none))))))) = some (r1, r2, r3) := by rw [if_neg (show ¬ (false = true) by decide)] at H; exact H
        clear H
        have H := H1
        clear H1
        replace H := Option.bind_eq_some_iff.mp H
        obtain ⟨⟨t196, t197⟩, A180, H⟩ := H
        replace H : (if t196 = 0 then (some (a1, t197, 0)) else (if t196 = a1 then (some (t196, t197, 0)) else ((slices_Contains_int_int.f kj2 t197 a1).bind fun t200 => (if t200 = true then (some (t196, t197, 0)) else (if t197.length < 17592186044416 then (some (t196, (t197 ++ [a1]), 0)) else (none)))))) = some (r1, r2, r3) := H
        have A18 := Aside0.mk A180
        clear A180
        by_cases c19 : t196 = 0
        · rw [if_pos c19] at H
          have c19b0 : (t196 == 0) = true := beq_iff_eq.mpr c19
          have c19b1 : (t196 != 0) = false := bne_eq_false_iff_eq.mpr c19
          clear c19
          simp only [Option.some.injEq, Prod.mk.injEq] at H
          obtain ⟨rfl, rfl, rfl⟩ := H
          have hnb20 := NB192_193.out
          have hnc20 := NB193_192.out
          have hcz21_0 : wc.cell? ⟨gb192, 0, none⟩ = some (.int .i64 a0_0) := (blk_cell BK192.out 0).trans rfl
          have hcz21_1 : wc.cell? ⟨gb192, 1, none⟩ = some (.slice A0_1 l0_1.length c0_1) := (blk_cell BK192.out 1).trans rfl
          have hfz21_0 := blk_frozen BK192.out 0
          have hfz21_1 := blk_frozen BK192.out 1
          go_wp2_with (first | ((with_reducible refine gate_callee (f := 69) rfl ?_); refine goesL_ (some 16) rfl rfl Try.func69 (by kernel_rfl) rfl #[.agg #[.int .i64 a0_0, .slice A0_1 l0_1.length c0_1]] rfl (by (try simp only [List.map_toArray, List.map_cons, List.map_nil]); first | done | rfl | (simp only [List.length_drop, List.length_take]; rfl)) ?_; (with_reducible refine (token_own.calls a0_0 _ _ l0_1 t196 t197 _ ?side1 ?side2 A18.out).mono ?_); (case side1 => repeat (first | exact (Kd.C_below HR0_1.out HB.out) | (with_reducible refine Kd.C_alloc ?_ _) | (with_reducible refine Kd.C_drewN ?_ _) | (with_reducible refine Kd.C_drew ?_))); (case side2 => exact HC0_1.out); rintro e w22 ⟨v198, rfl, ho0, hb⟩; refine ⟨_, rfl, ?_⟩; have n0_ := Aside0.mk (Kd.R_lower ho0 (below_size (by repeat (first | (with_reducible first | exact HB.out | apply below_alloc | apply pw_below_drewN | apply below_drew1 | refine below_set ?_ GE192.out | refine below_set ?_ GE193.out) | exact HB.out)))); have n1_ := Aside0.mk (blk_below (g := gb192) (o := .cells #[.int .i64 a0_0, .slice A0_1 l0_1.length c0_1] 43 (0, 0)) (by (with_reducible repeat (first | refine blk_drewN ?_ _ | refine blk_drew ?_ | refine blk_alloc ?_ _)); exact BK192.out) hb); have n2_ := Aside0.mk (blk_below (g := gb193) (o := .cells #[.int .i64 0, .slice none 0 0] 43 (0, 0)) (by (with_reducible repeat (first | refine blk_drewN ?_ _ | refine blk_drew ?_ | refine blk_alloc ?_ _)); exact BK193.out) hb); have n3_ := Aside0.mk (below_step (by repeat (first | (with_reducible first | exact HB.out | apply below_alloc | apply pw_below_drewN | apply below_drew1 | refine below_set ?_ GE192.out | refine below_set ?_ GE193.out) | exact HB.out)) hb); clear BK192; clear BK193; clear HB; have HO199 := n0_; have BK192 := n1_; have BK193 := n2_; have HB := n3_; clear n0_ n1_ n2_ n3_; (try clear hb); (try clear hb2); (try clear hk); (try clear hi); (try clear ho0); have hcz23_0 : w22.cell? ⟨gb192, 0, none⟩ = some (.int .i64 a0_0) := (blk_cell BK192.out 0).trans rfl; have hcz23_1 : w22.cell? ⟨gb192, 1, none⟩ = some (.slice A0_1 l0_1.length c0_1) := (blk_cell BK192.out 1).trans rfl; have hfz23_0 := blk_frozen BK192.out 0; have hfz23_1 := blk_frozen BK192.out 1; obtain ⟨Ao24, co24, eo24⟩ := Kd.R_slice HO199.out; subst eo24; have hcz25_0 : w22.cell? ⟨gb193, 0, none⟩ = some (.int .i64 0) := (blk_cell BK193.out 0).trans rfl; have hcz25_1 : w22.cell? ⟨gb193, 1, none⟩ = some (.slice none 0 0) := (blk_cell BK193.out 1).trans rfl; have hfz25_0 := blk_frozen BK193.out 0; have hfz25_1 := blk_frozen BK193.out 1))
          refine bodyPost_ret (results_ct rfl _ _ gb193 43 #[.int .i64 a1, .slice Ao24 t197.length co24] (0, 0) _ rfl (by (with_reducible repeat (first | refine blk_drewN ?_ _ | refine blk_drew ?_ | refine blk_alloc ?_ _)); refine blk_put (cs := #[.int .i64 a1, .slice none 0 0]) ?_ 1 _ rfl; (with_reducible repeat (first | refine blk_drewN ?_ _ | refine blk_drew ?_ | refine blk_alloc ?_ _)); refine blk_put (cs := #[.int .i64 0, .slice none 0 0]) ?_ 0 _ rfl; (with_reducible repeat (first | refine blk_drewN ?_ _ | refine blk_drew ?_ | refine blk_alloc ?_ _)); refine blk_far ?_ NB193_192.out _; (with_reducible repeat (first | refine blk_drewN ?_ _ | refine blk_drew ?_ | refine blk_alloc ?_ _)); refine blk_far ?_ NB193_192.out _; (with_reducible repeat (first | refine blk_drewN ?_ _ | refine blk_drew ?_ | refine blk_alloc ?_ _)); refine blk_far ?_ NB193_192.out _; (with_reducible repeat (first | refine blk_drewN ?_ _ | refine blk_drew ?_ | refine blk_alloc ?_ _)); exact BK193.out) Try.underlying43 rfl (by kernel_rfl)) rfl ?_
          exact ⟨_, by first | rfl | (simp [errW_none, errW_some] <;> rfl) | (simp [*, errW_none, errW_some] <;> rfl), by (with_reducible repeat (first | apply Kd.R_alloc | apply Kd.R_drewN | apply Kd.R_drew)); exact Kd.R_mono (Kd.R_far (p := ⟨gb193, 1, none⟩) (Kd.R_far (p := ⟨gb193, 0, none⟩) (Kd.R_far (p := ⟨gb192, 0, none⟩) (Kd.R_far (p := ⟨gb192, 1, none⟩) (Kd.R_far (p := ⟨gb192, 0, none⟩) (Kd.R_types (Kd.R_types HO199.out BK192.out (by decide)) BK193.out (by decide)) (fun _ hk => hk.1.2) (.int .i64 t196)) (fun _ hk => hk.1.2) (.slice Ao24 t197.length co24)) (fun _ hk => hk.1.2) (.int .i64 a1)) (fun _ hk => hk.2) (.int .i64 a1)) (fun _ hk => hk.2) (.slice Ao24 t197.length co24)) (fun _ hk => trivial), by repeat (first | (with_reducible first | exact HB.out | apply below_alloc | apply pw_below_drewN | apply below_drew1 | refine below_set ?_ GE192.out | refine below_set ?_ GE193.out) | exact HB.out)⟩
        · rw [if_neg c19] at H
          have c19b0 : (t196 == 0) = false := beq_eq_false_iff_ne.mpr c19
          have c19b1 : (t196 != 0) = true := bne_iff_ne.mpr c19
          by_cases c26 : t196 = a1
          · rw [if_pos c26] at H
            have c26b0 : (t196 == a1) = true := beq_iff_eq.mpr c26
            have c26b1 : (t196 != a1) = false := bne_eq_false_iff_eq.mpr c26
            clear c26
            simp only [Option.some.injEq, Prod.mk.injEq] at H
            obtain ⟨rfl, rfl, rfl⟩ := H
            have hnb27 := NB192_193.out
            have hnc27 := NB193_192.out
            have hcz28_0 : wc.cell? ⟨gb192, 0, none⟩ = some (.int .i64 a0_0) := (blk_cell BK192.out 0).trans rfl
            have hcz28_1 : wc.cell? ⟨gb192, 1, none⟩ = some (.slice A0_1 l0_1.length c0_1) := (blk_cell BK192.out 1).trans rfl
            have hfz28_0 := blk_frozen BK192.out 0
            have hfz28_1 := blk_frozen BK192.out 1
            go_wp2_with (first | ((with_reducible refine gate_callee (f := 69) rfl ?_); refine goesL_ (some 16) rfl rfl Try.func69 (by kernel_rfl) rfl #[.agg #[.int .i64 a0_0, .slice A0_1 l0_1.length c0_1]] rfl (by (try simp only [List.map_toArray, List.map_cons, List.map_nil]); first | done | rfl | (simp only [List.length_drop, List.length_take]; rfl)) ?_; (with_reducible refine (token_own.calls a0_0 _ _ l0_1 t196 t197 _ ?side1 ?side2 A18.out).mono ?_); (case side1 => repeat (first | exact (Kd.C_below HR0_1.out HB.out) | (with_reducible refine Kd.C_alloc ?_ _) | (with_reducible refine Kd.C_drewN ?_ _) | (with_reducible refine Kd.C_drew ?_))); (case side2 => exact HC0_1.out); rintro e w29 ⟨v198, rfl, ho0, hb⟩; refine ⟨_, rfl, ?_⟩; have n0_ := Aside0.mk (Kd.R_lower ho0 (below_size (by repeat (first | (with_reducible first | exact HB.out | apply below_alloc | apply pw_below_drewN | apply below_drew1 | refine below_set ?_ GE192.out | refine below_set ?_ GE193.out) | exact HB.out)))); have n1_ := Aside0.mk (blk_below (g := gb192) (o := .cells #[.int .i64 a0_0, .slice A0_1 l0_1.length c0_1] 43 (0, 0)) (by (with_reducible repeat (first | refine blk_drewN ?_ _ | refine blk_drew ?_ | refine blk_alloc ?_ _)); exact BK192.out) hb); have n2_ := Aside0.mk (blk_below (g := gb193) (o := .cells #[.int .i64 0, .slice none 0 0] 43 (0, 0)) (by (with_reducible repeat (first | refine blk_drewN ?_ _ | refine blk_drew ?_ | refine blk_alloc ?_ _)); exact BK193.out) hb); have n3_ := Aside0.mk (below_step (by repeat (first | (with_reducible first | exact HB.out | apply below_alloc | apply pw_below_drewN | apply below_drew1 | refine below_set ?_ GE192.out | refine below_set ?_ GE193.out) | exact HB.out)) hb); clear BK192; clear BK193; clear HB; have HO199 := n0_; have BK192 := n1_; have BK193 := n2_; have HB := n3_; clear n0_ n1_ n2_ n3_; (try clear hb); (try clear hb2); (try clear hk); (try clear hi); (try clear ho0); have hcz30_0 : w29.cell? ⟨gb192, 0, none⟩ = some (.int .i64 a0_0) := (blk_cell BK192.out 0).trans rfl; have hcz30_1 : w29.cell? ⟨gb192, 1, none⟩ = some (.slice A0_1 l0_1.length c0_1) := (blk_cell BK192.out 1).trans rfl; have hfz30_0 := blk_frozen BK192.out 0; have hfz30_1 := blk_frozen BK192.out 1; obtain ⟨Ao31, co31, eo31⟩ := Kd.R_slice HO199.out; subst eo31; have hcz32_0 : w29.cell? ⟨gb193, 0, none⟩ = some (.int .i64 0) := (blk_cell BK193.out 0).trans rfl; have hcz32_1 : w29.cell? ⟨gb193, 1, none⟩ = some (.slice none 0 0) := (blk_cell BK193.out 1).trans rfl; have hfz32_0 := blk_frozen BK193.out 0; have hfz32_1 := blk_frozen BK193.out 1))
            refine bodyPost_ret (results_ct rfl _ _ gb193 43 #[.int .i64 t196, .slice Ao31 t197.length co31] (0, 0) _ rfl (by (with_reducible repeat (first | refine blk_drewN ?_ _ | refine blk_drew ?_ | refine blk_alloc ?_ _)); refine blk_put (cs := #[.int .i64 t196, .slice none 0 0]) ?_ 1 _ rfl; (with_reducible repeat (first | refine blk_drewN ?_ _ | refine blk_drew ?_ | refine blk_alloc ?_ _)); refine blk_put (cs := #[.int .i64 0, .slice none 0 0]) ?_ 0 _ rfl; (with_reducible repeat (first | refine blk_drewN ?_ _ | refine blk_drew ?_ | refine blk_alloc ?_ _)); refine blk_far ?_ NB193_192.out _; (with_reducible repeat (first | refine blk_drewN ?_ _ | refine blk_drew ?_ | refine blk_alloc ?_ _)); refine blk_far ?_ NB193_192.out _; (with_reducible repeat (first | refine blk_drewN ?_ _ | refine blk_drew ?_ | refine blk_alloc ?_ _)); exact BK193.out) Try.underlying43 rfl (by kernel_rfl)) rfl ?_
            exact ⟨_, by first | rfl | (simp [errW_none, errW_some] <;> rfl) | (simp [*, errW_none, errW_some] <;> rfl), by (with_reducible repeat (first | apply Kd.R_alloc | apply Kd.R_drewN | apply Kd.R_drew)); exact Kd.R_mono (Kd.R_far (p := ⟨gb193, 1, none⟩) (Kd.R_far (p := ⟨gb193, 0, none⟩) (Kd.R_far (p := ⟨gb192, 1, none⟩) (Kd.R_far (p := ⟨gb192, 0, none⟩) (Kd.R_types (Kd.R_types HO199.out BK192.out (by decide)) BK193.out (by decide)) (fun _ hk => hk.1.2) (.int .i64 t196)) (fun _ hk => hk.1.2) (.slice Ao31 t197.length co31)) (fun _ hk => hk.2) (.int .i64 t196)) (fun _ hk => hk.2) (.slice Ao31 t197.length co31)) (fun _ hk => trivial), by repeat (first | (with_reducible first | exact HB.out | apply below_alloc | apply pw_below_drewN | apply below_drew1 | refine below_set ?_ GE192.out | refine below_set ?_ GE193.out) | exact HB.out)⟩
          · rw [if_neg c26] at H
            have c26b0 : (t196 == a1) = false := beq_eq_false_iff_ne.mpr c26
            have c26b1 : (t196 != a1) = true := bne_iff_ne.mpr c26
            replace H := Option.bind_eq_some_iff.mp H
            obtain ⟨t200, A330, H⟩ := H
            replace H : (if t200 = true then (some (t196, t197, 0)) else (if t197.length < 17592186044416 then (some (t196, (t197 ++ [a1]), 0)) else (none))) = some (r1, r2, r3) := H
            have A33 := Aside0.mk A330
            clear A330
            by_cases c34 : t200 = true
            · subst c34
              have H1 : (some (t196, t197, 0)) = some (r1, r2, r3) := by rw [if_pos rfl] at H; exact H
              clear H
              have H := H1
              clear H1
              simp only [Option.some.injEq, Prod.mk.injEq] at H
              obtain ⟨rfl, rfl, rfl⟩ := H
              have hnb35 := NB192_193.out
              have hnc35 := NB193_192.out
              have hcz36_0 : wc.cell? ⟨gb192, 0, none⟩ = some (.int .i64 a0_0) := (blk_cell BK192.out 0).trans rfl
              have hcz36_1 : wc.cell? ⟨gb192, 1, none⟩ = some (.slice A0_1 l0_1.length c0_1) := (blk_cell BK192.out 1).trans rfl
              have hfz36_0 := blk_frozen BK192.out 0
              have hfz36_1 := blk_frozen BK192.out 1
              go_wp2_with (first | ((with_reducible refine gate_callee (f := 69) rfl ?_); refine goesL_ (some 16) rfl rfl Try.func69 (by kernel_rfl) rfl #[.agg #[.int .i64 a0_0, .slice A0_1 l0_1.length c0_1]] rfl (by (try simp only [List.map_toArray, List.map_cons, List.map_nil]); first | done | rfl | (simp only [List.length_drop, List.length_take]; rfl)) ?_; (with_reducible refine (token_own.calls a0_0 _ _ l0_1 t196 t197 _ ?side1 ?side2 A18.out).mono ?_); (case side1 => repeat (first | exact (Kd.C_below HR0_1.out HB.out) | (with_reducible refine Kd.C_alloc ?_ _) | (with_reducible refine Kd.C_drewN ?_ _) | (with_reducible refine Kd.C_drew ?_))); (case side2 => exact HC0_1.out); rintro e w37 ⟨v198, rfl, ho0, hb⟩; refine ⟨_, rfl, ?_⟩; have n0_ := Aside0.mk (Kd.R_lower ho0 (below_size (by repeat (first | (with_reducible first | exact HB.out | apply below_alloc | apply pw_below_drewN | apply below_drew1 | refine below_set ?_ GE192.out | refine below_set ?_ GE193.out) | exact HB.out)))); have n1_ := Aside0.mk (blk_below (g := gb192) (o := .cells #[.int .i64 a0_0, .slice A0_1 l0_1.length c0_1] 43 (0, 0)) (by (with_reducible repeat (first | refine blk_drewN ?_ _ | refine blk_drew ?_ | refine blk_alloc ?_ _)); exact BK192.out) hb); have n2_ := Aside0.mk (blk_below (g := gb193) (o := .cells #[.int .i64 0, .slice none 0 0] 43 (0, 0)) (by (with_reducible repeat (first | refine blk_drewN ?_ _ | refine blk_drew ?_ | refine blk_alloc ?_ _)); exact BK193.out) hb); have n3_ := Aside0.mk (below_step (by repeat (first | (with_reducible first | exact HB.out | apply below_alloc | apply pw_below_drewN | apply below_drew1 | refine below_set ?_ GE192.out | refine below_set ?_ GE193.out) | exact HB.out)) hb); clear BK192; clear BK193; clear HB; have HO199 := n0_; have BK192 := n1_; have BK193 := n2_; have HB := n3_; clear n0_ n1_ n2_ n3_; (try clear hb); (try clear hb2); (try clear hk); (try clear hi); (try clear ho0); have hcz38_0 : w37.cell? ⟨gb192, 0, none⟩ = some (.int .i64 a0_0) := (blk_cell BK192.out 0).trans rfl; have hcz38_1 : w37.cell? ⟨gb192, 1, none⟩ = some (.slice A0_1 l0_1.length c0_1) := (blk_cell BK192.out 1).trans rfl; have hfz38_0 := blk_frozen BK192.out 0; have hfz38_1 := blk_frozen BK192.out 1; obtain ⟨Ao39, co39, eo39⟩ := Kd.R_slice HO199.out; subst eo39) | (go_at_call 70; (with_reducible refine (slices_Contains_int_int.calls kj2 _ _ t197 a1 true _ ?side1 ?side2 A33.out).mono ?_); (case side1 => refine (Kd.R_reads' (e := 3) (base := w.heap.size) (ok := fun k_ => True) (n := t197.length) (c := co39) ?_).2.2; exact (by (with_reducible repeat (first | apply Kd.R_alloc | apply Kd.R_drewN | apply Kd.R_drew)); exact (Kd.R_mono (Kd.R_far (p := ⟨gb192, 1, none⟩) (Kd.R_far (p := ⟨gb192, 0, none⟩) (Kd.R_types HO199.out BK192.out (by decide)) (fun _ hk => hk.2) (.int .i64 t196)) (fun _ hk => hk.2) (.slice Ao39 t197.length co39)) (fun _ h_ => h_.1)))); (case side2 => exact (Kd.R_reads' HO199.out).2.1); rintro e w' ⟨rfl, ⟨nd, rfl⟩⟩; have hcz40_0 : w37.cell? ⟨gb193, 0, none⟩ = some (.int .i64 0) := (blk_cell BK193.out 0).trans rfl; have hcz40_1 : w37.cell? ⟨gb193, 1, none⟩ = some (.slice none 0 0) := (blk_cell BK193.out 1).trans rfl; have hfz40_0 := blk_frozen BK193.out 0; have hfz40_1 := blk_frozen BK193.out 1))
              refine bodyPost_ret (results_ct rfl _ _ gb193 43 #[.int .i64 t196, .slice Ao39 t197.length co39] (0, 0) _ rfl (by (with_reducible repeat (first | refine blk_drewN ?_ _ | refine blk_drew ?_ | refine blk_alloc ?_ _)); refine blk_put (cs := #[.int .i64 t196, .slice none 0 0]) ?_ 1 _ rfl; (with_reducible repeat (first | refine blk_drewN ?_ _ | refine blk_drew ?_ | refine blk_alloc ?_ _)); refine blk_put (cs := #[.int .i64 0, .slice none 0 0]) ?_ 0 _ rfl; (with_reducible repeat (first | refine blk_drewN ?_ _ | refine blk_drew ?_ | refine blk_alloc ?_ _)); refine blk_far ?_ NB193_192.out _; (with_reducible repeat (first | refine blk_drewN ?_ _ | refine blk_drew ?_ | refine blk_alloc ?_ _)); refine blk_far ?_ NB193_192.out _; (with_reducible repeat (first | refine blk_drewN ?_ _ | refine blk_drew ?_ | refine blk_alloc ?_ _)); exact BK193.out) Try.underlying43 rfl (by kernel_rfl)) rfl ?_
              exact ⟨_, by first | rfl | (simp [errW_none, errW_some] <;> rfl) | (simp [*, errW_none, errW_some] <;> rfl), by (with_reducible repeat (first | apply Kd.R_alloc | apply Kd.R_drewN | apply Kd.R_drew)); exact Kd.R_mono (Kd.R_far (p := ⟨gb193, 1, none⟩) (Kd.R_far (p := ⟨gb193, 0, none⟩) (Kd.R_far (p := ⟨gb192, 1, none⟩) (Kd.R_far (p := ⟨gb192, 0, none⟩) (Kd.R_types (Kd.R_types HO199.out BK192.out (by decide)) BK193.out (by decide)) (fun _ hk => hk.1.2) (.int .i64 t196)) (fun _ hk => hk.1.2) (.slice Ao39 t197.length co39)) (fun _ hk => hk.2) (.int .i64 t196)) (fun _ hk => hk.2) (.slice Ao39 t197.length co39)) (fun _ hk => trivial), by repeat (first | (with_reducible first | exact HB.out | apply below_alloc | apply pw_below_drewN | apply below_drew1 | refine below_set ?_ GE192.out | refine below_set ?_ GE193.out) | exact HB.out)⟩
            · replace c34 := Bool.eq_false_iff.mpr c34
              subst c34
              have H1 : (if t197.length < 17592186044416 then (some (t196, (t197 ++ [a1]), 0)) else (none)) = some (r1, r2, r3) := by rw [if_neg (show ¬ (false = true) by decide)] at H; exact H
              clear H
              have H := H1
              clear H1
              by_cases c41 : t197.length < 17592186044416
              · rw [if_pos c41] at H
                have LMc41 := Aside0.mk c41
                clear c41
                obtain ⟨y201, hy201⟩ : ∃ y_ : List Int, y_ = (t197 ++ [a1]) := ⟨_, rfl⟩
                replace H : (some (t196, y201, 0)) = some (r1, r2, r3) := by first | (rw [hy201]; with_reducible exact H) | (have H2_ := (Option.bind_some _ _).symm.trans H; rw [hy201]; with_reducible exact H2_) | (have H2_ := (Option.bind_some _ _).symm.trans H; with_reducible exact H2_) | with_reducible exact H | (rw [hy201]; exact H) | exact H
                have Ny201 := Aside0.mk hy201
                clear hy201
                simp only [Option.some.injEq, Prod.mk.injEq] at H
                obtain ⟨rfl, rfl, rfl⟩ := H
                have hnb42 := NB192_193.out
                have hnc42 := NB193_192.out
                have hcz43_0 : wc.cell? ⟨gb192, 0, none⟩ = some (.int .i64 a0_0) := (blk_cell BK192.out 0).trans rfl
                have hcz43_1 : wc.cell? ⟨gb192, 1, none⟩ = some (.slice A0_1 l0_1.length c0_1) := (blk_cell BK192.out 1).trans rfl
                have hfz43_0 := blk_frozen BK192.out 0
                have hfz43_1 := blk_frozen BK192.out 1
                go_wp2_with (first | ((with_reducible refine gate_callee (f := 69) rfl ?_); refine goesL_ (some 16) rfl rfl Try.func69 (by kernel_rfl) rfl #[.agg #[.int .i64 a0_0, .slice A0_1 l0_1.length c0_1]] rfl (by (try simp only [List.map_toArray, List.map_cons, List.map_nil]); first | done | rfl | (simp only [List.length_drop, List.length_take]; rfl)) ?_; (with_reducible refine (token_own.calls a0_0 _ _ l0_1 t196 t197 _ ?side1 ?side2 A18.out).mono ?_); (case side1 => repeat (first | exact (Kd.C_below HR0_1.out HB.out) | (with_reducible refine Kd.C_alloc ?_ _) | (with_reducible refine Kd.C_drewN ?_ _) | (with_reducible refine Kd.C_drew ?_))); (case side2 => exact HC0_1.out); rintro e w44 ⟨v198, rfl, ho0, hb⟩; refine ⟨_, rfl, ?_⟩; have n0_ := Aside0.mk (Kd.R_lower ho0 (below_size (by repeat (first | (with_reducible first | exact HB.out | apply below_alloc | apply pw_below_drewN | apply below_drew1 | refine below_set ?_ GE192.out | refine below_set ?_ GE193.out) | exact HB.out)))); have n1_ := Aside0.mk (blk_below (g := gb192) (o := .cells #[.int .i64 a0_0, .slice A0_1 l0_1.length c0_1] 43 (0, 0)) (by (with_reducible repeat (first | refine blk_drewN ?_ _ | refine blk_drew ?_ | refine blk_alloc ?_ _)); exact BK192.out) hb); have n2_ := Aside0.mk (blk_below (g := gb193) (o := .cells #[.int .i64 0, .slice none 0 0] 43 (0, 0)) (by (with_reducible repeat (first | refine blk_drewN ?_ _ | refine blk_drew ?_ | refine blk_alloc ?_ _)); exact BK193.out) hb); have n3_ := Aside0.mk (below_step (by repeat (first | (with_reducible first | exact HB.out | apply below_alloc | apply pw_below_drewN | apply below_drew1 | refine below_set ?_ GE192.out | refine below_set ?_ GE193.out) | exact HB.out)) hb); clear BK192; clear BK193; clear HB; have HO199 := n0_; have BK192 := n1_; have BK193 := n2_; have HB := n3_; clear n0_ n1_ n2_ n3_; (try clear hb); (try clear hb2); (try clear hk); (try clear hi); (try clear ho0); have hcz45_0 : w44.cell? ⟨gb192, 0, none⟩ = some (.int .i64 a0_0) := (blk_cell BK192.out 0).trans rfl; have hcz45_1 : w44.cell? ⟨gb192, 1, none⟩ = some (.slice A0_1 l0_1.length c0_1) := (blk_cell BK192.out 1).trans rfl; have hfz45_0 := blk_frozen BK192.out 0; have hfz45_1 := blk_frozen BK192.out 1; obtain ⟨Ao46, co46, eo46⟩ := Kd.R_slice HO199.out; subst eo46) | (go_at_call 70; (with_reducible refine (slices_Contains_int_int.calls kj2 _ _ t197 a1 false _ ?side1 ?side2 A33.out).mono ?_); (case side1 => refine (Kd.R_reads' (e := 3) (base := w.heap.size) (ok := fun k_ => True) (n := t197.length) (c := co46) ?_).2.2; exact (by (with_reducible repeat (first | apply Kd.R_alloc | apply Kd.R_drewN | apply Kd.R_drew)); exact (Kd.R_mono (Kd.R_far (p := ⟨gb192, 1, none⟩) (Kd.R_far (p := ⟨gb192, 0, none⟩) (Kd.R_types HO199.out BK192.out (by decide)) (fun _ hk => hk.2) (.int .i64 t196)) (fun _ hk => hk.2) (.slice Ao46 t197.length co46)) (fun _ h_ => h_.1)))); (case side2 => exact (Kd.R_reads' HO199.out).2.1); rintro e w' ⟨rfl, ⟨nd, rfl⟩⟩) | ((with_reducible refine gate_builtin (b := .append) (xs := #[.tmp 36, .tmp 38]) rfl ?_); at_builtin; refine Kd.R_append (Kd.int .i64) (w0 := w) w.heap.size rfl (.tmp 36) (.tmp 38) 26 3 (.int .i64 0) 8 rfl Try.underlying26 info3 rfl (by decide) (by omega) (.slice Ao46 t197.length co46) t197 a1 [.int .i64 a1] (fun _ => True) (fun _ => False) rfl (by first | (go_simp; done) | (go_simp; rfl)) ?aP (fun _ hk => hk.elim) ?aF ?aO ?aB ?aS ?aL ?_; (case aP => exact rfl); (case aB => exact (by repeat (first | (with_reducible first | exact HB.out | apply below_alloc | apply pw_below_drewN | apply below_drew1 | refine below_set ?_ GE192.out | refine below_set ?_ GE193.out) | exact HB.out))); (case aF => exact (fun _ _ => trivial)); (case aO => exact (by (with_reducible repeat (first | apply Kd.R_alloc | apply Kd.R_drewN | apply Kd.R_drew)); exact Kd.R_mono (Kd.R_far (p := ⟨gb192, 1, none⟩) (Kd.R_far (p := ⟨gb192, 0, none⟩) (Kd.R_types HO199.out BK192.out (by decide)) (fun _ hk => hk.2) (.int .i64 t196)) (fun _ hk => hk.2) (.slice Ao46 t197.length co46)) (fun _ hk => trivial))); (case aS => exact (below_size (by repeat (first | (with_reducible first | exact HB.out | apply below_alloc | apply pw_below_drewN | apply below_drew1 | refine below_set ?_ GE192.out | refine below_set ?_ GE193.out) | exact HB.out)))); (case aL => have := LMc41.out; omega); intro v202 w47 ho hb hg hat; rw [← Ny201.out] at ho; have n0_ := Aside0.mk (blk_grown (g := gb192) (o := .cells #[.int .i64 t196, .slice Ao46 t197.length co46] 43 (0, 0)) (by (with_reducible repeat (first | refine blk_drewN ?_ _ | refine blk_drew ?_ | refine blk_alloc ?_ _)); refine blk_put (cs := #[.int .i64 t196, .slice A0_1 l0_1.length c0_1]) ?_ 1 _ rfl; (with_reducible repeat (first | refine blk_drewN ?_ _ | refine blk_drew ?_ | refine blk_alloc ?_ _)); refine blk_put (cs := #[.int .i64 a0_0, .slice A0_1 l0_1.length c0_1]) ?_ 0 _ rfl; (with_reducible repeat (first | refine blk_drewN ?_ _ | refine blk_drew ?_ | refine blk_alloc ?_ _)); exact BK192.out) hg (Kd.R_ne HO199.out BK192.out (by decide))); have n1_ := Aside0.mk (blk_grown (g := gb193) (o := .cells #[.int .i64 0, .slice none 0 0] 43 (0, 0)) (by (with_reducible repeat (first | refine blk_drewN ?_ _ | refine blk_drew ?_ | refine blk_alloc ?_ _)); refine blk_far ?_ NB193_192.out _; (with_reducible repeat (first | refine blk_drewN ?_ _ | refine blk_drew ?_ | refine blk_alloc ?_ _)); refine blk_far ?_ NB193_192.out _; (with_reducible repeat (first | refine blk_drewN ?_ _ | refine blk_drew ?_ | refine blk_alloc ?_ _)); exact BK193.out) hg (Kd.R_ne HO199.out BK193.out (by decide))); have n2_ := Aside0.mk (hb); have n3_ := Aside0.mk (ho); clear BK192; clear BK193; clear HB; clear HO199; have BK192 := n0_; have BK193 := n1_; have HB := n2_; have HO203 := n3_; clear n0_ n1_ n2_ n3_; clear ho hb hg hat; obtain ⟨Ao48, co48, eo48⟩ := Kd.R_slice HO203.out; subst eo48; have hcz49_0 : w47.cell? ⟨gb192, 0, none⟩ = some (.int .i64 t196) := (blk_cell BK192.out 0).trans rfl; have hcz49_1 : w47.cell? ⟨gb192, 1, none⟩ = some (.slice Ao46 t197.length co46) := (blk_cell BK192.out 1).trans rfl; have hfz49_0 := blk_frozen BK192.out 0; have hfz49_1 := blk_frozen BK192.out 1; have hcz50_0 : w47.cell? ⟨gb193, 0, none⟩ = some (.int .i64 0) := (blk_cell BK193.out 0).trans rfl; have hcz50_1 : w47.cell? ⟨gb193, 1, none⟩ = some (.slice none 0 0) := (blk_cell BK193.out 1).trans rfl; have hfz50_0 := blk_frozen BK193.out 0; have hfz50_1 := blk_frozen BK193.out 1))
                refine bodyPost_ret (results_ct rfl _ _ gb193 43 #[.int .i64 t196, .slice Ao48 y201.length co48] (0, 0) _ rfl (by (with_reducible repeat (first | refine blk_drewN ?_ _ | refine blk_drew ?_ | refine blk_alloc ?_ _)); refine blk_put (cs := #[.int .i64 t196, .slice none 0 0]) ?_ 1 _ rfl; (with_reducible repeat (first | refine blk_drewN ?_ _ | refine blk_drew ?_ | refine blk_alloc ?_ _)); refine blk_put (cs := #[.int .i64 0, .slice none 0 0]) ?_ 0 _ rfl; (with_reducible repeat (first | refine blk_drewN ?_ _ | refine blk_drew ?_ | refine blk_alloc ?_ _)); refine blk_far ?_ NB193_192.out _; (with_reducible repeat (first | refine blk_drewN ?_ _ | refine blk_drew ?_ | refine blk_alloc ?_ _)); exact BK193.out) Try.underlying43 rfl (by kernel_rfl)) rfl ?_
                exact ⟨_, by first | rfl | (simp [errW_none, errW_some] <;> rfl) | (simp [*, errW_none, errW_some] <;> rfl), by (with_reducible repeat (first | apply Kd.R_alloc | apply Kd.R_drewN | apply Kd.R_drew)); exact Kd.R_mono (Kd.R_far (p := ⟨gb193, 1, none⟩) (Kd.R_far (p := ⟨gb193, 0, none⟩) (Kd.R_far (p := ⟨gb192, 1, none⟩) (Kd.R_types (Kd.R_types HO203.out BK192.out (by decide)) BK193.out (by decide)) (fun _ hk => hk.1.2) (.slice Ao48 y201.length co48)) (fun _ hk => hk.2) (.int .i64 t196)) (fun _ hk => hk.2) (.slice Ao48 y201.length co48)) (fun _ hk => trivial), by repeat (first | (with_reducible first | exact HB.out | apply below_alloc | apply pw_below_drewN | apply below_drew1 | refine below_set ?_ GE192.out | refine below_set ?_ GE193.out) | exact HB.out)⟩
              · rw [if_neg c41] at H
                exact absurd H (by simp)

/-! ### beaconlaw21_num: function 21 -/
def beaconlaw21_num.f (a0 : Int) : Option (Int) := some a0
set_option maxHeartbeats 8000000 in
set_option maxRecDepth 100000 in
theorem beaconlaw21_num.calls (a0 : Int) (r : Int) (w : World) (h : beaconlaw21_num.f a0 = some r) :
    Calls Try.prog 21 #[.int .i64 a0] w fun e w' => e = .returned (.int .i64 r) ∧ Drawn0 w w' := by
  have H : (some a0) = some r := h
  clear h
  obtain rfl := Option.some.inj H
  go_enter Try.func21, Try.ntmps21
  go_wp2
  go_ret
  exact ⟨by first | rfl | (simp; done) | (simp [*]; done), by repeat (first | exact Drawn0.refl _ | apply Drawn0.step)⟩

/-! ### beaconref0_In: function 22 -/
def beaconref0_In.l0 : Nat → List Int → Int → Int → Option (Int)
  | 0, _, _, _ => none
  | k + 1, x0, x1, x5 => if x5 < (x0.length : Int) then (if 0 ≤ x5 then (if (rd x0 x5) = x1 then (some x5) else (beaconref0_In.l0 k x0 x1 (wrap64 (x5 + 1)))) else (none)) else (some (-1))
def beaconref0_In.f (k : Nat) (l0 : List Int) (a1 : Int) : Option (Int) := beaconref0_In.l0 k l0 a1 0
theorem beaconref0_In.mono_l : ∀ k, (∀ y0 y1 y2, LeO (beaconref0_In.l0 k y0 y1 y2) (beaconref0_In.l0 (k + 1) y0 y1 y2))
  | 0 => fun _ _ _ r h => by simp [beaconref0_In.l0] at h
  | k + 1 => by
    have ih0 := beaconref0_In.mono_l k
    · intro y0 y1 y2
      unfold beaconref0_In.l0
      repeat' first
      | (with_reducible exact ih0 _ _ _)
      | (with_reducible exact LeO.refl _)
      | (with_reducible exact LeO.none _)
      | (with_reducible refine LeO.ite ?_ ?_)
      | (with_reducible refine LeO.bind ?_ (fun _ => ?_))
      | exact ih0 _ _ _
      | exact LeO.none _
      | refine LeO.ite ?_ ?_
      | refine LeO.bind ?_ (fun _ => ?_)
theorem beaconref0_In.mono : ∀ a0 a1 k, LeO (beaconref0_In.f k a0 a1) (beaconref0_In.f (k + 1) a0 a1) := by
  intro a0 a1 k
  have ih0 := beaconref0_In.mono_l k
  unfold beaconref0_In.f
  repeat' first
      | (with_reducible exact ih0 _ _ _)
      | (with_reducible exact LeO.refl _)
      | (with_reducible exact LeO.none _)
      | (with_reducible refine LeO.ite ?_ ?_)
      | (with_reducible refine LeO.bind ?_ (fun _ => ?_))
      | exact ih0 _ _ _
      | exact LeO.none _
      | refine LeO.ite ?_ ?_
      | refine LeO.bind ?_ (fun _ => ?_)
set_option maxHeartbeats 8000000 in
set_option maxRecDepth 100000 in
theorem beaconref0_In.calls (k : Nat) (A0 : Option Addr) (c0 : Nat) (l0 : List Int) (a1 : Int) (r : Int) (w : World) (hr0 : Kd.C (Kd.int .i64) w A0 l0.length l0) (hc0 : l0.length ≤ c0) (h : beaconref0_In.f k l0 a1 = some r) :
    Calls Try.prog 22 #[.slice A0 l0.length c0, .int .i64 a1] w fun e w' => e = .returned (.int .i64 r) ∧ Drawn0 w w' := by
  have HR0 := Aside0.mk hr0
  have HC0 := Aside0.mk hc0
  clear hr0 hc0
  have H : (beaconref0_In.l0 k l0 a1 0) = some r := h
  clear h
  have H' := Aside0.mk H
  clear H
  go_enter Try.func22, Try.ntmps22
  go_wp2
  go_loopg [5] k (fun kq v5 w' => ∃ (x5_1 : Int), v5 = .int .i64 x5_1 ∧ Aside0 (beaconref0_In.l0 kq l0 a1 x5_1 = some r) ∧ Aside0 (kq ≤ k) ∧ Drawn0 w w')
  case atStart => exact ⟨(0), (by first | rfl | (simp; done) | (simp [*]; done)), H', ⟨Nat.le_refl _⟩, by repeat (first | exact Drawn0.refl _ | apply Drawn0.step)⟩
  case round =>
    clear H'
    try clear c2
    try clear p2
    obtain ⟨x5_1, rfl, HA, HK1, ⟨m1, rfl⟩⟩ := hrel
    cases gk with
    | zero => exact absurd HA.out (by simp [beaconref0_In.l0])
    | succ k1 =>
      have H := HA.out
      clear HA
      simp only [beaconref0_In.l0] at H
      by_cases c3 : x5_1 < (l0.length : Int)
      · rw [if_pos c3] at H
        have c3b0 : decide (x5_1 < (l0.length : Int)) = true := decide_eq_true c3
        clear c3
        by_cases c4 : 0 ≤ x5_1
        · rw [if_pos c4] at H
          have c4b0 : decide (0 ≤ x5_1) = true := decide_eq_true c4
          clear c4
          by_cases c5 : (rd l0 x5_1) = a1
          · rw [if_pos c5] at H
            have c5b0 : ((rd l0 x5_1) == a1) = true := beq_iff_eq.mpr c5
            have c5b1 : ((rd l0 x5_1) != a1) = false := bne_eq_false_iff_eq.mpr c5
            clear c5
            obtain rfl := Option.some.inj H
            have p204 : 0 ≤ (x5_1 : Int) := of_decide_eq_true (by first | (with_reducible assumption) | assumption)
            have q204 : x5_1 < (l0.length : Int) := of_decide_eq_true (by first | (with_reducible assumption) | assumption)
            obtain ⟨ad204, e204, hx204_0⟩ := Kd.at_int HR0.out x5_1 p204 q204
            cases e204
            replace p204 := eq_true p204
            replace q204 := eq_true q204
            go_wp2
            go_ret
            exact ⟨by first | rfl | (simp; done) | (simp [*]; done), by repeat (first | exact Drawn0.refl _ | apply Drawn0.step)⟩
          · rw [if_neg c5] at H
            have c5b0 : ((rd l0 x5_1) == a1) = false := beq_eq_false_iff_ne.mpr c5
            have c5b1 : ((rd l0 x5_1) != a1) = true := bne_iff_ne.mpr c5
            have H' := Aside0.mk H
            clear H
            have p204 : 0 ≤ (x5_1 : Int) := of_decide_eq_true (by first | (with_reducible assumption) | assumption)
            have q204 : x5_1 < (l0.length : Int) := of_decide_eq_true (by first | (with_reducible assumption) | assumption)
            obtain ⟨ad204, e204, hx204_0⟩ := Kd.at_int HR0.out x5_1 p204 q204
            cases e204
            replace p204 := eq_true p204
            replace q204 := eq_true q204
            go_wp2
            go_roundg k1
            case measure => have := HK1.out; omega
            case rel => exact ⟨(wrap64 (x5_1 + 1)), (by first | rfl | (simp; done) | (simp [*]; done)), H', ⟨by have := HK1.out; omega⟩, by repeat (first | exact Drawn0.refl _ | apply Drawn0.step)⟩
        · rw [if_neg c4] at H
          exact absurd H (by simp)
      · rw [if_neg c3] at H
        have c3b0 : decide (x5_1 < (l0.length : Int)) = false := decide_eq_false c3
        clear c3
        obtain rfl := Option.some.inj H
        go_wp2
        go_ret
        exact ⟨by first | rfl | (simp; done) | (simp [*]; done), by repeat (first | exact Drawn0.refl _ | apply Drawn0.step)⟩

-- NOT PRINTED: function 96 (slices_IndexFunc_int_int)

-- NOT PRINTED: function 71 (slices_DeleteFunc_int_int)

/-! ### token_Give: function 23 (an extern) -/
set_option maxRecDepth 100000 in
theorem give1 (n who : Int) (g : Nat) (w : World) (hg : w.cell? ⟨g, 0, none⟩ = some (.int .i64 who)) :
    Calls Try.prog 72 #[.int .i64 n, .pointer (some ⟨g, 0, none⟩)] w fun e w' => e = .returned (.bool (n == who)) ∧ w = w' := by
  go_enter Try.func72, Try.ntmps72
  go_wp2
  go_ret
  exact ⟨rfl, rfl⟩
def fv72 (g : Nat) : Value := .func (.func 72) #[] #[.pointer (some ⟨g, 0, none⟩)]
/-- The first place that holds it; -1: nowhere. -/
def IxOf (who : Int) (l : List Int) (n : Int) : Prop := (n = -1 ∧ ∀ i, i < l.length → ¬ l.getD i 0 = who) ∨ ∃ j : Nat, n = j ∧ j < l.length ∧ l.getD j 0 = who ∧ ∀ i, i < j → ¬ l.getD i 0 = who
def IxPost (who : Int) (l : List Int) (w : World) (e : Ending) (w' : World) : Prop := ∃ n : Int, e = .returned (.int .i64 n) ∧ IxOf who l n ∧ Drawn0 w w'
set_option maxRecDepth 100000 in
set_option maxHeartbeats 1000000 in
theorem index72 (A0 : Option Addr) (c0 : Nat) (l0 : List Int) (who : Int) (g : Nat) (w : World) (hr0 : Kd.C (Kd.int .i64) w A0 l0.length l0) (hg : w.cell? ⟨g, 0, none⟩ = some (.int .i64 who)) :
    Calls Try.prog 96 #[.slice A0 l0.length c0, .func (.func 72) #[] #[.pointer (some ⟨g, 0, none⟩)]] w (IxPost who l0 w) := by
  have HR0 := Aside0.mk hr0
  have HL : l0.length ≤ 9223372036854775807 := hr0.2.1
  have HG := Aside0.mk hg
  clear hr0 hg
  go_enter Try.func96, Try.ntmps96
  go_wp2
  go_loopw [8] (fun v w' => ∃ j : Nat, v = .int .i64 j ∧ j ≤ l0.length ∧ Aside0 (∀ i, i < j → ¬ l0.getD i 0 = who) ∧ Drawn0 w w') (fun v _ => l0.length - (intOf v).toNat)
  case atStart => exact ⟨0, rfl, Nat.zero_le _, ⟨fun i hi => by omega⟩, Drawn0.refl _⟩
  case round =>
    obtain ⟨j, rfl, hj, HF, ⟨m, rfl⟩⟩ := hrel
    by_cases hlt : j < l0.length
    · obtain ⟨ad, e0, hx⟩ := Kd.at_int HR0.out j (by omega) (by omega)
      cases e0
      rw [Int.toNat_natCast] at hx
      have hgc := HG.out
      by_cases heq : rd l0 j = who
      · have hb : (rd l0 j == who) = true := by simpa using heq
        have HE := Aside0.mk heq
        clear heq
        go_wp2_with (go_at_call 72; refine (give1 _ who g _ (by exact hgc)).mono ?_; rintro e w' ⟨rfl, rfl⟩)
        go_ret
        exact ⟨j, rfl, .inr ⟨j, rfl, hlt, HE.out, HF.out⟩, m, rfl⟩
      · have hb : (rd l0 j == who) = false := by simpa using heq
        have HE := Aside0.mk heq
        clear heq
        go_wp2_with (go_at_call 72; refine (give1 _ who g _ (by exact hgc)).mono ?_; rintro e w' ⟨rfl, rfl⟩)
        go_roundw
        case rel => exact ⟨j + 1, by go_num, by omega, ⟨fun i hi => by
          by_cases h : i < j
          · exact HF.out i h
          · obtain rfl : i = j := by omega
            exact HE.out⟩, m, rfl⟩
        case measure => simp [intOf]; omega
    · go_wp2
      go_ret
      exact ⟨-1, rfl, .inl ⟨rfl, fun i hi => HF.out i (by omega)⟩, m, rfl⟩
def DelPost (l0 : List Int) (who : Int) (w0 w : World) (ok : Nat → Prop) (row : Option Nat) (e : Ending) (w' : World) : Prop :=
  ∃ v1, e = .returned v1 ∧ Kd.R (Kd.int .i64) 3 w' w0.heap.size ok v1 (l0.filter (fun x => !(x == who))) ∧ Below w0.heap.size w0 w' ∧ w.grownBy w' row ∧ (v1.ownBlock = row ∨ v1.ownBlock = none)

/-- Where the loop stands: i are kept, j are seen. -/
def DelInv (l0 : List Int) (who : Int) (i j : Nat) (ys : List Int) : Prop := i < j ∧ j ≤ l0.length ∧ ys.length = l0.length ∧ ys.take i = (l0.take j).filter (fun x => !(x == who)) ∧ ys.drop j = l0.drop j
theorem delInv_start {l0 : List Int} {who : Int} {i : Nat} (hi : i < l0.length) (he : l0.getD i 0 = who) (hn : ∀ q, q < i → ¬ l0.getD q 0 = who) : DelInv l0 who i (i + 1) l0 := by
  refine ⟨by omega, by omega, rfl, ?_, rfl⟩
  rw [List.take_succ_eq_append_getElem hi, List.filter_append]
  have h1 : (l0.take i).filter (fun x => !(x == who)) = l0.take i := by
    refine List.filter_eq_self.2 fun a ha => ?_
    obtain ⟨q, hq, rfl⟩ := List.mem_iff_getElem.1 ha
    have hq' : q < i := by simp at hq; omega
    have := hn q hq'
    rw [List.getD_eq_getElem?_getD, List.getElem?_eq_getElem (by omega)] at this
    simpa [List.getElem_take] using this
  rw [h1]
  rw [List.getD_eq_getElem?_getD, List.getElem?_eq_getElem hi] at he
  simp only [Option.getD_some] at he
  simp [he]
theorem delInv_at {l0 : List Int} {who : Int} {i j : Nat} {ys : List Int} (h : DelInv l0 who i j ys) (hj : j < l0.length) : rd ys j = l0[j] := by
  obtain ⟨h1, h2, h3, h4, h5⟩ := h
  unfold rd
  rw [Int.toNat_natCast, List.getD_eq_getElem?_getD]
  have e : (ys.drop j)[0]? = (l0.drop j)[0]? := by rw [h5]
  rw [List.getElem?_drop, List.getElem?_drop, Nat.add_zero, List.getElem?_eq_getElem hj] at e
  rw [e]
  rfl
theorem delInv_keep {l0 : List Int} {who : Int} {i j : Nat} {ys : List Int} (h : DelInv l0 who i j ys) (hj : j < l0.length) (hn : ¬ rd ys j = who) : DelInv l0 who (i + 1) (j + 1) (ys.set i (rd ys j)) := by
  have ha := delInv_at h hj
  obtain ⟨h1, h2, h3, h4, h5⟩ := h
  refine ⟨by omega, by omega, by rw [List.length_set, h3], ?_, ?_⟩
  · rw [List.take_succ_eq_append_getElem (by rw [List.length_set]; omega), List.getElem_set_self, List.take_set_of_le (Nat.le_refl i), h4, List.take_succ_eq_append_getElem hj, List.filter_append, ha]
    rw [ha] at hn
    congr 1
    simp [hn]
  · rw [List.drop_set_of_lt (by omega)]
    have := congrArg (List.drop 1) h5
    simpa [List.drop_drop, Nat.add_comm] using this
theorem delInv_skip {l0 : List Int} {who : Int} {i j : Nat} {ys : List Int} (h : DelInv l0 who i j ys) (hj : j < l0.length) (hn : rd ys j = who) : DelInv l0 who i (j + 1) ys := by
  have ha := delInv_at h hj
  obtain ⟨h1, h2, h3, h4, h5⟩ := h
  refine ⟨by omega, by omega, h3, ?_, ?_⟩
  · rw [h4, List.take_succ_eq_append_getElem hj, List.filter_append]
    rw [ha] at hn
    simp [hn]
  · have := congrArg (List.drop 1) h5
    simpa [List.drop_drop, Nat.add_comm] using this
theorem delInv_end {l0 : List Int} {who : Int} {i : Nat} {ys : List Int} (h : DelInv l0 who i l0.length ys) : ys.take i = l0.filter (fun x => !(x == who)) := by
  have := h.2.2.2.1
  rwa [List.take_length] at this
theorem zero3 (w : World) : (zeroValue 3).run Try.prog w = .ok (.int .i64 0) w := by kernel_rfl
def DelRel (l0 : List Int) (who : Int) (B : Nat) (ok : Nat → Prop) (g cap : Nat) (w0 w : World) (i j : Nat) (w' : World) : Prop :=
  ∃ ys, DelInv l0 who i j ys ∧ Kd.R (Kd.int .i64) 3 w' B ok (.slice (some ⟨g, 0, none⟩) l0.length cap) ys ∧ Below w0.heap.size w0 w' ∧ w.grownBy w' (some g)

set_option maxRecDepth 100000 in
set_option maxHeartbeats 4000000 in
theorem delete72 (v : Value) (l0 : List Int) (who : Int) (g : Nat) (ok : Nat → Prop) (w0 w : World) (hB : Below w0.heap.size w0 w) (ho : Kd.R (Kd.int .i64) 3 w w0.heap.size ok v l0) (hg : w.cell? ⟨g, 0, none⟩ = some (.int .i64 who)) (hne : v.ownBlock ≠ some g) :
    Calls Try.prog 71 #[v, .func (.func 72) #[] #[.pointer (some ⟨g, 0, none⟩)]] w (DelPost l0 who w0 w ok v.ownBlock) := by
  obtain ⟨A0, c0, rfl, hc0, hr0⟩ := Kd.R_reads ho
  have HO := Aside0.mk ho
  have HB := Aside0.mk hB
  have HG := Aside0.mk hg
  have HR0 := Aside0.mk hr0
  have HNE := Aside0.mk hne
  have HL : l0.length ≤ 9223372036854775807 := hr0.2.1
  clear ho hB hg hr0 hne
  go_enter Try.func71, Try.ntmps71
  go_wp2_with fail
  refine (index72 A0 c0 l0 who g _ HR0.out HG.out).mono ?_
  rintro e w1 ⟨n, rfl, hn, ⟨m, rfl⟩⟩
  have HN := Aside0.mk hn
  by_cases hneg : n = -1
  · have hb : (n == -1) = true := by simpa using hneg
    clear hn
    subst hneg
    go_wp2
    go_ret
    refine ⟨_, rfl, ?_, pw_below_drewN HB.out m, grown_drewN _ _ _, .inl rfl⟩
    have hf : l0.filter (fun x => !(x == who)) = l0 := by
      rcases HN.out with ⟨_, h⟩ | ⟨j, h, _⟩
      · refine List.filter_eq_self.2 fun a ha => ?_
        obtain ⟨q, hq, rfl⟩ := List.mem_iff_getElem.1 ha
        have := h q hq
        rw [List.getD_eq_getElem?_getD, List.getElem?_eq_getElem hq] at this
        simpa using this
      · omega
    rw [hf]
    exact HO.out
  · have hb : (n == -1) = false := by simpa using hneg
    obtain ⟨i0, rfl, hi0, he0, hl0⟩ : ∃ j : Nat, n = j ∧ j < l0.length ∧ l0.getD j 0 = who ∧ ∀ i, i < j → ¬ l0.getD i 0 = who := by
      rcases hn with ⟨h, _⟩ | h
      · exact absurd h hneg
      · exact h
    have HI := Aside0.mk (delInv_start hi0 he0 hl0)
    clear hn he0 hl0 hneg
    obtain ⟨gb, co, eo, hgb, hgl, _⟩ := Kd.R_form HO.out (by omega)
    cases eo
    go_wp2
    go_loopw [5, 6] (fun v5 v6 w' => ∃ i j : Nat, v5 = .int .i64 i ∧ v6 = .int .i64 j ∧ i < j ∧ j ≤ l0.length ∧ Aside0 (DelRel l0 who w0.heap.size ok gb c0 w0 w i j w')) (fun _ v6 _ => l0.length - (intOf v6).toNat)
    case atStart => exact ⟨i0, i0 + 1, rfl, by go_num, by omega, by omega, ⟨l0, HI.out, HO.out, pw_below_drewN HB.out m, grown_drewN _ _ _⟩⟩
    case round =>
      obtain ⟨i, j, rfl, rfl, hij, hj, HD⟩ := hrel
      obtain ⟨ys, hinv, hR, hBw, hgr⟩ := HD.out
      have hylen : ys.length = l0.length := hinv.2.2.1
      have HINV := Aside0.mk hinv
      have HRW := Aside0.mk hR
      have HBW := Aside0.mk hBw
      have HGR := Aside0.mk hgr
      have HNEG : gb ≠ g := fun e_ => HNE.out (by rw [← e_]; rfl)
      have HNE2 := Aside0.mk HNEG
      have hgc : wr.cell? ⟨g, 0, none⟩ = some (.int .i64 who) := by
        have hlt := World.block_lt_of_cell? w _ HG.out
        have := HGR.out.block g hlt (by simpa using fun e_ => HNEG e_.symm)
        have h2 := HG.out
        unfold World.cell? at h2 ⊢
        rw [this]
        exact h2
      clear HNEG hinv hR hBw hgr
      by_cases hlt : j < l0.length
      · obtain ⟨hx, hf0⟩ := Kd.R_celln 0 HRW.out (j : Int) (by omega) (by omega)
        rw [Int.toNat_natCast] at hx hf0
        obtain ⟨hxi, hfi⟩ := Kd.R_celln 0 HRW.out (i : Int) (by omega) (by omega)
        rw [Int.toNat_natCast] at hxi hfi
        by_cases heq : rd ys j = who
        · have hb : (rdOf 0 ys j == who) = true := by simpa [rdOf, rd] using heq
          have HE := Aside0.mk heq
          clear heq
          go_wp2_with (go_at_call 72; refine (give1 _ who g _ (by exact hgc)).mono ?_; rintro e w' ⟨rfl, rfl⟩)
          go_roundw
          case rel => exact ⟨i, j + 1, rfl, by go_num, by omega, by omega, ⟨ys, delInv_skip HINV.out hlt HE.out, HRW.out, HBW.out, HGR.out⟩⟩
          case measure => simp [intOf]; omega
        · have hb : (rdOf 0 ys j == who) = false := by simpa [rdOf, rd] using heq
          have HE := Aside0.mk heq
          clear heq
          have HP := Kd.R_putg HRW.out (i : Int) (rd ys j)
          rw [Int.toNat_natCast] at HP
          have HP' := Aside0.mk HP
          clear HP
          have hlt2 : i < l0.length := by omega
          go_wp2_with (first | (go_at_call 72; refine (give1 _ who g _ (by exact hgc)).mono ?_; rintro e w' ⟨rfl, rfl⟩) | ((with_reducible refine gate_store (t := 3) (p := 33) rfl ?_); refine store_event (t := 3) (p := 33) (v := ?vo) (w1 := (wr.setCell ⟨gb, i, none⟩ (.int .i64 (rd ys j)))) ?hg ?ho ?hn ?hr ?_; (case ho => rfl); (case hg => rfl); (case hn => rfl); (case hr => first | (go_simp; done) | (go_simp; rfl)); intro w7 hw; have n0_ : Aside0 (Kd.R (Kd.int .i64) 3 w7 w0.heap.size ok (.slice (some ⟨gb, 0, none⟩) l0.length c0) (ys.set i (rd ys j))) := ⟨by rw [hw]; exact HP'.out.1⟩; have n1_ : Aside0 (Below w0.heap.size w0 w7) := ⟨by rw [hw]; exact below_set HBW.out hgb⟩; have n2_ : Aside0 (w.grownBy w7 (some gb)) := ⟨by rw [hw]; exact grown_trans HGR.out HP'.out.2⟩; clear hw))
          go_roundw
          case rel => exact ⟨i + 1, j + 1, by go_num, by go_num, by omega, by omega, ⟨_, delInv_keep HINV.out hlt HE.out, n0_.out, n1_.out, n2_.out⟩⟩
          case measure => simp [intOf]; omega
      · have hjl : j = l0.length := by omega
        subst hjl
        have hk := Aside0.mk (delInv_end HINV.out)
        have hclr := Aside0.mk (clear_ints (l0.length - i) i l0.length wr ys HRW.out (by omega))
        have hrun : ∀ ty, (Builtin.clear_ #[26] ty #[.slice (some ⟨gb, i, none⟩) (l0.length - i) (c0 - i)]).run Try.prog wr = .ok (.tuple #[]) (wr.setCells gb i (List.replicate (l0.length - i) (.int .i64 0))) :=
          fun ty => Lib.run_clear_slice wr 26 3 ty (.int .i64 0) Try.underlying26 zero3 rfl rfl gb i _ _ (by omega)
            (fun q hq => by
              obtain ⟨h1, _⟩ := Kd.R_celln 0 HRW.out ((i + q : Nat) : Int) (by omega) (by omega)
              rw [Int.toNat_natCast] at h1
              rw [h1]
              rfl)
            (fun q hq => by
              obtain ⟨_, h1⟩ := Kd.R_celln 0 HRW.out ((i + q : Nat) : Int) (by omega) (by omega)
              rw [Int.toNat_natCast] at h1
              exact h1)
        have hadd : (⟨gb, 0, none⟩ : Addr).add i = ⟨gb, i, none⟩ := add_plain gb i
        have hci : ¬ c0 = i := by omega
        obtain ⟨w8, hw8⟩ : ∃ w8, w8 = wr.setCells gb i (List.replicate (l0.length - i) (.int .i64 0)) := ⟨_, rfl⟩
        rw [← hw8] at hrun hclr
        clear hw8
        go_wp2_with (first | simp only [hrun] | fail)
        go_ret
        obtain ⟨hR8, hG8⟩ := hclr.out
        have hT := Kd.R_take (m := i) hR8 (by rw [List.length_append, List.length_take, List.length_replicate]; omega)
        rw [List.take_append_of_le_length (by rw [List.length_take]; omega), List.take_take, Nat.min_self, hk.out] at hT
        exact ⟨_, rfl, hT, pw_below_grown HBW.out (some gb) HBW.out.size hG8 (fun k e_ => by injection e_ with e_; omega), grown_trans HGR.out hG8, .inl rfl⟩
def giveOf (h : Int) (q : List Int) (who : Int) : Int × List Int × Int :=
  if h = who then (match q.filter (fun x => !(x == who)) with | [] => (0, [], 0) | y :: ys => (y, ys, 0)) else (h, q.filter (fun x => !(x == who)), 0)
def token_Give.f (k : Nat) (a0_0 : Int) (l0_1 : List Int) (a1 : Int) : Option (Int × List Int × Int) :=
  (token_May.f k a0_0 l0_1).bind fun m => if m = true then ((token_viewer.f a1).bind fun v => if v = true then ((token_own.f a0_0 l0_1).bind fun o => some (giveOf o.1 o.2 a1)) else some (0, [], 1)) else some (0, [], 1)
theorem token_Give.mono : ∀ a0 a1 a2 k, LeO (token_Give.f k a0 a1 a2) (token_Give.f (k + 1) a0 a1 a2) := by
  intro a0 a1 a2 k
  unfold token_Give.f
  exact LeO.bind (token_May.mono _ _ _) (fun _ => LeO.refl _)
def GivePost (r1 : Int) (r2 : List Int) (r3 : Int) (w : World) (e : Ending) (w' : World) : Prop :=
  ∃ v1_ : Value, e = .returned (.tuple #[.agg #[.int .i64 r1, v1_], .int .i64 r3]) ∧ Kd.Q (Kd.int .i64) 3 w' w.heap.size (fun _ => True) v1_ r2 ∧ Below w.heap.size w w'
/-- Where Give stands: its three variables, all new. -/
def GSt (g1 g2 g3 : Nat) (w W : World) (h : Int) (v : Value) (who : Int) : Prop :=
  W.heap[g1]? = some (.cells #[.int .i64 h, v] 43 (0, 0)) ∧ W.heap[g2]? = some (.cells #[.int .i64 who] 3 (0, 0)) ∧ W.heap[g3]? = some (.cells #[.int .i64 0, .slice none 0 0] 43 (0, 0)) ∧ (g1 ≠ g2 ∧ g1 ≠ g3 ∧ g2 ≠ g3) ∧ (w.heap.size ≤ g1 ∧ w.heap.size ≤ g2 ∧ w.heap.size ≤ g3) ∧ Below w.heap.size w W
theorem GSt.step {g1 g2 g3 : Nat} {w W W1 : World} {h : Int} {v : Value} {who : Int} (s : GSt g1 g2 g3 w W h v who) (hb : Below W.heap.size W W1) : GSt g1 g2 g3 w W1 h v who :=
  ⟨blk_below s.1 hb, blk_below s.2.1 hb, blk_below s.2.2.1 hb, s.2.2.2.1, s.2.2.2.2.1, below_step s.2.2.2.2.2 hb⟩
theorem GSt.cells {g1 g2 g3 : Nat} {w W : World} {h : Int} {v : Value} {who : Int} (s : GSt g1 g2 g3 w W h v who) :
    (W.cell? ⟨g1, 0, none⟩ = some (.int .i64 h) ∧ W.cell? ⟨g1, 1, none⟩ = some v ∧ W.cell? ⟨g2, 0, none⟩ = some (.int .i64 who) ∧ W.cell? ⟨g3, 0, none⟩ = some (.int .i64 0) ∧ W.cell? ⟨g3, 1, none⟩ = some (.slice none 0 0)) ∧
      (W.frozen? ⟨g1, 0, none⟩ = false ∧ W.frozen? ⟨g1, 1, none⟩ = false ∧ W.frozen? ⟨g3, 0, none⟩ = false ∧ W.frozen? ⟨g3, 1, none⟩ = false) :=
  ⟨⟨(blk_cell s.1 0).trans rfl, (blk_cell s.1 1).trans rfl, (blk_cell s.2.1 0).trans rfl, (blk_cell s.2.2.1 0).trans rfl, (blk_cell s.2.2.1 1).trans rfl⟩, blk_frozen s.1 0, blk_frozen s.1 1, blk_frozen s.2.2.1 0, blk_frozen s.2.2.1 1⟩
theorem GSt.put0 {g1 g2 g3 : Nat} {w W : World} {h : Int} {v : Value} {who : Int} (s : GSt g1 g2 g3 w W h v who) (h' : Int) : GSt g1 g2 g3 w (W.setCell ⟨g1, 0, none⟩ (.int .i64 h')) h' v who :=
  ⟨blk_put (cs := #[.int .i64 h, v]) s.1 0 _ rfl, blk_far s.2.1 s.2.2.2.1.1.symm _, blk_far s.2.2.1 s.2.2.2.1.2.1.symm _, s.2.2.2.1, s.2.2.2.2.1, below_set s.2.2.2.2.2 s.2.2.2.2.1.1⟩
theorem GSt.put1 {g1 g2 g3 : Nat} {w W : World} {h : Int} {v : Value} {who : Int} (s : GSt g1 g2 g3 w W h v who) (v' : Value) : GSt g1 g2 g3 w (W.setCell ⟨g1, 1, none⟩ v') h v' who :=
  ⟨blk_put (cs := #[.int .i64 h, v]) s.1 1 _ rfl, blk_far s.2.1 s.2.2.2.1.1.symm _, blk_far s.2.2.1 s.2.2.2.1.2.1.symm _, s.2.2.2.1, s.2.2.2.2.1, below_set s.2.2.2.2.2 s.2.2.2.2.1.1⟩
theorem GSt.grown {g1 g2 g3 : Nat} {w W W1 : World} {h : Int} {v : Value} {who : Int} (s : GSt g1 g2 g3 w W h v who) {row : Option Nat} (hg : W.grownBy W1 row) (h1 : some g1 ≠ row) (h2 : some g2 ≠ row) (h3 : some g3 ≠ row) (hb : Below w.heap.size w W1) : GSt g1 g2 g3 w W1 h v who :=
  ⟨blk_grown s.1 hg h1, blk_grown s.2.1 hg h2, blk_grown s.2.2.1 hg h3, s.2.2.2.1, s.2.2.2.2.1, hb⟩
/-- A row of whole numbers, its block none of the three. -/
theorem R_put1 {W : World} {B : Nat} {ok : Nat → Prop} {v : Value} {xs : List Int} {g i : Nat} (h : Kd.R (Kd.int .i64) 3 W B ok v xs) (hne : v.ownBlock ≠ some g) (u : Value) : Kd.R (Kd.int .i64) 3 (W.setCell ⟨g, i, none⟩ u) B ok v xs :=
  Kd.R_mono (Kd.R_far (p := ⟨g, i, none⟩) (Kd.R_mono (Kd.R_tight2 rfl h) (fun k hk => (⟨hk.2, fun e_ => hne (by rw [← hk.1, e_])⟩ : ok k ∧ k ≠ g))) (fun _ hk => hk.2) u) (fun _ hk => hk.1)
theorem Q_put1 {W : World} {B : Nat} {ok : Nat → Prop} {v : Value} {xs : List Int} {g i : Nat} (h : Kd.Q (Kd.int .i64) 3 W B ok v xs) (hne : v.ownBlock ≠ some g) (u : Value) : Kd.Q (Kd.int .i64) 3 (W.setCell ⟨g, i, none⟩ u) B ok v xs :=
  Kd.Q_mono (Kd.Q_far (p := ⟨g, i, none⟩) (Kd.Q_far1 h rfl hne.symm) (fun _ hk => hk.2) u) (fun _ hk => hk.1)
set_option maxRecDepth 100000 in
set_option maxHeartbeats 4000000 in
theorem token_Give.calls0 (k : Nat) (a0_0 : Int) (A0_1 : Option Addr) (c0_1 : Nat) (l0_1 : List Int) (a1 : Int) (r1 : Int) (r2 : List Int) (r3 : Int) (w : World) (hr0_1 : Kd.C (Kd.int .i64) w A0_1 l0_1.length l0_1) (hc0_1 : l0_1.length ≤ c0_1) (h : token_Give.f k a0_0 l0_1 a1 = some (r1, r2, r3)) :
    Calls Try.prog 23 #[.agg #[.int .i64 a0_0, .slice A0_1 l0_1.length c0_1], .int .i64 a1] w (GivePost r1 r2 r3 w) := by
  have hu43 := Try.underlying43
  have hmf : ∀ (fn : Fn) (first cap : Array Value) (w : World), (Instr.makeFunc fn first cap).run Try.prog w = .ok (.func fn first cap) w := fun _ _ _ _ => rfl
  have HR := Aside0.mk hr0_1
  have HC := Aside0.mk hc0_1
  clear hr0_1 hc0_1
  obtain ⟨m, hm, H⟩ := Option.bind_eq_some_iff.mp h
  have HM := Aside0.mk hm
  have HH := Aside0.mk H
  clear h hm H
  go_enter Try.func23, Try.ntmps23
  go_upto_region 1 with (first | ((with_reducible refine gate_dst (N := 2) rfl ?_); refine box_event ?hg (N := 2) ?hd (cs := #[.int .i64 a0_0, .slice A0_1 l0_1.length c0_1]) (t := 43) ?hr ?_; (case hd => rfl); (case hg => rfl); (case hr => first | (go_simp; done) | (go_simp; rfl)); intro gb1 hg1 w4 hbox1 hb1; have G1 := Aside0.mk hg1; have X1 := Aside0.mk hbox1; have B1 := Aside0.mk hb1; clear hg1 hbox1 hb1) | ((with_reducible refine gate_dst (N := 3) rfl ?_); refine box_event ?hg (N := 3) ?hd (cs := #[.int .i64 a1]) (t := 3) ?hr ?_; (case hd => rfl); (case hg => rfl); (case hr => first | (go_simp; done) | (go_simp; rfl)); intro gb2 hg2 w5 hbox2 hb2; have G2 := Aside0.mk hg2; have X2 := Aside0.mk hbox2; have B2 := Aside0.mk hb2; clear hg2 hbox2 hb2) | ((with_reducible refine gate_dst (N := 4) rfl ?_); refine box_event ?hg (N := 4) ?hd (cs := #[.int .i64 0, .slice none 0 0]) (t := 43) ?hr ?_; (case hd => rfl); (case hg => rfl); (case hr => first | (go_simp; done) | (go_simp; rfl)); intro gb3 hg3 w6 hbox3 hb3; have G3 := Aside0.mk hg3; have X3 := Aside0.mk hbox3; have B3 := Aside0.mk hb3; clear hg3 hbox3 hb3))
  (try simp only [Act.put, List.setIfInBounds_toArray, List.set_cons_zero, List.set_cons_succ])
  have HS : Aside0 (GSt gb1 gb2 gb3 w w6 a0_0 (.slice A0_1 l0_1.length c0_1) a1) := by
    have s1 := blk_lt X1.out
    have s2 := blk_lt X2.out
    have hb45 := below_step B1.out B2.out
    have e1 := G1.out
    have e2 := G2.out
    have e3 := G3.out
    have z1 := B1.out.size
    have z2 := B2.out.size
    exact ⟨⟨blk_below (blk_below X1.out B2.out) B3.out, blk_below X2.out B3.out, X3.out, ⟨by omega, by omega, by omega⟩, ⟨by omega, by omega, by omega⟩, below_step hb45 B3.out⟩⟩
  clear G1 X1 B1 G2 X2 B2 G3 X3 B3
  obtain ⟨⟨hc1, hc2, hc3, hc4, hc5⟩, hf1, hf2, hf3, hf4⟩ := HS.out.cells
  have hn12 := HS.out.2.2.2.1.1
  have hn13 := HS.out.2.2.2.1.2.1
  have hn23 := HS.out.2.2.2.1.2.2
  have hn21 := hn12.symm
  have hn31 := hn13.symm
  have hn32 := hn23.symm
  cases m with
  | false =>
    have e : (some (0, ([] : List Int), 1)) = some (r1, r2, r3) := HH.out
    simp only [Option.some.injEq, Prod.mk.injEq] at e
    obtain ⟨rfl, rfl, rfl⟩ := e
    go_wp2_with (go_at_call 67; refine (token_May.calls k a0_0 _ _ l0_1 false _ ?s1 ?s2 HM.out).mono ?_; (case s1 => exact Kd.C_below HR.out HS.out.2.2.2.2.2); (case s2 => exact HC.out); rintro e w7 ⟨rfl, hb⟩; have HS7 := Aside0.mk (HS.out.step hb); clear hb; obtain ⟨⟨hd1, hd2, hd3, hd4, hd5⟩, hh1, hh2, hh3, hh4⟩ := HS7.out.cells)
    refine bodyPost_ret (results_ct rfl _ _ gb3 43 #[.int .i64 0, .slice none 0 0] (0, 0) _ rfl (by refine blk_put (cs := #[.int .i64 0, .slice none 0 0]) ?_ 1 _ rfl; refine blk_put (cs := #[.int .i64 0, .slice none 0 0]) ?_ 0 _ rfl; exact HS7.out.2.2.1) Try.underlying43 rfl (by kernel_rfl)) rfl ?_
    exact ⟨_, rfl, Kd.Q_nil _ _ _ _ _, below_set (below_set HS7.out.2.2.2.2.2 HS7.out.2.2.2.2.1.2.2) HS7.out.2.2.2.2.1.2.2⟩
  | true =>
    have H := HH.out
    rw [if_pos rfl] at H
    obtain ⟨vw, hv, H⟩ := Option.bind_eq_some_iff.mp H
    have HV := Aside0.mk hv
    clear hv HH
    cases vw with
    | false =>
      rw [if_neg (by decide)] at H
      simp only [Option.some.injEq, Prod.mk.injEq] at H
      obtain ⟨rfl, rfl, rfl⟩ := H
      go_wp2_with (first | (go_at_call 67; refine (token_May.calls k a0_0 _ _ l0_1 true _ ?s1 ?s2 HM.out).mono ?_; (case s1 => exact Kd.C_below HR.out HS.out.2.2.2.2.2); (case s2 => exact HC.out); rintro e w7 ⟨rfl, hb⟩; have HS7 := Aside0.mk (HS.out.step hb); clear hb; obtain ⟨⟨hd1, hd2, hd3, hd4, hd5⟩, hh1, hh2, hh3, hh4⟩ := HS7.out.cells) | (go_at_call 68; refine (token_viewer.calls a1 false _ HV.out).mono ?_; rintro e w' ⟨rfl, ⟨nd, rfl⟩⟩))
      refine bodyPost_ret (results_ct rfl _ _ gb3 43 #[.int .i64 0, .slice none 0 0] (0, 0) _ rfl (by (with_reducible repeat (first | refine blk_drewN ?_ _ | refine blk_drew ?_ | refine blk_alloc ?_ _)); refine blk_put (cs := #[.int .i64 0, .slice none 0 0]) ?_ 1 _ rfl; refine blk_put (cs := #[.int .i64 0, .slice none 0 0]) ?_ 0 _ rfl; exact HS7.out.2.2.1) Try.underlying43 rfl (by kernel_rfl)) rfl ?_
      exact ⟨_, rfl, Kd.Q_nil _ _ _ _ _, pw_below_drewN (below_set (below_set HS7.out.2.2.2.2.2 HS7.out.2.2.2.2.1.2.2) HS7.out.2.2.2.2.1.2.2) _⟩
    | true =>
      rw [if_pos rfl] at H
      obtain ⟨⟨o1, o2⟩, hw, H⟩ := Option.bind_eq_some_iff.mp H
      have HW := Aside0.mk hw
      have HF := Aside0.mk H
      clear hw H
      go_wp2_with (first | (go_at_call 67; refine (token_May.calls k a0_0 _ _ l0_1 true _ ?s1 ?s2 HM.out).mono ?_; (case s1 => exact Kd.C_below HR.out HS.out.2.2.2.2.2); (case s2 => exact HC.out); rintro e w7 ⟨rfl, hb⟩; have HS7 := Aside0.mk (HS.out.step hb); clear hb; obtain ⟨⟨hd1, hd2, hd3, hd4, hd5⟩, hh1, hh2, hh3, hh4⟩ := HS7.out.cells) | (go_at_call 68; refine (token_viewer.calls a1 true _ HV.out).mono ?_; rintro e w' ⟨rfl, ⟨nd, rfl⟩⟩) | (go_at_call 69; refine (token_own.calls a0_0 _ _ l0_1 o1 o2 _ ?s1 ?s2 HW.out).mono ?_; (case s1 => exact Kd.C_drewN (Kd.C_below HR.out HS7.out.2.2.2.2.2) _); (case s2 => exact HC.out); rintro e w9 ⟨v1, rfl, ho, hb⟩; have HS9 := Aside0.mk ((HS7.out.step (pw_below_drewN (Below.refl _ _) nd)).step hb); obtain ⟨Ao, co, eo⟩ := Kd.R_slice ho; subst eo; have HO9 := Aside0.mk ho; clear hb ho; obtain ⟨⟨he1, he2, he3, he4, he5⟩, hi1, hi2, hi3, hi4⟩ := HS9.out.cells))
      have HS10 := Aside0.mk ((HS9.out.put0 o1).put1 (.slice Ao o2.length co))
      have HX : ∀ g, g = gb1 ∨ g = gb2 ∨ g = gb3 → (Value.slice Ao o2.length co).ownBlock ≠ some g := fun g hg e_ => by
        have h1 := Kd.R_base HO9.out g e_
        have h2 : g < (w7.drewN nd).heap.size := by
          rcases hg with rfl | rfl | rfl
          · exact blk_lt HS7.out.1
          · exact blk_lt HS7.out.2.1
          · exact blk_lt HS7.out.2.2.1
        omega
      have HXA := Aside0.mk HX
      clear HX
      have HO10 := Aside0.mk (Kd.R_lower (R_put1 (g := gb1) (i := 1) (R_put1 (g := gb1) (i := 0) HO9.out (HXA.out gb1 (.inl rfl)) (.int .i64 o1)) (HXA.out gb1 (.inl rfl)) (.slice Ao o2.length co)) (show w.heap.size ≤ (w7.drewN nd).heap.size from HS7.out.2.2.2.2.2.size))
      obtain ⟨⟨hj1, hj2, hj3, hj4, hj5⟩, hk1, hk2, hk3, hk4⟩ := HS10.out.cells
      refine (delete72 _ o2 a1 gb2 (fun _ => True) w _ HS10.out.2.2.2.2.2 HO10.out hj3 (HXA.out gb2 (.inr (.inl rfl)))).mono ?_
      rintro e w11 ⟨v2, rfl, ho2, hb2, hg2, hrow⟩
      obtain ⟨q2, hq2⟩ : ∃ q, q = o2.filter (fun x => !(x == a1)) := ⟨_, rfl⟩
      rw [← hq2] at ho2
      have HF2 : Aside0 (some (if o1 = a1 then (match q2 with | [] => ((0 : Int), ([] : List Int), (0 : Int)) | y :: ys => (y, ys, 0)) else (o1, q2, 0)) = some (r1, r2, r3)) := ⟨by rw [hq2]; exact HF.out⟩
      have HS11 := Aside0.mk (HS10.out.grown hg2 (fun e_ => HXA.out gb1 (.inl rfl) e_.symm) (fun e_ => HXA.out gb2 (.inr (.inl rfl)) e_.symm) (fun e_ => HXA.out gb3 (.inr (.inr rfl)) e_.symm) hb2)
      obtain ⟨A2, c2, e2⟩ := Kd.R_slice ho2
      subst e2
      have HX2 : Aside0 (∀ g, g = gb1 ∨ g = gb2 ∨ g = gb3 → (Value.slice A2 q2.length c2).ownBlock ≠ some g) := ⟨fun g hg e_ => by
        rcases hrow with h | h
        · rw [h] at e_
          exact HXA.out g hg e_
        · rw [h] at e_
          cases e_⟩
      have HO11 := Aside0.mk ho2
      clear ho2 hb2 hg2 hrow hq2 HF HO10 HS10 HO9 HS9 HS7 hd1 hd2 hd3 hd4 hd5 hh1 hh2 hh3 hh4 he1 he2 he3 he4 he5 hi1 hi2 hi3 hi4 hj1 hj2 hj3 hj4 hj5 hk1 hk2 hk3 hk4 hc1 hc2 hc3 hc4 hc5 hf1 hf2 hf3 hf4
      obtain ⟨⟨hl1, hl2, hl3, hl4, hl5⟩, hm1, hm2, hm3, hm4⟩ := HS11.out.cells
      by_cases hoa : o1 = a1
      · have hoab : (o1 == a1) = true := by simpa using hoa
        have HF3 := Aside0.mk (by have e := HF2.out; rw [if_pos hoa] at e; exact e)
        clear hoa HF2
        cases q2 with
        | nil =>
          have e := HF3.out
          simp only [Option.some.injEq, Prod.mk.injEq] at e
          obtain ⟨rfl, rfl, rfl⟩ := e
          go_wp2
          have HS12 := (HS11.out.put1 (.slice A2 0 c2)).put0 0
          refine bodyPost_ret (results_ct rfl _ _ gb3 43 #[.int .i64 0, .slice A2 0 c2] (0, 0) _ rfl (by refine blk_put (cs := #[.int .i64 0, .slice none 0 0]) ?_ 1 _ rfl; refine blk_put (cs := #[.int .i64 0, .slice none 0 0]) ?_ 0 _ rfl; exact HS12.2.2.1) Try.underlying43 rfl (by kernel_rfl)) rfl ?_
          exact ⟨_, rfl, Kd.Q_of_R (R_put1 (R_put1 (R_put1 (R_put1 HO11.out (HX2.out gb1 (.inl rfl)) _) (HX2.out gb1 (.inl rfl)) _) (HX2.out gb3 (.inr (.inr rfl))) _) (HX2.out gb3 (.inr (.inr rfl))) _), below_set (below_set HS12.2.2.2.2.2 HS12.2.2.2.2.1.2.2) HS12.2.2.2.2.1.2.2⟩
        | cons y ys =>
          have e := HF3.out
          simp only [Option.some.injEq, Prod.mk.injEq] at e
          obtain ⟨rfl, rfl, rfl⟩ := e
          obtain ⟨gq, cq, eq_, hgq, hgl, _⟩ := Kd.R_form HO11.out (by simp)
          cases eq_
          have hcell := (Kd.R_celln 0 HO11.out (0 : Int) (by omega) (by simp)).1
          have hne1 : ¬ gq = gb1 := fun e_ => HX2.out gb1 (.inl rfl) (by rw [← e_]; rfl)
          have hne2 : ¬ gb1 = gq := fun e_ => hne1 e_.symm
          have hcap : ys.length + 1 ≤ c2 := by obtain ⟨_, _, e_, h_, _⟩ := Kd.R_reads HO11.out; cases e_; simpa using h_
          simp only [List.length_cons] at hl2 HO11 HX2 ⊢
          go_wp2
          generalize hw12 : (w11.setCell ⟨gb1, 1, none⟩ (.slice (some ⟨gq, 0, none⟩) (ys.length + 1) c2)).setCell ⟨gb1, 0, none⟩ (.int .i64 0) = w12
          have HS12 : Aside0 (GSt gb1 gb2 gb3 w w12 0 (.slice (some ⟨gq, 0, none⟩) (ys.length + 1) c2) a1) := ⟨by rw [← hw12]; exact (HS11.out.put1 _).put0 0⟩
          have HO12 : Aside0 (Kd.R (Kd.int .i64) 3 w12 w.heap.size (fun _ => True) (.slice (some ⟨gq, 0, none⟩) (ys.length + 1) c2) (y :: ys)) := ⟨by rw [← hw12]; exact R_put1 (R_put1 HO11.out (HX2.out gb1 (.inl rfl)) _) (HX2.out gb1 (.inl rfl)) _⟩
          clear hw12 hl1 hl2 hl3 hl4 hl5 hm1 hm2 hm3 hm4 HS11 HO11 hcell
          obtain ⟨⟨hl1, hl2, hl3, hl4, hl5⟩, hm1, hm2, hm3, hm4⟩ := HS12.out.cells
          have hcell : w12.cell? ⟨gq, 0, none⟩ = some (.int .i64 y) := (Kd.R_celln 0 HO12.out (0 : Int) (by omega) (by omega)).1
          have hadd : (⟨gq, 0, none⟩ : Addr).add 1 = ⟨gq, 1, none⟩ := add_plain gq 1
          have HQ := Aside0.mk (Kd.Q_drop (k := 1) (Kd.Q_of_R HO12.out) (by simp))
          have h1le : (1 : Int) ≤ (ys.length : Int) + 1 := by omega
          by_cases hc21 : c2 = 1
          · have hy0 : ys = [] := List.eq_nil_of_length_eq_zero (by omega)
            subst hy0
            subst hc21
            go_region
            go_wp2
            have HS13 := (HS12.out.put0 y).put1 (.slice (some ⟨gq, 0, none⟩) 0 0)
            refine bodyPost_ret (results_ct rfl _ _ gb3 43 #[.int .i64 y, .slice (some ⟨gq, 0, none⟩) 0 0] (0, 0) _ rfl (by (with_reducible repeat (first | refine blk_drewN ?_ _ | refine blk_drew ?_ | refine blk_alloc ?_ _)); refine blk_put (cs := #[.int .i64 y, .slice none 0 0]) ?_ 1 _ rfl; refine blk_put (cs := #[.int .i64 0, .slice none 0 0]) ?_ 0 _ rfl; exact HS13.2.2.1) Try.underlying43 rfl (by kernel_rfl)) rfl ?_
            exact ⟨_, rfl, Q_put1 (Q_put1 (Q_put1 (Q_put1 HQ.out (HX2.out gb1 (.inl rfl)) _) (HX2.out gb1 (.inl rfl)) _) (HX2.out gb3 (.inr (.inr rfl))) _) (HX2.out gb3 (.inr (.inr rfl))) _, below_drew (below_set (below_set HS13.2.2.2.2.2 HS13.2.2.2.2.1.2.2) HS13.2.2.2.2.1.2.2)⟩
          · have HQ2 : Aside0 (Kd.Q (Kd.int .i64) 3 w12 w.heap.size (fun _ => True) (.slice (some ⟨gq, 1, none⟩) ys.length (c2 - 1)) ys) := ⟨by have := HQ.out; rw [if_neg hc21] at this; exact this⟩
            go_region
            generalize hw13 : ((w12.setCell ⟨gb1, 0, none⟩ (.int .i64 y)).setCell ⟨gb1, 1, none⟩ (.slice (some ⟨gq, 1, none⟩) ys.length (c2 - 1))).drew = w13
            have HS13 : Aside0 (GSt gb1 gb2 gb3 w w13 y (.slice (some ⟨gq, 1, none⟩) ys.length (c2 - 1)) a1) := ⟨by rw [← hw13]; exact ((HS12.out.put0 y).put1 _).step (pw_below_drewN (Below.refl _ _) 1)⟩
            have HQ13 : Aside0 (Kd.Q (Kd.int .i64) 3 w13 w.heap.size (fun _ => True) (.slice (some ⟨gq, 1, none⟩) ys.length (c2 - 1)) ys) := ⟨by rw [← hw13]; exact Q_put1 (Q_put1 HQ2.out (HX2.out gb1 (.inl rfl)) _) (HX2.out gb1 (.inl rfl)) _⟩
            clear hw13 hl1 hl2 hl3 hl4 hl5 hm1 hm2 hm3 hm4 hcell hadd hcap h1le hc21 HQ
            obtain ⟨⟨hl1, hl2, hl3, hl4, hl5⟩, hm1, hm2, hm3, hm4⟩ := HS13.out.cells
            go_wp2
            refine bodyPost_ret (results_ct rfl _ _ gb3 43 #[.int .i64 y, .slice (some ⟨gq, 1, none⟩) ys.length (c2 - 1)] (0, 0) _ rfl (by (with_reducible repeat (first | refine blk_drewN ?_ _ | refine blk_drew ?_ | refine blk_alloc ?_ _)); refine blk_put (cs := #[.int .i64 y, .slice none 0 0]) ?_ 1 _ rfl; refine blk_put (cs := #[.int .i64 0, .slice none 0 0]) ?_ 0 _ rfl; exact HS13.out.2.2.1) Try.underlying43 rfl (by kernel_rfl)) rfl ?_
            exact ⟨_, rfl, Q_put1 (Q_put1 HQ13.out (HX2.out gb3 (.inr (.inr rfl))) _) (HX2.out gb3 (.inr (.inr rfl))) _, below_set (below_set HS13.out.2.2.2.2.2 HS13.out.2.2.2.2.1.2.2) HS13.out.2.2.2.2.1.2.2⟩
      · have hoab : (o1 == a1) = false := by simpa using hoa
        have e := HF2.out
        rw [if_neg hoa] at e
        simp only [Option.some.injEq, Prod.mk.injEq] at e
        obtain ⟨rfl, rfl, rfl⟩ := e
        clear hoa
        go_wp2
        have HS12 := HS11.out.put1 (.slice A2 q2.length c2)
        refine bodyPost_ret (results_ct rfl _ _ gb3 43 #[.int .i64 o1, .slice A2 q2.length c2] (0, 0) _ rfl (by refine blk_put (cs := #[.int .i64 o1, .slice none 0 0]) ?_ 1 _ rfl; refine blk_put (cs := #[.int .i64 0, .slice none 0 0]) ?_ 0 _ rfl; exact HS12.2.2.1) Try.underlying43 rfl (by kernel_rfl)) rfl ?_
        exact ⟨_, rfl, Kd.Q_of_R (R_put1 (R_put1 (R_put1 HO11.out (HX2.out gb1 (.inl rfl)) _) (HX2.out gb3 (.inr (.inr rfl))) _) (HX2.out gb3 (.inr (.inr rfl))) _), below_set (below_set HS12.2.2.2.2.2 HS12.2.2.2.2.1.2.2) HS12.2.2.2.2.1.2.2⟩
theorem token_Give.calls (k : Nat) (a0_0 : Int) (A0_1 : Option Addr) (c0_1 : Nat) (l0_1 : List Int) (a1 : Int) (r1 : Int) (r2 : List Int) (r3 : Int) (w : World) (hr0_1 : Kd.C (Kd.int .i64) w A0_1 l0_1.length l0_1) (hc0_1 : l0_1.length ≤ c0_1) (h : token_Give.f k a0_0 l0_1 a1 = some (r1, r2, r3)) :
    Calls Try.prog 23 #[.agg #[.int .i64 a0_0, .slice A0_1 l0_1.length c0_1], .int .i64 a1] w fun e w' => ∃ v1_ : Value, e = .returned (.tuple #[.agg #[.int .i64 r1, v1_], .int .i64 r3]) ∧ Kd.Q (Kd.int .i64) 3 w' w.heap.size (fun _ => True) v1_ r2 ∧ Below w.heap.size w w' :=
  token_Give.calls0 k a0_0 A0_1 c0_1 l0_1 a1 r1 r2 r3 w hr0_1 hc0_1 h

/-! ### beaconlaw21_wakes: function 24 -/
def beaconlaw21_wakes.f (k : Nat)  : Option (Bool) := (token_Ask.f k 0 ([] : List Int) 1).bind fun bt205 => ((token_Ask.f k bt205.1 bt205.2.1 2).bind fun bt211 => ((token_Give.f k bt211.1 bt211.2.1 1).bind fun bt216 => ((beaconlaw21_num.f bt205.2.2).bind fun t221 => (if t221 = 0 then ((beaconlaw21_num.f bt211.2.2).bind fun t222 => (if t222 = 0 then ((beaconlaw21_num.f bt216.2.2).bind fun t223 => (if t223 = 0 then (some (bt216.1 == 2)) else (some false))) else (some false))) else (some false)))))
theorem beaconlaw21_wakes.mono : ∀ k, LeO (beaconlaw21_wakes.f k ) (beaconlaw21_wakes.f (k + 1) ) := by
  intro  k
  unfold beaconlaw21_wakes.f
  repeat' first
      | (with_reducible exact token_Ask.mono _ _ _ _)
      | (with_reducible exact token_Give.mono _ _ _ _)
      | (with_reducible exact LeO.refl _)
      | (with_reducible exact LeO.none _)
      | (with_reducible refine LeO.ite ?_ ?_)
      | (with_reducible refine LeO.bind ?_ (fun _ => ?_))
      | exact token_Ask.mono _ _ _ _
      | exact token_Give.mono _ _ _ _
      | exact LeO.none _
      | refine LeO.ite ?_ ?_
      | refine LeO.bind ?_ (fun _ => ?_)
set_option maxHeartbeats 8000000 in
set_option maxRecDepth 100000 in
theorem beaconlaw21_wakes.calls (k : Nat)  (r : Bool) (w : World) (h : beaconlaw21_wakes.f k  = some r) :
    Calls Try.prog 24 #[] w fun e w' => e = .returned (.bool r) ∧ Below w.heap.size w w' := by
  have hu43 := Try.underlying43
  have HB := Aside0.mk (Below.refl w.heap.size w)
  have H : ((token_Ask.f k 0 ([] : List Int) 1).bind fun bt205 => ((token_Ask.f k bt205.1 bt205.2.1 2).bind fun bt211 => ((token_Give.f k bt211.1 bt211.2.1 1).bind fun bt216 => ((beaconlaw21_num.f bt205.2.2).bind fun t221 => (if t221 = 0 then ((beaconlaw21_num.f bt211.2.2).bind fun t222 => (if t222 = 0 then ((beaconlaw21_num.f bt216.2.2).bind fun t223 => (if t223 = 0 then (some (bt216.1 == 2)) else (some false))) else (some false))) else (some false)))))) = some r := h
  clear h
  replace H := Option.bind_eq_some_iff.mp H
  obtain ⟨⟨t205, t206, t209⟩, A10, H⟩ := H
  replace H : ((token_Ask.f k t205 t206 2).bind fun bt211 => ((token_Give.f k bt211.1 bt211.2.1 1).bind fun bt216 => ((beaconlaw21_num.f t209).bind fun t221 => (if t221 = 0 then ((beaconlaw21_num.f bt211.2.2).bind fun t222 => (if t222 = 0 then ((beaconlaw21_num.f bt216.2.2).bind fun t223 => (if t223 = 0 then (some (bt216.1 == 2)) else (some false))) else (some false))) else (some false))))) = some r := H
  have A1 := Aside0.mk A10
  clear A10
  replace H := Option.bind_eq_some_iff.mp H
  obtain ⟨⟨t211, t212, t215⟩, A20, H⟩ := H
  replace H : ((token_Give.f k t211 t212 1).bind fun bt216 => ((beaconlaw21_num.f t209).bind fun t221 => (if t221 = 0 then ((beaconlaw21_num.f t215).bind fun t222 => (if t222 = 0 then ((beaconlaw21_num.f bt216.2.2).bind fun t223 => (if t223 = 0 then (some (bt216.1 == 2)) else (some false))) else (some false))) else (some false)))) = some r := H
  have A2 := Aside0.mk A20
  clear A20
  replace H := Option.bind_eq_some_iff.mp H
  obtain ⟨⟨t216, t217, t220⟩, A30, H⟩ := H
  replace H : ((beaconlaw21_num.f t209).bind fun t221 => (if t221 = 0 then ((beaconlaw21_num.f t215).bind fun t222 => (if t222 = 0 then ((beaconlaw21_num.f t220).bind fun t223 => (if t223 = 0 then (some (t216 == 2)) else (some false))) else (some false))) else (some false))) = some r := H
  have A3 := Aside0.mk A30
  clear A30
  replace H := Option.bind_eq_some_iff.mp H
  obtain ⟨t221, A40, H⟩ := H
  replace H : (if t221 = 0 then ((beaconlaw21_num.f t215).bind fun t222 => (if t222 = 0 then ((beaconlaw21_num.f t220).bind fun t223 => (if t223 = 0 then (some (t216 == 2)) else (some false))) else (some false))) else (some false)) = some r := H
  have A4 := Aside0.mk A40
  clear A40
  by_cases c5 : t221 = 0
  · rw [if_pos c5] at H
    have c5b0 : (t221 == 0) = true := beq_iff_eq.mpr c5
    have c5b1 : (t221 != 0) = false := bne_eq_false_iff_eq.mpr c5
    clear c5
    replace H := Option.bind_eq_some_iff.mp H
    obtain ⟨t222, A60, H⟩ := H
    replace H : (if t222 = 0 then ((beaconlaw21_num.f t220).bind fun t223 => (if t223 = 0 then (some (t216 == 2)) else (some false))) else (some false)) = some r := H
    have A6 := Aside0.mk A60
    clear A60
    by_cases c7 : t222 = 0
    · rw [if_pos c7] at H
      have c7b0 : (t222 == 0) = true := beq_iff_eq.mpr c7
      have c7b1 : (t222 != 0) = false := bne_eq_false_iff_eq.mpr c7
      clear c7
      replace H := Option.bind_eq_some_iff.mp H
      obtain ⟨t223, A80, H⟩ := H
      replace H : (if t223 = 0 then (some (t216 == 2)) else (some false)) = some r := H
      have A8 := Aside0.mk A80
      clear A80
      by_cases c9 : t223 = 0
      · rw [if_pos c9] at H
        have c9b0 : (t223 == 0) = true := beq_iff_eq.mpr c9
        have c9b1 : (t223 != 0) = false := bne_eq_false_iff_eq.mpr c9
        clear c9
        obtain rfl := Option.some.inj H
        go_enter Try.func24, Try.ntmps24
        go_wp2_with (first | ((with_reducible refine gate_callee (f := 20) rfl ?_); refine goesL_ (some 7) rfl rfl Try.func20 (by kernel_rfl) rfl #[.agg #[.int .i64 0, .slice none 0 0], .int .i64 1] rfl (by (try simp only [List.map_toArray, List.map_cons, List.map_nil]); first | done | rfl | (simp only [List.length_drop, List.length_take]; rfl)) ?_; (refine (token_Ask.calls k 0 _ _ ([] : List Int) 1 t205 t206 t209 _ ?side1 ?side2 A1.out).mono ?_); (case side1 => exact Kd.C_nil _ _); (case side2 => exact Nat.le_refl _); rintro e w10 ⟨v207, rfl, ho0, hb⟩; refine ⟨_, rfl, ?_⟩; have n0_ := Aside0.mk (Kd.R_lower ho0 (below_size (by repeat (first | (with_reducible first | exact HB.out | apply below_alloc | apply pw_below_drewN | apply below_drew1) | exact HB.out)))); have n1_ := Aside0.mk (below_step (by repeat (first | (with_reducible first | exact HB.out | apply below_alloc | apply pw_below_drewN | apply below_drew1) | exact HB.out)) hb); clear HB; have HO208 := n0_; have HB := n1_; clear n0_ n1_; (try clear hb); (try clear hb2); (try clear hk); (try clear hi); (try clear ho0)) | ((with_reducible refine gate_dst (N := 1) rfl ?_); refine box_event ?hg (N := 1) ?hd (cs := #[.int .i64 0, .slice none 0 0]) (t := 43) ?hr ?_; (case hd => rfl); (case hg => rfl); (case hr => first | (go_simp; done) | (go_simp; rfl)); intro gb210 hg w11 hbox hb; have n0_ := Aside0.mk (Kd.R_below (by (with_reducible repeat (first | apply Kd.R_alloc | apply Kd.R_drewN | apply Kd.R_drew)); exact HO208.out) hb); have n1_ := Aside0.mk (below_step (by repeat (first | (with_reducible first | exact HB.out | apply below_alloc | apply pw_below_drewN | apply below_drew1) | exact HB.out)) hb); have n2_ := Aside0.mk (hbox); have n3_ := Aside0.mk ((by rw [hg]; exact (below_size (by repeat (first | (with_reducible first | exact HB.out | apply below_alloc | apply pw_below_drewN | apply below_drew1) | exact HB.out))) : w.heap.size ≤ gb210)); have n4_ := Aside0.mk ((by rw [hg]; exact (below_size (by repeat (first | (with_reducible first | exact HB.out | apply below_alloc | apply pw_below_drewN | apply below_drew1) | exact HB.out))) : w.heap.size ≤ gb210)); clear HO208; clear HB; have HO208 := n0_; have HB := n1_; have BK210 := n2_; have GW210 := n3_; have GE210 := n4_; clear n0_ n1_ n2_ n3_ n4_; clear hb hbox hg; have hcz12_0 : w11.cell? ⟨gb210, 0, none⟩ = some (.int .i64 0) := (blk_cell BK210.out 0).trans rfl; have hcz12_1 : w11.cell? ⟨gb210, 1, none⟩ = some (.slice none 0 0) := (blk_cell BK210.out 1).trans rfl; have hfz12_0 := blk_frozen BK210.out 0; have hfz12_1 := blk_frozen BK210.out 1; obtain ⟨Ao13, co13, eo13⟩ := Kd.R_slice HO208.out; subst eo13) | ((with_reducible refine gate_callee (f := 20) rfl ?_); refine goesL_ (some 12) rfl rfl Try.func20 (by kernel_rfl) rfl #[.agg #[.int .i64 t205, .slice Ao13 t206.length co13], .int .i64 2] rfl (by (try simp only [List.map_toArray, List.map_cons, List.map_nil]); first | done | rfl | (simp only [List.length_drop, List.length_take]; rfl)) ?_; (with_reducible refine (token_Ask.calls k t205 _ _ t206 2 t211 t212 t215 _ ?side1 ?side2 A2.out).mono ?_); (case side1 => refine (Kd.R_reads' (e := 3) (base := w.heap.size) (ok := fun k_ => True) (n := t206.length) (c := co13) ?_).2.2; exact (by (with_reducible repeat (first | apply Kd.R_alloc | apply Kd.R_drewN | apply Kd.R_drew)); exact (Kd.R_mono (Kd.R_far (p := ⟨gb210, 1, none⟩) (Kd.R_far (p := ⟨gb210, 0, none⟩) (Kd.R_types HO208.out BK210.out (by decide)) (fun _ hk => hk.2) (.int .i64 t205)) (fun _ hk => hk.2) (.slice Ao13 t206.length co13)) (fun _ h_ => h_.1)))); (case side2 => exact (Kd.R_reads' HO208.out).2.1); rintro e w14 ⟨v213, rfl, ho0, hb⟩; refine ⟨_, rfl, ?_⟩; have n0_ := Aside0.mk (Kd.R_elder' (by (with_reducible repeat (first | apply Kd.R_alloc | apply Kd.R_drewN | apply Kd.R_drew)); exact (Kd.R_mono (Kd.R_far (p := ⟨gb210, 1, none⟩) (Kd.R_far (p := ⟨gb210, 0, none⟩) (Kd.R_types HO208.out BK210.out (by decide)) (fun _ hk => hk.2) (.int .i64 t205)) (fun _ hk => hk.2) (.slice Ao13 t206.length co13)) (fun _ h_ => h_.1))) (Kd.R_base ho0) hb); have n1_ := Aside0.mk (Kd.R_lower (Kd.R_new' ho0 (Kd.R_lt (by (with_reducible repeat (first | apply Kd.R_alloc | apply Kd.R_drewN | apply Kd.R_drew)); exact (Kd.R_mono (Kd.R_far (p := ⟨gb210, 1, none⟩) (Kd.R_far (p := ⟨gb210, 0, none⟩) (Kd.R_types HO208.out BK210.out (by decide)) (fun _ hk => hk.2) (.int .i64 t205)) (fun _ hk => hk.2) (.slice Ao13 t206.length co13)) (fun _ h_ => h_.1))))) (below_size (by repeat (first | (with_reducible first | exact HB.out | apply below_alloc | apply pw_below_drewN | apply below_drew1 | refine below_set ?_ GE210.out) | exact HB.out)))); have n2_ := Aside0.mk (blk_below (g := gb210) (o := .cells #[.int .i64 t205, .slice Ao13 t206.length co13] 43 (0, 0)) (by (with_reducible repeat (first | refine blk_drewN ?_ _ | refine blk_drew ?_ | refine blk_alloc ?_ _)); refine blk_put (cs := #[.int .i64 t205, .slice none 0 0]) ?_ 1 _ rfl; (with_reducible repeat (first | refine blk_drewN ?_ _ | refine blk_drew ?_ | refine blk_alloc ?_ _)); refine blk_put (cs := #[.int .i64 0, .slice none 0 0]) ?_ 0 _ rfl; (with_reducible repeat (first | refine blk_drewN ?_ _ | refine blk_drew ?_ | refine blk_alloc ?_ _)); exact BK210.out) hb); have n3_ := Aside0.mk (below_step (by repeat (first | (with_reducible first | exact HB.out | apply below_alloc | apply pw_below_drewN | apply below_drew1 | refine below_set ?_ GE210.out) | exact HB.out)) hb); clear HO208; clear BK210; clear HB; have HO208 := n0_; have HO214 := n1_; have BK210 := n2_; have HB := n3_; clear n0_ n1_ n2_ n3_; (try clear hb); (try clear hb2); (try clear hk); (try clear hi); (try clear ho0); have hcz15_0 : w14.cell? ⟨gb210, 0, none⟩ = some (.int .i64 t205) := (blk_cell BK210.out 0).trans rfl; have hcz15_1 : w14.cell? ⟨gb210, 1, none⟩ = some (.slice Ao13 t206.length co13) := (blk_cell BK210.out 1).trans rfl; have hfz15_0 := blk_frozen BK210.out 0; have hfz15_1 := blk_frozen BK210.out 1; obtain ⟨Ao16, co16, eo16⟩ := Kd.R_slice HO214.out; subst eo16) | ((with_reducible refine gate_callee (f := 23) rfl ?_); refine goesL_ (some 17) rfl rfl Try.func23 (by kernel_rfl) rfl #[.agg #[.int .i64 t211, .slice Ao16 t212.length co16], .int .i64 1] rfl (by (try simp only [List.map_toArray, List.map_cons, List.map_nil]); first | done | rfl | (simp only [List.length_drop, List.length_take]; rfl)) ?_; (with_reducible refine (token_Give.calls k t211 _ _ t212 1 t216 t217 t220 _ ?side1 ?side2 A3.out).mono ?_); (case side1 => refine (Kd.R_reads' (e := 3) (base := w.heap.size) (ok := fun k_ => (True ∧ some k_ ≠ (.slice Ao13 t206.length co13 : Value).ownBlock)) (n := t212.length) (c := co16) ?_).2.2; exact (by (with_reducible repeat (first | apply Kd.R_alloc | apply Kd.R_drewN | apply Kd.R_drew)); exact (Kd.R_mono (Kd.R_far (p := ⟨gb210, 1, none⟩) (Kd.R_far (p := ⟨gb210, 0, none⟩) (Kd.R_types HO214.out BK210.out (by decide)) (fun _ hk => hk.2) (.int .i64 t211)) (fun _ hk => hk.2) (.slice Ao16 t212.length co16)) (fun _ h_ => h_.1)))); (case side2 => exact (Kd.R_reads' HO214.out).2.1); rintro e w17 ⟨v218, rfl, ho0, hb⟩; refine ⟨_, rfl, ?_⟩; have n0_ := Aside0.mk (Kd.R_elder' (by (with_reducible repeat (first | apply Kd.R_alloc | apply Kd.R_drewN | apply Kd.R_drew)); exact (Kd.R_mono (Kd.R_far (p := ⟨gb210, 1, none⟩) (Kd.R_far (p := ⟨gb210, 0, none⟩) (Kd.R_types HO208.out BK210.out (by decide)) (fun _ hk => hk.2) (.int .i64 t211)) (fun _ hk => hk.2) (.slice Ao16 t212.length co16)) (fun _ h_ => h_.1))) (Kd.Q_base ho0) hb); have n1_ := Aside0.mk (Kd.R_elder' (by (with_reducible repeat (first | apply Kd.R_alloc | apply Kd.R_drewN | apply Kd.R_drew)); exact (Kd.R_mono (Kd.R_far (p := ⟨gb210, 1, none⟩) (Kd.R_far (p := ⟨gb210, 0, none⟩) (Kd.R_types HO214.out BK210.out (by decide)) (fun _ hk => hk.2) (.int .i64 t211)) (fun _ hk => hk.2) (.slice Ao16 t212.length co16)) (fun _ h_ => h_.1))) (Kd.Q_base ho0) hb); have n2_ := Aside0.mk (Kd.Q_lower (Kd.Q_new' (Kd.Q_new' ho0 (Kd.R_lt (by (with_reducible repeat (first | apply Kd.R_alloc | apply Kd.R_drewN | apply Kd.R_drew)); exact (Kd.R_mono (Kd.R_far (p := ⟨gb210, 1, none⟩) (Kd.R_far (p := ⟨gb210, 0, none⟩) (Kd.R_types HO208.out BK210.out (by decide)) (fun _ hk => hk.2) (.int .i64 t211)) (fun _ hk => hk.2) (.slice Ao16 t212.length co16)) (fun _ h_ => h_.1))))) (Kd.R_lt (by (with_reducible repeat (first | apply Kd.R_alloc | apply Kd.R_drewN | apply Kd.R_drew)); exact (Kd.R_mono (Kd.R_far (p := ⟨gb210, 1, none⟩) (Kd.R_far (p := ⟨gb210, 0, none⟩) (Kd.R_types HO214.out BK210.out (by decide)) (fun _ hk => hk.2) (.int .i64 t211)) (fun _ hk => hk.2) (.slice Ao16 t212.length co16)) (fun _ h_ => h_.1))))) (below_size (by repeat (first | (with_reducible first | exact HB.out | apply below_alloc | apply pw_below_drewN | apply below_drew1 | refine below_set ?_ GE210.out) | exact HB.out)))); have n3_ := Aside0.mk (blk_below (g := gb210) (o := .cells #[.int .i64 t211, .slice Ao16 t212.length co16] 43 (0, 0)) (by (with_reducible repeat (first | refine blk_drewN ?_ _ | refine blk_drew ?_ | refine blk_alloc ?_ _)); refine blk_put (cs := #[.int .i64 t211, .slice Ao13 t206.length co13]) ?_ 1 _ rfl; (with_reducible repeat (first | refine blk_drewN ?_ _ | refine blk_drew ?_ | refine blk_alloc ?_ _)); refine blk_put (cs := #[.int .i64 t205, .slice Ao13 t206.length co13]) ?_ 0 _ rfl; (with_reducible repeat (first | refine blk_drewN ?_ _ | refine blk_drew ?_ | refine blk_alloc ?_ _)); exact BK210.out) hb); have n4_ := Aside0.mk (below_step (by repeat (first | (with_reducible first | exact HB.out | apply below_alloc | apply pw_below_drewN | apply below_drew1 | refine below_set ?_ GE210.out) | exact HB.out)) hb); clear HO208; clear HO214; clear BK210; clear HB; have HO208 := n0_; have HO214 := n1_; have HO219 := n2_; have BK210 := n3_; have HB := n4_; clear n0_ n1_ n2_ n3_ n4_; (try clear hb); (try clear hb2); (try clear hk); (try clear hi); (try clear ho0); have hcz18_0 : w17.cell? ⟨gb210, 0, none⟩ = some (.int .i64 t211) := (blk_cell BK210.out 0).trans rfl; have hcz18_1 : w17.cell? ⟨gb210, 1, none⟩ = some (.slice Ao16 t212.length co16) := (blk_cell BK210.out 1).trans rfl; have hfz18_0 := blk_frozen BK210.out 0; have hfz18_1 := blk_frozen BK210.out 1; obtain ⟨Ao19, co19, eo19, _⟩ := Kd.Q_slice HO219.out; subst eo19) | ((with_reducible refine gate_callee (f := 21) rfl ?_); refine goesL_ (some 21) rfl rfl Try.func21 (by kernel_rfl) rfl #[.int .i64 t209] rfl (by (try simp only [List.map_toArray, List.map_cons, List.map_nil]); first | done | rfl | (simp only [List.length_drop, List.length_take]; rfl)) ?_; (with_reducible refine (beaconlaw21_num.calls t209 t221 _ A4.out).mono ?_); rintro e w' ⟨rfl, ⟨nd, rfl⟩⟩; refine ⟨_, rfl, ?_⟩) | (go_at_call 21; (with_reducible refine (beaconlaw21_num.calls t215 t222 _ A6.out).mono ?_); rintro e w' ⟨rfl, ⟨nd, rfl⟩⟩) | (go_at_call 21; (with_reducible refine (beaconlaw21_num.calls t220 t223 _ A8.out).mono ?_); rintro e w' ⟨rfl, ⟨nd, rfl⟩⟩))
        go_ret
        exact ⟨by first | rfl | (simp [errW_none, errW_some] <;> rfl) | (simp [*, errW_none, errW_some] <;> rfl), by repeat (first | (with_reducible first | exact HB.out | apply below_alloc | apply pw_below_drewN | apply below_drew1 | refine below_set ?_ GE210.out) | exact HB.out)⟩
      · rw [if_neg c9] at H
        have c9b0 : (t223 == 0) = false := beq_eq_false_iff_ne.mpr c9
        have c9b1 : (t223 != 0) = true := bne_iff_ne.mpr c9
        obtain rfl := Option.some.inj H
        go_enter Try.func24, Try.ntmps24
        go_wp2_with (first | ((with_reducible refine gate_callee (f := 20) rfl ?_); refine goesL_ (some 7) rfl rfl Try.func20 (by kernel_rfl) rfl #[.agg #[.int .i64 0, .slice none 0 0], .int .i64 1] rfl (by (try simp only [List.map_toArray, List.map_cons, List.map_nil]); first | done | rfl | (simp only [List.length_drop, List.length_take]; rfl)) ?_; (refine (token_Ask.calls k 0 _ _ ([] : List Int) 1 t205 t206 t209 _ ?side1 ?side2 A1.out).mono ?_); (case side1 => exact Kd.C_nil _ _); (case side2 => exact Nat.le_refl _); rintro e w20 ⟨v207, rfl, ho0, hb⟩; refine ⟨_, rfl, ?_⟩; have n0_ := Aside0.mk (Kd.R_lower ho0 (below_size (by repeat (first | (with_reducible first | exact HB.out | apply below_alloc | apply pw_below_drewN | apply below_drew1) | exact HB.out)))); have n1_ := Aside0.mk (below_step (by repeat (first | (with_reducible first | exact HB.out | apply below_alloc | apply pw_below_drewN | apply below_drew1) | exact HB.out)) hb); clear HB; have HO208 := n0_; have HB := n1_; clear n0_ n1_; (try clear hb); (try clear hb2); (try clear hk); (try clear hi); (try clear ho0)) | ((with_reducible refine gate_dst (N := 1) rfl ?_); refine box_event ?hg (N := 1) ?hd (cs := #[.int .i64 0, .slice none 0 0]) (t := 43) ?hr ?_; (case hd => rfl); (case hg => rfl); (case hr => first | (go_simp; done) | (go_simp; rfl)); intro gb210 hg w21 hbox hb; have n0_ := Aside0.mk (Kd.R_below (by (with_reducible repeat (first | apply Kd.R_alloc | apply Kd.R_drewN | apply Kd.R_drew)); exact HO208.out) hb); have n1_ := Aside0.mk (below_step (by repeat (first | (with_reducible first | exact HB.out | apply below_alloc | apply pw_below_drewN | apply below_drew1) | exact HB.out)) hb); have n2_ := Aside0.mk (hbox); have n3_ := Aside0.mk ((by rw [hg]; exact (below_size (by repeat (first | (with_reducible first | exact HB.out | apply below_alloc | apply pw_below_drewN | apply below_drew1) | exact HB.out))) : w.heap.size ≤ gb210)); have n4_ := Aside0.mk ((by rw [hg]; exact (below_size (by repeat (first | (with_reducible first | exact HB.out | apply below_alloc | apply pw_below_drewN | apply below_drew1) | exact HB.out))) : w.heap.size ≤ gb210)); clear HO208; clear HB; have HO208 := n0_; have HB := n1_; have BK210 := n2_; have GW210 := n3_; have GE210 := n4_; clear n0_ n1_ n2_ n3_ n4_; clear hb hbox hg; have hcz22_0 : w21.cell? ⟨gb210, 0, none⟩ = some (.int .i64 0) := (blk_cell BK210.out 0).trans rfl; have hcz22_1 : w21.cell? ⟨gb210, 1, none⟩ = some (.slice none 0 0) := (blk_cell BK210.out 1).trans rfl; have hfz22_0 := blk_frozen BK210.out 0; have hfz22_1 := blk_frozen BK210.out 1; obtain ⟨Ao23, co23, eo23⟩ := Kd.R_slice HO208.out; subst eo23) | ((with_reducible refine gate_callee (f := 20) rfl ?_); refine goesL_ (some 12) rfl rfl Try.func20 (by kernel_rfl) rfl #[.agg #[.int .i64 t205, .slice Ao23 t206.length co23], .int .i64 2] rfl (by (try simp only [List.map_toArray, List.map_cons, List.map_nil]); first | done | rfl | (simp only [List.length_drop, List.length_take]; rfl)) ?_; (with_reducible refine (token_Ask.calls k t205 _ _ t206 2 t211 t212 t215 _ ?side1 ?side2 A2.out).mono ?_); (case side1 => refine (Kd.R_reads' (e := 3) (base := w.heap.size) (ok := fun k_ => True) (n := t206.length) (c := co23) ?_).2.2; exact (by (with_reducible repeat (first | apply Kd.R_alloc | apply Kd.R_drewN | apply Kd.R_drew)); exact (Kd.R_mono (Kd.R_far (p := ⟨gb210, 1, none⟩) (Kd.R_far (p := ⟨gb210, 0, none⟩) (Kd.R_types HO208.out BK210.out (by decide)) (fun _ hk => hk.2) (.int .i64 t205)) (fun _ hk => hk.2) (.slice Ao23 t206.length co23)) (fun _ h_ => h_.1)))); (case side2 => exact (Kd.R_reads' HO208.out).2.1); rintro e w24 ⟨v213, rfl, ho0, hb⟩; refine ⟨_, rfl, ?_⟩; have n0_ := Aside0.mk (Kd.R_elder' (by (with_reducible repeat (first | apply Kd.R_alloc | apply Kd.R_drewN | apply Kd.R_drew)); exact (Kd.R_mono (Kd.R_far (p := ⟨gb210, 1, none⟩) (Kd.R_far (p := ⟨gb210, 0, none⟩) (Kd.R_types HO208.out BK210.out (by decide)) (fun _ hk => hk.2) (.int .i64 t205)) (fun _ hk => hk.2) (.slice Ao23 t206.length co23)) (fun _ h_ => h_.1))) (Kd.R_base ho0) hb); have n1_ := Aside0.mk (Kd.R_lower (Kd.R_new' ho0 (Kd.R_lt (by (with_reducible repeat (first | apply Kd.R_alloc | apply Kd.R_drewN | apply Kd.R_drew)); exact (Kd.R_mono (Kd.R_far (p := ⟨gb210, 1, none⟩) (Kd.R_far (p := ⟨gb210, 0, none⟩) (Kd.R_types HO208.out BK210.out (by decide)) (fun _ hk => hk.2) (.int .i64 t205)) (fun _ hk => hk.2) (.slice Ao23 t206.length co23)) (fun _ h_ => h_.1))))) (below_size (by repeat (first | (with_reducible first | exact HB.out | apply below_alloc | apply pw_below_drewN | apply below_drew1 | refine below_set ?_ GE210.out) | exact HB.out)))); have n2_ := Aside0.mk (blk_below (g := gb210) (o := .cells #[.int .i64 t205, .slice Ao23 t206.length co23] 43 (0, 0)) (by (with_reducible repeat (first | refine blk_drewN ?_ _ | refine blk_drew ?_ | refine blk_alloc ?_ _)); refine blk_put (cs := #[.int .i64 t205, .slice none 0 0]) ?_ 1 _ rfl; (with_reducible repeat (first | refine blk_drewN ?_ _ | refine blk_drew ?_ | refine blk_alloc ?_ _)); refine blk_put (cs := #[.int .i64 0, .slice none 0 0]) ?_ 0 _ rfl; (with_reducible repeat (first | refine blk_drewN ?_ _ | refine blk_drew ?_ | refine blk_alloc ?_ _)); exact BK210.out) hb); have n3_ := Aside0.mk (below_step (by repeat (first | (with_reducible first | exact HB.out | apply below_alloc | apply pw_below_drewN | apply below_drew1 | refine below_set ?_ GE210.out) | exact HB.out)) hb); clear HO208; clear BK210; clear HB; have HO208 := n0_; have HO214 := n1_; have BK210 := n2_; have HB := n3_; clear n0_ n1_ n2_ n3_; (try clear hb); (try clear hb2); (try clear hk); (try clear hi); (try clear ho0); have hcz25_0 : w24.cell? ⟨gb210, 0, none⟩ = some (.int .i64 t205) := (blk_cell BK210.out 0).trans rfl; have hcz25_1 : w24.cell? ⟨gb210, 1, none⟩ = some (.slice Ao23 t206.length co23) := (blk_cell BK210.out 1).trans rfl; have hfz25_0 := blk_frozen BK210.out 0; have hfz25_1 := blk_frozen BK210.out 1; obtain ⟨Ao26, co26, eo26⟩ := Kd.R_slice HO214.out; subst eo26) | ((with_reducible refine gate_callee (f := 23) rfl ?_); refine goesL_ (some 17) rfl rfl Try.func23 (by kernel_rfl) rfl #[.agg #[.int .i64 t211, .slice Ao26 t212.length co26], .int .i64 1] rfl (by (try simp only [List.map_toArray, List.map_cons, List.map_nil]); first | done | rfl | (simp only [List.length_drop, List.length_take]; rfl)) ?_; (with_reducible refine (token_Give.calls k t211 _ _ t212 1 t216 t217 t220 _ ?side1 ?side2 A3.out).mono ?_); (case side1 => refine (Kd.R_reads' (e := 3) (base := w.heap.size) (ok := fun k_ => (True ∧ some k_ ≠ (.slice Ao23 t206.length co23 : Value).ownBlock)) (n := t212.length) (c := co26) ?_).2.2; exact (by (with_reducible repeat (first | apply Kd.R_alloc | apply Kd.R_drewN | apply Kd.R_drew)); exact (Kd.R_mono (Kd.R_far (p := ⟨gb210, 1, none⟩) (Kd.R_far (p := ⟨gb210, 0, none⟩) (Kd.R_types HO214.out BK210.out (by decide)) (fun _ hk => hk.2) (.int .i64 t211)) (fun _ hk => hk.2) (.slice Ao26 t212.length co26)) (fun _ h_ => h_.1)))); (case side2 => exact (Kd.R_reads' HO214.out).2.1); rintro e w27 ⟨v218, rfl, ho0, hb⟩; refine ⟨_, rfl, ?_⟩; have n0_ := Aside0.mk (Kd.R_elder' (by (with_reducible repeat (first | apply Kd.R_alloc | apply Kd.R_drewN | apply Kd.R_drew)); exact (Kd.R_mono (Kd.R_far (p := ⟨gb210, 1, none⟩) (Kd.R_far (p := ⟨gb210, 0, none⟩) (Kd.R_types HO208.out BK210.out (by decide)) (fun _ hk => hk.2) (.int .i64 t211)) (fun _ hk => hk.2) (.slice Ao26 t212.length co26)) (fun _ h_ => h_.1))) (Kd.Q_base ho0) hb); have n1_ := Aside0.mk (Kd.R_elder' (by (with_reducible repeat (first | apply Kd.R_alloc | apply Kd.R_drewN | apply Kd.R_drew)); exact (Kd.R_mono (Kd.R_far (p := ⟨gb210, 1, none⟩) (Kd.R_far (p := ⟨gb210, 0, none⟩) (Kd.R_types HO214.out BK210.out (by decide)) (fun _ hk => hk.2) (.int .i64 t211)) (fun _ hk => hk.2) (.slice Ao26 t212.length co26)) (fun _ h_ => h_.1))) (Kd.Q_base ho0) hb); have n2_ := Aside0.mk (Kd.Q_lower (Kd.Q_new' (Kd.Q_new' ho0 (Kd.R_lt (by (with_reducible repeat (first | apply Kd.R_alloc | apply Kd.R_drewN | apply Kd.R_drew)); exact (Kd.R_mono (Kd.R_far (p := ⟨gb210, 1, none⟩) (Kd.R_far (p := ⟨gb210, 0, none⟩) (Kd.R_types HO208.out BK210.out (by decide)) (fun _ hk => hk.2) (.int .i64 t211)) (fun _ hk => hk.2) (.slice Ao26 t212.length co26)) (fun _ h_ => h_.1))))) (Kd.R_lt (by (with_reducible repeat (first | apply Kd.R_alloc | apply Kd.R_drewN | apply Kd.R_drew)); exact (Kd.R_mono (Kd.R_far (p := ⟨gb210, 1, none⟩) (Kd.R_far (p := ⟨gb210, 0, none⟩) (Kd.R_types HO214.out BK210.out (by decide)) (fun _ hk => hk.2) (.int .i64 t211)) (fun _ hk => hk.2) (.slice Ao26 t212.length co26)) (fun _ h_ => h_.1))))) (below_size (by repeat (first | (with_reducible first | exact HB.out | apply below_alloc | apply pw_below_drewN | apply below_drew1 | refine below_set ?_ GE210.out) | exact HB.out)))); have n3_ := Aside0.mk (blk_below (g := gb210) (o := .cells #[.int .i64 t211, .slice Ao26 t212.length co26] 43 (0, 0)) (by (with_reducible repeat (first | refine blk_drewN ?_ _ | refine blk_drew ?_ | refine blk_alloc ?_ _)); refine blk_put (cs := #[.int .i64 t211, .slice Ao23 t206.length co23]) ?_ 1 _ rfl; (with_reducible repeat (first | refine blk_drewN ?_ _ | refine blk_drew ?_ | refine blk_alloc ?_ _)); refine blk_put (cs := #[.int .i64 t205, .slice Ao23 t206.length co23]) ?_ 0 _ rfl; (with_reducible repeat (first | refine blk_drewN ?_ _ | refine blk_drew ?_ | refine blk_alloc ?_ _)); exact BK210.out) hb); have n4_ := Aside0.mk (below_step (by repeat (first | (with_reducible first | exact HB.out | apply below_alloc | apply pw_below_drewN | apply below_drew1 | refine below_set ?_ GE210.out) | exact HB.out)) hb); clear HO208; clear HO214; clear BK210; clear HB; have HO208 := n0_; have HO214 := n1_; have HO219 := n2_; have BK210 := n3_; have HB := n4_; clear n0_ n1_ n2_ n3_ n4_; (try clear hb); (try clear hb2); (try clear hk); (try clear hi); (try clear ho0); have hcz28_0 : w27.cell? ⟨gb210, 0, none⟩ = some (.int .i64 t211) := (blk_cell BK210.out 0).trans rfl; have hcz28_1 : w27.cell? ⟨gb210, 1, none⟩ = some (.slice Ao26 t212.length co26) := (blk_cell BK210.out 1).trans rfl; have hfz28_0 := blk_frozen BK210.out 0; have hfz28_1 := blk_frozen BK210.out 1; obtain ⟨Ao29, co29, eo29, _⟩ := Kd.Q_slice HO219.out; subst eo29) | ((with_reducible refine gate_callee (f := 21) rfl ?_); refine goesL_ (some 21) rfl rfl Try.func21 (by kernel_rfl) rfl #[.int .i64 t209] rfl (by (try simp only [List.map_toArray, List.map_cons, List.map_nil]); first | done | rfl | (simp only [List.length_drop, List.length_take]; rfl)) ?_; (with_reducible refine (beaconlaw21_num.calls t209 t221 _ A4.out).mono ?_); rintro e w' ⟨rfl, ⟨nd, rfl⟩⟩; refine ⟨_, rfl, ?_⟩) | (go_at_call 21; (with_reducible refine (beaconlaw21_num.calls t215 t222 _ A6.out).mono ?_); rintro e w' ⟨rfl, ⟨nd, rfl⟩⟩) | (go_at_call 21; (with_reducible refine (beaconlaw21_num.calls t220 t223 _ A8.out).mono ?_); rintro e w' ⟨rfl, ⟨nd, rfl⟩⟩))
        go_ret
        exact ⟨by first | rfl | (simp [errW_none, errW_some] <;> rfl) | (simp [*, errW_none, errW_some] <;> rfl), by repeat (first | (with_reducible first | exact HB.out | apply below_alloc | apply pw_below_drewN | apply below_drew1 | refine below_set ?_ GE210.out) | exact HB.out)⟩
    · rw [if_neg c7] at H
      have c7b0 : (t222 == 0) = false := beq_eq_false_iff_ne.mpr c7
      have c7b1 : (t222 != 0) = true := bne_iff_ne.mpr c7
      obtain rfl := Option.some.inj H
      go_enter Try.func24, Try.ntmps24
      go_wp2_with (first | ((with_reducible refine gate_callee (f := 20) rfl ?_); refine goesL_ (some 7) rfl rfl Try.func20 (by kernel_rfl) rfl #[.agg #[.int .i64 0, .slice none 0 0], .int .i64 1] rfl (by (try simp only [List.map_toArray, List.map_cons, List.map_nil]); first | done | rfl | (simp only [List.length_drop, List.length_take]; rfl)) ?_; (refine (token_Ask.calls k 0 _ _ ([] : List Int) 1 t205 t206 t209 _ ?side1 ?side2 A1.out).mono ?_); (case side1 => exact Kd.C_nil _ _); (case side2 => exact Nat.le_refl _); rintro e w30 ⟨v207, rfl, ho0, hb⟩; refine ⟨_, rfl, ?_⟩; have n0_ := Aside0.mk (Kd.R_lower ho0 (below_size (by repeat (first | (with_reducible first | exact HB.out | apply below_alloc | apply pw_below_drewN | apply below_drew1) | exact HB.out)))); have n1_ := Aside0.mk (below_step (by repeat (first | (with_reducible first | exact HB.out | apply below_alloc | apply pw_below_drewN | apply below_drew1) | exact HB.out)) hb); clear HB; have HO208 := n0_; have HB := n1_; clear n0_ n1_; (try clear hb); (try clear hb2); (try clear hk); (try clear hi); (try clear ho0)) | ((with_reducible refine gate_dst (N := 1) rfl ?_); refine box_event ?hg (N := 1) ?hd (cs := #[.int .i64 0, .slice none 0 0]) (t := 43) ?hr ?_; (case hd => rfl); (case hg => rfl); (case hr => first | (go_simp; done) | (go_simp; rfl)); intro gb210 hg w31 hbox hb; have n0_ := Aside0.mk (Kd.R_below (by (with_reducible repeat (first | apply Kd.R_alloc | apply Kd.R_drewN | apply Kd.R_drew)); exact HO208.out) hb); have n1_ := Aside0.mk (below_step (by repeat (first | (with_reducible first | exact HB.out | apply below_alloc | apply pw_below_drewN | apply below_drew1) | exact HB.out)) hb); have n2_ := Aside0.mk (hbox); have n3_ := Aside0.mk ((by rw [hg]; exact (below_size (by repeat (first | (with_reducible first | exact HB.out | apply below_alloc | apply pw_below_drewN | apply below_drew1) | exact HB.out))) : w.heap.size ≤ gb210)); have n4_ := Aside0.mk ((by rw [hg]; exact (below_size (by repeat (first | (with_reducible first | exact HB.out | apply below_alloc | apply pw_below_drewN | apply below_drew1) | exact HB.out))) : w.heap.size ≤ gb210)); clear HO208; clear HB; have HO208 := n0_; have HB := n1_; have BK210 := n2_; have GW210 := n3_; have GE210 := n4_; clear n0_ n1_ n2_ n3_ n4_; clear hb hbox hg; have hcz32_0 : w31.cell? ⟨gb210, 0, none⟩ = some (.int .i64 0) := (blk_cell BK210.out 0).trans rfl; have hcz32_1 : w31.cell? ⟨gb210, 1, none⟩ = some (.slice none 0 0) := (blk_cell BK210.out 1).trans rfl; have hfz32_0 := blk_frozen BK210.out 0; have hfz32_1 := blk_frozen BK210.out 1; obtain ⟨Ao33, co33, eo33⟩ := Kd.R_slice HO208.out; subst eo33) | ((with_reducible refine gate_callee (f := 20) rfl ?_); refine goesL_ (some 12) rfl rfl Try.func20 (by kernel_rfl) rfl #[.agg #[.int .i64 t205, .slice Ao33 t206.length co33], .int .i64 2] rfl (by (try simp only [List.map_toArray, List.map_cons, List.map_nil]); first | done | rfl | (simp only [List.length_drop, List.length_take]; rfl)) ?_; (with_reducible refine (token_Ask.calls k t205 _ _ t206 2 t211 t212 t215 _ ?side1 ?side2 A2.out).mono ?_); (case side1 => refine (Kd.R_reads' (e := 3) (base := w.heap.size) (ok := fun k_ => True) (n := t206.length) (c := co33) ?_).2.2; exact (by (with_reducible repeat (first | apply Kd.R_alloc | apply Kd.R_drewN | apply Kd.R_drew)); exact (Kd.R_mono (Kd.R_far (p := ⟨gb210, 1, none⟩) (Kd.R_far (p := ⟨gb210, 0, none⟩) (Kd.R_types HO208.out BK210.out (by decide)) (fun _ hk => hk.2) (.int .i64 t205)) (fun _ hk => hk.2) (.slice Ao33 t206.length co33)) (fun _ h_ => h_.1)))); (case side2 => exact (Kd.R_reads' HO208.out).2.1); rintro e w34 ⟨v213, rfl, ho0, hb⟩; refine ⟨_, rfl, ?_⟩; have n0_ := Aside0.mk (Kd.R_elder' (by (with_reducible repeat (first | apply Kd.R_alloc | apply Kd.R_drewN | apply Kd.R_drew)); exact (Kd.R_mono (Kd.R_far (p := ⟨gb210, 1, none⟩) (Kd.R_far (p := ⟨gb210, 0, none⟩) (Kd.R_types HO208.out BK210.out (by decide)) (fun _ hk => hk.2) (.int .i64 t205)) (fun _ hk => hk.2) (.slice Ao33 t206.length co33)) (fun _ h_ => h_.1))) (Kd.R_base ho0) hb); have n1_ := Aside0.mk (Kd.R_lower (Kd.R_new' ho0 (Kd.R_lt (by (with_reducible repeat (first | apply Kd.R_alloc | apply Kd.R_drewN | apply Kd.R_drew)); exact (Kd.R_mono (Kd.R_far (p := ⟨gb210, 1, none⟩) (Kd.R_far (p := ⟨gb210, 0, none⟩) (Kd.R_types HO208.out BK210.out (by decide)) (fun _ hk => hk.2) (.int .i64 t205)) (fun _ hk => hk.2) (.slice Ao33 t206.length co33)) (fun _ h_ => h_.1))))) (below_size (by repeat (first | (with_reducible first | exact HB.out | apply below_alloc | apply pw_below_drewN | apply below_drew1 | refine below_set ?_ GE210.out) | exact HB.out)))); have n2_ := Aside0.mk (blk_below (g := gb210) (o := .cells #[.int .i64 t205, .slice Ao33 t206.length co33] 43 (0, 0)) (by (with_reducible repeat (first | refine blk_drewN ?_ _ | refine blk_drew ?_ | refine blk_alloc ?_ _)); refine blk_put (cs := #[.int .i64 t205, .slice none 0 0]) ?_ 1 _ rfl; (with_reducible repeat (first | refine blk_drewN ?_ _ | refine blk_drew ?_ | refine blk_alloc ?_ _)); refine blk_put (cs := #[.int .i64 0, .slice none 0 0]) ?_ 0 _ rfl; (with_reducible repeat (first | refine blk_drewN ?_ _ | refine blk_drew ?_ | refine blk_alloc ?_ _)); exact BK210.out) hb); have n3_ := Aside0.mk (below_step (by repeat (first | (with_reducible first | exact HB.out | apply below_alloc | apply pw_below_drewN | apply below_drew1 | refine below_set ?_ GE210.out) | exact HB.out)) hb); clear HO208; clear BK210; clear HB; have HO208 := n0_; have HO214 := n1_; have BK210 := n2_; have HB := n3_; clear n0_ n1_ n2_ n3_; (try clear hb); (try clear hb2); (try clear hk); (try clear hi); (try clear ho0); have hcz35_0 : w34.cell? ⟨gb210, 0, none⟩ = some (.int .i64 t205) := (blk_cell BK210.out 0).trans rfl; have hcz35_1 : w34.cell? ⟨gb210, 1, none⟩ = some (.slice Ao33 t206.length co33) := (blk_cell BK210.out 1).trans rfl; have hfz35_0 := blk_frozen BK210.out 0; have hfz35_1 := blk_frozen BK210.out 1; obtain ⟨Ao36, co36, eo36⟩ := Kd.R_slice HO214.out; subst eo36) | ((with_reducible refine gate_callee (f := 23) rfl ?_); refine goesL_ (some 17) rfl rfl Try.func23 (by kernel_rfl) rfl #[.agg #[.int .i64 t211, .slice Ao36 t212.length co36], .int .i64 1] rfl (by (try simp only [List.map_toArray, List.map_cons, List.map_nil]); first | done | rfl | (simp only [List.length_drop, List.length_take]; rfl)) ?_; (with_reducible refine (token_Give.calls k t211 _ _ t212 1 t216 t217 t220 _ ?side1 ?side2 A3.out).mono ?_); (case side1 => refine (Kd.R_reads' (e := 3) (base := w.heap.size) (ok := fun k_ => (True ∧ some k_ ≠ (.slice Ao33 t206.length co33 : Value).ownBlock)) (n := t212.length) (c := co36) ?_).2.2; exact (by (with_reducible repeat (first | apply Kd.R_alloc | apply Kd.R_drewN | apply Kd.R_drew)); exact (Kd.R_mono (Kd.R_far (p := ⟨gb210, 1, none⟩) (Kd.R_far (p := ⟨gb210, 0, none⟩) (Kd.R_types HO214.out BK210.out (by decide)) (fun _ hk => hk.2) (.int .i64 t211)) (fun _ hk => hk.2) (.slice Ao36 t212.length co36)) (fun _ h_ => h_.1)))); (case side2 => exact (Kd.R_reads' HO214.out).2.1); rintro e w37 ⟨v218, rfl, ho0, hb⟩; refine ⟨_, rfl, ?_⟩; have n0_ := Aside0.mk (Kd.R_elder' (by (with_reducible repeat (first | apply Kd.R_alloc | apply Kd.R_drewN | apply Kd.R_drew)); exact (Kd.R_mono (Kd.R_far (p := ⟨gb210, 1, none⟩) (Kd.R_far (p := ⟨gb210, 0, none⟩) (Kd.R_types HO208.out BK210.out (by decide)) (fun _ hk => hk.2) (.int .i64 t211)) (fun _ hk => hk.2) (.slice Ao36 t212.length co36)) (fun _ h_ => h_.1))) (Kd.Q_base ho0) hb); have n1_ := Aside0.mk (Kd.R_elder' (by (with_reducible repeat (first | apply Kd.R_alloc | apply Kd.R_drewN | apply Kd.R_drew)); exact (Kd.R_mono (Kd.R_far (p := ⟨gb210, 1, none⟩) (Kd.R_far (p := ⟨gb210, 0, none⟩) (Kd.R_types HO214.out BK210.out (by decide)) (fun _ hk => hk.2) (.int .i64 t211)) (fun _ hk => hk.2) (.slice Ao36 t212.length co36)) (fun _ h_ => h_.1))) (Kd.Q_base ho0) hb); have n2_ := Aside0.mk (Kd.Q_lower (Kd.Q_new' (Kd.Q_new' ho0 (Kd.R_lt (by (with_reducible repeat (first | apply Kd.R_alloc | apply Kd.R_drewN | apply Kd.R_drew)); exact (Kd.R_mono (Kd.R_far (p := ⟨gb210, 1, none⟩) (Kd.R_far (p := ⟨gb210, 0, none⟩) (Kd.R_types HO208.out BK210.out (by decide)) (fun _ hk => hk.2) (.int .i64 t211)) (fun _ hk => hk.2) (.slice Ao36 t212.length co36)) (fun _ h_ => h_.1))))) (Kd.R_lt (by (with_reducible repeat (first | apply Kd.R_alloc | apply Kd.R_drewN | apply Kd.R_drew)); exact (Kd.R_mono (Kd.R_far (p := ⟨gb210, 1, none⟩) (Kd.R_far (p := ⟨gb210, 0, none⟩) (Kd.R_types HO214.out BK210.out (by decide)) (fun _ hk => hk.2) (.int .i64 t211)) (fun _ hk => hk.2) (.slice Ao36 t212.length co36)) (fun _ h_ => h_.1))))) (below_size (by repeat (first | (with_reducible first | exact HB.out | apply below_alloc | apply pw_below_drewN | apply below_drew1 | refine below_set ?_ GE210.out) | exact HB.out)))); have n3_ := Aside0.mk (blk_below (g := gb210) (o := .cells #[.int .i64 t211, .slice Ao36 t212.length co36] 43 (0, 0)) (by (with_reducible repeat (first | refine blk_drewN ?_ _ | refine blk_drew ?_ | refine blk_alloc ?_ _)); refine blk_put (cs := #[.int .i64 t211, .slice Ao33 t206.length co33]) ?_ 1 _ rfl; (with_reducible repeat (first | refine blk_drewN ?_ _ | refine blk_drew ?_ | refine blk_alloc ?_ _)); refine blk_put (cs := #[.int .i64 t205, .slice Ao33 t206.length co33]) ?_ 0 _ rfl; (with_reducible repeat (first | refine blk_drewN ?_ _ | refine blk_drew ?_ | refine blk_alloc ?_ _)); exact BK210.out) hb); have n4_ := Aside0.mk (below_step (by repeat (first | (with_reducible first | exact HB.out | apply below_alloc | apply pw_below_drewN | apply below_drew1 | refine below_set ?_ GE210.out) | exact HB.out)) hb); clear HO208; clear HO214; clear BK210; clear HB; have HO208 := n0_; have HO214 := n1_; have HO219 := n2_; have BK210 := n3_; have HB := n4_; clear n0_ n1_ n2_ n3_ n4_; (try clear hb); (try clear hb2); (try clear hk); (try clear hi); (try clear ho0); have hcz38_0 : w37.cell? ⟨gb210, 0, none⟩ = some (.int .i64 t211) := (blk_cell BK210.out 0).trans rfl; have hcz38_1 : w37.cell? ⟨gb210, 1, none⟩ = some (.slice Ao36 t212.length co36) := (blk_cell BK210.out 1).trans rfl; have hfz38_0 := blk_frozen BK210.out 0; have hfz38_1 := blk_frozen BK210.out 1; obtain ⟨Ao39, co39, eo39, _⟩ := Kd.Q_slice HO219.out; subst eo39) | ((with_reducible refine gate_callee (f := 21) rfl ?_); refine goesL_ (some 21) rfl rfl Try.func21 (by kernel_rfl) rfl #[.int .i64 t209] rfl (by (try simp only [List.map_toArray, List.map_cons, List.map_nil]); first | done | rfl | (simp only [List.length_drop, List.length_take]; rfl)) ?_; (with_reducible refine (beaconlaw21_num.calls t209 t221 _ A4.out).mono ?_); rintro e w' ⟨rfl, ⟨nd, rfl⟩⟩; refine ⟨_, rfl, ?_⟩) | (go_at_call 21; (with_reducible refine (beaconlaw21_num.calls t215 t222 _ A6.out).mono ?_); rintro e w' ⟨rfl, ⟨nd, rfl⟩⟩))
      go_ret
      exact ⟨by first | rfl | (simp [errW_none, errW_some] <;> rfl) | (simp [*, errW_none, errW_some] <;> rfl), by repeat (first | (with_reducible first | exact HB.out | apply below_alloc | apply pw_below_drewN | apply below_drew1 | refine below_set ?_ GE210.out) | exact HB.out)⟩
  · rw [if_neg c5] at H
    have c5b0 : (t221 == 0) = false := beq_eq_false_iff_ne.mpr c5
    have c5b1 : (t221 != 0) = true := bne_iff_ne.mpr c5
    obtain rfl := Option.some.inj H
    go_enter Try.func24, Try.ntmps24
    go_wp2_with (first | ((with_reducible refine gate_callee (f := 20) rfl ?_); refine goesL_ (some 7) rfl rfl Try.func20 (by kernel_rfl) rfl #[.agg #[.int .i64 0, .slice none 0 0], .int .i64 1] rfl (by (try simp only [List.map_toArray, List.map_cons, List.map_nil]); first | done | rfl | (simp only [List.length_drop, List.length_take]; rfl)) ?_; (refine (token_Ask.calls k 0 _ _ ([] : List Int) 1 t205 t206 t209 _ ?side1 ?side2 A1.out).mono ?_); (case side1 => exact Kd.C_nil _ _); (case side2 => exact Nat.le_refl _); rintro e w40 ⟨v207, rfl, ho0, hb⟩; refine ⟨_, rfl, ?_⟩; have n0_ := Aside0.mk (Kd.R_lower ho0 (below_size (by repeat (first | (with_reducible first | exact HB.out | apply below_alloc | apply pw_below_drewN | apply below_drew1) | exact HB.out)))); have n1_ := Aside0.mk (below_step (by repeat (first | (with_reducible first | exact HB.out | apply below_alloc | apply pw_below_drewN | apply below_drew1) | exact HB.out)) hb); clear HB; have HO208 := n0_; have HB := n1_; clear n0_ n1_; (try clear hb); (try clear hb2); (try clear hk); (try clear hi); (try clear ho0)) | ((with_reducible refine gate_dst (N := 1) rfl ?_); refine box_event ?hg (N := 1) ?hd (cs := #[.int .i64 0, .slice none 0 0]) (t := 43) ?hr ?_; (case hd => rfl); (case hg => rfl); (case hr => first | (go_simp; done) | (go_simp; rfl)); intro gb210 hg w41 hbox hb; have n0_ := Aside0.mk (Kd.R_below (by (with_reducible repeat (first | apply Kd.R_alloc | apply Kd.R_drewN | apply Kd.R_drew)); exact HO208.out) hb); have n1_ := Aside0.mk (below_step (by repeat (first | (with_reducible first | exact HB.out | apply below_alloc | apply pw_below_drewN | apply below_drew1) | exact HB.out)) hb); have n2_ := Aside0.mk (hbox); have n3_ := Aside0.mk ((by rw [hg]; exact (below_size (by repeat (first | (with_reducible first | exact HB.out | apply below_alloc | apply pw_below_drewN | apply below_drew1) | exact HB.out))) : w.heap.size ≤ gb210)); have n4_ := Aside0.mk ((by rw [hg]; exact (below_size (by repeat (first | (with_reducible first | exact HB.out | apply below_alloc | apply pw_below_drewN | apply below_drew1) | exact HB.out))) : w.heap.size ≤ gb210)); clear HO208; clear HB; have HO208 := n0_; have HB := n1_; have BK210 := n2_; have GW210 := n3_; have GE210 := n4_; clear n0_ n1_ n2_ n3_ n4_; clear hb hbox hg; have hcz42_0 : w41.cell? ⟨gb210, 0, none⟩ = some (.int .i64 0) := (blk_cell BK210.out 0).trans rfl; have hcz42_1 : w41.cell? ⟨gb210, 1, none⟩ = some (.slice none 0 0) := (blk_cell BK210.out 1).trans rfl; have hfz42_0 := blk_frozen BK210.out 0; have hfz42_1 := blk_frozen BK210.out 1; obtain ⟨Ao43, co43, eo43⟩ := Kd.R_slice HO208.out; subst eo43) | ((with_reducible refine gate_callee (f := 20) rfl ?_); refine goesL_ (some 12) rfl rfl Try.func20 (by kernel_rfl) rfl #[.agg #[.int .i64 t205, .slice Ao43 t206.length co43], .int .i64 2] rfl (by (try simp only [List.map_toArray, List.map_cons, List.map_nil]); first | done | rfl | (simp only [List.length_drop, List.length_take]; rfl)) ?_; (with_reducible refine (token_Ask.calls k t205 _ _ t206 2 t211 t212 t215 _ ?side1 ?side2 A2.out).mono ?_); (case side1 => refine (Kd.R_reads' (e := 3) (base := w.heap.size) (ok := fun k_ => True) (n := t206.length) (c := co43) ?_).2.2; exact (by (with_reducible repeat (first | apply Kd.R_alloc | apply Kd.R_drewN | apply Kd.R_drew)); exact (Kd.R_mono (Kd.R_far (p := ⟨gb210, 1, none⟩) (Kd.R_far (p := ⟨gb210, 0, none⟩) (Kd.R_types HO208.out BK210.out (by decide)) (fun _ hk => hk.2) (.int .i64 t205)) (fun _ hk => hk.2) (.slice Ao43 t206.length co43)) (fun _ h_ => h_.1)))); (case side2 => exact (Kd.R_reads' HO208.out).2.1); rintro e w44 ⟨v213, rfl, ho0, hb⟩; refine ⟨_, rfl, ?_⟩; have n0_ := Aside0.mk (Kd.R_elder' (by (with_reducible repeat (first | apply Kd.R_alloc | apply Kd.R_drewN | apply Kd.R_drew)); exact (Kd.R_mono (Kd.R_far (p := ⟨gb210, 1, none⟩) (Kd.R_far (p := ⟨gb210, 0, none⟩) (Kd.R_types HO208.out BK210.out (by decide)) (fun _ hk => hk.2) (.int .i64 t205)) (fun _ hk => hk.2) (.slice Ao43 t206.length co43)) (fun _ h_ => h_.1))) (Kd.R_base ho0) hb); have n1_ := Aside0.mk (Kd.R_lower (Kd.R_new' ho0 (Kd.R_lt (by (with_reducible repeat (first | apply Kd.R_alloc | apply Kd.R_drewN | apply Kd.R_drew)); exact (Kd.R_mono (Kd.R_far (p := ⟨gb210, 1, none⟩) (Kd.R_far (p := ⟨gb210, 0, none⟩) (Kd.R_types HO208.out BK210.out (by decide)) (fun _ hk => hk.2) (.int .i64 t205)) (fun _ hk => hk.2) (.slice Ao43 t206.length co43)) (fun _ h_ => h_.1))))) (below_size (by repeat (first | (with_reducible first | exact HB.out | apply below_alloc | apply pw_below_drewN | apply below_drew1 | refine below_set ?_ GE210.out) | exact HB.out)))); have n2_ := Aside0.mk (blk_below (g := gb210) (o := .cells #[.int .i64 t205, .slice Ao43 t206.length co43] 43 (0, 0)) (by (with_reducible repeat (first | refine blk_drewN ?_ _ | refine blk_drew ?_ | refine blk_alloc ?_ _)); refine blk_put (cs := #[.int .i64 t205, .slice none 0 0]) ?_ 1 _ rfl; (with_reducible repeat (first | refine blk_drewN ?_ _ | refine blk_drew ?_ | refine blk_alloc ?_ _)); refine blk_put (cs := #[.int .i64 0, .slice none 0 0]) ?_ 0 _ rfl; (with_reducible repeat (first | refine blk_drewN ?_ _ | refine blk_drew ?_ | refine blk_alloc ?_ _)); exact BK210.out) hb); have n3_ := Aside0.mk (below_step (by repeat (first | (with_reducible first | exact HB.out | apply below_alloc | apply pw_below_drewN | apply below_drew1 | refine below_set ?_ GE210.out) | exact HB.out)) hb); clear HO208; clear BK210; clear HB; have HO208 := n0_; have HO214 := n1_; have BK210 := n2_; have HB := n3_; clear n0_ n1_ n2_ n3_; (try clear hb); (try clear hb2); (try clear hk); (try clear hi); (try clear ho0); have hcz45_0 : w44.cell? ⟨gb210, 0, none⟩ = some (.int .i64 t205) := (blk_cell BK210.out 0).trans rfl; have hcz45_1 : w44.cell? ⟨gb210, 1, none⟩ = some (.slice Ao43 t206.length co43) := (blk_cell BK210.out 1).trans rfl; have hfz45_0 := blk_frozen BK210.out 0; have hfz45_1 := blk_frozen BK210.out 1; obtain ⟨Ao46, co46, eo46⟩ := Kd.R_slice HO214.out; subst eo46) | ((with_reducible refine gate_callee (f := 23) rfl ?_); refine goesL_ (some 17) rfl rfl Try.func23 (by kernel_rfl) rfl #[.agg #[.int .i64 t211, .slice Ao46 t212.length co46], .int .i64 1] rfl (by (try simp only [List.map_toArray, List.map_cons, List.map_nil]); first | done | rfl | (simp only [List.length_drop, List.length_take]; rfl)) ?_; (with_reducible refine (token_Give.calls k t211 _ _ t212 1 t216 t217 t220 _ ?side1 ?side2 A3.out).mono ?_); (case side1 => refine (Kd.R_reads' (e := 3) (base := w.heap.size) (ok := fun k_ => (True ∧ some k_ ≠ (.slice Ao43 t206.length co43 : Value).ownBlock)) (n := t212.length) (c := co46) ?_).2.2; exact (by (with_reducible repeat (first | apply Kd.R_alloc | apply Kd.R_drewN | apply Kd.R_drew)); exact (Kd.R_mono (Kd.R_far (p := ⟨gb210, 1, none⟩) (Kd.R_far (p := ⟨gb210, 0, none⟩) (Kd.R_types HO214.out BK210.out (by decide)) (fun _ hk => hk.2) (.int .i64 t211)) (fun _ hk => hk.2) (.slice Ao46 t212.length co46)) (fun _ h_ => h_.1)))); (case side2 => exact (Kd.R_reads' HO214.out).2.1); rintro e w47 ⟨v218, rfl, ho0, hb⟩; refine ⟨_, rfl, ?_⟩; have n0_ := Aside0.mk (Kd.R_elder' (by (with_reducible repeat (first | apply Kd.R_alloc | apply Kd.R_drewN | apply Kd.R_drew)); exact (Kd.R_mono (Kd.R_far (p := ⟨gb210, 1, none⟩) (Kd.R_far (p := ⟨gb210, 0, none⟩) (Kd.R_types HO208.out BK210.out (by decide)) (fun _ hk => hk.2) (.int .i64 t211)) (fun _ hk => hk.2) (.slice Ao46 t212.length co46)) (fun _ h_ => h_.1))) (Kd.Q_base ho0) hb); have n1_ := Aside0.mk (Kd.R_elder' (by (with_reducible repeat (first | apply Kd.R_alloc | apply Kd.R_drewN | apply Kd.R_drew)); exact (Kd.R_mono (Kd.R_far (p := ⟨gb210, 1, none⟩) (Kd.R_far (p := ⟨gb210, 0, none⟩) (Kd.R_types HO214.out BK210.out (by decide)) (fun _ hk => hk.2) (.int .i64 t211)) (fun _ hk => hk.2) (.slice Ao46 t212.length co46)) (fun _ h_ => h_.1))) (Kd.Q_base ho0) hb); have n2_ := Aside0.mk (Kd.Q_lower (Kd.Q_new' (Kd.Q_new' ho0 (Kd.R_lt (by (with_reducible repeat (first | apply Kd.R_alloc | apply Kd.R_drewN | apply Kd.R_drew)); exact (Kd.R_mono (Kd.R_far (p := ⟨gb210, 1, none⟩) (Kd.R_far (p := ⟨gb210, 0, none⟩) (Kd.R_types HO208.out BK210.out (by decide)) (fun _ hk => hk.2) (.int .i64 t211)) (fun _ hk => hk.2) (.slice Ao46 t212.length co46)) (fun _ h_ => h_.1))))) (Kd.R_lt (by (with_reducible repeat (first | apply Kd.R_alloc | apply Kd.R_drewN | apply Kd.R_drew)); exact (Kd.R_mono (Kd.R_far (p := ⟨gb210, 1, none⟩) (Kd.R_far (p := ⟨gb210, 0, none⟩) (Kd.R_types HO214.out BK210.out (by decide)) (fun _ hk => hk.2) (.int .i64 t211)) (fun _ hk => hk.2) (.slice Ao46 t212.length co46)) (fun _ h_ => h_.1))))) (below_size (by repeat (first | (with_reducible first | exact HB.out | apply below_alloc | apply pw_below_drewN | apply below_drew1 | refine below_set ?_ GE210.out) | exact HB.out)))); have n3_ := Aside0.mk (blk_below (g := gb210) (o := .cells #[.int .i64 t211, .slice Ao46 t212.length co46] 43 (0, 0)) (by (with_reducible repeat (first | refine blk_drewN ?_ _ | refine blk_drew ?_ | refine blk_alloc ?_ _)); refine blk_put (cs := #[.int .i64 t211, .slice Ao43 t206.length co43]) ?_ 1 _ rfl; (with_reducible repeat (first | refine blk_drewN ?_ _ | refine blk_drew ?_ | refine blk_alloc ?_ _)); refine blk_put (cs := #[.int .i64 t205, .slice Ao43 t206.length co43]) ?_ 0 _ rfl; (with_reducible repeat (first | refine blk_drewN ?_ _ | refine blk_drew ?_ | refine blk_alloc ?_ _)); exact BK210.out) hb); have n4_ := Aside0.mk (below_step (by repeat (first | (with_reducible first | exact HB.out | apply below_alloc | apply pw_below_drewN | apply below_drew1 | refine below_set ?_ GE210.out) | exact HB.out)) hb); clear HO208; clear HO214; clear BK210; clear HB; have HO208 := n0_; have HO214 := n1_; have HO219 := n2_; have BK210 := n3_; have HB := n4_; clear n0_ n1_ n2_ n3_ n4_; (try clear hb); (try clear hb2); (try clear hk); (try clear hi); (try clear ho0); have hcz48_0 : w47.cell? ⟨gb210, 0, none⟩ = some (.int .i64 t211) := (blk_cell BK210.out 0).trans rfl; have hcz48_1 : w47.cell? ⟨gb210, 1, none⟩ = some (.slice Ao46 t212.length co46) := (blk_cell BK210.out 1).trans rfl; have hfz48_0 := blk_frozen BK210.out 0; have hfz48_1 := blk_frozen BK210.out 1; obtain ⟨Ao49, co49, eo49, _⟩ := Kd.Q_slice HO219.out; subst eo49) | ((with_reducible refine gate_callee (f := 21) rfl ?_); refine goesL_ (some 21) rfl rfl Try.func21 (by kernel_rfl) rfl #[.int .i64 t209] rfl (by (try simp only [List.map_toArray, List.map_cons, List.map_nil]); first | done | rfl | (simp only [List.length_drop, List.length_take]; rfl)) ?_; (with_reducible refine (beaconlaw21_num.calls t209 t221 _ A4.out).mono ?_); rintro e w' ⟨rfl, ⟨nd, rfl⟩⟩; refine ⟨_, rfl, ?_⟩))
    go_ret
    exact ⟨by first | rfl | (simp [errW_none, errW_some] <;> rfl) | (simp [*, errW_none, errW_some] <;> rfl), by repeat (first | (with_reducible first | exact HB.out | apply below_alloc | apply pw_below_drewN | apply below_drew1 | refine below_set ?_ GE210.out) | exact HB.out)⟩

end Go.Proofs.Ytadjhnlbpgknfaa.P
