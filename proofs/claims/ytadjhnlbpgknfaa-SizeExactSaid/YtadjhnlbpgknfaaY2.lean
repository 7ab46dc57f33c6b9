-- Laid by a program of this session (wip/tools/xp.py) over the kit's print.
import Derived.Test.YtadjhnlbpgknfaaY0
namespace Go.Proofs.Ytadjhnlbpgknfaa.Y
open Go.RowKit Go.Proofs.YtadjhnlbpgknfaaW.PrintWords Go.Proofs.YtadjhnlbpgknfaaW.PrintLast Go.Proofs.YtadjhnlbpgknfaaW.PrintMore
attribute [local go_sem] max2_int min2_int max_two min_two max_three min_three max_four min_four   -- for this text's walks alone
set_option linter.unusedVariables false
set_option linter.unusedSimpArgs false

/-! ### beaconlaw0_Within: function 19 -/
def beaconlaw0_Within.f (a0 : Int) (a1 : Int) : Option (Int) := if (IntKind.u64.wrap (a1)) = 0 then (none) else (some (wrap64 (Int.tmod (IntKind.u64.wrap (a0)) (IntKind.u64.wrap (a1)))))
set_option maxHeartbeats 8000000 in
set_option maxRecDepth 100000 in
theorem beaconlaw0_Within.calls (a0 : Int) (a1 : Int) (r : Int) (w : World) (h : beaconlaw0_Within.f a0 a1 = some r) :
    Calls Try.prog 19 #[.int .i64 a0, .int .i64 a1] w fun e w' => e = .returned (.int .i64 r) ∧ Drawn0 w w' := by
  have H : (if (IntKind.u64.wrap (a1)) = 0 then (none) else (some (wrap64 (Int.tmod (IntKind.u64.wrap (a0)) (IntKind.u64.wrap (a1)))))) = some r := h
  clear h
  by_cases c3 : (IntKind.u64.wrap (a1)) = 0
  · rw [if_pos c3] at H
    exact absurd H (by simp)
  · rw [if_neg c3] at H
    have c3b0 : ((IntKind.u64.wrap (a1)) == 0) = false := beq_eq_false_iff_ne.mpr c3
    have c3b1 : ((IntKind.u64.wrap (a1)) != 0) = true := bne_iff_ne.mpr c3
    obtain rfl := Option.some.inj H
    go_enter Try.func19, Try.ntmps19
    go_wp2
    go_ret
    exact ⟨by first | rfl | (simp; done) | (simp [*]; done), by repeat (first | exact Drawn0.refl _ | apply Drawn0.step)⟩

/-! ### size_May: function 83 -/
mutual
def size_May.j0 : Nat → List (S75) → Bool → Option (Bool)
  | 0, _, _ => none
  | k + 1, x0, x14 => if x14 = true then (some false) else (size_May.l0 k x0 x0 (x0.length : Int) 0)
def size_May.l0 : Nat → List (S75) → List (S75) → Int → Int → Option (Bool)
  | 0, _, _, _, _ => none
  | k + 1, x0, x15, x16, x17 => if x17 < x16 then (if 0 ≤ x17 then (if x17 < (x15.length : Int) then (if ((rd_T75 x15 x17).f0) > 4 then (some false) else (if x17 > 0 then (if 0 ≤ (wrap64 (x17 - 1)) then (if (wrap64 (x17 - 1)) < (x0.length : Int) then (if ((rd_T75 x15 x17).f0) ≤ ((rd_T75 x0 (wrap64 (x17 - 1))).f0) then (some false) else (size_May.l0 k x0 x15 x16 (wrap64 (x17 + 1)))) else (none)) else (none)) else (size_May.l0 k x0 x15 x16 (wrap64 (x17 + 1))))) else (none)) else (none)) else (some true)
end
def size_May.f (k : Nat) (l0 : List (S75)) : Option (Bool) := if (l0.length : Int) = 0 then (size_May.j0 k l0 true) else (if 0 < (l0.length : Int) then (size_May.j0 k l0 (((rd_T75 l0 0).f0) != 0)) else (none))
theorem size_May.mono_l : ∀ k, (∀ y0 y1, LeO (size_May.j0 k y0 y1) (size_May.j0 (k + 1) y0 y1)) ∧ (∀ y0 y1 y2 y3, LeO (size_May.l0 k y0 y1 y2 y3) (size_May.l0 (k + 1) y0 y1 y2 y3))
  | 0 => ⟨fun _ _ r h => by simp [size_May.j0] at h, fun _ _ _ _ r h => by simp [size_May.l0] at h⟩
  | k + 1 => by
    obtain ⟨ih0, ih1⟩ := size_May.mono_l k
    refine ⟨?_, ?_⟩
    · intro y0 y1
      unfold size_May.j0
      repeat' first
      | (with_reducible exact ih0 _ _)
      | (with_reducible exact ih1 _ _ _ _)
      | (with_reducible exact LeO.refl _)
      | (with_reducible exact LeO.none _)
      | (with_reducible refine LeO.ite ?_ ?_)
      | (with_reducible refine LeO.bind ?_ (fun _ => ?_))
      | exact ih0 _ _
      | exact ih1 _ _ _ _
      | exact LeO.none _
      | refine LeO.ite ?_ ?_
      | refine LeO.bind ?_ (fun _ => ?_)
    · intro y0 y1 y2 y3
      unfold size_May.l0
      repeat' first
      | (with_reducible exact ih0 _ _)
      | (with_reducible exact ih1 _ _ _ _)
      | (with_reducible exact LeO.refl _)
      | (with_reducible exact LeO.none _)
      | (with_reducible refine LeO.ite ?_ ?_)
      | (with_reducible refine LeO.bind ?_ (fun _ => ?_))
      | exact ih0 _ _
      | exact ih1 _ _ _ _
      | exact LeO.none _
      | refine LeO.ite ?_ ?_
      | refine LeO.bind ?_ (fun _ => ?_)
theorem size_May.mono : ∀ a0 k, LeO (size_May.f k a0) (size_May.f (k + 1) a0) := by
  intro a0 k
  obtain ⟨ih0, ih1⟩ := size_May.mono_l k
  unfold size_May.f
  repeat' first
      | (with_reducible exact ih0 _ _)
      | (with_reducible exact ih1 _ _ _ _)
      | (with_reducible exact LeO.refl _)
      | (with_reducible exact LeO.none _)
      | (with_reducible refine LeO.ite ?_ ?_)
      | (with_reducible refine LeO.bind ?_ (fun _ => ?_))
      | exact ih0 _ _
      | exact ih1 _ _ _ _
      | exact LeO.none _
      | refine LeO.ite ?_ ?_
      | refine LeO.bind ?_ (fun _ => ?_)
set_option maxHeartbeats 8000000 in
set_option maxRecDepth 100000 in
theorem size_May.calls (k : Nat) (A0 : Option Addr) (c0 : Nat) (l0 : List (S75)) (r : Bool) (w : World) (hr0 : Kd.C k75 w A0 l0.length l0) (hc0 : l0.length ≤ c0) (h : size_May.f k l0 = some r) :
    Calls Try.prog 83 #[.slice A0 l0.length c0] w fun e w' => e = .returned (.bool r) ∧ Below w.heap.size w w' := by
  have hu75 := Try.underlying75
  have HR0 := Aside0.mk hr0
  have HC0 := Aside0.mk hc0
  clear hr0 hc0
  have HB := Aside0.mk (Below.refl w.heap.size w)
  have H : (if (l0.length : Int) = 0 then (size_May.j0 k l0 true) else (if 0 < (l0.length : Int) then (size_May.j0 k l0 (((rd_T75 l0 0).f0) != 0)) else (none))) = some r := h
  clear h
  have HC2 := Aside0.mk H
  clear H
  go_enter Try.func83, Try.ntmps83
  go_upto_region 1 with (fail)
  repeat (go_quiet (fail); go_upto_region 1 with (fail))
  go_cut [14] (fun v14 wc => ∃ (kq : Nat) (x14_1 : Bool), v14 = .bool x14_1 ∧ Aside0 (size_May.j0 kq l0 x14_1 = some r) ∧ Aside0 (kq ≤ k) ∧ Aside0 (Below w.heap.size w wc))
  case first =>
    have H := HC2.out
    clear HC2
    by_cases c3 : (l0.length : Int) = 0
    · rw [if_pos c3] at H
      have c3b0 : ((l0.length : Int) == 0) = true := beq_iff_eq.mpr c3
      have c3b1 : ((l0.length : Int) != 0) = false := bne_eq_false_iff_eq.mpr c3
      clear c3
      (first | rw [c3b0] | (simp only [i64_w, i32_w]; rw [c3b0]) | skip)
      have H' := Aside0.mk H
      clear H
      go_wp2
      repeat (go_quiet (fail); try go_wp2)
      go_meet
      case rel => exact ⟨_, (true), (by first | rfl | (simp; done) | (simp [*]; done)), H', ⟨by first | omega | exact Nat.le_refl _⟩, ⟨by repeat (first | (with_reducible first | exact HB.out | apply below_alloc | apply pw_below_drewN | apply below_drew1) | exact HB.out)⟩⟩
    · rw [if_neg c3] at H
      have c3b0 : ((l0.length : Int) == 0) = false := beq_eq_false_iff_ne.mpr c3
      have c3b1 : ((l0.length : Int) != 0) = true := bne_iff_ne.mpr c3
      have c3b2 : ¬ (l0 = []) := fun h_ => c3 (by rw [h_]; rfl)
      (first | rw [c3b0] | (simp only [i64_w, i32_w]; rw [c3b0]) | skip)
      by_cases c4 : 0 < (l0.length : Int)
      · rw [if_pos c4] at H
        have c4b0 : decide (0 < (l0.length : Int)) = true := decide_eq_true c4
        have c4b1 : decide (0 < l0.length) = true := decide_eq_true (by omega)
        clear c4
        have H' := Aside0.mk H
        clear H
        have p101 : 0 ≤ (0 : Int) := (by omega)
        have q101 : 0 < (l0.length : Int) := of_decide_eq_true (by first | (with_reducible assumption) | assumption)
        obtain ⟨ad101, e101, hx101_0, hx101_1, hx101_2⟩ := at_T75 HR0.out 0 p101 q101
        cases e101
        have qi101 : (0 < l0.length) = True := eq_true (by omega)
        (try rw [show ((0 : Int)).toNat = 0 from rfl] at hx101_0)
        (try rw [show 0 * 3 = 0 from rfl] at hx101_0)
        (try rw [Addr.add_zero'] at hx101_0)
        (try rw [show ((0 : Int)).toNat = 0 from rfl] at hx101_1)
        (try rw [show 0 * 3 = 0 from rfl] at hx101_1)
        (try rw [Addr.add_zero'] at hx101_1)
        (try rw [show ((0 : Int)).toNat = 0 from rfl] at hx101_2)
        (try rw [show 0 * 3 = 0 from rfl] at hx101_2)
        (try rw [Addr.add_zero'] at hx101_2)
        replace hx101_0 := (HB.out.cell (World.block_lt_of_cell? w _ hx101_0)).trans hx101_0
        replace hx101_1 := (HB.out.cell (World.block_lt_of_cell? w _ hx101_1)).trans hx101_1
        replace hx101_2 := (HB.out.cell (World.block_lt_of_cell? w _ hx101_2)).trans hx101_2
        replace p101 := eq_true p101
        replace q101 := eq_true q101
        go_wp2
        repeat (go_quiet (fail); try go_wp2)
        go_meet
        case rel => exact ⟨_, ((((rd_T75 l0 0).f0) != 0)), (by first | rfl | (simp; done) | (simp [*]; done)), H', ⟨by first | omega | exact Nat.le_refl _⟩, ⟨by repeat (first | (with_reducible first | exact HB.out | apply below_alloc | apply pw_below_drewN | apply below_drew1) | exact HB.out)⟩⟩
      · rw [if_neg c4] at H
        exact absurd H (by simp)
  case rest =>
    clear HC2
    try clear p1
    try clear q1
    try clear hx1
    try clear qi1
    try clear p2
    try clear c3
    try clear c3b0
    try clear c3b1
    try clear c3b2
    try clear c4
    try clear c4b0
    try clear c4b1
    try clear hx101_0
    try clear hx101_1
    try clear hx101_2
    try clear p101
    try clear q101
    obtain ⟨kq, x14_1, rfl, HA, HJ1, HB⟩ := hcut
    cases kq with
    | zero => exact absurd HA.out (by simp [size_May.j0])
    | succ kj1 =>
      have H := HA.out
      clear HA
      simp only [size_May.j0] at H
      by_cases c5 : x14_1 = true
      · subst c5
        have H1 : (some false) = some r := by rw [if_pos rfl] at H; exact H
        clear H
        have H := H1
        clear H1
        obtain rfl := Option.some.inj H
        go_wp2
        repeat (go_quiet (fail); try go_wp2)
        go_ret
        exact ⟨by first | rfl | (simp [errW_none, errW_some] <;> rfl) | (simp [*, errW_none, errW_some] <;> rfl), by repeat (first | (with_reducible first | exact HB.out | apply below_alloc | apply pw_below_drewN | apply below_drew1) | exact HB.out)⟩
      · replace c5 := Bool.eq_false_iff.mpr c5
        subst c5
        have H1 : (size_May.l0 kj1 l0 l0 (l0.length : Int) 0) = some r := by rw [if_neg (show ¬ (false = true) by decide)] at H; exact H
        clear H
        have H := H1
        clear H1
        have H' := Aside0.mk H
        clear H
        go_wp2
        repeat (go_quiet (fail); try go_wp2)
        go_loopg [17] kj1 (fun kq v17 w' => ∃ (x17_2 : Int), v17 = .int .i64 x17_2 ∧ Aside0 (size_May.l0 kq l0 l0 (l0.length : Int) x17_2 = some r) ∧ Aside0 (kq ≤ kj1) ∧ Aside0 (Below w.heap.size w w'))
        case atStart => exact ⟨(0), (by first | rfl | (simp; done) | (simp [*]; done)), H', ⟨Nat.le_refl _⟩, ⟨by repeat (first | (with_reducible first | exact HB.out | apply below_alloc | apply pw_below_drewN | apply below_drew1) | exact HB.out)⟩⟩
        case round =>
          clear H'
          try clear p1
          try clear q1
          try clear hx1
          try clear qi1
          try clear p2
          try clear c3
          try clear c3b0
          try clear c3b1
          try clear c3b2
          try clear c4
          try clear c4b0
          try clear c4b1
          try clear c5
          try clear hx101_0
          try clear hx101_1
          try clear hx101_2
          try clear p1
          try clear p101
          try clear p2
          try clear q1
          try clear q101
          obtain ⟨x17_2, rfl, HA, HK2, HB⟩ := hrel
          cases gk with
          | zero => exact absurd HA.out (by simp [size_May.l0])
          | succ k2 =>
            have H := HA.out
            clear HA
            simp only [size_May.l0] at H
            by_cases c6 : x17_2 < (l0.length : Int)
            · rw [if_pos c6] at H
              have c6b0 : decide (x17_2 < (l0.length : Int)) = true := decide_eq_true c6
              clear c6
              by_cases c7 : 0 ≤ x17_2
              · rw [if_pos c7] at H
                have c7b0 : decide (0 ≤ x17_2) = true := decide_eq_true c7
                clear c7
                by_cases c8 : x17_2 < (l0.length : Int)
                · rw [if_pos c8] at H
                  have c8b0 : decide (x17_2 < (l0.length : Int)) = true := decide_eq_true c8
                  clear c8
                  by_cases c9 : ((rd_T75 l0 x17_2).f0) > 4
                  · rw [if_pos c9] at H
                    have c9b0 : decide (4 < ((rd_T75 l0 x17_2).f0)) = true := decide_eq_true c9
                    clear c9
                    obtain rfl := Option.some.inj H
                    have p102 : 0 ≤ (x17_2 : Int) := of_decide_eq_true (by first | (with_reducible assumption) | assumption)
                    have q102 : x17_2 < (l0.length : Int) := of_decide_eq_true (by first | (with_reducible assumption) | assumption)
                    obtain ⟨ad102, e102, hx102_0, hx102_1, hx102_2⟩ := at_T75 HR0.out x17_2 p102 q102
                    cases e102
                    replace hx102_0 := (HB.out.cell (World.block_lt_of_cell? w _ hx102_0)).trans hx102_0
                    replace hx102_1 := (HB.out.cell (World.block_lt_of_cell? w _ hx102_1)).trans hx102_1
                    replace hx102_2 := (HB.out.cell (World.block_lt_of_cell? w _ hx102_2)).trans hx102_2
                    replace p102 := eq_true p102
                    replace q102 := eq_true q102
                    go_wp2_with (first | ((with_reducible refine gate_dst (N := 4) rfl ?_); refine box_event ?hg (N := 4) ?hd (cs := #[.int .i64 0, .int .i64 0, .int .i64 0]) (t := 75) ?hr ?_; (case hd => rfl); (case hg => rfl); (case hr => first | (go_simp; done) | (go_simp; rfl)); intro gb103 hg w10 hbox hb; have n0_ := Aside0.mk (below_step (by repeat (first | (with_reducible first | exact HB.out | apply below_alloc | apply pw_below_drewN | apply below_drew1) | exact HB.out)) hb); have n1_ := Aside0.mk (hbox); have n2_ := Aside0.mk ((by rw [hg]; exact (below_size (by repeat (first | (with_reducible first | exact HB.out | apply below_alloc | apply pw_below_drewN | apply below_drew1) | exact HB.out))) : w.heap.size ≤ gb103)); have n3_ := Aside0.mk ((by rw [hg]; exact (below_size (by repeat (first | (with_reducible first | exact HB.out | apply below_alloc | apply pw_below_drewN | apply below_drew1) | exact HB.out))) : w.heap.size ≤ gb103)); clear HB; have HB := n0_; have BK103 := n1_; have GW103 := n2_; have GE103 := n3_; clear n0_ n1_ n2_ n3_; clear hb hbox hg; have hcz11_0 : w10.cell? ⟨gb103, 0, none⟩ = some (.int .i64 0) := (blk_cell BK103.out 0).trans rfl; have hcz11_1 : w10.cell? ⟨gb103, 1, none⟩ = some (.int .i64 0) := (blk_cell BK103.out 1).trans rfl; have hcz11_2 : w10.cell? ⟨gb103, 2, none⟩ = some (.int .i64 0) := (blk_cell BK103.out 2).trans rfl; have hfz11_0 := blk_frozen BK103.out 0; have hfz11_1 := blk_frozen BK103.out 1; have hfz11_2 := blk_frozen BK103.out 2))
                    repeat (go_quiet (first | ((with_reducible refine gate_dst (N := 4) rfl ?_); refine box_event ?hg (N := 4) ?hd (cs := #[.int .i64 0, .int .i64 0, .int .i64 0]) (t := 75) ?hr ?_; (case hd => rfl); (case hg => rfl); (case hr => first | (go_simp; done) | (go_simp; rfl)); intro gb103 hg w10 hbox hb; have n0_ := Aside0.mk (below_step (by repeat (first | (with_reducible first | exact HB.out | apply below_alloc | apply pw_below_drewN | apply below_drew1) | exact HB.out)) hb); have n1_ := Aside0.mk (hbox); have n2_ := Aside0.mk ((by rw [hg]; exact (below_size (by repeat (first | (with_reducible first | exact HB.out | apply below_alloc | apply pw_below_drewN | apply below_drew1) | exact HB.out))) : w.heap.size ≤ gb103)); have n3_ := Aside0.mk ((by rw [hg]; exact (below_size (by repeat (first | (with_reducible first | exact HB.out | apply below_alloc | apply pw_below_drewN | apply below_drew1) | exact HB.out))) : w.heap.size ≤ gb103)); clear HB; have HB := n0_; have BK103 := n1_; have GW103 := n2_; have GE103 := n3_; clear n0_ n1_ n2_ n3_; clear hb hbox hg; have hcz11_0 : w10.cell? ⟨gb103, 0, none⟩ = some (.int .i64 0) := (blk_cell BK103.out 0).trans rfl; have hcz11_1 : w10.cell? ⟨gb103, 1, none⟩ = some (.int .i64 0) := (blk_cell BK103.out 1).trans rfl; have hcz11_2 : w10.cell? ⟨gb103, 2, none⟩ = some (.int .i64 0) := (blk_cell BK103.out 2).trans rfl; have hfz11_0 := blk_frozen BK103.out 0; have hfz11_1 := blk_frozen BK103.out 1; have hfz11_2 := blk_frozen BK103.out 2)); try go_wp2_with (first | ((with_reducible refine gate_dst (N := 4) rfl ?_); refine box_event ?hg (N := 4) ?hd (cs := #[.int .i64 0, .int .i64 0, .int .i64 0]) (t := 75) ?hr ?_; (case hd => rfl); (case hg => rfl); (case hr => first | (go_simp; done) | (go_simp; rfl)); intro gb103 hg w10 hbox hb; have n0_ := Aside0.mk (below_step (by repeat (first | (with_reducible first | exact HB.out | apply below_alloc | apply pw_below_drewN | apply below_drew1) | exact HB.out)) hb); have n1_ := Aside0.mk (hbox); have n2_ := Aside0.mk ((by rw [hg]; exact (below_size (by repeat (first | (with_reducible first | exact HB.out | apply below_alloc | apply pw_below_drewN | apply below_drew1) | exact HB.out))) : w.heap.size ≤ gb103)); have n3_ := Aside0.mk ((by rw [hg]; exact (below_size (by repeat (first | (with_reducible first | exact HB.out | apply below_alloc | apply pw_below_drewN | apply below_drew1) | exact HB.out))) : w.heap.size ≤ gb103)); clear HB; have HB := n0_; have BK103 := n1_; have GW103 := n2_; have GE103 := n3_; clear n0_ n1_ n2_ n3_; clear hb hbox hg; have hcz11_0 : w10.cell? ⟨gb103, 0, none⟩ = some (.int .i64 0) := (blk_cell BK103.out 0).trans rfl; have hcz11_1 : w10.cell? ⟨gb103, 1, none⟩ = some (.int .i64 0) := (blk_cell BK103.out 1).trans rfl; have hcz11_2 : w10.cell? ⟨gb103, 2, none⟩ = some (.int .i64 0) := (blk_cell BK103.out 2).trans rfl; have hfz11_0 := blk_frozen BK103.out 0; have hfz11_1 := blk_frozen BK103.out 1; have hfz11_2 := blk_frozen BK103.out 2)))
                    go_ret
                    exact ⟨by first | rfl | (simp [errW_none, errW_some] <;> rfl) | (simp [*, errW_none, errW_some] <;> rfl), by repeat (first | (with_reducible first | exact HB.out | apply below_alloc | apply pw_below_drewN | apply below_drew1 | refine below_set ?_ GE103.out) | exact HB.out)⟩
                  · rw [if_neg c9] at H
                    have c9b0 : decide (4 < ((rd_T75 l0 x17_2).f0)) = false := decide_eq_false c9
                    clear c9
                    by_cases c12 : x17_2 > 0
                    · rw [if_pos c12] at H
                      have c12b0 : decide (0 < x17_2) = true := decide_eq_true c12
                      clear c12
                      obtain ⟨ji13, hji13⟩ : ∃ j_ : Int, (wrap64 (x17_2 - 1)) = j_ := ⟨_, rfl⟩
                      replace H : (if 0 ≤ (ji13) then (if (ji13) < (l0.length : Int) then (if ((rd_T75 l0 x17_2).f0) ≤ ((rd_T75 l0 (ji13)).f0) then (some false) else (size_May.l0 k2 l0 l0 (l0.length : Int) (wrap64 (x17_2 + 1)))) else (none)) else (none)) = some r := by first | (rw [hji13] at H; exact H) | (simp only [hji13] at H ⊢; exact H)
                      have hji13w : (IntKind.i64.wrap (x17_2 - 1)) = ji13 := (i64_w _).trans hji13
                      by_cases c14 : 0 ≤ (ji13)
                      · rw [if_pos c14] at H
                        have c14b0 : decide (0 ≤ (ji13)) = true := decide_eq_true c14
                        clear c14
                        by_cases c15 : (ji13) < (l0.length : Int)
                        · rw [if_pos c15] at H
                          have c15b0 : decide ((ji13) < (l0.length : Int)) = true := decide_eq_true c15
                          clear c15
                          by_cases c16 : ((rd_T75 l0 x17_2).f0) ≤ ((rd_T75 l0 (ji13)).f0)
                          · rw [if_pos c16] at H
                            have c16b0 : decide (((rd_T75 l0 x17_2).f0) ≤ ((rd_T75 l0 (ji13)).f0)) = true := decide_eq_true c16
                            clear c16
                            obtain rfl := Option.some.inj H
                            have p102 : 0 ≤ (x17_2 : Int) := of_decide_eq_true (by first | (with_reducible assumption) | assumption)
                            have q102 : x17_2 < (l0.length : Int) := of_decide_eq_true (by first | (with_reducible assumption) | assumption)
                            obtain ⟨ad102, e102, hx102_0, hx102_1, hx102_2⟩ := at_T75 HR0.out x17_2 p102 q102
                            cases e102
                            replace hx102_0 := (HB.out.cell (World.block_lt_of_cell? w _ hx102_0)).trans hx102_0
                            replace hx102_1 := (HB.out.cell (World.block_lt_of_cell? w _ hx102_1)).trans hx102_1
                            replace hx102_2 := (HB.out.cell (World.block_lt_of_cell? w _ hx102_2)).trans hx102_2
                            replace p102 := eq_true p102
                            replace q102 := eq_true q102
                            go_wp2_with (first | ((with_reducible refine gate_dst (N := 4) rfl ?_); refine box_event ?hg (N := 4) ?hd (cs := #[.int .i64 0, .int .i64 0, .int .i64 0]) (t := 75) ?hr ?_; (case hd => rfl); (case hg => rfl); (case hr => first | (go_simp; done) | (go_simp; rfl)); intro gb103 hg w17 hbox hb; have n0_ := Aside0.mk (below_step (by repeat (first | (with_reducible first | exact HB.out | apply below_alloc | apply pw_below_drewN | apply below_drew1) | exact HB.out)) hb); have n1_ := Aside0.mk (hbox); have n2_ := Aside0.mk ((by rw [hg]; exact (below_size (by repeat (first | (with_reducible first | exact HB.out | apply below_alloc | apply pw_below_drewN | apply below_drew1) | exact HB.out))) : w.heap.size ≤ gb103)); have n3_ := Aside0.mk ((by rw [hg]; exact (below_size (by repeat (first | (with_reducible first | exact HB.out | apply below_alloc | apply pw_below_drewN | apply below_drew1) | exact HB.out))) : w.heap.size ≤ gb103)); clear HB; have HB := n0_; have BK103 := n1_; have GW103 := n2_; have GE103 := n3_; clear n0_ n1_ n2_ n3_; clear hb hbox hg; have hcz18_0 : w17.cell? ⟨gb103, 0, none⟩ = some (.int .i64 0) := (blk_cell BK103.out 0).trans rfl; have hcz18_1 : w17.cell? ⟨gb103, 1, none⟩ = some (.int .i64 0) := (blk_cell BK103.out 1).trans rfl; have hcz18_2 : w17.cell? ⟨gb103, 2, none⟩ = some (.int .i64 0) := (blk_cell BK103.out 2).trans rfl; have hfz18_0 := blk_frozen BK103.out 0; have hfz18_1 := blk_frozen BK103.out 1; have hfz18_2 := blk_frozen BK103.out 2; have p104 : 0 ≤ ((ji13) : Int) := of_decide_eq_true (by first | (with_reducible assumption) | assumption); have q104 : (ji13) < (l0.length : Int) := of_decide_eq_true (by first | (with_reducible assumption) | assumption); obtain ⟨ad104, e104, hx104_0, hx104_1, hx104_2⟩ := at_T75 HR0.out (ji13) p104 q104; obtain rfl : ad102 = ad104 := (by injection e104); have hn104_0 : ad102.block ≠ gb103 := Nat.ne_of_lt (Nat.lt_of_lt_of_le (by have := World.block_lt_of_cell? _ _ hx104_0; first | rwa [add_block] at this | exact this) GW103.out); have hn104_1 : ad102.block ≠ gb103 := Nat.ne_of_lt (Nat.lt_of_lt_of_le (by have := World.block_lt_of_cell? _ _ hx104_0; first | rwa [add_block] at this | exact this) GW103.out); have hn104_2 : ad102.block ≠ gb103 := Nat.ne_of_lt (Nat.lt_of_lt_of_le (by have := World.block_lt_of_cell? _ _ hx104_0; first | rwa [add_block] at this | exact this) GW103.out); replace hx104_0 := (HB.out.cell (World.block_lt_of_cell? w _ hx104_0)).trans hx104_0; replace hx104_1 := (HB.out.cell (World.block_lt_of_cell? w _ hx104_1)).trans hx104_1; replace hx104_2 := (HB.out.cell (World.block_lt_of_cell? w _ hx104_2)).trans hx104_2; replace hx104_0 := (cell_far (p := ⟨gb103, 0, none⟩) (by first | (rw [add_block]; exact hn104_0) | (show (Addr.add _ _).block ≠ _; rw [add_block]; exact hn104_0) | exact hn104_0) (.int .i64 ((rd_T75 l0 x17_2).f0))).trans hx104_0; replace hx104_1 := (cell_far (p := ⟨gb103, 0, none⟩) (by first | (rw [add_block]; exact hn104_0) | (show (Addr.add _ _).block ≠ _; rw [add_block]; exact hn104_0) | exact hn104_0) (.int .i64 ((rd_T75 l0 x17_2).f0))).trans hx104_1; replace hx104_2 := (cell_far (p := ⟨gb103, 0, none⟩) (by first | (rw [add_block]; exact hn104_0) | (show (Addr.add _ _).block ≠ _; rw [add_block]; exact hn104_0) | exact hn104_0) (.int .i64 ((rd_T75 l0 x17_2).f0))).trans hx104_2; replace hx104_0 := (cell_far (p := ⟨gb103, 1, none⟩) (by first | (rw [add_block]; exact hn104_1) | (show (Addr.add _ _).block ≠ _; rw [add_block]; exact hn104_1) | exact hn104_1) (.int .i64 ((rd_T75 l0 x17_2).f1))).trans hx104_0; replace hx104_1 := (cell_far (p := ⟨gb103, 1, none⟩) (by first | (rw [add_block]; exact hn104_1) | (show (Addr.add _ _).block ≠ _; rw [add_block]; exact hn104_1) | exact hn104_1) (.int .i64 ((rd_T75 l0 x17_2).f1))).trans hx104_1; replace hx104_2 := (cell_far (p := ⟨gb103, 1, none⟩) (by first | (rw [add_block]; exact hn104_1) | (show (Addr.add _ _).block ≠ _; rw [add_block]; exact hn104_1) | exact hn104_1) (.int .i64 ((rd_T75 l0 x17_2).f1))).trans hx104_2; replace hx104_0 := (cell_far (p := ⟨gb103, 2, none⟩) (by first | (rw [add_block]; exact hn104_2) | (show (Addr.add _ _).block ≠ _; rw [add_block]; exact hn104_2) | exact hn104_2) (.int .i64 ((rd_T75 l0 x17_2).f2))).trans hx104_0; replace hx104_1 := (cell_far (p := ⟨gb103, 2, none⟩) (by first | (rw [add_block]; exact hn104_2) | (show (Addr.add _ _).block ≠ _; rw [add_block]; exact hn104_2) | exact hn104_2) (.int .i64 ((rd_T75 l0 x17_2).f2))).trans hx104_1; replace hx104_2 := (cell_far (p := ⟨gb103, 2, none⟩) (by first | (rw [add_block]; exact hn104_2) | (show (Addr.add _ _).block ≠ _; rw [add_block]; exact hn104_2) | exact hn104_2) (.int .i64 ((rd_T75 l0 x17_2).f2))).trans hx104_2; (try have hy104_0 := fun (n_ : Nat) => (show (((((w17.drewN n_).setCell ⟨gb103, 0, none⟩ (.int .i64 ((rd_T75 l0 x17_2).f0))).setCell ⟨gb103, 1, none⟩ (.int .i64 ((rd_T75 l0 x17_2).f1))).setCell ⟨gb103, 2, none⟩ (.int .i64 ((rd_T75 l0 x17_2).f2)))).cell? _ = some _ from hx104_0)); (try have hy104_1 := fun (n_ : Nat) => (show (((((w17.drewN n_).setCell ⟨gb103, 0, none⟩ (.int .i64 ((rd_T75 l0 x17_2).f0))).setCell ⟨gb103, 1, none⟩ (.int .i64 ((rd_T75 l0 x17_2).f1))).setCell ⟨gb103, 2, none⟩ (.int .i64 ((rd_T75 l0 x17_2).f2)))).cell? _ = some _ from hx104_1)); (try have hy104_2 := fun (n_ : Nat) => (show (((((w17.drewN n_).setCell ⟨gb103, 0, none⟩ (.int .i64 ((rd_T75 l0 x17_2).f0))).setCell ⟨gb103, 1, none⟩ (.int .i64 ((rd_T75 l0 x17_2).f1))).setCell ⟨gb103, 2, none⟩ (.int .i64 ((rd_T75 l0 x17_2).f2)))).cell? _ = some _ from hx104_2)); clear hn104_0; clear hn104_1; clear hn104_2; replace p104 := eq_true p104; replace q104 := eq_true q104))
                            repeat (go_quiet (first | ((with_reducible refine gate_dst (N := 4) rfl ?_); refine box_event ?hg (N := 4) ?hd (cs := #[.int .i64 0, .int .i64 0, .int .i64 0]) (t := 75) ?hr ?_; (case hd => rfl); (case hg => rfl); (case hr => first | (go_simp; done) | (go_simp; rfl)); intro gb103 hg w17 hbox hb; have n0_ := Aside0.mk (below_step (by repeat (first | (with_reducible first | exact HB.out | apply below_alloc | apply pw_below_drewN | apply below_drew1) | exact HB.out)) hb); have n1_ := Aside0.mk (hbox); have n2_ := Aside0.mk ((by rw [hg]; exact (below_size (by repeat (first | (with_reducible first | exact HB.out | apply below_alloc | apply pw_below_drewN | apply below_drew1) | exact HB.out))) : w.heap.size ≤ gb103)); have n3_ := Aside0.mk ((by rw [hg]; exact (below_size (by repeat (first | (with_reducible first | exact HB.out | apply below_alloc | apply pw_below_drewN | apply below_drew1) | exact HB.out))) : w.heap.size ≤ gb103)); clear HB; have HB := n0_; have BK103 := n1_; have GW103 := n2_; have GE103 := n3_; clear n0_ n1_ n2_ n3_; clear hb hbox hg; have hcz18_0 : w17.cell? ⟨gb103, 0, none⟩ = some (.int .i64 0) := (blk_cell BK103.out 0).trans rfl; have hcz18_1 : w17.cell? ⟨gb103, 1, none⟩ = some (.int .i64 0) := (blk_cell BK103.out 1).trans rfl; have hcz18_2 : w17.cell? ⟨gb103, 2, none⟩ = some (.int .i64 0) := (blk_cell BK103.out 2).trans rfl; have hfz18_0 := blk_frozen BK103.out 0; have hfz18_1 := blk_frozen BK103.out 1; have hfz18_2 := blk_frozen BK103.out 2; have p104 : 0 ≤ ((ji13) : Int) := of_decide_eq_true (by first | (with_reducible assumption) | assumption); have q104 : (ji13) < (l0.length : Int) := of_decide_eq_true (by first | (with_reducible assumption) | assumption); obtain ⟨ad104, e104, hx104_0, hx104_1, hx104_2⟩ := at_T75 HR0.out (ji13) p104 q104; obtain rfl : ad102 = ad104 := (by injection e104); have hn104_0 : ad102.block ≠ gb103 := Nat.ne_of_lt (Nat.lt_of_lt_of_le (by have := World.block_lt_of_cell? _ _ hx104_0; first | rwa [add_block] at this | exact this) GW103.out); have hn104_1 : ad102.block ≠ gb103 := Nat.ne_of_lt (Nat.lt_of_lt_of_le (by have := World.block_lt_of_cell? _ _ hx104_0; first | rwa [add_block] at this | exact this) GW103.out); have hn104_2 : ad102.block ≠ gb103 := Nat.ne_of_lt (Nat.lt_of_lt_of_le (by have := World.block_lt_of_cell? _ _ hx104_0; first | rwa [add_block] at this | exact this) GW103.out); replace hx104_0 := (HB.out.cell (World.block_lt_of_cell? w _ hx104_0)).trans hx104_0; replace hx104_1 := (HB.out.cell (World.block_lt_of_cell? w _ hx104_1)).trans hx104_1; replace hx104_2 := (HB.out.cell (World.block_lt_of_cell? w _ hx104_2)).trans hx104_2; replace hx104_0 := (cell_far (p := ⟨gb103, 0, none⟩) (by first | (rw [add_block]; exact hn104_0) | (show (Addr.add _ _).block ≠ _; rw [add_block]; exact hn104_0) | exact hn104_0) (.int .i64 ((rd_T75 l0 x17_2).f0))).trans hx104_0; replace hx104_1 := (cell_far (p := ⟨gb103, 0, none⟩) (by first | (rw [add_block]; exact hn104_0) | (show (Addr.add _ _).block ≠ _; rw [add_block]; exact hn104_0) | exact hn104_0) (.int .i64 ((rd_T75 l0 x17_2).f0))).trans hx104_1; replace hx104_2 := (cell_far (p := ⟨gb103, 0, none⟩) (by first | (rw [add_block]; exact hn104_0) | (show (Addr.add _ _).block ≠ _; rw [add_block]; exact hn104_0) | exact hn104_0) (.int .i64 ((rd_T75 l0 x17_2).f0))).trans hx104_2; replace hx104_0 := (cell_far (p := ⟨gb103, 1, none⟩) (by first | (rw [add_block]; exact hn104_1) | (show (Addr.add _ _).block ≠ _; rw [add_block]; exact hn104_1) | exact hn104_1) (.int .i64 ((rd_T75 l0 x17_2).f1))).trans hx104_0; replace hx104_1 := (cell_far (p := ⟨gb103, 1, none⟩) (by first | (rw [add_block]; exact hn104_1) | (show (Addr.add _ _).block ≠ _; rw [add_block]; exact hn104_1) | exact hn104_1) (.int .i64 ((rd_T75 l0 x17_2).f1))).trans hx104_1; replace hx104_2 := (cell_far (p := ⟨gb103, 1, none⟩) (by first | (rw [add_block]; exact hn104_1) | (show (Addr.add _ _).block ≠ _; rw [add_block]; exact hn104_1) | exact hn104_1) (.int .i64 ((rd_T75 l0 x17_2).f1))).trans hx104_2; replace hx104_0 := (cell_far (p := ⟨gb103, 2, none⟩) (by first | (rw [add_block]; exact hn104_2) | (show (Addr.add _ _).block ≠ _; rw [add_block]; exact hn104_2) | exact hn104_2) (.int .i64 ((rd_T75 l0 x17_2).f2))).trans hx104_0; replace hx104_1 := (cell_far (p := ⟨gb103, 2, none⟩) (by first | (rw [add_block]; exact hn104_2) | (show (Addr.add _ _).block ≠ _; rw [add_block]; exact hn104_2) | exact hn104_2) (.int .i64 ((rd_T75 l0 x17_2).f2))).trans hx104_1; replace hx104_2 := (cell_far (p := ⟨gb103, 2, none⟩) (by first | (rw [add_block]; exact hn104_2) | (show (Addr.add _ _).block ≠ _; rw [add_block]; exact hn104_2) | exact hn104_2) (.int .i64 ((rd_T75 l0 x17_2).f2))).trans hx104_2; (try have hy104_0 := fun (n_ : Nat) => (show (((((w17.drewN n_).setCell ⟨gb103, 0, none⟩ (.int .i64 ((rd_T75 l0 x17_2).f0))).setCell ⟨gb103, 1, none⟩ (.int .i64 ((rd_T75 l0 x17_2).f1))).setCell ⟨gb103, 2, none⟩ (.int .i64 ((rd_T75 l0 x17_2).f2)))).cell? _ = some _ from hx104_0)); (try have hy104_1 := fun (n_ : Nat) => (show (((((w17.drewN n_).setCell ⟨gb103, 0, none⟩ (.int .i64 ((rd_T75 l0 x17_2).f0))).setCell ⟨gb103, 1, none⟩ (.int .i64 ((rd_T75 l0 x17_2).f1))).setCell ⟨gb103, 2, none⟩ (.int .i64 ((rd_T75 l0 x17_2).f2)))).cell? _ = some _ from hx104_1)); (try have hy104_2 := fun (n_ : Nat) => (show (((((w17.drewN n_).setCell ⟨gb103, 0, none⟩ (.int .i64 ((rd_T75 l0 x17_2).f0))).setCell ⟨gb103, 1, none⟩ (.int .i64 ((rd_T75 l0 x17_2).f1))).setCell ⟨gb103, 2, none⟩ (.int .i64 ((rd_T75 l0 x17_2).f2)))).cell? _ = some _ from hx104_2)); clear hn104_0; clear hn104_1; clear hn104_2; replace p104 := eq_true p104; replace q104 := eq_true q104)); try go_wp2_with (first | ((with_reducible refine gate_dst (N := 4) rfl ?_); refine box_event ?hg (N := 4) ?hd (cs := #[.int .i64 0, .int .i64 0, .int .i64 0]) (t := 75) ?hr ?_; (case hd => rfl); (case hg => rfl); (case hr => first | (go_simp; done) | (go_simp; rfl)); intro gb103 hg w17 hbox hb; have n0_ := Aside0.mk (below_step (by repeat (first | (with_reducible first | exact HB.out | apply below_alloc | apply pw_below_drewN | apply below_drew1) | exact HB.out)) hb); have n1_ := Aside0.mk (hbox); have n2_ := Aside0.mk ((by rw [hg]; exact (below_size (by repeat (first | (with_reducible first | exact HB.out | apply below_alloc | apply pw_below_drewN | apply below_drew1) | exact HB.out))) : w.heap.size ≤ gb103)); have n3_ := Aside0.mk ((by rw [hg]; exact (below_size (by repeat (first | (with_reducible first | exact HB.out | apply below_alloc | apply pw_below_drewN | apply below_drew1) | exact HB.out))) : w.heap.size ≤ gb103)); clear HB; have HB := n0_; have BK103 := n1_; have GW103 := n2_; have GE103 := n3_; clear n0_ n1_ n2_ n3_; clear hb hbox hg; have hcz18_0 : w17.cell? ⟨gb103, 0, none⟩ = some (.int .i64 0) := (blk_cell BK103.out 0).trans rfl; have hcz18_1 : w17.cell? ⟨gb103, 1, none⟩ = some (.int .i64 0) := (blk_cell BK103.out 1).trans rfl; have hcz18_2 : w17.cell? ⟨gb103, 2, none⟩ = some (.int .i64 0) := (blk_cell BK103.out 2).trans rfl; have hfz18_0 := blk_frozen BK103.out 0; have hfz18_1 := blk_frozen BK103.out 1; have hfz18_2 := blk_frozen BK103.out 2; have p104 : 0 ≤ ((ji13) : Int) := of_decide_eq_true (by first | (with_reducible assumption) | assumption); have q104 : (ji13) < (l0.length : Int) := of_decide_eq_true (by first | (with_reducible assumption) | assumption); obtain ⟨ad104, e104, hx104_0, hx104_1, hx104_2⟩ := at_T75 HR0.out (ji13) p104 q104; obtain rfl : ad102 = ad104 := (by injection e104); have hn104_0 : ad102.block ≠ gb103 := Nat.ne_of_lt (Nat.lt_of_lt_of_le (by have := World.block_lt_of_cell? _ _ hx104_0; first | rwa [add_block] at this | exact this) GW103.out); have hn104_1 : ad102.block ≠ gb103 := Nat.ne_of_lt (Nat.lt_of_lt_of_le (by have := World.block_lt_of_cell? _ _ hx104_0; first | rwa [add_block] at this | exact this) GW103.out); have hn104_2 : ad102.block ≠ gb103 := Nat.ne_of_lt (Nat.lt_of_lt_of_le (by have := World.block_lt_of_cell? _ _ hx104_0; first | rwa [add_block] at this | exact this) GW103.out); replace hx104_0 := (HB.out.cell (World.block_lt_of_cell? w _ hx104_0)).trans hx104_0; replace hx104_1 := (HB.out.cell (World.block_lt_of_cell? w _ hx104_1)).trans hx104_1; replace hx104_2 := (HB.out.cell (World.block_lt_of_cell? w _ hx104_2)).trans hx104_2; replace hx104_0 := (cell_far (p := ⟨gb103, 0, none⟩) (by first | (rw [add_block]; exact hn104_0) | (show (Addr.add _ _).block ≠ _; rw [add_block]; exact hn104_0) | exact hn104_0) (.int .i64 ((rd_T75 l0 x17_2).f0))).trans hx104_0; replace hx104_1 := (cell_far (p := ⟨gb103, 0, none⟩) (by first | (rw [add_block]; exact hn104_0) | (show (Addr.add _ _).block ≠ _; rw [add_block]; exact hn104_0) | exact hn104_0) (.int .i64 ((rd_T75 l0 x17_2).f0))).trans hx104_1; replace hx104_2 := (cell_far (p := ⟨gb103, 0, none⟩) (by first | (rw [add_block]; exact hn104_0) | (show (Addr.add _ _).block ≠ _; rw [add_block]; exact hn104_0) | exact hn104_0) (.int .i64 ((rd_T75 l0 x17_2).f0))).trans hx104_2; replace hx104_0 := (cell_far (p := ⟨gb103, 1, none⟩) (by first | (rw [add_block]; exact hn104_1) | (show (Addr.add _ _).block ≠ _; rw [add_block]; exact hn104_1) | exact hn104_1) (.int .i64 ((rd_T75 l0 x17_2).f1))).trans hx104_0; replace hx104_1 := (cell_far (p := ⟨gb103, 1, none⟩) (by first | (rw [add_block]; exact hn104_1) | (show (Addr.add _ _).block ≠ _; rw [add_block]; exact hn104_1) | exact hn104_1) (.int .i64 ((rd_T75 l0 x17_2).f1))).trans hx104_1; replace hx104_2 := (cell_far (p := ⟨gb103, 1, none⟩) (by first | (rw [add_block]; exact hn104_1) | (show (Addr.add _ _).block ≠ _; rw [add_block]; exact hn104_1) | exact hn104_1) (.int .i64 ((rd_T75 l0 x17_2).f1))).trans hx104_2; replace hx104_0 := (cell_far (p := ⟨gb103, 2, none⟩) (by first | (rw [add_block]; exact hn104_2) | (show (Addr.add _ _).block ≠ _; rw [add_block]; exact hn104_2) | exact hn104_2) (.int .i64 ((rd_T75 l0 x17_2).f2))).trans hx104_0; replace hx104_1 := (cell_far (p := ⟨gb103, 2, none⟩) (by first | (rw [add_block]; exact hn104_2) | (show (Addr.add _ _).block ≠ _; rw [add_block]; exact hn104_2) | exact hn104_2) (.int .i64 ((rd_T75 l0 x17_2).f2))).trans hx104_1; replace hx104_2 := (cell_far (p := ⟨gb103, 2, none⟩) (by first | (rw [add_block]; exact hn104_2) | (show (Addr.add _ _).block ≠ _; rw [add_block]; exact hn104_2) | exact hn104_2) (.int .i64 ((rd_T75 l0 x17_2).f2))).trans hx104_2; (try have hy104_0 := fun (n_ : Nat) => (show (((((w17.drewN n_).setCell ⟨gb103, 0, none⟩ (.int .i64 ((rd_T75 l0 x17_2).f0))).setCell ⟨gb103, 1, none⟩ (.int .i64 ((rd_T75 l0 x17_2).f1))).setCell ⟨gb103, 2, none⟩ (.int .i64 ((rd_T75 l0 x17_2).f2)))).cell? _ = some _ from hx104_0)); (try have hy104_1 := fun (n_ : Nat) => (show (((((w17.drewN n_).setCell ⟨gb103, 0, none⟩ (.int .i64 ((rd_T75 l0 x17_2).f0))).setCell ⟨gb103, 1, none⟩ (.int .i64 ((rd_T75 l0 x17_2).f1))).setCell ⟨gb103, 2, none⟩ (.int .i64 ((rd_T75 l0 x17_2).f2)))).cell? _ = some _ from hx104_1)); (try have hy104_2 := fun (n_ : Nat) => (show (((((w17.drewN n_).setCell ⟨gb103, 0, none⟩ (.int .i64 ((rd_T75 l0 x17_2).f0))).setCell ⟨gb103, 1, none⟩ (.int .i64 ((rd_T75 l0 x17_2).f1))).setCell ⟨gb103, 2, none⟩ (.int .i64 ((rd_T75 l0 x17_2).f2)))).cell? _ = some _ from hx104_2)); clear hn104_0; clear hn104_1; clear hn104_2; replace p104 := eq_true p104; replace q104 := eq_true q104)))
                            go_ret
                            exact ⟨by first | rfl | (simp [errW_none, errW_some] <;> rfl) | (simp only [← hji13]; first | rfl | (simp [errW_none, errW_some] <;> rfl)) | (simp [*, errW_none, errW_some] <;> rfl), by repeat (first | (with_reducible first | exact HB.out | apply below_alloc | apply pw_below_drewN | apply below_drew1 | refine below_set ?_ GE103.out) | exact HB.out)⟩
                          · rw [if_neg c16] at H
                            have c16b0 : decide (((rd_T75 l0 x17_2).f0) ≤ ((rd_T75 l0 (ji13)).f0)) = false := decide_eq_false c16
                            clear c16
                            have H' := Aside0.mk H
                            clear H
                            have p102 : 0 ≤ (x17_2 : Int) := of_decide_eq_true (by first | (with_reducible assumption) | assumption)
                            have q102 : x17_2 < (l0.length : Int) := of_decide_eq_true (by first | (with_reducible assumption) | assumption)
                            obtain ⟨ad102, e102, hx102_0, hx102_1, hx102_2⟩ := at_T75 HR0.out x17_2 p102 q102
                            cases e102
                            replace hx102_0 := (HB.out.cell (World.block_lt_of_cell? w _ hx102_0)).trans hx102_0
                            replace hx102_1 := (HB.out.cell (World.block_lt_of_cell? w _ hx102_1)).trans hx102_1
                            replace hx102_2 := (HB.out.cell (World.block_lt_of_cell? w _ hx102_2)).trans hx102_2
                            replace p102 := eq_true p102
                            replace q102 := eq_true q102
                            go_wp2_with (first | ((with_reducible refine gate_dst (N := 4) rfl ?_); refine box_event ?hg (N := 4) ?hd (cs := #[.int .i64 0, .int .i64 0, .int .i64 0]) (t := 75) ?hr ?_; (case hd => rfl); (case hg => rfl); (case hr => first | (go_simp; done) | (go_simp; rfl)); intro gb103 hg w19 hbox hb; have n0_ := Aside0.mk (below_step (by repeat (first | (with_reducible first | exact HB.out | apply below_alloc | apply pw_below_drewN | apply below_drew1) | exact HB.out)) hb); have n1_ := Aside0.mk (hbox); have n2_ := Aside0.mk ((by rw [hg]; exact (below_size (by repeat (first | (with_reducible first | exact HB.out | apply below_alloc | apply pw_below_drewN | apply below_drew1) | exact HB.out))) : w.heap.size ≤ gb103)); have n3_ := Aside0.mk ((by rw [hg]; exact (below_size (by repeat (first | (with_reducible first | exact HB.out | apply below_alloc | apply pw_below_drewN | apply below_drew1) | exact HB.out))) : w.heap.size ≤ gb103)); clear HB; have HB := n0_; have BK103 := n1_; have GW103 := n2_; have GE103 := n3_; clear n0_ n1_ n2_ n3_; clear hb hbox hg; have hcz20_0 : w19.cell? ⟨gb103, 0, none⟩ = some (.int .i64 0) := (blk_cell BK103.out 0).trans rfl; have hcz20_1 : w19.cell? ⟨gb103, 1, none⟩ = some (.int .i64 0) := (blk_cell BK103.out 1).trans rfl; have hcz20_2 : w19.cell? ⟨gb103, 2, none⟩ = some (.int .i64 0) := (blk_cell BK103.out 2).trans rfl; have hfz20_0 := blk_frozen BK103.out 0; have hfz20_1 := blk_frozen BK103.out 1; have hfz20_2 := blk_frozen BK103.out 2; have p104 : 0 ≤ ((ji13) : Int) := of_decide_eq_true (by first | (with_reducible assumption) | assumption); have q104 : (ji13) < (l0.length : Int) := of_decide_eq_true (by first | (with_reducible assumption) | assumption); obtain ⟨ad104, e104, hx104_0, hx104_1, hx104_2⟩ := at_T75 HR0.out (ji13) p104 q104; obtain rfl : ad102 = ad104 := (by injection e104); have hn104_0 : ad102.block ≠ gb103 := Nat.ne_of_lt (Nat.lt_of_lt_of_le (by have := World.block_lt_of_cell? _ _ hx104_0; first | rwa [add_block] at this | exact this) GW103.out); have hn104_1 : ad102.block ≠ gb103 := Nat.ne_of_lt (Nat.lt_of_lt_of_le (by have := World.block_lt_of_cell? _ _ hx104_0; first | rwa [add_block] at this | exact this) GW103.out); have hn104_2 : ad102.block ≠ gb103 := Nat.ne_of_lt (Nat.lt_of_lt_of_le (by have := World.block_lt_of_cell? _ _ hx104_0; first | rwa [add_block] at this | exact this) GW103.out); replace hx104_0 := (HB.out.cell (World.block_lt_of_cell? w _ hx104_0)).trans hx104_0; replace hx104_1 := (HB.out.cell (World.block_lt_of_cell? w _ hx104_1)).trans hx104_1; replace hx104_2 := (HB.out.cell (World.block_lt_of_cell? w _ hx104_2)).trans hx104_2; replace hx104_0 := (cell_far (p := ⟨gb103, 0, none⟩) (by first | (rw [add_block]; exact hn104_0) | (show (Addr.add _ _).block ≠ _; rw [add_block]; exact hn104_0) | exact hn104_0) (.int .i64 ((rd_T75 l0 x17_2).f0))).trans hx104_0; replace hx104_1 := (cell_far (p := ⟨gb103, 0, none⟩) (by first | (rw [add_block]; exact hn104_0) | (show (Addr.add _ _).block ≠ _; rw [add_block]; exact hn104_0) | exact hn104_0) (.int .i64 ((rd_T75 l0 x17_2).f0))).trans hx104_1; replace hx104_2 := (cell_far (p := ⟨gb103, 0, none⟩) (by first | (rw [add_block]; exact hn104_0) | (show (Addr.add _ _).block ≠ _; rw [add_block]; exact hn104_0) | exact hn104_0) (.int .i64 ((rd_T75 l0 x17_2).f0))).trans hx104_2; replace hx104_0 := (cell_far (p := ⟨gb103, 1, none⟩) (by first | (rw [add_block]; exact hn104_1) | (show (Addr.add _ _).block ≠ _; rw [add_block]; exact hn104_1) | exact hn104_1) (.int .i64 ((rd_T75 l0 x17_2).f1))).trans hx104_0; replace hx104_1 := (cell_far (p := ⟨gb103, 1, none⟩) (by first | (rw [add_block]; exact hn104_1) | (show (Addr.add _ _).block ≠ _; rw [add_block]; exact hn104_1) | exact hn104_1) (.int .i64 ((rd_T75 l0 x17_2).f1))).trans hx104_1; replace hx104_2 := (cell_far (p := ⟨gb103, 1, none⟩) (by first | (rw [add_block]; exact hn104_1) | (show (Addr.add _ _).block ≠ _; rw [add_block]; exact hn104_1) | exact hn104_1) (.int .i64 ((rd_T75 l0 x17_2).f1))).trans hx104_2; replace hx104_0 := (cell_far (p := ⟨gb103, 2, none⟩) (by first | (rw [add_block]; exact hn104_2) | (show (Addr.add _ _).block ≠ _; rw [add_block]; exact hn104_2) | exact hn104_2) (.int .i64 ((rd_T75 l0 x17_2).f2))).trans hx104_0; replace hx104_1 := (cell_far (p := ⟨gb103, 2, none⟩) (by first | (rw [add_block]; exact hn104_2) | (show (Addr.add _ _).block ≠ _; rw [add_block]; exact hn104_2) | exact hn104_2) (.int .i64 ((rd_T75 l0 x17_2).f2))).trans hx104_1; replace hx104_2 := (cell_far (p := ⟨gb103, 2, none⟩) (by first | (rw [add_block]; exact hn104_2) | (show (Addr.add _ _).block ≠ _; rw [add_block]; exact hn104_2) | exact hn104_2) (.int .i64 ((rd_T75 l0 x17_2).f2))).trans hx104_2; (try have hy104_0 := fun (n_ : Nat) => (show (((((w19.drewN n_).setCell ⟨gb103, 0, none⟩ (.int .i64 ((rd_T75 l0 x17_2).f0))).setCell ⟨gb103, 1, none⟩ (.int .i64 ((rd_T75 l0 x17_2).f1))).setCell ⟨gb103, 2, none⟩ (.int .i64 ((rd_T75 l0 x17_2).f2)))).cell? _ = some _ from hx104_0)); (try have hy104_1 := fun (n_ : Nat) => (show (((((w19.drewN n_).setCell ⟨gb103, 0, none⟩ (.int .i64 ((rd_T75 l0 x17_2).f0))).setCell ⟨gb103, 1, none⟩ (.int .i64 ((rd_T75 l0 x17_2).f1))).setCell ⟨gb103, 2, none⟩ (.int .i64 ((rd_T75 l0 x17_2).f2)))).cell? _ = some _ from hx104_1)); (try have hy104_2 := fun (n_ : Nat) => (show (((((w19.drewN n_).setCell ⟨gb103, 0, none⟩ (.int .i64 ((rd_T75 l0 x17_2).f0))).setCell ⟨gb103, 1, none⟩ (.int .i64 ((rd_T75 l0 x17_2).f1))).setCell ⟨gb103, 2, none⟩ (.int .i64 ((rd_T75 l0 x17_2).f2)))).cell? _ = some _ from hx104_2)); clear hn104_0; clear hn104_1; clear hn104_2; replace p104 := eq_true p104; replace q104 := eq_true q104))
                            repeat (go_quiet (first | ((with_reducible refine gate_dst (N := 4) rfl ?_); refine box_event ?hg (N := 4) ?hd (cs := #[.int .i64 0, .int .i64 0, .int .i64 0]) (t := 75) ?hr ?_; (case hd => rfl); (case hg => rfl); (case hr => first | (go_simp; done) | (go_simp; rfl)); intro gb103 hg w19 hbox hb; have n0_ := Aside0.mk (below_step (by repeat (first | (with_reducible first | exact HB.out | apply below_alloc | apply pw_below_drewN | apply below_drew1) | exact HB.out)) hb); have n1_ := Aside0.mk (hbox); have n2_ := Aside0.mk ((by rw [hg]; exact (below_size (by repeat (first | (with_reducible first | exact HB.out | apply below_alloc | apply pw_below_drewN | apply below_drew1) | exact HB.out))) : w.heap.size ≤ gb103)); have n3_ := Aside0.mk ((by rw [hg]; exact (below_size (by repeat (first | (with_reducible first | exact HB.out | apply below_alloc | apply pw_below_drewN | apply below_drew1) | exact HB.out))) : w.heap.size ≤ gb103)); clear HB; have HB := n0_; have BK103 := n1_; have GW103 := n2_; have GE103 := n3_; clear n0_ n1_ n2_ n3_; clear hb hbox hg; have hcz20_0 : w19.cell? ⟨gb103, 0, none⟩ = some (.int .i64 0) := (blk_cell BK103.out 0).trans rfl; have hcz20_1 : w19.cell? ⟨gb103, 1, none⟩ = some (.int .i64 0) := (blk_cell BK103.out 1).trans rfl; have hcz20_2 : w19.cell? ⟨gb103, 2, none⟩ = some (.int .i64 0) := (blk_cell BK103.out 2).trans rfl; have hfz20_0 := blk_frozen BK103.out 0; have hfz20_1 := blk_frozen BK103.out 1; have hfz20_2 := blk_frozen BK103.out 2; have p104 : 0 ≤ ((ji13) : Int) := of_decide_eq_true (by first | (with_reducible assumption) | assumption); have q104 : (ji13) < (l0.length : Int) := of_decide_eq_true (by first | (with_reducible assumption) | assumption); obtain ⟨ad104, e104, hx104_0, hx104_1, hx104_2⟩ := at_T75 HR0.out (ji13) p104 q104; obtain rfl : ad102 = ad104 := (by injection e104); have hn104_0 : ad102.block ≠ gb103 := Nat.ne_of_lt (Nat.lt_of_lt_of_le (by have := World.block_lt_of_cell? _ _ hx104_0; first | rwa [add_block] at this | exact this) GW103.out); have hn104_1 : ad102.block ≠ gb103 := Nat.ne_of_lt (Nat.lt_of_lt_of_le (by have := World.block_lt_of_cell? _ _ hx104_0; first | rwa [add_block] at this | exact this) GW103.out); have hn104_2 : ad102.block ≠ gb103 := Nat.ne_of_lt (Nat.lt_of_lt_of_le (by have := World.block_lt_of_cell? _ _ hx104_0; first | rwa [add_block] at this | exact this) GW103.out); replace hx104_0 := (HB.out.cell (World.block_lt_of_cell? w _ hx104_0)).trans hx104_0; replace hx104_1 := (HB.out.cell (World.block_lt_of_cell? w _ hx104_1)).trans hx104_1; replace hx104_2 := (HB.out.cell (World.block_lt_of_cell? w _ hx104_2)).trans hx104_2; replace hx104_0 := (cell_far (p := ⟨gb103, 0, none⟩) (by first | (rw [add_block]; exact hn104_0) | (show (Addr.add _ _).block ≠ _; rw [add_block]; exact hn104_0) | exact hn104_0) (.int .i64 ((rd_T75 l0 x17_2).f0))).trans hx104_0; replace hx104_1 := (cell_far (p := ⟨gb103, 0, none⟩) (by first | (rw [add_block]; exact hn104_0) | (show (Addr.add _ _).block ≠ _; rw [add_block]; exact hn104_0) | exact hn104_0) (.int .i64 ((rd_T75 l0 x17_2).f0))).trans hx104_1; replace hx104_2 := (cell_far (p := ⟨gb103, 0, none⟩) (by first | (rw [add_block]; exact hn104_0) | (show (Addr.add _ _).block ≠ _; rw [add_block]; exact hn104_0) | exact hn104_0) (.int .i64 ((rd_T75 l0 x17_2).f0))).trans hx104_2; replace hx104_0 := (cell_far (p := ⟨gb103, 1, none⟩) (by first | (rw [add_block]; exact hn104_1) | (show (Addr.add _ _).block ≠ _; rw [add_block]; exact hn104_1) | exact hn104_1) (.int .i64 ((rd_T75 l0 x17_2).f1))).trans hx104_0; replace hx104_1 := (cell_far (p := ⟨gb103, 1, none⟩) (by first | (rw [add_block]; exact hn104_1) | (show (Addr.add _ _).block ≠ _; rw [add_block]; exact hn104_1) | exact hn104_1) (.int .i64 ((rd_T75 l0 x17_2).f1))).trans hx104_1; replace hx104_2 := (cell_far (p := ⟨gb103, 1, none⟩) (by first | (rw [add_block]; exact hn104_1) | (show (Addr.add _ _).block ≠ _; rw [add_block]; exact hn104_1) | exact hn104_1) (.int .i64 ((rd_T75 l0 x17_2).f1))).trans hx104_2; replace hx104_0 := (cell_far (p := ⟨gb103, 2, none⟩) (by first | (rw [add_block]; exact hn104_2) | (show (Addr.add _ _).block ≠ _; rw [add_block]; exact hn104_2) | exact hn104_2) (.int .i64 ((rd_T75 l0 x17_2).f2))).trans hx104_0; replace hx104_1 := (cell_far (p := ⟨gb103, 2, none⟩) (by first | (rw [add_block]; exact hn104_2) | (show (Addr.add _ _).block ≠ _; rw [add_block]; exact hn104_2) | exact hn104_2) (.int .i64 ((rd_T75 l0 x17_2).f2))).trans hx104_1; replace hx104_2 := (cell_far (p := ⟨gb103, 2, none⟩) (by first | (rw [add_block]; exact hn104_2) | (show (Addr.add _ _).block ≠ _; rw [add_block]; exact hn104_2) | exact hn104_2) (.int .i64 ((rd_T75 l0 x17_2).f2))).trans hx104_2; (try have hy104_0 := fun (n_ : Nat) => (show (((((w19.drewN n_).setCell ⟨gb103, 0, none⟩ (.int .i64 ((rd_T75 l0 x17_2).f0))).setCell ⟨gb103, 1, none⟩ (.int .i64 ((rd_T75 l0 x17_2).f1))).setCell ⟨gb103, 2, none⟩ (.int .i64 ((rd_T75 l0 x17_2).f2)))).cell? _ = some _ from hx104_0)); (try have hy104_1 := fun (n_ : Nat) => (show (((((w19.drewN n_).setCell ⟨gb103, 0, none⟩ (.int .i64 ((rd_T75 l0 x17_2).f0))).setCell ⟨gb103, 1, none⟩ (.int .i64 ((rd_T75 l0 x17_2).f1))).setCell ⟨gb103, 2, none⟩ (.int .i64 ((rd_T75 l0 x17_2).f2)))).cell? _ = some _ from hx104_1)); (try have hy104_2 := fun (n_ : Nat) => (show (((((w19.drewN n_).setCell ⟨gb103, 0, none⟩ (.int .i64 ((rd_T75 l0 x17_2).f0))).setCell ⟨gb103, 1, none⟩ (.int .i64 ((rd_T75 l0 x17_2).f1))).setCell ⟨gb103, 2, none⟩ (.int .i64 ((rd_T75 l0 x17_2).f2)))).cell? _ = some _ from hx104_2)); clear hn104_0; clear hn104_1; clear hn104_2; replace p104 := eq_true p104; replace q104 := eq_true q104)); try go_wp2_with (first | ((with_reducible refine gate_dst (N := 4) rfl ?_); refine box_event ?hg (N := 4) ?hd (cs := #[.int .i64 0, .int .i64 0, .int .i64 0]) (t := 75) ?hr ?_; (case hd => rfl); (case hg => rfl); (case hr => first | (go_simp; done) | (go_simp; rfl)); intro gb103 hg w19 hbox hb; have n0_ := Aside0.mk (below_step (by repeat (first | (with_reducible first | exact HB.out | apply below_alloc | apply pw_below_drewN | apply below_drew1) | exact HB.out)) hb); have n1_ := Aside0.mk (hbox); have n2_ := Aside0.mk ((by rw [hg]; exact (below_size (by repeat (first | (with_reducible first | exact HB.out | apply below_alloc | apply pw_below_drewN | apply below_drew1) | exact HB.out))) : w.heap.size ≤ gb103)); have n3_ := Aside0.mk ((by rw [hg]; exact (below_size (by repeat (first | (with_reducible first | exact HB.out | apply below_alloc | apply pw_below_drewN | apply below_drew1) | exact HB.out))) : w.heap.size ≤ gb103)); clear HB; have HB := n0_; have BK103 := n1_; have GW103 := n2_; have GE103 := n3_; clear n0_ n1_ n2_ n3_; clear hb hbox hg; have hcz20_0 : w19.cell? ⟨gb103, 0, none⟩ = some (.int .i64 0) := (blk_cell BK103.out 0).trans rfl; have hcz20_1 : w19.cell? ⟨gb103, 1, none⟩ = some (.int .i64 0) := (blk_cell BK103.out 1).trans rfl; have hcz20_2 : w19.cell? ⟨gb103, 2, none⟩ = some (.int .i64 0) := (blk_cell BK103.out 2).trans rfl; have hfz20_0 := blk_frozen BK103.out 0; have hfz20_1 := blk_frozen BK103.out 1; have hfz20_2 := blk_frozen BK103.out 2; have p104 : 0 ≤ ((ji13) : Int) := of_decide_eq_true (by first | (with_reducible assumption) | assumption); have q104 : (ji13) < (l0.length : Int) := of_decide_eq_true (by first | (with_reducible assumption) | assumption); obtain ⟨ad104, e104, hx104_0, hx104_1, hx104_2⟩ := at_T75 HR0.out (ji13) p104 q104; obtain rfl : ad102 = ad104 := (by injection e104); have hn104_0 : ad102.block ≠ gb103 := Nat.ne_of_lt (Nat.lt_of_lt_of_le (by have := World.block_lt_of_cell? _ _ hx104_0; first | rwa [add_block] at this | exact this) GW103.out); have hn104_1 : ad102.block ≠ gb103 := Nat.ne_of_lt (Nat.lt_of_lt_of_le (by have := World.block_lt_of_cell? _ _ hx104_0; first | rwa [add_block] at this | exact this) GW103.out); have hn104_2 : ad102.block ≠ gb103 := Nat.ne_of_lt (Nat.lt_of_lt_of_le (by have := World.block_lt_of_cell? _ _ hx104_0; first | rwa [add_block] at this | exact this) GW103.out); replace hx104_0 := (HB.out.cell (World.block_lt_of_cell? w _ hx104_0)).trans hx104_0; replace hx104_1 := (HB.out.cell (World.block_lt_of_cell? w _ hx104_1)).trans hx104_1; replace hx104_2 := (HB.out.cell (World.block_lt_of_cell? w _ hx104_2)).trans hx104_2; replace hx104_0 := (cell_far (p := ⟨gb103, 0, none⟩) (by first | (rw [add_block]; exact hn104_0) | (show (Addr.add _ _).block ≠ _; rw [add_block]; exact hn104_0) | exact hn104_0) (.int .i64 ((rd_T75 l0 x17_2).f0))).trans hx104_0; replace hx104_1 := (cell_far (p := ⟨gb103, 0, none⟩) (by first | (rw [add_block]; exact hn104_0) | (show (Addr.add _ _).block ≠ _; rw [add_block]; exact hn104_0) | exact hn104_0) (.int .i64 ((rd_T75 l0 x17_2).f0))).trans hx104_1; replace hx104_2 := (cell_far (p := ⟨gb103, 0, none⟩) (by first | (rw [add_block]; exact hn104_0) | (show (Addr.add _ _).block ≠ _; rw [add_block]; exact hn104_0) | exact hn104_0) (.int .i64 ((rd_T75 l0 x17_2).f0))).trans hx104_2; replace hx104_0 := (cell_far (p := ⟨gb103, 1, none⟩) (by first | (rw [add_block]; exact hn104_1) | (show (Addr.add _ _).block ≠ _; rw [add_block]; exact hn104_1) | exact hn104_1) (.int .i64 ((rd_T75 l0 x17_2).f1))).trans hx104_0; replace hx104_1 := (cell_far (p := ⟨gb103, 1, none⟩) (by first | (rw [add_block]; exact hn104_1) | (show (Addr.add _ _).block ≠ _; rw [add_block]; exact hn104_1) | exact hn104_1) (.int .i64 ((rd_T75 l0 x17_2).f1))).trans hx104_1; replace hx104_2 := (cell_far (p := ⟨gb103, 1, none⟩) (by first | (rw [add_block]; exact hn104_1) | (show (Addr.add _ _).block ≠ _; rw [add_block]; exact hn104_1) | exact hn104_1) (.int .i64 ((rd_T75 l0 x17_2).f1))).trans hx104_2; replace hx104_0 := (cell_far (p := ⟨gb103, 2, none⟩) (by first | (rw [add_block]; exact hn104_2) | (show (Addr.add _ _).block ≠ _; rw [add_block]; exact hn104_2) | exact hn104_2) (.int .i64 ((rd_T75 l0 x17_2).f2))).trans hx104_0; replace hx104_1 := (cell_far (p := ⟨gb103, 2, none⟩) (by first | (rw [add_block]; exact hn104_2) | (show (Addr.add _ _).block ≠ _; rw [add_block]; exact hn104_2) | exact hn104_2) (.int .i64 ((rd_T75 l0 x17_2).f2))).trans hx104_1; replace hx104_2 := (cell_far (p := ⟨gb103, 2, none⟩) (by first | (rw [add_block]; exact hn104_2) | (show (Addr.add _ _).block ≠ _; rw [add_block]; exact hn104_2) | exact hn104_2) (.int .i64 ((rd_T75 l0 x17_2).f2))).trans hx104_2; (try have hy104_0 := fun (n_ : Nat) => (show (((((w19.drewN n_).setCell ⟨gb103, 0, none⟩ (.int .i64 ((rd_T75 l0 x17_2).f0))).setCell ⟨gb103, 1, none⟩ (.int .i64 ((rd_T75 l0 x17_2).f1))).setCell ⟨gb103, 2, none⟩ (.int .i64 ((rd_T75 l0 x17_2).f2)))).cell? _ = some _ from hx104_0)); (try have hy104_1 := fun (n_ : Nat) => (show (((((w19.drewN n_).setCell ⟨gb103, 0, none⟩ (.int .i64 ((rd_T75 l0 x17_2).f0))).setCell ⟨gb103, 1, none⟩ (.int .i64 ((rd_T75 l0 x17_2).f1))).setCell ⟨gb103, 2, none⟩ (.int .i64 ((rd_T75 l0 x17_2).f2)))).cell? _ = some _ from hx104_1)); (try have hy104_2 := fun (n_ : Nat) => (show (((((w19.drewN n_).setCell ⟨gb103, 0, none⟩ (.int .i64 ((rd_T75 l0 x17_2).f0))).setCell ⟨gb103, 1, none⟩ (.int .i64 ((rd_T75 l0 x17_2).f1))).setCell ⟨gb103, 2, none⟩ (.int .i64 ((rd_T75 l0 x17_2).f2)))).cell? _ = some _ from hx104_2)); clear hn104_0; clear hn104_1; clear hn104_2; replace p104 := eq_true p104; replace q104 := eq_true q104)))
                            go_roundg k2
                            case measure => have := HJ1.out; have := HK2.out; omega
                            case rel => exact ⟨(wrap64 (x17_2 + 1)), (by first | rfl | (simp; done) | (simp [*]; done)), H', ⟨by have := HJ1.out; have := HK2.out; omega⟩, ⟨by repeat (first | (with_reducible first | exact HB.out | apply below_alloc | apply pw_below_drewN | apply below_drew1 | refine below_set ?_ GE103.out) | exact HB.out)⟩⟩
                        · rw [if_neg c15] at H
                          exact absurd H (by simp)
                      · rw [if_neg c14] at H
                        exact absurd H (by simp)
                    · rw [if_neg c12] at H
                      have c12b0 : decide (0 < x17_2) = false := decide_eq_false c12
                      clear c12
                      have H' := Aside0.mk H
                      clear H
                      have p102 : 0 ≤ (x17_2 : Int) := of_decide_eq_true (by first | (with_reducible assumption) | assumption)
                      have q102 : x17_2 < (l0.length : Int) := of_decide_eq_true (by first | (with_reducible assumption) | assumption)
                      obtain ⟨ad102, e102, hx102_0, hx102_1, hx102_2⟩ := at_T75 HR0.out x17_2 p102 q102
                      cases e102
                      replace hx102_0 := (HB.out.cell (World.block_lt_of_cell? w _ hx102_0)).trans hx102_0
                      replace hx102_1 := (HB.out.cell (World.block_lt_of_cell? w _ hx102_1)).trans hx102_1
                      replace hx102_2 := (HB.out.cell (World.block_lt_of_cell? w _ hx102_2)).trans hx102_2
                      replace p102 := eq_true p102
                      replace q102 := eq_true q102
                      go_wp2_with (first | ((with_reducible refine gate_dst (N := 4) rfl ?_); refine box_event ?hg (N := 4) ?hd (cs := #[.int .i64 0, .int .i64 0, .int .i64 0]) (t := 75) ?hr ?_; (case hd => rfl); (case hg => rfl); (case hr => first | (go_simp; done) | (go_simp; rfl)); intro gb103 hg w21 hbox hb; have n0_ := Aside0.mk (below_step (by repeat (first | (with_reducible first | exact HB.out | apply below_alloc | apply pw_below_drewN | apply below_drew1) | exact HB.out)) hb); have n1_ := Aside0.mk (hbox); have n2_ := Aside0.mk ((by rw [hg]; exact (below_size (by repeat (first | (with_reducible first | exact HB.out | apply below_alloc | apply pw_below_drewN | apply below_drew1) | exact HB.out))) : w.heap.size ≤ gb103)); have n3_ := Aside0.mk ((by rw [hg]; exact (below_size (by repeat (first | (with_reducible first | exact HB.out | apply below_alloc | apply pw_below_drewN | apply below_drew1) | exact HB.out))) : w.heap.size ≤ gb103)); clear HB; have HB := n0_; have BK103 := n1_; have GW103 := n2_; have GE103 := n3_; clear n0_ n1_ n2_ n3_; clear hb hbox hg; have hcz22_0 : w21.cell? ⟨gb103, 0, none⟩ = some (.int .i64 0) := (blk_cell BK103.out 0).trans rfl; have hcz22_1 : w21.cell? ⟨gb103, 1, none⟩ = some (.int .i64 0) := (blk_cell BK103.out 1).trans rfl; have hcz22_2 : w21.cell? ⟨gb103, 2, none⟩ = some (.int .i64 0) := (blk_cell BK103.out 2).trans rfl; have hfz22_0 := blk_frozen BK103.out 0; have hfz22_1 := blk_frozen BK103.out 1; have hfz22_2 := blk_frozen BK103.out 2))
                      repeat (go_quiet (first | ((with_reducible refine gate_dst (N := 4) rfl ?_); refine box_event ?hg (N := 4) ?hd (cs := #[.int .i64 0, .int .i64 0, .int .i64 0]) (t := 75) ?hr ?_; (case hd => rfl); (case hg => rfl); (case hr => first | (go_simp; done) | (go_simp; rfl)); intro gb103 hg w21 hbox hb; have n0_ := Aside0.mk (below_step (by repeat (first | (with_reducible first | exact HB.out | apply below_alloc | apply pw_below_drewN | apply below_drew1) | exact HB.out)) hb); have n1_ := Aside0.mk (hbox); have n2_ := Aside0.mk ((by rw [hg]; exact (below_size (by repeat (first | (with_reducible first | exact HB.out | apply below_alloc | apply pw_below_drewN | apply below_drew1) | exact HB.out))) : w.heap.size ≤ gb103)); have n3_ := Aside0.mk ((by rw [hg]; exact (below_size (by repeat (first | (with_reducible first | exact HB.out | apply below_alloc | apply pw_below_drewN | apply below_drew1) | exact HB.out))) : w.heap.size ≤ gb103)); clear HB; have HB := n0_; have BK103 := n1_; have GW103 := n2_; have GE103 := n3_; clear n0_ n1_ n2_ n3_; clear hb hbox hg; have hcz22_0 : w21.cell? ⟨gb103, 0, none⟩ = some (.int .i64 0) := (blk_cell BK103.out 0).trans rfl; have hcz22_1 : w21.cell? ⟨gb103, 1, none⟩ = some (.int .i64 0) := (blk_cell BK103.out 1).trans rfl; have hcz22_2 : w21.cell? ⟨gb103, 2, none⟩ = some (.int .i64 0) := (blk_cell BK103.out 2).trans rfl; have hfz22_0 := blk_frozen BK103.out 0; have hfz22_1 := blk_frozen BK103.out 1; have hfz22_2 := blk_frozen BK103.out 2)); try go_wp2_with (first | ((with_reducible refine gate_dst (N := 4) rfl ?_); refine box_event ?hg (N := 4) ?hd (cs := #[.int .i64 0, .int .i64 0, .int .i64 0]) (t := 75) ?hr ?_; (case hd => rfl); (case hg => rfl); (case hr => first | (go_simp; done) | (go_simp; rfl)); intro gb103 hg w21 hbox hb; have n0_ := Aside0.mk (below_step (by repeat (first | (with_reducible first | exact HB.out | apply below_alloc | apply pw_below_drewN | apply below_drew1) | exact HB.out)) hb); have n1_ := Aside0.mk (hbox); have n2_ := Aside0.mk ((by rw [hg]; exact (below_size (by repeat (first | (with_reducible first | exact HB.out | apply below_alloc | apply pw_below_drewN | apply below_drew1) | exact HB.out))) : w.heap.size ≤ gb103)); have n3_ := Aside0.mk ((by rw [hg]; exact (below_size (by repeat (first | (with_reducible first | exact HB.out | apply below_alloc | apply pw_below_drewN | apply below_drew1) | exact HB.out))) : w.heap.size ≤ gb103)); clear HB; have HB := n0_; have BK103 := n1_; have GW103 := n2_; have GE103 := n3_; clear n0_ n1_ n2_ n3_; clear hb hbox hg; have hcz22_0 : w21.cell? ⟨gb103, 0, none⟩ = some (.int .i64 0) := (blk_cell BK103.out 0).trans rfl; have hcz22_1 : w21.cell? ⟨gb103, 1, none⟩ = some (.int .i64 0) := (blk_cell BK103.out 1).trans rfl; have hcz22_2 : w21.cell? ⟨gb103, 2, none⟩ = some (.int .i64 0) := (blk_cell BK103.out 2).trans rfl; have hfz22_0 := blk_frozen BK103.out 0; have hfz22_1 := blk_frozen BK103.out 1; have hfz22_2 := blk_frozen BK103.out 2)))
                      go_roundg k2
                      case measure => have := HJ1.out; have := HK2.out; omega
                      case rel => exact ⟨(wrap64 (x17_2 + 1)), (by first | rfl | (simp; done) | (simp [*]; done)), H', ⟨by have := HJ1.out; have := HK2.out; omega⟩, ⟨by repeat (first | (with_reducible first | exact HB.out | apply below_alloc | apply pw_below_drewN | apply below_drew1 | refine below_set ?_ GE103.out) | exact HB.out)⟩⟩
                · rw [if_neg c8] at H
                  exact absurd H (by simp)
              · rw [if_neg c7] at H
                exact absurd H (by simp)
            · rw [if_neg c6] at H
              have c6b0 : decide (x17_2 < (l0.length : Int)) = false := decide_eq_false c6
              clear c6
              obtain rfl := Option.some.inj H
              go_wp2
              repeat (go_quiet (fail); try go_wp2)
              go_ret
              exact ⟨by first | rfl | (simp [errW_none, errW_some] <;> rfl) | (simp [*, errW_none, errW_some] <;> rfl), by repeat (first | (with_reducible first | exact HB.out | apply below_alloc | apply pw_below_drewN | apply below_drew1) | exact HB.out)⟩

-- NOT PRINTED: function 103 (api_Offer_103)

-- NOT PRINTED: function 84 (api_Offer_84)

/-! ### api_Offer_85: function 85 -/
def api_Offer_85.f (l0 : List (S75)) : Option ((List (S75))) := (some (([] : List (S75)) : List (S75))).bind fun y105 => (if y105.length + l0.length < 5864062014805 then (some (y105 ++ l0)) else (none))
set_option maxHeartbeats 8000000 in
set_option maxRecDepth 100000 in
theorem api_Offer_85.calls (A0 : Option Addr) (c0 : Nat) (l0 : List (S75)) (r : List (S75)) (w : World) (hr0 : Kd.C k75 w A0 l0.length l0) (hc0 : l0.length ≤ c0) (h : api_Offer_85.f l0 = some r) :
    Calls Try.prog 85 #[.slice A0 l0.length c0] w fun e w' => ∃ v0_ : Value, e = .returned (v0_) ∧ Kd.R k75 75 w' w.heap.size (fun _ => True) v0_ r ∧ Below w.heap.size w w' := by
  have hq_ : ∀ (w : World) (a : Option Addr) (n c n' c' : Nat), (binOp .eql 71 (.slice a n c) (.slice none n' c')).run Try.prog w = .ok (.bool a.isNone) w := fun w a n c n' c' => Lib.run_eql_slice_nil w _ _ a n c n' c' Try.underlying71
  by_cases hz_ : A0.isNone = true
  · obtain rfl : A0 = none := by simpa using hz_
    obtain rfl : l0 = [] := by
      cases l0 with
      | nil => rfl
      | cons y ys => obtain ⟨ad, e_, _⟩ := hr0.2.2 (by simp); cases e_
    obtain rfl : r = [] := by simpa [api_Offer_85.f] using h.symm
    clear h hr0 hz_
    go_enter Try.func85, Try.ntmps85
    go_wp2
    go_ret
    exact ⟨_, rfl, Kd.R_nil _ _ _ _ _, Below.refl _ _⟩
  replace hz_ : A0.isNone = false := Bool.eq_false_iff.mpr hz_
  have HR0 := Aside0.mk hr0
  have HC0 := Aside0.mk hc0
  clear hr0 hc0
  have HB := Aside0.mk (Below.refl w.heap.size w)
  have H : ((some (([] : List (S75)) : List (S75))).bind fun y105 => (if y105.length + l0.length < 5864062014805 then (some (y105 ++ l0)) else (none))) = some r := h
  clear h
  obtain ⟨y105, hy105⟩ : ∃ y_ : List (S75), y_ = (([] : List (S75))) := ⟨_, rfl⟩
  replace H : (if y105.length + l0.length < 5864062014805 then (some (y105 ++ l0)) else (none)) = some r := by first | (rw [hy105]; with_reducible exact H) | (have H2_ := (Option.bind_some _ _).symm.trans H; rw [hy105]; with_reducible exact H2_) | (have H2_ := (Option.bind_some _ _).symm.trans H; with_reducible exact H2_) | with_reducible exact H | (rw [hy105]; exact H) | exact H
  have Ny105 := Aside0.mk hy105
  clear hy105
  by_cases c2 : y105.length + l0.length < 5864062014805
  · rw [if_pos c2] at H
    have LMc2 := Aside0.mk c2
    clear c2
    obtain ⟨y108, hy108⟩ : ∃ y_ : List (S75), y_ = (y105 ++ l0) := ⟨_, rfl⟩
    replace H : (some y108) = some r := by first | (rw [hy108]; with_reducible exact H) | (have H2_ := (Option.bind_some _ _).symm.trans H; rw [hy108]; with_reducible exact H2_) | (have H2_ := (Option.bind_some _ _).symm.trans H; with_reducible exact H2_) | with_reducible exact H | (rw [hy108]; exact H) | exact H
    have Ny108 := Aside0.mk hy108
    clear hy108
    obtain rfl := Option.some.inj H
    go_enter Try.func85, Try.ntmps85
    go_wp2_with (first | ((with_reducible refine gate_dst (N := 5) rfl ?_); refine Kd.R_lit k75 _ 75 ?hg (N := 5) ?hd (xs := ([] : List (S75))) (inner := []) (ok := fun _ => True) (okp := fun _ => True) ?hr ?hp (fun _ hk => hk) trivial (Below.refl _ _) (Nat.le_refl _) (by simp) ?_; (case hd => rfl); (case hg => rfl); (case hr => first | (go_simp; done) | (go_simp; rfl)); (case hp => exact (Reps.none _ _)); intro v106 w3 ho4 hb hg_ hnew_; clear hg_ hnew_; (first | rw [← Ny105.out] at ho4 | (simp only [Int.reduceToNat] at ho4; rw [← Ny105.out] at ho4)); have n0_ := Aside0.mk (Kd.R_lower ho4 (below_size (by repeat (first | (with_reducible first | exact HB.out | apply below_alloc | apply pw_below_drewN | apply below_drew1) | exact HB.out)))); have n1_ := Aside0.mk (below_step (by repeat (first | (with_reducible first | exact HB.out | apply below_alloc | apply pw_below_drewN | apply below_drew1) | exact HB.out)) hb); clear HB; have HO107 := n0_; have HB := n1_; clear n0_ n1_; clear hb ho4) | ((with_reducible refine gate_builtin (b := .append) (xs := #[.tmp 5, .tmp 6]) rfl ?_); at_builtin; refine Kd.R_append_rows k75 (w0 := w) w.heap.size rfl (.tmp 5) (.tmp 6) 71 75 (.agg #[(.int .i64 0), (.int .i64 0), (.int .i64 0)]) 24 rfl Try.underlying71 info75 rfl (by decide) (by omega) v106 y105 l0 _ _ _ (fun _ => True) (fun _ => False) rfl rfl ?aO ?aR (fun _ _ h => h) (fun _ h => h.elim) ?aF ?aB ?aS ?aL ?_; (case aR => repeat (first | exact (Kd.C_below HR0.out HB.out) | (with_reducible refine Kd.C_alloc ?_ _) | (with_reducible refine Kd.C_drewN ?_ _) | (with_reducible refine Kd.C_drew ?_))); (case aB => exact (by repeat (first | (with_reducible first | exact HB.out | apply below_alloc | apply pw_below_drewN | apply below_drew1) | exact HB.out))); (case aF => exact (fun _ _ => trivial)); (case aO => exact (by (with_reducible repeat (first | apply Kd.R_alloc | apply Kd.R_drewN | apply Kd.R_drew)); exact HO107.out)); (case aS => exact (below_size (by repeat (first | (with_reducible first | exact HB.out | apply below_alloc | apply pw_below_drewN | apply below_drew1) | exact HB.out)))); (case aL => have := LMc2.out; omega); intro v109 w5 ho hb hg hat; rw [← Ny108.out] at ho; have n0_ := Aside0.mk (hb); have n1_ := Aside0.mk (ho); clear HB; clear HO107; have HB := n0_; have HO110 := n1_; clear n0_ n1_; clear ho hb hg hat))
    go_ret
    exact ⟨_, by first | rfl | (simp [errW_none, errW_some] <;> rfl) | (simp [*, errW_none, errW_some] <;> rfl), by (with_reducible repeat (first | apply Kd.R_alloc | apply Kd.R_drewN | apply Kd.R_drew)); exact HO110.out, by repeat (first | (with_reducible first | exact HB.out | apply below_alloc | apply pw_below_drewN | apply below_drew1) | exact HB.out)⟩
  · rw [if_neg c2] at H
    exact absurd H (by simp)

/-! ### size_Drop: function 39 (an extern) -/
/-! Rows of offers, laid in memory of the call's own. -/
def cells75 (x : S75) : List Value := [.int .i64 x.f0, .int .i64 x.f1, .int .i64 x.f2]
theorem grown75_trans {w w1 w2 : World} {row : Option Nat} (h : w.grownBy w1 row) (k : w1.grownBy w2 row) : w.grownBy w2 row :=
  ⟨k.os.trans h.os, k.tape.trans h.tape, k.output.trans h.output, Nat.le_trans h.size k.size, fun i hi hr => (k.block i (Nat.lt_of_lt_of_le hi h.size) hr).trans (h.block i hi hr)⟩
theorem grown75_refl (w : World) (row : Option Nat) : w.grownBy w row := ⟨rfl, rfl, rfl, Nat.le_refl _, fun _ _ _ => rfl⟩
theorem lay75 {g cap n base : Nat} {ok : Nat → Prop} : ∀ (ys : List S75) (i : Nat) (W : World) (xs : List S75), Kd.R k75 75 W base ok (.slice (some ⟨g, 0, none⟩) n cap) xs → i + ys.length ≤ xs.length →
    Kd.R k75 75 (W.setCells g (i * 3) (ys.flatMap cells75)) base ok (.slice (some ⟨g, 0, none⟩) n cap) (xs.take i ++ ys ++ xs.drop (i + ys.length)) ∧ W.grownBy (W.setCells g (i * 3) (ys.flatMap cells75)) (some g)
  | [], i, W, xs, h, _ => by
    have e : xs.take i ++ [] ++ xs.drop (i + ([] : List S75).length) = xs := by simp
    rw [e]
    exact ⟨h, grown75_refl _ _⟩
  | y :: ys, i, W, xs, h, hl => by
    have hn := (Kd.R_reads' h).1
    rw [List.length_cons] at hl
    obtain ⟨ce, hcl, hM, hcc, hfr⟩ := Kd.R_elem h z75 (i : Int) (by omega) (by omega)
    obtain rfl := k75_openM hM
    have h1 := Kd.R_seg h (i : Int) (by omega) (by omega) (seg := cells75 y) (j := 0) hcl hcc (show 3 ≤ 3 from by decide) (x' := y) (k75_mkM _ _ _ y) (fun _ hk => hk)
    have h1' : Kd.R k75 75 (W.setCells g (i * 3) (cells75 y)) base ok (.slice (some ⟨g, 0, none⟩) n cap) (xs.set i y) ∧ W.grownBy (W.setCells g (i * 3) (cells75 y)) (some g) := h1
    have h2 := lay75 ys (i + 1) _ _ h1'.1 (by rw [List.length_set]; omega)
    have e : (W.setCells g (i * 3) (cells75 y)).setCells g ((i + 1) * 3) (ys.flatMap cells75) = W.setCells g (i * 3) ((y :: ys).flatMap cells75) := by
      rw [Nat.add_mul]
      rfl
    rw [e] at h2
    have e2 : (xs.set i y).take (i + 1) ++ ys ++ (xs.set i y).drop (i + 1 + ys.length) = xs.take i ++ (y :: ys) ++ xs.drop (i + (y :: ys).length) := by
      rw [List.take_succ_eq_append_getElem (by rw [List.length_set]; omega), List.getElem_set_self, List.take_set_of_le (Nat.le_refl i), List.drop_set_of_lt (by omega), List.length_cons, show i + 1 + ys.length = i + (ys.length + 1) by omega]
      simp
    rw [e2] at h2
    exact ⟨h2.1, grown75_trans h1'.2 h2.2⟩
theorem zero75c : ∀ m : Nat, (Builtin.zeroCells (#[.int .i64 0, .int .i64 0, .int .i64 0] : Array Value) m).toList = (List.replicate m z75).flatMap cells75 := by
  intro m
  induction m with
  | zero => simp [Builtin.zeroCells]
  | succ m ih =>
    rw [List.replicate_succ', List.flatMap_append, ← ih]
    simp [Builtin.zeroCells, Nat.add_mul, List.range_succ, cells75, z75, Nat.add_mod]
theorem one75 (l : List S75) : ∀ v ∈ l.flatMap cells75, v.oneCell' = true := by
  intro v hv
  obtain ⟨x, _, hx⟩ := List.mem_flatMap.1 hv
  simp only [cells75, List.mem_cons, List.not_mem_nil, or_false] at hx
  rcases hx with rfl | rfl | rfl <;> rfl
theorem len75 (l : List S75) : (l.flatMap cells75).length = l.length * 3 := by
  induction l with
  | nil => rfl
  | cons x xs ih => rw [List.flatMap_cons, List.length_append, ih, List.length_cons]; simp [cells75]; omega
theorem zero75v (w : World) : (zeroValue 75).run Try.prog w = .ok (.agg #[.int .i64 0, .int .i64 0, .int .i64 0]) w := by kernel_rfl
theorem clear75 (w : World) (ty : TypeId) (b o n c : Nat) (hn : 0 < n) (hc : ∀ j, j < n * 3 → (w.cell? ⟨b, o + j, none⟩).isSome = true) (hf : ∀ j, j < n * 3 → w.frozen? ⟨b, o + j, none⟩ = false) :
    (Builtin.clear_ #[71] ty #[.slice (some ⟨b, o, none⟩) n c]).run Try.prog w = .ok (.tuple #[]) (w.setCells b o ((List.replicate n z75).flatMap cells75)) := by
  have hst := run_storeCells_cells (P := Try.prog) b o ((List.replicate n z75).flatMap cells75) 0 w (by rw [len75, List.length_replicate]; simpa using hc) (by rw [len75, List.length_replicate]; simpa using hf) (one75 _)
  simp only [Nat.add_zero] at hst
  have hzc := zero75c n
  obtain ⟨m, rfl⟩ : ∃ m, n = m + 1 := ⟨n - 1, by omega⟩
  simp only [Builtin.clear_]
  simp [run_underlying Try.underlying71, zero75v, Value.cells, hzc, hst]
set_option maxRecDepth 100000 in
theorem drop86 (a b c who : Int) (g : Nat) (w : World) (hg : w.cell? ⟨g, 0, none⟩ = some (.int .i64 who)) :
    Calls Try.prog 86 #[.agg #[.int .i64 a, .int .i64 b, .int .i64 c], .pointer (some ⟨g, 0, none⟩)] w fun e w' => e = .returned (.bool (a == who)) ∧ Below w.heap.size w w' := by
  have hl : g < w.heap.size := World.block_lt_of_cell? w _ hg
  have hg2 : ∀ o, (w.alloc o).cell? ⟨g, 0, none⟩ = some (.int .i64 who) := fun o => (World.cell?_alloc_lt _ _ _ hl).trans hg
  go_enter Try.func86, Try.ntmps86
  go_wp2
  go_ret
  exact ⟨rfl, below_alloc (Below.refl _ _) _⟩
/-- The first place that has that number; -1: none. -/
def IxOffer (who : Int) (l : List S75) (n : Int) : Prop := (n = -1 ∧ ∀ i : Nat, i < l.length → ¬ (rd_T75 l i).f0 = who) ∨ ∃ j : Nat, n = j ∧ j < l.length ∧ (rd_T75 l j).f0 = who ∧ ∀ i : Nat, i < j → ¬ (rd_T75 l i).f0 = who
def IxPost86 (who : Int) (l : List S75) (w : World) (e : Ending) (w' : World) : Prop := ∃ n : Int, e = .returned (.int .i64 n) ∧ IxOffer who l n ∧ Below w.heap.size w w'
set_option maxRecDepth 100000 in
set_option maxHeartbeats 1000000 in
theorem index86 (A0 : Option Addr) (c0 : Nat) (l0 : List S75) (who : Int) (g : Nat) (w : World) (hr0 : Kd.C k75 w A0 l0.length l0) (hg : w.cell? ⟨g, 0, none⟩ = some (.int .i64 who)) :
    Calls Try.prog 103 #[.slice A0 l0.length c0, .func (.func 86) #[] #[.pointer (some ⟨g, 0, none⟩)]] w (IxPost86 who l0 w) := by
  have HR0 := Aside0.mk hr0
  have HL : l0.length ≤ 9223372036854775807 := hr0.2.1
  have HG := Aside0.mk hg
  clear hr0 hg
  go_enter Try.func103, Try.ntmps103
  go_wp2
  go_loopw [8] (fun v w' => ∃ j : Nat, v = .int .i64 j ∧ j ≤ l0.length ∧ Aside0 (∀ i : Nat, i < j → ¬ (rd_T75 l0 i).f0 = who) ∧ Aside0 (Below w.heap.size w w')) (fun v _ => l0.length - (intOf v).toNat)
  case atStart => exact ⟨0, rfl, Nat.zero_le _, ⟨fun i hi => by omega⟩, ⟨Below.refl _ _⟩⟩
  case round =>
    obtain ⟨j, rfl, hj, HF, HB⟩ := hrel
    by_cases hlt : j < l0.length
    · obtain ⟨ad, e0, hx0, hx1, hx2⟩ := at_T75 HR0.out (j : Int) (by omega) (by omega)
      cases e0
      rw [Int.toNat_natCast] at hx0 hx1 hx2
      replace hx0 := (HB.out.cell (World.block_lt_of_cell? w _ hx0)).trans hx0
      replace hx1 := (HB.out.cell (World.block_lt_of_cell? w _ hx1)).trans hx1
      replace hx2 := (HB.out.cell (World.block_lt_of_cell? w _ hx2)).trans hx2
      have HG2 := Aside0.mk ((HB.out.cell (World.block_lt_of_cell? w _ HG.out)).trans HG.out)
      by_cases heq : (rd_T75 l0 j).f0 = who
      · have hb : ((rd_T75 l0 j).f0 == who) = true := by simpa using heq
        have HE := Aside0.mk heq
        clear heq
        go_wp2_with (go_at_call 86; refine (drop86 _ _ _ who g _ HG2.out).mono ?_; rintro e w7 ⟨rfl, hb7⟩; have HB7 := Aside0.mk (below_step HB.out hb7); clear hb7)
        go_ret
        exact ⟨j, rfl, .inr ⟨j, rfl, hlt, HE.out, HF.out⟩, HB7.out⟩
      · have hb : ((rd_T75 l0 j).f0 == who) = false := by simpa using heq
        have HE := Aside0.mk heq
        clear heq
        go_wp2_with (go_at_call 86; refine (drop86 _ _ _ who g _ HG2.out).mono ?_; rintro e w7 ⟨rfl, hb7⟩; have HB7 := Aside0.mk (below_step HB.out hb7); clear hb7)
        go_roundw
        case rel => exact ⟨j + 1, by go_num, by omega, ⟨fun i hi => by
          by_cases h : i < j
          · exact HF.out i h
          · obtain rfl : i = j := by omega
            exact HE.out⟩, HB7⟩
        case measure => simp [intOf]; omega
    · go_wp2
      go_ret
      exact ⟨-1, rfl, .inl ⟨rfl, fun i hi => HF.out i (by omega)⟩, HB.out⟩
def DelPost86 (l0 : List S75) (who : Int) (w0 : World) (ok : Nat → Prop) (e : Ending) (w' : World) : Prop :=
  ∃ v1, e = .returned v1 ∧ Kd.R k75 75 w' w0.heap.size ok v1 (l0.filter (fun x => !(x.f0 == who))) ∧ Below w0.heap.size w0 w'
/-- Where the loop stands: i are kept, j are seen. -/
def DelInv86 (l0 : List S75) (who : Int) (i j : Nat) (ys : List S75) : Prop := i < j ∧ j ≤ l0.length ∧ ys.length = l0.length ∧ ys.take i = (l0.take j).filter (fun x => !(x.f0 == who)) ∧ ys.drop j = l0.drop j
theorem rd75_at {l : List S75} {i : Nat} (h : i < l.length) : rd_T75 l (i : Int) = l[i] := by
  unfold rd_T75
  rw [Int.toNat_natCast, List.getD_eq_getElem?_getD, List.getElem?_eq_getElem h]
  rfl
theorem del86_start {l0 : List S75} {who : Int} {i : Nat} (hi : i < l0.length) (he : (rd_T75 l0 i).f0 = who) (hn : ∀ q : Nat, q < i → ¬ (rd_T75 l0 q).f0 = who) : DelInv86 l0 who i (i + 1) l0 := by
  refine ⟨by omega, by omega, rfl, ?_, rfl⟩
  rw [List.take_succ_eq_append_getElem hi, List.filter_append]
  have h1 : (l0.take i).filter (fun x => !(x.f0 == who)) = l0.take i := by
    refine List.filter_eq_self.2 fun a ha => ?_
    obtain ⟨q, hq, rfl⟩ := List.mem_iff_getElem.1 ha
    have hq' : q < i := by simp at hq; omega
    have := hn q hq'
    rw [rd75_at (by omega)] at this
    simpa [List.getElem_take] using this
  rw [h1]
  rw [rd75_at hi] at he
  simp [he]
theorem del86_at {l0 : List S75} {who : Int} {i j : Nat} {ys : List S75} (h : DelInv86 l0 who i j ys) (hj : j < l0.length) : rd_T75 ys j = l0[j] := by
  obtain ⟨h1, h2, h3, h4, h5⟩ := h
  rw [rd75_at (by omega)]
  have e : (ys.drop j)[0]? = (l0.drop j)[0]? := by rw [h5]
  rw [List.getElem?_drop, List.getElem?_drop, Nat.add_zero, List.getElem?_eq_getElem hj, List.getElem?_eq_getElem (by omega)] at e
  exact Option.some.inj e
theorem del86_keep {l0 : List S75} {who : Int} {i j : Nat} {ys : List S75} (h : DelInv86 l0 who i j ys) (hj : j < l0.length) (hn : ¬ (rd_T75 ys j).f0 = who) : DelInv86 l0 who (i + 1) (j + 1) (ys.set i (rd_T75 ys j)) := by
  have ha := del86_at h hj
  obtain ⟨h1, h2, h3, h4, h5⟩ := h
  refine ⟨by omega, by omega, by rw [List.length_set, h3], ?_, ?_⟩
  · rw [List.take_succ_eq_append_getElem (by rw [List.length_set]; omega), List.getElem_set_self, List.take_set_of_le (Nat.le_refl i), h4, List.take_succ_eq_append_getElem hj, List.filter_append, ha]
    rw [ha] at hn
    congr 1
    simp [hn]
  · rw [List.drop_set_of_lt (by omega)]
    have := congrArg (List.drop 1) h5
    simpa [List.drop_drop, Nat.add_comm] using this
theorem del86_skip {l0 : List S75} {who : Int} {i j : Nat} {ys : List S75} (h : DelInv86 l0 who i j ys) (hj : j < l0.length) (hn : (rd_T75 ys j).f0 = who) : DelInv86 l0 who i (j + 1) ys := by
  have ha := del86_at h hj
  obtain ⟨h1, h2, h3, h4, h5⟩ := h
  refine ⟨by omega, by omega, h3, ?_, ?_⟩
  · rw [h4, List.take_succ_eq_append_getElem hj, List.filter_append]
    rw [ha] at hn
    simp [hn]
  · have := congrArg (List.drop 1) h5
    simpa [List.drop_drop, Nat.add_comm] using this
theorem del86_end {l0 : List S75} {who : Int} {i : Nat} {ys : List S75} (h : DelInv86 l0 who i l0.length ys) : ys.take i = l0.filter (fun x => !(x.f0 == who)) := by
  have := h.2.2.2.1
  rwa [List.take_length] at this
def DelRel86 (l0 : List S75) (who : Int) (B : Nat) (ok : Nat → Prop) (g cap : Nat) (gc : Nat) (w0 : World) (i j : Nat) (w' : World) : Prop :=
  ∃ ys, DelInv86 l0 who i j ys ∧ Kd.R k75 75 w' B ok (.slice (some ⟨g, 0, none⟩) l0.length cap) ys ∧ Below w0.heap.size w0 w' ∧ w'.cell? ⟨gc, 0, none⟩ = some (.int .i64 who)
set_option maxRecDepth 100000 in
set_option maxHeartbeats 4000000 in
theorem delete86 (v : Value) (l0 : List S75) (who : Int) (g : Nat) (ok : Nat → Prop) (w0 w : World) (hB : Below w0.heap.size w0 w) (ho : Kd.R k75 75 w w0.heap.size ok v l0) (hg : w.cell? ⟨g, 0, none⟩ = some (.int .i64 who)) (hne : v.ownBlock ≠ some g) (h8 : l0.length ≤ 8) :
    Calls Try.prog 84 #[v, .func (.func 86) #[] #[.pointer (some ⟨g, 0, none⟩)]] w (DelPost86 l0 who w0 ok) := by
  obtain ⟨A0, c0, rfl, hc0, hr0⟩ := Kd.R_reads ho
  have HO := Aside0.mk ho
  have HB := Aside0.mk hB
  have HG := Aside0.mk hg
  have HR0 := Aside0.mk hr0
  have HNE := Aside0.mk hne
  have HL : l0.length ≤ 9223372036854775807 := hr0.2.1
  clear ho hB hg hr0 hne
  go_enter Try.func84, Try.ntmps84
  go_wp2_with fail
  refine (index86 A0 c0 l0 who g _ HR0.out HG.out).mono ?_
  rintro e w1 ⟨n, rfl, hn, hb1⟩
  have HN := Aside0.mk hn
  have HO1 := Aside0.mk (Kd.R_below HO.out hb1)
  have HB1 := Aside0.mk (below_step HB.out hb1)
  have HG1 := Aside0.mk ((hb1.cell (World.block_lt_of_cell? w _ HG.out)).trans HG.out)
  clear hb1
  by_cases hneg : n = -1
  · have hb : (n == -1) = true := by simpa using hneg
    clear hn
    subst hneg
    go_wp2
    go_ret
    refine ⟨_, rfl, ?_, HB1.out⟩
    have hf : l0.filter (fun x => !(x.f0 == who)) = l0 := by
      rcases HN.out with ⟨_, h⟩ | ⟨j, h, _⟩
      · refine List.filter_eq_self.2 fun a ha => ?_
        obtain ⟨q, hq, rfl⟩ := List.mem_iff_getElem.1 ha
        have := h q hq
        rw [rd75_at hq] at this
        simpa using this
      · omega
    rw [hf]
    exact HO1.out
  · have hb : (n == -1) = false := by simpa using hneg
    obtain ⟨i0, rfl, hi0, he0, hl0⟩ : ∃ j : Nat, n = j ∧ j < l0.length ∧ (rd_T75 l0 j).f0 = who ∧ ∀ i : Nat, i < j → ¬ (rd_T75 l0 i).f0 = who := by
      rcases hn with ⟨h, _⟩ | h
      · exact absurd h hneg
      · exact h
    have HI := Aside0.mk (del86_start hi0 he0 hl0)
    clear hn he0 hl0 hneg
    obtain ⟨gb, co, eo, hgb, hgl, _⟩ := Kd.R_form HO1.out (by omega)
    cases eo
    go_wp2
    go_loopw [5, 6] (fun v5 v6 w' => ∃ i j : Nat, v5 = .int .i64 i ∧ v6 = .int .i64 j ∧ i < j ∧ j ≤ l0.length ∧ Aside0 (DelRel86 l0 who w0.heap.size ok gb c0 g w0 i j w')) (fun _ v6 _ => l0.length - (intOf v6).toNat)
    case atStart => exact ⟨i0, i0 + 1, rfl, by go_num, by omega, by omega, ⟨l0, HI.out, HO1.out, HB1.out, HG1.out⟩⟩
    case round =>
      obtain ⟨i, j, rfl, rfl, hij, hj, HD⟩ := hrel
      obtain ⟨ys, hinv, hR, hBw, hgc⟩ := HD.out
      have hylen : ys.length = l0.length := hinv.2.2.1
      have HINV := Aside0.mk hinv
      have HRW := Aside0.mk hR
      have HBW := Aside0.mk hBw
      have HGC := Aside0.mk hgc
      have hgl' := World.block_lt_of_cell? wr _ hgc
      have hgc0 := Aside0.mk hgc
      clear hinv hR hBw
      by_cases hlt : j < l0.length
      · obtain ⟨ce, hcl, hM, hcc, hfr⟩ := Kd.R_elem HRW.out z75 (j : Int) (by omega) (by omega)
        obtain rfl := k75_openM hM
        rw [Int.toNat_natCast] at hcc hfr
        have hx0 : wr.cell? ⟨gb, j * 3, none⟩ = some (.int .i64 (rd_T75 ys j).f0) := hcc 0 _ rfl
        have hx1 : wr.cell? ⟨gb, j * 3 + 1, none⟩ = some (.int .i64 (rd_T75 ys j).f1) := hcc 1 _ rfl
        have hx2 : wr.cell? ⟨gb, j * 3 + 2, none⟩ = some (.int .i64 (rd_T75 ys j).f2) := hcc 2 _ rfl
        clear hcl hM hcc hfr
        have hga : ∀ o, (wr.alloc o).cell? ⟨g, 0, none⟩ = some (.int .i64 who) := fun o => (World.cell?_alloc_lt _ _ _ hgl').trans HGC.out
        have HGA := Aside0.mk hga
        clear hga hgc
        obtain ⟨ar, har⟩ : ∃ n : Nat, n = wr.heap.size := ⟨_, rfl⟩
        by_cases heq : (rd_T75 ys j).f0 = who
        · have hb : ((rd_T75 ys j).f0 == who) = true := by simpa using heq
          have HE := Aside0.mk heq
          clear heq
          go_wp2_with (go_at_call 86; refine (drop86 _ _ _ who g _ (HGA.out _)).mono ?_; rintro e w7 ⟨rfl, hb7⟩; have HB7 := Aside0.mk (below_step (below_alloc (Below.refl wr.heap.size wr) _) hb7); clear hb7)
          go_roundw
          case rel => exact ⟨i, j + 1, rfl, by go_num, by omega, by omega, ⟨ys, del86_skip HINV.out hlt HE.out, Kd.R_below HRW.out HB7.out, below_step HBW.out HB7.out, (HB7.out.cell hgl').trans hgc0.out⟩⟩
          case measure => simp [intOf]; omega
        · have hb : ((rd_T75 ys j).f0 == who) = false := by simpa using heq
          have HE := Aside0.mk heq
          clear heq
          go_wp2_with (go_at_call 86; refine (drop86 _ _ _ who g _ (HGA.out _)).mono ?_; rintro e w7 ⟨rfl, hb7⟩; have HB7 := Aside0.mk (below_step (below_alloc (Below.refl wr.heap.size wr) _) hb7); have hk := (hb7.block wr.heap.size (by simp)).trans (heap_alloc_new wr _); clear hb7; have hc0 := (blk_cell hk 0).trans rfl; have hc1 := (blk_cell hk 1).trans rfl; have hc2 := (blk_cell hk 2).trans rfl; clear hk; have HRW7 := Aside0.mk (Kd.R_below HRW.out HB7.out); obtain ⟨ce, hcl, hM, hcc, hfr⟩ := Kd.R_elem HRW7.out z75 (i : Int) (by omega) (by omega); obtain rfl := k75_openM hM; rw [Int.toNat_natCast] at hcc hfr; have hy0 : w7.cell? ⟨gb, i * 3, none⟩ = some (.int .i64 (rd_T75 ys i).f0) := hcc 0 _ rfl; have hy1 : w7.cell? ⟨gb, i * 3 + 1, none⟩ = some (.int .i64 (rd_T75 ys i).f1) := hcc 1 _ rfl; have hy2 : w7.cell? ⟨gb, i * 3 + 2, none⟩ = some (.int .i64 (rd_T75 ys i).f2) := hcc 2 _ rfl; have hz0 : w7.frozen? ⟨gb, i * 3, none⟩ = false := hfr 0; have hz1 : w7.frozen? ⟨gb, i * 3 + 1, none⟩ = false := hfr 1; have hz2 : w7.frozen? ⟨gb, i * 3 + 2, none⟩ = false := hfr 2; have HCC := Aside0.mk hcc; have HCL := Aside0.mk hcl; clear hcl hM hcc hfr)
          have HP := Aside0.mk (Kd.R_seg HRW7.out (i : Int) (by omega) (by omega) (seg := cells75 (rd_T75 ys j)) (j := 0) HCL.out HCC.out (show 3 ≤ 3 from by decide) (x' := rd_T75 ys j) (k75_mkM _ _ _ (rd_T75 ys j)) (fun _ hk => hk)).1
          have hgn : gb ≠ g := fun e_ => HNE.out (by rw [← e_]; rfl)
          refine ⟨⟨i + 1, j + 1, by go_num, by go_num, by omega, by omega, ⟨_, del86_keep HINV.out hlt HE.out, HP.out, below_set (below_set (below_set (below_step HBW.out HB7.out) hgb) hgb) hgb, ?_⟩⟩, ?_⟩
          · rw [World.cell?_setCell_other _ _ _ _ (by simp), World.cell?_setCell_other _ _ _ _ (by simp), World.cell?_setCell_other _ _ _ _ (by simp)]
            exact (HB7.out.cell hgl').trans hgc0.out
          · simp [intOf]; omega
      · have hjl : j = l0.length := by omega
        subst hjl
        have hk := Aside0.mk (del86_end HINV.out)
        have hclr := Aside0.mk (lay75 (List.replicate (l0.length - i) z75) i wr ys HRW.out (by rw [List.length_replicate]; omega))
        have hel : ∀ q, q < (l0.length - i) * 3 → (wr.cell? ⟨gb, i * 3 + q, none⟩).isSome = true ∧ wr.frozen? ⟨gb, i * 3 + q, none⟩ = false := fun q hq => by
          obtain ⟨ce, hcl, hM, hcc, hfr⟩ := Kd.R_elem HRW.out z75 ((i + q / 3 : Nat) : Int) (by omega) (by omega)
          obtain rfl := k75_openM hM
          rw [Int.toNat_natCast] at hcc hfr
          have hr : (i + q / 3) * k75.sz + q % 3 = i * 3 + q := by show (i + q / 3) * 3 + q % 3 = i * 3 + q; omega
          have hq3 : q % 3 < 3 := Nat.mod_lt _ (by omega)
          have h1 := hcc (q % 3) _ (List.getElem?_eq_getElem (by exact hq3))
          have h2 := hfr (q % 3)
          rw [hr] at h1 h2
          exact ⟨by rw [h1]; rfl, h2⟩
        have hrun : ∀ ty, (Builtin.clear_ #[71] ty #[.slice (some ⟨gb, i * 3, none⟩) (l0.length - i) (c0 - i)]).run Try.prog wr = .ok (.tuple #[]) (wr.setCells gb (i * 3) ((List.replicate (l0.length - i) z75).flatMap cells75)) :=
          fun ty => clear75 wr ty gb (i * 3) _ _ (by omega) (fun q hq => (hel q hq).1) (fun q hq => (hel q hq).2)
        have hadd : (⟨gb, 0, none⟩ : Addr).add (i * 3) = ⟨gb, i * 3, none⟩ := add_plain gb (i * 3)
        have hci : ¬ c0 = i := by omega
        obtain ⟨w8, hw8⟩ : ∃ w8, w8 = wr.setCells gb (i * 3) ((List.replicate (l0.length - i) z75).flatMap cells75) := ⟨_, rfl⟩
        rw [← hw8] at hrun hclr
        clear hw8 hel
        go_wp2_with (first | simp only [hrun] | fail)
        go_ret
        obtain ⟨hR8, hG8⟩ := hclr.out
        have hT := Kd.R_take (m := i) hR8 (by simp only [List.length_append, List.length_take, List.length_replicate]; omega)
        rw [List.append_assoc, List.take_append_of_le_length (by rw [List.length_take]; omega), List.take_take, Nat.min_self, hk.out] at hT
        exact ⟨_, rfl, hT, pw_below_grown HBW.out (some gb) HBW.out.size hG8 (fun k e_ => by injection e_ with e_; omega)⟩
def size_Drop.f (k : Nat) (l : List S75) (who : Int) : Option (List S75 × Int) :=
  (size_May.f k l).bind fun m => if m = true ∧ 1 ≤ who ∧ who ≤ 4 then (if l.length ≤ 8 then some (l.filter (fun x => !(x.f0 == who)), 0) else none) else some ([], 1)
theorem size_Drop.mono : ∀ a0 a1 k, LeO (size_Drop.f k a0 a1) (size_Drop.f (k + 1) a0 a1) := by
  intro a0 a1 k
  unfold size_Drop.f
  exact LeO.bind (size_May.mono _ _) (fun _ => LeO.refl _)
def DropPost (r1 : List S75) (r2 : Int) (w : World) (e : Ending) (w' : World) : Prop :=
  ∃ v0_ : Value, e = .returned (.tuple #[v0_, .int .i64 r2]) ∧ Kd.R k75 75 w' w.heap.size (fun _ => True) v0_ r1 ∧ Below w.heap.size w w'
set_option maxRecDepth 100000 in
set_option maxHeartbeats 4000000 in
theorem size_Drop.calls0 (k : Nat) (A0 : Option Addr) (c0 : Nat) (l0 : List S75) (who : Int) (r1 : List S75) (r2 : Int) (w : World) (hr0 : Kd.C k75 w A0 l0.length l0) (hc0 : l0.length ≤ c0) (h : size_Drop.f k l0 who = some (r1, r2)) :
    Calls Try.prog 39 #[.slice A0 l0.length c0, .int .i64 who] w (DropPost r1 r2 w) := by
  have hmf : ∀ (fn : Fn) (first cap : Array Value) (w : World), (Instr.makeFunc fn first cap).run Try.prog w = .ok (.func fn first cap) w := fun _ _ _ _ => rfl
  have HR := Aside0.mk hr0
  have HC := Aside0.mk hc0
  clear hr0 hc0
  obtain ⟨m, hm, H⟩ := Option.bind_eq_some_iff.mp h
  have HM := Aside0.mk hm
  have HH := Aside0.mk H
  clear h hm H
  cases m with
  | false =>
    have e := HH.out
    rw [if_neg (by simp)] at e
    simp only [Option.some.injEq, Prod.mk.injEq] at e
    obtain ⟨rfl, rfl⟩ := e
    go_enter Try.func39, Try.ntmps39
    go_wp2_with (go_at_call 83; refine (size_May.calls k _ _ l0 false _ ?s1 ?s2 HM.out).mono ?_; (case s1 => exact Kd.C_below HR.out (below_alloc (Below.refl _ _) _)); (case s2 => exact HC.out); rintro e w7 ⟨rfl, hb⟩; have HB7 := Aside0.mk (below_step (below_alloc (Below.refl w.heap.size w) _) hb); have hk := (hb.block w.heap.size (by simp)).trans (heap_alloc_new w _); clear hb; have hk0 := (blk_cell hk 0).trans rfl; clear hk)
    go_ret2
    exact ⟨_, rfl, Kd.R_nil _ _ _ _ _, HB7.out⟩
  | true =>
    by_cases h1 : 1 ≤ who
    · have hb1 : ¬ who < 1 := by omega
      by_cases h4 : who ≤ 4
      · have hb4 : ¬ 4 < who := by omega
        have e := HH.out
        rw [if_pos ⟨rfl, h1, h4⟩] at e
        by_cases h8 : l0.length ≤ 8
        · rw [if_pos h8] at e
          simp only [Option.some.injEq, Prod.mk.injEq] at e
          obtain ⟨rfl, rfl⟩ := e
          have hcl : api_Offer_85.f l0 = some l0 := by
            unfold api_Offer_85.f
            rw [Option.bind_some, if_pos (by simp; omega)]
            rfl
          have HCL := Aside0.mk hcl
          clear hcl h1 h4
          go_enter Try.func39, Try.ntmps39
          go_wp2_with (first | (go_at_call 83; refine (size_May.calls k _ _ l0 true _ ?s1 ?s2 HM.out).mono ?_; (case s1 => exact Kd.C_below HR.out (below_alloc (Below.refl _ _) _)); (case s2 => exact HC.out); rintro e w7 ⟨rfl, hb⟩; have HB7 := Aside0.mk (below_step (below_alloc (Below.refl w.heap.size w) _) hb); have hk := (hb.block w.heap.size (by simp)).trans (heap_alloc_new w _); clear hb; have hk0 := (blk_cell hk 0).trans rfl; clear hk) | (go_at_call 85; refine (api_Offer_85.calls _ _ l0 l0 _ ?s1 ?s2 HCL.out).mono ?_; (case s1 => exact Kd.C_below HR.out HB7.out); (case s2 => exact HC.out); rintro e w8 ⟨v8, rfl, ho8, hb8⟩; have HB8 := Aside0.mk (below_step HB7.out hb8); have hk8 := (hb8.cell (World.block_lt_of_cell? w7 _ hk0)).trans hk0; have hlt8 := World.block_lt_of_cell? w7 _ hk0; have HO8 := Aside0.mk ho8; clear hb8 ho8))
          refine (delete86 v8 l0 who w.heap.size (fun _ => True) w _ HB8.out (Kd.R_lower HO8.out HB7.out.size) hk8 ?_ h8).mono ?_
          · intro e_
            have := Kd.R_base HO8.out _ e_
            exact absurd hlt8 (by simpa using this)
          rintro e w9 ⟨v9, rfl, ho9, hb9⟩
          have HO9 := Aside0.mk ho9
          have HB9 := Aside0.mk hb9
          clear ho9 hb9
          go_wp2
          go_ret2
          exact ⟨_, rfl, HO9.out, HB9.out⟩
        · rw [if_neg h8] at e
          exact absurd e (by simp)
      · have hb4 : 4 < who := by omega
        have e := HH.out
        rw [if_neg (by omega)] at e
        simp only [Option.some.injEq, Prod.mk.injEq] at e
        obtain ⟨rfl, rfl⟩ := e
        go_enter Try.func39, Try.ntmps39
        go_wp2_with (go_at_call 83; refine (size_May.calls k _ _ l0 true _ ?s1 ?s2 HM.out).mono ?_; (case s1 => exact Kd.C_below HR.out (below_alloc (Below.refl _ _) _)); (case s2 => exact HC.out); rintro e w7 ⟨rfl, hb⟩; have HB7 := Aside0.mk (below_step (below_alloc (Below.refl w.heap.size w) _) hb); have hk := (hb.block w.heap.size (by simp)).trans (heap_alloc_new w _); clear hb; have hk0 := (blk_cell hk 0).trans rfl; clear hk)
        go_ret2
        exact ⟨_, rfl, Kd.R_nil _ _ _ _ _, HB7.out⟩
    · have hb1 : who < 1 := by omega
      have e := HH.out
      rw [if_neg (by omega)] at e
      simp only [Option.some.injEq, Prod.mk.injEq] at e
      obtain ⟨rfl, rfl⟩ := e
      go_enter Try.func39, Try.ntmps39
      go_wp2_with (go_at_call 83; refine (size_May.calls k _ _ l0 true _ ?s1 ?s2 HM.out).mono ?_; (case s1 => exact Kd.C_below HR.out (below_alloc (Below.refl _ _) _)); (case s2 => exact HC.out); rintro e w7 ⟨rfl, hb⟩; have HB7 := Aside0.mk (below_step (below_alloc (Below.refl w.heap.size w) _) hb); have hk := (hb.block w.heap.size (by simp)).trans (heap_alloc_new w _); clear hb; have hk0 := (blk_cell hk 0).trans rfl; clear hk)
      go_ret2
      exact ⟨_, rfl, Kd.R_nil _ _ _ _ _, HB7.out⟩
theorem size_Drop.calls (k : Nat) (A0 : Option Addr) (c0 : Nat) (l0 : List S75) (a1 : Int) (r1 : List S75) (r2 : Int) (w : World) (hr0 : Kd.C k75 w A0 l0.length l0) (hc0 : l0.length ≤ c0) (h : size_Drop.f k l0 a1 = some (r1, r2)) :
    Calls Try.prog 39 #[.slice A0 l0.length c0, .int .i64 a1] w fun e w' => ∃ v0_ : Value, e = .returned (.tuple #[v0_, .int .i64 r2]) ∧ Kd.R k75 75 w' w.heap.size (fun _ => True) v0_ r1 ∧ Below w.heap.size w w' :=
  size_Drop.calls0 k A0 c0 l0 a1 r1 r2 w hr0 hc0 h

end Go.Proofs.Ytadjhnlbpgknfaa.Y
