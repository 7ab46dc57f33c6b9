-- Laid by a program of this session (wip/tools/xp.py) over the kit's print.
import Derived.Test.YtadjhnlbpgknfaaY0
import Derived.Test.YtadjhnlbpgknfaaY2
import Derived.Shelf.Spec.SlicesInsert
namespace Go.Proofs.Ytadjhnlbpgknfaa.Y
open Go.RowKit Go.Proofs.YtadjhnlbpgknfaaW.PrintWords Go.Proofs.YtadjhnlbpgknfaaW.PrintLast Go.Proofs.YtadjhnlbpgknfaaW.PrintMore
attribute [local go_sem] max2_int min2_int max_two min_two max_three min_three max_four min_four   -- for this text's walks alone
set_option linter.unusedVariables false
set_option linter.unusedSimpArgs false

/-! ### size_Least: function 40 -/
def size_Least.l0 : Nat → Int → Int → List (S75) → Int → Int → Option (Int × Int × Int)
  | 0, _, _, _, _, _ => none
  | k + 1, x2, x3, x10, x11, x12 => if x12 < x11 then (if 0 ≤ x12 then (if x12 < (x10.length : Int) then (size_Least.l0 k (mn x2 ((rd_T75 x10 x12).f1)) (mn x3 ((rd_T75 x10 x12).f2)) x10 x11 (wrap64 (x12 + 1))) else (none)) else (none)) else (some (mx 1 x2, mx 1 x3, 0))
def size_Least.f (k : Nat) (l0 : List (S75)) : Option (Int × Int × Int) := (size_May.f k l0).bind fun t111 => (if t111 = true then (size_Least.l0 k 40 40 l0 (l0.length : Int) 0) else (some (0, 0, 1)))
theorem size_Least.mono_l : ∀ k, (∀ y0 y1 y2 y3 y4, LeO (size_Least.l0 k y0 y1 y2 y3 y4) (size_Least.l0 (k + 1) y0 y1 y2 y3 y4))
  | 0 => fun _ _ _ _ _ r h => by simp [size_Least.l0] at h
  | k + 1 => by
    have ih0 := size_Least.mono_l k
    · intro y0 y1 y2 y3 y4
      unfold size_Least.l0
      repeat' first
      | (with_reducible exact ih0 _ _ _ _ _)
      | (with_reducible exact size_May.mono _ _)
      | (with_reducible exact LeO.refl _)
      | (with_reducible exact LeO.none _)
      | (with_reducible refine LeO.ite ?_ ?_)
      | (with_reducible refine LeO.bind ?_ (fun _ => ?_))
      | exact ih0 _ _ _ _ _
      | exact size_May.mono _ _
      | exact LeO.none _
      | refine LeO.ite ?_ ?_
      | refine LeO.bind ?_ (fun _ => ?_)
theorem size_Least.mono : ∀ a0 k, LeO (size_Least.f k a0) (size_Least.f (k + 1) a0) := by
  intro a0 k
  have ih0 := size_Least.mono_l k
  unfold size_Least.f
  repeat' first
      | (with_reducible exact ih0 _ _ _ _ _)
      | (with_reducible exact size_May.mono _ _)
      | (with_reducible exact LeO.refl _)
      | (with_reducible exact LeO.none _)
      | (with_reducible refine LeO.ite ?_ ?_)
      | (with_reducible refine LeO.bind ?_ (fun _ => ?_))
      | exact ih0 _ _ _ _ _
      | exact size_May.mono _ _
      | exact LeO.none _
      | refine LeO.ite ?_ ?_
      | refine LeO.bind ?_ (fun _ => ?_)
set_option maxHeartbeats 8000000 in
set_option maxRecDepth 100000 in
theorem size_Least.calls (k : Nat) (A0 : Option Addr) (c0 : Nat) (l0 : List (S75)) (r1 : Int) (r2 : Int) (r3 : Int) (w : World) (hr0 : Kd.C k75 w A0 l0.length l0) (hc0 : l0.length ≤ c0) (h : size_Least.f k l0 = some (r1, r2, r3)) :
    Calls Try.prog 40 #[.slice A0 l0.length c0] w fun e w' => e = .returned (.tuple #[.int .i64 r1, .int .i64 r2, .int .i64 r3]) ∧ Below w.heap.size w w' := by
  have hu75 := Try.underlying75
  have HR0 := Aside0.mk hr0
  have HC0 := Aside0.mk hc0
  clear hr0 hc0
  have HB := Aside0.mk (Below.refl w.heap.size w)
  have H : ((size_May.f k l0).bind fun t111 => (if t111 = true then (size_Least.l0 k 40 40 l0 (l0.length : Int) 0) else (some (0, 0, 1)))) = some (r1, r2, r3) := h
  clear h
  replace H := Option.bind_eq_some_iff.mp H
  obtain ⟨t111, A20, H⟩ := H
  replace H : (if t111 = true then (size_Least.l0 k 40 40 l0 (l0.length : Int) 0) else (some (0, 0, 1))) = some (r1, r2, r3) := H
  have A2 := Aside0.mk A20
  clear A20
  by_cases c3 : t111 = true
  · subst c3
    have H1 : (size_Least.l0 k 40 40 l0 (l0.length : Int) 0) = some (r1, r2, r3) := by rw [if_pos rfl] at H; exact H
    clear H
    have H := H1
    clear H1
    have H' := Aside0.mk H
    clear H
    go_enter Try.func40, Try.ntmps40
    go_wp2_with (first | (go_at_call 83; (with_reducible refine (size_May.calls k _ _ l0 true _ ?side1 ?side2 A2.out).mono ?_); (case side1 => repeat (first | exact HR0.out | (with_reducible refine Kd.C_alloc ?_ _) | (with_reducible refine Kd.C_drewN ?_ _) | (with_reducible refine Kd.C_drew ?_))); (case side2 => exact HC0.out); rintro e w4 ⟨rfl, hb⟩; have n0_ := Aside0.mk (below_step (by repeat (first | (with_reducible first | exact HB.out | apply below_alloc | apply pw_below_drewN | apply below_drew1) | exact HB.out)) hb); clear HB; have HB := n0_; clear n0_; (try clear hb); (try clear hb2); (try clear hk); (try clear hi)))
    repeat (go_quiet (first | (go_at_call 83; (with_reducible refine (size_May.calls k _ _ l0 true _ ?side1 ?side2 A2.out).mono ?_); (case side1 => repeat (first | exact HR0.out | (with_reducible refine Kd.C_alloc ?_ _) | (with_reducible refine Kd.C_drewN ?_ _) | (with_reducible refine Kd.C_drew ?_))); (case side2 => exact HC0.out); rintro e w4 ⟨rfl, hb⟩; have n0_ := Aside0.mk (below_step (by repeat (first | (with_reducible first | exact HB.out | apply below_alloc | apply pw_below_drewN | apply below_drew1) | exact HB.out)) hb); clear HB; have HB := n0_; clear n0_; (try clear hb); (try clear hb2); (try clear hk); (try clear hi))); try go_wp2_with (first | (go_at_call 83; (with_reducible refine (size_May.calls k _ _ l0 true _ ?side1 ?side2 A2.out).mono ?_); (case side1 => repeat (first | exact HR0.out | (with_reducible refine Kd.C_alloc ?_ _) | (with_reducible refine Kd.C_drewN ?_ _) | (with_reducible refine Kd.C_drew ?_))); (case side2 => exact HC0.out); rintro e w4 ⟨rfl, hb⟩; have n0_ := Aside0.mk (below_step (by repeat (first | (with_reducible first | exact HB.out | apply below_alloc | apply pw_below_drewN | apply below_drew1) | exact HB.out)) hb); clear HB; have HB := n0_; clear n0_; (try clear hb); (try clear hb2); (try clear hk); (try clear hi))))
    go_loopg [2, 3, 12] k (fun kq v2 v3 v12 w' => ∃ (x2_1 : Int) (x3_1 : Int) (x12_1 : Int), v2 = .int .i64 x2_1 ∧ v3 = .int .i64 x3_1 ∧ v12 = .int .i64 x12_1 ∧ Aside0 (size_Least.l0 kq x2_1 x3_1 l0 (l0.length : Int) x12_1 = some (r1, r2, r3)) ∧ Aside0 (kq ≤ k) ∧ Aside0 (Below w.heap.size w w'))
    case atStart => exact ⟨(40), (40), (0), (by first | rfl | (simp; done) | (simp [*]; done)), (by first | rfl | (simp; done) | (simp [*]; done)), (by first | rfl | (simp; done) | (simp [*]; done)), H', ⟨Nat.le_refl _⟩, ⟨by repeat (first | (with_reducible first | exact HB.out | apply below_alloc | apply pw_below_drewN | apply below_drew1) | exact HB.out)⟩⟩
    case round =>
      clear H'
      try clear p2
      try clear c3
      try clear c4
      obtain ⟨x2_1, x3_1, x12_1, rfl, rfl, rfl, HA, HK1, HB⟩ := hrel
      cases gk with
      | zero => exact absurd HA.out (by simp [size_Least.l0])
      | succ k1 =>
        have H := HA.out
        clear HA
        simp only [size_Least.l0] at H
        by_cases c5 : x12_1 < (l0.length : Int)
        · rw [if_pos c5] at H
          have c5b0 : decide (x12_1 < (l0.length : Int)) = true := decide_eq_true c5
          clear c5
          by_cases c6 : 0 ≤ x12_1
          · rw [if_pos c6] at H
            have c6b0 : decide (0 ≤ x12_1) = true := decide_eq_true c6
            clear c6
            by_cases c7 : x12_1 < (l0.length : Int)
            · rw [if_pos c7] at H
              have c7b0 : decide (x12_1 < (l0.length : Int)) = true := decide_eq_true c7
              clear c7
              obtain ⟨ji8, hji8⟩ : ∃ j_ : Int, (mn x2_1 ((rd_T75 l0 x12_1).f1)) = j_ := ⟨_, rfl⟩
              replace H : (size_Least.l0 k1 ji8 (mn x3_1 ((rd_T75 l0 x12_1).f2)) l0 (l0.length : Int) (wrap64 (x12_1 + 1))) = some (r1, r2, r3) := by first | (rw [hji8] at H; exact H) | (simp only [hji8] at H ⊢; exact H)
              have hji8_ : (if ((rd_T75 l0 x12_1).f1) < x2_1 then ((rd_T75 l0 x12_1).f1) else x2_1) = ji8 := hji8
              obtain ⟨ji9, hji9⟩ : ∃ j_ : Int, (mn x3_1 ((rd_T75 l0 x12_1).f2)) = j_ := ⟨_, rfl⟩
              replace H : (size_Least.l0 k1 ji8 ji9 l0 (l0.length : Int) (wrap64 (x12_1 + 1))) = some (r1, r2, r3) := by first | (rw [hji9] at H; exact H) | (simp only [hji9] at H ⊢; exact H)
              have hji9_ : (if ((rd_T75 l0 x12_1).f2) < x3_1 then ((rd_T75 l0 x12_1).f2) else x3_1) = ji9 := hji9
              have H' := Aside0.mk H
              clear H
              have p112 : 0 ≤ (x12_1 : Int) := of_decide_eq_true (by first | (with_reducible assumption) | assumption)
              have q112 : x12_1 < (l0.length : Int) := of_decide_eq_true (by first | (with_reducible assumption) | assumption)
              obtain ⟨ad112, e112, hx112_0, hx112_1, hx112_2⟩ := at_T75 HR0.out x12_1 p112 q112
              cases e112
              replace hx112_0 := (HB.out.cell (World.block_lt_of_cell? w _ hx112_0)).trans hx112_0
              replace hx112_1 := (HB.out.cell (World.block_lt_of_cell? w _ hx112_1)).trans hx112_1
              replace hx112_2 := (HB.out.cell (World.block_lt_of_cell? w _ hx112_2)).trans hx112_2
              replace p112 := eq_true p112
              replace q112 := eq_true q112
              go_wp2_with (first | ((with_reducible refine gate_dst (N := 6) rfl ?_); refine box_event ?hg (N := 6) ?hd (cs := #[.int .i64 0, .int .i64 0, .int .i64 0]) (t := 75) ?hr ?_; (case hd => rfl); (case hg => rfl); (case hr => first | (go_simp; done) | (go_simp; rfl)); intro gb113 hg w10 hbox hb; have n0_ := Aside0.mk (below_step (by repeat (first | (with_reducible first | exact HB.out | apply below_alloc | apply pw_below_drewN | apply below_drew1) | exact HB.out)) hb); have n1_ := Aside0.mk (hbox); have n2_ := Aside0.mk ((by rw [hg]; exact (below_size (by repeat (first | (with_reducible first | exact HB.out | apply below_alloc | apply pw_below_drewN | apply below_drew1) | exact HB.out))) : w.heap.size ≤ gb113)); have n3_ := Aside0.mk ((by rw [hg]; exact (below_size (by repeat (first | (with_reducible first | exact HB.out | apply below_alloc | apply pw_below_drewN | apply below_drew1) | exact HB.out))) : w.heap.size ≤ gb113)); clear HB; have HB := n0_; have BK113 := n1_; have GW113 := n2_; have GE113 := n3_; clear n0_ n1_ n2_ n3_; clear hb hbox hg; have hcz11_0 : w10.cell? ⟨gb113, 0, none⟩ = some (.int .i64 0) := (blk_cell BK113.out 0).trans rfl; have hcz11_1 : w10.cell? ⟨gb113, 1, none⟩ = some (.int .i64 0) := (blk_cell BK113.out 1).trans rfl; have hcz11_2 : w10.cell? ⟨gb113, 2, none⟩ = some (.int .i64 0) := (blk_cell BK113.out 2).trans rfl; have hfz11_0 := blk_frozen BK113.out 0; have hfz11_1 := blk_frozen BK113.out 1; have hfz11_2 := blk_frozen BK113.out 2))
              repeat (go_quiet (first | ((with_reducible refine gate_dst (N := 6) rfl ?_); refine box_event ?hg (N := 6) ?hd (cs := #[.int .i64 0, .int .i64 0, .int .i64 0]) (t := 75) ?hr ?_; (case hd => rfl); (case hg => rfl); (case hr => first | (go_simp; done) | (go_simp; rfl)); intro gb113 hg w10 hbox hb; have n0_ := Aside0.mk (below_step (by repeat (first | (with_reducible first | exact HB.out | apply below_alloc | apply pw_below_drewN | apply below_drew1) | exact HB.out)) hb); have n1_ := Aside0.mk (hbox); have n2_ := Aside0.mk ((by rw [hg]; exact (below_size (by repeat (first | (with_reducible first | exact HB.out | apply below_alloc | apply pw_below_drewN | apply below_drew1) | exact HB.out))) : w.heap.size ≤ gb113)); have n3_ := Aside0.mk ((by rw [hg]; exact (below_size (by repeat (first | (with_reducible first | exact HB.out | apply below_alloc | apply pw_below_drewN | apply below_drew1) | exact HB.out))) : w.heap.size ≤ gb113)); clear HB; have HB := n0_; have BK113 := n1_; have GW113 := n2_; have GE113 := n3_; clear n0_ n1_ n2_ n3_; clear hb hbox hg; have hcz11_0 : w10.cell? ⟨gb113, 0, none⟩ = some (.int .i64 0) := (blk_cell BK113.out 0).trans rfl; have hcz11_1 : w10.cell? ⟨gb113, 1, none⟩ = some (.int .i64 0) := (blk_cell BK113.out 1).trans rfl; have hcz11_2 : w10.cell? ⟨gb113, 2, none⟩ = some (.int .i64 0) := (blk_cell BK113.out 2).trans rfl; have hfz11_0 := blk_frozen BK113.out 0; have hfz11_1 := blk_frozen BK113.out 1; have hfz11_2 := blk_frozen BK113.out 2)); try go_wp2_with (first | ((with_reducible refine gate_dst (N := 6) rfl ?_); refine box_event ?hg (N := 6) ?hd (cs := #[.int .i64 0, .int .i64 0, .int .i64 0]) (t := 75) ?hr ?_; (case hd => rfl); (case hg => rfl); (case hr => first | (go_simp; done) | (go_simp; rfl)); intro gb113 hg w10 hbox hb; have n0_ := Aside0.mk (below_step (by repeat (first | (with_reducible first | exact HB.out | apply below_alloc | apply pw_below_drewN | apply below_drew1) | exact HB.out)) hb); have n1_ := Aside0.mk (hbox); have n2_ := Aside0.mk ((by rw [hg]; exact (below_size (by repeat (first | (with_reducible first | exact HB.out | apply below_alloc | apply pw_below_drewN | apply below_drew1) | exact HB.out))) : w.heap.size ≤ gb113)); have n3_ := Aside0.mk ((by rw [hg]; exact (below_size (by repeat (first | (with_reducible first | exact HB.out | apply below_alloc | apply pw_below_drewN | apply below_drew1) | exact HB.out))) : w.heap.size ≤ gb113)); clear HB; have HB := n0_; have BK113 := n1_; have GW113 := n2_; have GE113 := n3_; clear n0_ n1_ n2_ n3_; clear hb hbox hg; have hcz11_0 : w10.cell? ⟨gb113, 0, none⟩ = some (.int .i64 0) := (blk_cell BK113.out 0).trans rfl; have hcz11_1 : w10.cell? ⟨gb113, 1, none⟩ = some (.int .i64 0) := (blk_cell BK113.out 1).trans rfl; have hcz11_2 : w10.cell? ⟨gb113, 2, none⟩ = some (.int .i64 0) := (blk_cell BK113.out 2).trans rfl; have hfz11_0 := blk_frozen BK113.out 0; have hfz11_1 := blk_frozen BK113.out 1; have hfz11_2 := blk_frozen BK113.out 2)))
              go_roundg k1
              case measure => have := HK1.out; omega
              case rel => exact ⟨(ji8), (ji9), (wrap64 (x12_1 + 1)), (by first | rfl | (simp; done) | (simp only [← hji8] <;> (first | rfl | simp)) | (simp [*]; done)), (by first | rfl | (simp; done) | (simp only [← hji9] <;> (first | rfl | simp)) | (simp [*]; done)), (by first | rfl | (simp; done) | (simp [*]; done)), H', ⟨by have := HK1.out; omega⟩, ⟨by repeat (first | (with_reducible first | exact HB.out | apply below_alloc | apply pw_below_drewN | apply below_drew1 | refine below_set ?_ GE113.out) | exact HB.out)⟩⟩
            · rw [if_neg c7] at H
              exact absurd H (by simp)
          · rw [if_neg c6] at H
            exact absurd H (by simp)
        · rw [if_neg c5] at H
          have c5b0 : decide (x12_1 < (l0.length : Int)) = false := decide_eq_false c5
          clear c5
          obtain ⟨ji12, hji12⟩ : ∃ j_ : Int, (mx 1 x2_1) = j_ := ⟨_, rfl⟩
          replace H : (some (ji12, mx 1 x3_1, 0)) = some (r1, r2, r3) := by first | (rw [hji12] at H; exact H) | (simp only [hji12] at H ⊢; exact H)
          have hji12_ : (if 1 < x2_1 then x2_1 else 1) = ji12 := hji12
          obtain ⟨ji13, hji13⟩ : ∃ j_ : Int, (mx 1 x3_1) = j_ := ⟨_, rfl⟩
          replace H : (some (ji12, ji13, 0)) = some (r1, r2, r3) := by first | (rw [hji13] at H; exact H) | (simp only [hji13] at H ⊢; exact H)
          have hji13_ : (if 1 < x3_1 then x3_1 else 1) = ji13 := hji13
          simp only [Option.some.injEq, Prod.mk.injEq] at H
          obtain ⟨rfl, rfl, rfl⟩ := H
          go_wp2
          repeat (go_quiet (fail); try go_wp2)
          go_ret3
          exact ⟨by first | rfl | (simp [errW_none, errW_some] <;> rfl) | (simp only [← hji12, ← hji13]; first | rfl | (simp [errW_none, errW_some] <;> rfl)) | (simp [*, errW_none, errW_some] <;> rfl), by repeat (first | (with_reducible first | exact HB.out | apply below_alloc | apply pw_below_drewN | apply below_drew1) | exact HB.out)⟩
  · replace c3 := Bool.eq_false_iff.mpr c3
    subst c3
    have H1 : (some (0, 0, 1)) = some (r1, r2, r3) := by rw [if_neg (show ¬ (false = true) by decide)] at H; exact H
    clear H
    have H := H1
    clear H1
    simp only [Option.some.injEq, Prod.mk.injEq] at H
    obtain ⟨rfl, rfl, rfl⟩ := H
    go_enter Try.func40, Try.ntmps40
    go_wp2_with (first | (go_at_call 83; (with_reducible refine (size_May.calls k _ _ l0 false _ ?side1 ?side2 A2.out).mono ?_); (case side1 => repeat (first | exact HR0.out | (with_reducible refine Kd.C_alloc ?_ _) | (with_reducible refine Kd.C_drewN ?_ _) | (with_reducible refine Kd.C_drew ?_))); (case side2 => exact HC0.out); rintro e w14 ⟨rfl, hb⟩; have n0_ := Aside0.mk (below_step (by repeat (first | (with_reducible first | exact HB.out | apply below_alloc | apply pw_below_drewN | apply below_drew1) | exact HB.out)) hb); clear HB; have HB := n0_; clear n0_; (try clear hb); (try clear hb2); (try clear hk); (try clear hi)))
    repeat (go_quiet (first | (go_at_call 83; (with_reducible refine (size_May.calls k _ _ l0 false _ ?side1 ?side2 A2.out).mono ?_); (case side1 => repeat (first | exact HR0.out | (with_reducible refine Kd.C_alloc ?_ _) | (with_reducible refine Kd.C_drewN ?_ _) | (with_reducible refine Kd.C_drew ?_))); (case side2 => exact HC0.out); rintro e w14 ⟨rfl, hb⟩; have n0_ := Aside0.mk (below_step (by repeat (first | (with_reducible first | exact HB.out | apply below_alloc | apply pw_below_drewN | apply below_drew1) | exact HB.out)) hb); clear HB; have HB := n0_; clear n0_; (try clear hb); (try clear hb2); (try clear hk); (try clear hi))); try go_wp2_with (first | (go_at_call 83; (with_reducible refine (size_May.calls k _ _ l0 false _ ?side1 ?side2 A2.out).mono ?_); (case side1 => repeat (first | exact HR0.out | (with_reducible refine Kd.C_alloc ?_ _) | (with_reducible refine Kd.C_drewN ?_ _) | (with_reducible refine Kd.C_drew ?_))); (case side2 => exact HC0.out); rintro e w14 ⟨rfl, hb⟩; have n0_ := Aside0.mk (below_step (by repeat (first | (with_reducible first | exact HB.out | apply below_alloc | apply pw_below_drewN | apply below_drew1) | exact HB.out)) hb); clear HB; have HB := n0_; clear n0_; (try clear hb); (try clear hb2); (try clear hk); (try clear hi))))
    go_ret3
    exact ⟨by first | rfl | (simp [errW_none, errW_some] <;> rfl) | (simp [*, errW_none, errW_some] <;> rfl), by repeat (first | (with_reducible first | exact HB.out | apply below_alloc | apply pw_below_drewN | apply below_drew1) | exact HB.out)⟩

-- NOT PRINTED: function 87 (api_Offer_int)

-- NOT PRINTED: function 104 (api_Offer_104)

-- NOT PRINTED: function 111 (api_Offer_111)

-- NOT PRINTED: function 109 (api_Offer_109)

-- NOT PRINTED: function 105 (api_Offer_105)

-- NOT PRINTED: function 89 (api_Offer_89)

/-! ### size_Set: function 41 (an extern) -/
-- NEEDS Derived.Shelf.Spec.SlicesInsert
set_option maxRecDepth 100000 in
theorem set88 (a b c t : Int) (w : World) :
    Calls Try.prog 88 #[.agg #[.int .i64 a, .int .i64 b, .int .i64 c], .int .i64 t] w fun e w' => e = .returned (.int .i64 (wrap64 (a - t))) ∧ Below w.heap.size w w' := by
  go_enter Try.func88, Try.ntmps88
  go_wp2
  go_ret
  exact ⟨rfl, below_alloc (Below.refl _ _) _⟩
def Asc75 (l : List S75) : Prop := l.length ≤ 8 ∧ (∀ i : Nat, i < l.length → 0 ≤ (rd_T75 l i).f0 ∧ (rd_T75 l i).f0 ≤ 4) ∧ ∀ i j : Nat, i < j → j < l.length → (rd_T75 l i).f0 < (rd_T75 l j).f0
/-- The place of a number in a row that rises. -/
def Place75 (l : List S75) (who : Int) (p : Nat) : Prop := p ≤ l.length ∧ (∀ i : Nat, i < p → (rd_T75 l i).f0 < who) ∧ ∀ i : Nat, p ≤ i → i < l.length → who ≤ (rd_T75 l i).f0
def BsPost (l : List S75) (who : Int) (w : World) (e : Ending) (w' : World) : Prop :=
  ∃ (p : Nat) (b : Bool), Place75 l who p ∧ (b = true ↔ p < l.length ∧ (rd_T75 l p).f0 = who) ∧ e = .returned (.tuple #[.int .i64 p, .bool b]) ∧ Below w.heap.size w w'
set_option maxRecDepth 100000 in
set_option maxHeartbeats 4000000 in
theorem search87 (A0 : Option Addr) (c0 : Nat) (l0 : List S75) (who : Int) (w : World) (hr0 : Kd.C k75 w A0 l0.length l0) (hs : Asc75 l0) (hw : 0 ≤ who ∧ who ≤ 4) :
    Calls Try.prog 87 #[.slice A0 l0.length c0, .int .i64 who, .func (.func 88) #[] #[]] w (BsPost l0 who w) := by
  have HR0 := Aside0.mk hr0
  have HS := Aside0.mk hs
  have HW := Aside0.mk hw
  have hl8 := hs.1
  clear hr0 hs hw
  go_enter Try.func87, Try.ntmps87
  go_wp2
  go_loopw [9, 10] (fun v9 v10 w' => ∃ i j : Nat, v9 = .int .i64 i ∧ v10 = .int .i64 j ∧ i ≤ j ∧ j ≤ l0.length ∧ Aside0 (∀ q : Nat, q < i → (rd_T75 l0 q).f0 < who) ∧ Aside0 (∀ q : Nat, j ≤ q → q < l0.length → who ≤ (rd_T75 l0 q).f0) ∧ Aside0 (Below w.heap.size w w')) (fun v9 v10 _ => (intOf v10).toNat - (intOf v9).toNat)
  case atStart => exact ⟨0, l0.length, rfl, rfl, Nat.zero_le _, Nat.le_refl _, ⟨fun q hq => by omega⟩, ⟨fun q h1 h2 => by omega⟩, ⟨Below.refl _ _⟩⟩
  case round =>
    obtain ⟨i, j, rfl, rfl, hij, hj, HL, HG, HB⟩ := hrel
    by_cases hlt : i < j
    · obtain ⟨h, hh⟩ : ∃ h : Nat, h = (i + j) / 2 := ⟨_, rfl⟩
      have hh1 : i ≤ h ∧ h < j := by omega
      have hw1 : wrap64 ((i : Int) + (j : Int)) = ((i + j : Nat) : Int) := by unfold wrap64; omega
      have hw2 : IntKind.u64.wrap ((i + j : Nat) : Int) = ((i + j : Nat) : Int) := by rw [IntKind.wrap_u64]; omega
      have hh2 : ((i : Int) + (j : Int)) / 2 = (h : Int) := by omega
      obtain ⟨ad, e0, hx0, hx1, hx2⟩ := at_T75 HR0.out (h : Int) (by omega) (by omega)
      cases e0
      rw [Int.toNat_natCast] at hx0 hx1 hx2
      replace hx0 := (HB.out.cell (World.block_lt_of_cell? w _ hx0)).trans hx0
      replace hx1 := (HB.out.cell (World.block_lt_of_cell? w _ hx1)).trans hx1
      replace hx2 := (HB.out.cell (World.block_lt_of_cell? w _ hx2)).trans hx2
      have hv := HS.out.2.1 h (by omega)
      have hw1 := HW.out
      have hwr : wrap64 ((rd_T75 l0 h).f0 - who) = (rd_T75 l0 h).f0 - who := by unfold wrap64; omega
      have HH := Aside0.mk hh
      clear hh
      by_cases hc : (rd_T75 l0 h).f0 < who
      · have hc1 : (rd_T75 l0 h).f0 - who < 0 := by omega
        have HCC := Aside0.mk hc
        clear hc hv hw1
        go_wp2_with (go_at_call 88; refine (set88 _ _ _ _ _).mono ?_; rintro e w7 ⟨rfl, hb7⟩; have HB7 := Aside0.mk (below_step HB.out hb7); clear hb7)
        refine ⟨⟨h + 1, j, by go_num, rfl, by omega, hj, ⟨fun q hq => ?_⟩, HG, HB7⟩, by simp [intOf]; omega⟩
        by_cases hqh : q = h
        · rw [hqh]; exact HCC.out
        · have h1 := HS.out.2.2 q h (by omega) (by omega)
          have h2 := HCC.out
          omega
      · have hc1 : ¬ (rd_T75 l0 h).f0 - who < 0 := by omega
        have HCC := Aside0.mk hc
        clear hc hv hw1
        go_wp2_with (go_at_call 88; refine (set88 _ _ _ _ _).mono ?_; rintro e w7 ⟨rfl, hb7⟩; have HB7 := Aside0.mk (below_step HB.out hb7); clear hb7)
        refine ⟨⟨i, h, rfl, rfl, by omega, by omega, HL, ⟨fun q h1 h2 => ?_⟩, HB7⟩, by simp [intOf]; omega⟩
        by_cases hqh : q = h
        · rw [hqh]
          have := HCC.out
          omega
        · have h1 := HS.out.2.2 h q (by omega) h2
          have h2 := HCC.out
          omega
    · have hje : j = i := by omega
      subst hje
      by_cases hjl : j < l0.length
      · obtain ⟨ad, e0, hx0, hx1, hx2⟩ := at_T75 HR0.out (j : Int) (by omega) (by omega)
        cases e0
        rw [Int.toNat_natCast] at hx0 hx1 hx2
        replace hx0 := (HB.out.cell (World.block_lt_of_cell? w _ hx0)).trans hx0
        replace hx1 := (HB.out.cell (World.block_lt_of_cell? w _ hx1)).trans hx1
        replace hx2 := (HB.out.cell (World.block_lt_of_cell? w _ hx2)).trans hx2
        have hv := HS.out.2.1 j (by omega)
        have hw1 := HW.out
        have hwr : wrap64 ((rd_T75 l0 j).f0 - who) = (rd_T75 l0 j).f0 - who := by unfold wrap64; omega
        by_cases hc : (rd_T75 l0 j).f0 = who
        · have hc1 : ((rd_T75 l0 j).f0 - who == 0) = true := by simp; omega
          have HCC := Aside0.mk hc
          clear hc hv hw1
          go_wp2_with (go_at_call 88; refine (set88 _ _ _ _ _).mono ?_; rintro e w7 ⟨rfl, hb7⟩; have HB7 := Aside0.mk (below_step HB.out hb7); clear hb7)
          go_ret2
          exact ⟨j, true, ⟨hj, HL.out, HG.out⟩, ⟨fun _ => ⟨hjl, HCC.out⟩, fun _ => rfl⟩, rfl, HB7.out⟩
        · have hc1 : ((rd_T75 l0 j).f0 - who == 0) = false := by simp; omega
          have HCC := Aside0.mk hc
          clear hc hv hw1
          go_wp2_with (go_at_call 88; refine (set88 _ _ _ _ _).mono ?_; rintro e w7 ⟨rfl, hb7⟩; have HB7 := Aside0.mk (below_step HB.out hb7); clear hb7)
          go_ret2
          exact ⟨j, false, ⟨hj, HL.out, HG.out⟩, ⟨fun h => by simp at h, fun h => absurd h.2 HCC.out⟩, rfl, HB7.out⟩
      · go_wp2
        go_ret2
        exact ⟨j, false, ⟨hj, HL.out, HG.out⟩, ⟨fun h => by simp at h, fun h => absurd h.1 hjl⟩, rfl, HB.out⟩
/-! Insert: one offer into a row of the call's own. -/
theorem addr_off (g o j : Nat) : (⟨g, o, none⟩ : Addr).add j = ⟨g, o + j, none⟩ := by
  unfold Addr.add
  split <;> simp_all
theorem reps75 {M : S75 → List Value → Prop} (hM : ∀ x cs, M x cs → cs = cells75 x) : ∀ (xs : List S75) (inner : List Value), Reps M 3 xs inner → inner = xs.flatMap cells75
  | [], inner, h => List.eq_nil_of_length_eq_zero (by simpa using h.1)
  | x :: xs, inner, h => by
    have h0 := hM _ _ (h.2 0 x rfl)
    rw [Nat.zero_mul, List.drop_zero] at h0
    have h1 : Reps M 3 xs (inner.drop 3) := ⟨by rw [List.length_drop, h.1, List.length_cons]; omega, fun i p hp => by
      have := h.2 (i + 1) p (by simpa using hp)
      rwa [List.drop_drop, show 3 + i * 3 = (i + 1) * 3 by omega]⟩
    have h2 := reps75 hM xs _ h1
    rw [List.flatMap_cons, ← h2, ← h0, List.take_append_drop]
theorem reps75_of {M : S75 → List Value → Prop} (hM : ∀ x, M x (cells75 x)) : ∀ (xs : List S75), Reps M 3 xs (xs.flatMap cells75) := by
  intro xs
  refine ⟨len75 xs, fun i p hp => ?_⟩
  have : ∀ (xs : List S75) (i : Nat) (p : S75), xs[i]? = some p → ((xs.flatMap cells75).drop (i * 3)).take 3 = cells75 p := by
    intro xs
    induction xs with
    | nil => intro i p h; simp at h
    | cons x xs ih =>
      intro i p h
      cases i with
      | zero =>
        have : x = p := by simpa using h
        subst this
        simp [cells75]
      | succ i =>
        have := ih i p (by simpa using h)
        rw [List.flatMap_cons, show (i + 1) * 3 = 3 + i * 3 by omega, ← List.drop_drop]
        exact this
  rw [this xs i p hp]
  exact hM p
theorem row75_open {W : World} {base : Nat} {ok : Nat → Prop} {g n cap : Nat} {xs : List S75} (h : Kd.R k75 75 W base ok (.slice (some ⟨g, 0, none⟩) n cap) xs) :
    ∃ cur : Array Value, W.heap[g]? = some (.cells cur 75 (0, 0)) ∧ base ≤ g ∧ n = xs.length ∧ n ≤ cap ∧ cap ≤ maxLen ∧ cur.size = cap * 3 ∧ cur.toList.take (n * 3) = xs.flatMap cells75 := by
  obtain ⟨_, inner, ho, hr⟩ := h
  have hin := reps75 (fun x cs hm => k75_openM hm) _ _ hr
  obtain ⟨_, h2⟩ := ho
  rcases h2 with ⟨e, _⟩ | ⟨g', cap', cur, e, hb, hh, h3, h4, h5, h6⟩
  · cases e
  · injection e with e1 e2 e3
    injection e1 with e1
    injection e1 with e1
    subst e1
    subst e3
    exact ⟨cur, hh, hb, e2, by omega, h4, h5, by rw [e2, ← hin]; exact h6⟩
theorem row75_mk {W : World} {base : Nat} {g n cap : Nat} {xs : List S75} {cur : Array Value} (hh : W.heap[g]? = some (.cells cur 75 (0, 0))) (hb : base ≤ g) (hn : n = xs.length) (hc : n ≤ cap) (hm : cap ≤ maxLen) (hs : cur.size = cap * 3) (ht : cur.toList.take (n * 3) = xs.flatMap cells75) :
    Kd.R k75 75 W base (fun _ => True) (.slice (some ⟨g, 0, none⟩) n cap) xs := by
  subst hn
  exact ⟨fun _ _ => trivial, xs.flatMap cells75, ⟨len75 xs, .inr ⟨g, cap, cur, rfl, hb, hh, hc, hm, hs, ht⟩⟩, reps75_of (fun x => k75_mkM _ _ _ x) xs⟩
theorem copy75 (w : World) (ty : TypeId) (b o dLen dCap : Nat) (a : Addr) (sLen sCap : Nat) (ys : List S75) (hn : ys.length = Nat.min sLen dLen) (hsrc : ∀ j v, (ys.flatMap cells75)[j]? = some v → w.cell? (a.add j) = some v)
    (hc : ∀ j, j < ys.length * 3 → (w.cell? ⟨b, o + j, none⟩).isSome = true) (hf : ∀ j, j < ys.length * 3 → w.frozen? ⟨b, o + j, none⟩ = false) :
    (Builtin.copy_ #[71, 71] ty #[.slice (some ⟨b, o, none⟩) dLen dCap, .slice (some a) sLen sCap]).run Try.prog w = .ok (goInt ys.length) (w.setCells b o (ys.flatMap cells75)) := by
  have hl := run_loadCells_list (P := Try.prog) w a (ys.flatMap cells75) hsrc
  rw [len75] at hl
  have hst := run_storeCells_cells (P := Try.prog) b o (ys.flatMap cells75) 0 w (by rw [len75]; simpa using hc) (by rw [len75]; simpa using hf) (one75 _)
  obtain ⟨i0, hi, hzz⟩ := Option.map_eq_some_iff.1 info75
  simp only [Prod.mk.injEq] at hzz
  obtain ⟨hz0, hz1, hz2⟩ := hzz
  simp [Builtin.copy_, run_underlying Try.underlying71, Builtin.lenOf, Builtin.firstCells, sizeOf, typeInfo, hi, hz1, ← hn, hl, hst]
theorem growZeros75 (W : World) (ty : TypeId) (A : Option Addr) (cap n m : Nat) (xs : List Value) (hcap : cap < n + m) (hm : 0 < m) (hs : n + m ≤ 100) (hfo : (Builtin.firstCells 3 n (.slice A n cap)).run Try.prog W.drew = .ok xs.toArray W.drew) :
    (Builtin.append_ #[71, 3] ty #[.slice A n cap, .int .i64 m]).run Try.prog W = .ok (.slice (some ⟨W.heap.size, 0, none⟩) (n + m) (grownCap W (n + m) cap 75))
      (W.drew.alloc (.cells (xs.toArray ++ Builtin.zeroCells (Value.agg #[(.int .i64 0), (.int .i64 0), (.int .i64 0)]).cells m ++ Builtin.zeroCells (Value.agg #[(.int .i64 0), (.int .i64 0), (.int .i64 0)]).cells (grownCap W (n + m) cap 75 - (n + m))) 75)) := by
  obtain ⟨i0, hi, hzz⟩ := Option.map_eq_some_iff.1 info75
  simp only [Prod.mk.injEq] at hzz
  obtain ⟨hz0, hz1, hz2⟩ := hzz
  have hw : IntKind.i64.wrap (m : Int) = m := by rw [IntKind.wrap_i64]; omega
  have hneg : ¬ ((m : Int) < 0) := by omega
  have hbig : ¬ (281474976710656 < (m : Int) * 24) := by omega
  have hn : ¬ (n + m ≤ cap) := by omega
  have h63' : ¬ (9223372036854775807 < ((n : Int) + (m : Int))) := by omega
  have hfit := growslice_fits hcap (show (n + m) * 24 ≤ 140737488355328 by omega)
  have h48' : ¬ (281474976710656 < Builtin.nextslicecap (n + m) cap * 24) := by omega
  have hm0 : ¬ m = 0 := by omega
  simp [Builtin.append_, run_underlying Try.underlying71, run_underlying Try.underlying3, sizeOf, typeInfo, zeroValue, hi, hz0, hz1, hz2, asInt, asIntOf, hw, hneg, hbig, hn, h63', h48', Question.forced, hfo, newRow, grownCap, hm0]
  exact fun h => absurd h (by omega)
theorem ins75 (l : List S75) (p : Nat) (x z : S75) (hp : p ≤ l.length) :
    ((l.take p ++ List.replicate (l.length + 1 - p) z).take p ++ [x] ++ (l.take p ++ List.replicate (l.length + 1 - p) z).drop (p + [x].length)).take (p + 1) ++ l.drop p ++ ((l.take p ++ List.replicate (l.length + 1 - p) z).take p ++ [x] ++ (l.take p ++ List.replicate (l.length + 1 - p) z).drop (p + [x].length)).drop (p + 1 + (l.drop p).length) = l.take p ++ [x] ++ l.drop p := by
  obtain ⟨A, hA⟩ : ∃ A, A = l.take p := ⟨_, rfl⟩
  have hl : A.length = p := by rw [hA, List.length_take]; omega
  rw [← hA, List.take_left' hl]
  have h1 : (A ++ [x]).length = p + 1 := by simp [hl]
  rw [List.take_left' h1, List.drop_of_length_le (l := A ++ [x] ++ _) (by simp [hl]; omega), List.append_nil]
theorem grow75 (W w0 : World) (g cap p : Nat) (l : List S75) (ho : Kd.R k75 75 W w0.heap.size (fun _ => True) (.slice (some ⟨g, 0, none⟩) l.length cap) l) (hB : Below w0.heap.size w0 W) (h8 : l.length ≤ 8) (hp : p ≤ l.length) (hc : cap < l.length + 1) :
    ∃ C W1, (∀ ty, (Builtin.append_ #[71, 3] ty #[.slice (some ⟨g, 0, none⟩) p cap, .int .i64 ((l.length : Int) + 1 - (p : Int))]).run Try.prog W = .ok (.slice (some ⟨W.heap.size, 0, none⟩) (l.length + 1) C) W1) ∧
      Kd.R k75 75 W1 w0.heap.size (fun _ => True) (.slice (some ⟨W.heap.size, 0, none⟩) (l.length + 1) C) (l.take p ++ List.replicate (l.length + 1 - p) z75) ∧ Below W.heap.size W W1 := by
  obtain ⟨cur, hcur, hgb, _, hnc, hcm, hcs, hct⟩ := row75_open ho
  have hT := Kd.R_take (m := p) ho hp
  have hn : (l.length : Int) + 1 - (p : Int) = ((l.length + 1 - p : Nat) : Int) := by omega
  have hfo : (Builtin.firstCells 3 p (.slice (some ⟨g, 0, none⟩) p cap)).run Try.prog W.drew = .ok (((l.take p).flatMap cells75).toArray) W.drew := by
    refine run_firstCells_some (P := Try.prog) W.drew 3 p _ p cap _ (by rw [len75, List.length_take]; omega) ?_
    intro j v hj
    show W.cell? _ = _
    rw [add_plain, blk_cell hcur j]
    have e : l.flatMap cells75 = (l.take p).flatMap cells75 ++ (l.drop p).flatMap cells75 := by rw [← List.flatMap_append, List.take_append_drop]
    have h1 : (l.flatMap cells75)[j]? = some v := by rw [e, List.getElem?_append_left (List.getElem?_eq_some_iff.1 hj).1]; exact hj
    rw [← hct, List.getElem?_take] at h1
    split at h1
    · simpa using h1
    · cases h1
  have hg := fun ty => growZeros75 W ty (some ⟨g, 0, none⟩) cap p (l.length + 1 - p) _ (by omega) (by omega) (by omega) hfo
  obtain ⟨v1, w1, hr, hR, _, _⟩ := Kd.R_zeros_run (P := Try.prog) k75 (W := W) w0.heap.size 71 3 71 75 (.agg #[(.int .i64 0), (.int .i64 0), (.int .i64 0)]) 24 Try.underlying71 Try.underlying3 info75 rfl (by decide) (by decide) (.slice (some ⟨g, 0, none⟩) p cap) (l.take p) z75 (ok := fun _ => True) (k75_mkM _ _ _ z75) (fun _ _ => trivial) hT .i64 ((l.length + 1 - p : Nat) : Int) (by omega) (by rw [List.length_take, Int.toNat_natCast]; omega) hB.size
  have h1 := (hg 71).symm.trans hr
  injection h1 with h2 h3
  rw [← h2, ← h3, Int.toNat_natCast] at hR
  rw [show p + (l.length + 1 - p) = l.length + 1 by omega] at hg hR
  refine ⟨_, _, fun ty => by rw [hn]; exact hg ty, hR, below_alloc (below_drew1 (Below.refl _ _)) _⟩
def InsPost (l : List S75) (p : Nat) (x : S75) (w0 : World) (e : Ending) (w' : World) : Prop :=
  ∃ v1, e = .returned v1 ∧ Kd.R k75 75 w' w0.heap.size (fun _ => True) v1 (l.take p ++ [x] ++ l.drop p) ∧ Below w0.heap.size w0 w'
set_option maxRecDepth 100000 in
set_option maxHeartbeats 4000000 in
theorem insert89 (v : Value) (l : List S75) (p : Nat) (x : S75) (gv : Nat) (w0 w : World) (hB : Below w0.heap.size w0 w) (ho : Kd.R k75 75 w w0.heap.size (fun _ => True) v l) (hv : w.heap[gv]? = some (.cells (cells75 x).toArray 75 (0, 0))) (hne : v.ownBlock ≠ some gv) (h8 : l.length ≤ 8) (hp : p ≤ l.length) :
    Calls Try.prog 89 #[v, .int .i64 p, .slice (some ⟨gv, 0, none⟩) 1 1] w (InsPost l p x w0) := by
  obtain ⟨A0, c0, rfl, hc0, hr0⟩ := Kd.R_reads ho
  have HO := Aside0.mk ho
  have HB := Aside0.mk hB
  have HV := Aside0.mk hv
  have HR0 := Aside0.mk hr0
  have HNE := Aside0.mk hne
  have mixed : True := trivial
  clear ho hB hv hr0 hne mixed
  by_cases hpe : p = l.length
  · subst hpe
    have HVR : Aside0 (Kd.C k75 w (some ⟨gv, 0, none⟩) 1 [x]) := ⟨by
      have := row75_mk (n := 1) (cap := 1) (xs := [x]) HV.out (Nat.zero_le _) rfl (Nat.le_refl _) (by simp [maxLen]) rfl rfl
      exact (Kd.R_reads' this).2.2⟩
    go_enter Try.func89, Try.ntmps89
    go_wp2_with (first | ((with_reducible refine gate_builtin (b := .append) (xs := #[.tmp 23, .tmp 24]) rfl ?_); at_builtin; refine Kd.R_append_rows k75 (w0 := w0) w0.heap.size rfl (.tmp 23) (.tmp 24) 71 75 (.agg #[(.int .i64 0), (.int .i64 0), (.int .i64 0)]) 24 rfl Try.underlying71 info75 rfl (by decide) (by omega) _ l [x] _ _ _ (fun _ => True) (fun _ => False) rfl rfl ?aO ?aR (fun _ _ h => h) (fun _ h => h.elim) ?aF ?aB ?aS ?aL ?_; (case aR => exact HVR.out); (case aB => exact HB.out); (case aF => exact (fun _ _ => trivial)); (case aO => exact HO.out); (case aS => exact HB.out.size); (case aL => omega); intro v109 w5 ho hb hg hat; have HB5 := Aside0.mk hb; have HO5 := Aside0.mk ho; clear ho hb hg hat))
    all_goals (go_ret; exact ⟨_, rfl, by rw [List.take_of_length_le (Nat.le_refl _), List.drop_of_length_le (Nat.le_refl _), List.append_nil]; exact HO5.out, HB5.out⟩)
  · obtain ⟨g, co, eo, hgb, hgl, _⟩ := Kd.R_form HO.out (by omega)
    cases eo
    obtain ⟨cur, hcur, hqx, hqy, hnc, hcm, hcs, hct⟩ := row75_open HO.out
    clear hqx hqy
    have hcc : ∀ (W : World), W.heap[g]? = some (.cells cur 75 (0, 0)) → ∀ j v, (l.flatMap cells75)[j]? = some v → W.cell? ⟨g, j, none⟩ = some v := fun W hW j v hj => by
      rw [blk_cell hW j]
      rw [← hct, List.getElem?_take] at hj
      split at hj
      · simpa using hj
      · cases hj
    have hdrop : ∀ j v, ((l.drop p).flatMap cells75)[j]? = some v → (l.flatMap cells75)[p * 3 + j]? = some v := fun j v hj => by
      have e : l.flatMap cells75 = (l.take p).flatMap cells75 ++ (l.drop p).flatMap cells75 := by rw [← List.flatMap_append, List.take_append_drop]
      rw [e, List.getElem?_append_right (by rw [len75, List.length_take]; omega), len75, List.length_take, Nat.min_eq_left hp, Nat.add_sub_cancel_left]
      exact hj
    have HCC := Aside0.mk hcc
    have HDR := Aside0.mk hdrop
    have HCUR := Aside0.mk hcur
    have hpn : p < l.length := by omega
    have hb1 : ((p : Int) == (l.length : Int)) = false := by simp; omega
    have hci : ¬ c0 = p := by omega
    have hneg : gv ≠ g := fun e_ => HNE.out (by rw [e_]; rfl)
    by_cases hroom : l.length + 1 ≤ c0
    · have hb2 : ¬ (c0 : Int) < (l.length : Int) + 1 := by omega
      have hW1 : wrap64 ((l.length : Int) + 1) = (l.length : Int) + 1 := by unfold wrap64; omega
      have hWp : wrap64 ((p : Int) + 1) = (p : Int) + 1 := by unfold wrap64; omega
      have hx0 : IntKind.i64.wrap ((p : Int) + 1) = (p : Int) + 1 := by rw [IntKind.wrap_i64]; omega
      have hx1 : (0 : Int) ≤ (p : Int) + 1 := by omega
      have hx2 : (p : Int) + 1 ≤ (l.length : Int) + 1 := by omega
      have hx3 : ((p : Int) + 1).toNat = p + 1 := by omega
      have hx4 : (p : Int) ≤ (l.length : Int) := by omega
      have hx5 : (l.length : Int) + 1 ≤ (c0 : Int) := by omega
      have hx6 : ((l.length : Int) + 1).toNat = l.length + 1 := by omega
      have hpC1 : ¬ c0 = p + 1 := by omega
      have hx7 : (p : Int) ≤ (l.length : Int) + 1 := by omega
      have hx8 : (0 : Int) ≤ (l.length : Int) + 1 := by omega
      have hov : ∀ lb cb, (callFunc 104 #[.slice (some ⟨gv, 0, none⟩) 1 1, .slice (some ⟨g, (p + 1) * 3, none⟩) lb cb]).run Try.prog w = .ok (.value (.bool false)) w := fun lb cb => by
        rw [run_callFunc_extern Try.func104 (by kernel_rfl) (by kernel_rfl) (by kernel_rfl) (e := Extern.SlicesOverlaps.overlaps #[71, 71] #[4]) (by kernel_rfl),
          Lib.run_overlaps_apart w 71 4 75 Try.underlying71 3 Try.sizeOf75 ⟨gv, 0, none⟩ ⟨g, (p + 1) * 3, none⟩ 1 1 lb cb hneg 75 75 3 (c0 * 3) (by simp [World.shape?, HV.out, cells75]) (by simp [World.shape?, HCUR.out, hcs]) (by omega) (blk_frozen HV.out _) (blk_frozen HV.out _)]
        rfl
      have hcp1 : ∀ ty D, (Builtin.copy_ #[71, 71] ty #[.slice (some ⟨g, (p + 1) * 3, none⟩) (l.length - p) D, .slice (some ⟨g, p * 3, none⟩) (l.length + 1 - p) (c0 - p)]).run Try.prog w.drew = .ok (goInt (l.length - p : Nat)) (w.drew.setCells g ((p + 1) * 3) ((l.drop p).flatMap cells75)) := fun ty D => by
        have := copy75 w.drew ty g ((p + 1) * 3) (l.length - p) D ⟨g, p * 3, none⟩ (l.length + 1 - p) (c0 - p) (l.drop p) (by rw [List.length_drop]; exact (Nat.min_eq_right (by omega)).symm)
          (fun j v hj => by rw [addr_off]; exact HCC.out _ HCUR.out _ _ (HDR.out j v hj)) (fun j hj => by rw [List.length_drop] at hj; show (w.cell? _).isSome = true; rw [blk_cell HCUR.out]; simp; omega) (fun j hj => blk_frozen (w := w) HCUR.out _)
        rw [List.length_drop] at this
        exact this
      obtain ⟨W1, hW1e⟩ : ∃ W1, W1 = w.drew.setCells g ((p + 1) * 3) ((l.drop p).flatMap cells75) := ⟨_, rfl⟩
      obtain ⟨cur1, hc1, hs1, ht1⟩ := setCells_row ((l.drop p).flatMap cells75) ((p + 1) * 3) w.drew cur (show w.drew.heap[g]? = _ from HCUR.out) (by rw [len75, List.length_drop]; omega)
      have hV1 : W1.heap[gv]? = some (.cells (cells75 x).toArray 75 (0, 0)) := by rw [hW1e, setCells_far _ _ _ hneg]; exact HV.out
      have hz1 := setCells_same g ((l.drop p).flatMap cells75) ((p + 1) * 3) w.drew
      rw [← hW1e] at hcp1 hc1 hz1
      have hfit2 : p * 3 + (cells75 x).length ≤ cur1.size := by rw [hs1, hcs]; show p * 3 + 3 ≤ _; omega
      have hcp2 : ∀ ty D D', 0 < D → (Builtin.copy_ #[71, 71] ty #[.slice (some ⟨g, p * 3, none⟩) D D', .slice (some ⟨gv, 0, none⟩) 1 1]).run Try.prog W1 = .ok (goInt 1) (W1.setCells g (p * 3) (cells75 x)) := fun ty D D' hD => by
        have := copy75 W1 ty g (p * 3) D D' ⟨gv, 0, none⟩ 1 1 [x] (by show 1 = Nat.min 1 _; exact (Nat.min_eq_left (by omega)).symm)
          (fun j v hj => by rw [add_plain, blk_cell hV1 j]; simpa using hj) (fun j hj => by rw [blk_cell hc1]; simp at hj ⊢; omega) (fun j hj => blk_frozen hc1 _)
        simpa using this
      replace hcp2 := fun ty D' => hcp2 ty (l.length + 1 - p) D' (by omega)
      obtain ⟨cur2, hc2, hs2, ht2⟩ := setCells_row (cells75 x) (p * 3) W1 cur1 hc1 hfit2
      have hz2 := setCells_same g (cells75 x) (p * 3) W1
      have hRF : Kd.R k75 75 (W1.setCells g (p * 3) (cells75 x)) w0.heap.size (fun _ => True) (.slice (some ⟨g, 0, none⟩) (l.length + 1) c0) (l.take p ++ [x] ++ l.drop p) := by
        refine row75_mk hc2 hgb (by simp; omega) hroom hcm (by rw [hs2, hs1, hcs]) ?_
        have hA : cur.toList.take (p * 3) = (l.take p).flatMap cells75 := by
          have e : l.flatMap cells75 = (l.take p).flatMap cells75 ++ (l.drop p).flatMap cells75 := by rw [← List.flatMap_append, List.take_append_drop]
          have h1 := congrArg (List.take (p * 3)) hct
          rw [List.take_take, Nat.min_eq_left (by omega), e, List.take_left' (by rw [len75, List.length_take]; omega)] at h1
          exact h1
        have hD : ((l.drop p).flatMap cells75).length = (l.length - p) * 3 := by rw [len75, List.length_drop]
        have hl1 : (cur.toList.take ((p + 1) * 3)).length = (p + 1) * 3 := by rw [List.length_take, Array.length_toList, hcs]; omega
        have h1 : cur1.toList.take (p * 3) = (l.take p).flatMap cells75 := by
          rw [ht1, List.append_assoc, List.take_append_of_le_length (by omega), List.take_take, Nat.min_eq_left (by omega), hA]
        have h2 : cur1.toList.drop (p * 3 + (cells75 x).length) = (l.drop p).flatMap cells75 ++ cur.toList.drop ((p + 1) * 3 + ((l.drop p).flatMap cells75).length) := by
          rw [ht1, List.append_assoc, List.drop_left' (by rw [hl1]; show (p + 1) * 3 = p * 3 + 3; omega)]
        rw [ht2, h1, h2, ← List.append_assoc, List.take_left' (by simp only [List.length_append, len75, List.length_take, List.length_drop]; show min p l.length * 3 + 3 + (l.length - p) * 3 = _; omega)]
        simp [List.flatMap_append]
      have hg1 : w.drew.grownBy W1 (some g) := by rw [hW1e]; exact ⟨(setCells_same _ _ _ _).1, (setCells_same _ _ _ _).2.1, (setCells_same _ _ _ _).2.2.1, by rw [(setCells_same _ _ _ _).2.2.2]; exact Nat.le_refl _, fun k _ hk => setCells_far _ _ k (fun e => hk (by rw [e]))⟩
      have hg2 : W1.grownBy (W1.setCells g (p * 3) (cells75 x)) (some g) := ⟨hz2.1, hz2.2.1, hz2.2.2.1, by rw [hz2.2.2.2]; exact Nat.le_refl _, fun k _ hk => setCells_far _ _ k (fun e => hk (by rw [e]))⟩
      have hBd := below_drew1 HB.out
      have hB1 := pw_below_grown hBd (some g) hBd.size hg1 (fun k e_ => by injection e_ with e_; omega)
      have hB2 := pw_below_grown hB1 (some g) hB1.size hg2 (fun k e_ => by injection e_ with e_; omega)
      obtain ⟨W2, hW2e⟩ : ∃ W2, W2 = W1.setCells g (p * 3) (cells75 x) := ⟨_, rfl⟩
      rw [← hW2e] at hcp2 hRF hB2
      have HF := Aside0.mk hRF
      have HB2 := Aside0.mk hB2
      clear hcc hdrop hcur hct hW1e hW2e hRF hB2 hB1 hBd hg1 hg2 hz1 hz2 hc1 hs1 ht1 hc2 hs2 ht2 hfit2 hV1
      go_enter Try.func89, Try.ntmps89
      go_wp2_with (simp only [hov])
      go_region_law (refine step_copy_runI rfl _ _ 71 71 rfl _ _ (by simp [Act.eval, Act.put]) (by simp [Act.eval, Act.put]) (hcp1 _ _) ?_)
      go_wp2_with (at_builtin; refine wpList_copy_runI _ rfl _ _ 71 71 rfl _ _ rfl rfl (hcp2 _ _) ?_)
      go_ret
      exact ⟨_, rfl, HF.out, HB2.out⟩
    · have hb2 : (c0 : Int) < (l.length : Int) + 1 := by omega
      have hW1 : wrap64 ((l.length : Int) + 1) = (l.length : Int) + 1 := by unfold wrap64; omega
      have hW2 : wrap64 ((l.length : Int) + 1 - (p : Int)) = ((l.length + 1 - p : Nat) : Int) := by unfold wrap64; omega
      obtain ⟨C, W1, hrunA, hR1, hB1⟩ := grow75 w w0 g c0 p l HO.out HB.out h8 hp (by omega)
      have hnC : l.length + 1 ≤ C := by obtain ⟨_, _, e_, h_, _⟩ := Kd.R_reads hR1; injection e_ with e1 e2 e3; simp only [List.length_append, List.length_take, List.length_replicate] at h_; omega
      have hpC : ¬ C = p := by omega
      have hpC1 : ¬ C = p + 1 ∨ C = p + 1 := by omega
      have hV1 := (hB1.block gv (blk_lt HV.out)).trans HV.out
      have hG1 := (hB1.block g hgl).trans hcur
      obtain ⟨G, hG⟩ : ∃ G, G = w.heap.size := ⟨_, rfl⟩
      have hgG : g ≠ G := by omega
      have hvG : gv ≠ G := by have := blk_lt HV.out; omega
      rw [← hG] at hrunA hR1
      obtain ⟨curG, hcurG, hbG, hqa, hqb, hqc, hcsG, hctG⟩ := row75_open hR1
      clear hqa
      have hlen1 : (l.take p ++ List.replicate (l.length + 1 - p) z75).length = l.length + 1 := by rw [List.length_append, List.length_take, List.length_replicate]; omega
      have hcp1 : ∀ ty, (Builtin.copy_ #[71, 71] ty #[.slice (some ⟨G, p * 3, none⟩) (l.length + 1 - p) (C - p), .slice (some ⟨gv, 0, none⟩) 1 1]).run Try.prog W1 = .ok (goInt 1) (W1.setCells G (p * 3) (cells75 x)) := fun ty => by
        have := copy75 W1 ty G (p * 3) (l.length + 1 - p) (C - p) ⟨gv, 0, none⟩ 1 1 [x] (by show 1 = Nat.min 1 _; exact (Nat.min_eq_left (by omega)).symm)
          (fun j v hj => by rw [add_plain, blk_cell hV1 j]; simpa using hj) (fun j hj => by rw [blk_cell hcurG]; simp at hj ⊢; omega) (fun j hj => blk_frozen hcurG _)
        simpa using this
      obtain ⟨hR2, hg2⟩ := lay75 (base := w0.heap.size) (ok := fun _ => True) [x] p W1 _ hR1 (by rw [hlen1]; simp; omega)
      have e2 : [x].flatMap cells75 = cells75 x := by simp
      rw [e2] at hR2 hg2
      obtain ⟨W2, hW2⟩ : ∃ W2, W2 = W1.setCells G (p * 3) (cells75 x) := ⟨_, rfl⟩
      rw [← hW2] at hcp1 hR2 hg2
      have hB2 : Below w0.heap.size w0 W2 := pw_below_grown (below_step HB.out hB1) (some G) (below_step HB.out hB1).size hg2 (fun k e_ => by injection e_ with e_; omega)
      have hG2 : W2.heap[g]? = some (.cells cur 75 (0, 0)) := (hg2.block g (blk_lt hG1) (by simpa using hgG)).trans hG1
      obtain ⟨curH, hcurH, hqd, hqe, hqf, hqg, hcsH, hqh⟩ := row75_open hR2
      clear hqd hqe hqh
      have hcp2 : ∀ ty D, (Builtin.copy_ #[71, 71] ty #[.slice (some ⟨G, (p + 1) * 3, none⟩) (l.length - p) D, .slice (some ⟨g, p * 3, none⟩) (l.length - p) (c0 - p)]).run Try.prog W2.drew = .ok (goInt (l.length - p : Nat)) (W2.drew.setCells G ((p + 1) * 3) ((l.drop p).flatMap cells75)) := fun ty D => by
        have := copy75 W2.drew ty G ((p + 1) * 3) (l.length - p) D ⟨g, p * 3, none⟩ (l.length - p) (c0 - p) (l.drop p) (by rw [List.length_drop]; exact (Nat.min_self _).symm)
          (fun j v hj => by rw [addr_off]; exact HCC.out _ hG2 _ _ (HDR.out j v hj)) (fun j hj => by rw [List.length_drop] at hj; show (W2.cell? _).isSome = true; rw [blk_cell hcurH]; simp; omega) (fun j hj => blk_frozen (w := W2) hcurH _)
        rw [List.length_drop] at this
        exact this
      have hR2d := Kd.R_drew hR2
      obtain ⟨hR3, hg3⟩ := lay75 (base := w0.heap.size) (ok := fun _ => True) (l.drop p) (p + 1) W2.drew _ hR2d (by simp; omega)
      have e3 : ∀ A : List S75, A.length = p → (A ++ [x] ++ (List.replicate (l.length - p) z75)).take (p + 1) ++ l.drop p = A ++ [x] ++ l.drop p := fun A hA => by
        rw [List.take_left' (by simp; omega)]
      obtain ⟨W3, hW3⟩ : ∃ W3, W3 = W2.drew.setCells G ((p + 1) * 3) ((l.drop p).flatMap cells75) := ⟨_, rfl⟩
      rw [← hW3] at hcp2 hR3 hg3
      have HF := Aside0.mk hR3
      have HB3 := Aside0.mk (pw_below_grown (below_drew1 hB2) (some G) (below_drew1 hB2).size hg3 (fun k e_ => by injection e_ with e_; omega))
      clear hcc hdrop hcur hct hV1 hG1 hR1 hcurG hbG hcsG hctG hR2 hg2 hW2 hB2 hG2 hcurH hcsH hR2d hR3 hg3 hW3 hB1 hG hlen1 e2 e3 hpC1 hcs hcm hgb hqb hqc hqf hqg
      go_enter Try.func89, Try.ntmps89
      go_wp2_with (first | ((with_reducible refine gate_builtin (b := .append) (xs := #[.tmp 34, .tmp 39]) rfl ?_); at_builtin; refine Lib.wpList_append_run _ rfl _ _ 71 3 rfl _ _ rfl rfl _ _ (hrunA _) ?_) | (at_builtin; refine wpList_copy_runI _ rfl _ _ 71 71 rfl _ _ rfl rfl (hcp1 _) ?_))
      have hpC1 : ¬ C = p + 1 := by omega
      have hx0 : IntKind.i64.wrap ((p : Int) + 1) = (p : Int) + 1 := by rw [IntKind.wrap_i64]; omega
      have hx1 : (0 : Int) ≤ (p : Int) + 1 := by omega
      have hx2 : (p : Int) + 1 ≤ (l.length : Int) + 1 := by omega
      have hx3 : ((p : Int) + 1).toNat = p + 1 := by omega
      have hx4 : (p : Int) ≤ (l.length : Int) := by omega
      go_region_law (refine step_copy_runI rfl _ _ 71 71 rfl _ _ (by simp [Act.eval, Act.put]) (by simp [Act.eval, Act.put]) (hcp2 _ _) ?_)
      go_wp2
      go_ret
      exact ⟨_, rfl, by rw [← ins75 l p x z75 hp]; exact HF.out, HB3.out⟩
def ascB (l : List S75) : Bool := decide (l.length ≤ 8) && (l.all (fun x => decide (0 ≤ x.f0 ∧ x.f0 ≤ 4)) && decide (l.Pairwise (fun a b => a.f0 < b.f0)))
theorem asc_of {l : List S75} (h : ascB l = true) : Asc75 l := by
  simp only [ascB, Bool.and_eq_true, decide_eq_true_eq, List.all_eq_true] at h
  obtain ⟨h1, h2, h3⟩ := h
  refine ⟨h1, fun i hi => ?_, fun i j hij hj => ?_⟩
  · rw [rd75_at hi]
    exact h2 _ (List.getElem_mem _)
  · rw [rd75_at hj, rd75_at (by omega)]
    exact List.pairwise_iff_getElem.1 h3 i j (by omega) hj hij
def placeOf (l : List S75) (who : Int) : Nat := l.findIdx (fun y => decide (who ≤ y.f0))
theorem place_eq {l : List S75} {who : Int} {p : Nat} (h : Place75 l who p) : placeOf l who = p := by
  obtain ⟨h1, h2, h3⟩ := h
  unfold placeOf
  by_cases hp : p < l.length
  · rw [List.findIdx_eq hp]
    refine ⟨?_, fun j hj => ?_⟩
    · have := h3 p (Nat.le_refl _) hp
      rw [rd75_at hp] at this
      simpa using this
    · have := h2 j hj
      rw [rd75_at (by omega)] at this
      simp
      omega
  · obtain rfl : p = l.length := by omega
    rw [List.findIdx_eq_length]
    intro x hx
    obtain ⟨i, hi, rfl⟩ := List.mem_iff_getElem.1 hx
    have := h2 i hi
    rw [rd75_at hi] at this
    simp
    omega
def setL (l : List S75) (x : S75) : List S75 :=
  if placeOf l x.f0 < l.length ∧ (rd_T75 l (placeOf l x.f0)).f0 = x.f0 then l.set (placeOf l x.f0) x else l.take (placeOf l x.f0) ++ [x] ++ l.drop (placeOf l x.f0)
def size_Set.f (k : Nat) (l : List S75) (a b c : Int) : Option (List S75 × Int) :=
  (size_May.f k l).bind fun m => if m = true ∧ 0 ≤ a ∧ a ≤ 4 then (if ascB l = true then some (setL l ⟨a, b, c⟩, 0) else none) else some ([], 1)
theorem size_Set.mono : ∀ a0 a1 a2 a3 k, LeO (size_Set.f k a0 a1 a2 a3) (size_Set.f (k + 1) a0 a1 a2 a3) := by
  intro a0 a1 a2 a3 k
  unfold size_Set.f
  exact LeO.bind (size_May.mono _ _) (fun _ => LeO.refl _)
def SetPost (r1 : List S75) (r2 : Int) (w : World) (e : Ending) (w' : World) : Prop :=
  ∃ v0_ : Value, e = .returned (.tuple #[v0_, .int .i64 r2]) ∧ Kd.R k75 75 w' w.heap.size (fun _ => True) v0_ r1 ∧ Below w.heap.size w w'
set_option maxRecDepth 100000 in
set_option maxHeartbeats 4000000 in
theorem size_Set.calls0 (k : Nat) (A0 : Option Addr) (c0 : Nat) (l0 : List S75) (a b c : Int) (r1 : List S75) (r2 : Int) (w : World) (hr0 : Kd.C k75 w A0 l0.length l0) (hc0 : l0.length ≤ c0) (h : size_Set.f k l0 a b c = some (r1, r2)) :
    Calls Try.prog 41 #[.slice A0 l0.length c0, .agg #[.int .i64 a, .int .i64 b, .int .i64 c]] w (SetPost r1 r2 w) := by
  have HR := Aside0.mk hr0
  have HC := Aside0.mk hc0
  clear hr0 hc0
  obtain ⟨m, hm, H⟩ := Option.bind_eq_some_iff.mp h
  have HM := Aside0.mk hm
  have HH := Aside0.mk H
  clear h hm H
  cases m with
  | false =>
    have e := HH.out
    rw [if_neg (by simp)] at e
    simp only [Option.some.injEq, Prod.mk.injEq] at e
    obtain ⟨rfl, rfl⟩ := e
    go_enter Try.func41, Try.ntmps41
    go_wp2_with (go_at_call 83; refine (size_May.calls k _ _ l0 false _ ?s1 ?s2 HM.out).mono ?_; (case s1 => exact Kd.C_below HR.out (below_alloc (Below.refl _ _) _)); (case s2 => exact HC.out); rintro e w7 ⟨rfl, hb⟩; have HB7 := Aside0.mk (below_step (below_alloc (Below.refl w.heap.size w) _) hb); have hk := (hb.block w.heap.size (by simp)).trans (heap_alloc_new w _); clear hb; have hk0 := (blk_cell hk 0).trans rfl; clear hk)
    go_ret2
    exact ⟨_, rfl, Kd.R_nil _ _ _ _ _, HB7.out⟩
  | true =>
    by_cases h1 : 0 ≤ a
    · have hb1 : ¬ a < 0 := by omega
      by_cases h4 : a ≤ 4
      · have hb4 : ¬ 4 < a := by omega
        have e := HH.out
        rw [if_pos ⟨rfl, h1, h4⟩] at e
        by_cases h8 : ascB l0 = true
        · rw [if_pos h8] at e
          simp only [Option.some.injEq, Prod.mk.injEq] at e
          obtain ⟨e1, rfl⟩ := e
          have HE1 := Aside0.mk e1
          have HAS := Aside0.mk (asc_of h8)
          have hcl : api_Offer_85.f l0 = some l0 := by
            have := (asc_of h8).1
            unfold api_Offer_85.f
            rw [Option.bind_some, if_pos (by simp; omega)]
            rfl
          have HCL := Aside0.mk hcl
          have HA := Aside0.mk (And.intro h1 h4)
          clear hcl h1 h4 e1 h8 HH
          go_enter Try.func41, Try.ntmps41
          go_wp2_with (first | (go_at_call 83; refine (size_May.calls k _ _ l0 true _ ?s1 ?s2 HM.out).mono ?_; (case s1 => exact Kd.C_below HR.out (below_alloc (Below.refl _ _) _)); (case s2 => exact HC.out); rintro e w7 ⟨rfl, hb⟩; have HB7 := Aside0.mk (below_step (below_alloc (Below.refl w.heap.size w) _) hb); have hk := (hb.block w.heap.size (by simp)).trans (heap_alloc_new w _); clear hb; have hk0 := (blk_cell hk 0).trans rfl; have hk1 := (blk_cell hk 1).trans rfl; have hk2 := (blk_cell hk 2).trans rfl; have HK := Aside0.mk hk; clear hk) | (go_at_call 85; refine (api_Offer_85.calls _ _ l0 l0 _ ?s1 ?s2 HCL.out).mono ?_; (case s1 => exact Kd.C_below HR.out HB7.out); (case s2 => exact HC.out); rintro e w8 ⟨v8, rfl, ho8, hb8⟩; have HB8 := Aside0.mk (below_step HB7.out hb8); have HK8 := Aside0.mk ((hb8.block _ (blk_lt HK.out)).trans HK.out); have hlt8 := blk_lt HK.out; have HO8 := Aside0.mk (Kd.R_lower ho8 HB7.out.size); have HOB := Aside0.mk (Kd.R_base ho8); clear hb8; obtain ⟨A8, c8, e8, hc8, hC8⟩ := Kd.R_reads ho8; subst e8; have HC8 := Aside0.mk hC8; clear ho8 hC8; have hm0 := (blk_cell HK8.out 0).trans rfl; have hm1 := (blk_cell HK8.out 1).trans rfl; have hm2 := (blk_cell HK8.out 2).trans rfl))
          refine (search87 A8 c8 l0 a _ HC8.out HAS.out HA.out).mono ?_
          rintro e w9 ⟨p, bb, hpl, hbb, rfl, hb9⟩
          have HB9 := Aside0.mk (below_step HB8.out hb9)
          have HK9 := Aside0.mk ((hb9.block _ (blk_lt HK8.out)).trans HK8.out)
          have HO9 := Aside0.mk (Kd.R_below HO8.out hb9)
          have hlt9 := blk_lt HK9.out
          have hOB9 : ∀ g, (Value.slice A8 l0.length c8).ownBlock = some g → w.heap.size < g ∧ g < w9.heap.size := fun g hg => ⟨by have := HOB.out g hg; omega, by
            obtain ⟨inner, ho⟩ := Kd.R_own HO9.out
            exact own_lt ho g hg⟩
          have HOB9 := Aside0.mk hOB9
          have hpe := place_eq hpl
          have HPL := Aside0.mk hpl
          clear hb9 hpl hOB9
          have hn0 := (blk_cell HK9.out 0).trans rfl
          have hn1 := (blk_cell HK9.out 1).trans rfl
          have hn2 := (blk_cell HK9.out 2).trans rfl
          clear hk0 hk1 hk2 hm0 hm1 hm2
          have hsl : setL l0 ⟨a, b, c⟩ = if bb = true then l0.set p ⟨a, b, c⟩ else l0.take p ++ [⟨a, b, c⟩] ++ l0.drop p := by
            unfold setL
            simp only [hpe]
            by_cases h : p < l0.length ∧ (rd_T75 l0 p).f0 = a
            · rw [if_pos h, if_pos (hbb.2 h)]
            · rw [if_neg h, if_neg (fun e_ => h (hbb.1 e_))]
          cases bb with
          | true =>
            obtain ⟨hpn, _⟩ := hbb.1 rfl
            have HR1 : Aside0 (l0.set p ⟨a, b, c⟩ = r1) := ⟨by rw [← HE1.out, hsl]; rfl⟩
            obtain ⟨g, co, eo, hgb, hgl, _⟩ := Kd.R_form HO9.out (by omega)
            cases eo
            have hgw := (HOB9.out g rfl).1
            obtain ⟨ce, hcl, hM, hcc, hfr⟩ := Kd.R_elem HO9.out z75 (p : Int) (by omega) (by omega)
            obtain rfl := k75_openM hM
            have HP := Aside0.mk (Kd.R_seg HO9.out (p : Int) (by omega) (by omega) (seg := cells75 ⟨a, b, c⟩) (j := 0) hcl hcc (show 3 ≤ 3 from by decide) (x' := ⟨a, b, c⟩) (k75_mkM _ _ _ ⟨a, b, c⟩) (fun _ hk => hk)).1
            rw [Int.toNat_natCast] at hcc hfr
            have hy0 : w9.cell? ⟨g, p * 3, none⟩ = some (.int .i64 (rd_T75 l0 p).f0) := hcc 0 _ rfl
            have hy1 : w9.cell? ⟨g, p * 3 + 1, none⟩ = some (.int .i64 (rd_T75 l0 p).f1) := hcc 1 _ rfl
            have hy2 : w9.cell? ⟨g, p * 3 + 2, none⟩ = some (.int .i64 (rd_T75 l0 p).f2) := hcc 2 _ rfl
            have hz0 : w9.frozen? ⟨g, p * 3, none⟩ = false := hfr 0
            have hz1 : w9.frozen? ⟨g, p * 3 + 1, none⟩ = false := hfr 1
            have hz2 : w9.frozen? ⟨g, p * 3 + 2, none⟩ = false := hfr 2
            clear hcl hM hcc hfr hbb hsl hpe
            go_wp2
            go_ret2
            exact ⟨_, rfl, by rw [← HR1.out]; exact HP.out, below_set (below_set (below_set HB9.out hgb) hgb) hgb⟩
          | false =>
            have HR1 : Aside0 (l0.take p ++ [⟨a, b, c⟩] ++ l0.drop p = r1) := ⟨by rw [← HE1.out, hsl]; rfl⟩
            clear hbb hsl hpe
            go_wp2_with fail
            refine (insert89 _ l0 p ⟨a, b, c⟩ w9.heap.size w _ (below_alloc HB9.out _) (Kd.R_alloc HO9.out _) (heap_alloc_new w9 _) (fun e_ => ?_) HAS.out.1 HPL.out.1).mono ?_
            · have := (HOB9.out _ e_).2
              omega
            rintro e w10 ⟨v10, rfl, ho10, hb10⟩
            have HO10 := Aside0.mk ho10
            have HB10 := Aside0.mk hb10
            clear ho10 hb10
            go_wp2
            go_ret2
            exact ⟨_, rfl, by rw [← HR1.out]; exact HO10.out, HB10.out⟩
        · rw [if_neg h8] at e
          exact absurd e (by simp)
      · have hb4 : 4 < a := by omega
        have e := HH.out
        rw [if_neg (by omega)] at e
        simp only [Option.some.injEq, Prod.mk.injEq] at e
        obtain ⟨rfl, rfl⟩ := e
        go_enter Try.func41, Try.ntmps41
        go_wp2_with (go_at_call 83; refine (size_May.calls k _ _ l0 true _ ?s1 ?s2 HM.out).mono ?_; (case s1 => exact Kd.C_below HR.out (below_alloc (Below.refl _ _) _)); (case s2 => exact HC.out); rintro e w7 ⟨rfl, hb⟩; have HB7 := Aside0.mk (below_step (below_alloc (Below.refl w.heap.size w) _) hb); have hk := (hb.block w.heap.size (by simp)).trans (heap_alloc_new w _); clear hb; have hk0 := (blk_cell hk 0).trans rfl; clear hk)
        go_ret2
        exact ⟨_, rfl, Kd.R_nil _ _ _ _ _, HB7.out⟩
    · have hb1 : a < 0 := by omega
      have e := HH.out
      rw [if_neg (by omega)] at e
      simp only [Option.some.injEq, Prod.mk.injEq] at e
      obtain ⟨rfl, rfl⟩ := e
      go_enter Try.func41, Try.ntmps41
      go_wp2_with (go_at_call 83; refine (size_May.calls k _ _ l0 true _ ?s1 ?s2 HM.out).mono ?_; (case s1 => exact Kd.C_below HR.out (below_alloc (Below.refl _ _) _)); (case s2 => exact HC.out); rintro e w7 ⟨rfl, hb⟩; have HB7 := Aside0.mk (below_step (below_alloc (Below.refl w.heap.size w) _) hb); have hk := (hb.block w.heap.size (by simp)).trans (heap_alloc_new w _); clear hb; have hk0 := (blk_cell hk 0).trans rfl; clear hk)
      go_ret2
      exact ⟨_, rfl, Kd.R_nil _ _ _ _ _, HB7.out⟩
theorem size_Set.calls (k : Nat) (A0 : Option Addr) (c0 : Nat) (l0 : List S75) (a1_0 a1_1 a1_2 : Int) (r1 : List S75) (r2 : Int) (w : World) (hr0 : Kd.C k75 w A0 l0.length l0) (hc0 : l0.length ≤ c0) (h : size_Set.f k l0 a1_0 a1_1 a1_2 = some (r1, r2)) :
    Calls Try.prog 41 #[.slice A0 l0.length c0, .agg #[.int .i64 a1_0, .int .i64 a1_1, .int .i64 a1_2]] w fun e w' => ∃ v0_ : Value, e = .returned (.tuple #[v0_, .int .i64 r2]) ∧ Kd.R k75 75 w' w.heap.size (fun _ => True) v0_ r1 ∧ Below w.heap.size w w' :=
  size_Set.calls0 k A0 c0 l0 a1_0 a1_1 a1_2 r1 r2 w hr0 hc0 h

/-! ### beaconlaw22_num: function 42 -/
def beaconlaw22_num.f (a0 : Int) : Option (Int) := some a0
set_option maxHeartbeats 8000000 in
set_option maxRecDepth 100000 in
theorem beaconlaw22_num.calls (a0 : Int) (r : Int) (w : World) (h : beaconlaw22_num.f a0 = some r) :
    Calls Try.prog 42 #[.int .i64 a0] w fun e w' => e = .returned (.int .i64 r) ∧ Drawn0 w w' := by
  have H : (some a0) = some r := h
  clear h
  obtain rfl := Option.some.inj H
  go_enter Try.func42, Try.ntmps42
  go_wp2
  go_ret
  exact ⟨by first | rfl | (simp; done) | (simp [*]; done), by repeat (first | exact Drawn0.refl _ | apply Drawn0.step)⟩

/-! ### beaconref0_Between: function 43 -/
def beaconref0_Between.f (a0 : Int) (a1 : Int) (a2 : Int) : Option (Bool) := if a0 ≥ a1 then (some (decide (a0 ≤ a2))) else (some false)
set_option maxHeartbeats 8000000 in
set_option maxRecDepth 100000 in
theorem beaconref0_Between.calls (a0 : Int) (a1 : Int) (a2 : Int) (r : Bool) (w : World) (h : beaconref0_Between.f a0 a1 a2 = some r) :
    Calls Try.prog 43 #[.int .i64 a0, .int .i64 a1, .int .i64 a2] w fun e w' => e = .returned (.bool r) ∧ Drawn0 w w' := by
  have H : (if a0 ≥ a1 then (some (decide (a0 ≤ a2))) else (some false)) = some r := h
  clear h
  by_cases c4 : a0 ≥ a1
  · rw [if_pos c4] at H
    have c4b0 : decide (a1 ≤ a0) = true := decide_eq_true c4
    clear c4
    obtain rfl := Option.some.inj H
    go_enter Try.func43, Try.ntmps43
    go_wp2
    go_ret
    exact ⟨by first | rfl | (simp; done) | (simp [*]; done), by repeat (first | exact Drawn0.refl _ | apply Drawn0.step)⟩
  · rw [if_neg c4] at H
    have c4b0 : decide (a1 ≤ a0) = false := decide_eq_false c4
    clear c4
    obtain rfl := Option.some.inj H
    go_enter Try.func43, Try.ntmps43
    go_wp2
    go_ret
    exact ⟨by first | rfl | (simp; done) | (simp [*]; done), by repeat (first | exact Drawn0.refl _ | apply Drawn0.step)⟩

/-! ### beaconlaw22_wakes: function 44 -/
def beaconlaw22_wakes.f (k : Nat)  : Option (Bool) := (size_Set.f k (([(⟨0, 10, 20⟩ : S75)] : List (S75))) 2 15 5).bind fun bt124 => ((size_Least.f k bt124.1).bind fun bt128 => ((beaconlaw22_num.f bt124.2).bind fun t131 => (if t131 = 0 then ((beaconlaw22_num.f bt128.2.2).bind fun t132 => (if t132 = 0 then (if bt128.1 = 10 then (some (bt128.2.1 == 5)) else (some false)) else (some false))) else (some false))))
theorem beaconlaw22_wakes.mono : ∀ k, LeO (beaconlaw22_wakes.f k ) (beaconlaw22_wakes.f (k + 1) ) := by
  intro  k
  unfold beaconlaw22_wakes.f
  repeat' first
      | (with_reducible exact size_Least.mono _ _)
      | (with_reducible exact size_Set.mono _ _ _ _ _)
      | (with_reducible exact LeO.refl _)
      | (with_reducible exact LeO.none _)
      | (with_reducible refine LeO.ite ?_ ?_)
      | (with_reducible refine LeO.bind ?_ (fun _ => ?_))
      | exact size_Least.mono _ _
      | exact size_Set.mono _ _ _ _ _
      | exact LeO.none _
      | refine LeO.ite ?_ ?_
      | refine LeO.bind ?_ (fun _ => ?_)
set_option maxHeartbeats 8000000 in
set_option maxRecDepth 100000 in
theorem beaconlaw22_wakes.calls (k : Nat)  (r : Bool) (w : World) (h : beaconlaw22_wakes.f k  = some r) :
    Calls Try.prog 44 #[] w fun e w' => e = .returned (.bool r) ∧ Below w.heap.size w w' := by
  have hu75 := Try.underlying75
  have HB := Aside0.mk (Below.refl w.heap.size w)
  have H : ((size_Set.f k (([(⟨0, 10, 20⟩ : S75)] : List (S75))) 2 15 5).bind fun bt124 => ((size_Least.f k bt124.1).bind fun bt128 => ((beaconlaw22_num.f bt124.2).bind fun t131 => (if t131 = 0 then ((beaconlaw22_num.f bt128.2.2).bind fun t132 => (if t132 = 0 then (if bt128.1 = 10 then (some (bt128.2.1 == 5)) else (some false)) else (some false))) else (some false))))) = some r := h
  clear h
  obtain ⟨y121, hy121⟩ : ∃ y_ : List (S75), y_ = (([(⟨0, 10, 20⟩ : S75)] : List (S75))) := ⟨_, rfl⟩
  replace H : ((size_Set.f k y121 2 15 5).bind fun bt124 => ((size_Least.f k bt124.1).bind fun bt128 => ((beaconlaw22_num.f bt124.2).bind fun t131 => (if t131 = 0 then ((beaconlaw22_num.f bt128.2.2).bind fun t132 => (if t132 = 0 then (if bt128.1 = 10 then (some (bt128.2.1 == 5)) else (some false)) else (some false))) else (some false))))) = some r := by first | (rw [hy121]; with_reducible exact H) | (have H2_ := (Option.bind_some _ _).symm.trans H; rw [hy121]; with_reducible exact H2_) | (have H2_ := (Option.bind_some _ _).symm.trans H; with_reducible exact H2_) | with_reducible exact H | (rw [hy121]; exact H) | exact H
  have Ny121 := Aside0.mk hy121
  clear hy121
  replace H := Option.bind_eq_some_iff.mp H
  obtain ⟨⟨t124, t127⟩, A10, H⟩ := H
  replace H : ((size_Least.f k t124).bind fun bt128 => ((beaconlaw22_num.f t127).bind fun t131 => (if t131 = 0 then ((beaconlaw22_num.f bt128.2.2).bind fun t132 => (if t132 = 0 then (if bt128.1 = 10 then (some (bt128.2.1 == 5)) else (some false)) else (some false))) else (some false)))) = some r := H
  have A1 := Aside0.mk A10
  clear A10
  replace H := Option.bind_eq_some_iff.mp H
  obtain ⟨⟨t128, t129, t130⟩, A20, H⟩ := H
  replace H : ((beaconlaw22_num.f t127).bind fun t131 => (if t131 = 0 then ((beaconlaw22_num.f t130).bind fun t132 => (if t132 = 0 then (if t128 = 10 then (some (t129 == 5)) else (some false)) else (some false))) else (some false))) = some r := H
  have A2 := Aside0.mk A20
  clear A20
  replace H := Option.bind_eq_some_iff.mp H
  obtain ⟨t131, A30, H⟩ := H
  replace H : (if t131 = 0 then ((beaconlaw22_num.f t130).bind fun t132 => (if t132 = 0 then (if t128 = 10 then (some (t129 == 5)) else (some false)) else (some false))) else (some false)) = some r := H
  have A3 := Aside0.mk A30
  clear A30
  by_cases c4 : t131 = 0
  · rw [if_pos c4] at H
    have c4b0 : (t131 == 0) = true := beq_iff_eq.mpr c4
    have c4b1 : (t131 != 0) = false := bne_eq_false_iff_eq.mpr c4
    clear c4
    replace H := Option.bind_eq_some_iff.mp H
    obtain ⟨t132, A50, H⟩ := H
    replace H : (if t132 = 0 then (if t128 = 10 then (some (t129 == 5)) else (some false)) else (some false)) = some r := H
    have A5 := Aside0.mk A50
    clear A50
    by_cases c6 : t132 = 0
    · rw [if_pos c6] at H
      have c6b0 : (t132 == 0) = true := beq_iff_eq.mpr c6
      have c6b1 : (t132 != 0) = false := bne_eq_false_iff_eq.mpr c6
      clear c6
      by_cases c7 : t128 = 10
      · rw [if_pos c7] at H
        have c7b0 : (t128 == 10) = true := beq_iff_eq.mpr c7
        have c7b1 : (t128 != 10) = false := bne_eq_false_iff_eq.mpr c7
        clear c7
        obtain rfl := Option.some.inj H
        go_enter Try.func44, Try.ntmps44
        go_wp2_with (first | ((with_reducible refine gate_dst (N := 8) rfl ?_); refine Kd.R_lit k75 _ 75 ?hg (N := 8) ?hd (xs := ([(⟨0, 10, 20⟩ : S75)] : List (S75))) (inner := [.int .i64 0, .int .i64 10, .int .i64 20]) (ok := fun _ => True) (okp := fun _ => True) ?hr ?hp (fun _ hk => hk) trivial (Below.refl _ _) (Nat.le_refl _) (by simp) ?_; (case hd => rfl); (case hg => rfl); (case hr => first | (go_simp; done) | (go_simp; rfl)); (case hp => exact (Reps.c3 (show Kd.M k75 _ _ _ (⟨0, 10, 20⟩ : S75) [.int .i64 0, .int .i64 10, .int .i64 20] from (k75_mkM _ _ _ (⟨0, 10, 20⟩ : S75) )) (Reps.none _ _))); intro v122 w8 ho9 hb hg_ hnew_; clear hg_ hnew_; (first | rw [← Ny121.out] at ho9 | (simp only [Int.reduceToNat] at ho9; rw [← Ny121.out] at ho9)); have n0_ := Aside0.mk (Kd.R_lower ho9 (below_size (by repeat (first | (with_reducible first | exact HB.out | apply below_alloc | apply pw_below_drewN | apply below_drew1) | exact HB.out)))); have n1_ := Aside0.mk (below_step (by repeat (first | (with_reducible first | exact HB.out | apply below_alloc | apply pw_below_drewN | apply below_drew1) | exact HB.out)) hb); clear HB; have HO123 := n0_; have HB := n1_; clear n0_ n1_; clear hb ho9; obtain ⟨Ao10, co10, eo10⟩ := Kd.R_slice HO123.out; subst eo10) | ((with_reducible refine gate_callee (f := 41) rfl ?_); refine goesL_ (some 10) rfl rfl Try.func41 (by kernel_rfl) rfl #[.slice Ao10 y121.length co10, .agg #[.int .i64 2, .int .i64 15, .int .i64 5]] rfl (by (try simp only [List.map_toArray, List.map_cons, List.map_nil]); first | done | rfl | (simp only [List.length_drop, List.length_take]; rfl)) ?_; (with_reducible refine (size_Set.calls k _ _ y121 2 15 5 t124 t127 _ ?side1 ?side2 A1.out).mono ?_); (case side1 => repeat (first | exact (Kd.R_reads' HO123.out).2.2 | (with_reducible refine Kd.C_alloc ?_ _) | (with_reducible refine Kd.C_drewN ?_ _) | (with_reducible refine Kd.C_drew ?_))); (case side2 => exact (Kd.R_reads' HO123.out).2.1); rintro e w11 ⟨v125, rfl, ho0, hb⟩; refine ⟨_, rfl, ?_⟩; have n0_ := Aside0.mk (Kd.R_elder' (by (with_reducible repeat (first | apply Kd.R_alloc | apply Kd.R_drewN | apply Kd.R_drew)); exact HO123.out) (Kd.R_base ho0) hb); have n1_ := Aside0.mk (Kd.R_lower (Kd.R_new' ho0 (Kd.R_lt (by (with_reducible repeat (first | apply Kd.R_alloc | apply Kd.R_drewN | apply Kd.R_drew)); exact HO123.out))) (below_size (by repeat (first | (with_reducible first | exact HB.out | apply below_alloc | apply pw_below_drewN | apply below_drew1) | exact HB.out)))); have n2_ := Aside0.mk (below_step (by repeat (first | (with_reducible first | exact HB.out | apply below_alloc | apply pw_below_drewN | apply below_drew1) | exact HB.out)) hb); clear HO123; clear HB; have HO123 := n0_; have HO126 := n1_; have HB := n2_; clear n0_ n1_ n2_; (try clear hb); (try clear hb2); (try clear hk); (try clear hi); (try clear ho0); obtain ⟨Ao12, co12, eo12⟩ := Kd.R_slice HO126.out; subst eo12) | ((with_reducible refine gate_callee (f := 40) rfl ?_); refine goesL_ (some 15) rfl rfl Try.func40 (by kernel_rfl) rfl #[.slice Ao12 t124.length co12] rfl (by (try simp only [List.map_toArray, List.map_cons, List.map_nil]); first | done | rfl | (simp only [List.length_drop, List.length_take]; rfl)) ?_; (with_reducible refine (size_Least.calls k _ _ t124 t128 t129 t130 _ ?side1 ?side2 A2.out).mono ?_); (case side1 => repeat (first | exact (Kd.R_reads' HO126.out).2.2 | (with_reducible refine Kd.C_alloc ?_ _) | (with_reducible refine Kd.C_drewN ?_ _) | (with_reducible refine Kd.C_drew ?_))); (case side2 => exact (Kd.R_reads' HO126.out).2.1); rintro e w13 ⟨rfl, hb⟩; refine ⟨_, rfl, ?_⟩; have n0_ := Aside0.mk (Kd.R_below (by (with_reducible repeat (first | apply Kd.R_alloc | apply Kd.R_drewN | apply Kd.R_drew)); exact HO123.out) hb); have n1_ := Aside0.mk (Kd.R_below (by (with_reducible repeat (first | apply Kd.R_alloc | apply Kd.R_drewN | apply Kd.R_drew)); exact HO126.out) hb); have n2_ := Aside0.mk (below_step (by repeat (first | (with_reducible first | exact HB.out | apply below_alloc | apply pw_below_drewN | apply below_drew1) | exact HB.out)) hb); clear HO123; clear HO126; clear HB; have HO123 := n0_; have HO126 := n1_; have HB := n2_; clear n0_ n1_ n2_; (try clear hb); (try clear hb2); (try clear hk); (try clear hi)) | ((with_reducible refine gate_callee (f := 42) rfl ?_); refine goesL_ (some 20) rfl rfl Try.func42 (by kernel_rfl) rfl #[.int .i64 t127] rfl (by (try simp only [List.map_toArray, List.map_cons, List.map_nil]); first | done | rfl | (simp only [List.length_drop, List.length_take]; rfl)) ?_; (with_reducible refine (beaconlaw22_num.calls t127 t131 _ A3.out).mono ?_); rintro e w' ⟨rfl, ⟨nd, rfl⟩⟩; refine ⟨_, rfl, ?_⟩) | (go_at_call 42; (with_reducible refine (beaconlaw22_num.calls t130 t132 _ A5.out).mono ?_); rintro e w' ⟨rfl, ⟨nd, rfl⟩⟩))
        go_ret
        exact ⟨by first | rfl | (simp [errW_none, errW_some] <;> rfl) | (simp [*, errW_none, errW_some] <;> rfl), by repeat (first | (with_reducible first | exact HB.out | apply below_alloc | apply pw_below_drewN | apply below_drew1) | exact HB.out)⟩
      · rw [if_neg c7] at H
        have c7b0 : (t128 == 10) = false := beq_eq_false_iff_ne.mpr c7
        have c7b1 : (t128 != 10) = true := bne_iff_ne.mpr c7
        obtain rfl := Option.some.inj H
        go_enter Try.func44, Try.ntmps44
        go_wp2_with (first | ((with_reducible refine gate_dst (N := 8) rfl ?_); refine Kd.R_lit k75 _ 75 ?hg (N := 8) ?hd (xs := ([(⟨0, 10, 20⟩ : S75)] : List (S75))) (inner := [.int .i64 0, .int .i64 10, .int .i64 20]) (ok := fun _ => True) (okp := fun _ => True) ?hr ?hp (fun _ hk => hk) trivial (Below.refl _ _) (Nat.le_refl _) (by simp) ?_; (case hd => rfl); (case hg => rfl); (case hr => first | (go_simp; done) | (go_simp; rfl)); (case hp => exact (Reps.c3 (show Kd.M k75 _ _ _ (⟨0, 10, 20⟩ : S75) [.int .i64 0, .int .i64 10, .int .i64 20] from (k75_mkM _ _ _ (⟨0, 10, 20⟩ : S75) )) (Reps.none _ _))); intro v122 w14 ho15 hb hg_ hnew_; clear hg_ hnew_; (first | rw [← Ny121.out] at ho15 | (simp only [Int.reduceToNat] at ho15; rw [← Ny121.out] at ho15)); have n0_ := Aside0.mk (Kd.R_lower ho15 (below_size (by repeat (first | (with_reducible first | exact HB.out | apply below_alloc | apply pw_below_drewN | apply below_drew1) | exact HB.out)))); have n1_ := Aside0.mk (below_step (by repeat (first | (with_reducible first | exact HB.out | apply below_alloc | apply pw_below_drewN | apply below_drew1) | exact HB.out)) hb); clear HB; have HO123 := n0_; have HB := n1_; clear n0_ n1_; clear hb ho15; obtain ⟨Ao16, co16, eo16⟩ := Kd.R_slice HO123.out; subst eo16) | ((with_reducible refine gate_callee (f := 41) rfl ?_); refine goesL_ (some 10) rfl rfl Try.func41 (by kernel_rfl) rfl #[.slice Ao16 y121.length co16, .agg #[.int .i64 2, .int .i64 15, .int .i64 5]] rfl (by (try simp only [List.map_toArray, List.map_cons, List.map_nil]); first | done | rfl | (simp only [List.length_drop, List.length_take]; rfl)) ?_; (with_reducible refine (size_Set.calls k _ _ y121 2 15 5 t124 t127 _ ?side1 ?side2 A1.out).mono ?_); (case side1 => repeat (first | exact (Kd.R_reads' HO123.out).2.2 | (with_reducible refine Kd.C_alloc ?_ _) | (with_reducible refine Kd.C_drewN ?_ _) | (with_reducible refine Kd.C_drew ?_))); (case side2 => exact (Kd.R_reads' HO123.out).2.1); rintro e w17 ⟨v125, rfl, ho0, hb⟩; refine ⟨_, rfl, ?_⟩; have n0_ := Aside0.mk (Kd.R_elder' (by (with_reducible repeat (first | apply Kd.R_alloc | apply Kd.R_drewN | apply Kd.R_drew)); exact HO123.out) (Kd.R_base ho0) hb); have n1_ := Aside0.mk (Kd.R_lower (Kd.R_new' ho0 (Kd.R_lt (by (with_reducible repeat (first | apply Kd.R_alloc | apply Kd.R_drewN | apply Kd.R_drew)); exact HO123.out))) (below_size (by repeat (first | (with_reducible first | exact HB.out | apply below_alloc | apply pw_below_drewN | apply below_drew1) | exact HB.out)))); have n2_ := Aside0.mk (below_step (by repeat (first | (with_reducible first | exact HB.out | apply below_alloc | apply pw_below_drewN | apply below_drew1) | exact HB.out)) hb); clear HO123; clear HB; have HO123 := n0_; have HO126 := n1_; have HB := n2_; clear n0_ n1_ n2_; (try clear hb); (try clear hb2); (try clear hk); (try clear hi); (try clear ho0); obtain ⟨Ao18, co18, eo18⟩ := Kd.R_slice HO126.out; subst eo18) | ((with_reducible refine gate_callee (f := 40) rfl ?_); refine goesL_ (some 15) rfl rfl Try.func40 (by kernel_rfl) rfl #[.slice Ao18 t124.length co18] rfl (by (try simp only [List.map_toArray, List.map_cons, List.map_nil]); first | done | rfl | (simp only [List.length_drop, List.length_take]; rfl)) ?_; (with_reducible refine (size_Least.calls k _ _ t124 t128 t129 t130 _ ?side1 ?side2 A2.out).mono ?_); (case side1 => repeat (first | exact (Kd.R_reads' HO126.out).2.2 | (with_reducible refine Kd.C_alloc ?_ _) | (with_reducible refine Kd.C_drewN ?_ _) | (with_reducible refine Kd.C_drew ?_))); (case side2 => exact (Kd.R_reads' HO126.out).2.1); rintro e w19 ⟨rfl, hb⟩; refine ⟨_, rfl, ?_⟩; have n0_ := Aside0.mk (Kd.R_below (by (with_reducible repeat (first | apply Kd.R_alloc | apply Kd.R_drewN | apply Kd.R_drew)); exact HO123.out) hb); have n1_ := Aside0.mk (Kd.R_below (by (with_reducible repeat (first | apply Kd.R_alloc | apply Kd.R_drewN | apply Kd.R_drew)); exact HO126.out) hb); have n2_ := Aside0.mk (below_step (by repeat (first | (with_reducible first | exact HB.out | apply below_alloc | apply pw_below_drewN | apply below_drew1) | exact HB.out)) hb); clear HO123; clear HO126; clear HB; have HO123 := n0_; have HO126 := n1_; have HB := n2_; clear n0_ n1_ n2_; (try clear hb); (try clear hb2); (try clear hk); (try clear hi)) | ((with_reducible refine gate_callee (f := 42) rfl ?_); refine goesL_ (some 20) rfl rfl Try.func42 (by kernel_rfl) rfl #[.int .i64 t127] rfl (by (try simp only [List.map_toArray, List.map_cons, List.map_nil]); first | done | rfl | (simp only [List.length_drop, List.length_take]; rfl)) ?_; (with_reducible refine (beaconlaw22_num.calls t127 t131 _ A3.out).mono ?_); rintro e w' ⟨rfl, ⟨nd, rfl⟩⟩; refine ⟨_, rfl, ?_⟩) | (go_at_call 42; (with_reducible refine (beaconlaw22_num.calls t130 t132 _ A5.out).mono ?_); rintro e w' ⟨rfl, ⟨nd, rfl⟩⟩))
        go_ret
        exact ⟨by first | rfl | (simp [errW_none, errW_some] <;> rfl) | (simp [*, errW_none, errW_some] <;> rfl), by repeat (first | (with_reducible first | exact HB.out | apply below_alloc | apply pw_below_drewN | apply below_drew1) | exact HB.out)⟩
    · rw [if_neg c6] at H
      have c6b0 : (t132 == 0) = false := beq_eq_false_iff_ne.mpr c6
      have c6b1 : (t132 != 0) = true := bne_iff_ne.mpr c6
      obtain rfl := Option.some.inj H
      go_enter Try.func44, Try.ntmps44
      go_wp2_with (first | ((with_reducible refine gate_dst (N := 8) rfl ?_); refine Kd.R_lit k75 _ 75 ?hg (N := 8) ?hd (xs := ([(⟨0, 10, 20⟩ : S75)] : List (S75))) (inner := [.int .i64 0, .int .i64 10, .int .i64 20]) (ok := fun _ => True) (okp := fun _ => True) ?hr ?hp (fun _ hk => hk) trivial (Below.refl _ _) (Nat.le_refl _) (by simp) ?_; (case hd => rfl); (case hg => rfl); (case hr => first | (go_simp; done) | (go_simp; rfl)); (case hp => exact (Reps.c3 (show Kd.M k75 _ _ _ (⟨0, 10, 20⟩ : S75) [.int .i64 0, .int .i64 10, .int .i64 20] from (k75_mkM _ _ _ (⟨0, 10, 20⟩ : S75) )) (Reps.none _ _))); intro v122 w20 ho21 hb hg_ hnew_; clear hg_ hnew_; (first | rw [← Ny121.out] at ho21 | (simp only [Int.reduceToNat] at ho21; rw [← Ny121.out] at ho21)); have n0_ := Aside0.mk (Kd.R_lower ho21 (below_size (by repeat (first | (with_reducible first | exact HB.out | apply below_alloc | apply pw_below_drewN | apply below_drew1) | exact HB.out)))); have n1_ := Aside0.mk (below_step (by repeat (first | (with_reducible first | exact HB.out | apply below_alloc | apply pw_below_drewN | apply below_drew1) | exact HB.out)) hb); clear HB; have HO123 := n0_; have HB := n1_; clear n0_ n1_; clear hb ho21; obtain ⟨Ao22, co22, eo22⟩ := Kd.R_slice HO123.out; subst eo22) | ((with_reducible refine gate_callee (f := 41) rfl ?_); refine goesL_ (some 10) rfl rfl Try.func41 (by kernel_rfl) rfl #[.slice Ao22 y121.length co22, .agg #[.int .i64 2, .int .i64 15, .int .i64 5]] rfl (by (try simp only [List.map_toArray, List.map_cons, List.map_nil]); first | done | rfl | (simp only [List.length_drop, List.length_take]; rfl)) ?_; (with_reducible refine (size_Set.calls k _ _ y121 2 15 5 t124 t127 _ ?side1 ?side2 A1.out).mono ?_); (case side1 => repeat (first | exact (Kd.R_reads' HO123.out).2.2 | (with_reducible refine Kd.C_alloc ?_ _) | (with_reducible refine Kd.C_drewN ?_ _) | (with_reducible refine Kd.C_drew ?_))); (case side2 => exact (Kd.R_reads' HO123.out).2.1); rintro e w23 ⟨v125, rfl, ho0, hb⟩; refine ⟨_, rfl, ?_⟩; have n0_ := Aside0.mk (Kd.R_elder' (by (with_reducible repeat (first | apply Kd.R_alloc | apply Kd.R_drewN | apply Kd.R_drew)); exact HO123.out) (Kd.R_base ho0) hb); have n1_ := Aside0.mk (Kd.R_lower (Kd.R_new' ho0 (Kd.R_lt (by (with_reducible repeat (first | apply Kd.R_alloc | apply Kd.R_drewN | apply Kd.R_drew)); exact HO123.out))) (below_size (by repeat (first | (with_reducible first | exact HB.out | apply below_alloc | apply pw_below_drewN | apply below_drew1) | exact HB.out)))); have n2_ := Aside0.mk (below_step (by repeat (first | (with_reducible first | exact HB.out | apply below_alloc | apply pw_below_drewN | apply below_drew1) | exact HB.out)) hb); clear HO123; clear HB; have HO123 := n0_; have HO126 := n1_; have HB := n2_; clear n0_ n1_ n2_; (try clear hb); (try clear hb2); (try clear hk); (try clear hi); (try clear ho0); obtain ⟨Ao24, co24, eo24⟩ := Kd.R_slice HO126.out; subst eo24) | ((with_reducible refine gate_callee (f := 40) rfl ?_); refine goesL_ (some 15) rfl rfl Try.func40 (by kernel_rfl) rfl #[.slice Ao24 t124.length co24] rfl (by (try simp only [List.map_toArray, List.map_cons, List.map_nil]); first | done | rfl | (simp only [List.length_drop, List.length_take]; rfl)) ?_; (with_reducible refine (size_Least.calls k _ _ t124 t128 t129 t130 _ ?side1 ?side2 A2.out).mono ?_); (case side1 => repeat (first | exact (Kd.R_reads' HO126.out).2.2 | (with_reducible refine Kd.C_alloc ?_ _) | (with_reducible refine Kd.C_drewN ?_ _) | (with_reducible refine Kd.C_drew ?_))); (case side2 => exact (Kd.R_reads' HO126.out).2.1); rintro e w25 ⟨rfl, hb⟩; refine ⟨_, rfl, ?_⟩; have n0_ := Aside0.mk (Kd.R_below (by (with_reducible repeat (first | apply Kd.R_alloc | apply Kd.R_drewN | apply Kd.R_drew)); exact HO123.out) hb); have n1_ := Aside0.mk (Kd.R_below (by (with_reducible repeat (first | apply Kd.R_alloc | apply Kd.R_drewN | apply Kd.R_drew)); exact HO126.out) hb); have n2_ := Aside0.mk (below_step (by repeat (first | (with_reducible first | exact HB.out | apply below_alloc | apply pw_below_drewN | apply below_drew1) | exact HB.out)) hb); clear HO123; clear HO126; clear HB; have HO123 := n0_; have HO126 := n1_; have HB := n2_; clear n0_ n1_ n2_; (try clear hb); (try clear hb2); (try clear hk); (try clear hi)) | ((with_reducible refine gate_callee (f := 42) rfl ?_); refine goesL_ (some 20) rfl rfl Try.func42 (by kernel_rfl) rfl #[.int .i64 t127] rfl (by (try simp only [List.map_toArray, List.map_cons, List.map_nil]); first | done | rfl | (simp only [List.length_drop, List.length_take]; rfl)) ?_; (with_reducible refine (beaconlaw22_num.calls t127 t131 _ A3.out).mono ?_); rintro e w' ⟨rfl, ⟨nd, rfl⟩⟩; refine ⟨_, rfl, ?_⟩) | (go_at_call 42; (with_reducible refine (beaconlaw22_num.calls t130 t132 _ A5.out).mono ?_); rintro e w' ⟨rfl, ⟨nd, rfl⟩⟩))
      go_ret
      exact ⟨by first | rfl | (simp [errW_none, errW_some] <;> rfl) | (simp [*, errW_none, errW_some] <;> rfl), by repeat (first | (with_reducible first | exact HB.out | apply below_alloc | apply pw_below_drewN | apply below_drew1) | exact HB.out)⟩
  · rw [if_neg c4] at H
    have c4b0 : (t131 == 0) = false := beq_eq_false_iff_ne.mpr c4
    have c4b1 : (t131 != 0) = true := bne_iff_ne.mpr c4
    obtain rfl := Option.some.inj H
    go_enter Try.func44, Try.ntmps44
    go_wp2_with (first | ((with_reducible refine gate_dst (N := 8) rfl ?_); refine Kd.R_lit k75 _ 75 ?hg (N := 8) ?hd (xs := ([(⟨0, 10, 20⟩ : S75)] : List (S75))) (inner := [.int .i64 0, .int .i64 10, .int .i64 20]) (ok := fun _ => True) (okp := fun _ => True) ?hr ?hp (fun _ hk => hk) trivial (Below.refl _ _) (Nat.le_refl _) (by simp) ?_; (case hd => rfl); (case hg => rfl); (case hr => first | (go_simp; done) | (go_simp; rfl)); (case hp => exact (Reps.c3 (show Kd.M k75 _ _ _ (⟨0, 10, 20⟩ : S75) [.int .i64 0, .int .i64 10, .int .i64 20] from (k75_mkM _ _ _ (⟨0, 10, 20⟩ : S75) )) (Reps.none _ _))); intro v122 w26 ho27 hb hg_ hnew_; clear hg_ hnew_; (first | rw [← Ny121.out] at ho27 | (simp only [Int.reduceToNat] at ho27; rw [← Ny121.out] at ho27)); have n0_ := Aside0.mk (Kd.R_lower ho27 (below_size (by repeat (first | (with_reducible first | exact HB.out | apply below_alloc | apply pw_below_drewN | apply below_drew1) | exact HB.out)))); have n1_ := Aside0.mk (below_step (by repeat (first | (with_reducible first | exact HB.out | apply below_alloc | apply pw_below_drewN | apply below_drew1) | exact HB.out)) hb); clear HB; have HO123 := n0_; have HB := n1_; clear n0_ n1_; clear hb ho27; obtain ⟨Ao28, co28, eo28⟩ := Kd.R_slice HO123.out; subst eo28) | ((with_reducible refine gate_callee (f := 41) rfl ?_); refine goesL_ (some 10) rfl rfl Try.func41 (by kernel_rfl) rfl #[.slice Ao28 y121.length co28, .agg #[.int .i64 2, .int .i64 15, .int .i64 5]] rfl (by (try simp only [List.map_toArray, List.map_cons, List.map_nil]); first | done | rfl | (simp only [List.length_drop, List.length_take]; rfl)) ?_; (with_reducible refine (size_Set.calls k _ _ y121 2 15 5 t124 t127 _ ?side1 ?side2 A1.out).mono ?_); (case side1 => repeat (first | exact (Kd.R_reads' HO123.out).2.2 | (with_reducible refine Kd.C_alloc ?_ _) | (with_reducible refine Kd.C_drewN ?_ _) | (with_reducible refine Kd.C_drew ?_))); (case side2 => exact (Kd.R_reads' HO123.out).2.1); rintro e w29 ⟨v125, rfl, ho0, hb⟩; refine ⟨_, rfl, ?_⟩; have n0_ := Aside0.mk (Kd.R_elder' (by (with_reducible repeat (first | apply Kd.R_alloc | apply Kd.R_drewN | apply Kd.R_drew)); exact HO123.out) (Kd.R_base ho0) hb); have n1_ := Aside0.mk (Kd.R_lower (Kd.R_new' ho0 (Kd.R_lt (by (with_reducible repeat (first | apply Kd.R_alloc | apply Kd.R_drewN | apply Kd.R_drew)); exact HO123.out))) (below_size (by repeat (first | (with_reducible first | exact HB.out | apply below_alloc | apply pw_below_drewN | apply below_drew1) | exact HB.out)))); have n2_ := Aside0.mk (below_step (by repeat (first | (with_reducible first | exact HB.out | apply below_alloc | apply pw_below_drewN | apply below_drew1) | exact HB.out)) hb); clear HO123; clear HB; have HO123 := n0_; have HO126 := n1_; have HB := n2_; clear n0_ n1_ n2_; (try clear hb); (try clear hb2); (try clear hk); (try clear hi); (try clear ho0); obtain ⟨Ao30, co30, eo30⟩ := Kd.R_slice HO126.out; subst eo30) | ((with_reducible refine gate_callee (f := 40) rfl ?_); refine goesL_ (some 15) rfl rfl Try.func40 (by kernel_rfl) rfl #[.slice Ao30 t124.length co30] rfl (by (try simp only [List.map_toArray, List.map_cons, List.map_nil]); first | done | rfl | (simp only [List.length_drop, List.length_take]; rfl)) ?_; (with_reducible refine (size_Least.calls k _ _ t124 t128 t129 t130 _ ?side1 ?side2 A2.out).mono ?_); (case side1 => repeat (first | exact (Kd.R_reads' HO126.out).2.2 | (with_reducible refine Kd.C_alloc ?_ _) | (with_reducible refine Kd.C_drewN ?_ _) | (with_reducible refine Kd.C_drew ?_))); (case side2 => exact (Kd.R_reads' HO126.out).2.1); rintro e w31 ⟨rfl, hb⟩; refine ⟨_, rfl, ?_⟩; have n0_ := Aside0.mk (Kd.R_below (by (with_reducible repeat (first | apply Kd.R_alloc | apply Kd.R_drewN | apply Kd.R_drew)); exact HO123.out) hb); have n1_ := Aside0.mk (Kd.R_below (by (with_reducible repeat (first | apply Kd.R_alloc | apply Kd.R_drewN | apply Kd.R_drew)); exact HO126.out) hb); have n2_ := Aside0.mk (below_step (by repeat (first | (with_reducible first | exact HB.out | apply below_alloc | apply pw_below_drewN | apply below_drew1) | exact HB.out)) hb); clear HO123; clear HO126; clear HB; have HO123 := n0_; have HO126 := n1_; have HB := n2_; clear n0_ n1_ n2_; (try clear hb); (try clear hb2); (try clear hk); (try clear hi)) | ((with_reducible refine gate_callee (f := 42) rfl ?_); refine goesL_ (some 20) rfl rfl Try.func42 (by kernel_rfl) rfl #[.int .i64 t127] rfl (by (try simp only [List.map_toArray, List.map_cons, List.map_nil]); first | done | rfl | (simp only [List.length_drop, List.length_take]; rfl)) ?_; (with_reducible refine (beaconlaw22_num.calls t127 t131 _ A3.out).mono ?_); rintro e w' ⟨rfl, ⟨nd, rfl⟩⟩; refine ⟨_, rfl, ?_⟩))
    go_ret
    exact ⟨by first | rfl | (simp [errW_none, errW_some] <;> rfl) | (simp [*, errW_none, errW_some] <;> rfl), by repeat (first | (with_reducible first | exact HB.out | apply below_alloc | apply pw_below_drewN | apply below_drew1) | exact HB.out)⟩

end Go.Proofs.Ytadjhnlbpgknfaa.Y
