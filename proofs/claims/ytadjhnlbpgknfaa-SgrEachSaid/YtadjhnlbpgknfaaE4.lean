-- Laid by a program of this session (wip/tools/xp.py) over the kit's print.
import Derived.Test.YtadjhnlbpgknfaaE0
import Derived.Test.YtadjhnlbpgknfaaE2
import Derived.Test.YtadjhnlbpgknfaaE3
namespace Go.Proofs.Ytadjhnlbpgknfaa.E
open Go.RowKit Go.Proofs.YtadjhnlbpgknfaaW.PrintWords Go.Proofs.YtadjhnlbpgknfaaW.PrintLast Go.Proofs.YtadjhnlbpgknfaaW.PrintMore
attribute [local go_sem] max2_int min2_int max_two min_two max_three min_three max_four min_four   -- for this text's walks alone
set_option linter.unusedVariables false
set_option linter.unusedSimpArgs false

/-! ### sgr_Apply: function 25 (an extern) -/
def badN (n : Int) : Bool := decide (n < -1) || decide (n > 9999)
set_option maxRecDepth 100000 in
theorem bad73 (n : Int) (w : World) : Calls Try.prog 73 #[.int .i64 n] w fun e w' => e = .returned (.bool (badN n)) ∧ w = w' := by
  by_cases h1 : n < -1
  · have e : badN n = true := by simp [badN, h1]
    rw [e]
    have hb : decide (n < -1) = true := decide_eq_true h1
    go_enter Try.func73, Try.ntmps73
    go_wp2
    go_ret
    exact ⟨rfl, rfl⟩
  · have e : badN n = decide (n > 9999) := by simp [badN, h1]
    rw [e]
    have hb : decide (n < -1) = false := decide_eq_false h1
    go_enter Try.func73, Try.ntmps73
    go_wp2
    go_ret
    exact ⟨rfl, rfl⟩
def IxPost73 (l : List Int) (w : World) (e : Ending) (w' : World) : Prop := ∃ n : Int, e = .returned (.int .i64 n) ∧ ((0 ≤ n ∧ l.any badN = true) ∨ (n = -1 ∧ l.any badN = false)) ∧ Drawn0 w w'
set_option maxRecDepth 100000 in
set_option maxHeartbeats 1000000 in
theorem index73 (A0 : Option Addr) (c0 : Nat) (l0 : List Int) (w : World) (hr0 : Kd.C (Kd.int .i64) w A0 l0.length l0) :
    Calls Try.prog 96 #[.slice A0 l0.length c0, .func (.func 73) #[] #[]] w (IxPost73 l0 w) := by
  have HR0 := Aside0.mk hr0
  have HL : l0.length ≤ 9223372036854775807 := hr0.2.1
  clear hr0
  go_enter Try.func96, Try.ntmps96
  go_wp2
  go_loopw [8] (fun v w' => ∃ j : Nat, v = .int .i64 j ∧ j ≤ l0.length ∧ Aside0 ((l0.take j).any badN = false) ∧ Drawn0 w w') (fun v _ => l0.length - (intOf v).toNat)
  case atStart => exact ⟨0, rfl, Nat.zero_le _, ⟨by simp⟩, Drawn0.refl _⟩
  case round =>
    obtain ⟨j, rfl, hj, HF, ⟨m, rfl⟩⟩ := hrel
    by_cases hlt : j < l0.length
    · obtain ⟨ad, e0, hx⟩ := Kd.at_int HR0.out j (by omega) (by omega)
      cases e0
      rw [Int.toNat_natCast] at hx
      have er : rd l0 j = l0[j] := by
        unfold rd
        rw [Int.toNat_natCast, List.getD_eq_getElem?_getD, List.getElem?_eq_getElem hlt]
        rfl
      have HER := Aside0.mk er
      clear er
      by_cases heq : badN (rd l0 j) = true
      · have HE := Aside0.mk heq
        go_wp2_with (go_at_call 73; refine (bad73 _ _).mono ?_; rw [heq]; rintro e w' ⟨rfl, rfl⟩)
        go_ret
        exact ⟨j, rfl, .inl ⟨by omega, List.any_eq_true.2 ⟨_, List.getElem_mem hlt, by rw [← HER.out]; exact HE.out⟩⟩, m, rfl⟩
      · have hf : badN (rd l0 j) = false := by simpa using heq
        have HE := Aside0.mk hf
        clear heq
        go_wp2_with (go_at_call 73; refine (bad73 _ _).mono ?_; rw [hf]; rintro e w' ⟨rfl, rfl⟩)
        go_roundw
        case rel => exact ⟨j + 1, by go_num, by omega, ⟨by rw [List.take_succ_eq_append_getElem hlt, List.any_append, HF.out, ← HER.out]; simp [HE.out]⟩, m, rfl⟩
        case measure => simp [intOf]; omega
    · go_wp2
      go_ret
      obtain rfl : j = l0.length := by omega
      exact ⟨-1, rfl, .inr ⟨rfl, by have := HF.out; rwa [List.take_length] at this⟩, m, rfl⟩
set_option maxRecDepth 100000 in
set_option maxHeartbeats 1000000 in
theorem contains73 (A0 : Option Addr) (c0 : Nat) (l0 : List Int) (w : World) (hr0 : Kd.C (Kd.int .i64) w A0 l0.length l0) :
    Calls Try.prog 75 #[.slice A0 l0.length c0, .func (.func 73) #[] #[]] w (fun e w' => e = .returned (.bool (l0.any badN)) ∧ Drawn0 w w') := by
  have HR0 := Aside0.mk hr0
  clear hr0
  go_enter Try.func75, Try.ntmps75
  go_wp2_with (go_at_call 96; refine (index73 A0 c0 l0 _ HR0.out).mono ?_; rintro e w1 ⟨n, rfl, hn, hd⟩; have HN := Aside0.mk hn; clear hn)
  go_ret
  rcases HN.out with ⟨h1, h2⟩ | ⟨rfl, h2⟩
  · exact ⟨by rw [h2, decide_eq_true h1]; rfl, hd⟩
  · exact ⟨by rw [h2]; rfl, hd⟩
def sgr_Apply.f (a0 a1 a2 : Int) (l : List Int) : Option (Int × Int × Int × Int) :=
  (sgr_May.f a0 a1 a2).bind fun m => if m = true ∧ l.length ≤ 32 ∧ l.any badN = false then (sgr_Do.f a0 a1 a2 l).bind fun r => some (r.1, r.2.1, r.2.2, 0) else some (0, 0, 0, 1)
theorem ApSt.cells {g4 : Nat} {W : World} (s : W.heap[g4]? = some (.cells #[.int .i64 0, .int .i64 0, .int .i64 0] 56 (0, 0))) :
    (W.cell? ⟨g4, 0, none⟩ = some (.int .i64 0) ∧ W.cell? ⟨g4, 1, none⟩ = some (.int .i64 0) ∧ W.cell? ⟨g4, 2, none⟩ = some (.int .i64 0)) ∧
      (W.frozen? ⟨g4, 0, none⟩ = false ∧ W.frozen? ⟨g4, 1, none⟩ = false ∧ W.frozen? ⟨g4, 2, none⟩ = false) :=
  ⟨⟨(blk_cell s 0).trans rfl, (blk_cell s 1).trans rfl, (blk_cell s 2).trans rfl⟩, blk_frozen s 0, blk_frozen s 1, blk_frozen s 2⟩
def ApPost (r1 r2 r3 r4 : Int) (w : World) (e : Ending) (w' : World) : Prop := e = .returned (.tuple #[.agg #[.int .i64 r1, .int .i64 r2, .int .i64 r3], .int .i64 r4]) ∧ Below w.heap.size w w'
set_option maxRecDepth 100000 in
set_option maxHeartbeats 8000000 in
theorem sgr_Apply.calls0 (a0 a1 a2 : Int) (A : Option Addr) (cp : Nat) (l : List Int) (r1 r2 r3 r4 : Int) (w : World) (hr : Kd.C (Kd.int .i64) w A l.length l) (hc : l.length ≤ cp) (h : sgr_Apply.f a0 a1 a2 l = some (r1, r2, r3, r4)) :
    Calls Try.prog 25 #[.agg #[.int .i64 a0, .int .i64 a1, .int .i64 a2], .slice A l.length cp] w (ApPost r1 r2 r3 r4 w) := by
  have hu56 := Try.underlying56
  have HR := Aside0.mk hr
  have HC := Aside0.mk hc
  clear hr hc
  obtain ⟨m, hm, H⟩ := Option.bind_eq_some_iff.mp h
  have HM := Aside0.mk hm
  have HH := Aside0.mk H
  clear h hm H
  go_enter Try.func25, Try.ntmps25
  go_upto_region 1 with (first | ((with_reducible refine gate_dst (N := 2) rfl ?_); refine box_event ?hg (N := 2) ?hd (cs := #[.int .i64 a0, .int .i64 a1, .int .i64 a2]) (t := 56) ?hr ?_; (case hd => rfl); (case hg => rfl); (case hr => first | (go_simp; done) | (go_simp; rfl)); intro gb1 hg1 w4 hbox1 hb1; have G1 := Aside0.mk hg1; have X1 := Aside0.mk hbox1; have B1 := Aside0.mk hb1; clear hg1 hbox1 hb1) | ((with_reducible refine gate_dst (N := 4) rfl ?_); refine box_event ?hg (N := 4) ?hd (cs := #[.int .i64 0, .int .i64 0, .int .i64 0]) (t := 56) ?hr ?_; (case hd => rfl); (case hg => rfl); (case hr => first | (go_simp; done) | (go_simp; rfl)); intro gb2 hg2 w5 hbox2 hb2; have G2 := Aside0.mk hg2; have X2 := Aside0.mk hbox2; have B2 := Aside0.mk hb2; clear hg2 hbox2 hb2))
  (try simp only [Act.put, List.setIfInBounds_toArray, List.set_cons_zero, List.set_cons_succ])
  have HS : Aside0 (DSt gb1 gb2 w w5 a0 a1 a2) := by
    have s1 := blk_lt X1.out
    have e1 := G1.out
    have e2 := G2.out
    have z1 := B1.out.size
    exact ⟨⟨blk_below X1.out B2.out, X2.out, by omega, by omega, by omega, below_step B1.out B2.out⟩⟩
  clear G1 X1 B1 G2 X2 B2
  obtain ⟨⟨hc1, hc2, hc3⟩, ⟨hf1, hf2, hf3⟩, _, _⟩ := HS.out.cells
  have hend : ∀ (x y z r : Int) (W : World) (tm : Array Value), W.heap[gb2]? = some (.cells #[.int .i64 x, .int .i64 y, .int .i64 z] 56 (0, 0)) → True := fun _ _ _ _ _ _ _ => trivial
  clear hend
  cases m with
  | false =>
    have e : some ((0 : Int), (0 : Int), (0 : Int), (1 : Int)) = some (r1, r2, r3, r4) := HH.out
    simp only [Option.some.injEq, Prod.mk.injEq] at e
    obtain ⟨rfl, rfl, rfl, rfl⟩ := e
    go_wp2_with (go_at_call 74; refine (sgr_May.calls a0 a1 a2 false _ HM.out).mono ?_; rintro e w7 ⟨rfl, hb⟩; have HS7 := Aside0.mk (HS.out.step hb); clear hb; obtain ⟨⟨hd1, hd2, hd3⟩, hg1, hg2, hg3⟩ := ApSt.cells HS7.out.2.1)
    refine bodyPost_ret (results_ct rfl _ _ gb2 56 #[.int .i64 0, .int .i64 0, .int .i64 0] (0, 0) _ rfl (by refine blk_put (cs := #[.int .i64 0, .int .i64 0, .int .i64 0]) ?_ 2 _ rfl; refine blk_put (cs := #[.int .i64 0, .int .i64 0, .int .i64 0]) ?_ 1 _ rfl; refine blk_put (cs := #[.int .i64 0, .int .i64 0, .int .i64 0]) ?_ 0 _ rfl; exact HS7.out.2.1) Try.underlying56 rfl (by kernel_rfl)) rfl ?_
    exact ⟨rfl, below_set (below_set (below_set HS7.out.2.2.2.2.2 HS7.out.2.2.2.2.1) HS7.out.2.2.2.2.1) HS7.out.2.2.2.2.1⟩
  | true =>
    by_cases h32 : l.length ≤ 32
    · have hb32 : ¬ (32 : Int) < l.length := by omega
      cases ha : l.any badN with
      | true =>
        have e := HH.out
        rw [if_neg (by rw [ha]; simp)] at e
        simp only [Option.some.injEq, Prod.mk.injEq] at e
        obtain ⟨rfl, rfl, rfl, rfl⟩ := e
        have HA := Aside0.mk ha
        clear ha
        go_wp2_with (first | (go_at_call 74; refine (sgr_May.calls a0 a1 a2 true _ HM.out).mono ?_; rintro e w7 ⟨rfl, hb⟩; have HS7 := Aside0.mk (HS.out.step hb); clear hb; obtain ⟨⟨hd1, hd2, hd3⟩, hg1, hg2, hg3⟩ := ApSt.cells HS7.out.2.1) | (go_at_call 75; refine (contains73 A cp l _ (Kd.C_below HR.out HS7.out.2.2.2.2.2)).mono ?_; rw [HA.out]; rintro e w8 ⟨rfl, ⟨nd, rfl⟩⟩))
        refine bodyPost_ret (results_ct rfl _ _ gb2 56 #[.int .i64 0, .int .i64 0, .int .i64 0] (0, 0) _ rfl (by (with_reducible repeat (first | refine blk_drewN ?_ _ | refine blk_drew ?_ | refine blk_alloc ?_ _)); refine blk_put (cs := #[.int .i64 0, .int .i64 0, .int .i64 0]) ?_ 2 _ rfl; refine blk_put (cs := #[.int .i64 0, .int .i64 0, .int .i64 0]) ?_ 1 _ rfl; refine blk_put (cs := #[.int .i64 0, .int .i64 0, .int .i64 0]) ?_ 0 _ rfl; exact HS7.out.2.1) Try.underlying56 rfl (by kernel_rfl)) rfl ?_
        exact ⟨rfl, below_set (below_set (below_set (HS7.out.drewN nd).2.2.2.2.2 HS7.out.2.2.2.2.1) HS7.out.2.2.2.2.1) HS7.out.2.2.2.2.1⟩
      | false =>
        have e := HH.out
        rw [if_pos ⟨rfl, h32, ha⟩] at e
        obtain ⟨⟨q1, q2, q3⟩, hq, e⟩ := Option.bind_eq_some_iff.mp e
        simp only [Option.some.injEq, Prod.mk.injEq] at e
        obtain ⟨rfl, rfl, rfl, rfl⟩ := e
        have HA := Aside0.mk ha
        have HQ := Aside0.mk hq
        clear ha hq
        go_wp2_with (first | (go_at_call 74; refine (sgr_May.calls a0 a1 a2 true _ HM.out).mono ?_; rintro e w7 ⟨rfl, hb⟩; have HS7 := Aside0.mk (HS.out.step hb); clear hb; obtain ⟨⟨he1, he2, he3⟩, ⟨hh1, hh2, hh3⟩, _, _⟩ := HS7.out.cells) | (go_at_call 75; refine (contains73 A cp l _ (Kd.C_below HR.out HS7.out.2.2.2.2.2)).mono ?_; rw [HA.out]; rintro e w8 ⟨rfl, ⟨nd, rfl⟩⟩) | (go_at_call 76; refine (sgr_Do.calls a0 a1 a2 A cp l q1 q2 q3 _ (Kd.C_below HR.out (HS7.out.drewN nd).2.2.2.2.2) HC.out HQ.out).mono ?_; rintro e w9 ⟨rfl, hb⟩; have HS9 := Aside0.mk ((HS7.out.drewN nd).step hb); clear hb; obtain ⟨⟨hd1, hd2, hd3⟩, hg1, hg2, hg3⟩ := ApSt.cells HS9.out.2.1))
        refine bodyPost_ret (results_ct rfl _ _ gb2 56 #[.int .i64 q1, .int .i64 q2, .int .i64 q3] (0, 0) _ rfl (by (with_reducible repeat (first | refine blk_drewN ?_ _ | refine blk_drew ?_ | refine blk_alloc ?_ _)); refine blk_put (cs := #[.int .i64 q1, .int .i64 q2, .int .i64 0]) ?_ 2 _ rfl; refine blk_put (cs := #[.int .i64 q1, .int .i64 0, .int .i64 0]) ?_ 1 _ rfl; refine blk_put (cs := #[.int .i64 0, .int .i64 0, .int .i64 0]) ?_ 0 _ rfl; exact HS9.out.2.1) Try.underlying56 rfl (by kernel_rfl)) rfl ?_
        exact ⟨rfl, below_set (below_set (below_set HS9.out.2.2.2.2.2 HS9.out.2.2.2.2.1) HS9.out.2.2.2.2.1) HS9.out.2.2.2.2.1⟩
    · have hb32 : (32 : Int) < l.length := by omega
      have e := HH.out
      rw [if_neg (by omega)] at e
      simp only [Option.some.injEq, Prod.mk.injEq] at e
      obtain ⟨rfl, rfl, rfl, rfl⟩ := e
      go_wp2_with (go_at_call 74; refine (sgr_May.calls a0 a1 a2 true _ HM.out).mono ?_; rintro e w7 ⟨rfl, hb⟩; have HS7 := Aside0.mk (HS.out.step hb); clear hb; obtain ⟨⟨hd1, hd2, hd3⟩, hg1, hg2, hg3⟩ := ApSt.cells HS7.out.2.1)
      refine bodyPost_ret (results_ct rfl _ _ gb2 56 #[.int .i64 0, .int .i64 0, .int .i64 0] (0, 0) _ rfl (by refine blk_put (cs := #[.int .i64 0, .int .i64 0, .int .i64 0]) ?_ 2 _ rfl; refine blk_put (cs := #[.int .i64 0, .int .i64 0, .int .i64 0]) ?_ 1 _ rfl; refine blk_put (cs := #[.int .i64 0, .int .i64 0, .int .i64 0]) ?_ 0 _ rfl; exact HS7.out.2.1) Try.underlying56 rfl (by kernel_rfl)) rfl ?_
      exact ⟨rfl, below_set (below_set (below_set HS7.out.2.2.2.2.2 HS7.out.2.2.2.2.1) HS7.out.2.2.2.2.1) HS7.out.2.2.2.2.1⟩
theorem sgr_Apply.calls (a0_0 a0_1 a0_2 : Int) (A1 : Option Addr) (c1 : Nat) (l1 : List Int) (r1 r2 r3 r4 : Int) (w : World) (hr1 : Kd.C (Kd.int .i64) w A1 l1.length l1) (hc1 : l1.length ≤ c1) (h : sgr_Apply.f a0_0 a0_1 a0_2 l1 = some (r1, r2, r3, r4)) :
    Calls Try.prog 25 #[.agg #[.int .i64 a0_0, .int .i64 a0_1, .int .i64 a0_2], .slice A1 l1.length c1] w fun e w' => e = .returned (.tuple #[.agg #[.int .i64 r1, .int .i64 r2, .int .i64 r3], .int .i64 r4]) ∧ Below w.heap.size w w' :=
  sgr_Apply.calls0 a0_0 a0_1 a0_2 A1 c1 l1 r1 r2 r3 r4 w hr1 hc1 h

/-! ### beaconref3_Plain: function 26 -/
def beaconref3_Plain.f  : Option (Int × Int × Int) := some ((-1), (-1), 0)
set_option maxHeartbeats 8000000 in
set_option maxRecDepth 100000 in
theorem beaconref3_Plain.calls  (r1 : Int) (r2 : Int) (r3 : Int) (w : World) (h : beaconref3_Plain.f  = some (r1, r2, r3)) :
    Calls Try.prog 26 #[] w fun e w' => e = .returned (.agg #[.int .i64 r1, .int .i64 r2, .int .i64 r3]) ∧ Below w.heap.size w w' := by
  have hu56 := Try.underlying56
  have HB := Aside0.mk (Below.refl w.heap.size w)
  have H : (some ((-1), (-1), 0)) = some (r1, r2, r3) := h
  clear h
  simp only [Option.some.injEq, Prod.mk.injEq] at H
  obtain ⟨rfl, rfl, rfl⟩ := H
  go_enter Try.func26, Try.ntmps26
  go_wp2_with (first | ((with_reducible refine gate_dst (N := 0) rfl ?_); refine box_event ?hg (N := 0) ?hd (cs := #[.int .i64 0, .int .i64 0, .int .i64 0]) (t := 56) ?hr ?_; (case hd => rfl); (case hg => rfl); (case hr => first | (go_simp; done) | (go_simp; rfl)); intro gb116 hg w1 hbox hb; have n0_ := Aside0.mk (below_step (by repeat (first | (with_reducible first | exact HB.out | apply below_alloc | apply pw_below_drewN | apply below_drew1) | exact HB.out)) hb); have n1_ := Aside0.mk (hbox); have n2_ := Aside0.mk ((by rw [hg]; exact (below_size (by repeat (first | (with_reducible first | exact HB.out | apply below_alloc | apply pw_below_drewN | apply below_drew1) | exact HB.out))) : w.heap.size ≤ gb116)); have n3_ := Aside0.mk ((by rw [hg]; exact (below_size (by repeat (first | (with_reducible first | exact HB.out | apply below_alloc | apply pw_below_drewN | apply below_drew1) | exact HB.out))) : w.heap.size ≤ gb116)); clear HB; have HB := n0_; have BK116 := n1_; have GW116 := n2_; have GE116 := n3_; clear n0_ n1_ n2_ n3_; clear hb hbox hg; have hcz2_0 : w1.cell? ⟨gb116, 0, none⟩ = some (.int .i64 0) := (blk_cell BK116.out 0).trans rfl; have hcz2_1 : w1.cell? ⟨gb116, 1, none⟩ = some (.int .i64 0) := (blk_cell BK116.out 1).trans rfl; have hcz2_2 : w1.cell? ⟨gb116, 2, none⟩ = some (.int .i64 0) := (blk_cell BK116.out 2).trans rfl; have hfz2_0 := blk_frozen BK116.out 0; have hfz2_1 := blk_frozen BK116.out 1; have hfz2_2 := blk_frozen BK116.out 2))
  refine bodyPost_ret (results_cell_row rfl _ _ gb116 56 #[.int .i64 (-1), .int .i64 (-1), .int .i64 0] (0, 0) _ rfl (by (with_reducible repeat (first | refine blk_drewN ?_ _ | refine blk_drew ?_ | refine blk_alloc ?_ _)); refine blk_put (cs := #[.int .i64 (-1), .int .i64 (-1), .int .i64 0]) ?_ 2 _ rfl; (with_reducible repeat (first | refine blk_drewN ?_ _ | refine blk_drew ?_ | refine blk_alloc ?_ _)); refine blk_put (cs := #[.int .i64 (-1), .int .i64 0, .int .i64 0]) ?_ 1 _ rfl; (with_reducible repeat (first | refine blk_drewN ?_ _ | refine blk_drew ?_ | refine blk_alloc ?_ _)); refine blk_put (cs := #[.int .i64 0, .int .i64 0, .int .i64 0]) ?_ 0 _ rfl; (with_reducible repeat (first | refine blk_drewN ?_ _ | refine blk_drew ?_ | refine blk_alloc ?_ _)); exact BK116.out) Try.underlying56 rfl (by kernel_rfl)) rfl ?_
  exact ⟨by first | rfl | (simp [errW_none, errW_some] <;> rfl) | (simp [*, errW_none, errW_some] <;> rfl), by repeat (first | (with_reducible first | exact HB.out | apply below_alloc | apply pw_below_drewN | apply below_drew1 | refine below_set ?_ GE116.out) | exact HB.out)⟩

/-! ### beaconlaw4_num: function 27 -/
def beaconlaw4_num.f (a0 : Int) : Option (Int) := some a0
set_option maxHeartbeats 8000000 in
set_option maxRecDepth 100000 in
theorem beaconlaw4_num.calls (a0 : Int) (r : Int) (w : World) (h : beaconlaw4_num.f a0 = some r) :
    Calls Try.prog 27 #[.int .i64 a0] w fun e w' => e = .returned (.int .i64 r) ∧ Drawn0 w w' := by
  have H : (some a0) = some r := h
  clear h
  obtain rfl := Option.some.inj H
  go_enter Try.func27, Try.ntmps27
  go_wp2
  go_ret
  exact ⟨by first | rfl | (simp; done) | (simp [*]; done), by repeat (first | exact Drawn0.refl _ | apply Drawn0.step)⟩

/-! ### beaconref0_In: function 22 -/
def beaconref0_In.l0 : Nat → List Int → Int → Int → Option (Int)
  | 0, _, _, _ => none
  | k + 1, x0, x1, x5 => if x5 < (x0.length : Int) then (if 0 ≤ x5 then (if (rd x0 x5) = x1 then (some x5) else (beaconref0_In.l0 k x0 x1 (wrap64 (x5 + 1)))) else (none)) else (some (-1))
def beaconref0_In.f (k : Nat) (l0 : List Int) (a1 : Int) : Option (Int) := beaconref0_In.l0 k l0 a1 0
theorem beaconref0_In.mono_l : ∀ k, (∀ y0 y1 y2, LeO (beaconref0_In.l0 k y0 y1 y2) (beaconref0_In.l0 (k + 1) y0 y1 y2))
  | 0 => fun _ _ _ r h => by simp [beaconref0_In.l0] at h
  | k + 1 => by
    have ih0 := beaconref0_In.mono_l k
    · intro y0 y1 y2
      unfold beaconref0_In.l0
      repeat' first
      | (with_reducible exact ih0 _ _ _)
      | (with_reducible exact LeO.refl _)
      | (with_reducible exact LeO.none _)
      | (with_reducible refine LeO.ite ?_ ?_)
      | (with_reducible refine LeO.bind ?_ (fun _ => ?_))
      | exact ih0 _ _ _
      | exact LeO.none _
      | refine LeO.ite ?_ ?_
      | refine LeO.bind ?_ (fun _ => ?_)
theorem beaconref0_In.mono : ∀ a0 a1 k, LeO (beaconref0_In.f k a0 a1) (beaconref0_In.f (k + 1) a0 a1) := by
  intro a0 a1 k
  have ih0 := beaconref0_In.mono_l k
  unfold beaconref0_In.f
  repeat' first
      | (with_reducible exact ih0 _ _ _)
      | (with_reducible exact LeO.refl _)
      | (with_reducible exact LeO.none _)
      | (with_reducible refine LeO.ite ?_ ?_)
      | (with_reducible refine LeO.bind ?_ (fun _ => ?_))
      | exact ih0 _ _ _
      | exact LeO.none _
      | refine LeO.ite ?_ ?_
      | refine LeO.bind ?_ (fun _ => ?_)
set_option maxHeartbeats 8000000 in
set_option maxRecDepth 100000 in
theorem beaconref0_In.calls (k : Nat) (A0 : Option Addr) (c0 : Nat) (l0 : List Int) (a1 : Int) (r : Int) (w : World) (hr0 : Kd.C (Kd.int .i64) w A0 l0.length l0) (hc0 : l0.length ≤ c0) (h : beaconref0_In.f k l0 a1 = some r) :
    Calls Try.prog 22 #[.slice A0 l0.length c0, .int .i64 a1] w fun e w' => e = .returned (.int .i64 r) ∧ Drawn0 w w' := by
  have HR0 := Aside0.mk hr0
  have HC0 := Aside0.mk hc0
  clear hr0 hc0
  have H : (beaconref0_In.l0 k l0 a1 0) = some r := h
  clear h
  have H' := Aside0.mk H
  clear H
  go_enter Try.func22, Try.ntmps22
  go_wp2
  go_loopg [5] k (fun kq v5 w' => ∃ (x5_1 : Int), v5 = .int .i64 x5_1 ∧ Aside0 (beaconref0_In.l0 kq l0 a1 x5_1 = some r) ∧ Aside0 (kq ≤ k) ∧ Drawn0 w w')
  case atStart => exact ⟨(0), (by first | rfl | (simp; done) | (simp [*]; done)), H', ⟨Nat.le_refl _⟩, by repeat (first | exact Drawn0.refl _ | apply Drawn0.step)⟩
  case round =>
    clear H'
    try clear c2
    try clear p2
    obtain ⟨x5_1, rfl, HA, HK1, ⟨m1, rfl⟩⟩ := hrel
    cases gk with
    | zero => exact absurd HA.out (by simp [beaconref0_In.l0])
    | succ k1 =>
      have H := HA.out
      clear HA
      simp only [beaconref0_In.l0] at H
      by_cases c3 : x5_1 < (l0.length : Int)
      · rw [if_pos c3] at H
        have c3b0 : decide (x5_1 < (l0.length : Int)) = true := decide_eq_true c3
        clear c3
        by_cases c4 : 0 ≤ x5_1
        · rw [if_pos c4] at H
          have c4b0 : decide (0 ≤ x5_1) = true := decide_eq_true c4
          clear c4
          by_cases c5 : (rd l0 x5_1) = a1
          · rw [if_pos c5] at H
            have c5b0 : ((rd l0 x5_1) == a1) = true := beq_iff_eq.mpr c5
            have c5b1 : ((rd l0 x5_1) != a1) = false := bne_eq_false_iff_eq.mpr c5
            clear c5
            obtain rfl := Option.some.inj H
            have p117 : 0 ≤ (x5_1 : Int) := of_decide_eq_true (by first | (with_reducible assumption) | assumption)
            have q117 : x5_1 < (l0.length : Int) := of_decide_eq_true (by first | (with_reducible assumption) | assumption)
            obtain ⟨ad117, e117, hx117_0⟩ := Kd.at_int HR0.out x5_1 p117 q117
            cases e117
            replace p117 := eq_true p117
            replace q117 := eq_true q117
            go_wp2
            go_ret
            exact ⟨by first | rfl | (simp; done) | (simp [*]; done), by repeat (first | exact Drawn0.refl _ | apply Drawn0.step)⟩
          · rw [if_neg c5] at H
            have c5b0 : ((rd l0 x5_1) == a1) = false := beq_eq_false_iff_ne.mpr c5
            have c5b1 : ((rd l0 x5_1) != a1) = true := bne_iff_ne.mpr c5
            have H' := Aside0.mk H
            clear H
            have p117 : 0 ≤ (x5_1 : Int) := of_decide_eq_true (by first | (with_reducible assumption) | assumption)
            have q117 : x5_1 < (l0.length : Int) := of_decide_eq_true (by first | (with_reducible assumption) | assumption)
            obtain ⟨ad117, e117, hx117_0⟩ := Kd.at_int HR0.out x5_1 p117 q117
            cases e117
            replace p117 := eq_true p117
            replace q117 := eq_true q117
            go_wp2
            go_roundg k1
            case measure => have := HK1.out; omega
            case rel => exact ⟨(wrap64 (x5_1 + 1)), (by first | rfl | (simp; done) | (simp [*]; done)), H', ⟨by have := HK1.out; omega⟩, by repeat (first | exact Drawn0.refl _ | apply Drawn0.step)⟩
        · rw [if_neg c4] at H
          exact absurd H (by simp)
      · rw [if_neg c3] at H
        have c3b0 : decide (x5_1 < (l0.length : Int)) = false := decide_eq_false c3
        clear c3
        obtain rfl := Option.some.inj H
        go_wp2
        go_ret
        exact ⟨by first | rfl | (simp; done) | (simp [*]; done), by repeat (first | exact Drawn0.refl _ | apply Drawn0.step)⟩

/-! ### beaconref0_Between: function 43 -/
def beaconref0_Between.f (a0 : Int) (a1 : Int) (a2 : Int) : Option (Bool) := if a0 ≥ a1 then (some (decide (a0 ≤ a2))) else (some false)
set_option maxHeartbeats 8000000 in
set_option maxRecDepth 100000 in
theorem beaconref0_Between.calls (a0 : Int) (a1 : Int) (a2 : Int) (r : Bool) (w : World) (h : beaconref0_Between.f a0 a1 a2 = some r) :
    Calls Try.prog 43 #[.int .i64 a0, .int .i64 a1, .int .i64 a2] w fun e w' => e = .returned (.bool r) ∧ Drawn0 w w' := by
  have H : (if a0 ≥ a1 then (some (decide (a0 ≤ a2))) else (some false)) = some r := h
  clear h
  by_cases c4 : a0 ≥ a1
  · rw [if_pos c4] at H
    have c4b0 : decide (a1 ≤ a0) = true := decide_eq_true c4
    clear c4
    obtain rfl := Option.some.inj H
    go_enter Try.func43, Try.ntmps43
    go_wp2
    go_ret
    exact ⟨by first | rfl | (simp; done) | (simp [*]; done), by repeat (first | exact Drawn0.refl _ | apply Drawn0.step)⟩
  · rw [if_neg c4] at H
    have c4b0 : decide (a1 ≤ a0) = false := decide_eq_false c4
    clear c4
    obtain rfl := Option.some.inj H
    go_enter Try.func43, Try.ntmps43
    go_wp2
    go_ret
    exact ⟨by first | rfl | (simp; done) | (simp [*]; done), by repeat (first | exact Drawn0.refl _ | apply Drawn0.step)⟩

/-! ### beaconref3_colour: function 77 -/
mutual
def beaconref3_colour.j0 : Nat → List Int → Bool → Option (Int × Int)
  | 0, _, _ => none
  | k + 1, x0, x16 => if x16 = true then (if 1 < (x0.length : Int) then (if (mx 0 (rd x0 1)) > 255 then (some ((-1), 2)) else (some (mx 0 (rd x0 1), 2))) else (none)) else (if (x0.length : Int) ≥ 4 then (if 0 < (x0.length : Int) then (beaconref3_colour.j1 k x0 ((rd x0 0) == 2)) else (none)) else (beaconref3_colour.j1 k x0 false))
def beaconref3_colour.j1 : Nat → List Int → Bool → Option (Int × Int)
  | 0, _, _ => none
  | k + 1, x0, x32 => if x32 = true then (beaconref3_colour.l0 k x0 0 1) else (some ((-1), 0))
def beaconref3_colour.l0 : Nat → List Int → Int → Int → Option (Int × Int)
  | 0, _, _, _ => none
  | k + 1, x0, x5, x6 => if x6 < 4 then (if 0 ≤ x6 then (if x6 < (x0.length : Int) then (if (mx 0 (rd x0 x6)) > 255 then (some ((-1), 4)) else (beaconref3_colour.l0 k x0 (wrap64 ((wrap64 (256 * x5)) + (mx 0 (rd x0 x6)))) (wrap64 (x6 + 1)))) else (none)) else (none)) else (some (wrap64 (256 + x5), 4))
end
def beaconref3_colour.f (k : Nat) (l0 : List Int) : Option (Int × Int) := if (l0.length : Int) ≥ 2 then (if 0 < (l0.length : Int) then (beaconref3_colour.j0 k l0 ((rd l0 0) == 5)) else (none)) else (beaconref3_colour.j0 k l0 false)
theorem beaconref3_colour.mono_l : ∀ k, (∀ y0 y1, LeO (beaconref3_colour.j0 k y0 y1) (beaconref3_colour.j0 (k + 1) y0 y1)) ∧ (∀ y0 y1, LeO (beaconref3_colour.j1 k y0 y1) (beaconref3_colour.j1 (k + 1) y0 y1)) ∧ (∀ y0 y1 y2, LeO (beaconref3_colour.l0 k y0 y1 y2) (beaconref3_colour.l0 (k + 1) y0 y1 y2))
  | 0 => ⟨fun _ _ r h => by simp [beaconref3_colour.j0] at h, fun _ _ r h => by simp [beaconref3_colour.j1] at h, fun _ _ _ r h => by simp [beaconref3_colour.l0] at h⟩
  | k + 1 => by
    obtain ⟨ih0, ih1, ih2⟩ := beaconref3_colour.mono_l k
    refine ⟨?_, ?_, ?_⟩
    · intro y0 y1
      unfold beaconref3_colour.j0
      repeat' first
      | (with_reducible exact ih0 _ _)
      | (with_reducible exact ih1 _ _)
      | (with_reducible exact ih2 _ _ _)
      | (with_reducible exact LeO.refl _)
      | (with_reducible exact LeO.none _)
      | (with_reducible refine LeO.ite ?_ ?_)
      | (with_reducible refine LeO.bind ?_ (fun _ => ?_))
      | exact ih0 _ _
      | exact ih1 _ _
      | exact ih2 _ _ _
      | exact LeO.none _
      | refine LeO.ite ?_ ?_
      | refine LeO.bind ?_ (fun _ => ?_)
    · intro y0 y1
      unfold beaconref3_colour.j1
      repeat' first
      | (with_reducible exact ih0 _ _)
      | (with_reducible exact ih1 _ _)
      | (with_reducible exact ih2 _ _ _)
      | (with_reducible exact LeO.refl _)
      | (with_reducible exact LeO.none _)
      | (with_reducible refine LeO.ite ?_ ?_)
      | (with_reducible refine LeO.bind ?_ (fun _ => ?_))
      | exact ih0 _ _
      | exact ih1 _ _
      | exact ih2 _ _ _
      | exact LeO.none _
      | refine LeO.ite ?_ ?_
      | refine LeO.bind ?_ (fun _ => ?_)
    · intro y0 y1 y2
      unfold beaconref3_colour.l0
      repeat' first
      | (with_reducible exact ih0 _ _)
      | (with_reducible exact ih1 _ _)
      | (with_reducible exact ih2 _ _ _)
      | (with_reducible exact LeO.refl _)
      | (with_reducible exact LeO.none _)
      | (with_reducible refine LeO.ite ?_ ?_)
      | (with_reducible refine LeO.bind ?_ (fun _ => ?_))
      | exact ih0 _ _
      | exact ih1 _ _
      | exact ih2 _ _ _
      | exact LeO.none _
      | refine LeO.ite ?_ ?_
      | refine LeO.bind ?_ (fun _ => ?_)
theorem beaconref3_colour.mono : ∀ a0 k, LeO (beaconref3_colour.f k a0) (beaconref3_colour.f (k + 1) a0) := by
  intro a0 k
  obtain ⟨ih0, ih1, ih2⟩ := beaconref3_colour.mono_l k
  unfold beaconref3_colour.f
  repeat' first
      | (with_reducible exact ih0 _ _)
      | (with_reducible exact ih1 _ _)
      | (with_reducible exact ih2 _ _ _)
      | (with_reducible exact LeO.refl _)
      | (with_reducible exact LeO.none _)
      | (with_reducible refine LeO.ite ?_ ?_)
      | (with_reducible refine LeO.bind ?_ (fun _ => ?_))
      | exact ih0 _ _
      | exact ih1 _ _
      | exact ih2 _ _ _
      | exact LeO.none _
      | refine LeO.ite ?_ ?_
      | refine LeO.bind ?_ (fun _ => ?_)
set_option maxHeartbeats 8000000 in
set_option maxRecDepth 100000 in
theorem beaconref3_colour.calls (k : Nat) (A0 : Option Addr) (c0 : Nat) (l0 : List Int) (r1 : Int) (r2 : Int) (w : World) (hr0 : Kd.C (Kd.int .i64) w A0 l0.length l0) (hc0 : l0.length ≤ c0) (h : beaconref3_colour.f k l0 = some (r1, r2)) :
    Calls Try.prog 77 #[.slice A0 l0.length c0] w fun e w' => e = .returned (.tuple #[.int .i64 r1, .int .i64 r2]) ∧ Below w.heap.size w w' := by
  have HR0 := Aside0.mk hr0
  have HC0 := Aside0.mk hc0
  clear hr0 hc0
  have HB := Aside0.mk (Below.refl w.heap.size w)
  have H : (if (l0.length : Int) ≥ 2 then (if 0 < (l0.length : Int) then (beaconref3_colour.j0 k l0 ((rd l0 0) == 5)) else (none)) else (beaconref3_colour.j0 k l0 false)) = some (r1, r2) := h
  clear h
  have HC2 := Aside0.mk H
  clear H
  go_enter Try.func77, Try.ntmps77
  go_upto_region 1 with (fail)
  go_cut [16] (fun v16 wc => ∃ (kq : Nat) (x16_1 : Bool), v16 = .bool x16_1 ∧ Aside0 (beaconref3_colour.j0 kq l0 x16_1 = some (r1, r2)) ∧ Aside0 (kq ≤ k) ∧ Aside0 (Below w.heap.size w wc))
  case first =>
    have H := HC2.out
    clear HC2
    by_cases c3 : (l0.length : Int) ≥ 2
    · rw [if_pos c3] at H
      have c3b0 : decide (2 ≤ (l0.length : Int)) = true := decide_eq_true c3
      have c3b1 : decide (2 ≤ l0.length) = true := decide_eq_true (by omega)
      clear c3
      (first | rw [c3b0] | (simp only [i64_w, i32_w]; rw [c3b0]) | skip)
      by_cases c4 : 0 < (l0.length : Int)
      · rw [if_pos c4] at H
        have c4b0 : decide (0 < (l0.length : Int)) = true := decide_eq_true c4
        have c4b1 : decide (0 < l0.length) = true := decide_eq_true (by omega)
        clear c4
        have H' := Aside0.mk H
        clear H
        have p118 : 0 ≤ (0 : Int) := (by omega)
        have q118 : 0 < (l0.length : Int) := of_decide_eq_true (by first | (with_reducible assumption) | assumption)
        obtain ⟨ad118, e118, hx118_0⟩ := Kd.at_int HR0.out 0 p118 q118
        cases e118
        have qi118 : (0 < l0.length) = True := eq_true (by omega)
        (try rw [show ((0 : Int)).toNat = 0 from rfl] at hx118_0)
        (try rw [Addr.add_zero'] at hx118_0)
        replace hx118_0 := (HB.out.cell (World.block_lt_of_cell? w _ hx118_0)).trans hx118_0
        replace p118 := eq_true p118
        replace q118 := eq_true q118
        go_wp2
        go_meet
        case rel => exact ⟨_, (((rd l0 0) == 5)), (by first | rfl | (simp; done) | (simp [*]; done)), H', ⟨by first | omega | exact Nat.le_refl _⟩, ⟨by repeat (first | (with_reducible first | exact HB.out | apply below_alloc | apply pw_below_drewN | apply below_drew1) | exact HB.out)⟩⟩
      · rw [if_neg c4] at H
        exact absurd H (by simp)
    · rw [if_neg c3] at H
      have c3b0 : decide (2 ≤ (l0.length : Int)) = false := decide_eq_false c3
      have c3b1 : decide (2 ≤ l0.length) = false := decide_eq_false (by omega)
      clear c3
      (first | rw [c3b0] | (simp only [i64_w, i32_w]; rw [c3b0]) | skip)
      have H' := Aside0.mk H
      clear H
      go_wp2
      go_meet
      case rel => exact ⟨_, (false), (by first | rfl | (simp; done) | (simp [*]; done)), H', ⟨by first | omega | exact Nat.le_refl _⟩, ⟨by repeat (first | (with_reducible first | exact HB.out | apply below_alloc | apply pw_below_drewN | apply below_drew1) | exact HB.out)⟩⟩
  case rest =>
    clear HC2
    try clear p1
    try clear q1
    try clear hx1
    try clear qi1
    try clear p2
    try clear c3
    try clear c3b0
    try clear c3b1
    try clear c4
    try clear c4b0
    try clear c4b1
    try clear hx118_0
    try clear p118
    try clear q118
    obtain ⟨kq, x16_1, rfl, HA, HJ1, HB⟩ := hcut
    cases kq with
    | zero => exact absurd HA.out (by simp [beaconref3_colour.j0])
    | succ kj1 =>
      have H := HA.out
      clear HA
      simp only [beaconref3_colour.j0] at H
      by_cases c5 : x16_1 = true
      · subst c5
        have H1 : (if 1 < (l0.length : Int) then (if (mx 0 (rd l0 1)) > 255 then (some ((-1), 2)) else (some (mx 0 (rd l0 1), 2))) else (none)) = some (r1, r2) := by rw [if_pos rfl] at H; exact H
        clear H
        have H := H1
        clear H1
        by_cases c6 : 1 < (l0.length : Int)
        · rw [if_pos c6] at H
          have c6b0 : decide (1 < (l0.length : Int)) = true := decide_eq_true c6
          have c6b1 : decide (1 < l0.length) = true := decide_eq_true (by omega)
          clear c6
          obtain ⟨ji7, hji7⟩ : ∃ j_ : Int, (mx 0 (rd l0 1)) = j_ := ⟨_, rfl⟩
          replace H : (if (ji7) > 255 then (some ((-1), 2)) else (some (ji7, 2))) = some (r1, r2) := by first | (rw [hji7] at H; exact H) | (simp only [hji7] at H ⊢; exact H)
          have hji7_ : (if 0 < (rd l0 1) then (rd l0 1) else 0) = ji7 := hji7
          by_cases c8 : (ji7) > 255
          · rw [if_pos c8] at H
            have c8b0 : decide (255 < (ji7)) = true := decide_eq_true c8
            clear c8
            simp only [Option.some.injEq, Prod.mk.injEq] at H
            obtain ⟨rfl, rfl⟩ := H
            have p119 : 0 ≤ (1 : Int) := (by omega)
            have q119 : 1 < (l0.length : Int) := of_decide_eq_true (by first | (with_reducible assumption) | assumption)
            obtain ⟨ad119, e119, hx119_0⟩ := Kd.at_int HR0.out 1 p119 q119
            cases e119
            (try simp only [show (1 : Int).toNat = 1 from rfl, Nat.reduceMul, Nat.reduceEqDiff, Go.Addr.add, ↓reduceIte] at hx119_0)
            have qi119 : (1 < l0.length) = True := eq_true (by omega)
            (try rw [show ((1 : Int)).toNat = 1 from rfl] at hx119_0)
            replace hx119_0 := (HB.out.cell (World.block_lt_of_cell? w _ hx119_0)).trans hx119_0
            replace p119 := eq_true p119
            replace q119 := eq_true q119
            go_wp2
            go_ret2
            exact ⟨by first | rfl | (simp [errW_none, errW_some] <;> rfl) | (simp only [← hji7]; first | rfl | (simp [errW_none, errW_some] <;> rfl)) | (simp [*, errW_none, errW_some] <;> rfl), by repeat (first | (with_reducible first | exact HB.out | apply below_alloc | apply pw_below_drewN | apply below_drew1) | exact HB.out)⟩
          · rw [if_neg c8] at H
            have c8b0 : decide (255 < (ji7)) = false := decide_eq_false c8
            clear c8
            simp only [Option.some.injEq, Prod.mk.injEq] at H
            obtain ⟨rfl, rfl⟩ := H
            have p119 : 0 ≤ (1 : Int) := (by omega)
            have q119 : 1 < (l0.length : Int) := of_decide_eq_true (by first | (with_reducible assumption) | assumption)
            obtain ⟨ad119, e119, hx119_0⟩ := Kd.at_int HR0.out 1 p119 q119
            cases e119
            (try simp only [show (1 : Int).toNat = 1 from rfl, Nat.reduceMul, Nat.reduceEqDiff, Go.Addr.add, ↓reduceIte] at hx119_0)
            have qi119 : (1 < l0.length) = True := eq_true (by omega)
            (try rw [show ((1 : Int)).toNat = 1 from rfl] at hx119_0)
            replace hx119_0 := (HB.out.cell (World.block_lt_of_cell? w _ hx119_0)).trans hx119_0
            replace p119 := eq_true p119
            replace q119 := eq_true q119
            go_wp2
            go_ret2
            exact ⟨by first | rfl | (simp [errW_none, errW_some] <;> rfl) | (simp only [← hji7]; first | rfl | (simp [errW_none, errW_some] <;> rfl)) | (simp [*, errW_none, errW_some] <;> rfl), by repeat (first | (with_reducible first | exact HB.out | apply below_alloc | apply pw_below_drewN | apply below_drew1) | exact HB.out)⟩
        · rw [if_neg c6] at H
          exact absurd H (by simp)
      · replace c5 := Bool.eq_false_iff.mpr c5
        subst c5
        have H1 : (if (l0.length : Int) ≥ 4 then (if 0 < (l0.length : Int) then (beaconref3_colour.j1 kj1 l0 ((rd l0 0) == 2)) else (none)) else (beaconref3_colour.j1 kj1 l0 false)) = some (r1, r2) := by rw [if_neg (show ¬ (false = true) by decide)] at H; exact H
        clear H
        have H := H1
        clear H1
        have HC9 := Aside0.mk H
        clear H
        go_upto_region 6 with (fail)
        go_cut [32] (fun v32 wc => ∃ (kq : Nat) (x32_8 : Bool), v32 = .bool x32_8 ∧ Aside0 (beaconref3_colour.j1 kq l0 x32_8 = some (r1, r2)) ∧ Aside0 (kq ≤ kj1) ∧ Aside0 (Below w.heap.size w wc))
        case first =>
          have H := HC9.out
          clear HC9
          by_cases c10 : (l0.length : Int) ≥ 4
          · rw [if_pos c10] at H
            have c10b0 : decide (4 ≤ (l0.length : Int)) = true := decide_eq_true c10
            have c10b1 : decide (4 ≤ l0.length) = true := decide_eq_true (by omega)
            clear c10
            (first | rw [c10b0] | (simp only [i64_w, i32_w]; rw [c10b0]) | skip)
            by_cases c11 : 0 < (l0.length : Int)
            · rw [if_pos c11] at H
              have c11b0 : decide (0 < (l0.length : Int)) = true := decide_eq_true c11
              have c11b1 : decide (0 < l0.length) = true := decide_eq_true (by omega)
              clear c11
              have H' := Aside0.mk H
              clear H
              have p120 : 0 ≤ (0 : Int) := (by omega)
              have q120 : 0 < (l0.length : Int) := of_decide_eq_true (by first | (with_reducible assumption) | assumption)
              obtain ⟨ad120, e120, hx120_0⟩ := Kd.at_int HR0.out 0 p120 q120
              cases e120
              have qi120 : (0 < l0.length) = True := eq_true (by omega)
              (try rw [show ((0 : Int)).toNat = 0 from rfl] at hx120_0)
              (try rw [Addr.add_zero'] at hx120_0)
              replace hx120_0 := (HB.out.cell (World.block_lt_of_cell? w _ hx120_0)).trans hx120_0
              replace p120 := eq_true p120
              replace q120 := eq_true q120
              go_wp2
              go_meet
              case rel => exact ⟨_, (((rd l0 0) == 2)), (by first | rfl | (simp; done) | (simp [*]; done)), H', ⟨by have := HJ1.out; first | omega | exact Nat.le_refl _⟩, ⟨by repeat (first | (with_reducible first | exact HB.out | apply below_alloc | apply pw_below_drewN | apply below_drew1) | exact HB.out)⟩⟩
            · rw [if_neg c11] at H
              exact absurd H (by simp)
          · rw [if_neg c10] at H
            have c10b0 : decide (4 ≤ (l0.length : Int)) = false := decide_eq_false c10
            have c10b1 : decide (4 ≤ l0.length) = false := decide_eq_false (by omega)
            clear c10
            (first | rw [c10b0] | (simp only [i64_w, i32_w]; rw [c10b0]) | skip)
            have H' := Aside0.mk H
            clear H
            go_wp2
            go_meet
            case rel => exact ⟨_, (false), (by first | rfl | (simp; done) | (simp [*]; done)), H', ⟨by have := HJ1.out; first | omega | exact Nat.le_refl _⟩, ⟨by repeat (first | (with_reducible first | exact HB.out | apply below_alloc | apply pw_below_drewN | apply below_drew1) | exact HB.out)⟩⟩
        case rest =>
          clear HC9
          try clear c1
          try clear p1
          try clear q1
          try clear hx1
          try clear qi1
          try clear p2
          try clear c3
          try clear c3b0
          try clear c3b1
          try clear c4
          try clear c4b0
          try clear c4b1
          try clear c5
          try clear c6
          try clear c6b0
          try clear c6b1
          try clear c7
          try clear c8
          try clear c8b0
          try clear c10
          try clear c10b0
          try clear c10b1
          try clear c11
          try clear c11b0
          try clear c11b1
          try clear p11
          try clear q11
          try clear hx11
          try clear qi11
          try clear hx118_0
          try clear hx119_0
          try clear hx120_0
          try clear p1
          try clear p118
          try clear p119
          try clear p120
          try clear p2
          try clear q1
          try clear q118
          try clear q119
          try clear q120
          obtain ⟨kq, x32_8, rfl, HA, HJ8, HB⟩ := hcut
          cases kq with
          | zero => exact absurd HA.out (by simp [beaconref3_colour.j1])
          | succ kj8 =>
            have H := HA.out
            clear HA
            simp only [beaconref3_colour.j1] at H
            by_cases c12 : x32_8 = true
            · subst c12
              have H1 : (beaconref3_colour.l0 kj8 l0 0 1) = some (r1, r2) := by rw [if_pos rfl] at H; exact H
              clear H
              have H := H1
              clear H1
              have H' := Aside0.mk H
              clear H
              go_wp2
              go_loopg [5, 6] kj8 (fun kq v5 v6 w' => ∃ (x5_3 : Int) (x6_3 : Int), v5 = .int .i64 x5_3 ∧ v6 = .int .i64 x6_3 ∧ Aside0 (beaconref3_colour.l0 kq l0 x5_3 x6_3 = some (r1, r2)) ∧ Aside0 (kq ≤ kj8) ∧ Aside0 (Below w.heap.size w w'))
              case atStart => exact ⟨(0), (1), (by first | rfl | (simp; done) | (simp [*]; done)), (by first | rfl | (simp; done) | (simp [*]; done)), H', ⟨Nat.le_refl _⟩, ⟨by repeat (first | (with_reducible first | exact HB.out | apply below_alloc | apply pw_below_drewN | apply below_drew1) | exact HB.out)⟩⟩
              case round =>
                clear H'
                try clear c1
                try clear p1
                try clear q1
                try clear hx1
                try clear qi1
                try clear p2
                try clear c3
                try clear c3b0
                try clear c3b1
                try clear c4
                try clear c4b0
                try clear c4b1
                try clear c5
                try clear c6
                try clear c6b0
                try clear c6b1
                try clear c7
                try clear c8
                try clear c8b0
                try clear c10
                try clear c10b0
                try clear c10b1
                try clear c11
                try clear c11b0
                try clear c11b1
                try clear p11
                try clear q11
                try clear hx11
                try clear qi11
                try clear c12
                try clear p12
                try clear q12
                try clear hx12
                try clear qi12
                try clear hx118_0
                try clear hx119_0
                try clear hx120_0
                try clear p1
                try clear p11
                try clear p118
                try clear p119
                try clear p120
                try clear p2
                try clear q1
                try clear q11
                try clear q118
                try clear q119
                try clear q120
                obtain ⟨x5_3, x6_3, rfl, rfl, HA, HK3, HB⟩ := hrel
                cases gk with
                | zero => exact absurd HA.out (by simp [beaconref3_colour.l0])
                | succ k3 =>
                  have H := HA.out
                  clear HA
                  simp only [beaconref3_colour.l0] at H
                  by_cases c13 : x6_3 < 4
                  · rw [if_pos c13] at H
                    have c13b0 : decide (x6_3 < 4) = true := decide_eq_true c13
                    clear c13
                    by_cases c14 : 0 ≤ x6_3
                    · rw [if_pos c14] at H
                      have c14b0 : decide (0 ≤ x6_3) = true := decide_eq_true c14
                      clear c14
                      by_cases c15 : x6_3 < (l0.length : Int)
                      · rw [if_pos c15] at H
                        have c15b0 : decide (x6_3 < (l0.length : Int)) = true := decide_eq_true c15
                        clear c15
                        obtain ⟨ji16, hji16⟩ : ∃ j_ : Int, (mx 0 (rd l0 x6_3)) = j_ := ⟨_, rfl⟩
                        replace H : (if (ji16) > 255 then (some ((-1), 4)) else (beaconref3_colour.l0 k3 l0 (wrap64 ((wrap64 (256 * x5_3)) + (ji16))) (wrap64 (x6_3 + 1)))) = some (r1, r2) := by first | (rw [hji16] at H; exact H) | (simp only [hji16] at H ⊢; exact H)
                        have hji16_ : (if 0 < (rd l0 x6_3) then (rd l0 x6_3) else 0) = ji16 := hji16
                        by_cases c17 : (ji16) > 255
                        · rw [if_pos c17] at H
                          have c17b0 : decide (255 < (ji16)) = true := decide_eq_true c17
                          clear c17
                          simp only [Option.some.injEq, Prod.mk.injEq] at H
                          obtain ⟨rfl, rfl⟩ := H
                          have p121 : 0 ≤ (x6_3 : Int) := of_decide_eq_true (by first | (with_reducible assumption) | assumption)
                          have q121 : x6_3 < (l0.length : Int) := of_decide_eq_true (by first | (with_reducible assumption) | assumption)
                          obtain ⟨ad121, e121, hx121_0⟩ := Kd.at_int HR0.out x6_3 p121 q121
                          cases e121
                          replace hx121_0 := (HB.out.cell (World.block_lt_of_cell? w _ hx121_0)).trans hx121_0
                          replace p121 := eq_true p121
                          replace q121 := eq_true q121
                          go_wp2
                          go_ret2
                          exact ⟨by first | rfl | (simp [errW_none, errW_some] <;> rfl) | (simp only [← hji16]; first | rfl | (simp [errW_none, errW_some] <;> rfl)) | (simp [*, errW_none, errW_some] <;> rfl), by repeat (first | (with_reducible first | exact HB.out | apply below_alloc | apply pw_below_drewN | apply below_drew1) | exact HB.out)⟩
                        · rw [if_neg c17] at H
                          have c17b0 : decide (255 < (ji16)) = false := decide_eq_false c17
                          clear c17
                          have H' := Aside0.mk H
                          clear H
                          have p121 : 0 ≤ (x6_3 : Int) := of_decide_eq_true (by first | (with_reducible assumption) | assumption)
                          have q121 : x6_3 < (l0.length : Int) := of_decide_eq_true (by first | (with_reducible assumption) | assumption)
                          obtain ⟨ad121, e121, hx121_0⟩ := Kd.at_int HR0.out x6_3 p121 q121
                          cases e121
                          replace hx121_0 := (HB.out.cell (World.block_lt_of_cell? w _ hx121_0)).trans hx121_0
                          replace p121 := eq_true p121
                          replace q121 := eq_true q121
                          go_wp2
                          go_roundg k3
                          case measure => have := HJ1.out; have := HJ8.out; have := HK3.out; omega
                          case rel => exact ⟨(wrap64 ((wrap64 (256 * x5_3)) + (ji16))), (wrap64 (x6_3 + 1)), (by first | rfl | (simp; done) | (simp only [← hji16] <;> (first | rfl | simp)) | (simp [*]; done)), (by first | rfl | (simp; done) | (simp [*]; done)), H', ⟨by have := HJ1.out; have := HJ8.out; have := HK3.out; omega⟩, ⟨by repeat (first | (with_reducible first | exact HB.out | apply below_alloc | apply pw_below_drewN | apply below_drew1) | exact HB.out)⟩⟩
                      · rw [if_neg c15] at H
                        exact absurd H (by simp)
                    · rw [if_neg c14] at H
                      exact absurd H (by simp)
                  · rw [if_neg c13] at H
                    have c13b0 : decide (x6_3 < 4) = false := decide_eq_false c13
                    clear c13
                    simp only [Option.some.injEq, Prod.mk.injEq] at H
                    obtain ⟨rfl, rfl⟩ := H
                    go_wp2
                    go_ret2
                    exact ⟨by first | rfl | (simp [errW_none, errW_some] <;> rfl) | (simp [*, errW_none, errW_some] <;> rfl), by repeat (first | (with_reducible first | exact HB.out | apply below_alloc | apply pw_below_drewN | apply below_drew1) | exact HB.out)⟩
            · replace c12 := Bool.eq_false_iff.mpr c12
              subst c12
              have H1 : (some ((-1), 0)) = some (r1, r2) := by rw [if_neg (show ¬ (false = true) by decide)] at H; exact H
              clear H
              have H := H1
              clear H1
              simp only [Option.some.injEq, Prod.mk.injEq] at H
              obtain ⟨rfl, rfl⟩ := H
              go_wp2
              go_ret2
              exact ⟨by first | rfl | (simp [errW_none, errW_some] <;> rfl) | (simp [*, errW_none, errW_some] <;> rfl), by repeat (first | (with_reducible first | exact HB.out | apply below_alloc | apply pw_below_drewN | apply below_drew1) | exact HB.out)⟩

end Go.Proofs.Ytadjhnlbpgknfaa.E
