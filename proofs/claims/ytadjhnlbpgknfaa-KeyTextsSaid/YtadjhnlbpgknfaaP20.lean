-- Laid by a program of this session (wip/tools/xp.py) over the kit's print.
import Derived.Test.YtadjhnlbpgknfaaP0
import Derived.Test.YtadjhnlbpgknfaaP3
import Derived.Test.YtadjhnlbpgknfaaP15
import Derived.Test.YtadjhnlbpgknfaaP16
import Derived.Test.YtadjhnlbpgknfaaP17
import Derived.Test.YtadjhnlbpgknfaaP18
import Derived.Test.YtadjhnlbpgknfaaP19
namespace Go.Proofs.Ytadjhnlbpgknfaa.P
open Go.RowKit Go.Proofs.YtadjhnlbpgknfaaW.PrintWords Go.Proofs.YtadjhnlbpgknfaaW.PrintLast Go.Proofs.YtadjhnlbpgknfaaW.PrintMore
attribute [local go_sem] max2_int min2_int max_two min_two max_three min_three max_four min_four   -- for this text's walks alone
set_option linter.unusedVariables false
set_option linter.unusedSimpArgs false

/-! ### beaconlaw15_KeyTexts: function 10 -/
mutual
def beaconlaw15_KeyTexts.j0 : Nat → List (S130) → ByteArray → Int → Int → ByteArray → List (S130) → Int → List ByteArray → Option (Bool)
  | 0, _, _, _, _, _, _, _, _ => none
  | k + 1, x3, x4, x5, x6, x7, x530000, x530001, x530002 => (beaconlaw15_num.f x5).bind fun t538 => (if t538 = x6 then (if x4.toList = x7.toList then ((beaconref0_EqKeys.f k x3 x530000).bind fun t539 => (beaconlaw15_KeyTexts.j1 k x7 (!t539) x530000 x530001 x530002)) else (beaconlaw15_KeyTexts.j1 k x7 true x530000 x530001 x530002)) else (beaconlaw15_KeyTexts.j1 k x7 true x530000 x530001 x530002))
def beaconlaw15_KeyTexts.j1 : Nat → ByteArray → Bool → List (S130) → Int → List ByteArray → Option (Bool)
  | 0, _, _, _, _, _ => none
  | k + 1, x7, x51, x530000, x530001, x530002 => if x51 = true then (some false) else ((beaconref0_CopyStrings.f k x530002).bind fun t540 => (if x7.size + 1 ≤ 9223372036854775807 then ((some (([x7, x7 ++ (⟨#[120]⟩ : ByteArray)] : List ByteArray) : List ByteArray)).bind fun y543 => (if t540.length + y543.length < 8796093022208 then (beaconlaw15_KeyTexts.l0 k (t540 ++ y543) 0) else (none))) else (none)))
def beaconlaw15_KeyTexts.l0 : Nat → List ByteArray → Int → Option (Bool)
  | 0, _, _ => none
  | k + 1, x8, x9 => if x9 < (x8.length : Int) then (if 0 ≤ x9 then ((key_Take.f k (rdOf ByteArray.empty x8 x9)).bind fun bt551 => ((beaconref15_Take.f k (rdOf ByteArray.empty x8 x9)).bind fun bt556 => ((beaconlaw15_num.f bt551.2).bind fun t560 => (if (bt556.2 != (t560 == 0)) = true then (beaconlaw15_KeyTexts.j3 k x8 x9 bt551.1 bt556.2 true) else (if bt556.2 = true then ((beaconref0_EqKeys.f k bt551.1 bt556.1).bind fun t561 => (beaconlaw15_KeyTexts.j3 k x8 x9 bt551.1 bt556.2 (!t561))) else ((beaconlaw15_num.f bt551.2).bind fun t562 => (if t562 = 6 then ((beaconref0_EqKeys.f k bt551.1 bt556.1).bind fun t563 => (beaconlaw15_KeyTexts.j3 k x8 x9 bt551.1 bt556.2 (!t563))) else (beaconlaw15_KeyTexts.j3 k x8 x9 bt551.1 bt556.2 true)))))))) else (none)) else ((beaconlaw15_wakes.f).bind fun t549 => (some t549))
def beaconlaw15_KeyTexts.j3 : Nat → List ByteArray → Int → List (S130) → Bool → Bool → Option (Bool)
  | 0, _, _, _, _, _ => none
  | k + 1, x8, x9, x10, x13, x101 => if x101 = true then (some false) else (if x13 = true then ((key_Text.f k x10).bind fun bt564 => ((beaconlaw15_num.f bt564.2).bind fun t566 => (if t566 = 0 then (if 0 ≤ x9 then (if x9 < (x8.length : Int) then (if bt564.1.toList = (rdOf ByteArray.empty x8 x9).toList then (beaconlaw15_KeyTexts.l0 k x8 (wrap64 (x9 + 1))) else (some false)) else (none)) else (none)) else (some false)))) else (beaconlaw15_KeyTexts.l0 k x8 (wrap64 (x9 + 1))))
end
def beaconlaw15_KeyTexts.f (k : Nat) (l0_0 : List (S130)) (a0_1 : Int) (l0_2 : List ByteArray) : Option (Bool) := (beaconlaw15_Heavy.f k l0_0 a0_1 l0_2).bind fun t530 => (if t530 = true then (some true) else ((beaconref0_CopyKeys.f k l0_0).bind fun t531 => ((key_Text.f k t531).bind fun bt534 => ((beaconref15_Keys.f k l0_0).bind fun t536 => (if t536 = true then (if (l0_0.length : Int) ≤ 200 then ((beaconref15_Text.f k l0_0).bind fun t537 => (beaconlaw15_KeyTexts.j0 k t531 bt534.1 bt534.2 0 t537 l0_0 a0_1 l0_2)) else (beaconlaw15_KeyTexts.j0 k t531 bt534.1 bt534.2 2 (⟨#[]⟩ : ByteArray) l0_0 a0_1 l0_2)) else (beaconlaw15_KeyTexts.j0 k t531 bt534.1 bt534.2 1 (⟨#[]⟩ : ByteArray) l0_0 a0_1 l0_2))))))
theorem beaconlaw15_KeyTexts.mono_l : ∀ k, (∀ y0 y1 y2 y3 y4 y5 y6 y7, LeO (beaconlaw15_KeyTexts.j0 k y0 y1 y2 y3 y4 y5 y6 y7) (beaconlaw15_KeyTexts.j0 (k + 1) y0 y1 y2 y3 y4 y5 y6 y7)) ∧ (∀ y0 y1 y2 y3 y4, LeO (beaconlaw15_KeyTexts.j1 k y0 y1 y2 y3 y4) (beaconlaw15_KeyTexts.j1 (k + 1) y0 y1 y2 y3 y4)) ∧ (∀ y0 y1, LeO (beaconlaw15_KeyTexts.l0 k y0 y1) (beaconlaw15_KeyTexts.l0 (k + 1) y0 y1)) ∧ (∀ y0 y1 y2 y3 y4, LeO (beaconlaw15_KeyTexts.j3 k y0 y1 y2 y3 y4) (beaconlaw15_KeyTexts.j3 (k + 1) y0 y1 y2 y3 y4))
  | 0 => ⟨fun _ _ _ _ _ _ _ _ r h => by simp [beaconlaw15_KeyTexts.j0] at h, fun _ _ _ _ _ r h => by simp [beaconlaw15_KeyTexts.j1] at h, fun _ _ r h => by simp [beaconlaw15_KeyTexts.l0] at h, fun _ _ _ _ _ r h => by simp [beaconlaw15_KeyTexts.j3] at h⟩
  | k + 1 => by
    obtain ⟨ih0, ih1, ih2, ih3⟩ := beaconlaw15_KeyTexts.mono_l k
    refine ⟨?_, ?_, ?_, ?_⟩
    · intro y0 y1 y2 y3 y4 y5 y6 y7
      unfold beaconlaw15_KeyTexts.j0
      repeat' first
      | (with_reducible exact ih0 _ _ _ _ _ _ _ _)
      | (with_reducible exact ih1 _ _ _ _ _)
      | (with_reducible exact ih2 _ _)
      | (with_reducible exact ih3 _ _ _ _ _)
      | (with_reducible exact beaconlaw15_Heavy.mono _ _ _ _)
      | (with_reducible exact beaconref0_CopyKeys.mono _ _)
      | (with_reducible exact beaconref0_CopyStrings.mono _ _)
      | (with_reducible exact beaconref0_EqKeys.mono _ _ _)
      | (with_reducible exact beaconref15_Keys.mono _ _)
      | (with_reducible exact beaconref15_Take.mono _ _)
      | (with_reducible exact beaconref15_Text.mono _ _)
      | (with_reducible exact key_Take.mono _ _)
      | (with_reducible exact key_Text.mono _ _)
      | (with_reducible exact LeO.refl _)
      | (with_reducible exact LeO.none _)
      | (with_reducible refine LeO.ite ?_ ?_)
      | (with_reducible refine LeO.bind ?_ (fun _ => ?_))
      | exact ih0 _ _ _ _ _ _ _ _
      | exact ih1 _ _ _ _ _
      | exact ih2 _ _
      | exact ih3 _ _ _ _ _
      | exact beaconlaw15_Heavy.mono _ _ _ _
      | exact beaconref0_CopyKeys.mono _ _
      | exact beaconref0_CopyStrings.mono _ _
      | exact beaconref0_EqKeys.mono _ _ _
      | exact beaconref15_Keys.mono _ _
      | exact beaconref15_Take.mono _ _
      | exact beaconref15_Text.mono _ _
      | exact key_Take.mono _ _
      | exact key_Text.mono _ _
      | exact LeO.none _
      | refine LeO.ite ?_ ?_
      | refine LeO.bind ?_ (fun _ => ?_)
    · intro y0 y1 y2 y3 y4
      unfold beaconlaw15_KeyTexts.j1
      repeat' first
      | (with_reducible exact ih0 _ _ _ _ _ _ _ _)
      | (with_reducible exact ih1 _ _ _ _ _)
      | (with_reducible exact ih2 _ _)
      | (with_reducible exact ih3 _ _ _ _ _)
      | (with_reducible exact beaconlaw15_Heavy.mono _ _ _ _)
      | (with_reducible exact beaconref0_CopyKeys.mono _ _)
      | (with_reducible exact beaconref0_CopyStrings.mono _ _)
      | (with_reducible exact beaconref0_EqKeys.mono _ _ _)
      | (with_reducible exact beaconref15_Keys.mono _ _)
      | (with_reducible exact beaconref15_Take.mono _ _)
      | (with_reducible exact beaconref15_Text.mono _ _)
      | (with_reducible exact key_Take.mono _ _)
      | (with_reducible exact key_Text.mono _ _)
      | (with_reducible exact LeO.refl _)
      | (with_reducible exact LeO.none _)
      | (with_reducible refine LeO.ite ?_ ?_)
      | (with_reducible refine LeO.bind ?_ (fun _ => ?_))
      | exact ih0 _ _ _ _ _ _ _ _
      | exact ih1 _ _ _ _ _
      | exact ih2 _ _
      | exact ih3 _ _ _ _ _
      | exact beaconlaw15_Heavy.mono _ _ _ _
      | exact beaconref0_CopyKeys.mono _ _
      | exact beaconref0_CopyStrings.mono _ _
      | exact beaconref0_EqKeys.mono _ _ _
      | exact beaconref15_Keys.mono _ _
      | exact beaconref15_Take.mono _ _
      | exact beaconref15_Text.mono _ _
      | exact key_Take.mono _ _
      | exact key_Text.mono _ _
      | exact LeO.none _
      | refine LeO.ite ?_ ?_
      | refine LeO.bind ?_ (fun _ => ?_)
    · intro y0 y1
      unfold beaconlaw15_KeyTexts.l0
      repeat' first
      | (with_reducible exact ih0 _ _ _ _ _ _ _ _)
      | (with_reducible exact ih1 _ _ _ _ _)
      | (with_reducible exact ih2 _ _)
      | (with_reducible exact ih3 _ _ _ _ _)
      | (with_reducible exact beaconlaw15_Heavy.mono _ _ _ _)
      | (with_reducible exact beaconref0_CopyKeys.mono _ _)
      | (with_reducible exact beaconref0_CopyStrings.mono _ _)
      | (with_reducible exact beaconref0_EqKeys.mono _ _ _)
      | (with_reducible exact beaconref15_Keys.mono _ _)
      | (with_reducible exact beaconref15_Take.mono _ _)
      | (with_reducible exact beaconref15_Text.mono _ _)
      | (with_reducible exact key_Take.mono _ _)
      | (with_reducible exact key_Text.mono _ _)
      | (with_reducible exact LeO.refl _)
      | (with_reducible exact LeO.none _)
      | (with_reducible refine LeO.ite ?_ ?_)
      | (with_reducible refine LeO.bind ?_ (fun _ => ?_))
      | exact ih0 _ _ _ _ _ _ _ _
      | exact ih1 _ _ _ _ _
      | exact ih2 _ _
      | exact ih3 _ _ _ _ _
      | exact beaconlaw15_Heavy.mono _ _ _ _
      | exact beaconref0_CopyKeys.mono _ _
      | exact beaconref0_CopyStrings.mono _ _
      | exact beaconref0_EqKeys.mono _ _ _
      | exact beaconref15_Keys.mono _ _
      | exact beaconref15_Take.mono _ _
      | exact beaconref15_Text.mono _ _
      | exact key_Take.mono _ _
      | exact key_Text.mono _ _
      | exact LeO.none _
      | refine LeO.ite ?_ ?_
      | refine LeO.bind ?_ (fun _ => ?_)
    · intro y0 y1 y2 y3 y4
      unfold beaconlaw15_KeyTexts.j3
      repeat' first
      | (with_reducible exact ih0 _ _ _ _ _ _ _ _)
      | (with_reducible exact ih1 _ _ _ _ _)
      | (with_reducible exact ih2 _ _)
      | (with_reducible exact ih3 _ _ _ _ _)
      | (with_reducible exact beaconlaw15_Heavy.mono _ _ _ _)
      | (with_reducible exact beaconref0_CopyKeys.mono _ _)
      | (with_reducible exact beaconref0_CopyStrings.mono _ _)
      | (with_reducible exact beaconref0_EqKeys.mono _ _ _)
      | (with_reducible exact beaconref15_Keys.mono _ _)
      | (with_reducible exact beaconref15_Take.mono _ _)
      | (with_reducible exact beaconref15_Text.mono _ _)
      | (with_reducible exact key_Take.mono _ _)
      | (with_reducible exact key_Text.mono _ _)
      | (with_reducible exact LeO.refl _)
      | (with_reducible exact LeO.none _)
      | (with_reducible refine LeO.ite ?_ ?_)
      | (with_reducible refine LeO.bind ?_ (fun _ => ?_))
      | exact ih0 _ _ _ _ _ _ _ _
      | exact ih1 _ _ _ _ _
      | exact ih2 _ _
      | exact ih3 _ _ _ _ _
      | exact beaconlaw15_Heavy.mono _ _ _ _
      | exact beaconref0_CopyKeys.mono _ _
      | exact beaconref0_CopyStrings.mono _ _
      | exact beaconref0_EqKeys.mono _ _ _
      | exact beaconref15_Keys.mono _ _
      | exact beaconref15_Take.mono _ _
      | exact beaconref15_Text.mono _ _
      | exact key_Take.mono _ _
      | exact key_Text.mono _ _
      | exact LeO.none _
      | refine LeO.ite ?_ ?_
      | refine LeO.bind ?_ (fun _ => ?_)
theorem beaconlaw15_KeyTexts.mono : ∀ a0 a1 a2 k, LeO (beaconlaw15_KeyTexts.f k a0 a1 a2) (beaconlaw15_KeyTexts.f (k + 1) a0 a1 a2) := by
  intro a0 a1 a2 k
  obtain ⟨ih0, ih1, ih2, ih3⟩ := beaconlaw15_KeyTexts.mono_l k
  unfold beaconlaw15_KeyTexts.f
  repeat' first
      | (with_reducible exact ih0 _ _ _ _ _ _ _ _)
      | (with_reducible exact ih1 _ _ _ _ _)
      | (with_reducible exact ih2 _ _)
      | (with_reducible exact ih3 _ _ _ _ _)
      | (with_reducible exact beaconlaw15_Heavy.mono _ _ _ _)
      | (with_reducible exact beaconref0_CopyKeys.mono _ _)
      | (with_reducible exact beaconref0_CopyStrings.mono _ _)
      | (with_reducible exact beaconref0_EqKeys.mono _ _ _)
      | (with_reducible exact beaconref15_Keys.mono _ _)
      | (with_reducible exact beaconref15_Take.mono _ _)
      | (with_reducible exact beaconref15_Text.mono _ _)
      | (with_reducible exact key_Take.mono _ _)
      | (with_reducible exact key_Text.mono _ _)
      | (with_reducible exact LeO.refl _)
      | (with_reducible exact LeO.none _)
      | (with_reducible refine LeO.ite ?_ ?_)
      | (with_reducible refine LeO.bind ?_ (fun _ => ?_))
      | exact ih0 _ _ _ _ _ _ _ _
      | exact ih1 _ _ _ _ _
      | exact ih2 _ _
      | exact ih3 _ _ _ _ _
      | exact beaconlaw15_Heavy.mono _ _ _ _
      | exact beaconref0_CopyKeys.mono _ _
      | exact beaconref0_CopyStrings.mono _ _
      | exact beaconref0_EqKeys.mono _ _ _
      | exact beaconref15_Keys.mono _ _
      | exact beaconref15_Take.mono _ _
      | exact beaconref15_Text.mono _ _
      | exact key_Take.mono _ _
      | exact key_Text.mono _ _
      | exact LeO.none _
      | refine LeO.ite ?_ ?_
      | refine LeO.bind ?_ (fun _ => ?_)
set_option maxHeartbeats 8000000 in
set_option maxRecDepth 100000 in
theorem beaconlaw15_KeyTexts.calls (k : Nat) (A0_0 : Option Addr) (c0_0 : Nat) (l0_0 : List (S130)) (a0_1 : Int) (A0_2 : Option Addr) (c0_2 : Nat) (l0_2 : List ByteArray) (r : Bool) (w : World) (hr0_0 : Kd.C k130 w A0_0 l0_0.length l0_0) (hc0_0 : l0_0.length ≤ c0_0) (hr0_2 : Kd.C Kd.string w A0_2 l0_2.length l0_2) (hc0_2 : l0_2.length ≤ c0_2) (h : beaconlaw15_KeyTexts.f k l0_0 a0_1 l0_2 = some r) :
    Calls Try.prog 10 #[.agg #[.slice A0_0 l0_0.length c0_0, .int .i64 a0_1, .slice A0_2 l0_2.length c0_2]] w fun e w' => e = .returned (.bool r) ∧ Below w.heap.size w w' := by
  have hu94 := Try.underlying94
  have HR0_0 := Aside0.mk hr0_0
  have HC0_0 := Aside0.mk hc0_0
  clear hr0_0 hc0_0
  have HR0_2 := Aside0.mk hr0_2
  have HC0_2 := Aside0.mk hc0_2
  clear hr0_2 hc0_2
  have HB := Aside0.mk (Below.refl w.heap.size w)
  have H : ((beaconlaw15_Heavy.f k l0_0 a0_1 l0_2).bind fun t530 => (if t530 = true then (some true) else ((beaconref0_CopyKeys.f k l0_0).bind fun t531 => ((key_Text.f k t531).bind fun bt534 => ((beaconref15_Keys.f k l0_0).bind fun t536 => (if t536 = true then (if (l0_0.length : Int) ≤ 200 then ((beaconref15_Text.f k l0_0).bind fun t537 => (beaconlaw15_KeyTexts.j0 k t531 bt534.1 bt534.2 0 t537 l0_0 a0_1 l0_2)) else (beaconlaw15_KeyTexts.j0 k t531 bt534.1 bt534.2 2 (⟨#[]⟩ : ByteArray) l0_0 a0_1 l0_2)) else (beaconlaw15_KeyTexts.j0 k t531 bt534.1 bt534.2 1 (⟨#[]⟩ : ByteArray) l0_0 a0_1 l0_2))))))) = some r := h
  clear h
  replace H := Option.bind_eq_some_iff.mp H
  obtain ⟨t530, A20, H⟩ := H
  replace H : (if t530 = true then (some true) else ((beaconref0_CopyKeys.f k l0_0).bind fun t531 => ((key_Text.f k t531).bind fun bt534 => ((beaconref15_Keys.f k l0_0).bind fun t536 => (if t536 = true then (if (l0_0.length : Int) ≤ 200 then ((beaconref15_Text.f k l0_0).bind fun t537 => (beaconlaw15_KeyTexts.j0 k t531 bt534.1 bt534.2 0 t537 l0_0 a0_1 l0_2)) else (beaconlaw15_KeyTexts.j0 k t531 bt534.1 bt534.2 2 (⟨#[]⟩ : ByteArray) l0_0 a0_1 l0_2)) else (beaconlaw15_KeyTexts.j0 k t531 bt534.1 bt534.2 1 (⟨#[]⟩ : ByteArray) l0_0 a0_1 l0_2)))))) = some r := H
  have A2 := Aside0.mk A20
  clear A20
  by_cases c3 : t530 = true
  · subst c3
    have H1 : (some true) = some r := by rw [if_pos rfl] at H; exact H
    clear H
    have H := H1
    clear H1
    obtain rfl := Option.some.inj H
    go_enter Try.func10, Try.ntmps10
    go_wp2_with (first | ((with_reducible refine gate_dst (N := 1) rfl ?_); refine box_event ?hg (N := 1) ?hd (cs := #[.slice A0_0 l0_0.length c0_0, .int .i64 a0_1, .slice A0_2 l0_2.length c0_2]) (t := 94) ?hr ?_; (case hd => rfl); (case hg => rfl); (case hr => first | (go_simp; done) | (go_simp; rfl)); intro gb529 hg w4 hbox hb; have n0_ := Aside0.mk (below_step (by repeat (first | (with_reducible first | exact HB.out | apply below_alloc | apply pw_below_drewN | apply below_drew1) | exact HB.out)) hb); have n1_ := Aside0.mk (hbox); have n2_ := Aside0.mk ((by rw [hg]; exact (below_size (by repeat (first | (with_reducible first | exact HB.out | apply below_alloc | apply pw_below_drewN | apply below_drew1) | exact HB.out))) : w.heap.size ≤ gb529)); have n3_ := Aside0.mk ((by rw [hg]; exact (below_size (by repeat (first | (with_reducible first | exact HB.out | apply below_alloc | apply pw_below_drewN | apply below_drew1) | exact HB.out))) : w.heap.size ≤ gb529)); clear HB; have HB := n0_; have BK529 := n1_; have GW529 := n2_; have GE529 := n3_; clear n0_ n1_ n2_ n3_; clear hb hbox hg; have hcz5_0 : w4.cell? ⟨gb529, 0, none⟩ = some (.slice A0_0 l0_0.length c0_0) := (blk_cell BK529.out 0).trans rfl; have hcz5_1 : w4.cell? ⟨gb529, 1, none⟩ = some (.int .i64 a0_1) := (blk_cell BK529.out 1).trans rfl; have hcz5_2 : w4.cell? ⟨gb529, 2, none⟩ = some (.slice A0_2 l0_2.length c0_2) := (blk_cell BK529.out 2).trans rfl; have hfz5_0 := blk_frozen BK529.out 0; have hfz5_1 := blk_frozen BK529.out 1; have hfz5_2 := blk_frozen BK529.out 2) | ((with_reducible refine gate_callee (f := 53) rfl ?_); refine goesL_ (some 17) rfl rfl Try.func53 (by kernel_rfl) rfl #[.agg #[.slice A0_0 l0_0.length c0_0, .int .i64 a0_1, .slice A0_2 l0_2.length c0_2]] rfl (by (try simp only [List.map_toArray, List.map_cons, List.map_nil]); first | done | rfl | (simp only [List.length_drop, List.length_take]; rfl)) ?_; (with_reducible refine (beaconlaw15_Heavy.calls k _ _ l0_0 a0_1 _ _ l0_2 true _ ?side1 ?side2 ?side3 ?side4 A2.out).mono ?_); (case side1 => repeat (first | exact (Kd.C_below HR0_0.out HB.out) | (with_reducible refine Kd.C_alloc ?_ _) | (with_reducible refine Kd.C_drewN ?_ _) | (with_reducible refine Kd.C_drew ?_))); (case side2 => exact HC0_0.out); (case side3 => repeat (first | exact (Kd.C_below HR0_2.out HB.out) | (with_reducible refine Kd.C_alloc ?_ _) | (with_reducible refine Kd.C_drewN ?_ _) | (with_reducible refine Kd.C_drew ?_))); (case side4 => exact HC0_2.out); rintro e w6 ⟨rfl, hb⟩; refine ⟨_, rfl, ?_⟩; have n0_ := Aside0.mk (blk_below (g := gb529) (o := .cells #[.slice A0_0 l0_0.length c0_0, .int .i64 a0_1, .slice A0_2 l0_2.length c0_2] 94 (0, 0)) (by (with_reducible repeat (first | refine blk_drewN ?_ _ | refine blk_drew ?_ | refine blk_alloc ?_ _)); exact BK529.out) hb); have n1_ := Aside0.mk (below_step (by repeat (first | (with_reducible first | exact HB.out | apply below_alloc | apply pw_below_drewN | apply below_drew1 | refine below_set ?_ GE529.out) | exact HB.out)) hb); clear BK529; clear HB; have BK529 := n0_; have HB := n1_; clear n0_ n1_; (try clear hb); (try clear hb2); (try clear hk); (try clear hi)))
    go_ret
    exact ⟨by first | rfl | (simp [errW_none, errW_some] <;> rfl) | (simp [*, errW_none, errW_some] <;> rfl), by repeat (first | (with_reducible first | exact HB.out | apply below_alloc | apply pw_below_drewN | apply below_drew1 | refine below_set ?_ GE529.out) | exact HB.out)⟩
  · replace c3 := Bool.eq_false_iff.mpr c3
    subst c3
    have H1 : ((beaconref0_CopyKeys.f k l0_0).bind fun t531 => ((key_Text.f k t531).bind fun bt534 => ((beaconref15_Keys.f k l0_0).bind fun t536 => (if t536 = true then (if (l0_0.length : Int) ≤ 200 then ((beaconref15_Text.f k l0_0).bind fun t537 => (beaconlaw15_KeyTexts.j0 k t531 bt534.1 bt534.2 0 t537 l0_0 a0_1 l0_2)) else (beaconlaw15_KeyTexts.j0 k t531 bt534.1 bt534.2 2 (⟨#[]⟩ : ByteArray) l0_0 a0_1 l0_2)) else (beaconlaw15_KeyTexts.j0 k t531 bt534.1 bt534.2 1 (⟨#[]⟩ : ByteArray) l0_0 a0_1 l0_2))))) = some r := by rw [if_neg (show ¬ (false = true) by decide)] at H; exact H
    clear H
    have H := H1
    clear H1
    replace H := Option.bind_eq_some_iff.mp H
    obtain ⟨t531, A70, H⟩ := H
    replace H : ((key_Text.f k t531).bind fun bt534 => ((beaconref15_Keys.f k l0_0).bind fun t536 => (if t536 = true then (if (l0_0.length : Int) ≤ 200 then ((beaconref15_Text.f k l0_0).bind fun t537 => (beaconlaw15_KeyTexts.j0 k t531 bt534.1 bt534.2 0 t537 l0_0 a0_1 l0_2)) else (beaconlaw15_KeyTexts.j0 k t531 bt534.1 bt534.2 2 (⟨#[]⟩ : ByteArray) l0_0 a0_1 l0_2)) else (beaconlaw15_KeyTexts.j0 k t531 bt534.1 bt534.2 1 (⟨#[]⟩ : ByteArray) l0_0 a0_1 l0_2)))) = some r := H
    have A7 := Aside0.mk A70
    clear A70
    replace H := Option.bind_eq_some_iff.mp H
    obtain ⟨⟨t534, t535⟩, A80, H⟩ := H
    replace H : ((beaconref15_Keys.f k l0_0).bind fun t536 => (if t536 = true then (if (l0_0.length : Int) ≤ 200 then ((beaconref15_Text.f k l0_0).bind fun t537 => (beaconlaw15_KeyTexts.j0 k t531 t534 t535 0 t537 l0_0 a0_1 l0_2)) else (beaconlaw15_KeyTexts.j0 k t531 t534 t535 2 (⟨#[]⟩ : ByteArray) l0_0 a0_1 l0_2)) else (beaconlaw15_KeyTexts.j0 k t531 t534 t535 1 (⟨#[]⟩ : ByteArray) l0_0 a0_1 l0_2))) = some r := H
    have A8 := Aside0.mk A80
    clear A80
    replace H := Option.bind_eq_some_iff.mp H
    obtain ⟨t536, A90, H⟩ := H
    replace H : (if t536 = true then (if (l0_0.length : Int) ≤ 200 then ((beaconref15_Text.f k l0_0).bind fun t537 => (beaconlaw15_KeyTexts.j0 k t531 t534 t535 0 t537 l0_0 a0_1 l0_2)) else (beaconlaw15_KeyTexts.j0 k t531 t534 t535 2 (⟨#[]⟩ : ByteArray) l0_0 a0_1 l0_2)) else (beaconlaw15_KeyTexts.j0 k t531 t534 t535 1 (⟨#[]⟩ : ByteArray) l0_0 a0_1 l0_2)) = some r := H
    have A9 := Aside0.mk A90
    clear A90
    have HC10 := Aside0.mk H
    clear H
    go_enter Try.func10, Try.ntmps10
    go_upto_if 28 with (first | ((with_reducible refine gate_dst (N := 1) rfl ?_); refine box_event ?hg (N := 1) ?hd (cs := #[.slice A0_0 l0_0.length c0_0, .int .i64 a0_1, .slice A0_2 l0_2.length c0_2]) (t := 94) ?hr ?_; (case hd => rfl); (case hg => rfl); (case hr => first | (go_simp; done) | (go_simp; rfl)); intro gb529 hg w11 hbox hb; have n0_ := Aside0.mk (below_step (by repeat (first | (with_reducible first | exact HB.out | apply below_alloc | apply pw_below_drewN | apply below_drew1) | exact HB.out)) hb); have n1_ := Aside0.mk (hbox); have n2_ := Aside0.mk ((by rw [hg]; exact (below_size (by repeat (first | (with_reducible first | exact HB.out | apply below_alloc | apply pw_below_drewN | apply below_drew1) | exact HB.out))) : w.heap.size ≤ gb529)); have n3_ := Aside0.mk ((by rw [hg]; exact (below_size (by repeat (first | (with_reducible first | exact HB.out | apply below_alloc | apply pw_below_drewN | apply below_drew1) | exact HB.out))) : w.heap.size ≤ gb529)); clear HB; have HB := n0_; have BK529 := n1_; have GW529 := n2_; have GE529 := n3_; clear n0_ n1_ n2_ n3_; clear hb hbox hg; have hcz12_0 : w11.cell? ⟨gb529, 0, none⟩ = some (.slice A0_0 l0_0.length c0_0) := (blk_cell BK529.out 0).trans rfl; have hcz12_1 : w11.cell? ⟨gb529, 1, none⟩ = some (.int .i64 a0_1) := (blk_cell BK529.out 1).trans rfl; have hcz12_2 : w11.cell? ⟨gb529, 2, none⟩ = some (.slice A0_2 l0_2.length c0_2) := (blk_cell BK529.out 2).trans rfl; have hfz12_0 := blk_frozen BK529.out 0; have hfz12_1 := blk_frozen BK529.out 1; have hfz12_2 := blk_frozen BK529.out 2) | ((with_reducible refine gate_callee (f := 53) rfl ?_); refine goesL_ (some 17) rfl rfl Try.func53 (by kernel_rfl) rfl #[.agg #[.slice A0_0 l0_0.length c0_0, .int .i64 a0_1, .slice A0_2 l0_2.length c0_2]] rfl (by (try simp only [List.map_toArray, List.map_cons, List.map_nil]); first | done | rfl | (simp only [List.length_drop, List.length_take]; rfl)) ?_; (with_reducible refine (beaconlaw15_Heavy.calls k _ _ l0_0 a0_1 _ _ l0_2 false _ ?side1 ?side2 ?side3 ?side4 A2.out).mono ?_); (case side1 => repeat (first | exact (Kd.C_below HR0_0.out HB.out) | (with_reducible refine Kd.C_alloc ?_ _) | (with_reducible refine Kd.C_drewN ?_ _) | (with_reducible refine Kd.C_drew ?_))); (case side2 => exact HC0_0.out); (case side3 => repeat (first | exact (Kd.C_below HR0_2.out HB.out) | (with_reducible refine Kd.C_alloc ?_ _) | (with_reducible refine Kd.C_drewN ?_ _) | (with_reducible refine Kd.C_drew ?_))); (case side4 => exact HC0_2.out); rintro e w13 ⟨rfl, hb⟩; refine ⟨_, rfl, ?_⟩; have n0_ := Aside0.mk (blk_below (g := gb529) (o := .cells #[.slice A0_0 l0_0.length c0_0, .int .i64 a0_1, .slice A0_2 l0_2.length c0_2] 94 (0, 0)) (by (with_reducible repeat (first | refine blk_drewN ?_ _ | refine blk_drew ?_ | refine blk_alloc ?_ _)); exact BK529.out) hb); have n1_ := Aside0.mk (below_step (by repeat (first | (with_reducible first | exact HB.out | apply below_alloc | apply pw_below_drewN | apply below_drew1 | refine below_set ?_ GE529.out) | exact HB.out)) hb); clear BK529; clear HB; have BK529 := n0_; have HB := n1_; clear n0_ n1_; (try clear hb); (try clear hb2); (try clear hk); (try clear hi); have hcz14_0 : w13.cell? ⟨gb529, 0, none⟩ = some (.slice A0_0 l0_0.length c0_0) := (blk_cell BK529.out 0).trans rfl; have hcz14_1 : w13.cell? ⟨gb529, 1, none⟩ = some (.int .i64 a0_1) := (blk_cell BK529.out 1).trans rfl; have hcz14_2 : w13.cell? ⟨gb529, 2, none⟩ = some (.slice A0_2 l0_2.length c0_2) := (blk_cell BK529.out 2).trans rfl; have hfz14_0 := blk_frozen BK529.out 0; have hfz14_1 := blk_frozen BK529.out 1; have hfz14_2 := blk_frozen BK529.out 2) | ((with_reducible refine gate_callee (f := 54) rfl ?_); refine goesL_ (some 20) rfl rfl Try.func54 (by kernel_rfl) rfl #[.slice A0_0 l0_0.length c0_0] rfl (by (try simp only [List.map_toArray, List.map_cons, List.map_nil]); first | done | rfl | (simp only [List.length_drop, List.length_take]; rfl)) ?_; (with_reducible refine (beaconref0_CopyKeys.calls k _ _ l0_0 t531 _ ?side1 ?side2 A7.out).mono ?_); (case side1 => repeat (first | exact (Kd.C_below HR0_0.out HB.out) | (with_reducible refine Kd.C_alloc ?_ _) | (with_reducible refine Kd.C_drewN ?_ _) | (with_reducible refine Kd.C_drew ?_))); (case side2 => exact HC0_0.out); rintro e w15 ⟨v532, rfl, ho0, hb⟩; refine ⟨_, rfl, ?_⟩; have n0_ := Aside0.mk (Kd.R_lower ho0 (below_size (by repeat (first | (with_reducible first | exact HB.out | apply below_alloc | apply pw_below_drewN | apply below_drew1 | refine below_set ?_ GE529.out) | exact HB.out)))); have n1_ := Aside0.mk (blk_below (g := gb529) (o := .cells #[.slice A0_0 l0_0.length c0_0, .int .i64 a0_1, .slice A0_2 l0_2.length c0_2] 94 (0, 0)) (by (with_reducible repeat (first | refine blk_drewN ?_ _ | refine blk_drew ?_ | refine blk_alloc ?_ _)); exact BK529.out) hb); have n2_ := Aside0.mk (below_step (by repeat (first | (with_reducible first | exact HB.out | apply below_alloc | apply pw_below_drewN | apply below_drew1 | refine below_set ?_ GE529.out) | exact HB.out)) hb); clear BK529; clear HB; have HO533 := n0_; have BK529 := n1_; have HB := n2_; clear n0_ n1_ n2_; (try clear hb); (try clear hb2); (try clear hk); (try clear hi); (try clear ho0); obtain ⟨Ao16, co16, eo16⟩ := Kd.R_slice HO533.out; subst eo16) | ((with_reducible refine gate_callee (f := 55) rfl ?_); refine goesL_ (some 23) rfl rfl Try.func55 (by kernel_rfl) rfl #[.slice Ao16 t531.length co16] rfl (by (try simp only [List.map_toArray, List.map_cons, List.map_nil]); first | done | rfl | (simp only [List.length_drop, List.length_take]; rfl)) ?_; (with_reducible refine (key_Text.calls k _ _ t531 t534 t535 _ ?side1 ?side2 A8.out).mono ?_); (case side1 => repeat (first | exact (Kd.R_reads' HO533.out).2.2 | (with_reducible refine Kd.C_alloc ?_ _) | (with_reducible refine Kd.C_drewN ?_ _) | (with_reducible refine Kd.C_drew ?_))); (case side2 => exact (Kd.R_reads' HO533.out).2.1); rintro e w17 ⟨rfl, hb⟩; refine ⟨_, rfl, ?_⟩; have n0_ := Aside0.mk (Kd.R_below (by (with_reducible repeat (first | apply Kd.R_alloc | apply Kd.R_drewN | apply Kd.R_drew)); exact HO533.out) hb); have n1_ := Aside0.mk (blk_below (g := gb529) (o := .cells #[.slice A0_0 l0_0.length c0_0, .int .i64 a0_1, .slice A0_2 l0_2.length c0_2] 94 (0, 0)) (by (with_reducible repeat (first | refine blk_drewN ?_ _ | refine blk_drew ?_ | refine blk_alloc ?_ _)); exact BK529.out) hb); have n2_ := Aside0.mk (below_step (by repeat (first | (with_reducible first | exact HB.out | apply below_alloc | apply pw_below_drewN | apply below_drew1 | refine below_set ?_ GE529.out) | exact HB.out)) hb); clear HO533; clear BK529; clear HB; have HO533 := n0_; have BK529 := n1_; have HB := n2_; clear n0_ n1_ n2_; (try clear hb); (try clear hb2); (try clear hk); (try clear hi); have hcz18_0 : w17.cell? ⟨gb529, 0, none⟩ = some (.slice A0_0 l0_0.length c0_0) := (blk_cell BK529.out 0).trans rfl; have hcz18_1 : w17.cell? ⟨gb529, 1, none⟩ = some (.int .i64 a0_1) := (blk_cell BK529.out 1).trans rfl; have hcz18_2 : w17.cell? ⟨gb529, 2, none⟩ = some (.slice A0_2 l0_2.length c0_2) := (blk_cell BK529.out 2).trans rfl; have hfz18_0 := blk_frozen BK529.out 0; have hfz18_1 := blk_frozen BK529.out 1; have hfz18_2 := blk_frozen BK529.out 2) | ((with_reducible refine gate_callee (f := 56) rfl ?_); refine goesL_ (some 28) rfl rfl Try.func56 (by kernel_rfl) rfl #[.slice A0_0 l0_0.length c0_0] rfl (by (try simp only [List.map_toArray, List.map_cons, List.map_nil]); first | done | rfl | (simp only [List.length_drop, List.length_take]; rfl)) ?_; (with_reducible refine (beaconref15_Keys.calls k _ _ l0_0 t536 _ ?side1 ?side2 A9.out).mono ?_); (case side1 => repeat (first | exact (Kd.C_below HR0_0.out HB.out) | (with_reducible refine Kd.C_alloc ?_ _) | (with_reducible refine Kd.C_drewN ?_ _) | (with_reducible refine Kd.C_drew ?_))); (case side2 => exact HC0_0.out); rintro e w19 ⟨rfl, hb⟩; refine ⟨_, rfl, ?_⟩; have n0_ := Aside0.mk (Kd.R_below (by (with_reducible repeat (first | apply Kd.R_alloc | apply Kd.R_drewN | apply Kd.R_drew)); exact HO533.out) hb); have n1_ := Aside0.mk (blk_below (g := gb529) (o := .cells #[.slice A0_0 l0_0.length c0_0, .int .i64 a0_1, .slice A0_2 l0_2.length c0_2] 94 (0, 0)) (by (with_reducible repeat (first | refine blk_drewN ?_ _ | refine blk_drew ?_ | refine blk_alloc ?_ _)); exact BK529.out) hb); have n2_ := Aside0.mk (below_step (by repeat (first | (with_reducible first | exact HB.out | apply below_alloc | apply pw_below_drewN | apply below_drew1 | refine below_set ?_ GE529.out) | exact HB.out)) hb); clear HO533; clear BK529; clear HB; have HO533 := n0_; have BK529 := n1_; have HB := n2_; clear n0_ n1_ n2_; (try clear hb); (try clear hb2); (try clear hk); (try clear hi)))
    (try simp only [Act.put, List.setIfInBounds_toArray, List.set_cons_zero, List.set_cons_succ])
    go_cut [6, 7] (fun v6 v7 wc => ∃ (kq : Nat) (x6_9 : Int) (x7_9 : ByteArray), v6 = .int .i64 x6_9 ∧ v7 = .string x7_9 ∧ Aside0 (beaconlaw15_KeyTexts.j0 kq t531 t534 t535 x6_9 x7_9 l0_0 a0_1 l0_2 = some r) ∧ Aside0 (kq ≤ k) ∧ Aside0 (Kd.R k130 130 wc w.heap.size (fun _ => True) (.slice Ao16 t531.length co16) t531) ∧ Aside0 (wc.heap[gb529]? = some (.cells #[(.slice A0_0 l0_0.length c0_0), .int .i64 a0_1, (.slice A0_2 l0_2.length c0_2)] 94 (0, 0))) ∧ Aside0 (Below w.heap.size w wc))
    case first =>
      have H := HC10.out
      clear HC10
      by_cases c20 : t536 = true
      · subst c20
        have H1 : (if (l0_0.length : Int) ≤ 200 then ((beaconref15_Text.f k l0_0).bind fun t537 => (beaconlaw15_KeyTexts.j0 k t531 t534 t535 0 t537 l0_0 a0_1 l0_2)) else (beaconlaw15_KeyTexts.j0 k t531 t534 t535 2 (⟨#[]⟩ : ByteArray) l0_0 a0_1 l0_2)) = some r := by rw [if_pos rfl] at H; exact H
        clear H
        have H := H1
        clear H1
        by_cases c21 : (l0_0.length : Int) ≤ 200
        · rw [if_pos c21] at H
          have c21b0 : decide ((l0_0.length : Int) ≤ 200) = true := decide_eq_true c21
          have c21b1 : decide (l0_0.length ≤ 200) = true := decide_eq_true (by omega)
          clear c21
          (first | rw [c21b0] | (simp only [i64_w, i32_w]; rw [c21b0]) | skip)
          replace H := Option.bind_eq_some_iff.mp H
          obtain ⟨t537, A220, H⟩ := H
          replace H : (beaconlaw15_KeyTexts.j0 k t531 t534 t535 0 t537 l0_0 a0_1 l0_2) = some r := H
          have A22 := Aside0.mk A220
          clear A220
          have H' := Aside0.mk H
          clear H
          have hcz23_0 : w19.cell? ⟨gb529, 0, none⟩ = some (.slice A0_0 l0_0.length c0_0) := (blk_cell BK529.out 0).trans rfl
          have hcz23_1 : w19.cell? ⟨gb529, 1, none⟩ = some (.int .i64 a0_1) := (blk_cell BK529.out 1).trans rfl
          have hcz23_2 : w19.cell? ⟨gb529, 2, none⟩ = some (.slice A0_2 l0_2.length c0_2) := (blk_cell BK529.out 2).trans rfl
          have hfz23_0 := blk_frozen BK529.out 0
          have hfz23_1 := blk_frozen BK529.out 1
          have hfz23_2 := blk_frozen BK529.out 2
          go_wp2_with (first | ((with_reducible refine gate_callee (f := 57) rfl ?_); refine goesL_ (some 35) rfl rfl Try.func57 (by kernel_rfl) rfl #[.slice A0_0 l0_0.length c0_0] rfl (by (try simp only [List.map_toArray, List.map_cons, List.map_nil]); first | done | rfl | (simp only [List.length_drop, List.length_take]; rfl)) ?_; (with_reducible refine (beaconref15_Text.calls k _ _ l0_0 t537 _ ?side1 ?side2 A22.out).mono ?_); (case side1 => repeat (first | exact (Kd.C_below HR0_0.out HB.out) | (with_reducible refine Kd.C_alloc ?_ _) | (with_reducible refine Kd.C_drewN ?_ _) | (with_reducible refine Kd.C_drew ?_))); (case side2 => exact HC0_0.out); rintro e w24 ⟨rfl, hb⟩; refine ⟨_, rfl, ?_⟩; have n0_ := Aside0.mk (Kd.R_below (by (with_reducible repeat (first | apply Kd.R_alloc | apply Kd.R_drewN | apply Kd.R_drew)); exact HO533.out) hb); have n1_ := Aside0.mk (blk_below (g := gb529) (o := .cells #[.slice A0_0 l0_0.length c0_0, .int .i64 a0_1, .slice A0_2 l0_2.length c0_2] 94 (0, 0)) (by (with_reducible repeat (first | refine blk_drewN ?_ _ | refine blk_drew ?_ | refine blk_alloc ?_ _)); exact BK529.out) hb); have n2_ := Aside0.mk (below_step (by repeat (first | (with_reducible first | exact HB.out | apply below_alloc | apply pw_below_drewN | apply below_drew1 | refine below_set ?_ GE529.out) | exact HB.out)) hb); clear HO533; clear BK529; clear HB; have HO533 := n0_; have BK529 := n1_; have HB := n2_; clear n0_ n1_ n2_; (try clear hb); (try clear hb2); (try clear hk); (try clear hi)))
          go_meet
          case rel => exact ⟨_, (0), (t537), (by first | rfl | (simp; done) | (simp [*]; done)), (by first | rfl | (simp; done) | (simp [*]; done)), H', ⟨by first | omega | exact Nat.le_refl _⟩, ⟨by (with_reducible repeat (first | apply Kd.R_alloc | apply Kd.R_drewN | apply Kd.R_drew)); exact HO533.out⟩, ⟨by (with_reducible repeat (first | refine blk_drewN ?_ _ | refine blk_drew ?_ | refine blk_alloc ?_ _)); exact BK529.out⟩, ⟨by repeat (first | (with_reducible first | exact HB.out | apply below_alloc | apply pw_below_drewN | apply below_drew1 | refine below_set ?_ GE529.out) | exact HB.out)⟩⟩
        · rw [if_neg c21] at H
          have c21b0 : decide ((l0_0.length : Int) ≤ 200) = false := decide_eq_false c21
          have c21b1 : decide (l0_0.length ≤ 200) = false := decide_eq_false (by omega)
          clear c21
          (first | rw [c21b0] | (simp only [i64_w, i32_w]; rw [c21b0]) | skip)
          have H' := Aside0.mk H
          clear H
          have hcz25_0 : w19.cell? ⟨gb529, 0, none⟩ = some (.slice A0_0 l0_0.length c0_0) := (blk_cell BK529.out 0).trans rfl
          have hcz25_1 : w19.cell? ⟨gb529, 1, none⟩ = some (.int .i64 a0_1) := (blk_cell BK529.out 1).trans rfl
          have hcz25_2 : w19.cell? ⟨gb529, 2, none⟩ = some (.slice A0_2 l0_2.length c0_2) := (blk_cell BK529.out 2).trans rfl
          have hfz25_0 := blk_frozen BK529.out 0
          have hfz25_1 := blk_frozen BK529.out 1
          have hfz25_2 := blk_frozen BK529.out 2
          go_wp2
          go_meet
          case rel => exact ⟨_, (2), ((⟨#[]⟩ : ByteArray)), (by first | rfl | (simp; done) | (simp [*]; done)), (by first | rfl | (simp; done) | (simp [*]; done)), H', ⟨by first | omega | exact Nat.le_refl _⟩, ⟨by (with_reducible repeat (first | apply Kd.R_alloc | apply Kd.R_drewN | apply Kd.R_drew)); exact HO533.out⟩, ⟨by (with_reducible repeat (first | refine blk_drewN ?_ _ | refine blk_drew ?_ | refine blk_alloc ?_ _)); exact BK529.out⟩, ⟨by repeat (first | (with_reducible first | exact HB.out | apply below_alloc | apply pw_below_drewN | apply below_drew1 | refine below_set ?_ GE529.out) | exact HB.out)⟩⟩
      · replace c20 := Bool.eq_false_iff.mpr c20
        subst c20
        have H1 : (beaconlaw15_KeyTexts.j0 k t531 t534 t535 1 (⟨#[]⟩ : ByteArray) l0_0 a0_1 l0_2) = some r := by rw [if_neg (show ¬ (false = true) by decide)] at H; exact H
        clear H
        have H := H1
        clear H1
        have H' := Aside0.mk H
        clear H
        go_wp2
        go_meet
        case rel => exact ⟨_, (1), ((⟨#[]⟩ : ByteArray)), (by first | rfl | (simp; done) | (simp [*]; done)), (by first | rfl | (simp; done) | (simp [*]; done)), H', ⟨by first | omega | exact Nat.le_refl _⟩, ⟨by (with_reducible repeat (first | apply Kd.R_alloc | apply Kd.R_drewN | apply Kd.R_drew)); exact HO533.out⟩, ⟨by (with_reducible repeat (first | refine blk_drewN ?_ _ | refine blk_drew ?_ | refine blk_alloc ?_ _)); exact BK529.out⟩, ⟨by repeat (first | (with_reducible first | exact HB.out | apply below_alloc | apply pw_below_drewN | apply below_drew1 | refine below_set ?_ GE529.out) | exact HB.out)⟩⟩
    case rest =>
      clear HC10
      try clear c1
      try clear c2
      try clear p2
      try clear c3
      try clear c5
      try clear c10
      try clear c20
      try clear c21
      try clear c21b0
      try clear c21b1
      try clear hcz12_0
      try clear hcz12_1
      try clear hcz12_2
      try clear hcz14_0
      try clear hcz14_1
      try clear hcz14_2
      try clear hcz18_0
      try clear hcz18_1
      try clear hcz18_2
      try clear hcz23_0
      try clear hcz23_1
      try clear hcz23_2
      try clear hcz25_0
      try clear hcz25_1
      try clear hcz25_2
      try clear hcz5_0
      try clear hcz5_1
      try clear hcz5_2
      try clear hfz12_0
      try clear hfz12_1
      try clear hfz12_2
      try clear hfz14_0
      try clear hfz14_1
      try clear hfz14_2
      try clear hfz18_0
      try clear hfz18_1
      try clear hfz18_2
      try clear hfz23_0
      try clear hfz23_1
      try clear hfz23_2
      try clear hfz25_0
      try clear hfz25_1
      try clear hfz25_2
      try clear hfz5_0
      try clear hfz5_1
      try clear hfz5_2
      obtain ⟨kq, x6_9, x7_9, rfl, rfl, HA, HJ9, HO_3, BK529, HB⟩ := hcut
      cases kq with
      | zero => exact absurd HA.out (by simp [beaconlaw15_KeyTexts.j0])
      | succ kj9 =>
        have H := HA.out
        clear HA
        simp only [beaconlaw15_KeyTexts.j0] at H
        have HC26 := Aside0.mk H
        clear H
        go_upto_region 10 with (fail)
        go_cut [51] (fun v51 wc => ∃ (kq : Nat) (x51_25 : Bool), v51 = .bool x51_25 ∧ Aside0 (beaconlaw15_KeyTexts.j1 kq x7_9 x51_25 l0_0 a0_1 l0_2 = some r) ∧ Aside0 (kq ≤ kj9) ∧ Aside0 (wc.heap[gb529]? = some (.cells #[(.slice A0_0 l0_0.length c0_0), .int .i64 a0_1, (.slice A0_2 l0_2.length c0_2)] 94 (0, 0))) ∧ Aside0 (Below w.heap.size w wc))
        case first =>
          have H := HC26.out
          clear HC26
          replace H := Option.bind_eq_some_iff.mp H
          obtain ⟨t538, A270, H⟩ := H
          replace H : (if t538 = x6_9 then (if t534.toList = x7_9.toList then ((beaconref0_EqKeys.f kj9 t531 l0_0).bind fun t539 => (beaconlaw15_KeyTexts.j1 kj9 x7_9 (!t539) l0_0 a0_1 l0_2)) else (beaconlaw15_KeyTexts.j1 kj9 x7_9 true l0_0 a0_1 l0_2)) else (beaconlaw15_KeyTexts.j1 kj9 x7_9 true l0_0 a0_1 l0_2)) = some r := H
          have A27 := Aside0.mk A270
          clear A270
          by_cases c28 : t538 = x6_9
          · rw [if_pos c28] at H
            have c28b0 : (t538 == x6_9) = true := beq_iff_eq.mpr c28
            have c28b1 : (t538 != x6_9) = false := bne_eq_false_iff_eq.mpr c28
            clear c28
            (first | rw [c28b0] | (simp only [i64_w, i32_w]; rw [c28b0]) | skip)
            by_cases c29 : t534.toList = x7_9.toList
            · rw [if_pos c29] at H
              have c29b0 : (t534.toList == x7_9.toList) = true := beq_iff_eq.mpr c29
              have c29b1 : (t534.toList != x7_9.toList) = false := bne_eq_false_iff_eq.mpr c29
              clear c29
              replace H := Option.bind_eq_some_iff.mp H
              obtain ⟨t539, A300, H⟩ := H
              replace H : (beaconlaw15_KeyTexts.j1 kj9 x7_9 (!t539) l0_0 a0_1 l0_2) = some r := H
              have A30 := Aside0.mk A300
              clear A300
              have H' := Aside0.mk H
              clear H
              go_wp2_with (first | ((with_reducible refine gate_callee (f := 58) rfl ?_); refine goesL_ (some 37) rfl rfl Try.func58 (by kernel_rfl) rfl #[.int .i64 t535] rfl (by (try simp only [List.map_toArray, List.map_cons, List.map_nil]); first | done | rfl | (simp only [List.length_drop, List.length_take]; rfl)) ?_; (with_reducible refine (beaconlaw15_num.calls t535 t538 _ A27.out).mono ?_); rintro e w' ⟨rfl, ⟨nd, rfl⟩⟩; refine ⟨_, rfl, ?_⟩; have hcz31_0 : wc.cell? ⟨gb529, 0, none⟩ = some (.slice A0_0 l0_0.length c0_0) := (blk_cell BK529.out 0).trans rfl; have hcz31_1 : wc.cell? ⟨gb529, 1, none⟩ = some (.int .i64 a0_1) := (blk_cell BK529.out 1).trans rfl; have hcz31_2 : wc.cell? ⟨gb529, 2, none⟩ = some (.slice A0_2 l0_2.length c0_2) := (blk_cell BK529.out 2).trans rfl; have hfz31_0 := blk_frozen BK529.out 0; have hfz31_1 := blk_frozen BK529.out 1; have hfz31_2 := blk_frozen BK529.out 2) | (go_at_call 59; (with_reducible refine (beaconref0_EqKeys.calls kj9 _ _ t531 _ _ l0_0 t539 _ ?side1 ?side2 ?side3 ?side4 A30.out).mono ?_); (case side1 => repeat (first | exact (Kd.R_reads' HO_3.out).2.2 | (with_reducible refine Kd.C_alloc ?_ _) | (with_reducible refine Kd.C_drewN ?_ _) | (with_reducible refine Kd.C_drew ?_))); (case side2 => exact (Kd.R_reads' HO_3.out).2.1); (case side3 => repeat (first | exact (Kd.C_below HR0_0.out (by repeat (first | (with_reducible first | exact HB.out | apply below_alloc | apply pw_below_drewN | apply below_drew1 | refine below_set ?_ GE529.out) | exact HB.out))) | (with_reducible refine Kd.C_alloc ?_ _) | (with_reducible refine Kd.C_drewN ?_ _) | (with_reducible refine Kd.C_drew ?_))); (case side4 => exact HC0_0.out); rintro e w' ⟨rfl, ⟨nd, rfl⟩⟩))
              go_meet
              case rel => exact ⟨_, (!t539), (by first | rfl | (simp; done) | (simp [*]; done)), H', ⟨by have := HJ9.out; first | omega | exact Nat.le_refl _⟩, ⟨by (with_reducible repeat (first | refine blk_drewN ?_ _ | refine blk_drew ?_ | refine blk_alloc ?_ _)); exact BK529.out⟩, ⟨by repeat (first | (with_reducible first | exact HB.out | apply below_alloc | apply pw_below_drewN | apply below_drew1 | refine below_set ?_ GE529.out) | exact HB.out)⟩⟩
            · rw [if_neg c29] at H
              have c29b0 : (t534.toList == x7_9.toList) = false := beq_eq_false_iff_ne.mpr c29
              have c29b1 : (t534.toList != x7_9.toList) = true := bne_iff_ne.mpr c29
              have H' := Aside0.mk H
              clear H
              go_wp2_with (first | ((with_reducible refine gate_callee (f := 58) rfl ?_); refine goesL_ (some 37) rfl rfl Try.func58 (by kernel_rfl) rfl #[.int .i64 t535] rfl (by (try simp only [List.map_toArray, List.map_cons, List.map_nil]); first | done | rfl | (simp only [List.length_drop, List.length_take]; rfl)) ?_; (with_reducible refine (beaconlaw15_num.calls t535 t538 _ A27.out).mono ?_); rintro e w' ⟨rfl, ⟨nd, rfl⟩⟩; refine ⟨_, rfl, ?_⟩))
              go_meet
              case rel => exact ⟨_, (true), (by first | rfl | (simp; done) | (simp [*]; done)), H', ⟨by have := HJ9.out; first | omega | exact Nat.le_refl _⟩, ⟨by (with_reducible repeat (first | refine blk_drewN ?_ _ | refine blk_drew ?_ | refine blk_alloc ?_ _)); exact BK529.out⟩, ⟨by repeat (first | (with_reducible first | exact HB.out | apply below_alloc | apply pw_below_drewN | apply below_drew1 | refine below_set ?_ GE529.out) | exact HB.out)⟩⟩
          · rw [if_neg c28] at H
            have c28b0 : (t538 == x6_9) = false := beq_eq_false_iff_ne.mpr c28
            have c28b1 : (t538 != x6_9) = true := bne_iff_ne.mpr c28
            (first | rw [c28b0] | (simp only [i64_w, i32_w]; rw [c28b0]) | skip)
            have H' := Aside0.mk H
            clear H
            go_wp2_with (first | ((with_reducible refine gate_callee (f := 58) rfl ?_); refine goesL_ (some 37) rfl rfl Try.func58 (by kernel_rfl) rfl #[.int .i64 t535] rfl (by (try simp only [List.map_toArray, List.map_cons, List.map_nil]); first | done | rfl | (simp only [List.length_drop, List.length_take]; rfl)) ?_; (with_reducible refine (beaconlaw15_num.calls t535 t538 _ A27.out).mono ?_); rintro e w' ⟨rfl, ⟨nd, rfl⟩⟩; refine ⟨_, rfl, ?_⟩))
            go_meet
            case rel => exact ⟨_, (true), (by first | rfl | (simp; done) | (simp [*]; done)), H', ⟨by have := HJ9.out; first | omega | exact Nat.le_refl _⟩, ⟨by (with_reducible repeat (first | refine blk_drewN ?_ _ | refine blk_drew ?_ | refine blk_alloc ?_ _)); exact BK529.out⟩, ⟨by repeat (first | (with_reducible first | exact HB.out | apply below_alloc | apply pw_below_drewN | apply below_drew1 | refine below_set ?_ GE529.out) | exact HB.out)⟩⟩
        case rest =>
          clear HC26
          try clear c1
          try clear c2
          try clear p2
          try clear c3
          try clear c5
          try clear c10
          try clear c20
          try clear c21
          try clear c21b0
          try clear c21b1
          try clear c28
          try clear c28b0
          try clear c28b1
          try clear c29
          try clear c29b0
          try clear c29b1
          try clear hcz12_0
          try clear hcz12_1
          try clear hcz12_2
          try clear hcz14_0
          try clear hcz14_1
          try clear hcz14_2
          try clear hcz18_0
          try clear hcz18_1
          try clear hcz18_2
          try clear hcz23_0
          try clear hcz23_1
          try clear hcz23_2
          try clear hcz25_0
          try clear hcz25_1
          try clear hcz25_2
          try clear hcz31_0
          try clear hcz31_1
          try clear hcz31_2
          try clear hcz5_0
          try clear hcz5_1
          try clear hcz5_2
          try clear hfz12_0
          try clear hfz12_1
          try clear hfz12_2
          try clear hfz14_0
          try clear hfz14_1
          try clear hfz14_2
          try clear hfz18_0
          try clear hfz18_1
          try clear hfz18_2
          try clear hfz23_0
          try clear hfz23_1
          try clear hfz23_2
          try clear hfz25_0
          try clear hfz25_1
          try clear hfz25_2
          try clear hfz31_0
          try clear hfz31_1
          try clear hfz31_2
          try clear hfz5_0
          try clear hfz5_1
          try clear hfz5_2
          try clear p2
          obtain ⟨kq, x51_25, rfl, HA, HJ25, BK529, HB⟩ := hcut
          cases kq with
          | zero => exact absurd HA.out (by simp [beaconlaw15_KeyTexts.j1])
          | succ kj25 =>
            have H := HA.out
            clear HA
            simp only [beaconlaw15_KeyTexts.j1] at H
            by_cases c32 : x51_25 = true
            · subst c32
              have H1 : (some false) = some r := by rw [if_pos rfl] at H; exact H
              clear H
              have H := H1
              clear H1
              obtain rfl := Option.some.inj H
              go_wp2
              go_ret
              exact ⟨by first | rfl | (simp [errW_none, errW_some] <;> rfl) | (simp [*, errW_none, errW_some] <;> rfl), by repeat (first | (with_reducible first | exact HB.out | apply below_alloc | apply pw_below_drewN | apply below_drew1 | refine below_set ?_ GE529.out) | exact HB.out)⟩
            · replace c32 := Bool.eq_false_iff.mpr c32
              subst c32
              have H1 : ((beaconref0_CopyStrings.f kj25 l0_2).bind fun t540 => (if x7_9.size + 1 ≤ 9223372036854775807 then ((some (([x7_9, x7_9 ++ (⟨#[120]⟩ : ByteArray)] : List ByteArray) : List ByteArray)).bind fun y543 => (if t540.length + y543.length < 8796093022208 then (beaconlaw15_KeyTexts.l0 kj25 (t540 ++ y543) 0) else (none))) else (none))) = some r := by rw [if_neg (show ¬ (false = true) by decide)] at H; exact H
              clear H
              have H := H1
              clear H1
              replace H := Option.bind_eq_some_iff.mp H
              obtain ⟨t540, A330, H⟩ := H
              replace H : (if x7_9.size + 1 ≤ 9223372036854775807 then ((some (([x7_9, x7_9 ++ (⟨#[120]⟩ : ByteArray)] : List ByteArray) : List ByteArray)).bind fun y543 => (if t540.length + y543.length < 8796093022208 then (beaconlaw15_KeyTexts.l0 kj25 (t540 ++ y543) 0) else (none))) else (none)) = some r := H
              have A33 := Aside0.mk A330
              clear A330
              by_cases c34 : x7_9.size + 1 ≤ 9223372036854775807
              · rw [if_pos c34] at H
                have c34b0 := eq_true c34
                have c34b1 : decide (x7_9.size + 1 ≤ 9223372036854775807) = true := decide_eq_true c34
                try have c34b2 : (9223372036854775807 < x7_9.size + 1) = False := eq_false (Nat.not_lt.2 c34)
                obtain ⟨y543, hy543⟩ : ∃ y_ : List ByteArray, y_ = (([x7_9, x7_9 ++ (⟨#[120]⟩ : ByteArray)] : List ByteArray)) := ⟨_, rfl⟩
                replace H : (if t540.length + y543.length < 8796093022208 then (beaconlaw15_KeyTexts.l0 kj25 (t540 ++ y543) 0) else (none)) = some r := by first | (rw [hy543]; with_reducible exact H) | (have H2_ := (Option.bind_some _ _).symm.trans H; rw [hy543]; with_reducible exact H2_) | (have H2_ := (Option.bind_some _ _).symm.trans H; with_reducible exact H2_) | with_reducible exact H | (rw [hy543]; exact H) | exact H
                have Ny543 := Aside0.mk hy543
                clear hy543
                by_cases c35 : t540.length + y543.length < 8796093022208
                · rw [if_pos c35] at H
                  have LMc35 := Aside0.mk c35
                  clear c35
                  obtain ⟨y546, hy546⟩ : ∃ y_ : List ByteArray, y_ = (t540 ++ y543) := ⟨_, rfl⟩
                  replace H : (beaconlaw15_KeyTexts.l0 kj25 y546 0) = some r := by first | (rw [hy546]; with_reducible exact H) | (have H2_ := (Option.bind_some _ _).symm.trans H; rw [hy546]; with_reducible exact H2_) | (have H2_ := (Option.bind_some _ _).symm.trans H; with_reducible exact H2_) | with_reducible exact H | (rw [hy546]; exact H) | exact H
                  have Ny546 := Aside0.mk hy546
                  clear hy546
                  have H' := Aside0.mk H
                  clear H
                  have hcz36_0 : wc.cell? ⟨gb529, 0, none⟩ = some (.slice A0_0 l0_0.length c0_0) := (blk_cell BK529.out 0).trans rfl
                  have hcz36_1 : wc.cell? ⟨gb529, 1, none⟩ = some (.int .i64 a0_1) := (blk_cell BK529.out 1).trans rfl
                  have hcz36_2 : wc.cell? ⟨gb529, 2, none⟩ = some (.slice A0_2 l0_2.length c0_2) := (blk_cell BK529.out 2).trans rfl
                  have hfz36_0 := blk_frozen BK529.out 0
                  have hfz36_1 := blk_frozen BK529.out 1
                  have hfz36_2 := blk_frozen BK529.out 2
                  go_wp2_with (first | ((with_reducible refine gate_callee (f := 12) rfl ?_); refine goesL_ (some 54) rfl rfl Try.func12 (by kernel_rfl) rfl #[.slice A0_2 l0_2.length c0_2] rfl (by (try simp only [List.map_toArray, List.map_cons, List.map_nil]); first | done | rfl | (simp only [List.length_drop, List.length_take]; rfl)) ?_; (with_reducible refine (beaconref0_CopyStrings.calls kj25 _ _ l0_2 t540 _ ?side1 ?side2 A33.out).mono ?_); (case side1 => repeat (first | exact (Kd.C_below HR0_2.out HB.out) | (with_reducible refine Kd.C_alloc ?_ _) | (with_reducible refine Kd.C_drewN ?_ _) | (with_reducible refine Kd.C_drew ?_))); (case side2 => exact HC0_2.out); rintro e w37 ⟨v541, rfl, ho0, hb⟩; refine ⟨_, rfl, ?_⟩; have n0_ := Aside0.mk (Kd.R_lower ho0 (below_size (by repeat (first | (with_reducible first | exact HB.out | apply below_alloc | apply pw_below_drewN | apply below_drew1 | refine below_set ?_ GE529.out) | exact HB.out)))); have n1_ := Aside0.mk (blk_below (g := gb529) (o := .cells #[.slice A0_0 l0_0.length c0_0, .int .i64 a0_1, .slice A0_2 l0_2.length c0_2] 94 (0, 0)) (by (with_reducible repeat (first | refine blk_drewN ?_ _ | refine blk_drew ?_ | refine blk_alloc ?_ _)); exact BK529.out) hb); have n2_ := Aside0.mk (below_step (by repeat (first | (with_reducible first | exact HB.out | apply below_alloc | apply pw_below_drewN | apply below_drew1 | refine below_set ?_ GE529.out) | exact HB.out)) hb); clear BK529; clear HB; have HO542 := n0_; have BK529 := n1_; have HB := n2_; clear n0_ n1_ n2_; (try clear hb); (try clear hb2); (try clear hk); (try clear hi); (try clear ho0)) | ((with_reducible refine gate_dst (N := 58) rfl ?_); refine Kd.R_lit Kd.string _ 9 ?hg (N := 58) ?hd (xs := ([x7_9, x7_9 ++ (⟨#[120]⟩ : ByteArray)] : List ByteArray)) (inner := [.string x7_9, .string (x7_9 ++ (⟨#[120]⟩ : ByteArray))]) (ok := fun _ => True) (okp := fun _ => True) ?hr ?hp (fun _ hk => hk) trivial (Below.refl _ _) (Nat.le_refl _) (by simp) ?_; (case hd => rfl); (case hg => rfl); (case hr => first | (go_simp; done) | (go_simp; rfl)); (case hp => exact (Reps.one (show Kd.M Kd.string _ _ _ x7_9 [.string x7_9] from rfl) (Reps.one (show Kd.M Kd.string _ _ _ (x7_9 ++ (⟨#[120]⟩ : ByteArray)) [.string (x7_9 ++ (⟨#[120]⟩ : ByteArray))] from rfl) (Reps.none _ _)))); intro v544 w38 ho39 hb hg_ hnew_; clear hg_ hnew_; (first | rw [← Ny543.out] at ho39 | (simp only [Int.reduceToNat] at ho39; rw [← Ny543.out] at ho39)); have n0_ := Aside0.mk (Kd.R_elder' (by (with_reducible repeat (first | apply Kd.R_alloc | apply Kd.R_drewN | apply Kd.R_drew)); exact HO542.out) (Kd.R_base ho39) hb); have n1_ := Aside0.mk (Kd.R_lower (Kd.R_new' ho39 (Kd.R_lt (by (with_reducible repeat (first | apply Kd.R_alloc | apply Kd.R_drewN | apply Kd.R_drew)); exact HO542.out))) (below_size (by repeat (first | (with_reducible first | exact HB.out | apply below_alloc | apply pw_below_drewN | apply below_drew1 | refine below_set ?_ GE529.out) | exact HB.out)))); have n2_ := Aside0.mk (blk_below (g := gb529) (o := .cells #[.slice A0_0 l0_0.length c0_0, .int .i64 a0_1, .slice A0_2 l0_2.length c0_2] 94 (0, 0)) (by (with_reducible repeat (first | refine blk_drewN ?_ _ | refine blk_drew ?_ | refine blk_alloc ?_ _)); exact BK529.out) hb); have n3_ := Aside0.mk (below_step (by repeat (first | (with_reducible first | exact HB.out | apply below_alloc | apply pw_below_drewN | apply below_drew1 | refine below_set ?_ GE529.out) | exact HB.out)) hb); clear HO542; clear BK529; clear HB; have HO542 := n0_; have HO545 := n1_; have BK529 := n2_; have HB := n3_; clear n0_ n1_ n2_ n3_; clear hb ho39; obtain ⟨Ao41, co41, eo41⟩ := Kd.R_slice HO545.out; subst eo41) | ((with_reducible refine gate_builtin (b := .append) (xs := #[.tmp 54, .tmp 58]) rfl ?_); at_builtin; refine Kd.R_append_rows Kd.string (w0 := w) w.heap.size rfl (.tmp 54) (.tmp 58) 27 9 (.string ⟨#[]⟩) 16 rfl Try.underlying27 info9 rfl (by decide) (by omega) v541 t540 y543 _ _ _ (fun k_ => some k_ ≠ (.slice Ao41 y543.length co41 : Value).ownBlock) (fun _ => False) rfl rfl ?aO ?aR (fun _ _ h => h) (fun _ h => h.elim) ?aF ?aB ?aS ?aL ?_; (case aR => repeat (first | exact (Kd.R_reads' HO545.out).2.2 | (with_reducible refine Kd.C_alloc ?_ _) | (with_reducible refine Kd.C_drewN ?_ _) | (with_reducible refine Kd.C_drew ?_))); (case aB => exact (by repeat (first | (with_reducible first | exact HB.out | apply below_alloc | apply pw_below_drewN | apply below_drew1 | refine below_set ?_ GE529.out) | exact HB.out))); (case aF => exact (fun k_ hk => Kd.fresh' (Kd.R_lt (by (with_reducible repeat (first | apply Kd.R_alloc | apply Kd.R_drewN | apply Kd.R_drew)); exact HO545.out)) k_ hk)); (case aO => exact (by (with_reducible repeat (first | apply Kd.R_alloc | apply Kd.R_drewN | apply Kd.R_drew)); exact Kd.R_mono HO542.out (fun _ hk => hk.2))); (case aS => exact (below_size (by repeat (first | (with_reducible first | exact HB.out | apply below_alloc | apply pw_below_drewN | apply below_drew1 | refine below_set ?_ GE529.out) | exact HB.out)))); (case aL => have := LMc35.out; omega); intro v547 w40 ho hb hg hat; rw [← Ny546.out] at ho; have n0_ := Aside0.mk (blk_grown (g := gb529) (o := .cells #[.slice A0_0 l0_0.length c0_0, .int .i64 a0_1, .slice A0_2 l0_2.length c0_2] 94 (0, 0)) (by (with_reducible repeat (first | refine blk_drewN ?_ _ | refine blk_drew ?_ | refine blk_alloc ?_ _)); exact BK529.out) hg (Kd.R_ne HO542.out BK529.out (by decide))); have n1_ := Aside0.mk (Kd.R_after (ok := (fun _ => True)) (by (with_reducible repeat (first | apply Kd.R_alloc | apply Kd.R_drewN | apply Kd.R_drew)); exact HO545.out) hg hat); have n2_ := Aside0.mk (hb); have n3_ := Aside0.mk (ho); clear BK529; clear HO545; clear HB; clear HO542; have BK529 := n0_; have HO545 := n1_; have HB := n2_; have HO548 := n3_; clear n0_ n1_ n2_ n3_; clear ho hb hg hat))
                  go_loopg [9] kj25 (fun kq v9 w' => ∃ (x9_3 : Int), v9 = .int .i64 x9_3 ∧ Aside0 (beaconlaw15_KeyTexts.l0 kq y546 x9_3 = some r) ∧ Aside0 (kq ≤ kj25) ∧ Aside0 (Kd.R Kd.string 9 w' w.heap.size (fun _ => True) v547 y546) ∧ Aside0 (w'.heap[gb529]? = some (.cells #[(.slice A0_0 l0_0.length c0_0), .int .i64 a0_1, (.slice A0_2 l0_2.length c0_2)] 94 (0, 0))) ∧ Aside0 (Below w.heap.size w w'))
                  case atStart => exact ⟨(0), (by first | rfl | (simp; done) | (simp [*]; done)), H', ⟨Nat.le_refl _⟩, ⟨by (with_reducible repeat (first | apply Kd.R_alloc | apply Kd.R_drewN | apply Kd.R_drew)); exact Kd.R_mono HO548.out (fun _ hk => trivial)⟩, ⟨by (with_reducible repeat (first | refine blk_drewN ?_ _ | refine blk_drew ?_ | refine blk_alloc ?_ _)); exact BK529.out⟩, ⟨by repeat (first | (with_reducible first | exact HB.out | apply below_alloc | apply pw_below_drewN | apply below_drew1 | refine below_set ?_ GE529.out) | exact HB.out)⟩⟩
                  case round =>
                    clear H'
                    try clear c1
                    try clear c2
                    try clear p2
                    try clear c3
                    try clear c5
                    try clear c10
                    try clear c12
                    try clear c20
                    try clear c21
                    try clear c21b0
                    try clear c21b1
                    try clear c28
                    try clear c28b0
                    try clear c28b1
                    try clear c29
                    try clear c29b0
                    try clear c29b1
                    try clear c32
                    try clear c34
                    try clear c34b0
                    try clear c34b1
                    try clear c34b2
                    try clear c35
                    try clear hcz12_0
                    try clear hcz12_1
                    try clear hcz12_2
                    try clear hcz14_0
                    try clear hcz14_1
                    try clear hcz14_2
                    try clear hcz18_0
                    try clear hcz18_1
                    try clear hcz18_2
                    try clear hcz23_0
                    try clear hcz23_1
                    try clear hcz23_2
                    try clear hcz25_0
                    try clear hcz25_1
                    try clear hcz25_2
                    try clear hcz31_0
                    try clear hcz31_1
                    try clear hcz31_2
                    try clear hcz36_0
                    try clear hcz36_1
                    try clear hcz36_2
                    try clear hcz5_0
                    try clear hcz5_1
                    try clear hcz5_2
                    try clear hfz12_0
                    try clear hfz12_1
                    try clear hfz12_2
                    try clear hfz14_0
                    try clear hfz14_1
                    try clear hfz14_2
                    try clear hfz18_0
                    try clear hfz18_1
                    try clear hfz18_2
                    try clear hfz23_0
                    try clear hfz23_1
                    try clear hfz23_2
                    try clear hfz25_0
                    try clear hfz25_1
                    try clear hfz25_2
                    try clear hfz31_0
                    try clear hfz31_1
                    try clear hfz31_2
                    try clear hfz36_0
                    try clear hfz36_1
                    try clear hfz36_2
                    try clear hfz5_0
                    try clear hfz5_1
                    try clear hfz5_2
                    try clear p2
                    obtain ⟨x9_3, rfl, HA, HK3, HO_8, BK529, HB⟩ := hrel
                    cases gk with
                    | zero => exact absurd HA.out (by simp [beaconlaw15_KeyTexts.l0])
                    | succ k3 =>
                      have H := HA.out
                      clear HA
                      simp only [beaconlaw15_KeyTexts.l0] at H
                      by_cases c42 : x9_3 < (y546.length : Int)
                      · rw [if_pos c42] at H
                        have c42b0 : decide (x9_3 < (y546.length : Int)) = true := decide_eq_true c42
                        clear c42
                        by_cases c43 : 0 ≤ x9_3
                        · rw [if_pos c43] at H
                          have c43b0 : decide (0 ≤ x9_3) = true := decide_eq_true c43
                          clear c43
                          replace H := Option.bind_eq_some_iff.mp H
                          obtain ⟨⟨t551, t552⟩, A440, H⟩ := H
                          replace H : ((beaconref15_Take.f k3 (rdOf ByteArray.empty y546 x9_3)).bind fun bt556 => ((beaconlaw15_num.f t552).bind fun t560 => (if (bt556.2 != (t560 == 0)) = true then (beaconlaw15_KeyTexts.j3 k3 y546 x9_3 t551 bt556.2 true) else (if bt556.2 = true then ((beaconref0_EqKeys.f k3 t551 bt556.1).bind fun t561 => (beaconlaw15_KeyTexts.j3 k3 y546 x9_3 t551 bt556.2 (!t561))) else ((beaconlaw15_num.f t552).bind fun t562 => (if t562 = 6 then ((beaconref0_EqKeys.f k3 t551 bt556.1).bind fun t563 => (beaconlaw15_KeyTexts.j3 k3 y546 x9_3 t551 bt556.2 (!t563))) else (beaconlaw15_KeyTexts.j3 k3 y546 x9_3 t551 bt556.2 true))))))) = some r := H
                          have A44 := Aside0.mk A440
                          clear A440
                          replace H := Option.bind_eq_some_iff.mp H
                          obtain ⟨⟨t556, t557⟩, A450, H⟩ := H
                          replace H : ((beaconlaw15_num.f t552).bind fun t560 => (if (t557 != (t560 == 0)) = true then (beaconlaw15_KeyTexts.j3 k3 y546 x9_3 t551 t557 true) else (if t557 = true then ((beaconref0_EqKeys.f k3 t551 t556).bind fun t561 => (beaconlaw15_KeyTexts.j3 k3 y546 x9_3 t551 t557 (!t561))) else ((beaconlaw15_num.f t552).bind fun t562 => (if t562 = 6 then ((beaconref0_EqKeys.f k3 t551 t556).bind fun t563 => (beaconlaw15_KeyTexts.j3 k3 y546 x9_3 t551 t557 (!t563))) else (beaconlaw15_KeyTexts.j3 k3 y546 x9_3 t551 t557 true)))))) = some r := H
                          have A45 := Aside0.mk A450
                          clear A450
                          have HC46 := Aside0.mk H
                          clear H
                          obtain ⟨Ao47, co47, eo47⟩ := Kd.R_slice HO_8.out
                          subst eo47
                          have p550 : 0 ≤ (x9_3 : Int) := of_decide_eq_true (by first | (with_reducible assumption) | assumption)
                          have q550 : x9_3 < (y546.length : Int) := of_decide_eq_true (by first | (with_reducible assumption) | assumption)
                          obtain ⟨ad550, e550, hx550_0⟩ := Kd.at_string (Kd.R_reads' HO_8.out).2.2 x9_3 p550 q550
                          cases e550
                          replace p550 := eq_true p550
                          replace q550 := eq_true q550
                          go_upto_region 18 with (first | ((with_reducible refine gate_callee (f := 60) rfl ?_); refine goesL_ (some 71) rfl rfl Try.func60 (by kernel_rfl) rfl #[.string (rdOf ByteArray.empty y546 x9_3)] rfl (by (try simp only [List.map_toArray, List.map_cons, List.map_nil]); first | done | rfl | (simp only [List.length_drop, List.length_take]; rfl)) ?_; (with_reducible refine (key_Take.calls k3 (rdOf ByteArray.empty y546 x9_3) t551 t552 _ A44.out).mono ?_); rintro e w48 ⟨v553, rfl, ho0, hb⟩; refine ⟨_, rfl, ?_⟩; have n0_ := Aside0.mk (Kd.R_below (by (with_reducible repeat (first | apply Kd.R_alloc | apply Kd.R_drewN | apply Kd.R_drew)); exact HO_8.out) hb); have n1_ := Aside0.mk (Kd.R_lower ho0 (below_size (by repeat (first | (with_reducible first | exact HB.out | apply below_alloc | apply pw_below_drewN | apply below_drew1 | refine below_set ?_ GE529.out) | exact HB.out)))); have n2_ := Aside0.mk (blk_below (g := gb529) (o := .cells #[.slice A0_0 l0_0.length c0_0, .int .i64 a0_1, .slice A0_2 l0_2.length c0_2] 94 (0, 0)) (by (with_reducible repeat (first | refine blk_drewN ?_ _ | refine blk_drew ?_ | refine blk_alloc ?_ _)); exact BK529.out) hb); have n3_ := Aside0.mk (below_step (by repeat (first | (with_reducible first | exact HB.out | apply below_alloc | apply pw_below_drewN | apply below_drew1 | refine below_set ?_ GE529.out) | exact HB.out)) hb); clear HO_8; clear BK529; clear HB; have HO_8 := n0_; have HO554 := n1_; have BK529 := n2_; have HB := n3_; clear n0_ n1_ n2_ n3_; (try clear hb); (try clear hb2); (try clear hk); (try clear hi); (try clear ho0); have p555 : 0 ≤ (x9_3 : Int) := of_decide_eq_true (by first | (with_reducible assumption) | assumption); have q555 : x9_3 < (y546.length : Int) := of_decide_eq_true (by first | (with_reducible assumption) | assumption); obtain ⟨ad555, e555, hx555_0⟩ := Kd.at_string (Kd.R_reads' HO_8.out).2.2 x9_3 p555 q555; obtain rfl : ad550 = ad555 := (by injection e555); replace p555 := eq_true p555; replace q555 := eq_true q555) | ((with_reducible refine gate_callee (f := 61) rfl ?_); refine goesL_ (some 79) rfl rfl Try.func61 (by kernel_rfl) rfl #[.string (rdOf ByteArray.empty y546 x9_3)] rfl (by (try simp only [List.map_toArray, List.map_cons, List.map_nil]); first | done | rfl | (simp only [List.length_drop, List.length_take]; rfl)) ?_; (with_reducible refine (beaconref15_Take.calls k3 (rdOf ByteArray.empty y546 x9_3) t556 t557 _ A45.out).mono ?_); rintro e w49 ⟨v558, rfl, ho0, hb⟩; refine ⟨_, rfl, ?_⟩; have n0_ := Aside0.mk (Kd.R_below (by (with_reducible repeat (first | apply Kd.R_alloc | apply Kd.R_drewN | apply Kd.R_drew)); exact HO_8.out) hb); have n1_ := Aside0.mk (Kd.R_elder' (by (with_reducible repeat (first | apply Kd.R_alloc | apply Kd.R_drewN | apply Kd.R_drew)); exact HO554.out) (Kd.R_base ho0) hb); have n2_ := Aside0.mk (Kd.R_lower (Kd.R_new' ho0 (Kd.R_lt (by (with_reducible repeat (first | apply Kd.R_alloc | apply Kd.R_drewN | apply Kd.R_drew)); exact HO554.out))) (below_size (by repeat (first | (with_reducible first | exact HB.out | apply below_alloc | apply pw_below_drewN | apply below_drew1 | refine below_set ?_ GE529.out) | exact HB.out)))); have n3_ := Aside0.mk (blk_below (g := gb529) (o := .cells #[.slice A0_0 l0_0.length c0_0, .int .i64 a0_1, .slice A0_2 l0_2.length c0_2] 94 (0, 0)) (by (with_reducible repeat (first | refine blk_drewN ?_ _ | refine blk_drew ?_ | refine blk_alloc ?_ _)); exact BK529.out) hb); have n4_ := Aside0.mk (below_step (by repeat (first | (with_reducible first | exact HB.out | apply below_alloc | apply pw_below_drewN | apply below_drew1 | refine below_set ?_ GE529.out) | exact HB.out)) hb); clear HO_8; clear HO554; clear BK529; clear HB; have HO_8 := n0_; have HO554 := n1_; have HO559 := n2_; have BK529 := n3_; have HB := n4_; clear n0_ n1_ n2_ n3_ n4_; (try clear hb); (try clear hb2); (try clear hk); (try clear hi); (try clear ho0)))
                          (try simp only [Act.put, List.setIfInBounds_toArray, List.set_cons_zero, List.set_cons_succ])
                          go_cut [101] (fun v101 wc => ∃ (kq : Nat) (x101_45 : Bool), v101 = .bool x101_45 ∧ Aside0 (beaconlaw15_KeyTexts.j3 kq y546 x9_3 t551 t557 x101_45 = some r) ∧ Aside0 (kq ≤ k3) ∧ Aside0 (Kd.R Kd.string 9 wc w.heap.size (fun _ => True) (.slice (some ad550) y546.length co47) y546) ∧ Aside0 (Kd.R k130 130 wc w.heap.size (fun _ => True) v553 t551) ∧ Aside0 (wc.heap[gb529]? = some (.cells #[(.slice A0_0 l0_0.length c0_0), .int .i64 a0_1, (.slice A0_2 l0_2.length c0_2)] 94 (0, 0))) ∧ Aside0 (Below w.heap.size w wc))
                          case first =>
                            have H := HC46.out
                            clear HC46
                            replace H := Option.bind_eq_some_iff.mp H
                            obtain ⟨t560, A500, H⟩ := H
                            replace H : (if (t557 != (t560 == 0)) = true then (beaconlaw15_KeyTexts.j3 k3 y546 x9_3 t551 t557 true) else (if t557 = true then ((beaconref0_EqKeys.f k3 t551 t556).bind fun t561 => (beaconlaw15_KeyTexts.j3 k3 y546 x9_3 t551 t557 (!t561))) else ((beaconlaw15_num.f t552).bind fun t562 => (if t562 = 6 then ((beaconref0_EqKeys.f k3 t551 t556).bind fun t563 => (beaconlaw15_KeyTexts.j3 k3 y546 x9_3 t551 t557 (!t563))) else (beaconlaw15_KeyTexts.j3 k3 y546 x9_3 t551 t557 true))))) = some r := H
                            have A50 := Aside0.mk A500
                            clear A500
                            by_cases c51 : (t557 != (t560 == 0)) = true
                            · rw [if_pos c51] at H
                              have c51b0 : (t557 != (t560 == 0)) = true := c51
                              (try (have c51b1 : decide (t557 = (t560 == 0)) = false := by simpa using c51))
                              (try (have c51b2 : (t557 == (t560 == 0)) = false := by simpa using c51))
                              (try (have c51b3 : ¬ (t557 = (t560 == 0)) := by simpa using c51))
                              clear c51
                              (first | rw [c51b0] | (simp only [i64_w, i32_w]; rw [c51b0]) | skip)
                              have H' := Aside0.mk H
                              clear H
                              go_wp2_with (first | ((with_reducible refine gate_callee (f := 58) rfl ?_); refine goesL_ (some 84) rfl rfl Try.func58 (by kernel_rfl) rfl #[.int .i64 t552] rfl (by (try simp only [List.map_toArray, List.map_cons, List.map_nil]); first | done | rfl | (simp only [List.length_drop, List.length_take]; rfl)) ?_; (with_reducible refine (beaconlaw15_num.calls t552 t560 _ A50.out).mono ?_); rintro e w' ⟨rfl, ⟨nd, rfl⟩⟩; refine ⟨_, rfl, ?_⟩))
                              go_meet
                              case rel => exact ⟨_, (true), (by first | rfl | (simp; done) | (simp [*]; done)), H', ⟨by have := HJ9.out; have := HJ25.out; have := HK3.out; first | omega | exact Nat.le_refl _⟩, ⟨by (with_reducible repeat (first | apply Kd.R_alloc | apply Kd.R_drewN | apply Kd.R_drew)); exact HO_8.out⟩, ⟨by (with_reducible repeat (first | apply Kd.R_alloc | apply Kd.R_drewN | apply Kd.R_drew)); exact Kd.R_mono HO554.out (fun _ hk => trivial)⟩, ⟨by (with_reducible repeat (first | refine blk_drewN ?_ _ | refine blk_drew ?_ | refine blk_alloc ?_ _)); exact BK529.out⟩, ⟨by repeat (first | (with_reducible first | exact HB.out | apply below_alloc | apply pw_below_drewN | apply below_drew1 | refine below_set ?_ GE529.out) | exact HB.out)⟩⟩
                            · rw [if_neg c51] at H
                              have c51b0 : (t557 != (t560 == 0)) = false := by simpa using c51
                              (try (have c51b1 : decide (t557 = (t560 == 0)) = true := by simpa using c51))
                              (try (have c51b2 : (t557 == (t560 == 0)) = true := by simpa using c51))
                              clear c51
                              (first | rw [c51b0] | (simp only [i64_w, i32_w]; rw [c51b0]) | skip)
                              by_cases c52 : t557 = true
                              · subst c52
                                have H1 : ((beaconref0_EqKeys.f k3 t551 t556).bind fun t561 => (beaconlaw15_KeyTexts.j3 k3 y546 x9_3 t551 true (!t561))) = some r := by rw [if_pos rfl] at H; exact H
                                clear H
                                have H := H1
                                clear H1
                                replace H := Option.bind_eq_some_iff.mp H
                                obtain ⟨t561, A530, H⟩ := H
                                replace H : (beaconlaw15_KeyTexts.j3 k3 y546 x9_3 t551 true (!t561)) = some r := H
                                have A53 := Aside0.mk A530
                                clear A530
                                have H' := Aside0.mk H
                                clear H
                                go_wp2_with (first | ((with_reducible refine gate_callee (f := 58) rfl ?_); refine goesL_ (some 84) rfl rfl Try.func58 (by kernel_rfl) rfl #[.int .i64 t552] rfl (by (try simp only [List.map_toArray, List.map_cons, List.map_nil]); first | done | rfl | (simp only [List.length_drop, List.length_take]; rfl)) ?_; (with_reducible refine (beaconlaw15_num.calls t552 t560 _ A50.out).mono ?_); rintro e w' ⟨rfl, ⟨nd, rfl⟩⟩; refine ⟨_, rfl, ?_⟩; obtain ⟨Ao54, co54, eo54⟩ := Kd.R_slice HO554.out; subst eo54; obtain ⟨Ao55, co55, eo55⟩ := Kd.R_slice HO559.out; subst eo55) | (go_at_call 59; (with_reducible refine (beaconref0_EqKeys.calls k3 _ _ t551 _ _ t556 t561 _ ?side1 ?side2 ?side3 ?side4 A53.out).mono ?_); (case side1 => repeat (first | exact (Kd.R_reads' HO554.out).2.2 | (with_reducible refine Kd.C_alloc ?_ _) | (with_reducible refine Kd.C_drewN ?_ _) | (with_reducible refine Kd.C_drew ?_))); (case side2 => exact (Kd.R_reads' HO554.out).2.1); (case side3 => repeat (first | exact (Kd.R_reads' HO559.out).2.2 | (with_reducible refine Kd.C_alloc ?_ _) | (with_reducible refine Kd.C_drewN ?_ _) | (with_reducible refine Kd.C_drew ?_))); (case side4 => exact (Kd.R_reads' HO559.out).2.1); rintro e w' ⟨rfl, ⟨nd, rfl⟩⟩))
                                go_meet
                                case rel => exact ⟨_, (!t561), (by first | rfl | (simp; done) | (simp [*]; done)), H', ⟨by have := HJ9.out; have := HJ25.out; have := HK3.out; first | omega | exact Nat.le_refl _⟩, ⟨by (with_reducible repeat (first | apply Kd.R_alloc | apply Kd.R_drewN | apply Kd.R_drew)); exact HO_8.out⟩, ⟨by (with_reducible repeat (first | apply Kd.R_alloc | apply Kd.R_drewN | apply Kd.R_drew)); exact Kd.R_mono HO554.out (fun _ hk => trivial)⟩, ⟨by (with_reducible repeat (first | refine blk_drewN ?_ _ | refine blk_drew ?_ | refine blk_alloc ?_ _)); exact BK529.out⟩, ⟨by repeat (first | (with_reducible first | exact HB.out | apply below_alloc | apply pw_below_drewN | apply below_drew1 | refine below_set ?_ GE529.out) | exact HB.out)⟩⟩
                              · replace c52 := Bool.eq_false_iff.mpr c52
                                subst c52
                                have H1 : ((beaconlaw15_num.f t552).bind fun t562 => (if t562 = 6 then ((beaconref0_EqKeys.f k3 t551 t556).bind fun t563 => (beaconlaw15_KeyTexts.j3 k3 y546 x9_3 t551 false (!t563))) else (beaconlaw15_KeyTexts.j3 k3 y546 x9_3 t551 false true))) = some r := by rw [if_neg (show ¬ (false = true) by decide)] at H; exact H
                                clear H
                                have H := H1
                                clear H1
                                replace H := Option.bind_eq_some_iff.mp H
                                obtain ⟨t562, A560, H⟩ := H
                                replace H : (if t562 = 6 then ((beaconref0_EqKeys.f k3 t551 t556).bind fun t563 => (beaconlaw15_KeyTexts.j3 k3 y546 x9_3 t551 false (!t563))) else (beaconlaw15_KeyTexts.j3 k3 y546 x9_3 t551 false true)) = some r := H
                                have A56 := Aside0.mk A560
                                clear A560
                                by_cases c57 : t562 = 6
                                · rw [if_pos c57] at H
                                  have c57b0 : (t562 == 6) = true := beq_iff_eq.mpr c57
                                  have c57b1 : (t562 != 6) = false := bne_eq_false_iff_eq.mpr c57
                                  clear c57
                                  replace H := Option.bind_eq_some_iff.mp H
                                  obtain ⟨t563, A580, H⟩ := H
                                  replace H : (beaconlaw15_KeyTexts.j3 k3 y546 x9_3 t551 false (!t563)) = some r := H
                                  have A58 := Aside0.mk A580
                                  clear A580
                                  have H' := Aside0.mk H
                                  clear H
                                  go_wp2_with (first | ((with_reducible refine gate_callee (f := 58) rfl ?_); refine goesL_ (some 84) rfl rfl Try.func58 (by kernel_rfl) rfl #[.int .i64 t552] rfl (by (try simp only [List.map_toArray, List.map_cons, List.map_nil]); first | done | rfl | (simp only [List.length_drop, List.length_take]; rfl)) ?_; (with_reducible refine (beaconlaw15_num.calls t552 t560 _ A50.out).mono ?_); rintro e w' ⟨rfl, ⟨nd, rfl⟩⟩; refine ⟨_, rfl, ?_⟩) | (go_at_call 58; (with_reducible refine (beaconlaw15_num.calls t552 t562 _ A56.out).mono ?_); rintro e w' ⟨rfl, ⟨nd, rfl⟩⟩; obtain ⟨Ao59, co59, eo59⟩ := Kd.R_slice HO554.out; subst eo59; obtain ⟨Ao60, co60, eo60⟩ := Kd.R_slice HO559.out; subst eo60) | (go_at_call 59; (with_reducible refine (beaconref0_EqKeys.calls k3 _ _ t551 _ _ t556 t563 _ ?side1 ?side2 ?side3 ?side4 A58.out).mono ?_); (case side1 => repeat (first | exact (Kd.R_reads' HO554.out).2.2 | (with_reducible refine Kd.C_alloc ?_ _) | (with_reducible refine Kd.C_drewN ?_ _) | (with_reducible refine Kd.C_drew ?_))); (case side2 => exact (Kd.R_reads' HO554.out).2.1); (case side3 => repeat (first | exact (Kd.R_reads' HO559.out).2.2 | (with_reducible refine Kd.C_alloc ?_ _) | (with_reducible refine Kd.C_drewN ?_ _) | (with_reducible refine Kd.C_drew ?_))); (case side4 => exact (Kd.R_reads' HO559.out).2.1); rintro e w' ⟨rfl, ⟨nd, rfl⟩⟩))
                                  go_meet
                                  case rel => exact ⟨_, (!t563), (by first | rfl | (simp; done) | (simp [*]; done)), H', ⟨by have := HJ9.out; have := HJ25.out; have := HK3.out; first | omega | exact Nat.le_refl _⟩, ⟨by (with_reducible repeat (first | apply Kd.R_alloc | apply Kd.R_drewN | apply Kd.R_drew)); exact HO_8.out⟩, ⟨by (with_reducible repeat (first | apply Kd.R_alloc | apply Kd.R_drewN | apply Kd.R_drew)); exact Kd.R_mono HO554.out (fun _ hk => trivial)⟩, ⟨by (with_reducible repeat (first | refine blk_drewN ?_ _ | refine blk_drew ?_ | refine blk_alloc ?_ _)); exact BK529.out⟩, ⟨by repeat (first | (with_reducible first | exact HB.out | apply below_alloc | apply pw_below_drewN | apply below_drew1 | refine below_set ?_ GE529.out) | exact HB.out)⟩⟩
                                · rw [if_neg c57] at H
                                  have c57b0 : (t562 == 6) = false := beq_eq_false_iff_ne.mpr c57
                                  have c57b1 : (t562 != 6) = true := bne_iff_ne.mpr c57
                                  have H' := Aside0.mk H
                                  clear H
                                  go_wp2_with (first | ((with_reducible refine gate_callee (f := 58) rfl ?_); refine goesL_ (some 84) rfl rfl Try.func58 (by kernel_rfl) rfl #[.int .i64 t552] rfl (by (try simp only [List.map_toArray, List.map_cons, List.map_nil]); first | done | rfl | (simp only [List.length_drop, List.length_take]; rfl)) ?_; (with_reducible refine (beaconlaw15_num.calls t552 t560 _ A50.out).mono ?_); rintro e w' ⟨rfl, ⟨nd, rfl⟩⟩; refine ⟨_, rfl, ?_⟩) | (go_at_call 58; (with_reducible refine (beaconlaw15_num.calls t552 t562 _ A56.out).mono ?_); rintro e w' ⟨rfl, ⟨nd, rfl⟩⟩))
                                  go_meet
                                  case rel => exact ⟨_, (true), (by first | rfl | (simp; done) | (simp [*]; done)), H', ⟨by have := HJ9.out; have := HJ25.out; have := HK3.out; first | omega | exact Nat.le_refl _⟩, ⟨by (with_reducible repeat (first | apply Kd.R_alloc | apply Kd.R_drewN | apply Kd.R_drew)); exact HO_8.out⟩, ⟨by (with_reducible repeat (first | apply Kd.R_alloc | apply Kd.R_drewN | apply Kd.R_drew)); exact Kd.R_mono HO554.out (fun _ hk => trivial)⟩, ⟨by (with_reducible repeat (first | refine blk_drewN ?_ _ | refine blk_drew ?_ | refine blk_alloc ?_ _)); exact BK529.out⟩, ⟨by repeat (first | (with_reducible first | exact HB.out | apply below_alloc | apply pw_below_drewN | apply below_drew1 | refine below_set ?_ GE529.out) | exact HB.out)⟩⟩
                          case rest =>
                            clear HC46
                            try clear c1
                            try clear c2
                            try clear p2
                            try clear c3
                            try clear c4
                            try clear c5
                            try clear p5
                            try clear q5
                            try clear hx5
                            try clear c6
                            try clear c10
                            try clear c12
                            try clear c20
                            try clear c21
                            try clear c21b0
                            try clear c21b1
                            try clear c28
                            try clear c28b0
                            try clear c28b1
                            try clear c29
                            try clear c29b0
                            try clear c29b1
                            try clear c32
                            try clear c34
                            try clear c34b0
                            try clear c34b1
                            try clear c34b2
                            try clear c35
                            try clear c42
                            try clear c42b0
                            try clear c43
                            try clear c43b0
                            try clear c51
                            try clear c51b0
                            try clear c51b1
                            try clear c51b2
                            try clear c52
                            try clear c53
                            try clear c54
                            try clear c55
                            try clear p55
                            try clear q55
                            try clear hx55
                            try clear c56
                            try clear c57
                            try clear c57b0
                            try clear c57b1
                            try clear c58
                            try clear c60
                            try clear hcz12_0
                            try clear hcz12_1
                            try clear hcz12_2
                            try clear hcz14_0
                            try clear hcz14_1
                            try clear hcz14_2
                            try clear hcz18_0
                            try clear hcz18_1
                            try clear hcz18_2
                            try clear hcz23_0
                            try clear hcz23_1
                            try clear hcz23_2
                            try clear hcz25_0
                            try clear hcz25_1
                            try clear hcz25_2
                            try clear hcz31_0
                            try clear hcz31_1
                            try clear hcz31_2
                            try clear hcz36_0
                            try clear hcz36_1
                            try clear hcz36_2
                            try clear hcz5_0
                            try clear hcz5_1
                            try clear hcz5_2
                            try clear hfz12_0
                            try clear hfz12_1
                            try clear hfz12_2
                            try clear hfz14_0
                            try clear hfz14_1
                            try clear hfz14_2
                            try clear hfz18_0
                            try clear hfz18_1
                            try clear hfz18_2
                            try clear hfz23_0
                            try clear hfz23_1
                            try clear hfz23_2
                            try clear hfz25_0
                            try clear hfz25_1
                            try clear hfz25_2
                            try clear hfz31_0
                            try clear hfz31_1
                            try clear hfz31_2
                            try clear hfz36_0
                            try clear hfz36_1
                            try clear hfz36_2
                            try clear hfz5_0
                            try clear hfz5_1
                            try clear hfz5_2
                            try clear hx550_0
                            try clear hx555_0
                            try clear p2
                            try clear p550
                            try clear p555
                            try clear q550
                            try clear q555
                            obtain ⟨kq, x101_45, rfl, HA, HJ45, HO_8, HO_10, BK529, HB⟩ := hcut
                            cases kq with
                            | zero => exact absurd HA.out (by simp [beaconlaw15_KeyTexts.j3])
                            | succ kj45 =>
                              have H := HA.out
                              clear HA
                              simp only [beaconlaw15_KeyTexts.j3] at H
                              by_cases c61 : x101_45 = true
                              · subst c61
                                have H1 : (some false) = some r := by rw [if_pos rfl] at H; exact H
                                clear H
                                have H := H1
                                clear H1
                                obtain rfl := Option.some.inj H
                                go_wp2
                                go_ret
                                exact ⟨by first | rfl | (simp [errW_none, errW_some] <;> rfl) | (simp [*, errW_none, errW_some] <;> rfl), by repeat (first | (with_reducible first | exact HB.out | apply below_alloc | apply pw_below_drewN | apply below_drew1 | refine below_set ?_ GE529.out) | exact HB.out)⟩
                              · replace c61 := Bool.eq_false_iff.mpr c61
                                subst c61
                                have H1 : (if t557 = true then ((key_Text.f kj45 t551).bind fun bt564 => ((beaconlaw15_num.f bt564.2).bind fun t566 => (if t566 = 0 then (if 0 ≤ x9_3 then (if x9_3 < (y546.length : Int) then (if bt564.1.toList = (rdOf ByteArray.empty y546 x9_3).toList then (beaconlaw15_KeyTexts.l0 kj45 y546 (wrap64 (x9_3 + 1))) else (some false)) else (none)) else (none)) else (some false)))) else (beaconlaw15_KeyTexts.l0 kj45 y546 (wrap64 (x9_3 + 1)))) = some r := by rw [if_neg (show ¬ (false = true) by decide)] at H; exact H
                                clear H
                                have H := H1
                                clear H1
                                by_cases c62 : t557 = true
                                · subst c62
                                  have H1 : ((key_Text.f kj45 t551).bind fun bt564 => ((beaconlaw15_num.f bt564.2).bind fun t566 => (if t566 = 0 then (if 0 ≤ x9_3 then (if x9_3 < (y546.length : Int) then (if bt564.1.toList = (rdOf ByteArray.empty y546 x9_3).toList then (beaconlaw15_KeyTexts.l0 kj45 y546 (wrap64 (x9_3 + 1))) else (some false)) else (none)) else (none)) else (some false)))) = some r := by rw [if_pos rfl] at H; exact H
                                  clear H
                                  have H := H1
                                  clear H1
                                  replace H := Option.bind_eq_some_iff.mp H
                                  obtain ⟨⟨t564, t565⟩, A630, H⟩ := H
                                  replace H : ((beaconlaw15_num.f t565).bind fun t566 => (if t566 = 0 then (if 0 ≤ x9_3 then (if x9_3 < (y546.length : Int) then (if t564.toList = (rdOf ByteArray.empty y546 x9_3).toList then (beaconlaw15_KeyTexts.l0 kj45 y546 (wrap64 (x9_3 + 1))) else (some false)) else (none)) else (none)) else (some false))) = some r := H
                                  have A63 := Aside0.mk A630
                                  clear A630
                                  replace H := Option.bind_eq_some_iff.mp H
                                  obtain ⟨t566, A640, H⟩ := H
                                  replace H : (if t566 = 0 then (if 0 ≤ x9_3 then (if x9_3 < (y546.length : Int) then (if t564.toList = (rdOf ByteArray.empty y546 x9_3).toList then (beaconlaw15_KeyTexts.l0 kj45 y546 (wrap64 (x9_3 + 1))) else (some false)) else (none)) else (none)) else (some false)) = some r := H
                                  have A64 := Aside0.mk A640
                                  clear A640
                                  by_cases c65 : t566 = 0
                                  · rw [if_pos c65] at H
                                    have c65b0 : (t566 == 0) = true := beq_iff_eq.mpr c65
                                    have c65b1 : (t566 != 0) = false := bne_eq_false_iff_eq.mpr c65
                                    clear c65
                                    by_cases c66 : 0 ≤ x9_3
                                    · rw [if_pos c66] at H
                                      have c66b0 : decide (0 ≤ x9_3) = true := decide_eq_true c66
                                      clear c66
                                      by_cases c67 : x9_3 < (y546.length : Int)
                                      · rw [if_pos c67] at H
                                        have c67b0 : decide (x9_3 < (y546.length : Int)) = true := decide_eq_true c67
                                        clear c67
                                        by_cases c68 : t564.toList = (rdOf ByteArray.empty y546 x9_3).toList
                                        · rw [if_pos c68] at H
                                          have c68b0 : (t564.toList == (rdOf ByteArray.empty y546 x9_3).toList) = true := beq_iff_eq.mpr c68
                                          have c68b1 : (t564.toList != (rdOf ByteArray.empty y546 x9_3).toList) = false := bne_eq_false_iff_eq.mpr c68
                                          clear c68
                                          have H' := Aside0.mk H
                                          clear H
                                          obtain ⟨Ao69, co69, eo69⟩ := Kd.R_slice HO_10.out
                                          subst eo69
                                          go_wp2_with (first | ((with_reducible refine gate_callee (f := 55) rfl ?_); refine goesL_ (some 106) rfl rfl Try.func55 (by kernel_rfl) rfl #[.slice Ao69 t551.length co69] rfl (by (try simp only [List.map_toArray, List.map_cons, List.map_nil]); first | done | rfl | (simp only [List.length_drop, List.length_take]; rfl)) ?_; (with_reducible refine (key_Text.calls kj45 _ _ t551 t564 t565 _ ?side1 ?side2 A63.out).mono ?_); (case side1 => repeat (first | exact (Kd.R_reads' HO_10.out).2.2 | (with_reducible refine Kd.C_alloc ?_ _) | (with_reducible refine Kd.C_drewN ?_ _) | (with_reducible refine Kd.C_drew ?_))); (case side2 => exact (Kd.R_reads' HO_10.out).2.1); rintro e w70 ⟨rfl, hb⟩; refine ⟨_, rfl, ?_⟩; have n0_ := Aside0.mk (Kd.R_below (by (with_reducible repeat (first | apply Kd.R_alloc | apply Kd.R_drewN | apply Kd.R_drew)); exact HO_8.out) hb); have n1_ := Aside0.mk (Kd.R_below (by (with_reducible repeat (first | apply Kd.R_alloc | apply Kd.R_drewN | apply Kd.R_drew)); exact HO_10.out) hb); have n2_ := Aside0.mk (blk_below (g := gb529) (o := .cells #[.slice A0_0 l0_0.length c0_0, .int .i64 a0_1, .slice A0_2 l0_2.length c0_2] 94 (0, 0)) (by (with_reducible repeat (first | refine blk_drewN ?_ _ | refine blk_drew ?_ | refine blk_alloc ?_ _)); exact BK529.out) hb); have n3_ := Aside0.mk (below_step (by repeat (first | (with_reducible first | exact HB.out | apply below_alloc | apply pw_below_drewN | apply below_drew1 | refine below_set ?_ GE529.out) | exact HB.out)) hb); clear HO_8; clear HO_10; clear BK529; clear HB; have HO_8 := n0_; have HO_10 := n1_; have BK529 := n2_; have HB := n3_; clear n0_ n1_ n2_ n3_; (try clear hb); (try clear hb2); (try clear hk); (try clear hi)) | ((with_reducible refine gate_callee (f := 58) rfl ?_); refine goesL_ (some 110) rfl rfl Try.func58 (by kernel_rfl) rfl #[.int .i64 t565] rfl (by (try simp only [List.map_toArray, List.map_cons, List.map_nil]); first | done | rfl | (simp only [List.length_drop, List.length_take]; rfl)) ?_; (with_reducible refine (beaconlaw15_num.calls t565 t566 _ A64.out).mono ?_); rintro e w' ⟨rfl, ⟨nd, rfl⟩⟩; refine ⟨_, rfl, ?_⟩; have p567 : 0 ≤ (x9_3 : Int) := of_decide_eq_true (by first | (with_reducible assumption) | assumption); have q567 : x9_3 < (y546.length : Int) := of_decide_eq_true (by first | (with_reducible assumption) | assumption); obtain ⟨ad567, e567, hx567_0⟩ := Kd.at_string (Kd.R_reads' HO_8.out).2.2 x9_3 p567 q567; obtain rfl : ad550 = ad567 := (by injection e567); replace p567 := eq_true p567; replace q567 := eq_true q567))
                                          go_roundg kj45
                                          case measure => have := HJ9.out; have := HJ25.out; have := HK3.out; have := HJ45.out; omega
                                          case rel => exact ⟨(wrap64 (x9_3 + 1)), (by first | rfl | (simp; done) | (simp [*]; done)), H', ⟨by have := HJ9.out; have := HJ25.out; have := HK3.out; have := HJ45.out; omega⟩, ⟨by (with_reducible repeat (first | apply Kd.R_alloc | apply Kd.R_drewN | apply Kd.R_drew)); exact HO_8.out⟩, ⟨by (with_reducible repeat (first | refine blk_drewN ?_ _ | refine blk_drew ?_ | refine blk_alloc ?_ _)); exact BK529.out⟩, ⟨by repeat (first | (with_reducible first | exact HB.out | apply below_alloc | apply pw_below_drewN | apply below_drew1 | refine below_set ?_ GE529.out) | exact HB.out)⟩⟩
                                        · rw [if_neg c68] at H
                                          have c68b0 : (t564.toList == (rdOf ByteArray.empty y546 x9_3).toList) = false := beq_eq_false_iff_ne.mpr c68
                                          have c68b1 : (t564.toList != (rdOf ByteArray.empty y546 x9_3).toList) = true := bne_iff_ne.mpr c68
                                          obtain rfl := Option.some.inj H
                                          obtain ⟨Ao71, co71, eo71⟩ := Kd.R_slice HO_10.out
                                          subst eo71
                                          go_wp2_with (first | ((with_reducible refine gate_callee (f := 55) rfl ?_); refine goesL_ (some 106) rfl rfl Try.func55 (by kernel_rfl) rfl #[.slice Ao71 t551.length co71] rfl (by (try simp only [List.map_toArray, List.map_cons, List.map_nil]); first | done | rfl | (simp only [List.length_drop, List.length_take]; rfl)) ?_; (with_reducible refine (key_Text.calls kj45 _ _ t551 t564 t565 _ ?side1 ?side2 A63.out).mono ?_); (case side1 => repeat (first | exact (Kd.R_reads' HO_10.out).2.2 | (with_reducible refine Kd.C_alloc ?_ _) | (with_reducible refine Kd.C_drewN ?_ _) | (with_reducible refine Kd.C_drew ?_))); (case side2 => exact (Kd.R_reads' HO_10.out).2.1); rintro e w72 ⟨rfl, hb⟩; refine ⟨_, rfl, ?_⟩; have n0_ := Aside0.mk (Kd.R_below (by (with_reducible repeat (first | apply Kd.R_alloc | apply Kd.R_drewN | apply Kd.R_drew)); exact HO_8.out) hb); have n1_ := Aside0.mk (Kd.R_below (by (with_reducible repeat (first | apply Kd.R_alloc | apply Kd.R_drewN | apply Kd.R_drew)); exact HO_10.out) hb); have n2_ := Aside0.mk (blk_below (g := gb529) (o := .cells #[.slice A0_0 l0_0.length c0_0, .int .i64 a0_1, .slice A0_2 l0_2.length c0_2] 94 (0, 0)) (by (with_reducible repeat (first | refine blk_drewN ?_ _ | refine blk_drew ?_ | refine blk_alloc ?_ _)); exact BK529.out) hb); have n3_ := Aside0.mk (below_step (by repeat (first | (with_reducible first | exact HB.out | apply below_alloc | apply pw_below_drewN | apply below_drew1 | refine below_set ?_ GE529.out) | exact HB.out)) hb); clear HO_8; clear HO_10; clear BK529; clear HB; have HO_8 := n0_; have HO_10 := n1_; have BK529 := n2_; have HB := n3_; clear n0_ n1_ n2_ n3_; (try clear hb); (try clear hb2); (try clear hk); (try clear hi)) | ((with_reducible refine gate_callee (f := 58) rfl ?_); refine goesL_ (some 110) rfl rfl Try.func58 (by kernel_rfl) rfl #[.int .i64 t565] rfl (by (try simp only [List.map_toArray, List.map_cons, List.map_nil]); first | done | rfl | (simp only [List.length_drop, List.length_take]; rfl)) ?_; (with_reducible refine (beaconlaw15_num.calls t565 t566 _ A64.out).mono ?_); rintro e w' ⟨rfl, ⟨nd, rfl⟩⟩; refine ⟨_, rfl, ?_⟩; have p567 : 0 ≤ (x9_3 : Int) := of_decide_eq_true (by first | (with_reducible assumption) | assumption); have q567 : x9_3 < (y546.length : Int) := of_decide_eq_true (by first | (with_reducible assumption) | assumption); obtain ⟨ad567, e567, hx567_0⟩ := Kd.at_string (Kd.R_reads' HO_8.out).2.2 x9_3 p567 q567; obtain rfl : ad550 = ad567 := (by injection e567); replace p567 := eq_true p567; replace q567 := eq_true q567))
                                          go_ret
                                          exact ⟨by first | rfl | (simp [errW_none, errW_some] <;> rfl) | (simp [*, errW_none, errW_some] <;> rfl), by repeat (first | (with_reducible first | exact HB.out | apply below_alloc | apply pw_below_drewN | apply below_drew1 | refine below_set ?_ GE529.out) | exact HB.out)⟩
                                      · rw [if_neg c67] at H
                                        exact absurd H (by simp)
                                    · rw [if_neg c66] at H
                                      exact absurd H (by simp)
                                  · rw [if_neg c65] at H
                                    have c65b0 : (t566 == 0) = false := beq_eq_false_iff_ne.mpr c65
                                    have c65b1 : (t566 != 0) = true := bne_iff_ne.mpr c65
                                    obtain rfl := Option.some.inj H
                                    obtain ⟨Ao73, co73, eo73⟩ := Kd.R_slice HO_10.out
                                    subst eo73
                                    go_wp2_with (first | ((with_reducible refine gate_callee (f := 55) rfl ?_); refine goesL_ (some 106) rfl rfl Try.func55 (by kernel_rfl) rfl #[.slice Ao73 t551.length co73] rfl (by (try simp only [List.map_toArray, List.map_cons, List.map_nil]); first | done | rfl | (simp only [List.length_drop, List.length_take]; rfl)) ?_; (with_reducible refine (key_Text.calls kj45 _ _ t551 t564 t565 _ ?side1 ?side2 A63.out).mono ?_); (case side1 => repeat (first | exact (Kd.R_reads' HO_10.out).2.2 | (with_reducible refine Kd.C_alloc ?_ _) | (with_reducible refine Kd.C_drewN ?_ _) | (with_reducible refine Kd.C_drew ?_))); (case side2 => exact (Kd.R_reads' HO_10.out).2.1); rintro e w74 ⟨rfl, hb⟩; refine ⟨_, rfl, ?_⟩; have n0_ := Aside0.mk (Kd.R_below (by (with_reducible repeat (first | apply Kd.R_alloc | apply Kd.R_drewN | apply Kd.R_drew)); exact HO_8.out) hb); have n1_ := Aside0.mk (Kd.R_below (by (with_reducible repeat (first | apply Kd.R_alloc | apply Kd.R_drewN | apply Kd.R_drew)); exact HO_10.out) hb); have n2_ := Aside0.mk (blk_below (g := gb529) (o := .cells #[.slice A0_0 l0_0.length c0_0, .int .i64 a0_1, .slice A0_2 l0_2.length c0_2] 94 (0, 0)) (by (with_reducible repeat (first | refine blk_drewN ?_ _ | refine blk_drew ?_ | refine blk_alloc ?_ _)); exact BK529.out) hb); have n3_ := Aside0.mk (below_step (by repeat (first | (with_reducible first | exact HB.out | apply below_alloc | apply pw_below_drewN | apply below_drew1 | refine below_set ?_ GE529.out) | exact HB.out)) hb); clear HO_8; clear HO_10; clear BK529; clear HB; have HO_8 := n0_; have HO_10 := n1_; have BK529 := n2_; have HB := n3_; clear n0_ n1_ n2_ n3_; (try clear hb); (try clear hb2); (try clear hk); (try clear hi)) | ((with_reducible refine gate_callee (f := 58) rfl ?_); refine goesL_ (some 110) rfl rfl Try.func58 (by kernel_rfl) rfl #[.int .i64 t565] rfl (by (try simp only [List.map_toArray, List.map_cons, List.map_nil]); first | done | rfl | (simp only [List.length_drop, List.length_take]; rfl)) ?_; (with_reducible refine (beaconlaw15_num.calls t565 t566 _ A64.out).mono ?_); rintro e w' ⟨rfl, ⟨nd, rfl⟩⟩; refine ⟨_, rfl, ?_⟩))
                                    go_ret
                                    exact ⟨by first | rfl | (simp [errW_none, errW_some] <;> rfl) | (simp [*, errW_none, errW_some] <;> rfl), by repeat (first | (with_reducible first | exact HB.out | apply below_alloc | apply pw_below_drewN | apply below_drew1 | refine below_set ?_ GE529.out) | exact HB.out)⟩
                                · replace c62 := Bool.eq_false_iff.mpr c62
                                  subst c62
                                  have H1 : (beaconlaw15_KeyTexts.l0 kj45 y546 (wrap64 (x9_3 + 1))) = some r := by rw [if_neg (show ¬ (false = true) by decide)] at H; exact H
                                  clear H
                                  have H := H1
                                  clear H1
                                  have H' := Aside0.mk H
                                  clear H
                                  go_wp2
                                  go_roundg kj45
                                  case measure => have := HJ9.out; have := HJ25.out; have := HK3.out; have := HJ45.out; omega
                                  case rel => exact ⟨(wrap64 (x9_3 + 1)), (by first | rfl | (simp; done) | (simp [*]; done)), H', ⟨by have := HJ9.out; have := HJ25.out; have := HK3.out; have := HJ45.out; omega⟩, ⟨by (with_reducible repeat (first | apply Kd.R_alloc | apply Kd.R_drewN | apply Kd.R_drew)); exact HO_8.out⟩, ⟨by (with_reducible repeat (first | refine blk_drewN ?_ _ | refine blk_drew ?_ | refine blk_alloc ?_ _)); exact BK529.out⟩, ⟨by repeat (first | (with_reducible first | exact HB.out | apply below_alloc | apply pw_below_drewN | apply below_drew1 | refine below_set ?_ GE529.out) | exact HB.out)⟩⟩
                        · rw [if_neg c43] at H
                          exact absurd H (by simp)
                      · rw [if_neg c42] at H
                        have c42b0 : decide (x9_3 < (y546.length : Int)) = false := decide_eq_false c42
                        clear c42
                        replace H := Option.bind_eq_some_iff.mp H
                        obtain ⟨t549, A750, H⟩ := H
                        replace H : (some t549) = some r := H
                        have A75 := Aside0.mk A750
                        clear A750
                        obtain rfl := Option.some.inj H
                        obtain ⟨Ao76, co76, eo76⟩ := Kd.R_slice HO_8.out
                        subst eo76
                        go_wp2_with (first | ((with_reducible refine gate_callee (f := 62) rfl ?_); refine goesL_ (some 120) rfl rfl Try.func62 (by kernel_rfl) rfl #[] rfl (by (try simp only [List.map_toArray, List.map_cons, List.map_nil]); first | done | rfl | (simp only [List.length_drop, List.length_take]; rfl)) ?_; (with_reducible refine (beaconlaw15_wakes.calls  t549 _ A75.out).mono ?_); rintro e w77 ⟨rfl, hb⟩; refine ⟨_, rfl, ?_⟩; have n0_ := Aside0.mk (Kd.R_below (by (with_reducible repeat (first | apply Kd.R_alloc | apply Kd.R_drewN | apply Kd.R_drew)); exact HO_8.out) hb); have n1_ := Aside0.mk (blk_below (g := gb529) (o := .cells #[.slice A0_0 l0_0.length c0_0, .int .i64 a0_1, .slice A0_2 l0_2.length c0_2] 94 (0, 0)) (by (with_reducible repeat (first | refine blk_drewN ?_ _ | refine blk_drew ?_ | refine blk_alloc ?_ _)); exact BK529.out) hb); have n2_ := Aside0.mk (below_step (by repeat (first | (with_reducible first | exact HB.out | apply below_alloc | apply pw_below_drewN | apply below_drew1 | refine below_set ?_ GE529.out) | exact HB.out)) hb); clear HO_8; clear BK529; clear HB; have HO_8 := n0_; have BK529 := n1_; have HB := n2_; clear n0_ n1_ n2_; (try clear hb); (try clear hb2); (try clear hk); (try clear hi)))
                        go_ret
                        exact ⟨by first | rfl | (simp [errW_none, errW_some] <;> rfl) | (simp [*, errW_none, errW_some] <;> rfl), by repeat (first | (with_reducible first | exact HB.out | apply below_alloc | apply pw_below_drewN | apply below_drew1 | refine below_set ?_ GE529.out) | exact HB.out)⟩
                · rw [if_neg c35] at H
                  exact absurd H (by simp)
              · rw [if_neg c34] at H
                exact absurd H (by simp)

end Go.Proofs.Ytadjhnlbpgknfaa.P
