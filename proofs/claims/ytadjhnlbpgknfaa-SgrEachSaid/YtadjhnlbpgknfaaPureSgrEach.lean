/- SgrEach, the plain side: each number alone, and colours at their edges, make what the page says. -/
import Derived.Test.YtadjhnlbpgknfaaESaySgrEach
import Derived.Test.YtadjhnlbpgknfaaPz
set_option linter.unusedSimpArgs false
set_option linter.unusedVariables false
namespace Go.Proofs.Ytadjhnlbpgknfaa.Pure
open Go.RowKit Go.Proofs.Ytadjhnlbpgknfaa.E Go.Proofs.YtadjhnlbpgknfaaW.PrintWords Go.Proofs.YtadjhnlbpgknfaaW.PrintLast Go.Proofs.YtadjhnlbpgknfaaW.PrintMore Go.Proofs.Ytadjhnlbpgknfaa.Pz
namespace Se
def col (n : Int) : Bool := decide (-1 ≤ n ∧ n < 16777472)
def mayA (a b c : Int) : Bool := col a && (col b && decide (0 ≤ c ∧ c < 256))
theorem colour_f (n : Int) : sgr_colour.f n = some (col n) := by
  unfold sgr_colour.f col
  split <;> simp <;> omega
theorem may_f (a b c : Int) : sgr_May.f a b c = some (mayA a b c) := by
  unfold sgr_May.f mayA
  rw [colour_f, colour_f]
  simp only [Option.bind_some]
  cases col a <;> cases col b <;> simp
  by_cases h : 0 ≤ c <;> simp [h]
abbrev fls : List Int := [1, 2, 3, 4, 5, 7, 8, 9]
theorem andNot0 : ∀ z : Fin 256, Go.bits .andNot .i64 (z.val : Int) 0 = (z.val : Int) := by decide +kernel
theorem andNot_0 {z : Int} (h : 0 ≤ z ∧ z < 256) : Go.bits .andNot .i64 z 0 = z := by
  have := andNot0 ⟨z.toNat, by omega⟩
  simpa [Int.toNat_of_nonneg h.1] using this
theorem less_0 {n : Int} (h : 30 ≤ n) : (sgr_less.f n).getD 0 = 0 := by
  unfold sgr_less.f
  rw [if_neg (by omega), if_neg (by omega), if_neg (by omega), if_neg (by omega), if_neg (by omega), if_neg (by omega), if_neg (by omega)]
  rfl
theorem not_fls {n : Int} (h : 10 ≤ n) : ¬ n ∈ fls := by
  simp only [fls, List.mem_cons, List.not_mem_nil, or_false]
  omega
theorem wakes_f : beaconlaw4_wakes.f = some true := by decide +kernel
theorem num (a : Int) : beaconlaw4_num.f a = some a := rfl
/-! The page's own -/
theorem mx_max (a : Int) : mx 0 a = max 0 a := by
  unfold mx
  split <;> omega
theorem between_f (a b c : Int) : beaconref0_Between.f a b c = some (decide (b ≤ a ∧ a ≤ c)) := by
  unfold beaconref0_Between.f
  split <;> simp <;> omega
theorem rd_at {l : List Int} {i : Nat} (h : i < l.length) : rd l (i : Int) = l[i] := by
  unfold rd
  rw [Int.toNat_natCast, List.getD_eq_getElem?_getD, List.getElem?_eq_getElem h]
  rfl
def fidx (l : List Int) (n : Int) : Int := if n ∈ l then (l.idxOf n : Nat) else -1
theorem in_l0 (l : List Int) (n : Int) (hl : l.length ≤ 1000000) : ∀ (d i : Nat), i + d = l.length → n ∉ l.take i → Ev (fun k => beaconref0_In.l0 k l n (i : Int)) (fidx l n) := by
  intro d
  induction d with
  | zero =>
    intro i hi hn
    rw [List.take_of_length_le (by omega)] at hn
    refine Ev.step (fun k => by rw [beaconref0_In.l0]) ?_
    refine ev_neg (by omega) (ev_cst ?_)
    rw [fidx, if_neg hn]
  | succ d ih =>
    intro i hi hn
    have h : i < l.length := by omega
    refine Ev.step (fun k => by rw [beaconref0_In.l0]) ?_
    refine ev_pos (by omega) (ev_pos (by omega) ?_)
    by_cases he : rd l i = n
    · refine ev_pos he (ev_cst ?_)
      rw [rd_at h] at he
      have e : l = l.take i ++ n :: l.drop (i + 1) := by rw [← he, ← List.drop_eq_getElem_cons h, List.take_append_drop]
      have h1 : n ∈ l := by rw [← he]; exact List.getElem_mem _
      have h2 : l.idxOf n = i := by
        rw [e, List.idxOf_append, if_neg hn, List.idxOf_cons_self, List.length_take]
        omega
      rw [fidx, if_pos h1, h2]
    · refine ev_neg he ?_
      rw [wrap_in (x := (i : Int) + 1) (by omega) (by omega)]
      refine ih (i + 1) (by omega) ?_
      rw [List.take_succ_eq_append_getElem h, List.mem_append, not_or]
      refine ⟨hn, ?_⟩
      rw [rd_at h] at he
      simpa using fun e => he e.symm
theorem in_ev (l : List Int) (n : Int) (hl : l.length ≤ 1000000) : Ev (fun k => beaconref0_In.f k l n) (fidx l n) := in_l0 l n hl l.length 0 (by omega) (by simp)
def colF (l : List Int) : Int × Int :=
  if 2 ≤ l.length ∧ rd l 0 = 5 then (if max 0 (rd l 1) > 255 then -1 else max 0 (rd l 1), 2)
  else if 4 ≤ l.length ∧ rd l 0 = 2 then (if max 0 (rd l 1) ≤ 255 ∧ max 0 (rd l 2) ≤ 255 ∧ max 0 (rd l 3) ≤ 255 then 256 + (max 0 (rd l 1) * 256 + max 0 (rd l 2)) * 256 + max 0 (rd l 3) else -1, 4)
  else (-1, 0)
theorem colour_ev (l : List Int) (hl : l.length ≤ 1000000) : Ev (fun k => beaconref3_colour.f k l) (colF l) := by
  have tail : ∀ b, (b = true ↔ 2 ≤ l.length ∧ rd l 0 = 5) → Ev (fun k => beaconref3_colour.j0 k l b) (colF l) := by
    intro b hb
    refine Ev.step (fun k => by rw [beaconref3_colour.j0, mx_max]) ?_
    by_cases h : 2 ≤ l.length ∧ rd l 0 = 5
    · refine ev_pos (hb.2 h) (ev_pos (by omega) ?_)
      rw [colF, if_pos h]
      by_cases h1 : max 0 (rd l 1) > 255
      · refine ev_pos h1 (ev_cst ?_)
        rw [if_pos h1]
      · refine ev_neg h1 (ev_cst ?_)
        rw [if_neg h1]
    · refine ev_neg (fun e => h (hb.1 e)) ?_
      rw [colF, if_neg h]
      have tail2 : ∀ b, (b = true ↔ 4 ≤ l.length ∧ rd l 0 = 2) → Ev (fun k => beaconref3_colour.j1 k l b) (if 4 ≤ l.length ∧ rd l 0 = 2 then (if max 0 (rd l 1) ≤ 255 ∧ max 0 (rd l 2) ≤ 255 ∧ max 0 (rd l 3) ≤ 255 then 256 + (max 0 (rd l 1) * 256 + max 0 (rd l 2)) * 256 + max 0 (rd l 3) else -1, 4) else (-1, 0)) := by
        intro b hb
        refine Ev.step (fun k => by rw [beaconref3_colour.j1]) ?_
        by_cases h : 4 ≤ l.length ∧ rd l 0 = 2
        · rw [if_pos h]
          refine ev_pos (hb.2 h) ?_
          refine Ev.step (fun k => by rw [beaconref3_colour.l0, mx_max]) (ev_pos (by omega) (ev_pos (by omega) (ev_pos (by omega) ?_)))
          by_cases h1 : max 0 (rd l 1) > 255
          · rw [if_neg (by omega)]
            exact ev_pos h1 (ev_cst rfl)
          refine ev_neg h1 ?_
          rw [wrap_in (x := 256 * 0) (by omega) (by omega), wrap_in (x := 256 * 0 + _) (by omega) (by omega), wrap_in (x := (1 : Int) + 1) (by omega) (by omega)]
          refine Ev.step (fun k => by rw [beaconref3_colour.l0, mx_max]) (ev_pos (by omega) (ev_pos (by omega) (ev_pos (by omega) ?_)))
          rw [show (1 : Int) + 1 = 2 from rfl]
          by_cases h2 : max 0 (rd l 2) > 255
          · rw [if_neg (by omega)]
            exact ev_pos h2 (ev_cst rfl)
          refine ev_neg h2 ?_
          rw [wrap_in (x := 256 * (256 * 0 + max 0 (rd l 1))) (by omega) (by omega), wrap_in (x := 256 * (256 * 0 + max 0 (rd l 1)) + _) (by omega) (by omega), wrap_in (x := (2 : Int) + 1) (by omega) (by omega)]
          refine Ev.step (fun k => by rw [beaconref3_colour.l0, mx_max]) (ev_pos (by omega) (ev_pos (by omega) (ev_pos (by omega) ?_)))
          rw [show (2 : Int) + 1 = 3 from rfl]
          by_cases h3 : max 0 (rd l 3) > 255
          · rw [if_neg (by omega)]
            exact ev_pos h3 (ev_cst rfl)
          refine ev_neg h3 ?_
          rw [wrap_in (x := 256 * (256 * (256 * 0 + max 0 (rd l 1)) + max 0 (rd l 2))) (by omega) (by omega), wrap_in (x := 256 * (256 * (256 * 0 + max 0 (rd l 1)) + max 0 (rd l 2)) + _) (by omega) (by omega), wrap_in (x := (3 : Int) + 1) (by omega) (by omega)]
          refine Ev.step (fun k => by rw [beaconref3_colour.l0]) (ev_neg (by omega) (ev_cst ?_))
          rw [if_pos (by omega), wrap_in (by omega) (by omega)]
          simp only [Option.some.injEq, Prod.mk.injEq, and_true]
          omega
        · rw [if_neg h]
          exact ev_neg (fun e => h (hb.1 e)) (ev_cst rfl)
      by_cases h4 : (l.length : Int) ≥ 4
      · refine ev_pos h4 (ev_pos (by omega) (tail2 _ ?_))
        simp only [beq_iff_eq]
        omega
      · refine ev_neg h4 (tail2 _ ?_)
        simp
        omega
  unfold beaconref3_colour.f
  by_cases h2 : (l.length : Int) ≥ 2
  · refine ev_pos h2 (ev_pos (by omega) (tail _ ?_))
    simp only [beq_iff_eq]
    omega
  · refine ev_neg h2 (tail _ ?_)
    simp
    omega
theorem rd_map (l : List Int) (i : Int) : rd (l.map (max 0)) i = max 0 (rd l i) := by
  unfold rd
  rw [List.getD_eq_getElem?_getD, List.getD_eq_getElem?_getD, List.getElem?_map]
  cases l[i.toNat]? <;> rfl
theorem long_col (x : Int) (l : List Int) : longF x (l.map (max 0)) = if (colF l).2 = 0 then (x, (l.length : Int)) else (if (colF l).1 ≥ 0 then (colF l).1 else x, (colF l).2) := by
  unfold longF colF
  simp only [rd_map, List.length_map]
  by_cases h1 : 2 ≤ l.length ∧ rd l 0 = 5
  · rw [if_pos h1, if_pos (by omega)]
    simp only
    rw [if_neg (show ¬ (2 : Int) = 0 by decide)]
    by_cases h2 : max 0 (rd l 1) > 255
    · simp only [if_pos h2]
      rw [if_neg (by omega), if_neg (by decide)]
    · simp only [if_neg h2]
      rw [if_pos (by omega), if_pos (by omega)]
  · rw [if_neg h1, if_neg (by omega)]
    by_cases h3 : 4 ≤ l.length ∧ rd l 0 = 2
    · rw [if_pos h3, if_pos (by omega)]
      simp only
      rw [if_neg (show ¬ (4 : Int) = 0 by decide)]
      by_cases h4 : max 0 (rd l 1) ≤ 255 ∧ max 0 (rd l 2) ≤ 255 ∧ max 0 (rd l 3) ≤ 255
      · simp only [if_pos h4]
        rw [if_pos (by omega), if_pos (by omega)]
      · simp only [if_neg h4]
        rw [if_neg (by omega), if_neg (by decide)]
    · rw [if_neg h3, if_neg (by omega), if_pos rfl]
theorem col_len (l : List Int) : (colF l).2 = 0 ∨ (0 < (colF l).2 ∧ (colF l).2 ≤ l.length) := by
  unfold colF
  split
  · exact .inr ⟨by simp, by simp only; omega⟩
  · split
    · exact .inr ⟨by simp, by simp only; omega⟩
    · exact .inl rfl
theorem or_in : ∀ (z : Fin 256) (i : Fin 8), 0 ≤ Go.bits .or .i64 (z.val : Int) (shl .i64 1 (i.val : Int)) ∧ Go.bits .or .i64 (z.val : Int) (shl .i64 1 (i.val : Int)) < 256 := by decide +kernel
abbrev lessL : List Int := [0, 3, 4, 8, 16, 32, 64, 128]
theorem andNot_in : ∀ (z : Fin 256) (m : Fin 8), 0 ≤ Go.bits .andNot .i64 (z.val : Int) (lessL.getD m.val 0) ∧ Go.bits .andNot .i64 (z.val : Int) (lessL.getD m.val 0) < 256 := by decide +kernel
theorem andNot_in' {z m : Int} (h : 0 ≤ z ∧ z < 256) (hm : m ∈ lessL) : 0 ≤ Go.bits .andNot .i64 z m ∧ Go.bits .andNot .i64 z m < 256 := by
  obtain ⟨i, hi, e⟩ := List.mem_iff_getElem.1 hm
  have := andNot_in ⟨z.toNat, by omega⟩ ⟨i, hi⟩
  rw [List.getD_eq_getElem?_getD, List.getElem?_eq_getElem hi, Option.getD_some, e] at this
  simpa [Int.toNat_of_nonneg h.1] using this
theorem or_in' {z : Int} {i : Nat} (h : 0 ≤ z ∧ z < 256) (hi : i < 8) : 0 ≤ Go.bits .or .i64 z (shl .i64 1 (i : Int)) ∧ Go.bits .or .i64 z (shl .i64 1 (i : Int)) < 256 := by
  have := or_in ⟨z.toNat, by omega⟩ ⟨i, hi⟩
  simpa [Int.toNat_of_nonneg h.1] using this
theorem less_shl : ∀ n : Int, (n = 23 ∨ n = 24 ∨ n = 25 ∨ n = 27 ∨ n = 28 ∨ n = 29) → shl .i64 1 ((fls.idxOf (n - 20) : Nat) : Int) = (sgr_less.f n).getD 0 ∧ (sgr_less.f n).getD 0 ∈ lessL := by
  rintro n (rfl | rfl | rfl | rfl | rfl | rfl) <;> decide
theorem doL_nil (K : Nat) (x y z : Int) : doL K x y z [] = (x, y, z) := by cases K <;> rfl
theorem fidx_neg {l : List Int} {n : Int} (h : n ∉ l) : fidx l n = -1 := if_neg h
section
variable (l : List Int) (K i : Nat) (n x y z : Int)
def Nx : Prop := ∀ (j : Nat) (x y z : Int), i + 1 ≤ j → j ≤ l.length → 0 ≤ z ∧ z < 256 → Ev (fun k => beaconref3_Apply.l0 k l fls j x y z) (doL K x y z ((l.drop j).map (max 0)))
theorem j3_ev (hl : l.length ≤ 1000000) (hi : i < l.length) (hz : 0 ≤ z ∧ z < 256) (hn : Nx l K i) (h38 : n = 38 ∨ n = 48) (c u : Int) (hu : 0 < u) (hu2 : i + 1 + u ≤ l.length) (b : Bool) (hb : b = true ↔ 0 ≤ c ∧ n = 38) :
    Ev (fun k => beaconref3_Apply.j3 k l fls i n c u b x y z) (if n = 38 then doL K (if c ≥ 0 then c else x) y z ((l.drop (i + 1 + u.toNat)).map (max 0)) else doL K x (if c ≥ 0 then c else y) z ((l.drop (i + 1 + u.toNat)).map (max 0))) := by
  refine Ev.step (fun k => by rw [beaconref3_Apply.j3]) ?_
  have e : wrap64 (wrap64 (i + u) + 1) = ((i + 1 + u.toNat : Nat) : Int) := by
    rw [wrap_in (x := (i : Int) + u) (by omega) (by omega), wrap_in (by omega) (by omega)]
    omega
  rw [e]
  have go := fun x y => hn (i + 1 + u.toNat) x y z (by omega) (by omega) hz
  by_cases h : b = true
  · have h2 := hb.1 h
    refine ev_pos h (ev_pos h2.1 (ev_neg (by omega) ?_))
    rw [if_pos h2.2, if_pos h2.1]
    exact go _ _
  · have h2 : ¬ (0 ≤ c ∧ n = 38) := fun e => h (hb.2 e)
    refine ev_neg h ?_
    by_cases hc : c ≥ 0
    · refine ev_pos hc (ev_pos (by omega) ?_)
      rw [if_neg (by omega), if_pos hc]
      exact go _ _
    · refine ev_neg hc ?_
      simp only [if_neg hc, ite_self]
      exact go _ _
theorem j2_ev (hl : l.length ≤ 1000000) (hi : i < l.length) (hz : 0 ≤ z ∧ z < 256) (hn : Nx l K i) (h38 : n = 38 ∨ n = 48) (b : Bool) (hb : b = true) :
    Ev (fun k => beaconref3_Apply.j2 k l fls i n b x y z) (doL (K + 1) x y z (n :: (l.drop (i + 1)).map (max 0))) := by
  have e1 : wrap64 ((i : Int) + 1) = i + 1 := wrap_in (by omega) (by omega)
  refine Ev.step (fun k => by rw [beaconref3_Apply.j2]) (ev_pos hb (ev_pos (by omega) (ev_pos (by omega) ?_)))
  rw [e1, show ((i : Int) + 1).toNat = i + 1 by omega]
  refine Ev.bind (colour_ev _ (by rw [List.length_drop]; omega)) ?_
  have hlong := fun x => long_col x (l.drop (i + 1))
  have hcl := col_len (l.drop (i + 1))
  obtain ⟨⟨c, u⟩, hcu⟩ : ∃ p, p = colF (l.drop (i + 1)) := ⟨_, rfl⟩
  rw [← hcu] at hlong hcl ⊢
  simp only at hlong hcl ⊢
  rw [List.length_drop] at hcl
  by_cases hu : u = 0
  · refine ev_pos hu (ev_cst ?_)
    rcases h38 with rfl | rfl
    · rw [doL, if_neg (by decide), if_pos rfl, hlong, if_pos hu]
      simp only
      rw [List.drop_of_length_le (by simp), doL_nil]
    · rw [doL, if_neg (by decide), if_neg (by decide), if_pos rfl, hlong, if_pos hu]
      simp only
      rw [List.drop_of_length_le (by simp), doL_nil]
  · have h3 := fun b hb => j3_ev l K i n x y z hl hi hz hn h38 c u (by omega) (by omega) b hb
    have hd : doL (K + 1) x y z (n :: (l.drop (i + 1)).map (max 0)) = (if n = 38 then doL K (if c ≥ 0 then c else x) y z ((l.drop (i + 1 + u.toNat)).map (max 0)) else doL K x (if c ≥ 0 then c else y) z ((l.drop (i + 1 + u.toNat)).map (max 0))) := by
      rcases h38 with rfl | rfl
      · rw [doL, if_neg (by decide), if_pos rfl, if_pos rfl, hlong, if_neg hu]
        simp only
        rw [← List.map_drop, List.drop_drop]
      · rw [doL, if_neg (by decide), if_neg (by decide), if_pos rfl, if_neg (by decide), hlong, if_neg hu]
        simp only
        rw [← List.map_drop, List.drop_drop]
    rw [hd]
    refine ev_neg hu ?_
    by_cases hc : c ≥ 0
    · exact ev_pos hc (h3 _ (by simp [hc]))
    · exact ev_neg hc (h3 _ (by simp [hc]))
theorem j1_ev (hl : l.length ≤ 1000000) (hi : i < l.length) (hz : 0 ≤ z ∧ z < 256) (hn : Nx l K i) (h0 : 0 < n) (h1 : n ∉ fls) (h22 : n ≤ 21 ∨ n = 26 ∨ 30 ≤ n) (hb : n < 100000) (t : Int) :
    Ev (fun k => beaconref3_Apply.j1 k l fls i n t false x y z) (doL (K + 1) x y z (n :: (l.drop (i + 1)).map (max 0))) := by
  have e1 : wrap64 ((i : Int) + 1) = ((i + 1 : Nat) : Int) := wrap_in (by omega) (by omega)
  have hless : (sgr_less.f n).getD 0 = 0 := by
    unfold sgr_less.f
    rw [if_neg (by omega), if_neg (by omega), if_neg (by omega), if_neg (by omega), if_neg (by omega), if_neg (by omega), if_neg (by omega)]
    rfl
  have go := fun x y => hn (i + 1) x y z (by omega) (by omega) hz
  refine Ev.step (fun k => by rw [beaconref3_Apply.j1]) (ev_neg (by simp) ?_)
  rw [e1]
  refine ev_bindc (between_f _ _ _) ?_
  by_cases c1 : 30 ≤ n ∧ n ≤ 37
  · refine ev_pos (by simpa using c1) ?_
    rw [doL, if_neg (by omega), if_neg (by omega), if_neg (by omega), if_neg h1, if_neg (by omega), hless, andNot_0 hz, groundF, if_pos c1, wrap_in (by omega) (by omega)]
    exact go _ _
  refine ev_neg (by simpa using c1) (ev_bindc (between_f _ _ _) ?_)
  by_cases c2 : 90 ≤ n ∧ n ≤ 97
  · refine ev_pos (by simpa using c2) ?_
    rw [doL, if_neg (by omega), if_neg (by omega), if_neg (by omega), if_neg h1, if_neg (by omega), hless, andNot_0 hz, groundF, if_neg c1, if_pos c2, wrap_in (by omega) (by omega)]
    exact go _ _
  refine ev_neg (by simpa using c2) (ev_bindc (between_f _ _ _) ?_)
  by_cases c3 : 40 ≤ n ∧ n ≤ 47
  · refine ev_pos (by simpa using c3) ?_
    rw [doL, if_neg (by omega), if_neg (by omega), if_neg (by omega), if_neg h1, if_pos (by omega), groundF, if_pos (by omega), show n - 10 - 30 = n - 40 by omega, wrap_in (by omega) (by omega)]
    exact go _ _
  refine ev_neg (by simpa using c3) (ev_bindc (between_f _ _ _) ?_)
  by_cases c4 : 100 ≤ n ∧ n ≤ 107
  · refine ev_pos (by simpa using c4) ?_
    rw [doL, if_neg (by omega), if_neg (by omega), if_neg (by omega), if_neg h1, if_pos (by omega), groundF, if_neg (by omega), if_pos (by omega), show n - 10 - 82 = n - 92 by omega, wrap_in (by omega) (by omega)]
    exact go _ _
  refine ev_neg (by simpa using c4) ?_
  by_cases c5 : n = 39
  · subst c5
    refine ev_pos rfl ?_
    rw [doL, if_neg (by decide), if_neg (by decide), if_neg (by decide), if_neg (by decide), if_neg (by decide), hless, andNot_0 hz, groundF, if_neg (by decide), if_neg (by decide), if_pos rfl]
    exact go _ _
  refine ev_neg c5 ?_
  by_cases c6 : n = 49
  · subst c6
    refine ev_pos rfl ?_
    rw [doL, if_neg (by decide), if_neg (by decide), if_neg (by decide), if_neg (by decide), if_pos (by decide), groundF, if_neg (by decide), if_neg (by decide), if_pos (by decide)]
    exact go _ _
  refine ev_neg c6 ?_
  by_cases c7 : n = 38
  · exact ev_pos c7 (j2_ev l K i n x y z hl hi hz hn (.inl c7) true rfl)
  refine ev_neg c7 ?_
  by_cases c8 : n = 48
  · exact j2_ev l K i n x y z hl hi hz hn (.inr c8) _ (by simpa using c8)
  refine Ev.step (fun k => by rw [beaconref3_Apply.j2]) (ev_neg (by simpa using c8) ?_)
  rw [e1, doL, if_neg (by omega), if_neg c7, if_neg c8, if_neg h1, if_neg (by omega), hless, andNot_0 hz, groundF, if_neg c1, if_neg c2, if_neg c5]
  exact go _ _
end
theorem refApply_l0 (l : List Int) (hl : l.length ≤ 1000000) (hm : ∀ n ∈ l, n < 100000 ∧ -100000 < n) : ∀ (D d i : Nat), d ≤ D → i + d = l.length → ∀ (K : Nat) (x y z : Int), d ≤ K → 0 ≤ z ∧ z < 256 →
    Ev (fun k => beaconref3_Apply.l0 k l fls i x y z) (doL K x y z ((l.drop i).map (max 0))) := by
  intro D
  induction D with
  | zero =>
    intro d i hD hi K x y z hK hz
    refine Ev.step (fun k => by rw [beaconref3_Apply.l0]) (ev_neg (by omega) (ev_cst ?_))
    rw [List.drop_of_length_le (by omega)]
    exact (congrArg some (doL_nil K x y z)).symm
  | succ D ih =>
    intro d i hD hi K x y z hK hz
    by_cases hd : d = 0
    · refine Ev.step (fun k => by rw [beaconref3_Apply.l0]) (ev_neg (by omega) (ev_cst ?_))
      rw [List.drop_of_length_le (by omega)]
      exact (congrArg some (doL_nil K x y z)).symm
    obtain ⟨K, rfl⟩ : ∃ m, K = m + 1 := ⟨K - 1, by omega⟩
    have h : i < l.length := by omega
    have hn : Nx l K i := fun j x y z h1 h2 hz => ih (l.length - j) j (by omega) (by omega) K x y z (by omega) hz
    have hb := hm _ (List.getElem_mem h)
    obtain ⟨n, hnn⟩ : ∃ n, n = max 0 (rd l i) := ⟨_, rfl⟩
    have e1 : wrap64 ((i : Int) + 1) = ((i + 1 : Nat) : Int) := wrap_in (by omega) (by omega)
    rw [List.drop_eq_getElem_cons h, List.map_cons, ← rd_at h, ← hnn]
    rw [← rd_at h] at hb
    refine Ev.step (fun k => by rw [beaconref3_Apply.l0, mx_max, ← hnn, e1]) (ev_pos (by omega) (ev_pos (by omega) ?_))
    rw [wrap_in (x := n - 20) (by omega) (by omega)]
    refine Ev.bind (in_ev fls n (by decide)) (Ev.bind (in_ev fls (n - 20) (by decide)) ?_)
    by_cases h0 : n = 0
    · refine ev_pos h0 (ev_bindc (a := (-1, -1, 0)) rfl ?_)
      rw [doL, if_pos h0]
      exact hn (i + 1) _ _ _ (by omega) (by omega) (by decide)
    refine ev_neg h0 ?_
    by_cases h1 : n ∈ fls
    · have h1' : n ≠ 38 ∧ n ≠ 48 := by
        simp only [fls, List.mem_cons, List.not_mem_nil, or_false] at h1
        omega
      have hlt : fls.idxOf n < 8 := List.idxOf_lt_length_of_mem h1
      rw [show fidx fls n = (fls.idxOf n : Nat) from if_pos h1, doL, if_neg h0, if_neg h1'.1, if_neg h1'.2, if_pos h1]
      exact ev_pos (by omega) (ev_pos (by omega) (hn (i + 1) _ _ _ (by omega) (by omega) (or_in' hz hlt)))
    rw [fidx_neg h1]
    refine ev_neg (by decide) ?_
    by_cases h22 : n = 22
    · subst h22
      refine ev_pos rfl ?_
      rw [doL, if_neg (by decide), if_neg (by decide), if_neg (by decide), if_neg (by decide), if_neg (by decide)]
      exact hn (i + 1) _ _ _ (by omega) (by omega) (andNot_in' (m := 3) hz (by decide))
    refine ev_neg h22 ?_
    by_cases hgt : n > 22
    · refine ev_pos hgt ?_
      by_cases h2 : n - 20 ∈ fls
      · have hlt : fls.idxOf (n - 20) < 8 := List.idxOf_lt_length_of_mem h2
        rw [show fidx fls (n - 20) = (fls.idxOf (n - 20) : Nat) from if_pos h2]
        refine Ev.step (fun k => by rw [beaconref3_Apply.j1, e1]) (ev_pos (by simp) (ev_pos (by omega) ?_))
        have hv : n = 23 ∨ n = 24 ∨ n = 25 ∨ n = 27 ∨ n = 28 ∨ n = 29 := by
          simp only [fls, List.mem_cons, List.not_mem_nil, or_false] at h2
          omega
        rw [doL, if_neg h0, if_neg (by omega), if_neg (by omega), if_neg h1, if_neg (by omega)]
        have e := less_shl n hv
        rw [e.1, show groundF x n = x by rw [groundF, if_neg (by omega), if_neg (by omega), if_neg (by omega)]]
        exact hn (i + 1) _ _ _ (by omega) (by omega) (andNot_in' hz e.2)
      · rw [fidx_neg h2]
        have h2' : ¬ (n = 23 ∨ n = 24 ∨ n = 25 ∨ n = 27 ∨ n = 28 ∨ n = 29) := fun e => h2 (by
          simp only [fls, List.mem_cons, List.not_mem_nil, or_false]
          omega)
        exact j1_ev l K i n x y z hl h hz hn (by omega) h1 (by omega) (by omega) _
    · refine ev_neg hgt ?_
      exact j1_ev l K i n x y z hl h hz hn (by omega) h1 (by omega) (by omega) _
theorem refApply_ev (a b c : Int) (l : List Int) (hl : l.length ≤ 1000000) (hm : ∀ n ∈ l, n < 100000 ∧ -100000 < n) (hc : 0 ≤ c ∧ c < 256) : Ev (fun k => beaconref3_Apply.f k a b c l) (doF a b c l) := by
  unfold beaconref3_Apply.f
  by_cases h : l = []
  · subst h
    exact ev_pos rfl (ev_cst rfl)
  · have h1 : ¬ (l.length : Int) = 0 := fun e => h (List.length_eq_zero_iff.1 (by omega))
    refine ev_neg h1 ?_
    rw [doF, doM, if_neg h]
    have := refApply_l0 l hl hm l.length l.length 0 (by omega) (by omega) ((l.map (max 0)).length + 1) a b c (by simp) hc
    simpa using this
def parB (l : List Int) : Bool := decide (l.length ≤ 32) && !(l.any badN)
theorem applyAll_f (p q r : Int) (l : List Int) : sgr_Apply.f p q r l = some (if mayA p q r && parB l then ((doF p q r l).1, (doF p q r l).2.1, (doF p q r l).2.2, 0) else (0, 0, 0, 1)) := by
  unfold sgr_Apply.f
  rw [may_f, Option.bind_some]
  cases mayA p q r with
  | false => rfl
  | true =>
    by_cases h : l.length ≤ 32 ∧ l.any badN = false
    · have hb : ∀ n ∈ l, n < 100000 := fun n hn => by
        have := List.any_eq_false.1 h.2 n hn
        simp [badN] at this
        omega
      rw [if_pos ⟨rfl, h⟩, sgr_Do.f, if_pos ⟨by omega, hb⟩, parB, h.2, decide_eq_true h.1]
      rfl
    · rw [if_neg (fun e => h e.2)]
      have : parB l = false := by
        cases hp : parB l with
        | false => rfl
        | true =>
          simp only [parB, Bool.and_eq_true, decide_eq_true_eq, Bool.not_eq_true'] at hp
          exact absurd hp h
      rw [this]
      rfl
def Fit (l : List Int) : Prop := l.length ≤ 32 ∧ ∀ n ∈ l, -1 ≤ n ∧ n ≤ 9999
theorem fit_par {l : List Int} (h : Fit l) : parB l = true := by
  have hb : l.any badN = false := by
    rw [List.any_eq_false]
    intro n hn
    have := h.2 n hn
    simp [badN]
    omega
  rw [parB, hb, decide_eq_true h.1]
  rfl
theorem se_l1 (A : List S56) (L : List (List Int)) (n : Int) (x5 : List (List Int)) (h5 : x5.length ≤ 100) (hf : ∀ l ∈ x5, Fit l) (hgo : Ev (fun k => beaconlaw4_SgrEach.l0 k (wrap64 (n + 1)) A L 300 7 255) true) :
    ∀ (d q : Nat), q + d = x5.length → Ev (fun k => beaconlaw4_SgrEach.l1 k n x5 (q : Int) A L 300 7 255) true := by
  intro d
  induction d with
  | zero =>
    intro q hq
    exact Ev.step (fun k => by rw [beaconlaw4_SgrEach.l1]) (ev_neg (by omega) hgo)
  | succ d ih =>
    intro q hq
    have hn := ih (q + 1) (by omega)
    have e1 : wrap64 ((q : Int) + 1) = ((q + 1 : Nat) : Int) := wrap_in (by omega) (by omega)
    obtain ⟨l, hl⟩ : ∃ l, l = rd_L2 x5 (q : Int) := ⟨_, rfl⟩
    have hfl : Fit l := by rw [hl]; exact hf _ (rdOf_mem (d := ([] : List Int)) (xs := x5) (by omega) (by omega))
    have hm : ∀ n ∈ l, n < 100000 ∧ -100000 < n := fun n hn => by have := hfl.2 n hn; omega
    have hA := applyAll_f 300 7 255 l
    rw [fit_par hfl, show mayA 300 7 255 = true by decide] at hA
    have hB := applyAll_f (-1) (-1) 0 l
    rw [fit_par hfl, show mayA (-1) (-1) 0 = true by decide] at hB
    refine Ev.step (fun k => by rw [beaconlaw4_SgrEach.l1, ← hl, e1]) ?_
    refine ev_pos (by omega) (ev_pos (by omega) (ev_bindc hA (ev_bindc (a := (-1, -1, 0)) rfl (ev_bindc hB (ev_bindc (num _) (ev_pos rfl (ev_bindc (num _) (ev_pos rfl ?_))))))))
    refine Ev.bind (refApply_ev 300 7 255 l (by have := hfl.1; omega) hm (by decide)) ?_
    refine ev_neg (by simp) (ev_bindc (a := (-1, -1, 0)) rfl (Ev.bind (refApply_ev (-1) (-1) 0 l (by have := hfl.1; omega) hm (by decide)) ?_))
    exact ev_neg (by simp) hn
theorem se_fit (n : Int) (h : -1 ≤ n ∧ n < 120) : ∀ l ∈ ([[n], [n, 5, 255], [n, 5, 256], [n, 2, 1, 2, 3, 4], [n, 2, 255, 256, 0], [n, 2, 1], [38, 5, n], [48, 2, n, n, n, 1]] : List (List Int)), Fit l := by
  intro l hl
  simp only [List.mem_cons, List.not_mem_nil, or_false] at hl
  rcases hl with rfl | rfl | rfl | rfl | rfl | rfl | rfl | rfl <;> refine ⟨by simp, fun m hm => ?_⟩ <;> simp only [List.mem_cons, List.not_mem_nil, or_false] at hm <;> omega
theorem se_l0 (A : List S56) (L : List (List Int)) : ∀ (d : Nat) (n : Int), -1 ≤ n → n + d = 120 → Ev (fun k => beaconlaw4_SgrEach.l0 k n A L 300 7 255) true := by
  intro d
  induction d with
  | zero =>
    intro n hn hd
    refine Ev.step (fun k => by rw [beaconlaw4_SgrEach.l0]) ?_
    exact ev_neg (by omega) (ev_pos (by omega) (ev_bindc wakes_f (ev_cst rfl)))
  | succ d ih =>
    intro n hn hd
    have hgo := ih (n + 1) (by omega) (by omega)
    rw [← wrap_in (x := n + 1) (by omega) (by omega)] at hgo
    refine Ev.step (fun k => by rw [beaconlaw4_SgrEach.l0]) ?_
    exact ev_pos (by omega) (se_l1 A L n _ (by simp) (se_fit n ⟨hn, by omega⟩) hgo 8 0 rfl)
end Se
open Se in
theorem SgrEach : beaconlaw4_SgrEach.Pure := by
  rintro ⟨A, L⟩ _
  exact Ev.rounds (se_l0 A L 121 (-1) (by omega) (by omega))
end Go.Proofs.Ytadjhnlbpgknfaa.Pure
