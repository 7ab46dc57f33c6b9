/- SgrBack, the plain side: an attribute's own numbers make it, of whatever was there. -/
import Derived.Test.YtadjhnlbpgknfaaPSaySgrBack
import Derived.Test.YtadjhnlbpgknfaaPz
set_option linter.unusedSimpArgs false
set_option linter.unusedVariables false
namespace Go.Proofs.Ytadjhnlbpgknfaa.Pure
open Go.RowKit Go.Proofs.Ytadjhnlbpgknfaa.P Go.Proofs.YtadjhnlbpgknfaaW.PrintWords Go.Proofs.YtadjhnlbpgknfaaW.PrintLast Go.Proofs.YtadjhnlbpgknfaaW.PrintMore Go.Proofs.Ytadjhnlbpgknfaa.Pz
namespace Sb

def col (n : Int) : Bool := decide (-1 ≤ n ∧ n < 16777472)
def mayA (a b c : Int) : Bool := col a && (col b && decide (0 ≤ c ∧ c < 256))
theorem colour_f (n : Int) : sgr_colour.f n = some (col n) := by
  unfold sgr_colour.f col
  split <;> simp <;> omega
theorem may_f (a b c : Int) : sgr_May.f a b c = some (mayA a b c) := by
  unfold sgr_May.f mayA
  rw [colour_f, colour_f]
  simp only [Option.bind_some]
  cases col a <;> cases col b <;> simp
  by_cases h : 0 ≤ c <;> simp [h]
theorem check_f (a b c : Int) : sgr_Check.f a b c = some (if mayA a b c then 0 else 1) := by
  unfold sgr_Check.f
  rw [may_f]
  cases mayA a b c <;> rfl
abbrev fls : List Int := [1, 2, 3, 4, 5, 7, 8, 9]
/-- The flags' numbers of c, from the i-th on. -/
def flOf (c : Int) (i : Nat) : List Int := (fls.drop i).zipIdx i |>.filterMap fun p => if Go.bits .and .i64 (shr .i64 c p.2) 1 = 1 then some p.1 else none
def orAll (z : Int) : List Int → Int
  | [] => z
  | n :: l => orAll (Go.bits .or .i64 z (shl .i64 1 ((fls.idxOf n : Nat)))) l
theorem doL_flags (x y : Int) (rest : List Int) : ∀ (m : List Int) (k : Nat) (z : Int), (∀ n ∈ m, n ∈ fls) → doL (k + m.length) x y z (m ++ rest) = doL k x y (orAll z m) rest
  | [], k, z, _ => rfl
  | n :: m, k, z, h => by
    have hn := h n List.mem_cons_self
    have h0 : n ≠ 0 ∧ n ≠ 38 ∧ n ≠ 48 := by
      simp only [fls, List.mem_cons, List.not_mem_nil, or_false] at hn
      omega
    rw [List.length_cons, ← Nat.add_assoc, List.cons_append, doL, if_neg h0.1, if_neg h0.2.1, if_neg h0.2.2, if_pos hn]
    exact doL_flags x y rest m k _ (fun a ha => h a (List.mem_cons_of_mem _ ha))
theorem or_back : ∀ c : Fin 256, orAll 0 (flOf (c.val : Int) 0) = (c.val : Int) := by decide +kernel
theorem flOf_step (c : Int) {i : Nat} (h : i < 8) : flOf c i = (if Go.bits .and .i64 (shr .i64 c i) 1 = 1 then [fls.getD i 0] else []) ++ flOf c (i + 1) := by
  have h8 : i < fls.length := h
  unfold flOf
  rw [List.drop_eq_getElem_cons h8, List.zipIdx_cons, List.filterMap_cons]
  have e : fls.getD i 0 = fls[i] := by rw [List.getD_eq_getElem?_getD, List.getElem?_eq_getElem h8]; rfl
  split <;> rename_i hq
  · split at hq
    · cases hq
    · rename_i hb
      rw [if_neg hb]
      rfl
  · split at hq
    · rename_i hb
      rw [if_pos hb, e]
      simp only [Option.some.injEq] at hq
      rw [hq]
      rfl
    · cases hq
def sp (c b : Int) : List Int :=
  if c = -1 then [] else if c < 8 then [30 + b + c] else if c < 16 then [82 + b + c] else if c < 256 then [38 + b, 5, c] else [38 + b, 2, (c - 256) / 65536, (c - 256) / 256 % 256, (c - 256) % 256]
theorem spelt_f (c b : Int) (hc : col c = true) (hb : b = 0 ∨ b = 10) : sgr_spelt.f c b = some (sp c b) := by
  have h : -1 ≤ c ∧ c < 16777472 := by simpa [col] using hc
  unfold sgr_spelt.f sp
  split
  · rfl
  · split
    · rw [wrap_in (x := 30 + b) (by omega) (by omega), wrap_in (by omega) (by omega)]
    · split
      · rw [wrap_in (x := 90 + b) (by omega) (by omega), wrap_in (x := 90 + b + c) (by omega) (by omega), wrap_in (by omega) (by omega), show 90 + b + c - 8 = 82 + b + c by omega]
      · split
        · rw [wrap_in (by omega) (by omega)]
        · have e1 : (c - 256).tdiv 256 = (c - 256) / 256 := tdiv_pos (by omega) _
          have e2 : ((c - 256) / 256).tdiv 256 = (c - 256) / 256 / 256 := tdiv_pos (by omega) _
          have e3 : ((c - 256) / 256).tmod 256 = (c - 256) / 256 % 256 := tmod_pos (by omega) _
          have e4 : (c - 256).tmod 256 = (c - 256) % 256 := tmod_pos (by omega) _
          rw [wrap_in (x := 38 + b) (by omega) (by omega), wrap_in (x := c - 256) (by omega) (by omega), e1, wrap_in (x := (c - 256) / 256) (by omega) (by omega), e2, wrap_in (x := (c - 256) / 256 / 256) (by omega) (by omega), e3, e4, show (c - 256) / 256 / 256 = (c - 256) / 65536 by omega]
theorem sp_len (c b : Int) : (sp c b).length ≤ 5 := by
  unfold sp
  repeat' split
  all_goals simp
theorem flOf_len (c : Int) (i : Nat) : (flOf c i).length ≤ 8 := by
  unfold flOf
  refine Nat.le_trans (List.length_filterMap_le _ _) ?_
  simp [fls]
theorem line_l0 (a b c : Int) (ha : col a = true) (hb : col b = true) : ∀ (d i : Nat), i + d = 8 → ∀ acc : List Int, acc.length + d ≤ 20 →
    Ev (fun k => sgr_Line.l0 k acc fls 8 (i : Int) a b c) (acc ++ flOf c i ++ (sp a 0 ++ sp b 10), 0) := by
  intro d
  induction d with
  | zero =>
    intro i hi acc hl
    obtain rfl : i = 8 := by omega
    refine Ev.step (fun k => by rw [sgr_Line.l0]) ?_
    refine ev_neg (by decide) (ev_bindc (spelt_f a 0 ha (.inl rfl)) (ev_bindc (spelt_f b 10 hb (.inr rfl)) ?_))
    have h1 := sp_len a 0
    have h2 := sp_len b 10
    have hc : slices_Concat_int_int.f [acc, sp a 0, sp b 10] = some (acc ++ flOf c 8 ++ (sp a 0 ++ sp b 10)) := by
      unfold slices_Concat_int_int.f
      rw [if_pos (by simp; omega)]
      simp [flOf, fls]
    exact ev_bindc hc (ev_cst rfl)
  | succ d ih =>
    intro i hi acc hl
    have h8 : i < 8 := by omega
    refine Ev.step (fun k => by rw [sgr_Line.l0]) ?_
    refine ev_pos (by omega) (ev_pos (by omega) (ev_pos (by simp [fls]; omega) ?_))
    have er : rd fls (i : Int) = fls.getD i 0 := rfl
    rw [flOf_step c h8, wrap_in (x := (i : Int) + 1) (by omega) (by omega)]
    by_cases hbit : Go.bits .and .i64 (shr .i64 c i) 1 = 1
    · refine ev_pos hbit (ev_pos (by omega) ?_)
      rw [if_pos hbit]
      have hgo := ih (i + 1) (by omega) (acc ++ [fls.getD i 0]) (by simp; omega)
      rw [er]
      simpa [List.append_assoc] using hgo
    · refine ev_neg hbit ?_
      rw [if_neg hbit]
      exact ih (i + 1) (by omega) acc (by omega)
def lineOf (a b c : Int) : List Int := 0 :: (flOf c 0 ++ (sp a 0 ++ sp b 10))
theorem line_ev (a b c : Int) : Ev (fun k => sgr_Line.f k a b c) (if mayA a b c then (lineOf a b c, 0) else ([], 1)) := by
  unfold sgr_Line.f
  refine ev_bindc (may_f a b c) ?_
  cases h : mayA a b c with
  | false => exact ev_neg (by simp) (ev_cst rfl)
  | true =>
    have ha : col a = true := by simp only [mayA, Bool.and_eq_true] at h; exact h.1
    have hb : col b = true := by simp only [mayA, Bool.and_eq_true] at h; exact h.2.1
    exact ev_pos rfl (ev_bindc rfl (line_l0 a b c ha hb 8 0 rfl [0] (by simp)))
theorem andNot0 : ∀ z : Fin 256, Go.bits .andNot .i64 (z.val : Int) 0 = (z.val : Int) := by decide +kernel
theorem andNot_0 {z : Int} (h : 0 ≤ z ∧ z < 256) : Go.bits .andNot .i64 z 0 = z := by
  have := andNot0 ⟨z.toNat, by omega⟩
  simpa [Int.toNat_of_nonneg h.1] using this
theorem less_0 {n : Int} (h : 30 ≤ n) : (sgr_less.f n).getD 0 = 0 := by
  unfold sgr_less.f
  rw [if_neg (by omega), if_neg (by omega), if_neg (by omega), if_neg (by omega), if_neg (by omega), if_neg (by omega), if_neg (by omega)]
  rfl
theorem not_fls {n : Int} (h : 10 ≤ n) : ¬ n ∈ fls := by
  simp only [fls, List.mem_cons, List.not_mem_nil, or_false]
  omega
theorem doL_fg (a y z : Int) (rest : List Int) (ha : col a = true) (hz : 0 ≤ z ∧ z < 256) (k : Nat) : ∃ q, doL (k + (sp a 0).length) (-1) y z (sp a 0 ++ rest) = doL (k + q) a y z rest := by
  have h : -1 ≤ a ∧ a < 16777472 := by simpa [col] using ha
  unfold sp
  split
  · rename_i h1
    subst h1
    exact ⟨0, rfl⟩
  · split
    · refine ⟨0, ?_⟩
      show doL (k + 1) (-1) y z ((30 + 0 + a) :: rest) = _
      rw [doL, if_neg (by omega), if_neg (by omega), if_neg (by omega), if_neg (not_fls (by omega)), if_neg (by omega), less_0 (by omega), andNot_0 hz]
      congr 1
      rw [groundF, if_pos (by omega)]
      omega
    · split
      · refine ⟨0, ?_⟩
        show doL (k + 1) (-1) y z ((82 + 0 + a) :: rest) = _
        rw [doL, if_neg (by omega), if_neg (by omega), if_neg (by omega), if_neg (not_fls (by omega)), if_neg (by omega), less_0 (by omega), andNot_0 hz]
        congr 1
        rw [groundF, if_neg (by omega), if_pos (by omega)]
        omega
      · split
        · refine ⟨2, ?_⟩
          show doL (k + 2 + 1) (-1) y z ((38 + 0) :: 5 :: a :: rest) = _
          have hl : longF (-1) (5 :: a :: rest) = (a, 2) := by
            rw [longF, if_pos (by simp [rd])]
            simp [rd]
            omega
          rw [doL, if_neg (by decide), if_pos (by decide), hl]
          rfl
        · refine ⟨4, ?_⟩
          show doL (k + 4 + 1) (-1) y z ((38 + 0) :: 2 :: (a - 256) / 65536 :: (a - 256) / 256 % 256 :: (a - 256) % 256 :: rest) = _
          have hl : longF (-1) (2 :: (a - 256) / 65536 :: (a - 256) / 256 % 256 :: (a - 256) % 256 :: rest) = (a, 4) := by
            rw [longF, if_neg (by simp [rd]), if_pos (by simp [rd]), if_pos (by simp [rd]; omega)]
            simp [rd]
            omega
          rw [doL, if_neg (by decide), if_pos (by decide), hl]
          rfl
theorem doL_bg (x b z : Int) (rest : List Int) (hb : col b = true) (k : Nat) : ∃ q, doL (k + (sp b 10).length) x (-1) z (sp b 10 ++ rest) = doL (k + q) x b z rest := by
  have h : -1 ≤ b ∧ b < 16777472 := by simpa [col] using hb
  unfold sp
  split
  · rename_i h1
    subst h1
    exact ⟨0, rfl⟩
  · split
    · refine ⟨0, ?_⟩
      show doL (k + 1) x (-1) z ((30 + 10 + b) :: rest) = _
      rw [doL, if_neg (by omega), if_neg (by omega), if_neg (by omega), if_neg (not_fls (by omega)), if_pos (by omega)]
      congr 1
      rw [groundF, if_pos (by omega)]
      omega
    · split
      · refine ⟨0, ?_⟩
        show doL (k + 1) x (-1) z ((82 + 10 + b) :: rest) = _
        rw [doL, if_neg (by omega), if_neg (by omega), if_neg (by omega), if_neg (not_fls (by omega)), if_pos (by omega)]
        congr 1
        rw [groundF, if_neg (by omega), if_pos (by omega)]
        omega
      · split
        · refine ⟨2, ?_⟩
          show doL (k + 2 + 1) x (-1) z ((38 + 10) :: 5 :: b :: rest) = _
          have hl : longF (-1) (5 :: b :: rest) = (b, 2) := by
            rw [longF, if_pos (by simp [rd])]
            simp [rd]
            omega
          rw [doL, if_neg (by decide), if_neg (by decide), if_pos (by decide), hl]
          rfl
        · refine ⟨4, ?_⟩
          show doL (k + 4 + 1) x (-1) z ((38 + 10) :: 2 :: (b - 256) / 65536 :: (b - 256) / 256 % 256 :: (b - 256) % 256 :: rest) = _
          have hl : longF (-1) (2 :: (b - 256) / 65536 :: (b - 256) / 256 % 256 :: (b - 256) % 256 :: rest) = (b, 4) := by
            rw [longF, if_neg (by simp [rd]), if_pos (by simp [rd]), if_pos (by simp [rd]; omega)]
            simp [rd]
            omega
          rw [doL, if_neg (by decide), if_neg (by decide), if_pos (by decide), hl]
          rfl
theorem flOf_mem {c n : Int} (h : n ∈ flOf c 0) : n ∈ fls := by
  unfold flOf at h
  obtain ⟨⟨u, i⟩, hp, hq⟩ := List.mem_filterMap.1 h
  split at hq
  · obtain rfl := Option.some.inj hq
    have := List.mem_zipIdx hp
    rw [this.2.2]
    exact List.mem_of_mem_drop (List.getElem_mem _)
  · cases hq
theorem sp_mem {c b n : Int} (hc : col c = true) (hb : b = 0 ∨ b = 10) (h : n ∈ sp c b) : 0 ≤ n ∧ n ≤ 9999 := by
  have hh : -1 ≤ c ∧ c < 16777472 := by simpa [col] using hc
  unfold sp at h
  repeat' split at h
  all_goals simp only [List.mem_cons, List.not_mem_nil, or_false] at h
  all_goals omega
theorem line_mem {a b c n : Int} (ha : col a = true) (hb : col b = true) (h : n ∈ lineOf a b c) : 0 ≤ n ∧ n ≤ 9999 := by
  unfold lineOf at h
  rcases List.mem_cons.1 h with rfl | h
  · omega
  · rcases List.mem_append.1 h with h | h
    · have := flOf_mem h
      simp only [fls, List.mem_cons, List.not_mem_nil, or_false] at this
      omega
    · rcases List.mem_append.1 h with h | h
      · exact sp_mem ha (.inl rfl) h
      · exact sp_mem hb (.inr rfl) h
theorem line_len (a b c : Int) : (lineOf a b c).length ≤ 19 := by
  have h1 := flOf_len c 0
  have h2 := sp_len a 0
  have h3 := sp_len b 10
  simp only [lineOf, List.length_cons, List.length_append]
  omega
theorem doF_line (x y z a b c : Int) (h : mayA a b c = true) : doF x y z (lineOf a b c) = (a, b, c) := by
  simp only [mayA, Bool.and_eq_true, decide_eq_true_eq] at h
  obtain ⟨ha, hb, hc⟩ := h
  have hM : doM (lineOf a b c) = lineOf a b c := by
    unfold doM
    rw [if_neg (by simp [lineOf])]
    conv => rhs; rw [← List.map_id (lineOf a b c)]
    refine List.map_congr_left fun n hn => ?_
    have := (line_mem ha hb hn).1
    simp only [id_eq]
    omega
  have hor : orAll 0 (flOf c 0) = c := by
    have := or_back ⟨c.toNat, by omega⟩
    simpa [Int.toNat_of_nonneg hc.1] using this
  unfold doF
  rw [hM]
  show doL ((flOf c 0 ++ (sp a 0 ++ sp b 10)).length + 1 + 1) x y z (0 :: (flOf c 0 ++ (sp a 0 ++ sp b 10))) = _
  rw [doL, if_pos rfl, show (flOf c 0 ++ (sp a 0 ++ sp b 10)).length + 1 = (1 + (sp b 10).length + (sp a 0).length) + (flOf c 0).length by simp only [List.length_append]; omega]
  rw [doL_flags _ _ _ _ _ _ (fun n hn => flOf_mem hn), hor]
  obtain ⟨q, hq⟩ := doL_fg a (-1) c (sp b 10) ha hc (1 + (sp b 10).length)
  rw [hq]
  obtain ⟨q', hq'⟩ := doL_bg a b c [] hb (1 + q)
  rw [List.append_nil] at hq'
  rw [show 1 + (sp b 10).length + q = 1 + q + (sp b 10).length by omega, hq', show 1 + q + q' = q + q' + 1 by omega]
  rfl
theorem apply_f (p q r a b c : Int) (h : mayA a b c = true) : sgr_Apply.f p q r (lineOf a b c) = some (if mayA p q r then (a, b, c, 0) else (0, 0, 0, 1)) := by
  have h' := h
  simp only [mayA, Bool.and_eq_true, decide_eq_true_eq] at h'
  obtain ⟨ha, hb, hc⟩ := h'
  have hl := line_len a b c
  unfold sgr_Apply.f
  rw [may_f, Option.bind_some]
  cases mayA p q r with
  | false => rfl
  | true =>
    have hbad : (lineOf a b c).any badN = false := by
      rw [List.any_eq_false]
      intro n hn
      have := line_mem ha hb hn
      simp [badN]
      omega
    rw [if_pos ⟨rfl, by omega, hbad⟩]
    unfold sgr_Do.f
    rw [if_pos ⟨by omega, fun n hn => by have := line_mem ha hb hn; omega⟩, doF_line _ _ _ _ _ _ h]
    rfl
theorem wakes_f : beaconlaw4_wakes.f = some true := by decide +kernel
theorem num (a : Int) : beaconlaw4_num.f a = some a := rfl
theorem l1_ev (A : List S56) (L : List (List Int)) (hA : A.length ≤ 1500) (i : Int) (h0 : 0 ≤ i) (hi : i < A.length) (h : mayA (rd_T56 A i).f0 (rd_T56 A i).f1 (rd_T56 A i).f2 = true) (hgo : Ev (fun k => beaconlaw4_SgrBack.l0 k (i + 1) A L) true) : ∀ (d : Nat) (j : Int), 0 ≤ j → j + d = A.length →
    Ev (fun k => beaconlaw4_SgrBack.l1 k i (lineOf (rd_T56 A i).f0 (rd_T56 A i).f1 (rd_T56 A i).f2) j A L) true := by
  intro d
  induction d with
  | zero =>
    intro j hj hd
    refine Ev.step (fun k => by rw [beaconlaw4_SgrBack.l1]) ?_
    refine ev_neg (by omega) ?_
    refine Ev.step (fun k => by rw [beaconlaw4_SgrBack.j3]) ?_
    rw [wrap_in (x := i + 1) (by omega) (by omega)]
    exact ev_neg (by simp) hgo
  | succ d ih =>
    intro j hj hd
    have hn := ih (j + 1) (by omega) (by omega)
    rw [← wrap_in (x := j + 1) (by omega) (by omega)] at hn
    refine Ev.step (fun k => by rw [beaconlaw4_SgrBack.l1]) ?_
    refine ev_pos (by omega) ?_
    refine Ev.step (fun k => by rw [beaconlaw4_SgrBack.j3]) ?_
    by_cases h6 : j < 6
    · refine ev_pos (by simpa using h6) (ev_pos hj (ev_pos (by omega) (ev_bindc (apply_f _ _ _ _ _ _ h) (ev_bindc (check_f _ _ _) (ev_bindc (num _) ?_)))))
      cases hm : mayA (rd_T56 A j).f0 (rd_T56 A j).f1 (rd_T56 A j).f2 with
      | false => exact ev_neg (by simp) hn
      | true => exact ev_pos (by simp) (ev_bindc (num _) (ev_pos rfl (ev_pos h0 (ev_pos (by omega) (ev_neg (by simp) hn)))))
    · rw [wrap_in (x := i + 1) (by omega) (by omega)]
      exact ev_neg (by simpa using h6) hgo
theorem l0_ev (A : List S56) (L : List (List Int)) (hA : A.length ≤ 1500) : ∀ (d : Nat) (i : Int), 0 ≤ i → i + d = A.length → Ev (fun k => beaconlaw4_SgrBack.l0 k i A L) true := by
  intro d
  induction d with
  | zero =>
    intro i h0 hd
    refine Ev.step (fun k => by rw [beaconlaw4_SgrBack.l0]) ?_
    refine ev_neg (by omega) ?_
    refine Ev.step (fun k => by rw [beaconlaw4_SgrBack.j1]) ?_
    exact ev_neg (by simp) (ev_bindc wakes_f (ev_cst rfl))
  | succ d ih =>
    intro i h0 hd
    have hn := ih (i + 1) (by omega) (by omega)
    refine Ev.step (fun k => by rw [beaconlaw4_SgrBack.l0]) ?_
    refine ev_pos (by omega) ?_
    refine Ev.step (fun k => by rw [beaconlaw4_SgrBack.j1]) ?_
    by_cases h6 : i < 6
    · refine ev_pos (by simpa using h6) (ev_pos h0 (ev_pos (by omega) (Ev.bind (line_ev _ _ _) (ev_bindc (num _) ?_))))
      cases hm : mayA (rd_T56 A i).f0 (rd_T56 A i).f1 (rd_T56 A i).f2 with
      | false =>
        rw [← wrap_in (x := i + 1) (by omega) (by omega)] at hn
        exact ev_neg (by simp) hn
      | true => exact ev_pos rfl (l1_ev A L hA i h0 (by omega) hm hn A.length 0 (by omega) (by omega))
    · exact ev_neg (by simpa using h6) (ev_bindc wakes_f (ev_cst rfl))
theorem heavy_l0 (A : List S56) (s : List (List Int)) (hl : s.length ≤ 5864062014801) (hb : ∀ y ∈ s, y.length ≤ 17592186043904) : ∀ (d : Nat) (n i : Int), 0 ≤ n → n ≤ 1000000000000000 → 0 ≤ i → i + d = s.length →
    ∃ b, Ev (fun k => beaconlaw4_Heavy.l0 k n i A s) b ∧ (b = false → n ≤ 1500) := by
  intro d
  induction d with
  | zero =>
    intro n i hn hn2 h0 h1
    refine ⟨decide (n > 1500), ?_, by simp⟩
    refine Ev.step (fun k => by rw [beaconlaw4_Heavy.l0]) ?_
    exact ev_neg (by omega) (ev_cst rfl)
  | succ d ih =>
    intro n i hn hn2 h0 h1
    by_cases h2 : n < 1048576
    · have hz := hb _ (rdOf_mem (d := ([] : List Int)) (xs := s) h0 (by omega))
      have e : rd_L8 s i = rdOf ([] : List Int) s i := rfl
      obtain ⟨b, hE, hx⟩ := ih (n + (rd_L8 s i).length) (i + 1) (by omega) (by rw [e]; omega) (by omega) (by omega)
      refine ⟨b, ?_, fun e => by have := hx e; omega⟩
      refine Ev.step (fun k => by rw [beaconlaw4_Heavy.l0]) ?_
      refine ev_pos (by omega) (ev_pos h2 (ev_pos h0 ?_))
      rw [wrap_in (x := n + _) (by omega) (by rw [e]; omega), wrap_in (x := i + 1) (by omega) (by omega)]
      exact hE
    · refine ⟨true, ?_, by simp⟩
      refine Ev.step (fun k => by rw [beaconlaw4_Heavy.l0]) ?_
      refine ev_pos (by omega) (ev_neg h2 (ev_cst ?_))
      rw [decide_eq_true (show n > 1500 by omega)]
end Sb
open Sb in
theorem SgrBack : beaconlaw4_SgrBack.Pure := by
  rintro ⟨A, L⟩ ⟨⟨g1, _, _⟩, g2, _, g3⟩
  simp only at g1 g2 g3
  obtain ⟨b, hE, hb⟩ := heavy_l0 A L (by omega) (fun y hy => by have := (g3 y hy).1; omega) L.length (A.length + L.length) 0 (by omega) (by omega) (by omega) (by omega)
  show ∃ k, beaconlaw4_SgrBack.f k A L = some true
  refine Ev.rounds ?_
  unfold beaconlaw4_SgrBack.f
  have hH : Ev (fun k => beaconlaw4_Heavy.f k A L) b := by
    unfold beaconlaw4_Heavy.f
    rw [wrap_in (by omega) (by omega)]
    exact hE
  refine Ev.bind (f := fun k t => _) hH ?_
  cases b with
  | true => exact ev_pos rfl (ev_cst rfl)
  | false =>
    have hl := hb rfl
    exact ev_neg (by simp) (l0_ev A L (by omega) A.length 0 (by omega) (by omega))
end Go.Proofs.Ytadjhnlbpgknfaa.Pure
