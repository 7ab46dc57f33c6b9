-- Laid by a program of this session (wip/tools/xp.py) over the kit's print.
import Derived.Test.YtadjhnlbpgknfaaE0
import Derived.Test.YtadjhnlbpgknfaaE2
namespace Go.Proofs.Ytadjhnlbpgknfaa.E
open Go.RowKit Go.Proofs.YtadjhnlbpgknfaaW.PrintWords Go.Proofs.YtadjhnlbpgknfaaW.PrintLast Go.Proofs.YtadjhnlbpgknfaaW.PrintMore
attribute [local go_sem] max2_int min2_int max_two min_two max_three min_three max_four min_four   -- for this text's walks alone
set_option linter.unusedVariables false
set_option linter.unusedSimpArgs false

/-! ### sgr_Do: function 76 (an extern) -/
/-! The two colours, by a pointer to the one of them. -/
theorem rdmem1 {xs : List Int} {i : Int} (h0 : 0 ≤ i) (h1 : i < xs.length) : rd xs i ∈ xs := by
  unfold rd
  rw [List.getD_eq_getElem?_getD, List.getElem?_eq_getElem (show i.toNat < xs.length by omega)]
  exact List.getElem_mem _
def groundF (c n : Int) : Int := if 30 ≤ n ∧ n ≤ 37 then n - 30 else if 90 ≤ n ∧ n ≤ 97 then n - 82 else if n = 39 then -1 else c
/-- What a call that may write one cell leaves. -/
def Put1 (g f : Nat) (c c' : Int) (w w' : World) : Prop := ∃ m, (w' = w.drewN m ∧ c' = c) ∨ w' = (w.setCell ⟨g, f, none⟩ (.int .i64 c')).drewN m
set_option maxRecDepth 100000 in
set_option maxHeartbeats 1000000 in
theorem ground (g f : Nat) (c n : Int) (w : World) (hc : w.cell? ⟨g, f, none⟩ = some (.int .i64 c)) (hf : w.frozen? ⟨g, f, none⟩ = false) :
    Calls Try.prog 100 #[.pointer (some ⟨g, f, none⟩), .int .i64 n] w fun e w' => e = .returned (.tuple #[]) ∧ Put1 g f c (groundF c n) w w' := by
  by_cases h1 : 30 ≤ n ∧ n ≤ 37
  · have ha := h1.1
    have hb := h1.2
    have hw : wrap64 (n - 30) = n - 30 := by unfold wrap64; omega
    have e : groundF c n = n - 30 := if_pos h1
    rw [e]
    clear e h1
    go_enter Try.func100, Try.ntmps100
    go_wp2
    (first | go_end0 | ((try simp only [Exit.inBlock, Exit.then]); refine bodyPost_ret (results_none rfl _ _ _) rfl ?_))
    exact ⟨rfl, 0, .inr rfl⟩
  · by_cases h2 : 90 ≤ n ∧ n ≤ 97
    · have ha := h2.1
      have hb := h2.2
      have hn : ¬ n ≤ 37 := by omega
      have hw : wrap64 (n - 90) = n - 90 := by unfold wrap64; omega
      have hw2 : wrap64 (n - 90 + 8) = n - 90 + 8 := by unfold wrap64; omega
      have e : groundF c n = n - 90 + 8 := by rw [groundF, if_neg h1, if_pos h2]; omega
      rw [e]
      clear e h1 h2
      go_enter Try.func100, Try.ntmps100
      go_wp2
      (first | go_end0 | ((try simp only [Exit.inBlock, Exit.then]); refine bodyPost_ret (results_none rfl _ _ _) rfl ?_))
      exact ⟨rfl, 0, .inr rfl⟩
    · by_cases h3 : n = 39
      · subst h3
        go_enter Try.func100, Try.ntmps100
        go_wp2
        (first | go_end0 | ((try simp only [Exit.inBlock, Exit.then]); refine bodyPost_ret (results_none rfl _ _ _) rfl ?_))
        exact ⟨rfl, 0, .inr rfl⟩
      · have hb3 : (n == 39) = false := by simpa using h3
        have e : groundF c n = c := by rw [groundF, if_neg h1, if_neg h2, if_neg h3]
        rw [e]
        by_cases h4 : 30 ≤ n
        · have h5 : ¬ n ≤ 37 := fun h => h1 ⟨h4, h⟩
          by_cases h6 : 90 ≤ n
          · have h7 : ¬ n ≤ 97 := fun h => h2 ⟨h6, h⟩
            clear e h1 h2 h3
            go_enter Try.func100, Try.ntmps100
            go_wp2
            (first | go_end0 | ((try simp only [Exit.inBlock, Exit.then]); refine bodyPost_ret (results_none rfl _ _ _) rfl ?_))
            exact ⟨rfl, 0, .inl ⟨rfl, rfl⟩⟩
          · clear e h1 h2 h3
            go_enter Try.func100, Try.ntmps100
            go_wp2
            (first | go_end0 | ((try simp only [Exit.inBlock, Exit.then]); refine bodyPost_ret (results_none rfl _ _ _) rfl ?_))
            exact ⟨rfl, 0, .inl ⟨rfl, rfl⟩⟩
        · have h6 : ¬ 90 ≤ n := by omega
          clear e h1 h2 h3
          go_enter Try.func100, Try.ntmps100
          go_wp2
          (first | go_end0 | ((try simp only [Exit.inBlock, Exit.then]); refine bodyPost_ret (results_none rfl _ _ _) rfl ?_))
          exact ⟨rfl, 0, .inl ⟨rfl, rfl⟩⟩
/-- What the numbers behind 38, 48 say: the colour, how many they are. -/
def longF (c : Int) (l : List Int) : Int × Int :=
  if 1 < l.length ∧ rd l 0 = 5 then (if rd l 1 < 256 then rd l 1 else c, 2)
  else if 3 < l.length ∧ rd l 0 = 2 then (if rd l 1 < 256 ∧ rd l 2 < 256 ∧ rd l 3 < 256 then 256 + (rd l 1 * 256 + rd l 2) * 256 + rd l 3 else c, 4)
  else (c, l.length)
def LongPost (g f : Nat) (c : Int) (l : List Int) (w : World) (e : Ending) (w' : World) : Prop := e = .returned (.int .i64 (longF c l).2) ∧ Put1 g f c (longF c l).1 w w'
set_option maxRecDepth 100000 in
set_option maxHeartbeats 2000000 in
theorem long (g f : Nat) (c : Int) (A : Option Addr) (cp : Nat) (l : List Int) (w : World) (hc : w.cell? ⟨g, f, none⟩ = some (.int .i64 c)) (hf : w.frozen? ⟨g, f, none⟩ = false)
    (hr : Kd.C (Kd.int .i64) w A l.length l) (hl : l.length ≤ 1000) (h0 : ∀ x ∈ l, 0 ≤ x ∧ x < 100000) :
    Calls Try.prog 99 #[.pointer (some ⟨g, f, none⟩), .slice A l.length cp] w (LongPost g f c l w) := by
  have at0 : ∀ i : Int, 0 ≤ i → i < l.length → ∃ ad, A = some ad ∧ w.cell? (ad.add i.toNat) = some (.int .i64 (rd l i)) := fun i h1 h2 => Kd.at_int hr i h1 h2
  have hm : ∀ i : Int, 0 ≤ i → i < l.length → 0 ≤ rd l i ∧ rd l i < 100000 := fun i h1 h2 => h0 _ (rdmem1 h1 h2)
  have HC := Aside0.mk hm
  have z0 : ∀ ad : Addr, ad.add ((0 : Int).toNat) = ad := fun ad => by simp [Addr.add]
  by_cases h1 : 1 < l.length ∧ rd l 0 = 5
  · have ha : (1 : Int) < l.length := by omega
    obtain ⟨ad, rfl, hx0⟩ := at0 0 (by omega) (by omega)
    obtain ⟨ad', e', hx1⟩ := at0 1 (by omega) (by omega)
    cases e'
    rw [z0, h1.2] at hx0
    have hx1' : w.cell? { block := ad.block, off := ad.off + 1 } = some (.int .i64 (rd l 1)) := hx1
    by_cases h2 : rd l 1 < 256
    · have e : longF c l = (rd l 1, 2) := by rw [longF, if_pos h1, if_pos h2]
      unfold LongPost
      rw [e]
      clear e h1 hr at0 h0 hm hx1
      go_enter Try.func99, Try.ntmps99
      go_wp2
      go_ret
      exact ⟨rfl, 0, .inr rfl⟩
    · have e : longF c l = (c, 2) := by rw [longF, if_pos h1, if_neg h2]
      unfold LongPost
      rw [e]
      clear e h1 hr at0 h0 hm hx1
      go_enter Try.func99, Try.ntmps99
      go_wp2
      go_ret
      exact ⟨rfl, 0, .inl ⟨rfl, rfl⟩⟩
  · by_cases h3 : 3 < l.length ∧ rd l 0 = 2
    · have ha : (1 : Int) < l.length := by omega
      have hb : (3 : Int) < l.length := by omega
      have ha1 : (2 : Int) < l.length := by omega
      obtain ⟨ad, rfl, hx0⟩ := at0 0 (by omega) (by omega)
      obtain ⟨ad', e', hx1⟩ := at0 1 (by omega) (by omega)
      cases e'
      obtain ⟨ad', e', hx2⟩ := at0 2 (by omega) (by omega)
      cases e'
      obtain ⟨ad', e', hx3⟩ := at0 3 (by omega) (by omega)
      cases e'
      rw [z0, h3.2] at hx0
      have hx1' : w.cell? { block := ad.block, off := ad.off + 1 } = some (.int .i64 (rd l 1)) := hx1
      have hx2' : w.cell? { block := ad.block, off := ad.off + 2 } = some (.int .i64 (rd l 2)) := hx2
      have hx3' : w.cell? { block := ad.block, off := ad.off + 3 } = some (.int .i64 (rd l 3)) := hx3
      have m1 := hm 1 (by omega) (by omega)
      have m2 := hm 2 (by omega) (by omega)
      have m3 := hm 3 (by omega) (by omega)
      by_cases h4 : rd l 1 < 256 ∧ rd l 2 < 256 ∧ rd l 3 < 256
      · have e : longF c l = (256 + (rd l 1 * 256 + rd l 2) * 256 + rd l 3, 4) := by rw [longF, if_neg h1, if_pos h3, if_pos h4]
        have hM : decide ((if (if rd l 1 < rd l 2 then rd l 2 else rd l 1) < rd l 3 then rd l 3 else if rd l 1 < rd l 2 then rd l 2 else rd l 1) < 256) = true := by
          rw [decide_eq_true_eq]
          split <;> (try split) <;> omega
        have w1 : wrap64 (rd l 1 * 256) = rd l 1 * 256 := by unfold wrap64; omega
        have w2 : wrap64 (rd l 1 * 256 + rd l 2) = rd l 1 * 256 + rd l 2 := by unfold wrap64; omega
        have w3 : wrap64 ((rd l 1 * 256 + rd l 2) * 256) = (rd l 1 * 256 + rd l 2) * 256 := by unfold wrap64; omega
        have w4 : wrap64 (256 + (rd l 1 * 256 + rd l 2) * 256) = 256 + (rd l 1 * 256 + rd l 2) * 256 := by unfold wrap64; omega
        have w5 : wrap64 (256 + (rd l 1 * 256 + rd l 2) * 256 + rd l 3) = 256 + (rd l 1 * 256 + rd l 2) * 256 + rd l 3 := by unfold wrap64; omega
        unfold LongPost
        rw [e]
        clear e h1 h3 hr at0 h0 hm hx1 hx2 hx3 m1 m2 m3 h4
        go_enter Try.func99, Try.ntmps99
        go_wp2
        go_region
        go_wp2
        all_goals (go_region; go_wp2; go_ret; exact ⟨rfl, 2, .inr rfl⟩)
      · have e : longF c l = (c, 4) := by rw [longF, if_neg h1, if_pos h3, if_neg h4]
        have hM : decide ((if (if rd l 1 < rd l 2 then rd l 2 else rd l 1) < rd l 3 then rd l 3 else if rd l 1 < rd l 2 then rd l 2 else rd l 1) < 256) = false := by
          rw [decide_eq_false_iff_not]
          split <;> (try split) <;> omega
        unfold LongPost
        rw [e]
        clear e h1 h3 hr at0 h0 hm hx1 hx2 hx3 m1 m2 m3 h4
        go_enter Try.func99, Try.ntmps99
        go_wp2
        go_region
        go_wp2
        all_goals (go_ret; exact ⟨rfl, 1, .inl ⟨rfl, rfl⟩⟩)
    · have e : longF c l = (c, (l.length : Int)) := by rw [longF, if_neg h1, if_neg h3]
      unfold LongPost
      rw [e]
      clear e
      by_cases h4 : 1 < l.length
      · have ha : (1 : Int) < l.length := by omega
        obtain ⟨ad, rfl, hx0⟩ := at0 0 (by omega) (by omega)
        rw [z0] at hx0
        have hb5 : (rd l 0 == 5) = false := by simpa using fun h => h1 ⟨h4, h⟩
        by_cases h6 : 3 < l.length
        · have hb : (3 : Int) < l.length := by omega
          have hb2 : (rd l 0 == 2) = false := by simpa using fun h => h3 ⟨h6, h⟩
          clear h1 h3 hr at0 h0 hm
          go_enter Try.func99, Try.ntmps99
          go_wp2
          go_ret
          exact ⟨rfl, 0, .inl ⟨rfl, rfl⟩⟩
        · have hb : ¬ (3 : Int) < l.length := by omega
          clear h1 h3 hr at0 h0 hm
          go_enter Try.func99, Try.ntmps99
          go_wp2
          go_ret
          exact ⟨rfl, 0, .inl ⟨rfl, rfl⟩⟩
      · have ha : ¬ (1 : Int) < l.length := by omega
        have hb : ¬ (3 : Int) < l.length := by omega
        clear h1 h3 hr at0 h0 hm
        go_enter Try.func99, Try.ntmps99
        go_wp2
        go_ret
        exact ⟨rfl, 0, .inl ⟨rfl, rfl⟩⟩
def doL : Nat → Int → Int → Int → List Int → Int × Int × Int
  | 0, x, y, z, _ => (x, y, z)
  | _ + 1, x, y, z, [] => (x, y, z)
  | k + 1, x, y, z, n :: l =>
    if n = 0 then doL k (-1) (-1) 0 l
    else if n = 38 then doL k (longF x l).1 y z (l.drop (longF x l).2.toNat)
    else if n = 48 then doL k x (longF y l).1 z (l.drop (longF y l).2.toNat)
    else if n ∈ ([1, 2, 3, 4, 5, 7, 8, 9] : List Int) then doL k x y (Go.bits .or .i64 z (shl .i64 1 (([1, 2, 3, 4, 5, 7, 8, 9] : List Int).idxOf n : Nat))) l
    else if (40 ≤ n ∧ n ≤ 49) ∨ (100 ≤ n ∧ n ≤ 107) then doL k x (groundF y (n - 10)) z l
    else doL k (groundF x n) y (Go.bits .andNot .i64 z ((sgr_less.f n).getD 0)) l
def doM (l : List Int) : List Int := if l = [] then [0] else l.map (max 0)
def doF (x y z : Int) (l : List Int) : Int × Int × Int := doL ((doM l).length + 1) x y z (doM l)
/-- Where Do stands: its variable and its result, both new. -/
def DSt (g g4 : Nat) (w W : World) (x y z : Int) : Prop :=
  W.heap[g]? = some (.cells #[.int .i64 x, .int .i64 y, .int .i64 z] 56 (0, 0)) ∧ W.heap[g4]? = some (.cells #[.int .i64 0, .int .i64 0, .int .i64 0] 56 (0, 0)) ∧ g ≠ g4 ∧ w.heap.size ≤ g ∧ w.heap.size ≤ g4 ∧ Below w.heap.size w W
theorem DSt.step {g g4 : Nat} {w W W1 : World} {x y z : Int} (s : DSt g g4 w W x y z) (hb : Below W.heap.size W W1) : DSt g g4 w W1 x y z :=
  ⟨blk_below s.1 hb, blk_below s.2.1 hb, s.2.2.1, s.2.2.2.1, s.2.2.2.2.1, below_step s.2.2.2.2.2 hb⟩
theorem DSt.cells {g g4 : Nat} {w W : World} {x y z : Int} (s : DSt g g4 w W x y z) :
    (W.cell? ⟨g, 0, none⟩ = some (.int .i64 x) ∧ W.cell? ⟨g, 1, none⟩ = some (.int .i64 y) ∧ W.cell? ⟨g, 2, none⟩ = some (.int .i64 z)) ∧
      (W.frozen? ⟨g, 0, none⟩ = false ∧ W.frozen? ⟨g, 1, none⟩ = false ∧ W.frozen? ⟨g, 2, none⟩ = false) ∧
    (W.cell? ⟨g4, 0, none⟩ = some (.int .i64 0) ∧ W.cell? ⟨g4, 1, none⟩ = some (.int .i64 0) ∧ W.cell? ⟨g4, 2, none⟩ = some (.int .i64 0)) ∧
      (W.frozen? ⟨g4, 0, none⟩ = false ∧ W.frozen? ⟨g4, 1, none⟩ = false ∧ W.frozen? ⟨g4, 2, none⟩ = false) :=
  ⟨⟨(blk_cell s.1 0).trans rfl, (blk_cell s.1 1).trans rfl, (blk_cell s.1 2).trans rfl⟩, ⟨blk_frozen s.1 0, blk_frozen s.1 1, blk_frozen s.1 2⟩, ⟨(blk_cell s.2.1 0).trans rfl, (blk_cell s.2.1 1).trans rfl, (blk_cell s.2.1 2).trans rfl⟩, blk_frozen s.2.1 0, blk_frozen s.2.1 1, blk_frozen s.2.1 2⟩
theorem DSt.put0 {g g4 : Nat} {w W : World} {x y z : Int} (s : DSt g g4 w W x y z) (u : Int) : DSt g g4 w (W.setCell ⟨g, 0, none⟩ (.int .i64 u)) u y z :=
  ⟨blk_put s.1 0 _ rfl, blk_far s.2.1 s.2.2.1.symm _, s.2.2.1, s.2.2.2.1, s.2.2.2.2.1, below_set s.2.2.2.2.2 s.2.2.2.1⟩
theorem DSt.put1 {g g4 : Nat} {w W : World} {x y z : Int} (s : DSt g g4 w W x y z) (u : Int) : DSt g g4 w (W.setCell ⟨g, 1, none⟩ (.int .i64 u)) x u z :=
  ⟨blk_put s.1 1 _ rfl, blk_far s.2.1 s.2.2.1.symm _, s.2.2.1, s.2.2.2.1, s.2.2.2.2.1, below_set s.2.2.2.2.2 s.2.2.2.1⟩
theorem DSt.put2 {g g4 : Nat} {w W : World} {x y z : Int} (s : DSt g g4 w W x y z) (u : Int) : DSt g g4 w (W.setCell ⟨g, 2, none⟩ (.int .i64 u)) x y u :=
  ⟨blk_put s.1 2 _ rfl, blk_far s.2.1 s.2.2.1.symm _, s.2.2.1, s.2.2.2.1, s.2.2.2.2.1, below_set s.2.2.2.2.2 s.2.2.2.1⟩
theorem DSt.drewN {g g4 : Nat} {w W : World} {x y z : Int} (s : DSt g g4 w W x y z) (m : Nat) : DSt g g4 w (W.drewN m) x y z := s.step (pw_below_drewN (Below.refl _ _) m)
theorem DSt.one0 {g g4 : Nat} {w W W1 : World} {x y z u : Int} (s : DSt g g4 w W x y z) (h : Put1 g 0 x u W W1) : DSt g g4 w W1 u y z := by
  obtain ⟨m, ⟨rfl, rfl⟩ | rfl⟩ := h
  · exact s.drewN m
  · exact (s.put0 u).drewN m
theorem DSt.one1 {g g4 : Nat} {w W W1 : World} {x y z u : Int} (s : DSt g g4 w W x y z) (h : Put1 g 1 y u W W1) : DSt g g4 w W1 x u z := by
  obtain ⟨m, ⟨rfl, rfl⟩ | rfl⟩ := h
  · exact s.drewN m
  · exact (s.put1 u).drewN m
theorem Put1.keep {g f : Nat} {c c' : Int} {w0 w w1 : World} (h : Put1 g f c c' w w1) (hk : KeepBut w0 w g none) : KeepBut w0 w1 g none := by
  obtain ⟨m, ⟨rfl, rfl⟩ | rfl⟩ := h
  · exact keep_drewN hk m
  · exact keep_drewN (hk.set_ f _) m
theorem DSt.far {g g4 g0 i : Nat} {w W : World} {x y z : Int} (s : DSt g g4 w W x y z) (h : g0 ≠ g ∧ g0 ≠ g4) (hb : w.heap.size ≤ g0) (u : Value) : DSt g g4 w (W.setCell ⟨g0, i, none⟩ u) x y z :=
  ⟨blk_far s.1 h.1.symm _, blk_far s.2.1 h.2.symm _, s.2.2.1, s.2.2.2.1, s.2.2.2.2.1, below_set s.2.2.2.2.2 hb⟩
theorem keep_below {w0 w w1 : World} {g : Nat} (h : KeepBut w0 w g none) (hb : Below w.heap.size w w1) : KeepBut w0 w1 g none := h.trans (KeepBut.of_below hb g none) (.inl rfl)
theorem less_some (n : Int) : sgr_less.f n = some ((sgr_less.f n).getD 0) := by
  unfold sgr_less.f
  repeat' split
  all_goals rfl
theorem shl_pow {ix : Nat} (h : ix < 8) : shl .i64 1 (ix : Int) = wrap64 (2 ^ ix) := by
  have : ix = 0 ∨ ix = 1 ∨ ix = 2 ∨ ix = 3 ∨ ix = 4 ∨ ix = 5 ∨ ix = 6 ∨ ix = 7 := by omega
  rcases this with rfl | rfl | rfl | rfl | rfl | rfl | rfl | rfl <;> decide +kernel
def lenOf : Value → Nat
  | .slice _ n _ => n
  | _ => 0
/-- The numbers, the first j of them lifted to 0. -/
def lift0 (l : List Int) (j : Nat) : List Int := (l.take j).map (max 0) ++ l.drop j
theorem lift0_len (l : List Int) (j : Nat) : (lift0 l j).length = l.length := by simp [lift0]; omega
theorem lift0_at {l : List Int} {j : Nat} (h : j < l.length) : rdOf 0 (lift0 l j) (j : Int) = l[j] := by
  unfold rdOf lift0
  rw [Int.toNat_natCast, List.getD_eq_getElem?_getD, List.getElem?_append_right (by simp; omega)]
  simp [Nat.min_eq_left (Nat.le_of_lt h), h]
theorem lift0_succ {l : List Int} {j : Nat} (h : j < l.length) : (lift0 l j).set j (if 0 < l[j] then l[j] else 0) = lift0 l (j + 1) := by
  have e : (if 0 < l[j] then l[j] else 0) = max 0 l[j] := by rw [Int.max_def]; split <;> split <;> omega
  rw [e]
  have hj : ((l.take j).map (max 0)).length = j := by simp; omega
  unfold lift0
  rw [List.set_append_right _ _ (by omega), hj, Nat.sub_self, List.drop_eq_getElem_cons h, List.set_cons_zero, List.take_succ_eq_append_getElem h, List.map_append, List.append_assoc]
  rfl
/-- Where the second loop stands; w1: where it began. -/
def DoRel (w w1 : World) (g g4 : Nat) (r : Int × Int × Int) (v5 : Value) (W : World) : Prop :=
  ∃ A c, ∃ m : List Int, ∃ x y z : Int, v5 = .slice A m.length c ∧ m.length ≤ 1000 ∧ m.length ≤ c ∧ (∀ W', KeepBut w1 W' g none → Kd.C (Kd.int .i64) W' A m.length m) ∧ KeepBut w1 W g none ∧ DSt g g4 w W x y z ∧ (∃ k, m.length < k ∧ doL k x y z m = r) ∧ (∀ v ∈ m, 0 ≤ v ∧ v < 100000)
/-- What a round knows behind its number: the rest of the numbers. -/
structure DoIn (w1 : World) (g : Nat) (A : Option Addr) (c : Nat) (m : List Int) : Prop where
  len : m.length ≤ 1000
  cap : m.length ≤ c
  row : ∀ W', KeepBut w1 W' g none → Kd.C (Kd.int .i64) W' A m.length m
  all : ∀ v ∈ m, 0 ≤ v ∧ v < 100000
theorem DoRel.of {w w1 W : World} {g g4 : Nat} {r : Int × Int × Int} {A : Option Addr} {c k : Nat} {m : List Int} {x y z : Int} (h : DoIn w1 g A c m) (hk : m.length < k) (hd : doL k x y z m = r) (hK : KeepBut w1 W g none) (hS : DSt g g4 w W x y z) : DoRel w w1 g g4 r (.slice A m.length c) W :=
  ⟨A, c, m, x, y, z, rfl, h.len, h.cap, h.row, hK, hS, ⟨k, hk, hd⟩, h.all⟩
theorem DoIn.cut_eq {w1 : World} {g : Nat} {A : Option Addr} {m : List Int} {q : Nat} (h : DoIn w1 g A q m) (hq : q ≤ m.length) : DoIn w1 g A 0 (m.drop q) := by
  refine ⟨by have := h.len; simp; omega, by have := h.cap; simp; omega, fun W' hW' => ?_, fun v hv => h.all v (List.mem_of_mem_drop hv)⟩
  have := Kd.C_drop (m := q) (c := q) (h.row W' hW') hq h.cap
  rwa [if_pos rfl] at this
theorem DoIn.cut_ne {w1 : World} {g : Nat} {A : Option Addr} {c : Nat} {m : List Int} {q : Nat} (h : DoIn w1 g A c m) (hq : q ≤ m.length) (hc : ¬ c = q) : DoIn w1 g (A.map (·.add q)) (c - q) (m.drop q) := by
  refine ⟨by have := h.len; simp; omega, by have := h.cap; simp; omega, fun W' hW' => ?_, fun v hv => h.all v (List.mem_of_mem_drop hv)⟩
  have := Kd.C_drop (m := q) (c := c) (h.row W' hW') hq h.cap
  rw [if_neg hc] at this
  simpa [Kd.int, Kd.scalar] using this
theorem DoRel.cut_eq {w w1 W : World} {g g4 : Nat} {r : Int × Int × Int} {A : Option Addr} {k q : Nat} {m : List Int} {x y z : Int} (h : DoIn w1 g A q m) (hq : q ≤ m.length) (hk : m.length < k) (hd : doL k x y z (m.drop q) = r) (hK : KeepBut w1 W g none) (hS : DSt g g4 w W x y z) : DoRel w w1 g g4 r (.slice A 0 0) W := by
  have := DoRel.of (h.cut_eq hq) (by simp; omega) hd hK hS
  rwa [show (m.drop q).length = 0 by have := h.cap; simp; omega] at this
theorem DoRel.cut_ne {w w1 W : World} {g g4 : Nat} {r : Int × Int × Int} {A : Option Addr} {c k q : Nat} {m : List Int} {x y z : Int} (h : DoIn w1 g A c m) (hq : q ≤ m.length) (hc : ¬ c = q) (hk : m.length < k) (hd : doL k x y z (m.drop q) = r) (hK : KeepBut w1 W g none) (hS : DSt g g4 w W x y z) : DoRel w w1 g g4 r (.slice (A.map (·.add q)) (m.length - q) (c - q)) W := by
  have := DoRel.of (h.cut_ne hq hc) (by simp; omega) hd hK hS
  rwa [List.length_drop] at this
theorem longF_le (x : Int) (m : List Int) : ∃ q : Nat, (longF x m).2 = q ∧ q ≤ m.length := by
  unfold longF
  split
  · exact ⟨2, rfl, by omega⟩
  · split
    · exact ⟨4, rfl, by omega⟩
    · exact ⟨m.length, rfl, Nat.le_refl _⟩
def DoPost (x y z : Int) (w : World) (e : Ending) (w' : World) : Prop := e = .returned (.agg #[.int .i64 x, .int .i64 y, .int .i64 z]) ∧ Below w.heap.size w w'
set_option maxRecDepth 100000 in
set_option maxHeartbeats 8000000 in
theorem do0 (a0 a1 a2 : Int) (A : Option Addr) (cp : Nat) (l : List Int) (w : World) (hr : Kd.C (Kd.int .i64) w A l.length l) (hc : l.length ≤ cp) (hl : l.length ≤ 1000) (h0 : ∀ x ∈ l, x < 100000) :
    Calls Try.prog 76 #[.agg #[.int .i64 a0, .int .i64 a1, .int .i64 a2], .slice A l.length cp] w (DoPost (doF a0 a1 a2 l).1 (doF a0 a1 a2 l).2.1 (doF a0 a1 a2 l).2.2 w) := by
  have hu56 := Try.underlying56
  have HR := Aside0.mk hr
  have HC := Aside0.mk hc
  have H0 := Aside0.mk h0
  clear hr hc h0
  obtain ⟨r, hrr⟩ : ∃ r, r = doF a0 a1 a2 l := ⟨_, rfl⟩
  rw [← hrr]
  have HRR := Aside0.mk hrr
  clear hrr
  go_enter Try.func76, Try.ntmps76
  go_upto_region 1 with (first | ((with_reducible refine gate_dst (N := 2) rfl ?_); refine box_event ?hg (N := 2) ?hd (cs := #[.int .i64 a0, .int .i64 a1, .int .i64 a2]) (t := 56) ?hr ?_; (case hd => rfl); (case hg => rfl); (case hr => first | (go_simp; done) | (go_simp; rfl)); intro gb1 hg1 w4 hbox1 hb1; have G1 := Aside0.mk hg1; have X1 := Aside0.mk hbox1; have B1 := Aside0.mk hb1; clear hg1 hbox1 hb1) | ((with_reducible refine gate_dst (N := 4) rfl ?_); refine box_event ?hg (N := 4) ?hd (cs := #[.int .i64 0, .int .i64 0, .int .i64 0]) (t := 56) ?hr ?_; (case hd => rfl); (case hg => rfl); (case hr => first | (go_simp; done) | (go_simp; rfl)); intro gb2 hg2 w5 hbox2 hb2; have G2 := Aside0.mk hg2; have X2 := Aside0.mk hbox2; have B2 := Aside0.mk hb2; clear hg2 hbox2 hb2))
  (try simp only [Act.put, List.setIfInBounds_toArray, List.set_cons_zero, List.set_cons_succ])
  have HS : Aside0 (DSt gb1 gb2 w w5 a0 a1 a2) := by
    have s1 := blk_lt X1.out
    have e1 := G1.out
    have e2 := G2.out
    have z1 := B1.out.size
    exact ⟨⟨blk_below X1.out B2.out, X2.out, by omega, by omega, by omega, below_step B1.out B2.out⟩⟩
  clear G1 X1 B1 G2 X2 B2
  have hcl : slices_Clone_int_int.f l = some l := by unfold slices_Clone_int_int.f; simp; omega
  go_upto_region 2 with (go_at_call 94; refine (slices_Clone_int_int.calls A cp l l _ (by exact Kd.C_below HR.out HS.out.2.2.2.2.2) (by exact HC.out) hcl).mono ?_; rintro e w6 ⟨v0, rfl, ho, hb⟩; have HS6 := Aside0.mk (HS.out.step hb); have HO6 := Aside0.mk ho; clear hb ho)
  have HO7 : Aside0 (Kd.R (Kd.int .i64) 3 w6 w.heap.size (fun k => k ≠ gb1 ∧ k ≠ gb2) v0 l) := ⟨by
    have s1 := blk_lt HS.out.1
    have s2 := blk_lt HS.out.2.1
    exact Kd.R_lower (Kd.R_mono (Kd.R_bound HO6.out) (fun k hk => by
      have h2 : w5.heap.size ≤ k := hk.2.1
      exact ⟨by omega, by omega⟩)) (show w.heap.size ≤ w5.heap.size from HS.out.2.2.2.2.2.size)⟩
  obtain ⟨A1, c1, rfl⟩ := Kd.R_slice HO7.out
  clear HO6
  go_wp2
  go_loopw [12] (fun v12 w' => ∃ j : Nat, v12 = .int .i64 j ∧ j ≤ l.length ∧ Aside0 (DSt gb1 gb2 w w' a0 a1 a2) ∧ Aside0 (Kd.R (Kd.int .i64) 3 w' w.heap.size (fun k => k ≠ gb1 ∧ k ≠ gb2) (.slice A1 l.length c1) (lift0 l j))) (fun v _ => l.length - (intOf v).toNat)
  case atStart => exact ⟨0, rfl, Nat.zero_le _, HS6, ⟨by simpa [lift0] using HO7.out⟩⟩
  case round =>
    obtain ⟨j, rfl, hj, HSJ, HOJ⟩ := hrel
    by_cases hlt : j < l.length
    · obtain ⟨g0, c0, e0, hg0, hgl, _⟩ := Kd.R_form HOJ.out (by rw [lift0_len]; omega)
      have hl0 := lift0_len l j
      rw [hl0] at e0
      obtain ⟨rfl, rfl⟩ : A1 = some ⟨g0, 0, none⟩ ∧ c1 = c0 := by cases e0; exact ⟨rfl, rfl⟩
      obtain ⟨hx, hf0⟩ := Kd.R_celln 0 HOJ.out (j : Int) (by omega) (by omega)
      rw [Int.toNat_natCast] at hx hf0
      rw [lift0_at hlt] at hx
      have HP := Kd.R_putg HOJ.out (j : Int) (if 0 < l[j] then l[j] else 0)
      rw [Int.toNat_natCast, lift0_succ hlt] at HP
      have HP' := Aside0.mk HP
      have hne : g0 ≠ gb1 ∧ g0 ≠ gb2 := HOJ.out.1 g0 rfl
      have HNE := Aside0.mk hne
      clear HP hl0 e0 hne
      go_wp2

      exact ⟨⟨j + 1, rfl, by omega, ⟨HSJ.out.far HNE.out hg0 _⟩, ⟨HP'.out.1⟩⟩, by simp [intOf]; omega⟩
    · have hjl : j = l.length := by omega
      subst hjl
      have elift : lift0 l l.length = l.map (max 0) := by simp [lift0]
      rw [elift] at HOJ
      go_upto_if 26 with fail
      go_cut [5] (fun v5 wc => ∃ w1, Aside0 (DoRel w w1 gb1 gb2 r v5 wc))
      case first =>
        by_cases hnil : l = []
        · have hl0 : ((l.length : Int) == 0) = true := by simp [hnil]
          have hm0 : doM l = [0] := if_pos hnil
          have HD7 : doL (([0] : List Int).length + 1) a0 a1 a2 [0] = r := by rw [HRR.out, doF, hm0]
          (first | rw [hl0] | skip)
          clear hl0 hm0 hnil
          go_wp2_with (first | ((with_reducible refine gate_dst (N := 27) rfl ?_); refine Kd.R_lit (Kd.int .i64) _ 3 ?hg (N := 27) ?hd (xs := ([0] : List Int)) (inner := [.int .i64 0]) (ok := fun _ => True) (okp := fun _ => True) ?hr ?hp (fun _ hk => hk) trivial (Below.refl _ _) (Nat.le_refl _) (by simp) ?_; (case hd => rfl); (case hg => rfl); (case hr => first | (go_simp; done) | (go_simp; rfl)); (case hp => exact (Reps.one (show Kd.M (Kd.int .i64) _ _ _ 0 [.int .i64 0] from rfl) (Reps.none _ _))); intro v253 w1 ho2 hb hg_ hnew_; clear hg_ hnew_; have HO2 := Aside0.mk ho2; have HB2 := Aside0.mk hb; clear ho2 hb))
          go_meet
          case rel =>
            refine ⟨w1, ⟨?_⟩⟩
            obtain ⟨A7, c7, rfl⟩ := Kd.R_slice HO2.out
            have s1 := blk_lt HSJ.out.1
            exact DoRel.of (m := [0]) ⟨by simp, (Kd.R_reads' HO2.out).2.1, Kd.C_foot_own (Kd.R_bound HO2.out) (fun k hk => by have h2 : wr.heap.size ≤ k := hk.2.1; omega), by simp⟩ (Nat.lt_succ_self _) HD7 (KeepBut.refl _ _ _) (HSJ.out.step HB2.out)
        · have hl0 : ((l.length : Int) == 0) = false := by
            have : 0 < l.length := List.length_pos_iff.2 hnil
            simp; omega
          have hm0 : doM l = l.map (max 0) := if_neg hnil
          have HD7 : doL ((l.map (max 0)).length + 1) a0 a1 a2 (l.map (max 0)) = r := by rw [HRR.out, doF, hm0]
          have hll : (l.map (max 0)).length = l.length := by simp
          have HREL : Aside0 (DoRel w wr gb1 gb2 r (.slice A1 l.length c1) wr) := ⟨by
            have ho := HOJ.out
            rw [← hll] at ho
            have := DoRel.of (w := w) (W := wr) (w1 := wr) (g := gb1) (g4 := gb2) (c := c1) ⟨by simpa using hl, (Kd.R_reads' ho).2.1, Kd.C_foot_own ho (fun k hk => hk.1), fun v hv => by
              obtain ⟨u, hu, rfl⟩ := List.mem_map.1 hv
              have := H0.out u hu
              omega⟩ (Nat.lt_succ_self _) HD7 (KeepBut.refl _ _ _) HSJ.out
            rwa [hll] at this⟩
          (first | rw [hl0] | skip)
          clear hl0 hm0 hnil
          go_wp2
          go_meet
          case rel => exact ⟨_, HREL⟩
      case rest =>
        obtain ⟨wr_, HREL⟩ := hcut
        clear HSJ HOJ
        go_wp2
        go_loopw [5] (fun v5 W => Aside0 (DoRel w wr_ gb1 gb2 r v5 W)) (fun v _ => lenOf v)
        case atStart => exact HREL
        case round =>
          obtain ⟨A, c, m, x, y, z, rfl, hlen, hcap, hrow, HKP0, HST0, HDL0, hall⟩ := hrel.out
          have HKP := Aside0.mk HKP0
          have HST := Aside0.mk HST0
          have HDL := Aside0.mk HDL0
          have HIN := Aside0.mk (⟨hlen, hcap, hrow, hall⟩ : DoIn wr_ gb1 A c m)
          clear hrel hcap hrow hall HKP0 HST0 HDL0
          obtain ⟨⟨hc1, hc2, hc3⟩, ⟨hf1, hf2, hf3⟩, ⟨hc4, hc5, hc6⟩, hf4, hf5, hf6⟩ := HST.out.cells
          have hn12 := HST.out.2.2.1
          have hn21 := hn12.symm
          cases m with
          | nil =>
            obtain ⟨k, hk, hd⟩ := HDL.out
            obtain rfl : r = (x, y, z) := by
              cases k with
              | zero => omega
              | succ k => exact hd.symm
            clear hd hk
            go_wp2
            refine bodyPost_ret (results_cell_row rfl _ _ gb2 56 #[.int .i64 x, .int .i64 y, .int .i64 z] (0, 0) _ rfl (by refine blk_put (cs := #[.int .i64 x, .int .i64 y, .int .i64 0]) ?_ 2 _ rfl; refine blk_put (cs := #[.int .i64 x, .int .i64 0, .int .i64 0]) ?_ 1 _ rfl; refine blk_put (cs := #[.int .i64 0, .int .i64 0, .int .i64 0]) ?_ 0 _ rfl; exact HST.out.2.1) Try.underlying56 rfl (by kernel_rfl)) rfl ?_
            exact ⟨rfl, below_set (below_set (below_set HST.out.2.2.2.2.2 HST.out.2.2.2.2.1) HST.out.2.2.2.2.1) HST.out.2.2.2.2.1⟩
          | cons n m =>
            obtain ⟨ad, rfl, hx⟩ := Kd.at_int (HIN.out.row _ HKP.out) 0 (by omega) (by simp)
            have hx0 : wr.cell? ad = some (.int .i64 n) := by simpa [Addr.add, rd] using hx
            have hcp : m.length + 1 ≤ c := by simpa using HIN.out.cap
            clear hx
            go_upto_region 11 with fail
            go_cut [5, 7] (fun v5 v7 wc => ∃ A' c', v5 = .slice A' m.length c' ∧ v7 = .int .i64 n ∧ Aside0 (DoIn wr_ gb1 A' c' m) ∧ wc = wr)
            case first =>
              by_cases hc1 : c = 1
              · subst hc1
                have HI := Aside0.mk (HIN.out.cut_eq (q := 1) (by simp))
                go_wp2
                go_meet
                case rel => exact ⟨some ad, 0, by rw [show m.length = 0 by omega], rfl, HI, rfl⟩
              · have HI := Aside0.mk (HIN.out.cut_ne (q := 1) (by simp) hc1)
                go_wp2
                go_meet
                case rel => exact ⟨some (ad.add 1), c - 1, rfl, rfl, HI, rfl⟩
            case rest =>
              obtain ⟨A', c', rfl, rfl, HI', rfl⟩ := hcut
              obtain ⟨k, hk, hd⟩ := HDL.out
              obtain ⟨k, rfl⟩ : ∃ k', k = k' + 1 := ⟨k - 1, by omega⟩
              have hkm : m.length < k := by simp only [List.length_cons] at hk; omega
              have hn0 := HIN.out.all n List.mem_cons_self
              have HN0 := Aside0.mk hn0
              have HD := Aside0.mk hd
              have hcq := HI'.out.cap
              clear hn0 HDL hk hd hlen HIN hx0 hcp
              by_cases n0 : n = 0
              · subst n0
                have hd' := Aside0.mk (show doL k (-1) (-1) 0 m = r by simpa [doL] using HD.out)
                go_wp2_with (go_at_call 98; refine (sgr_Plain.calls (-1) (-1) 0 _ rfl).mono ?_; rintro e w8 ⟨rfl, hb⟩; have HS8 := Aside0.mk (HST.out.step hb); have HK8 := Aside0.mk (keep_below HKP.out hb); clear hb; obtain ⟨⟨hd1, hd2, hd3⟩, ⟨hg1, hg2, hg3⟩, _⟩ := HS8.out.cells)
                exact ⟨⟨DoRel.of HI'.out hkm hd'.out (((HK8.out.set_ 0 _).set_ 1 _).set_ 2 _) (((HS8.out.put0 _).put1 _).put2 _)⟩, by simp [lenOf]⟩
              have hb0 : (n == 0) = false := by simpa using n0
              by_cases n38 : n = 38
              · subst n38
                obtain ⟨q, hq, hqm⟩ := longF_le x m
                have hd' := Aside0.mk (show doL k (longF x m).1 y z (m.drop q) = r by have h := HD.out; simp only [doL] at h; simpa [hq] using h)
                by_cases hcc : c' = q
                · subst hcc
                  go_wp2_with (go_at_call 99; refine (long gb1 0 x A' c' m _ hc1 hf1 (HI'.out.row _ HKP.out) HI'.out.len HI'.out.all).mono ?_; rintro e w8 ⟨rfl, hp⟩; rw [hq]; have HP8 := Aside0.mk hp; clear hp)
                  exact ⟨⟨DoRel.cut_eq HI'.out hqm hkm hd'.out (HP8.out.keep HKP.out) (HST.out.one0 HP8.out)⟩, by simp [lenOf]⟩
                · go_wp2_with (go_at_call 99; refine (long gb1 0 x A' c' m _ hc1 hf1 (HI'.out.row _ HKP.out) HI'.out.len HI'.out.all).mono ?_; rintro e w8 ⟨rfl, hp⟩; rw [hq]; have HP8 := Aside0.mk hp; clear hp)
                  exact ⟨⟨DoRel.cut_ne HI'.out hqm hcc hkm hd'.out (HP8.out.keep HKP.out) (HST.out.one0 HP8.out)⟩, by simp [lenOf]; omega⟩
              have hb38 : (n == 38) = false := by simpa using n38
              by_cases n48 : n = 48
              · subst n48
                obtain ⟨q, hq, hqm⟩ := longF_le y m
                have hd' := Aside0.mk (show doL k x (longF y m).1 z (m.drop q) = r by have h := HD.out; simp only [doL] at h; simpa [hq] using h)
                by_cases hcc : c' = q
                · subst hcc
                  go_wp2_with (go_at_call 99; refine (long gb1 1 y A' c' m _ hc2 hf2 (HI'.out.row _ HKP.out) HI'.out.len HI'.out.all).mono ?_; rintro e w8 ⟨rfl, hp⟩; rw [hq]; have HP8 := Aside0.mk hp; clear hp)
                  exact ⟨⟨DoRel.cut_eq HI'.out hqm hkm hd'.out (HP8.out.keep HKP.out) (HST.out.one1 HP8.out)⟩, by simp [lenOf]⟩
                · go_wp2_with (go_at_call 99; refine (long gb1 1 y A' c' m _ hc2 hf2 (HI'.out.row _ HKP.out) HI'.out.len HI'.out.all).mono ?_; rintro e w8 ⟨rfl, hp⟩; rw [hq]; have HP8 := Aside0.mk hp; clear hp)
                  exact ⟨⟨DoRel.cut_ne HI'.out hqm hcc hkm hd'.out (HP8.out.keep HKP.out) (HST.out.one1 HP8.out)⟩, by simp [lenOf]; omega⟩
              have hb48 : (n == 48) = false := by simpa using n48
              have hcont : slices_Contains_int_int.f 20 [1, 2, 3, 4, 5, 7, 8, 9] n = some (decide (n ∈ ([1, 2, 3, 4, 5, 7, 8, 9] : List Int))) := by
                by_cases hm : n ∈ ([1, 2, 3, 4, 5, 7, 8, 9] : List Int)
                · simp only [List.mem_cons, List.not_mem_nil, or_false] at hm
                  rcases hm with rfl | rfl | rfl | rfl | rfl | rfl | rfl | rfl <;> decide +kernel
                · rw [decide_eq_false hm]
                  simp only [List.mem_cons, List.not_mem_nil, or_false, not_or] at hm
                  obtain ⟨h1, h2, h3, h4, h5, h6, h7, h8⟩ := hm
                  simp [slices_Contains_int_int.f, slices_Index_int_int.f, slices_Index_int_int.l0, rd, wrap64, h1, h2, h3, h4, h5, h6, h7, h8]
              have HCO := Aside0.mk hcont
              clear hcont
              by_cases hm : n ∈ ([1, 2, 3, 4, 5, 7, 8, 9] : List Int)
              · have hidx : slices_Index_int_int.f 20 [1, 2, 3, 4, 5, 7, 8, 9] n = some (((([1, 2, 3, 4, 5, 7, 8, 9] : List Int).idxOf n : Nat) : Int)) := by
                  simp only [List.mem_cons, List.not_mem_nil, or_false] at hm
                  rcases hm with rfl | rfl | rfl | rfl | rfl | rfl | rfl | rfl <;> decide +kernel
                obtain ⟨ix, hix⟩ : ∃ ix : Nat, ix = ([1, 2, 3, 4, 5, 7, 8, 9] : List Int).idxOf n := ⟨_, rfl⟩
                rw [← hix] at hidx
                have hix8 : ix < 8 := by rw [hix]; exact List.idxOf_lt_length_iff.2 hm
                have hd' := Aside0.mk (show doL k x y (Go.bits .or .i64 z (shl .i64 1 (ix : Int))) m = r by have h := HD.out; simp only [doL] at h; rw [if_neg n0, if_neg n38, if_neg n48, if_pos hm, ← hix] at h; exact h)
                have hdm : decide (n ∈ ([1, 2, 3, 4, 5, 7, 8, 9] : List Int)) = true := decide_eq_true hm
                have HIX := Aside0.mk hidx
                clear hidx hm hix
                go_wp2_with (first | (go_at_call 79; refine (sgr_flags.calls [1, 2, 3, 4, 5, 7, 8, 9] _ rfl).mono ?_; rintro e w8 ⟨v8, rfl, ho8, hb8⟩; obtain ⟨A8, c8, rfl, hc8, hr8⟩ := Kd.R_reads ho8; have HR8 := Aside0.mk hr8; have HS8 := Aside0.mk (HST.out.step hb8); have HK8 := Aside0.mk (keep_below HKP.out hb8); clear hr8 hb8 ho8) | (go_at_call 70; refine (slices_Contains_int_int.calls 20 A8 c8 _ n _ _ HR8.out hc8 HCO.out).mono ?_; rw [hdm]; rintro e w9 ⟨rfl, ⟨nd, rfl⟩⟩))
                have HS9 := Aside0.mk (HS8.out.drewN nd)
                have HK9 := Aside0.mk (keep_drewN HK8.out nd)
                generalize w8.drewN nd = w9 at HS9 HK9 ⊢
                clear HS8 HK8 HR8 hc8
                refine start_ (n := 9) (S := fun w' => w'.cell? ⟨gb1, 2, none⟩ = some (.int .i64 z)) (ds := [8]) #[false, false, false, false, false, false, false, false, false] (by kernel_rfl) rfl rfl ((blk_cell HS9.out.1 2).trans rfl) (fun hHeld => ?_)
                have HS10 : Aside0 (DSt gb1 gb2 w w9.drew x y z) := ⟨HS9.out.drewN 1⟩
                have HK10 : Aside0 (KeepBut wr_ w9.drew gb1 none) := ⟨keep_drewN HK9.out 1⟩
                generalize w9.drew = w10 at HS10 HK10 hHeld ⊢
                clear HS9 HK9
                refine pure_ (i := 0) (N := some 69) (v := ?_) (a' := ?_) #[true, false, false, false, false, false, false, false, false] rfl rfl (by kernel_rfl) (fun _ _ _ h => h) (Or.inl ⟨by rfl, ?_⟩) ?_ ?_
                rotate_left
                · intro w'
                  go_simp
                  with_reducible rfl
                rotate_left
                · simp only [Act.put, List.setIfInBounds_toArray, List.set_cons_zero, List.set_cons_succ, i64_w, i32_w]
                  rfl
                refine pure_ (i := 3) (N := some 72) (v := ?_) (a' := ?_) #[true, false, false, true, false, false, false, false, false] rfl rfl (by kernel_rfl) (fun _ _ _ h => h) (Or.inl ⟨by rfl, ?_⟩) ?_ ?_
                rotate_left
                · intro w'
                  go_simp
                  with_reducible rfl
                rotate_left
                · simp only [Act.put, List.setIfInBounds_toArray, List.set_cons_zero, List.set_cons_succ, i64_w, i32_w]
                  rfl
                refine take_ (i := 1) (N := some 70) (v := ?_) (a' := ?_) #[true, true, false, true, false, false, false, false, false] rfl rfl (by kernel_rfl) (fun _ _ _ h => h) (Or.inl ⟨by rfl, ?_⟩) hHeld ?_ ?_
                rotate_left
                · intro w' s0
                  go_simp
                  with_reducible rfl
                rotate_left
                · simp only [Act.put, List.setIfInBounds_toArray, List.set_cons_zero, List.set_cons_succ, i64_w, i32_w]
                  rfl
                refine one_ (i := 2) (N := some 71) #[true, true, true, true, false, false, false, false, false] rfl rfl (by kernel_rfl) (by decide) (fun K hK => ?_)
                refine goes_ Try.func79 (by kernel_rfl) rfl #[] (by rfl) rfl rfl (by (try simp only [List.map_toArray, List.map_cons, List.map_nil]); first | done | rfl | (simp only [List.length_drop, List.length_take]; rfl)) ?_
                refine (sgr_flags.calls [1, 2, 3, 4, 5, 7, 8, 9] _ rfl).mono ?_
                rintro e w11 ⟨v11, rfl, ho11, hb11⟩
                obtain ⟨A11, c11, rfl, hc11, hr11⟩ := Kd.R_reads ho11
                have HR11 := Aside0.mk hr11
                have HS11 := Aside0.mk (HS10.out.step hb11)
                have HK11 := Aside0.mk (keep_below HK10.out hb11)
                clear hr11 hb11 ho11 HS10 HK10
                refine ⟨_, rfl, ?_⟩
                refine hK.out _ _ ((blk_cell HS11.out.1 2).trans rfl) (fun hHeld => ?_)
                clear hK K
                refine norm_ (a' := ?_) ?_ ?_
                rotate_left
                · show Act.put _ (some 71) _ = _
                  simp only [Act.put, List.setIfInBounds_toArray, List.set_cons_zero, List.set_cons_succ, i64_w, i32_w]
                  rfl
                refine one_ (i := 4) (N := some 73) #[true, true, true, true, true, false, false, false, false] rfl rfl (by kernel_rfl) (by decide) (fun K hK => ?_)
                refine goes_ Try.func95 (by kernel_rfl) rfl #[.slice A11 8 c11, .int .i64 n] (by rfl) rfl rfl (by (try simp only [List.map_toArray, List.map_cons, List.map_nil]); first | done | rfl | (simp only [List.length_drop, List.length_take]; rfl)) ?_
                refine (slices_Index_int_int.calls 20 A11 c11 [1, 2, 3, 4, 5, 7, 8, 9] n (ix : Int) _ HR11.out hc11 HIX.out).mono ?_
                rintro e w12 ⟨rfl, ⟨nd2, rfl⟩⟩
                have HS12 := Aside0.mk (HS11.out.drewN nd2)
                have HK12 := Aside0.mk (keep_drewN HK11.out nd2)
                generalize w11.drewN nd2 = w12 at HS12 HK12 ⊢
                clear HS11 HK11 HR11
                refine ⟨_, rfl, ?_⟩
                refine hK.out _ _ ((blk_cell HS12.out.1 2).trans rfl) (fun hHeld => ?_)
                clear hK K
                refine norm_ (a' := ?_) ?_ ?_
                rotate_left
                · show Act.put _ (some 73) _ = _
                  simp only [Act.put, List.setIfInBounds_toArray, List.set_cons_zero, List.set_cons_succ, i64_w, i32_w]
                  rfl
                refine pure_ (i := 5) (N := some 74) (v := ?_) (a' := ?_) #[true, true, true, true, true, true, false, false, false] rfl rfl (by kernel_rfl) (fun _ _ _ h => h) (Or.inl ⟨by rfl, ?_⟩) ?_ ?_
                rotate_left
                · intro w'
                  go_simp
                  with_reducible rfl
                rotate_left
                · simp only [Act.put, List.setIfInBounds_toArray, List.set_cons_zero, List.set_cons_succ, i64_w, i32_w]
                  rfl
                refine pure_ (i := 6) (N := some 75) (v := ?_) (a' := ?_) #[true, true, true, true, true, true, true, false, false] rfl rfl (by kernel_rfl) (fun _ _ _ h => h) (Or.inl ⟨by rfl, ?_⟩) ?_ ?_
                rotate_left
                · intro w'
                  go_simp
                  with_reducible rfl
                rotate_left
                · simp only [Act.put, List.setIfInBounds_toArray, List.set_cons_zero, List.set_cons_succ, i64_w, i32_w]
                  rfl
                refine pure_ (i := 7) (N := some 76) (v := ?_) (a' := ?_) #[true, true, true, true, true, true, true, true, false] rfl rfl (by kernel_rfl) (fun _ _ _ h => h) (Or.inl ⟨by rfl, ?_⟩) ?_ ?_
                rotate_left
                · intro w'
                  go_simp
                  with_reducible rfl
                rotate_left
                · simp only [Act.put, List.setIfInBounds_toArray, List.set_cons_zero, List.set_cons_succ, i64_w, i32_w]
                  rfl
                refine last_ (i := 8) (N := none) #[true, true, true, true, true, true, true, true, true] rfl rfl (by kernel_rfl) (by decide) (fun K hK => ?_)
                have hs2 := (blk_cell HS12.out.1 2).trans rfl
                have hfs2 := blk_frozen HS12.out.1 2
                refine skip_ (w1 := ?_) (by rfl) rfl ?_ ?_
                rotate_left
                · go_simp
                  rfl
                refine hK.out _ _ ?_
                clear hK K
                refine done_ (by kernel_rfl) ?_
                try go_wp2
                have hd2 := hd'.out
                rw [shl_pow hix8] at hd2
                exact ⟨⟨DoRel.of HI'.out hkm hd2 (HK12.out.set_ 2 _) (HS12.out.put2 _)⟩, by simp [lenOf]⟩
              · have hdm : decide (n ∈ ([1, 2, 3, 4, 5, 7, 8, 9] : List Int)) = false := decide_eq_false hm
                by_cases hcol : (40 ≤ n ∧ n ≤ 49) ∨ (100 ≤ n ∧ n ≤ 107)
                · have hd' := Aside0.mk (show doL k x (groundF y (n - 10)) z m = r by have h := HD.out; simp only [doL] at h; rw [if_neg n0, if_neg n38, if_neg n48, if_neg hm, if_pos hcol] at h; exact h)
                  have hw10 : wrap64 (n - 10) = n - 10 := by unfold wrap64; omega
                  clear hm
                  rcases hcol with h1 | h1
                  · have p1 := h1.1
                    have p2 := h1.2
                    clear h1
                    go_wp2_with (first | (go_at_call 79; refine (sgr_flags.calls [1, 2, 3, 4, 5, 7, 8, 9] _ rfl).mono ?_; rintro e w8 ⟨v8, rfl, ho8, hb8⟩; obtain ⟨A8, c8, rfl, hc8, hr8⟩ := Kd.R_reads ho8; have HR8 := Aside0.mk hr8; have HS8 := Aside0.mk (HST.out.step hb8); have HK8 := Aside0.mk (keep_below HKP.out hb8); clear hr8 hb8 ho8) | (go_at_call 70; refine (slices_Contains_int_int.calls 20 A8 c8 _ n _ _ HR8.out hc8 HCO.out).mono ?_; rw [hdm]; rintro e w9 ⟨rfl, ⟨nd, rfl⟩⟩) | (go_at_call 100; refine (ground gb1 1 y (n - 10) _ ((blk_cell (HS8.out.drewN nd).1 1).trans rfl) (blk_frozen (HS8.out.drewN nd).1 1)).mono ?_; rintro e w10 ⟨rfl, hp⟩; have HP := Aside0.mk hp; clear hp))
                    exact ⟨⟨DoRel.of HI'.out hkm hd'.out (HP.out.keep (keep_drewN HK8.out nd)) ((HS8.out.drewN nd).one1 HP.out)⟩, by simp [lenOf]⟩
                  · have p1 : 40 ≤ n := by omega
                    have p2 : ¬ n ≤ 49 := by omega
                    have p3 := h1.1
                    have p4 := h1.2
                    clear h1
                    go_wp2_with (first | (go_at_call 79; refine (sgr_flags.calls [1, 2, 3, 4, 5, 7, 8, 9] _ rfl).mono ?_; rintro e w8 ⟨v8, rfl, ho8, hb8⟩; obtain ⟨A8, c8, rfl, hc8, hr8⟩ := Kd.R_reads ho8; have HR8 := Aside0.mk hr8; have HS8 := Aside0.mk (HST.out.step hb8); have HK8 := Aside0.mk (keep_below HKP.out hb8); clear hr8 hb8 ho8) | (go_at_call 70; refine (slices_Contains_int_int.calls 20 A8 c8 _ n _ _ HR8.out hc8 HCO.out).mono ?_; rw [hdm]; rintro e w9 ⟨rfl, ⟨nd, rfl⟩⟩) | (go_at_call 100; refine (ground gb1 1 y (n - 10) _ ((blk_cell (HS8.out.drewN nd).1 1).trans rfl) (blk_frozen (HS8.out.drewN nd).1 1)).mono ?_; rintro e w10 ⟨rfl, hp⟩; have HP := Aside0.mk hp; clear hp))
                    exact ⟨⟨DoRel.of HI'.out hkm hd'.out (HP.out.keep (keep_drewN HK8.out nd)) ((HS8.out.drewN nd).one1 HP.out)⟩, by simp [lenOf]⟩
                · have hd' := Aside0.mk (show doL k (groundF x n) y (Go.bits .andNot .i64 z ((sgr_less.f n).getD 0)) m = r by have h := HD.out; simp only [doL] at h; rw [if_neg n0, if_neg n38, if_neg n48, if_neg hm, if_neg hcol] at h; exact h)
                  clear hm
                  have hway : ¬ 40 ≤ n ∨ (40 ≤ n ∧ ¬ n ≤ 49 ∧ ¬ 100 ≤ n) ∨ (40 ≤ n ∧ ¬ n ≤ 49 ∧ 100 ≤ n ∧ ¬ n ≤ 107) := by omega
                  clear hcol
                  rcases hway with p1 | ⟨p1, p2, p3⟩ | ⟨p1, p2, p3, p4⟩
                  · have p3 : ¬ 100 ≤ n := by omega
                    go_wp2_with (first | (go_at_call 79; refine (sgr_flags.calls [1, 2, 3, 4, 5, 7, 8, 9] _ rfl).mono ?_; rintro e w8 ⟨v8, rfl, ho8, hb8⟩; obtain ⟨A8, c8, rfl, hc8, hr8⟩ := Kd.R_reads ho8; have HR8 := Aside0.mk hr8; have HS8 := Aside0.mk (HST.out.step hb8); have HK8 := Aside0.mk (keep_below HKP.out hb8); clear hr8 hb8 ho8) | (go_at_call 70; refine (slices_Contains_int_int.calls 20 A8 c8 _ n _ _ HR8.out hc8 HCO.out).mono ?_; rw [hdm]; rintro e w9 ⟨rfl, ⟨nd, rfl⟩⟩) | (go_at_call 100; refine (ground gb1 0 x n _ ((blk_cell (HS8.out.drewN nd).1 0).trans rfl) (blk_frozen (HS8.out.drewN nd).1 0)).mono ?_; rintro e w10 ⟨rfl, hp⟩; have HP := Aside0.mk hp; clear hp))
                    have HS10 := Aside0.mk ((HS8.out.drewN nd).one0 HP.out)
                    have HK10 := Aside0.mk (HP.out.keep (keep_drewN HK8.out nd))
                    clear HP HS8 HK8 HR8 hc8
                    refine start_ (n := 7) (S := fun w' => w'.cell? ⟨gb1, 2, none⟩ = some (.int .i64 z)) (ds := [6]) #[false, false, false, false, false, false, false] (by kernel_rfl) rfl rfl ((blk_cell HS10.out.1 2).trans rfl) (fun hHeld => ?_)
                    have HS11 : Aside0 (DSt gb1 gb2 w w10.drew (groundF x n) y z) := ⟨HS10.out.drewN 1⟩
                    have HK11 : Aside0 (KeepBut wr_ w10.drew gb1 none) := ⟨keep_drewN HK10.out 1⟩
                    generalize w10.drew = w11 at HS11 HK11 hHeld ⊢
                    clear HS10 HK10
                    refine pure_ (i := 0) (N := some 39) (v := ?_) (a' := ?_) #[true, false, false, false, false, false, false] rfl rfl (by kernel_rfl) (fun _ _ _ h => h) (Or.inl ⟨by rfl, ?_⟩) ?_ ?_
                    rotate_left
                    · intro w'
                      go_simp
                      with_reducible rfl
                    rotate_left
                    · simp only [Act.put, List.setIfInBounds_toArray, List.set_cons_zero, List.set_cons_succ, i64_w, i32_w]
                      rfl
                    refine pure_ (i := 2) (N := some 41) (v := ?_) (a' := ?_) #[true, false, true, false, false, false, false] rfl rfl (by kernel_rfl) (fun _ _ _ h => h) (Or.inl ⟨by rfl, ?_⟩) ?_ ?_
                    rotate_left
                    · intro w'
                      go_simp
                      with_reducible rfl
                    rotate_left
                    · simp only [Act.put, List.setIfInBounds_toArray, List.set_cons_zero, List.set_cons_succ, i64_w, i32_w]
                      rfl
                    refine take_ (i := 1) (N := some 40) (v := ?_) (a' := ?_) #[true, true, true, false, false, false, false] rfl rfl (by kernel_rfl) (fun _ _ _ h => h) (Or.inl ⟨by rfl, ?_⟩) hHeld ?_ ?_
                    rotate_left
                    · intro w' s0
                      go_simp
                      with_reducible rfl
                    rotate_left
                    · simp only [Act.put, List.setIfInBounds_toArray, List.set_cons_zero, List.set_cons_succ, i64_w, i32_w]
                      rfl
                    refine one_ (i := 3) (N := some 42) #[true, true, true, true, false, false, false] rfl rfl (by kernel_rfl) (by decide) (fun K hK => ?_)
                    refine goes_ Try.func101 (by kernel_rfl) rfl #[.int .i64 n] (by rfl) rfl rfl (by (try simp only [List.map_toArray, List.map_cons, List.map_nil]); first | done | rfl | (simp only [List.length_drop, List.length_take]; rfl)) ?_
                    refine (sgr_less.calls n ((sgr_less.f n).getD 0) _ (less_some n)).mono ?_
                    rintro e w12 ⟨rfl, ⟨nd2, rfl⟩⟩
                    have HS12 := Aside0.mk (HS11.out.drewN nd2)
                    have HK12 := Aside0.mk (keep_drewN HK11.out nd2)
                    generalize w11.drewN nd2 = w12 at HS12 HK12 ⊢
                    clear HS11 HK11
                    refine ⟨_, rfl, ?_⟩
                    refine hK.out _ _ ((blk_cell HS12.out.1 2).trans rfl) (fun hHeld => ?_)
                    clear hK K
                    refine norm_ (a' := ?_) ?_ ?_
                    rotate_left
                    · show Act.put _ (some 42) _ = _
                      simp only [Act.put, List.setIfInBounds_toArray, List.set_cons_zero, List.set_cons_succ, i64_w, i32_w]
                      rfl
                    refine pure_ (i := 4) (N := some 43) (v := ?_) (a' := ?_) #[true, true, true, true, true, false, false] rfl rfl (by kernel_rfl) (fun _ _ _ h => h) (Or.inl ⟨by rfl, ?_⟩) ?_ ?_
                    rotate_left
                    · intro w'
                      go_simp
                      with_reducible rfl
                    rotate_left
                    · simp only [Act.put, List.setIfInBounds_toArray, List.set_cons_zero, List.set_cons_succ, i64_w, i32_w]
                      rfl
                    refine pure_ (i := 5) (N := some 44) (v := ?_) (a' := ?_) #[true, true, true, true, true, true, false] rfl rfl (by kernel_rfl) (fun _ _ _ h => h) (Or.inl ⟨by rfl, ?_⟩) ?_ ?_
                    rotate_left
                    · intro w'
                      go_simp
                      with_reducible rfl
                    rotate_left
                    · simp only [Act.put, List.setIfInBounds_toArray, List.set_cons_zero, List.set_cons_succ, i64_w, i32_w]
                      rfl
                    refine last_ (i := 6) (N := none) #[true, true, true, true, true, true, true] rfl rfl (by kernel_rfl) (by decide) (fun K hK => ?_)
                    have hs2 := (blk_cell HS12.out.1 2).trans rfl
                    have hfs2 := blk_frozen HS12.out.1 2
                    refine skip_ (w1 := ?_) (by rfl) rfl ?_ ?_
                    rotate_left
                    · go_simp
                      rfl
                    refine hK.out _ _ ?_
                    clear hK K
                    refine done_ (by kernel_rfl) ?_
                    try go_wp2
                    exact ⟨⟨DoRel.of HI'.out hkm hd'.out (HK12.out.set_ 2 _) (HS12.out.put2 _)⟩, by simp [lenOf]⟩
                  · go_wp2_with (first | (go_at_call 79; refine (sgr_flags.calls [1, 2, 3, 4, 5, 7, 8, 9] _ rfl).mono ?_; rintro e w8 ⟨v8, rfl, ho8, hb8⟩; obtain ⟨A8, c8, rfl, hc8, hr8⟩ := Kd.R_reads ho8; have HR8 := Aside0.mk hr8; have HS8 := Aside0.mk (HST.out.step hb8); have HK8 := Aside0.mk (keep_below HKP.out hb8); clear hr8 hb8 ho8) | (go_at_call 70; refine (slices_Contains_int_int.calls 20 A8 c8 _ n _ _ HR8.out hc8 HCO.out).mono ?_; rw [hdm]; rintro e w9 ⟨rfl, ⟨nd, rfl⟩⟩) | (go_at_call 100; refine (ground gb1 0 x n _ ((blk_cell (HS8.out.drewN nd).1 0).trans rfl) (blk_frozen (HS8.out.drewN nd).1 0)).mono ?_; rintro e w10 ⟨rfl, hp⟩; have HP := Aside0.mk hp; clear hp))
                    have HS10 := Aside0.mk ((HS8.out.drewN nd).one0 HP.out)
                    have HK10 := Aside0.mk (HP.out.keep (keep_drewN HK8.out nd))
                    clear HP HS8 HK8 HR8 hc8
                    refine start_ (n := 7) (S := fun w' => w'.cell? ⟨gb1, 2, none⟩ = some (.int .i64 z)) (ds := [6]) #[false, false, false, false, false, false, false] (by kernel_rfl) rfl rfl ((blk_cell HS10.out.1 2).trans rfl) (fun hHeld => ?_)
                    have HS11 : Aside0 (DSt gb1 gb2 w w10.drew (groundF x n) y z) := ⟨HS10.out.drewN 1⟩
                    have HK11 : Aside0 (KeepBut wr_ w10.drew gb1 none) := ⟨keep_drewN HK10.out 1⟩
                    generalize w10.drew = w11 at HS11 HK11 hHeld ⊢
                    clear HS10 HK10
                    refine pure_ (i := 0) (N := some 39) (v := ?_) (a' := ?_) #[true, false, false, false, false, false, false] rfl rfl (by kernel_rfl) (fun _ _ _ h => h) (Or.inl ⟨by rfl, ?_⟩) ?_ ?_
                    rotate_left
                    · intro w'
                      go_simp
                      with_reducible rfl
                    rotate_left
                    · simp only [Act.put, List.setIfInBounds_toArray, List.set_cons_zero, List.set_cons_succ, i64_w, i32_w]
                      rfl
                    refine pure_ (i := 2) (N := some 41) (v := ?_) (a' := ?_) #[true, false, true, false, false, false, false] rfl rfl (by kernel_rfl) (fun _ _ _ h => h) (Or.inl ⟨by rfl, ?_⟩) ?_ ?_
                    rotate_left
                    · intro w'
                      go_simp
                      with_reducible rfl
                    rotate_left
                    · simp only [Act.put, List.setIfInBounds_toArray, List.set_cons_zero, List.set_cons_succ, i64_w, i32_w]
                      rfl
                    refine take_ (i := 1) (N := some 40) (v := ?_) (a' := ?_) #[true, true, true, false, false, false, false] rfl rfl (by kernel_rfl) (fun _ _ _ h => h) (Or.inl ⟨by rfl, ?_⟩) hHeld ?_ ?_
                    rotate_left
                    · intro w' s0
                      go_simp
                      with_reducible rfl
                    rotate_left
                    · simp only [Act.put, List.setIfInBounds_toArray, List.set_cons_zero, List.set_cons_succ, i64_w, i32_w]
                      rfl
                    refine one_ (i := 3) (N := some 42) #[true, true, true, true, false, false, false] rfl rfl (by kernel_rfl) (by decide) (fun K hK => ?_)
                    refine goes_ Try.func101 (by kernel_rfl) rfl #[.int .i64 n] (by rfl) rfl rfl (by (try simp only [List.map_toArray, List.map_cons, List.map_nil]); first | done | rfl | (simp only [List.length_drop, List.length_take]; rfl)) ?_
                    refine (sgr_less.calls n ((sgr_less.f n).getD 0) _ (less_some n)).mono ?_
                    rintro e w12 ⟨rfl, ⟨nd2, rfl⟩⟩
                    have HS12 := Aside0.mk (HS11.out.drewN nd2)
                    have HK12 := Aside0.mk (keep_drewN HK11.out nd2)
                    generalize w11.drewN nd2 = w12 at HS12 HK12 ⊢
                    clear HS11 HK11
                    refine ⟨_, rfl, ?_⟩
                    refine hK.out _ _ ((blk_cell HS12.out.1 2).trans rfl) (fun hHeld => ?_)
                    clear hK K
                    refine norm_ (a' := ?_) ?_ ?_
                    rotate_left
                    · show Act.put _ (some 42) _ = _
                      simp only [Act.put, List.setIfInBounds_toArray, List.set_cons_zero, List.set_cons_succ, i64_w, i32_w]
                      rfl
                    refine pure_ (i := 4) (N := some 43) (v := ?_) (a' := ?_) #[true, true, true, true, true, false, false] rfl rfl (by kernel_rfl) (fun _ _ _ h => h) (Or.inl ⟨by rfl, ?_⟩) ?_ ?_
                    rotate_left
                    · intro w'
                      go_simp
                      with_reducible rfl
                    rotate_left
                    · simp only [Act.put, List.setIfInBounds_toArray, List.set_cons_zero, List.set_cons_succ, i64_w, i32_w]
                      rfl
                    refine pure_ (i := 5) (N := some 44) (v := ?_) (a' := ?_) #[true, true, true, true, true, true, false] rfl rfl (by kernel_rfl) (fun _ _ _ h => h) (Or.inl ⟨by rfl, ?_⟩) ?_ ?_
                    rotate_left
                    · intro w'
                      go_simp
                      with_reducible rfl
                    rotate_left
                    · simp only [Act.put, List.setIfInBounds_toArray, List.set_cons_zero, List.set_cons_succ, i64_w, i32_w]
                      rfl
                    refine last_ (i := 6) (N := none) #[true, true, true, true, true, true, true] rfl rfl (by kernel_rfl) (by decide) (fun K hK => ?_)
                    have hs2 := (blk_cell HS12.out.1 2).trans rfl
                    have hfs2 := blk_frozen HS12.out.1 2
                    refine skip_ (w1 := ?_) (by rfl) rfl ?_ ?_
                    rotate_left
                    · go_simp
                      rfl
                    refine hK.out _ _ ?_
                    clear hK K
                    refine done_ (by kernel_rfl) ?_
                    try go_wp2
                    exact ⟨⟨DoRel.of HI'.out hkm hd'.out (HK12.out.set_ 2 _) (HS12.out.put2 _)⟩, by simp [lenOf]⟩
                  · go_wp2_with (first | (go_at_call 79; refine (sgr_flags.calls [1, 2, 3, 4, 5, 7, 8, 9] _ rfl).mono ?_; rintro e w8 ⟨v8, rfl, ho8, hb8⟩; obtain ⟨A8, c8, rfl, hc8, hr8⟩ := Kd.R_reads ho8; have HR8 := Aside0.mk hr8; have HS8 := Aside0.mk (HST.out.step hb8); have HK8 := Aside0.mk (keep_below HKP.out hb8); clear hr8 hb8 ho8) | (go_at_call 70; refine (slices_Contains_int_int.calls 20 A8 c8 _ n _ _ HR8.out hc8 HCO.out).mono ?_; rw [hdm]; rintro e w9 ⟨rfl, ⟨nd, rfl⟩⟩) | (go_at_call 100; refine (ground gb1 0 x n _ ((blk_cell (HS8.out.drewN nd).1 0).trans rfl) (blk_frozen (HS8.out.drewN nd).1 0)).mono ?_; rintro e w10 ⟨rfl, hp⟩; have HP := Aside0.mk hp; clear hp))
                    have HS10 := Aside0.mk ((HS8.out.drewN nd).one0 HP.out)
                    have HK10 := Aside0.mk (HP.out.keep (keep_drewN HK8.out nd))
                    clear HP HS8 HK8 HR8 hc8
                    refine start_ (n := 7) (S := fun w' => w'.cell? ⟨gb1, 2, none⟩ = some (.int .i64 z)) (ds := [6]) #[false, false, false, false, false, false, false] (by kernel_rfl) rfl rfl ((blk_cell HS10.out.1 2).trans rfl) (fun hHeld => ?_)
                    have HS11 : Aside0 (DSt gb1 gb2 w w10.drew (groundF x n) y z) := ⟨HS10.out.drewN 1⟩
                    have HK11 : Aside0 (KeepBut wr_ w10.drew gb1 none) := ⟨keep_drewN HK10.out 1⟩
                    generalize w10.drew = w11 at HS11 HK11 hHeld ⊢
                    clear HS10 HK10
                    refine pure_ (i := 0) (N := some 39) (v := ?_) (a' := ?_) #[true, false, false, false, false, false, false] rfl rfl (by kernel_rfl) (fun _ _ _ h => h) (Or.inl ⟨by rfl, ?_⟩) ?_ ?_
                    rotate_left
                    · intro w'
                      go_simp
                      with_reducible rfl
                    rotate_left
                    · simp only [Act.put, List.setIfInBounds_toArray, List.set_cons_zero, List.set_cons_succ, i64_w, i32_w]
                      rfl
                    refine pure_ (i := 2) (N := some 41) (v := ?_) (a' := ?_) #[true, false, true, false, false, false, false] rfl rfl (by kernel_rfl) (fun _ _ _ h => h) (Or.inl ⟨by rfl, ?_⟩) ?_ ?_
                    rotate_left
                    · intro w'
                      go_simp
                      with_reducible rfl
                    rotate_left
                    · simp only [Act.put, List.setIfInBounds_toArray, List.set_cons_zero, List.set_cons_succ, i64_w, i32_w]
                      rfl
                    refine take_ (i := 1) (N := some 40) (v := ?_) (a' := ?_) #[true, true, true, false, false, false, false] rfl rfl (by kernel_rfl) (fun _ _ _ h => h) (Or.inl ⟨by rfl, ?_⟩) hHeld ?_ ?_
                    rotate_left
                    · intro w' s0
                      go_simp
                      with_reducible rfl
                    rotate_left
                    · simp only [Act.put, List.setIfInBounds_toArray, List.set_cons_zero, List.set_cons_succ, i64_w, i32_w]
                      rfl
                    refine one_ (i := 3) (N := some 42) #[true, true, true, true, false, false, false] rfl rfl (by kernel_rfl) (by decide) (fun K hK => ?_)
                    refine goes_ Try.func101 (by kernel_rfl) rfl #[.int .i64 n] (by rfl) rfl rfl (by (try simp only [List.map_toArray, List.map_cons, List.map_nil]); first | done | rfl | (simp only [List.length_drop, List.length_take]; rfl)) ?_
                    refine (sgr_less.calls n ((sgr_less.f n).getD 0) _ (less_some n)).mono ?_
                    rintro e w12 ⟨rfl, ⟨nd2, rfl⟩⟩
                    have HS12 := Aside0.mk (HS11.out.drewN nd2)
                    have HK12 := Aside0.mk (keep_drewN HK11.out nd2)
                    generalize w11.drewN nd2 = w12 at HS12 HK12 ⊢
                    clear HS11 HK11
                    refine ⟨_, rfl, ?_⟩
                    refine hK.out _ _ ((blk_cell HS12.out.1 2).trans rfl) (fun hHeld => ?_)
                    clear hK K
                    refine norm_ (a' := ?_) ?_ ?_
                    rotate_left
                    · show Act.put _ (some 42) _ = _
                      simp only [Act.put, List.setIfInBounds_toArray, List.set_cons_zero, List.set_cons_succ, i64_w, i32_w]
                      rfl
                    refine pure_ (i := 4) (N := some 43) (v := ?_) (a' := ?_) #[true, true, true, true, true, false, false] rfl rfl (by kernel_rfl) (fun _ _ _ h => h) (Or.inl ⟨by rfl, ?_⟩) ?_ ?_
                    rotate_left
                    · intro w'
                      go_simp
                      with_reducible rfl
                    rotate_left
                    · simp only [Act.put, List.setIfInBounds_toArray, List.set_cons_zero, List.set_cons_succ, i64_w, i32_w]
                      rfl
                    refine pure_ (i := 5) (N := some 44) (v := ?_) (a' := ?_) #[true, true, true, true, true, true, false] rfl rfl (by kernel_rfl) (fun _ _ _ h => h) (Or.inl ⟨by rfl, ?_⟩) ?_ ?_
                    rotate_left
                    · intro w'
                      go_simp
                      with_reducible rfl
                    rotate_left
                    · simp only [Act.put, List.setIfInBounds_toArray, List.set_cons_zero, List.set_cons_succ, i64_w, i32_w]
                      rfl
                    refine last_ (i := 6) (N := none) #[true, true, true, true, true, true, true] rfl rfl (by kernel_rfl) (by decide) (fun K hK => ?_)
                    have hs2 := (blk_cell HS12.out.1 2).trans rfl
                    have hfs2 := blk_frozen HS12.out.1 2
                    refine skip_ (w1 := ?_) (by rfl) rfl ?_ ?_
                    rotate_left
                    · go_simp
                      rfl
                    refine hK.out _ _ ?_
                    clear hK K
                    refine done_ (by kernel_rfl) ?_
                    try go_wp2
                    exact ⟨⟨DoRel.of HI'.out hkm hd'.out (HK12.out.set_ 2 _) (HS12.out.put2 _)⟩, by simp [lenOf]⟩
def sgr_Do.f (a0 a1 a2 : Int) (l : List Int) : Option (Int × Int × Int) := if l.length ≤ 1000 ∧ ∀ x ∈ l, x < 100000 then some (doF a0 a1 a2 l) else none
theorem sgr_Do.calls (a0_0 a0_1 a0_2 : Int) (A1 : Option Addr) (c1 : Nat) (l1 : List Int) (r1 r2 r3 : Int) (w : World) (hr1 : Kd.C (Kd.int .i64) w A1 l1.length l1) (hc1 : l1.length ≤ c1) (h : sgr_Do.f a0_0 a0_1 a0_2 l1 = some (r1, r2, r3)) :
    Calls Try.prog 76 #[.agg #[.int .i64 a0_0, .int .i64 a0_1, .int .i64 a0_2], .slice A1 l1.length c1] w fun e w' => e = .returned (.agg #[.int .i64 r1, .int .i64 r2, .int .i64 r3]) ∧ Below w.heap.size w w' := by
  unfold sgr_Do.f at h
  split at h
  · rename_i hc
    have e := Option.some.inj h
    have hd := do0 a0_0 a0_1 a0_2 A1 c1 l1 w hr1 hc1 hc.1 hc.2
    rw [e] at hd
    exact hd
  · cases h

end Go.Proofs.Ytadjhnlbpgknfaa.E
