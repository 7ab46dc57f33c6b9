-- Laid by a program of this session (wip/tools/xp.py) over the kit's print.
import Derived.Test.YtadjhnlbpgknfaaDoorP0
import Derived.Test.YtadjhnlbpgknfaaDoorP2
import Derived.Handy
import Derived.Laws.Cover4
import Derived.Laws.IdiomStrings
namespace Go.Proofs.YtadjhnlbpgknfaaDoor.P
open Go.RowKit Go.Proofs.YtadjhnlbpgknfaaDoorW.PrintWords Go.Proofs.YtadjhnlbpgknfaaDoorW.PrintLast Go.Proofs.YtadjhnlbpgknfaaDoorW.PrintMore
attribute [local go_sem] max2_int min2_int max_two min_two max_three min_three max_four min_four   -- for this text's walks alone
set_option linter.unusedVariables false
set_option linter.unusedSimpArgs false

/-! ### beaconref15_Bytes: function 9 (an extern) -/
-- NEEDS Derived.Handy
-- NEEDS Derived.Laws.Cover4
-- NEEDS Derived.Laws.IdiomStrings
/-! The page's own, by key_Spelt.f's words. -/
theorem conv_rune (r : Int) (W : World) (g : Nat) (h : W.cell? ⟨g, 0, none⟩ = some (.int .i32 r)) : (convert 42 9 (.slice (some ⟨g, 0, none⟩) 1 1)).run Tryd.prog W = .ok (.string (Utf8.encode r)) W := by
  rw [run_convert_runes W 42 9 21 ⟨g, 0, none⟩ 1 1 [r] (Nat.le_refl _) Tryd.underlying42 Tryd.underlying21 Tryd.underlying9 (fun j hj => by
    obtain rfl : j = 0 := by simpa using hj
    exact h)]
  simp [runesBytes]
theorem conv_byte (b : UInt8) (W : World) (g : Nat) (h : W.cell? ⟨g, 0, none⟩ = some (.int .u8 (b.toNat : Int))) : (convert 41 9 (.slice (some ⟨g, 0, none⟩) 1 1)).run Tryd.prog W = .ok (.string ⟨#[b]⟩) W :=
  run_convert_bytes_back W 41 9 5 ⟨g, 0, none⟩ 1 [b] Tryd.underlying41 Tryd.underlying5 Tryd.underlying9 (fun j hj => by
    obtain rfl : j = 0 := by simpa using hj
    exact h)
set_option maxRecDepth 100000 in
theorem between15 (a b c : Int) (w : World) : Calls Tryd.prog 15 #[.int .i64 a, .int .i64 b, .int .i64 c] w fun e w' => e = .returned (.bool (decide (b ≤ a) && decide (a ≤ c))) ∧ w = w' := by
  by_cases h1 : b ≤ a
  · have hb : decide (b ≤ a) = true := decide_eq_true h1
    rw [hb]
    go_enter Tryd.func15, Tryd.ntmps15
    go_wp2
    go_ret
    exact ⟨rfl, rfl⟩
  · have hb : decide (b ≤ a) = false := decide_eq_false h1
    rw [hb]
    go_enter Tryd.func15, Tryd.ntmps15
    go_wp2
    go_ret
    exact ⟨rfl, rfl⟩
theorem enc_low {q : Int} (h : 0 ≤ q ∧ q < 32) : Utf8.encode q = ⟨#[UInt8.ofNat q.toNat]⟩ := by
  have hq : ∀ n : Fin 32, Utf8.encode (n.val : Int) = ⟨#[UInt8.ofNat n.val]⟩ := by decide +kernel
  have := hq ⟨q.toNat, by omega⟩
  simpa [Int.toNat_of_nonneg h.1] using this
set_option maxRecDepth 100000 in
set_option maxHeartbeats 4000000 in
theorem rune9 (rune mods mode : Int) (hr : 32 ≤ rune ∧ rune ≤ 1114111) (w : World) :
    Calls Tryd.prog 9 #[.agg #[.int .i64 1, .int .i64 rune, .int .i64 mods], .int .i64 mode] w fun e w' => e = .returned (.string (letterB rune mods)) ∧ Below w.heap.size w w' := by
  have hsz2 := enc_size rune
  have hw32 : wrap32 rune = rune := by unfold wrap32; omega
  have hlt : w.heap.size < (w.alloc (.cells #[.int .i64 1, .int .i64 rune, .int .i64 mods] 32)).heap.size := by simp
  have hF := conv_rune rune ((w.alloc (.cells #[.int .i64 1, .int .i64 rune, .int .i64 mods] 32)).alloc (.cells #[.int .i32 rune] 21)) (w.heap.size + 1) (by simp)
  have ha := and31 (r := rune) ⟨by omega, hr.2⟩
  have hq0 : 0 ≤ Go.bits .and .i64 rune 31 ∧ Go.bits .and .i64 rune 31 < 32 := by omega
  have hG := conv_byte (UInt8.ofNat (Go.bits .and .i64 rune 31).toNat) ((w.alloc (.cells #[.int .i64 1, .int .i64 rune, .int .i64 mods] 32)).alloc (.cells #[.int .u8 (Go.bits .and .i64 rune 31)] 5)) (w.heap.size + 1) (by
    have e : ((UInt8.ofNat (Go.bits .and .i64 rune 31).toNat).toNat : Int) = Go.bits .and .i64 rune 31 := by simp; omega
    rw [e]
    simp)
  rw [← enc_low hq0] at hG
  have hsz3 := enc_size (Go.bits .and .i64 rune 31)
  have hu8 : IntKind.u8.wrap (Go.bits .and .i64 rune 31) = Go.bits .and .i64 rune 31 := by rw [IntKind.wrap_u8]; omega
  have ctrl : Go.bits .and .i64 mods 4 ≠ 0 → ((64 ≤ rune ∧ rune ≤ 95) ∨ (97 ≤ rune ∧ rune ≤ 122)) → letterB rune mods = altB mods ++ Utf8.encode (Go.bits .and .i64 rune 31) := fun h4 h => by unfold letterB; rw [if_pos ⟨h4, h⟩]
  have free : Go.bits .and .i64 mods 4 = 0 ∨ ¬ ((64 ≤ rune ∧ rune ≤ 95) ∨ (97 ≤ rune ∧ rune ≤ 122)) → letterB rune mods = altB mods ++ Utf8.encode rune := fun h4 => by unfold letterB; rw [if_neg (fun e => h4.elim e.1 (fun h => h e.2))]
  obtain ⟨q, hq⟩ : ∃ q, q = Go.bits .and .i64 rune 31 := ⟨_, rfl⟩
  rw [← hq] at hG hsz3 hu8 ctrl hq0
  have hq' : Go.bits .and .i64 rune 31 = q := hq.symm
  clear ha hq
  by_cases h2 : Go.bits .and .i64 mods 2 = 0
  · have hb2 : (Go.bits .and .i64 mods 2 != 0) = false := by simpa using h2
    have ha : altB mods = ⟨#[]⟩ := if_pos h2
    rw [ha] at ctrl free
    by_cases h4 : Go.bits .and .i64 mods 4 = 0
    · have hb4 : (Go.bits .and .i64 mods 4 != 0) = false := by simpa using h4
      rw [free (.inl h4)]
      clear ctrl free
      go_enter Tryd.func9, Tryd.ntmps9
      go_wp2
      go_ret
      exact ⟨rfl, below_alloc (below_alloc (Below.refl _ _) _) _⟩
    · have hb4 : (Go.bits .and .i64 mods 4 != 0) = true := by simpa using h4
      by_cases h64 : 64 ≤ rune
      · by_cases h95 : rune ≤ 95
        · have n97 : ¬ 97 ≤ rune := by omega
          rw [ctrl h4 (.inl ⟨h64, h95⟩)]
          clear ctrl free
          go_enter Tryd.func9, Tryd.ntmps9
          go_wp2_with (go_at_call 15; refine (between15 _ _ _ _).mono ?_; rintro e w' ⟨rfl, rfl⟩)
          go_ret
          exact ⟨rfl, below_alloc (below_alloc (Below.refl _ _) _) _⟩
        · by_cases h97 : 97 ≤ rune
          · by_cases h122 : rune ≤ 122
            · skip
              rw [ctrl h4 (.inr ⟨h97, h122⟩)]
              clear ctrl free
              go_enter Tryd.func9, Tryd.ntmps9
              go_wp2_with (go_at_call 15; refine (between15 _ _ _ _).mono ?_; rintro e w' ⟨rfl, rfl⟩)
              go_ret
              exact ⟨rfl, below_alloc (below_alloc (Below.refl _ _) _) _⟩
            · skip
              rw [free (.inr (by omega))]
              clear ctrl free
              go_enter Tryd.func9, Tryd.ntmps9
              go_wp2_with (go_at_call 15; refine (between15 _ _ _ _).mono ?_; rintro e w' ⟨rfl, rfl⟩)
              go_ret
              exact ⟨rfl, below_alloc (below_alloc (Below.refl _ _) _) _⟩
          · skip
            rw [free (.inr (by omega))]
            clear ctrl free
            go_enter Tryd.func9, Tryd.ntmps9
            go_wp2_with (go_at_call 15; refine (between15 _ _ _ _).mono ?_; rintro e w' ⟨rfl, rfl⟩)
            go_ret
            exact ⟨rfl, below_alloc (below_alloc (Below.refl _ _) _) _⟩
      · have n97 : ¬ 97 ≤ rune := by omega
        have n95 : rune ≤ 95 := by omega
        rw [free (.inr (by omega))]
        clear ctrl free
        go_enter Tryd.func9, Tryd.ntmps9
        go_wp2_with (go_at_call 15; refine (between15 _ _ _ _).mono ?_; rintro e w' ⟨rfl, rfl⟩)
        go_ret
        exact ⟨rfl, below_alloc (below_alloc (Below.refl _ _) _) _⟩
  · have hb2 : (Go.bits .and .i64 mods 2 != 0) = true := by simpa using h2
    have ha : altB mods = ⟨#[27]⟩ := if_neg h2
    rw [ha] at ctrl free
    by_cases h4 : Go.bits .and .i64 mods 4 = 0
    · have hb4 : (Go.bits .and .i64 mods 4 != 0) = false := by simpa using h4
      rw [free (.inl h4)]
      clear ctrl free
      go_enter Tryd.func9, Tryd.ntmps9
      go_wp2
      go_ret
      exact ⟨rfl, below_alloc (below_alloc (Below.refl _ _) _) _⟩
    · have hb4 : (Go.bits .and .i64 mods 4 != 0) = true := by simpa using h4
      by_cases h64 : 64 ≤ rune
      · by_cases h95 : rune ≤ 95
        · have n97 : ¬ 97 ≤ rune := by omega
          rw [ctrl h4 (.inl ⟨h64, h95⟩)]
          clear ctrl free
          go_enter Tryd.func9, Tryd.ntmps9
          go_wp2_with (go_at_call 15; refine (between15 _ _ _ _).mono ?_; rintro e w' ⟨rfl, rfl⟩)
          go_ret
          exact ⟨rfl, below_alloc (below_alloc (Below.refl _ _) _) _⟩
        · by_cases h97 : 97 ≤ rune
          · by_cases h122 : rune ≤ 122
            · skip
              rw [ctrl h4 (.inr ⟨h97, h122⟩)]
              clear ctrl free
              go_enter Tryd.func9, Tryd.ntmps9
              go_wp2_with (go_at_call 15; refine (between15 _ _ _ _).mono ?_; rintro e w' ⟨rfl, rfl⟩)
              go_ret
              exact ⟨rfl, below_alloc (below_alloc (Below.refl _ _) _) _⟩
            · skip
              rw [free (.inr (by omega))]
              clear ctrl free
              go_enter Tryd.func9, Tryd.ntmps9
              go_wp2_with (go_at_call 15; refine (between15 _ _ _ _).mono ?_; rintro e w' ⟨rfl, rfl⟩)
              go_ret
              exact ⟨rfl, below_alloc (below_alloc (Below.refl _ _) _) _⟩
          · skip
            rw [free (.inr (by omega))]
            clear ctrl free
            go_enter Tryd.func9, Tryd.ntmps9
            go_wp2_with (go_at_call 15; refine (between15 _ _ _ _).mono ?_; rintro e w' ⟨rfl, rfl⟩)
            go_ret
            exact ⟨rfl, below_alloc (below_alloc (Below.refl _ _) _) _⟩
      · have n97 : ¬ 97 ≤ rune := by omega
        have n95 : rune ≤ 95 := by omega
        rw [free (.inr (by omega))]
        clear ctrl free
        go_enter Tryd.func9, Tryd.ntmps9
        go_wp2_with (go_at_call 15; refine (between15 _ _ _ _).mono ?_; rintro e w' ⟨rfl, rfl⟩)
        go_ret
        exact ⟨rfl, below_alloc (below_alloc (Below.refl _ _) _) _⟩
set_option maxRecDepth 100000 in
set_option maxHeartbeats 4000000 in
theorem paste9 (rune mods mode : Int) (w : World) :
    Calls Tryd.prog 9 #[.agg #[.int .i64 12, .int .i64 rune, .int .i64 mods], .int .i64 mode] w fun e w' => e = .returned (.string (pasteB rune mode)) ∧ Below w.heap.size w w' := by
  by_cases h2 : Go.bits .and .i64 mods 2 = 0
  · have hb2 : (Go.bits .and .i64 mods 2 != 0) = false := by simpa using h2
    by_cases h : Go.bits .and .i64 mode 128 = 0
    · have hb : (Go.bits .and .i64 mode 128 == 0) = true := by simpa using h
      rw [show pasteB rune mode = ⟨#[]⟩ from if_pos h]
      go_enter Tryd.func9, Tryd.ntmps9
      go_wp2
      go_ret
      exact ⟨rfl, below_alloc (Below.refl _ _) _⟩
    · have hb : (Go.bits .and .i64 mode 128 == 0) = false := by simpa using h
      by_cases h1 : rune = 1
      · rw [show pasteB rune mode = ⟨#[27, 91, 50, 48, 48, 126]⟩ by unfold pasteB; rw [if_neg h, if_pos h1]]
        subst h1
        go_enter Tryd.func9, Tryd.ntmps9
        go_wp2
        go_ret
        exact ⟨rfl, below_alloc (Below.refl _ _) _⟩
      · rw [show pasteB rune mode = ⟨#[27, 91, 50, 48, 49, 126]⟩ by unfold pasteB; rw [if_neg h, if_neg h1]]
        have hb1 : (rune == 1) = false := by simpa using h1
        go_enter Tryd.func9, Tryd.ntmps9
        go_wp2
        go_ret
        exact ⟨rfl, below_alloc (Below.refl _ _) _⟩
  · have hb2 : (Go.bits .and .i64 mods 2 != 0) = true := by simpa using h2
    by_cases h : Go.bits .and .i64 mode 128 = 0
    · have hb : (Go.bits .and .i64 mode 128 == 0) = true := by simpa using h
      rw [show pasteB rune mode = ⟨#[]⟩ from if_pos h]
      go_enter Tryd.func9, Tryd.ntmps9
      go_wp2
      go_ret
      exact ⟨rfl, below_alloc (Below.refl _ _) _⟩
    · have hb : (Go.bits .and .i64 mode 128 == 0) = false := by simpa using h
      by_cases h1 : rune = 1
      · rw [show pasteB rune mode = ⟨#[27, 91, 50, 48, 48, 126]⟩ by unfold pasteB; rw [if_neg h, if_pos h1]]
        subst h1
        go_enter Tryd.func9, Tryd.ntmps9
        go_wp2
        go_ret
        exact ⟨rfl, below_alloc (Below.refl _ _) _⟩
      · rw [show pasteB rune mode = ⟨#[27, 91, 50, 48, 49, 126]⟩ by unfold pasteB; rw [if_neg h, if_neg h1]]
        have hb1 : (rune == 1) = false := by simpa using h1
        go_enter Tryd.func9, Tryd.ntmps9
        go_wp2
        go_ret
        exact ⟨rfl, below_alloc (Below.refl _ _) _⟩
set_option maxRecDepth 100000 in
set_option maxHeartbeats 4000000 in
theorem enter9 (rune mods mode : Int) (w : World) :
    Calls Tryd.prog 9 #[.agg #[.int .i64 8, .int .i64 rune, .int .i64 mods], .int .i64 mode] w fun e w' => e = .returned (.string (plainB 8 mods mode)) ∧ Below w.heap.size w w' := by
  by_cases h2 : Go.bits .and .i64 mods 2 = 0
  · have hb2 : (Go.bits .and .i64 mods 2 != 0) = false := by simpa using h2
    have ha : altB mods = ⟨#[]⟩ := if_pos h2
    by_cases h : Go.bits .and .i64 mode 4 = 0
    · have hb : (Go.bits .and .i64 mode 4 != 0) = false := by simpa using h
      rw [show plainB 8 mods mode = altB mods ++ ⟨#[13]⟩ by unfold plainB; rw [if_neg (by decide), if_neg (by decide), if_pos rfl, if_pos h], ha]
      clear ha
      go_enter Tryd.func9, Tryd.ntmps9
      go_wp2
      go_ret
      exact ⟨rfl, below_alloc (Below.refl _ _) _⟩
    · have hb : (Go.bits .and .i64 mode 4 != 0) = true := by simpa using h
      rw [show plainB 8 mods mode = altB mods ++ ⟨#[13, 10]⟩ by unfold plainB; rw [if_neg (by decide), if_neg (by decide), if_pos rfl, if_neg h], ha]
      clear ha
      go_enter Tryd.func9, Tryd.ntmps9
      go_wp2
      go_ret
      exact ⟨rfl, below_alloc (Below.refl _ _) _⟩
  · have hb2 : (Go.bits .and .i64 mods 2 != 0) = true := by simpa using h2
    have ha : altB mods = ⟨#[27]⟩ := if_neg h2
    by_cases h : Go.bits .and .i64 mode 4 = 0
    · have hb : (Go.bits .and .i64 mode 4 != 0) = false := by simpa using h
      rw [show plainB 8 mods mode = altB mods ++ ⟨#[13]⟩ by unfold plainB; rw [if_neg (by decide), if_neg (by decide), if_pos rfl, if_pos h], ha]
      clear ha
      go_enter Tryd.func9, Tryd.ntmps9
      go_wp2
      go_ret
      exact ⟨rfl, below_alloc (Below.refl _ _) _⟩
    · have hb : (Go.bits .and .i64 mode 4 != 0) = true := by simpa using h
      rw [show plainB 8 mods mode = altB mods ++ ⟨#[13, 10]⟩ by unfold plainB; rw [if_neg (by decide), if_neg (by decide), if_pos rfl, if_neg h], ha]
      clear ha
      go_enter Tryd.func9, Tryd.ntmps9
      go_wp2
      go_ret
      exact ⟨rfl, below_alloc (Below.refl _ _) _⟩
set_option maxRecDepth 100000 in
set_option maxHeartbeats 4000000 in
theorem tab9 (rune mods mode : Int) (w : World) :
    Calls Tryd.prog 9 #[.agg #[.int .i64 9, .int .i64 rune, .int .i64 mods], .int .i64 mode] w fun e w' => e = .returned (.string (plainB 9 mods mode)) ∧ Below w.heap.size w w' := by
  by_cases h2 : Go.bits .and .i64 mods 2 = 0
  · have hb2 : (Go.bits .and .i64 mods 2 != 0) = false := by simpa using h2
    have ha : altB mods = ⟨#[]⟩ := if_pos h2
    by_cases h : Go.bits .and .i64 mods 1 = 0
    · have hb : (Go.bits .and .i64 mods 1 != 0) = false := by simpa using h
      rw [show plainB 9 mods mode = altB mods ++ ⟨#[9]⟩ by unfold plainB; rw [if_pos rfl, if_pos h], ha]
      clear ha
      go_enter Tryd.func9, Tryd.ntmps9
      go_wp2
      go_ret
      exact ⟨rfl, below_alloc (Below.refl _ _) _⟩
    · have hb : (Go.bits .and .i64 mods 1 != 0) = true := by simpa using h
      rw [show plainB 9 mods mode = ⟨#[27, 91, 90]⟩ by unfold plainB; rw [if_pos rfl, if_neg h]]
      clear ha
      go_enter Tryd.func9, Tryd.ntmps9
      go_wp2
      go_ret
      exact ⟨rfl, below_alloc (Below.refl _ _) _⟩
  · have hb2 : (Go.bits .and .i64 mods 2 != 0) = true := by simpa using h2
    have ha : altB mods = ⟨#[27]⟩ := if_neg h2
    by_cases h : Go.bits .and .i64 mods 1 = 0
    · have hb : (Go.bits .and .i64 mods 1 != 0) = false := by simpa using h
      rw [show plainB 9 mods mode = altB mods ++ ⟨#[9]⟩ by unfold plainB; rw [if_pos rfl, if_pos h], ha]
      clear ha
      go_enter Tryd.func9, Tryd.ntmps9
      go_wp2
      go_ret
      exact ⟨rfl, below_alloc (Below.refl _ _) _⟩
    · have hb : (Go.bits .and .i64 mods 1 != 0) = true := by simpa using h
      rw [show plainB 9 mods mode = ⟨#[27, 91, 90]⟩ by unfold plainB; rw [if_pos rfl, if_neg h]]
      clear ha
      go_enter Tryd.func9, Tryd.ntmps9
      go_wp2
      go_ret
      exact ⟨rfl, below_alloc (Below.refl _ _) _⟩
set_option maxRecDepth 100000 in
set_option maxHeartbeats 4000000 in
theorem back9 (rune mods mode : Int) (w : World) :
    Calls Tryd.prog 9 #[.agg #[.int .i64 10, .int .i64 rune, .int .i64 mods], .int .i64 mode] w fun e w' => e = .returned (.string (plainB 10 mods mode)) ∧ Below w.heap.size w w' := by
  by_cases h2 : Go.bits .and .i64 mods 2 = 0
  · have hb2 : (Go.bits .and .i64 mods 2 != 0) = false := by simpa using h2
    have ha : altB mods = ⟨#[]⟩ := if_pos h2
    rw [show plainB 10 mods mode = altB mods ++ ⟨#[127]⟩ by unfold plainB; rw [if_neg (by decide), if_neg (by decide), if_neg (by decide)], ha]
    clear ha
    go_enter Tryd.func9, Tryd.ntmps9
    go_wp2
    go_ret
    exact ⟨rfl, below_alloc (Below.refl _ _) _⟩
  · have hb2 : (Go.bits .and .i64 mods 2 != 0) = true := by simpa using h2
    have ha : altB mods = ⟨#[27]⟩ := if_neg h2
    rw [show plainB 10 mods mode = altB mods ++ ⟨#[127]⟩ by unfold plainB; rw [if_neg (by decide), if_neg (by decide), if_neg (by decide)], ha]
    clear ha
    go_enter Tryd.func9, Tryd.ntmps9
    go_wp2
    go_ret
    exact ⟨rfl, below_alloc (Below.refl _ _) _⟩
set_option maxRecDepth 100000 in
set_option maxHeartbeats 4000000 in
theorem esc9 (rune mods mode : Int) (w : World) :
    Calls Tryd.prog 9 #[.agg #[.int .i64 11, .int .i64 rune, .int .i64 mods], .int .i64 mode] w fun e w' => e = .returned (.string (plainB 11 mods mode)) ∧ Below w.heap.size w w' := by
  by_cases h2 : Go.bits .and .i64 mods 2 = 0
  · have hb2 : (Go.bits .and .i64 mods 2 != 0) = false := by simpa using h2
    have ha : altB mods = ⟨#[]⟩ := if_pos h2
    rw [show plainB 11 mods mode = altB mods ++ ⟨#[27]⟩ by unfold plainB; rw [if_neg (by decide), if_pos rfl], ha]
    clear ha
    go_enter Tryd.func9, Tryd.ntmps9
    go_wp2
    go_ret
    exact ⟨rfl, below_alloc (Below.refl _ _) _⟩
  · have hb2 : (Go.bits .and .i64 mods 2 != 0) = true := by simpa using h2
    have ha : altB mods = ⟨#[27]⟩ := if_neg h2
    rw [show plainB 11 mods mode = altB mods ++ ⟨#[27]⟩ by unfold plainB; rw [if_neg (by decide), if_pos rfl], ha]
    clear ha
    go_enter Tryd.func9, Tryd.ntmps9
    go_wp2
    go_ret
    exact ⟨rfl, below_alloc (Below.refl _ _) _⟩
set_option maxRecDepth 100000 in
set_option maxHeartbeats 4000000 in
theorem arrow9 (kind rune mods mode : Int) (hk : kind = 2 ∨ kind = 3 ∨ kind = 4 ∨ kind = 5 ∨ kind = 6 ∨ kind = 7) (hm : 0 ≤ mods ∧ mods ≤ 7) (w : World) :
    Calls Tryd.prog 9 #[.agg #[.int .i64 kind, .int .i64 rune, .int .i64 mods], .int .i64 mode] w fun e w' => e = .returned (.string (arrowB kind mods mode)) ∧ Below w.heap.size w w' := by
  by_cases h0 : mods = 0
  · subst h0
    have hb2 : (Go.bits .and .i64 0 2 != 0) = false := by decide +kernel
    by_cases h16 : Go.bits .and .i64 mode 16 = 0
    · have hb : (Go.bits .and .i64 mode 16 != 0) = false := by simpa using h16
      rw [show arrowB kind 0 mode = ⟨#[27, 91]⟩ ++ lastB kind by unfold arrowB; rw [if_pos rfl, if_pos h16]]
      clear hm
      rcases hk with rfl | rfl | rfl | rfl | rfl | rfl
      all_goals
        go_enter Tryd.func9, Tryd.ntmps9
        go_wp2
        go_ret
        exact ⟨congrArg (fun z => Ending.returned (.string z)) (by decide +kernel), below_alloc (Below.refl _ _) _⟩
    · have hb : (Go.bits .and .i64 mode 16 != 0) = true := by simpa using h16
      rw [show arrowB kind 0 mode = ⟨#[27, 79]⟩ ++ lastB kind by unfold arrowB; rw [if_pos rfl, if_neg h16]]
      clear hm
      rcases hk with rfl | rfl | rfl | rfl | rfl | rfl
      all_goals
        go_enter Tryd.func9, Tryd.ntmps9
        go_wp2
        go_ret
        exact ⟨congrArg (fun z => Ending.returned (.string z)) (by decide +kernel), below_alloc (Below.refl _ _) _⟩
  · have hb : (mods != 0) = true := by simpa using h0
    rw [show arrowB kind mods mode = ⟨#[27, 91, 49, 59]⟩ ++ digit (1 + mods) ++ lastB kind by unfold arrowB; rw [if_neg h0]]
    have h8 : OneTo8 (1 + mods) := by unfold OneTo8; omega
    have H := Aside0.mk h8
    have hw : wrap64 (1 + mods) = 1 + mods := by unfold wrap64; omega
    clear hm h8
    by_cases h2 : Go.bits .and .i64 mods 2 = 0
    · have hb2 : (Go.bits .and .i64 mods 2 != 0) = false := by simpa using h2
      rcases hk with rfl | rfl | rfl | rfl | rfl | rfl
      all_goals
        go_enter Tryd.func9, Tryd.ntmps9
        go_wp2_with (go_at_call 16; refine (itoa16 (1 + mods) H.out _).mono ?_; rintro e w' ⟨rfl, ⟨nd, rfl⟩⟩)
        go_ret
        exact ⟨congrArg (fun z => Ending.returned (.string z)) (congrArg (fun z => ({ data := #[27, 91, 49, 59] } : ByteArray) ++ digit (1 + mods) ++ z) (by decide +kernel)), pw_below_drewN (below_alloc (Below.refl _ _) _) _⟩
    · have hb2 : (Go.bits .and .i64 mods 2 != 0) = true := by simpa using h2
      rcases hk with rfl | rfl | rfl | rfl | rfl | rfl
      all_goals
        go_enter Tryd.func9, Tryd.ntmps9
        go_wp2_with (go_at_call 16; refine (itoa16 (1 + mods) H.out _).mono ?_; rintro e w' ⟨rfl, ⟨nd, rfl⟩⟩)
        go_ret
        exact ⟨congrArg (fun z => Ending.returned (.string z)) (congrArg (fun z => ({ data := #[27, 91, 49, 59] } : ByteArray) ++ digit (1 + mods) ++ z) (by decide +kernel)), pw_below_drewN (below_alloc (Below.refl _ _) _) _⟩
def beaconref15_Bytes.f (kind rune mods mode : Int) : Option ByteArray := key_Spelt.f kind rune mods mode
theorem beaconref15_Bytes.calls (a0_0 a0_1 a0_2 a1 : Int) (r : ByteArray) (w : World) (h : beaconref15_Bytes.f a0_0 a0_1 a0_2 a1 = some r) :
    Calls Tryd.prog 9 #[.agg #[.int .i64 a0_0, .int .i64 a0_1, .int .i64 a0_2], .int .i64 a1] w fun e w' => e = .returned (.string r) ∧ Below w.heap.size w w' := by
  unfold beaconref15_Bytes.f key_Spelt.f at h
  split at h
  · rename_i hv
    obtain rfl := Option.some.inj h
    obtain ⟨hm, hk⟩ := hv
    by_cases h1 : a0_0 = 1
    · subst h1
      exact rune9 a0_1 a0_2 a1 (by omega) w
    by_cases h7 : a0_0 ≤ 7
    · rw [show spelledB a0_0 a0_1 a0_2 a1 = arrowB a0_0 a0_2 a1 by unfold spelledB; rw [if_neg h1, if_pos h7]]
      exact arrow9 a0_0 a0_1 a0_2 a1 (by omega) hm w
    by_cases h12 : a0_0 = 12
    · subst h12
      exact paste9 a0_1 a0_2 a1 w
    rw [show spelledB a0_0 a0_1 a0_2 a1 = plainB a0_0 a0_2 a1 by unfold spelledB; rw [if_neg h1, if_neg h7, if_neg h12]]
    have hc : a0_0 = 8 ∨ a0_0 = 9 ∨ a0_0 = 10 ∨ a0_0 = 11 := by omega
    rcases hc with rfl | rfl | rfl | rfl
    · exact enter9 a0_1 a0_2 a1 w
    · exact tab9 a0_1 a0_2 a1 w
    · exact back9 a0_1 a0_2 a1 w
    · exact esc9 a0_1 a0_2 a1 w
  · cases h

/-! ### beaconlaw15_num: function 10 -/
def beaconlaw15_num.f (a0 : Int) : Option (Int) := some a0
set_option maxHeartbeats 8000000 in
set_option maxRecDepth 100000 in
theorem beaconlaw15_num.calls (a0 : Int) (r : Int) (w : World) (h : beaconlaw15_num.f a0 = some r) :
    Calls Tryd.prog 10 #[.int .i64 a0] w fun e w' => e = .returned (.int .i64 r) ∧ Drawn0 w w' := by
  have H : (some a0) = some r := h
  clear h
  obtain rfl := Option.some.inj H
  go_enter Tryd.func10, Tryd.ntmps10
  go_wp2
  go_ret
  exact ⟨by first | rfl | (simp; done) | (simp [*]; done), by repeat (first | exact Drawn0.refl _ | apply Drawn0.step)⟩

/-! ### beaconlaw15_wakes: function 11 -/
def beaconlaw15_wakes.f (k : Nat)  : Option (Bool) := (key_Bytes.f k 2 0 0 16).bind fun bt115 => ((beaconlaw15_num.f bt115.2).bind fun t117 => (if t117 = 0 then (some (bt115.1.toList == ([27, 79, 65] : List UInt8))) else (some false)))
theorem beaconlaw15_wakes.mono : ∀ k, LeO (beaconlaw15_wakes.f k ) (beaconlaw15_wakes.f (k + 1) ) := by
  intro  k
  unfold beaconlaw15_wakes.f
  repeat' first
      | (with_reducible exact key_Bytes.mono _ _ _ _ _)
      | (with_reducible exact LeO.refl _)
      | (with_reducible exact LeO.none _)
      | (with_reducible refine LeO.ite ?_ ?_)
      | (with_reducible refine LeO.bind ?_ (fun _ => ?_))
      | exact key_Bytes.mono _ _ _ _ _
      | exact LeO.none _
      | refine LeO.ite ?_ ?_
      | refine LeO.bind ?_ (fun _ => ?_)
set_option maxHeartbeats 8000000 in
set_option maxRecDepth 100000 in
theorem beaconlaw15_wakes.calls (k : Nat)  (r : Bool) (w : World) (h : beaconlaw15_wakes.f k  = some r) :
    Calls Tryd.prog 11 #[] w fun e w' => e = .returned (.bool r) ∧ Below w.heap.size w w' := by
  have hu32 := Tryd.underlying32
  have HB := Aside0.mk (Below.refl w.heap.size w)
  have H : ((key_Bytes.f k 2 0 0 16).bind fun bt115 => ((beaconlaw15_num.f bt115.2).bind fun t117 => (if t117 = 0 then (some (bt115.1.toList == ([27, 79, 65] : List UInt8))) else (some false)))) = some r := h
  clear h
  replace H := Option.bind_eq_some_iff.mp H
  obtain ⟨⟨t115, t116⟩, A10, H⟩ := H
  replace H : ((beaconlaw15_num.f t116).bind fun t117 => (if t117 = 0 then (some (t115.toList == ([27, 79, 65] : List UInt8))) else (some false))) = some r := H
  have A1 := Aside0.mk A10
  clear A10
  replace H := Option.bind_eq_some_iff.mp H
  obtain ⟨t117, A20, H⟩ := H
  replace H : (if t117 = 0 then (some (t115.toList == ([27, 79, 65] : List UInt8))) else (some false)) = some r := H
  have A2 := Aside0.mk A20
  clear A20
  by_cases c3 : t117 = 0
  · rw [if_pos c3] at H
    have c3b0 : (t117 == 0) = true := beq_iff_eq.mpr c3
    have c3b1 : (t117 != 0) = false := bne_eq_false_iff_eq.mpr c3
    clear c3
    obtain rfl := Option.some.inj H
    go_enter Tryd.func11, Tryd.ntmps11
    go_wp2_with (first | ((with_reducible refine gate_callee (f := 6) rfl ?_); refine goesL_ (some 5) rfl rfl Tryd.func6 (by kernel_rfl) rfl #[.agg #[.int .i64 2, .int .i64 0, .int .i64 0], .int .i64 16] rfl (by (try simp only [List.map_toArray, List.map_cons, List.map_nil]); first | done | rfl | (simp only [List.length_drop, List.length_take]; rfl)) ?_; (with_reducible refine (key_Bytes.calls k 2 0 0 16 t115 t116 _ A1.out).mono ?_); rintro e w4 ⟨rfl, hb⟩; refine ⟨_, rfl, ?_⟩; have n0_ := Aside0.mk (below_step (by repeat (first | (with_reducible first | exact HB.out | apply below_alloc | apply pw_below_drewN | apply below_drew1) | exact HB.out)) hb); clear HB; have HB := n0_; clear n0_; (try clear hb); (try clear hb2); (try clear hk); (try clear hi)) | ((with_reducible refine gate_callee (f := 10) rfl ?_); refine goesL_ (some 9) rfl rfl Tryd.func10 (by kernel_rfl) rfl #[.int .i64 t116] rfl (by (try simp only [List.map_toArray, List.map_cons, List.map_nil]); first | done | rfl | (simp only [List.length_drop, List.length_take]; rfl)) ?_; (with_reducible refine (beaconlaw15_num.calls t116 t117 _ A2.out).mono ?_); rintro e w' ⟨rfl, ⟨nd, rfl⟩⟩; refine ⟨_, rfl, ?_⟩))
    go_ret
    exact ⟨by first | rfl | (simp [errW_none, errW_some] <;> rfl) | (simp [*, errW_none, errW_some] <;> rfl), by repeat (first | (with_reducible first | exact HB.out | apply below_alloc | apply pw_below_drewN | apply below_drew1) | exact HB.out)⟩
  · rw [if_neg c3] at H
    have c3b0 : (t117 == 0) = false := beq_eq_false_iff_ne.mpr c3
    have c3b1 : (t117 != 0) = true := bne_iff_ne.mpr c3
    obtain rfl := Option.some.inj H
    go_enter Tryd.func11, Tryd.ntmps11
    go_wp2_with (first | ((with_reducible refine gate_callee (f := 6) rfl ?_); refine goesL_ (some 5) rfl rfl Tryd.func6 (by kernel_rfl) rfl #[.agg #[.int .i64 2, .int .i64 0, .int .i64 0], .int .i64 16] rfl (by (try simp only [List.map_toArray, List.map_cons, List.map_nil]); first | done | rfl | (simp only [List.length_drop, List.length_take]; rfl)) ?_; (with_reducible refine (key_Bytes.calls k 2 0 0 16 t115 t116 _ A1.out).mono ?_); rintro e w5 ⟨rfl, hb⟩; refine ⟨_, rfl, ?_⟩; have n0_ := Aside0.mk (below_step (by repeat (first | (with_reducible first | exact HB.out | apply below_alloc | apply pw_below_drewN | apply below_drew1) | exact HB.out)) hb); clear HB; have HB := n0_; clear n0_; (try clear hb); (try clear hb2); (try clear hk); (try clear hi)) | ((with_reducible refine gate_callee (f := 10) rfl ?_); refine goesL_ (some 9) rfl rfl Tryd.func10 (by kernel_rfl) rfl #[.int .i64 t116] rfl (by (try simp only [List.map_toArray, List.map_cons, List.map_nil]); first | done | rfl | (simp only [List.length_drop, List.length_take]; rfl)) ?_; (with_reducible refine (beaconlaw15_num.calls t116 t117 _ A2.out).mono ?_); rintro e w' ⟨rfl, ⟨nd, rfl⟩⟩; refine ⟨_, rfl, ?_⟩))
    go_ret
    exact ⟨by first | rfl | (simp [errW_none, errW_some] <;> rfl) | (simp [*, errW_none, errW_some] <;> rfl), by repeat (first | (with_reducible first | exact HB.out | apply below_alloc | apply pw_below_drewN | apply below_drew1) | exact HB.out)⟩

end Go.Proofs.YtadjhnlbpgknfaaDoor.P
