-- Laid by a program of this session (wip/tools/xp.py) over the kit's print.
import Derived.Test.YtadjhnlbpgknfaaDoorP0
import Derived.Test.YtadjhnlbpgknfaaDoorP1
import Derived.Handy
namespace Go.Proofs.YtadjhnlbpgknfaaDoor.P
open Go.RowKit Go.Proofs.YtadjhnlbpgknfaaDoorW.PrintWords Go.Proofs.YtadjhnlbpgknfaaDoorW.PrintLast Go.Proofs.YtadjhnlbpgknfaaDoorW.PrintMore
attribute [local go_sem] max2_int min2_int max_two min_two max_three min_three max_four min_four   -- for this text's walks alone
set_option linter.unusedVariables false
set_option linter.unusedSimpArgs false

/-! ### key_Spelt: function 14 (an extern) -/
-- NEEDS Derived.Handy
def digit (n : Int) : ByteArray := ⟨#[UInt8.ofNat (48 + n.toNat)]⟩
def OneTo8 (n : Int) : Prop := n = 1 ∨ n = 2 ∨ n = 3 ∨ n = 4 ∨ n = 5 ∨ n = 6 ∨ n = 7 ∨ n = 8
set_option maxRecDepth 100000 in
set_option maxHeartbeats 1000000 in
theorem small21 (n : Int) (h : OneTo8 n) (w : World) : Calls Tryd.prog 21 #[.int .i64 n] w fun e w' => e = .returned (.string (digit n)) ∧ Drawn0 w w' := by
  rcases h with rfl | rfl | rfl | rfl | rfl | rfl | rfl | rfl
  all_goals
    go_enter Tryd.func21, Tryd.ntmps21
    go_wp2
    go_ret
    exact ⟨congrArg (fun z => Ending.returned (.string z)) (by decide +kernel), 0, rfl⟩
set_option maxRecDepth 100000 in
set_option maxHeartbeats 1000000 in
theorem itoa20 (n : Int) (h : OneTo8 n) (w : World) : Calls Tryd.prog 20 #[.int .i64 n, .int .i64 10] w fun e w' => e = .returned (.string (digit n)) ∧ Drawn0 w w' := by
  have h0 : 0 ≤ n := by unfold OneTo8 at h; omega
  have h1 : n < 100 := by unfold OneTo8 at h; omega
  have H := Aside0.mk h
  clear h
  go_enter Tryd.func20, Tryd.ntmps20
  go_wp2_with (go_at_call 21; refine (small21 n H.out _).mono ?_; rintro e w' ⟨rfl, ⟨nd, rfl⟩⟩)
  go_ret
  exact ⟨rfl, nd, rfl⟩
set_option maxRecDepth 100000 in
theorem itoa16 (n : Int) (h : OneTo8 n) (w : World) : Calls Tryd.prog 16 #[.int .i64 n] w fun e w' => e = .returned (.string (digit n)) ∧ Drawn0 w w' := by
  have H := Aside0.mk h
  clear h
  have in19 : Calls Tryd.prog 19 #[.int .i64 n] w fun e w' => e = .returned (.string (digit n)) ∧ Drawn0 w w' := by
    go_enter Tryd.func19, Tryd.ntmps19
    go_wp2_with (go_at_call 20; refine (itoa20 n H.out _).mono ?_; rintro e w' ⟨rfl, ⟨nd, rfl⟩⟩)
    go_ret
    exact ⟨rfl, nd, rfl⟩
  have I := Aside0.mk in19
  clear in19
  go_enter Tryd.func16, Tryd.ntmps16
  go_wp2_with (go_at_call 19; refine I.out.mono ?_; rintro e w' ⟨rfl, ⟨nd, rfl⟩⟩)
  go_ret
  exact ⟨rfl, nd, rfl⟩
/-! The key's four kinds. -/
def altB (mods : Int) : ByteArray := if Go.bits .and .i64 mods 2 = 0 then ⟨#[]⟩ else ⟨#[27]⟩
theorem altB_size (mods : Int) : (altB mods).size ≤ 1 := by
  unfold altB
  split <;> decide
set_option maxRecDepth 100000 in
theorem ahead48 (mods : Int) (w : World) : Calls Tryd.prog 48 #[.int .i64 mods] w fun e w' => e = .returned (.string (altB mods)) ∧ w = w' := by
  by_cases h : Go.bits .and .i64 mods 2 = 0
  · have e : altB mods = ⟨#[]⟩ := if_pos h
    rw [e]
    have hb : (Go.bits .and .i64 mods 2 == 0) = true := by simpa using h
    go_enter Tryd.func48, Tryd.ntmps48
    go_wp2
    go_ret
    exact ⟨rfl, rfl⟩
  · have e : altB mods = ⟨#[27]⟩ := if_neg h
    rw [e]
    have hb : (Go.bits .and .i64 mods 2 == 0) = false := by simpa using h
    go_enter Tryd.func48, Tryd.ntmps48
    go_wp2
    go_ret
    exact ⟨rfl, rfl⟩
def lastB (kind : Int) : ByteArray := if kind = 2 then ⟨#[65]⟩ else if kind = 3 then ⟨#[66]⟩ else if kind = 4 then ⟨#[67]⟩ else if kind = 5 then ⟨#[68]⟩ else if kind = 6 then ⟨#[72]⟩ else ⟨#[70]⟩
def arrowB (kind mods mode : Int) : ByteArray := if mods = 0 then (if Go.bits .and .i64 mode 16 = 0 then ⟨#[27, 91]⟩ ++ lastB kind else ⟨#[27, 79]⟩ ++ lastB kind) else ⟨#[27, 91, 49, 59]⟩ ++ digit (1 + mods) ++ lastB kind
def plainB (kind mods mode : Int) : ByteArray :=
  if kind = 9 then (if Go.bits .and .i64 mods 1 = 0 then altB mods ++ ⟨#[9]⟩ else ⟨#[27, 91, 90]⟩)
  else if kind = 11 then altB mods ++ ⟨#[27]⟩
  else if kind = 8 then (if Go.bits .and .i64 mode 4 = 0 then altB mods ++ ⟨#[13]⟩ else altB mods ++ ⟨#[13, 10]⟩)
  else altB mods ++ ⟨#[127]⟩
def pasteB (rune mode : Int) : ByteArray := if Go.bits .and .i64 mode 128 = 0 then ⟨#[]⟩ else if rune = 1 then ⟨#[27, 91, 50, 48, 48, 126]⟩ else ⟨#[27, 91, 50, 48, 49, 126]⟩
def ctrlP (rune mods : Int) : Prop := Go.bits .and .i64 mods 4 ≠ 0 ∧ ((64 ≤ rune ∧ rune ≤ 95) ∨ (97 ≤ rune ∧ rune ≤ 122))
instance (rune mods : Int) : Decidable (ctrlP rune mods) := by unfold ctrlP; infer_instance
def letterB (rune mods : Int) : ByteArray := altB mods ++ Utf8.encode (if ctrlP rune mods then Go.bits .and .i64 rune 31 else rune)
theorem enc_size (r : Int) : (Utf8.encode r).size ≤ 4 := by
  unfold Utf8.encode
  simp only
  generalize (if Utf8.valid r = true then r.toNat else Utf8.runeError) = c
  split
  · exact (by decide : 1 ≤ 4)
  · split
    · exact (by decide : 2 ≤ 4)
    · split
      · exact (by decide : 3 ≤ 4)
      · exact (by decide : 4 ≤ 4)
set_option maxRecDepth 100000 in
set_option maxHeartbeats 1000000 in
theorem arrow49 (kind rune mods mode : Int) (hk : kind = 2 ∨ kind = 3 ∨ kind = 4 ∨ kind = 5 ∨ kind = 6 ∨ kind = 7) (hm : 0 ≤ mods ∧ mods ≤ 7) (w : World) :
    Calls Tryd.prog 49 #[.agg #[.int .i64 kind, .int .i64 rune, .int .i64 mods], .int .i64 mode] w fun e w' => e = .returned (.string (arrowB kind mods mode)) ∧ Below w.heap.size w w' := by
  by_cases h0 : mods = 0
  · subst h0
    by_cases h16 : Go.bits .and .i64 mode 16 = 0
    · have hb : (Go.bits .and .i64 mode 16 == 0) = true := by simpa using h16
      have e : arrowB kind 0 mode = ⟨#[27, 91]⟩ ++ lastB kind := by unfold arrowB; rw [if_pos rfl, if_pos h16]
      rw [e]
      clear e hm h16
      rcases hk with rfl | rfl | rfl | rfl | rfl | rfl
      all_goals
        go_enter Tryd.func49, Tryd.ntmps49
        go_wp2
        go_ret
        exact ⟨congrArg (fun z => Ending.returned (.string z)) (by decide +kernel), below_alloc (Below.refl _ _) _⟩
    · have hb : (Go.bits .and .i64 mode 16 == 0) = false := by simpa using h16
      have e : arrowB kind 0 mode = ⟨#[27, 79]⟩ ++ lastB kind := by unfold arrowB; rw [if_pos rfl, if_neg h16]
      rw [e]
      clear e hm h16
      rcases hk with rfl | rfl | rfl | rfl | rfl | rfl
      all_goals
        go_enter Tryd.func49, Tryd.ntmps49
        go_wp2
        go_ret
        exact ⟨congrArg (fun z => Ending.returned (.string z)) (by decide +kernel), below_alloc (Below.refl _ _) _⟩
  · have hb : (mods == 0) = false := by simpa using h0
    have e : arrowB kind mods mode = ⟨#[27, 91, 49, 59]⟩ ++ digit (1 + mods) ++ lastB kind := by unfold arrowB; rw [if_neg h0]
    rw [e]
    have h8 : OneTo8 (1 + mods) := by unfold OneTo8; omega
    have H := Aside0.mk h8
    have hw : wrap64 (1 + mods) = 1 + mods := by unfold wrap64; omega
    clear e hm h8
    rcases hk with rfl | rfl | rfl | rfl | rfl | rfl
    all_goals
      go_enter Tryd.func49, Tryd.ntmps49
      go_wp2_with (go_at_call 16; refine (itoa16 (1 + mods) H.out _).mono ?_; rintro e w' ⟨rfl, ⟨nd, rfl⟩⟩)
      go_ret
      exact ⟨congrArg (fun z => Ending.returned (.string z)) (congrArg (fun z => ({ data := #[27, 91, 49, 59] } : ByteArray) ++ digit (1 + mods) ++ z) (by decide +kernel)), pw_below_drewN (below_alloc (Below.refl _ _) _) _⟩
set_option maxRecDepth 100000 in
set_option maxHeartbeats 1000000 in
theorem paste50 (kind rune mods mode : Int) (w : World) :
    Calls Tryd.prog 50 #[.agg #[.int .i64 kind, .int .i64 rune, .int .i64 mods], .int .i64 mode] w fun e w' => e = .returned (.string (pasteB rune mode)) ∧ Below w.heap.size w w' := by
  by_cases h : Go.bits .and .i64 mode 128 = 0
  · have hb : (Go.bits .and .i64 mode 128 == 0) = true := by simpa using h
    have e : pasteB rune mode = ⟨#[]⟩ := if_pos h
    rw [e]
    clear e h
    go_enter Tryd.func50, Tryd.ntmps50
    go_wp2
    go_ret
    exact ⟨rfl, below_alloc (Below.refl _ _) _⟩
  · have hb : (Go.bits .and .i64 mode 128 == 0) = false := by simpa using h
    by_cases h1 : rune = 1
    · have e : pasteB rune mode = ⟨#[27, 91, 50, 48, 48, 126]⟩ := by unfold pasteB; rw [if_neg h, if_pos h1]
      rw [e]
      clear e h
      subst h1
      go_enter Tryd.func50, Tryd.ntmps50
      go_wp2
      go_ret
      exact ⟨rfl, below_alloc (Below.refl _ _) _⟩
    · have e : pasteB rune mode = ⟨#[27, 91, 50, 48, 49, 126]⟩ := by unfold pasteB; rw [if_neg h, if_neg h1]
      rw [e]
      have hb1 : (rune == 1) = false := by simpa using h1
      clear e h
      go_enter Tryd.func50, Tryd.ntmps50
      go_wp2
      go_ret
      exact ⟨rfl, below_alloc (Below.refl _ _) _⟩
set_option maxRecDepth 100000 in
set_option maxHeartbeats 1000000 in
theorem plain51 (kind rune mods mode : Int) (hk : kind = 8 ∨ kind = 9 ∨ kind = 10 ∨ kind = 11) (w : World) :
    Calls Tryd.prog 51 #[.agg #[.int .i64 kind, .int .i64 rune, .int .i64 mods], .int .i64 mode] w fun e w' => e = .returned (.string (plainB kind mods mode)) ∧ Below w.heap.size w w' := by
  have hsz := altB_size mods
  rcases hk with rfl | rfl | rfl | rfl
  · by_cases h : Go.bits .and .i64 mode 4 = 0
    · have hb : (Go.bits .and .i64 mode 4 == 0) = true := by simpa using h
      have e : plainB 8 mods mode = altB mods ++ ⟨#[13]⟩ := by unfold plainB; rw [if_neg (by decide), if_neg (by decide), if_pos rfl, if_pos h]
      rw [e]
      clear e h
      go_enter Tryd.func51, Tryd.ntmps51
      go_wp2_with (go_at_call 48; refine (ahead48 _ _).mono ?_; rintro e w' ⟨rfl, rfl⟩)
      go_ret
      exact ⟨rfl, below_alloc (Below.refl _ _) _⟩
    · have hb : (Go.bits .and .i64 mode 4 == 0) = false := by simpa using h
      have e : plainB 8 mods mode = altB mods ++ ⟨#[13, 10]⟩ := by unfold plainB; rw [if_neg (by decide), if_neg (by decide), if_pos rfl, if_neg h]
      rw [e]
      clear e h
      go_enter Tryd.func51, Tryd.ntmps51
      go_wp2_with (go_at_call 48; refine (ahead48 _ _).mono ?_; rintro e w' ⟨rfl, rfl⟩)
      go_ret
      exact ⟨rfl, below_alloc (Below.refl _ _) _⟩
  · by_cases h : Go.bits .and .i64 mods 1 = 0
    · have hb : (Go.bits .and .i64 mods 1 == 0) = true := by simpa using h
      have e : plainB 9 mods mode = altB mods ++ ⟨#[9]⟩ := by unfold plainB; rw [if_pos rfl, if_pos h]
      rw [e]
      clear e h
      go_enter Tryd.func51, Tryd.ntmps51
      go_wp2_with (go_at_call 48; refine (ahead48 _ _).mono ?_; rintro e w' ⟨rfl, rfl⟩)
      go_ret
      exact ⟨rfl, below_alloc (Below.refl _ _) _⟩
    · have hb : (Go.bits .and .i64 mods 1 == 0) = false := by simpa using h
      have e : plainB 9 mods mode = ⟨#[27, 91, 90]⟩ := by unfold plainB; rw [if_pos rfl, if_neg h]
      rw [e]
      clear e h
      go_enter Tryd.func51, Tryd.ntmps51
      go_wp2
      go_ret
      exact ⟨rfl, below_alloc (Below.refl _ _) _⟩
  · have e : plainB 10 mods mode = altB mods ++ ⟨#[127]⟩ := by unfold plainB; rw [if_neg (by decide), if_neg (by decide), if_neg (by decide)]
    rw [e]
    clear e
    go_enter Tryd.func51, Tryd.ntmps51
    go_wp2_with (go_at_call 48; refine (ahead48 _ _).mono ?_; rintro e w' ⟨rfl, rfl⟩)
    go_ret
    exact ⟨rfl, below_alloc (Below.refl _ _) _⟩
  · have e : plainB 11 mods mode = altB mods ++ ⟨#[27]⟩ := by unfold plainB; rw [if_neg (by decide), if_pos rfl]
    rw [e]
    clear e
    go_enter Tryd.func51, Tryd.ntmps51
    go_wp2_with (go_at_call 48; refine (ahead48 _ _).mono ?_; rintro e w' ⟨rfl, rfl⟩)
    go_ret
    exact ⟨rfl, below_alloc (Below.refl _ _) _⟩
theorem and31 {r : Int} (h : 0 ≤ r ∧ r ≤ 1114111) : Go.bits .and .i64 r 31 = r % 32 := by
  have := bits_mask .i64 63 (by decide) (fun n h₀ h₁ => by rw [IntKind.wrap_i64]; omega) 5 (by decide) r h.1 (by omega)
  simpa using this
set_option maxRecDepth 100000 in
set_option maxHeartbeats 1000000 in
theorem letter47 (kind rune mods mode : Int) (hr : 0 ≤ rune ∧ rune ≤ 1114111) (w : World) :
    Calls Tryd.prog 47 #[.agg #[.int .i64 kind, .int .i64 rune, .int .i64 mods], .int .i64 mode] w fun e w' => e = .returned (.string (letterB rune mods)) ∧ Below w.heap.size w w' := by
  have hsz := altB_size mods
  have hsz2 := enc_size rune
  have hw32 : wrap32 rune = rune := by unfold wrap32; omega
  by_cases h4 : Go.bits .and .i64 mods 4 = 0
  · have hb : (Go.bits .and .i64 mods 4 == 0) = true := by simpa using h4
    have hb2 : (Go.bits .and .i64 mods 4 != 0) = false := by simpa using h4
    have e : letterB rune mods = altB mods ++ Utf8.encode rune := by unfold letterB; rw [if_neg (fun h => h.1 h4)]
    rw [e]
    clear e
    go_enter Tryd.func47, Tryd.ntmps47
    go_wp2_with (go_at_call 48; refine (ahead48 _ _).mono ?_; rintro e w' ⟨rfl, rfl⟩)
    go_ret
    exact ⟨rfl, below_alloc (Below.refl _ _) _⟩
  · have hb : (Go.bits .and .i64 mods 4 == 0) = false := by simpa using h4
    have hb2 : (Go.bits .and .i64 mods 4 != 0) = true := by simpa using h4
    have ctrl : ((64 ≤ rune ∧ rune ≤ 95) ∨ (97 ≤ rune ∧ rune ≤ 122)) → letterB rune mods = altB mods ++ Utf8.encode (Go.bits .and .i64 rune 31) := fun h => by unfold letterB; rw [if_pos ⟨h4, h⟩]
    have free : ¬ ((64 ≤ rune ∧ rune ≤ 95) ∨ (97 ≤ rune ∧ rune ≤ 122)) → letterB rune mods = altB mods ++ Utf8.encode rune := fun h => by unfold letterB; rw [if_neg (fun e => h e.2)]
    obtain ⟨q, hq⟩ : ∃ q, Go.bits .and .i64 rune 31 = q := ⟨_, rfl⟩
    have hq32 : wrap32 q = q := by have := and31 hr; unfold wrap32; omega
    have hsz3 := enc_size q
    rw [hq] at ctrl
    by_cases h64 : 64 ≤ rune
    · by_cases h95 : rune ≤ 95
      · rw [ctrl (.inl ⟨h64, h95⟩)]
        clear ctrl free
        have n97 : ¬ 97 ≤ rune := by omega
        go_enter Tryd.func47, Tryd.ntmps47
        go_wp2_with (go_at_call 48; refine (ahead48 _ _).mono ?_; rintro e w' ⟨rfl, rfl⟩)
        go_ret
        exact ⟨rfl, below_alloc (Below.refl _ _) _⟩
      · by_cases h97 : 97 ≤ rune
        · by_cases h122 : rune ≤ 122
          · rw [ctrl (.inr ⟨h97, h122⟩)]
            clear ctrl free
            go_enter Tryd.func47, Tryd.ntmps47
            go_wp2_with (go_at_call 48; refine (ahead48 _ _).mono ?_; rintro e w' ⟨rfl, rfl⟩)
            go_ret
            exact ⟨rfl, below_alloc (Below.refl _ _) _⟩
          · rw [free (by omega)]
            clear ctrl free
            go_enter Tryd.func47, Tryd.ntmps47
            go_wp2_with (go_at_call 48; refine (ahead48 _ _).mono ?_; rintro e w' ⟨rfl, rfl⟩)
            go_ret
            exact ⟨rfl, below_alloc (Below.refl _ _) _⟩
        · rw [free (by omega)]
          clear ctrl free
          go_enter Tryd.func47, Tryd.ntmps47
          go_wp2_with (go_at_call 48; refine (ahead48 _ _).mono ?_; rintro e w' ⟨rfl, rfl⟩)
          go_ret
          exact ⟨rfl, below_alloc (Below.refl _ _) _⟩
    · have n97 : ¬ 97 ≤ rune := by omega
      rw [free (by omega)]
      clear ctrl free
      go_enter Tryd.func47, Tryd.ntmps47
      go_wp2_with (go_at_call 48; refine (ahead48 _ _).mono ?_; rintro e w' ⟨rfl, rfl⟩)
      go_ret
      exact ⟨rfl, below_alloc (Below.refl _ _) _⟩
/-! Which kind a key is. -/
set_option maxRecDepth 100000 in
theorem of18 (kind rune mods : Int) (w : World) (t : Nat) (h : (kind = 1 ∧ t = 48) ∨ (2 ≤ kind ∧ kind ≤ 7 ∧ t = 49) ∨ (kind = 12 ∧ t = 50) ∨ (8 ≤ kind ∧ kind ≤ 11 ∧ t = 51)) :
    Calls Tryd.prog 18 #[.agg #[.int .i64 kind, .int .i64 rune, .int .i64 mods]] w fun e w' => e = .returned (.iface t (.agg #[.int .i64 kind, .int .i64 rune, .int .i64 mods])) ∧ Below w.heap.size w w' := by
  rcases h with ⟨rfl, rfl⟩ | ⟨h2, h7, rfl⟩ | ⟨rfl, rfl⟩ | ⟨h8, h11, rfl⟩
  · go_enter Tryd.func18, Tryd.ntmps18
    go_wp2
    go_ret
    exact ⟨rfl, below_alloc (Below.refl _ _) _⟩
  · have hb : (kind == 1) = false := by simp; omega
    go_enter Tryd.func18, Tryd.ntmps18
    go_wp2
    go_ret
    exact ⟨rfl, below_alloc (Below.refl _ _) _⟩
  · go_enter Tryd.func18, Tryd.ntmps18
    go_wp2
    go_ret
    exact ⟨rfl, below_alloc (Below.refl _ _) _⟩
  · have hb : (kind == 1) = false := by simp; omega
    have hb7 : ¬ kind ≤ 7 := by omega
    have hb12 : (kind == 12) = false := by simp; omega
    have hb2 : 2 ≤ kind := by omega
    go_enter Tryd.func18, Tryd.ntmps18
    go_wp2
    go_ret
    exact ⟨rfl, below_alloc (Below.refl _ _) _⟩
def validK (kind rune mods : Int) : Prop :=
  (0 ≤ mods ∧ mods ≤ 7) ∧ ((kind = 1 ∧ 32 ≤ rune ∧ rune ≤ 1114111 ∧ rune ≠ 127 ∧ ¬ (55296 ≤ rune ∧ rune ≤ 57343)) ∨ (kind = 12 ∧ (rune = 1 ∨ rune = 2)) ∨ (2 ≤ kind ∧ kind ≤ 11 ∧ rune = 0))
instance (kind rune mods : Int) : Decidable (validK kind rune mods) := by unfold validK; infer_instance
def spelledB (kind rune mods mode : Int) : ByteArray :=
  if kind = 1 then letterB rune mods else if kind ≤ 7 then arrowB kind mods mode else if kind = 12 then pasteB rune mode else plainB kind mods mode
def key_Spelt.f (kind rune mods mode : Int) : Option ByteArray := if validK kind rune mods then some (spelledB kind rune mods mode) else none
set_option maxRecDepth 100000 in
theorem spelt14 (kind rune mods mode : Int) (hv : validK kind rune mods) (w : World) :
    Calls Tryd.prog 14 #[.agg #[.int .i64 kind, .int .i64 rune, .int .i64 mods], .int .i64 mode] w fun e w' => e = .returned (.string (spelledB kind rune mods mode)) ∧ Below w.heap.size w w' := by
  obtain ⟨hm, hk⟩ := hv
  have HB := Aside0.mk (below_alloc (Below.refl w.heap.size w) (.cells #[.int .i64 kind, .int .i64 rune, .int .i64 mods] 32))
  by_cases h1 : kind = 1
  · have hr : 0 ≤ rune ∧ rune ≤ 1114111 := by omega
    have e : spelledB kind rune mods mode = letterB rune mods := if_pos h1
    rw [e]
    have O := Aside0.mk (fun w => of18 kind rune mods w 48 (.inl ⟨h1, rfl⟩))
    clear e h1 hk hm
    go_enter Tryd.func14, Tryd.ntmps14
    go_wp2_with (first | (go_at_call 18; refine (O.out _).mono ?_; rintro e w1 ⟨rfl, hb1⟩; have HB1 := Aside0.mk (below_step (below_alloc (Below.refl w.heap.size w) _) hb1); clear hb1) | (go_at_call 47; refine (letter47 kind rune mods mode hr _).mono ?_; rintro e w2 ⟨rfl, hb2⟩; have HB2 := Aside0.mk (below_step HB1.out hb2); clear hb2))
    go_ret
    exact ⟨rfl, HB2.out⟩
  by_cases h2 : kind ≤ 7
  · have hk2 : 2 ≤ kind ∧ kind ≤ 7 := by omega
    have hk3 : kind = 2 ∨ kind = 3 ∨ kind = 4 ∨ kind = 5 ∨ kind = 6 ∨ kind = 7 := by omega
    have e : spelledB kind rune mods mode = arrowB kind mods mode := by unfold spelledB; rw [if_neg h1, if_pos h2]
    rw [e]
    have O := Aside0.mk (fun w => of18 kind rune mods w 49 (.inr (.inl ⟨hk2.1, hk2.2, rfl⟩)))
    have K := Aside0.mk (fun w => arrow49 kind rune mods mode hk3 hm w)
    clear e h1 h2 hk hm hk2 hk3
    go_enter Tryd.func14, Tryd.ntmps14
    go_wp2_with (first | (go_at_call 18; refine (O.out _).mono ?_; rintro e w1 ⟨rfl, hb1⟩; have HB1 := Aside0.mk (below_step (below_alloc (Below.refl w.heap.size w) _) hb1); clear hb1) | (go_at_call 49; refine (K.out _).mono ?_; rintro e w2 ⟨rfl, hb2⟩; have HB2 := Aside0.mk (below_step HB1.out hb2); clear hb2))
    go_ret
    exact ⟨rfl, HB2.out⟩
  by_cases h3 : kind = 12
  · have e : spelledB kind rune mods mode = pasteB rune mode := by unfold spelledB; rw [if_neg h1, if_neg h2, if_pos h3]
    rw [e]
    have O := Aside0.mk (fun w => of18 kind rune mods w 50 (.inr (.inr (.inl ⟨h3, rfl⟩))))
    clear e h1 h2 h3 hk hm
    go_enter Tryd.func14, Tryd.ntmps14
    go_wp2_with (first | (go_at_call 18; refine (O.out _).mono ?_; rintro e w1 ⟨rfl, hb1⟩; have HB1 := Aside0.mk (below_step (below_alloc (Below.refl w.heap.size w) _) hb1); clear hb1) | (go_at_call 50; refine (paste50 kind rune mods mode _).mono ?_; rintro e w2 ⟨rfl, hb2⟩; have HB2 := Aside0.mk (below_step HB1.out hb2); clear hb2))
    go_ret
    exact ⟨rfl, HB2.out⟩
  · have hk2 : 8 ≤ kind ∧ kind ≤ 11 := by omega
    have hk3 : kind = 8 ∨ kind = 9 ∨ kind = 10 ∨ kind = 11 := by omega
    have e : spelledB kind rune mods mode = plainB kind mods mode := by unfold spelledB; rw [if_neg h1, if_neg h2, if_neg h3]
    rw [e]
    have O := Aside0.mk (fun w => of18 kind rune mods w 51 (.inr (.inr (.inr ⟨hk2.1, hk2.2, rfl⟩))))
    have K := Aside0.mk (fun w => plain51 kind rune mods mode hk3 w)
    clear e h1 h2 h3 hk hm hk2 hk3
    go_enter Tryd.func14, Tryd.ntmps14
    go_wp2_with (first | (go_at_call 18; refine (O.out _).mono ?_; rintro e w1 ⟨rfl, hb1⟩; have HB1 := Aside0.mk (below_step (below_alloc (Below.refl w.heap.size w) _) hb1); clear hb1) | (go_at_call 51; refine (K.out _).mono ?_; rintro e w2 ⟨rfl, hb2⟩; have HB2 := Aside0.mk (below_step HB1.out hb2); clear hb2))
    go_ret
    exact ⟨rfl, HB2.out⟩
theorem key_Spelt.calls (a0_0 a0_1 a0_2 a1 : Int) (r : ByteArray) (w : World) (h : key_Spelt.f a0_0 a0_1 a0_2 a1 = some r) :
    Calls Tryd.prog 14 #[.agg #[.int .i64 a0_0, .int .i64 a0_1, .int .i64 a0_2], .int .i64 a1] w fun e w' => e = .returned (.string r) ∧ Below w.heap.size w w' := by
  unfold key_Spelt.f at h
  split at h
  · rename_i hv
    obtain rfl := Option.some.inj h
    exact spelt14 a0_0 a0_1 a0_2 a1 hv w
  · cases h

/-! ### key_Bytes: function 6 -/
def key_Bytes.f (k : Nat) (a0_0 : Int) (a0_1 : Int) (a0_2 : Int) (a1 : Int) : Option (ByteArray × Int) := (key_May.f k a0_0 a0_1 a0_2).bind fun t106 => (if t106 = true then ((screen_Moded.f a1).bind fun t107 => (if t107 = true then ((key_Spelt.f a0_0 a0_1 a0_2 a1).bind fun t108 => (some (t108, 0))) else (some ((⟨#[]⟩ : ByteArray), 1)))) else (some ((⟨#[]⟩ : ByteArray), 1)))
theorem key_Bytes.mono : ∀ a0 a1 a2 a3 k, LeO (key_Bytes.f k a0 a1 a2 a3) (key_Bytes.f (k + 1) a0 a1 a2 a3) := by
  intro a0 a1 a2 a3 k
  unfold key_Bytes.f
  repeat' first
      | (with_reducible exact key_May.mono _ _ _ _)
      | (with_reducible exact LeO.refl _)
      | (with_reducible exact LeO.none _)
      | (with_reducible refine LeO.ite ?_ ?_)
      | (with_reducible refine LeO.bind ?_ (fun _ => ?_))
      | exact key_May.mono _ _ _ _
      | exact LeO.none _
      | refine LeO.ite ?_ ?_
      | refine LeO.bind ?_ (fun _ => ?_)
set_option maxHeartbeats 8000000 in
set_option maxRecDepth 100000 in
theorem key_Bytes.calls (k : Nat) (a0_0 : Int) (a0_1 : Int) (a0_2 : Int) (a1 : Int) (r1 : ByteArray) (r2 : Int) (w : World) (h : key_Bytes.f k a0_0 a0_1 a0_2 a1 = some (r1, r2)) :
    Calls Tryd.prog 6 #[.agg #[.int .i64 a0_0, .int .i64 a0_1, .int .i64 a0_2], .int .i64 a1] w fun e w' => e = .returned (.tuple #[.string r1, .int .i64 r2]) ∧ Below w.heap.size w w' := by
  have hu32 := Tryd.underlying32
  have HB := Aside0.mk (Below.refl w.heap.size w)
  have H : ((key_May.f k a0_0 a0_1 a0_2).bind fun t106 => (if t106 = true then ((screen_Moded.f a1).bind fun t107 => (if t107 = true then ((key_Spelt.f a0_0 a0_1 a0_2 a1).bind fun t108 => (some (t108, 0))) else (some ((⟨#[]⟩ : ByteArray), 1)))) else (some ((⟨#[]⟩ : ByteArray), 1)))) = some (r1, r2) := h
  clear h
  replace H := Option.bind_eq_some_iff.mp H
  obtain ⟨t106, A30, H⟩ := H
  replace H : (if t106 = true then ((screen_Moded.f a1).bind fun t107 => (if t107 = true then ((key_Spelt.f a0_0 a0_1 a0_2 a1).bind fun t108 => (some (t108, 0))) else (some ((⟨#[]⟩ : ByteArray), 1)))) else (some ((⟨#[]⟩ : ByteArray), 1))) = some (r1, r2) := H
  have A3 := Aside0.mk A30
  clear A30
  by_cases c4 : t106 = true
  · subst c4
    have H1 : ((screen_Moded.f a1).bind fun t107 => (if t107 = true then ((key_Spelt.f a0_0 a0_1 a0_2 a1).bind fun t108 => (some (t108, 0))) else (some ((⟨#[]⟩ : ByteArray), 1)))) = some (r1, r2) := by rw [if_pos rfl] at H; exact H
    clear H
    have H := H1
    clear H1
    replace H := Option.bind_eq_some_iff.mp H
    obtain ⟨t107, A50, H⟩ := H
    replace H : (if t107 = true then ((key_Spelt.f a0_0 a0_1 a0_2 a1).bind fun t108 => (some (t108, 0))) else (some ((⟨#[]⟩ : ByteArray), 1))) = some (r1, r2) := H
    have A5 := Aside0.mk A50
    clear A50
    by_cases c6 : t107 = true
    · subst c6
      have H1 : ((key_Spelt.f a0_0 a0_1 a0_2 a1).bind fun t108 => (some (t108, 0))) = some (r1, r2) := by rw [if_pos rfl] at H; exact H
      clear H
      have H := H1
      clear H1
      replace H := Option.bind_eq_some_iff.mp H
      obtain ⟨t108, A70, H⟩ := H
      replace H : (some (t108, 0)) = some (r1, r2) := H
      have A7 := Aside0.mk A70
      clear A70
      simp only [Option.some.injEq, Prod.mk.injEq] at H
      obtain ⟨rfl, rfl⟩ := H
      go_enter Tryd.func6, Tryd.ntmps6
      go_wp2_with (first | ((with_reducible refine gate_dst (N := 2) rfl ?_); refine box_event ?hg (N := 2) ?hd (cs := #[.int .i64 a0_0, .int .i64 a0_1, .int .i64 a0_2]) (t := 32) ?hr ?_; (case hd => rfl); (case hg => rfl); (case hr => first | (go_simp; done) | (go_simp; rfl)); intro gb105 hg w8 hbox hb; have n0_ := Aside0.mk (below_step (by repeat (first | (with_reducible first | exact HB.out | apply below_alloc | apply pw_below_drewN | apply below_drew1) | exact HB.out)) hb); have n1_ := Aside0.mk (hbox); have n2_ := Aside0.mk ((by rw [hg]; exact (below_size (by repeat (first | (with_reducible first | exact HB.out | apply below_alloc | apply pw_below_drewN | apply below_drew1) | exact HB.out))) : w.heap.size ≤ gb105)); have n3_ := Aside0.mk ((by rw [hg]; exact (below_size (by repeat (first | (with_reducible first | exact HB.out | apply below_alloc | apply pw_below_drewN | apply below_drew1) | exact HB.out))) : w.heap.size ≤ gb105)); clear HB; have HB := n0_; have BK105 := n1_; have GW105 := n2_; have GE105 := n3_; clear n0_ n1_ n2_ n3_; clear hb hbox hg; have hcz9_0 : w8.cell? ⟨gb105, 0, none⟩ = some (.int .i64 a0_0) := (blk_cell BK105.out 0).trans rfl; have hcz9_1 : w8.cell? ⟨gb105, 1, none⟩ = some (.int .i64 a0_1) := (blk_cell BK105.out 1).trans rfl; have hcz9_2 : w8.cell? ⟨gb105, 2, none⟩ = some (.int .i64 a0_2) := (blk_cell BK105.out 2).trans rfl; have hfz9_0 := blk_frozen BK105.out 0; have hfz9_1 := blk_frozen BK105.out 1; have hfz9_2 := blk_frozen BK105.out 2) | ((with_reducible refine gate_callee (f := 12) rfl ?_); refine goesL_ (some 7) rfl rfl Tryd.func12 (by kernel_rfl) rfl #[.agg #[.int .i64 a0_0, .int .i64 a0_1, .int .i64 a0_2]] rfl (by (try simp only [List.map_toArray, List.map_cons, List.map_nil]); first | done | rfl | (simp only [List.length_drop, List.length_take]; rfl)) ?_; (with_reducible refine (key_May.calls k a0_0 a0_1 a0_2 true _ A3.out).mono ?_); rintro e w10 ⟨rfl, hb⟩; refine ⟨_, rfl, ?_⟩; have n0_ := Aside0.mk (blk_below (g := gb105) (o := .cells #[.int .i64 a0_0, .int .i64 a0_1, .int .i64 a0_2] 32 (0, 0)) (by (with_reducible repeat (first | refine blk_drewN ?_ _ | refine blk_drew ?_ | refine blk_alloc ?_ _)); exact BK105.out) hb); have n1_ := Aside0.mk (below_step (by repeat (first | (with_reducible first | exact HB.out | apply below_alloc | apply pw_below_drewN | apply below_drew1 | refine below_set ?_ GE105.out) | exact HB.out)) hb); clear BK105; clear HB; have BK105 := n0_; have HB := n1_; clear n0_ n1_; (try clear hb); (try clear hb2); (try clear hk); (try clear hi)) | (go_at_call 13; (with_reducible refine (screen_Moded.calls a1 true _ A5.out).mono ?_); rintro e w' ⟨rfl, ⟨nd, rfl⟩⟩; have hcz11_0 : w10.cell? ⟨gb105, 0, none⟩ = some (.int .i64 a0_0) := (blk_cell BK105.out 0).trans rfl; have hcz11_1 : w10.cell? ⟨gb105, 1, none⟩ = some (.int .i64 a0_1) := (blk_cell BK105.out 1).trans rfl; have hcz11_2 : w10.cell? ⟨gb105, 2, none⟩ = some (.int .i64 a0_2) := (blk_cell BK105.out 2).trans rfl; have hfz11_0 := blk_frozen BK105.out 0; have hfz11_1 := blk_frozen BK105.out 1; have hfz11_2 := blk_frozen BK105.out 2) | ((with_reducible refine gate_callee (f := 14) rfl ?_); refine goesL_ (some 16) rfl rfl Tryd.func14 (by kernel_rfl) rfl #[.agg #[.int .i64 a0_0, .int .i64 a0_1, .int .i64 a0_2], .int .i64 a1] rfl (by (try simp only [List.map_toArray, List.map_cons, List.map_nil]); first | done | rfl | (simp only [List.length_drop, List.length_take]; rfl)) ?_; (with_reducible refine (key_Spelt.calls a0_0 a0_1 a0_2 a1 t108 _ A7.out).mono ?_); rintro e w12 ⟨rfl, hb⟩; refine ⟨_, rfl, ?_⟩; have n0_ := Aside0.mk (blk_below (g := gb105) (o := .cells #[.int .i64 a0_0, .int .i64 a0_1, .int .i64 a0_2] 32 (0, 0)) (by (with_reducible repeat (first | refine blk_drewN ?_ _ | refine blk_drew ?_ | refine blk_alloc ?_ _)); exact BK105.out) hb); have n1_ := Aside0.mk (below_step (by repeat (first | (with_reducible first | exact HB.out | apply below_alloc | apply pw_below_drewN | apply below_drew1 | refine below_set ?_ GE105.out) | exact HB.out)) hb); clear BK105; clear HB; have BK105 := n0_; have HB := n1_; clear n0_ n1_; (try clear hb); (try clear hb2); (try clear hk); (try clear hi)))
      go_ret2
      exact ⟨by first | rfl | (simp [errW_none, errW_some] <;> rfl) | (simp [*, errW_none, errW_some] <;> rfl), by repeat (first | (with_reducible first | exact HB.out | apply below_alloc | apply pw_below_drewN | apply below_drew1 | refine below_set ?_ GE105.out) | exact HB.out)⟩
    · replace c6 := Bool.eq_false_iff.mpr c6
      subst c6
      have H1 : (some ((⟨#[]⟩ : ByteArray), 1)) = some (r1, r2) := by rw [if_neg (show ¬ (false = true) by decide)] at H; exact H
      clear H
      have H := H1
      clear H1
      simp only [Option.some.injEq, Prod.mk.injEq] at H
      obtain ⟨rfl, rfl⟩ := H
      go_enter Tryd.func6, Tryd.ntmps6
      go_wp2_with (first | ((with_reducible refine gate_dst (N := 2) rfl ?_); refine box_event ?hg (N := 2) ?hd (cs := #[.int .i64 a0_0, .int .i64 a0_1, .int .i64 a0_2]) (t := 32) ?hr ?_; (case hd => rfl); (case hg => rfl); (case hr => first | (go_simp; done) | (go_simp; rfl)); intro gb105 hg w13 hbox hb; have n0_ := Aside0.mk (below_step (by repeat (first | (with_reducible first | exact HB.out | apply below_alloc | apply pw_below_drewN | apply below_drew1) | exact HB.out)) hb); have n1_ := Aside0.mk (hbox); have n2_ := Aside0.mk ((by rw [hg]; exact (below_size (by repeat (first | (with_reducible first | exact HB.out | apply below_alloc | apply pw_below_drewN | apply below_drew1) | exact HB.out))) : w.heap.size ≤ gb105)); have n3_ := Aside0.mk ((by rw [hg]; exact (below_size (by repeat (first | (with_reducible first | exact HB.out | apply below_alloc | apply pw_below_drewN | apply below_drew1) | exact HB.out))) : w.heap.size ≤ gb105)); clear HB; have HB := n0_; have BK105 := n1_; have GW105 := n2_; have GE105 := n3_; clear n0_ n1_ n2_ n3_; clear hb hbox hg; have hcz14_0 : w13.cell? ⟨gb105, 0, none⟩ = some (.int .i64 a0_0) := (blk_cell BK105.out 0).trans rfl; have hcz14_1 : w13.cell? ⟨gb105, 1, none⟩ = some (.int .i64 a0_1) := (blk_cell BK105.out 1).trans rfl; have hcz14_2 : w13.cell? ⟨gb105, 2, none⟩ = some (.int .i64 a0_2) := (blk_cell BK105.out 2).trans rfl; have hfz14_0 := blk_frozen BK105.out 0; have hfz14_1 := blk_frozen BK105.out 1; have hfz14_2 := blk_frozen BK105.out 2) | ((with_reducible refine gate_callee (f := 12) rfl ?_); refine goesL_ (some 7) rfl rfl Tryd.func12 (by kernel_rfl) rfl #[.agg #[.int .i64 a0_0, .int .i64 a0_1, .int .i64 a0_2]] rfl (by (try simp only [List.map_toArray, List.map_cons, List.map_nil]); first | done | rfl | (simp only [List.length_drop, List.length_take]; rfl)) ?_; (with_reducible refine (key_May.calls k a0_0 a0_1 a0_2 true _ A3.out).mono ?_); rintro e w15 ⟨rfl, hb⟩; refine ⟨_, rfl, ?_⟩; have n0_ := Aside0.mk (blk_below (g := gb105) (o := .cells #[.int .i64 a0_0, .int .i64 a0_1, .int .i64 a0_2] 32 (0, 0)) (by (with_reducible repeat (first | refine blk_drewN ?_ _ | refine blk_drew ?_ | refine blk_alloc ?_ _)); exact BK105.out) hb); have n1_ := Aside0.mk (below_step (by repeat (first | (with_reducible first | exact HB.out | apply below_alloc | apply pw_below_drewN | apply below_drew1 | refine below_set ?_ GE105.out) | exact HB.out)) hb); clear BK105; clear HB; have BK105 := n0_; have HB := n1_; clear n0_ n1_; (try clear hb); (try clear hb2); (try clear hk); (try clear hi)) | (go_at_call 13; (with_reducible refine (screen_Moded.calls a1 false _ A5.out).mono ?_); rintro e w' ⟨rfl, ⟨nd, rfl⟩⟩))
      go_ret2
      exact ⟨by first | rfl | (simp [errW_none, errW_some] <;> rfl) | (simp [*, errW_none, errW_some] <;> rfl), by repeat (first | (with_reducible first | exact HB.out | apply below_alloc | apply pw_below_drewN | apply below_drew1 | refine below_set ?_ GE105.out) | exact HB.out)⟩
  · replace c4 := Bool.eq_false_iff.mpr c4
    subst c4
    have H1 : (some ((⟨#[]⟩ : ByteArray), 1)) = some (r1, r2) := by rw [if_neg (show ¬ (false = true) by decide)] at H; exact H
    clear H
    have H := H1
    clear H1
    simp only [Option.some.injEq, Prod.mk.injEq] at H
    obtain ⟨rfl, rfl⟩ := H
    go_enter Tryd.func6, Tryd.ntmps6
    go_wp2_with (first | ((with_reducible refine gate_dst (N := 2) rfl ?_); refine box_event ?hg (N := 2) ?hd (cs := #[.int .i64 a0_0, .int .i64 a0_1, .int .i64 a0_2]) (t := 32) ?hr ?_; (case hd => rfl); (case hg => rfl); (case hr => first | (go_simp; done) | (go_simp; rfl)); intro gb105 hg w16 hbox hb; have n0_ := Aside0.mk (below_step (by repeat (first | (with_reducible first | exact HB.out | apply below_alloc | apply pw_below_drewN | apply below_drew1) | exact HB.out)) hb); have n1_ := Aside0.mk (hbox); have n2_ := Aside0.mk ((by rw [hg]; exact (below_size (by repeat (first | (with_reducible first | exact HB.out | apply below_alloc | apply pw_below_drewN | apply below_drew1) | exact HB.out))) : w.heap.size ≤ gb105)); have n3_ := Aside0.mk ((by rw [hg]; exact (below_size (by repeat (first | (with_reducible first | exact HB.out | apply below_alloc | apply pw_below_drewN | apply below_drew1) | exact HB.out))) : w.heap.size ≤ gb105)); clear HB; have HB := n0_; have BK105 := n1_; have GW105 := n2_; have GE105 := n3_; clear n0_ n1_ n2_ n3_; clear hb hbox hg; have hcz17_0 : w16.cell? ⟨gb105, 0, none⟩ = some (.int .i64 a0_0) := (blk_cell BK105.out 0).trans rfl; have hcz17_1 : w16.cell? ⟨gb105, 1, none⟩ = some (.int .i64 a0_1) := (blk_cell BK105.out 1).trans rfl; have hcz17_2 : w16.cell? ⟨gb105, 2, none⟩ = some (.int .i64 a0_2) := (blk_cell BK105.out 2).trans rfl; have hfz17_0 := blk_frozen BK105.out 0; have hfz17_1 := blk_frozen BK105.out 1; have hfz17_2 := blk_frozen BK105.out 2) | ((with_reducible refine gate_callee (f := 12) rfl ?_); refine goesL_ (some 7) rfl rfl Tryd.func12 (by kernel_rfl) rfl #[.agg #[.int .i64 a0_0, .int .i64 a0_1, .int .i64 a0_2]] rfl (by (try simp only [List.map_toArray, List.map_cons, List.map_nil]); first | done | rfl | (simp only [List.length_drop, List.length_take]; rfl)) ?_; (with_reducible refine (key_May.calls k a0_0 a0_1 a0_2 false _ A3.out).mono ?_); rintro e w18 ⟨rfl, hb⟩; refine ⟨_, rfl, ?_⟩; have n0_ := Aside0.mk (blk_below (g := gb105) (o := .cells #[.int .i64 a0_0, .int .i64 a0_1, .int .i64 a0_2] 32 (0, 0)) (by (with_reducible repeat (first | refine blk_drewN ?_ _ | refine blk_drew ?_ | refine blk_alloc ?_ _)); exact BK105.out) hb); have n1_ := Aside0.mk (below_step (by repeat (first | (with_reducible first | exact HB.out | apply below_alloc | apply pw_below_drewN | apply below_drew1 | refine below_set ?_ GE105.out) | exact HB.out)) hb); clear BK105; clear HB; have BK105 := n0_; have HB := n1_; clear n0_ n1_; (try clear hb); (try clear hb2); (try clear hk); (try clear hi)))
    go_ret2
    exact ⟨by first | rfl | (simp [errW_none, errW_some] <;> rfl) | (simp [*, errW_none, errW_some] <;> rfl), by repeat (first | (with_reducible first | exact HB.out | apply below_alloc | apply pw_below_drewN | apply below_drew1 | refine below_set ?_ GE105.out) | exact HB.out)⟩

/-! ### beaconref0_Num: function 8 -/
def beaconref0_Num.f (a0 : Int) (a1 : Int) : Option (Bool) := if a0 ≥ 0 then (some (decide (a0 ≤ a1))) else (some false)
set_option maxHeartbeats 8000000 in
set_option maxRecDepth 100000 in
theorem beaconref0_Num.calls (a0 : Int) (a1 : Int) (r : Bool) (w : World) (h : beaconref0_Num.f a0 a1 = some r) :
    Calls Tryd.prog 8 #[.int .i64 a0, .int .i64 a1] w fun e w' => e = .returned (.bool r) ∧ Drawn0 w w' := by
  have H : (if a0 ≥ 0 then (some (decide (a0 ≤ a1))) else (some false)) = some r := h
  clear h
  by_cases c3 : a0 ≥ 0
  · rw [if_pos c3] at H
    have c3b0 : decide (0 ≤ a0) = true := decide_eq_true c3
    clear c3
    obtain rfl := Option.some.inj H
    go_enter Tryd.func8, Tryd.ntmps8
    go_wp2
    go_ret
    exact ⟨by first | rfl | (simp; done) | (simp [*]; done), by repeat (first | exact Drawn0.refl _ | apply Drawn0.step)⟩
  · rw [if_neg c3] at H
    have c3b0 : decide (0 ≤ a0) = false := decide_eq_false c3
    clear c3
    obtain rfl := Option.some.inj H
    go_enter Tryd.func8, Tryd.ntmps8
    go_wp2
    go_ret
    exact ⟨by first | rfl | (simp; done) | (simp [*]; done), by repeat (first | exact Drawn0.refl _ | apply Drawn0.step)⟩

/-! ### beaconref0_Between: function 15 -/
def beaconref0_Between.f (a0 : Int) (a1 : Int) (a2 : Int) : Option (Bool) := if a0 ≥ a1 then (some (decide (a0 ≤ a2))) else (some false)
set_option maxHeartbeats 8000000 in
set_option maxRecDepth 100000 in
theorem beaconref0_Between.calls (a0 : Int) (a1 : Int) (a2 : Int) (r : Bool) (w : World) (h : beaconref0_Between.f a0 a1 a2 = some r) :
    Calls Tryd.prog 15 #[.int .i64 a0, .int .i64 a1, .int .i64 a2] w fun e w' => e = .returned (.bool r) ∧ Drawn0 w w' := by
  have H : (if a0 ≥ a1 then (some (decide (a0 ≤ a2))) else (some false)) = some r := h
  clear h
  by_cases c4 : a0 ≥ a1
  · rw [if_pos c4] at H
    have c4b0 : decide (a1 ≤ a0) = true := decide_eq_true c4
    clear c4
    obtain rfl := Option.some.inj H
    go_enter Tryd.func15, Tryd.ntmps15
    go_wp2
    go_ret
    exact ⟨by first | rfl | (simp; done) | (simp [*]; done), by repeat (first | exact Drawn0.refl _ | apply Drawn0.step)⟩
  · rw [if_neg c4] at H
    have c4b0 : decide (a1 ≤ a0) = false := decide_eq_false c4
    clear c4
    obtain rfl := Option.some.inj H
    go_enter Tryd.func15, Tryd.ntmps15
    go_wp2
    go_ret
    exact ⟨by first | rfl | (simp; done) | (simp [*]; done), by repeat (first | exact Drawn0.refl _ | apply Drawn0.step)⟩

/-! ### beaconref15_Key: function 7 -/
def beaconref15_Key.f (a0_0 : Int) (a0_1 : Int) (a0_2 : Int) : Option (Bool) := (beaconref0_Num.f a0_2 7).bind fun t110 => (if t110 = true then (if a0_0 = 1 then ((beaconref0_Between.f a0_1 32 1114111).bind fun t111 => (if t111 = true then (if a0_1 = 127 then (some false) else ((beaconref0_Between.f a0_1 55296 57343).bind fun t112 => (some (!t112)))) else (some false))) else (if a0_0 = 12 then ((beaconref0_Between.f a0_1 1 2).bind fun t113 => (some t113)) else ((beaconref0_Between.f a0_0 2 11).bind fun t114 => (if t114 = true then (some (a0_1 == 0)) else (some false))))) else (some false))
set_option maxHeartbeats 8000000 in
set_option maxRecDepth 100000 in
theorem beaconref15_Key.calls (a0_0 : Int) (a0_1 : Int) (a0_2 : Int) (r : Bool) (w : World) (h : beaconref15_Key.f a0_0 a0_1 a0_2 = some r) :
    Calls Tryd.prog 7 #[.agg #[.int .i64 a0_0, .int .i64 a0_1, .int .i64 a0_2]] w fun e w' => e = .returned (.bool r) ∧ Below w.heap.size w w' := by
  have hu32 := Tryd.underlying32
  have HB := Aside0.mk (Below.refl w.heap.size w)
  have H : ((beaconref0_Num.f a0_2 7).bind fun t110 => (if t110 = true then (if a0_0 = 1 then ((beaconref0_Between.f a0_1 32 1114111).bind fun t111 => (if t111 = true then (if a0_1 = 127 then (some false) else ((beaconref0_Between.f a0_1 55296 57343).bind fun t112 => (some (!t112)))) else (some false))) else (if a0_0 = 12 then ((beaconref0_Between.f a0_1 1 2).bind fun t113 => (some t113)) else ((beaconref0_Between.f a0_0 2 11).bind fun t114 => (if t114 = true then (some (a0_1 == 0)) else (some false))))) else (some false))) = some r := h
  clear h
  replace H := Option.bind_eq_some_iff.mp H
  obtain ⟨t110, A20, H⟩ := H
  replace H : (if t110 = true then (if a0_0 = 1 then ((beaconref0_Between.f a0_1 32 1114111).bind fun t111 => (if t111 = true then (if a0_1 = 127 then (some false) else ((beaconref0_Between.f a0_1 55296 57343).bind fun t112 => (some (!t112)))) else (some false))) else (if a0_0 = 12 then ((beaconref0_Between.f a0_1 1 2).bind fun t113 => (some t113)) else ((beaconref0_Between.f a0_0 2 11).bind fun t114 => (if t114 = true then (some (a0_1 == 0)) else (some false))))) else (some false)) = some r := H
  have A2 := Aside0.mk A20
  clear A20
  by_cases c3 : t110 = true
  · subst c3
    have H1 : (if a0_0 = 1 then ((beaconref0_Between.f a0_1 32 1114111).bind fun t111 => (if t111 = true then (if a0_1 = 127 then (some false) else ((beaconref0_Between.f a0_1 55296 57343).bind fun t112 => (some (!t112)))) else (some false))) else (if a0_0 = 12 then ((beaconref0_Between.f a0_1 1 2).bind fun t113 => (some t113)) else ((beaconref0_Between.f a0_0 2 11).bind fun t114 => (if t114 = true then (some (a0_1 == 0)) else (some false))))) = some r := by rw [if_pos rfl] at H; exact H
    clear H
    have H := H1
    clear H1
    by_cases c4 : a0_0 = 1
    · rw [if_pos c4] at H
      have c4b0 : (a0_0 == 1) = true := beq_iff_eq.mpr c4
      have c4b1 : (a0_0 != 1) = false := bne_eq_false_iff_eq.mpr c4
      clear c4
      replace H := Option.bind_eq_some_iff.mp H
      obtain ⟨t111, A50, H⟩ := H
      replace H : (if t111 = true then (if a0_1 = 127 then (some false) else ((beaconref0_Between.f a0_1 55296 57343).bind fun t112 => (some (!t112)))) else (some false)) = some r := H
      have A5 := Aside0.mk A50
      clear A50
      by_cases c6 : t111 = true
      · subst c6
        have H1 : (if a0_1 = 127 then (some false) else ((beaconref0_Between.f a0_1 55296 57343).bind fun t112 => (some (!t112)))) = some r := by rw [if_pos rfl] at H; exact H
        clear H
        have H := H1
        clear H1
        by_cases c7 : a0_1 = 127
        · rw [if_pos c7] at H
          have c7b0 : (a0_1 == 127) = true := beq_iff_eq.mpr c7
          have c7b1 : (a0_1 != 127) = false := bne_eq_false_iff_eq.mpr c7
          clear c7
          obtain rfl := Option.some.inj H
          go_enter Tryd.func7, Tryd.ntmps7
          go_wp2_with (first | ((with_reducible refine gate_dst (N := 1) rfl ?_); refine box_event ?hg (N := 1) ?hd (cs := #[.int .i64 a0_0, .int .i64 a0_1, .int .i64 a0_2]) (t := 32) ?hr ?_; (case hd => rfl); (case hg => rfl); (case hr => first | (go_simp; done) | (go_simp; rfl)); intro gb109 hg w8 hbox hb; have n0_ := Aside0.mk (below_step (by repeat (first | (with_reducible first | exact HB.out | apply below_alloc | apply pw_below_drewN | apply below_drew1) | exact HB.out)) hb); have n1_ := Aside0.mk (hbox); have n2_ := Aside0.mk ((by rw [hg]; exact (below_size (by repeat (first | (with_reducible first | exact HB.out | apply below_alloc | apply pw_below_drewN | apply below_drew1) | exact HB.out))) : w.heap.size ≤ gb109)); have n3_ := Aside0.mk ((by rw [hg]; exact (below_size (by repeat (first | (with_reducible first | exact HB.out | apply below_alloc | apply pw_below_drewN | apply below_drew1) | exact HB.out))) : w.heap.size ≤ gb109)); clear HB; have HB := n0_; have BK109 := n1_; have GW109 := n2_; have GE109 := n3_; clear n0_ n1_ n2_ n3_; clear hb hbox hg; have hcz9_0 : w8.cell? ⟨gb109, 0, none⟩ = some (.int .i64 a0_0) := (blk_cell BK109.out 0).trans rfl; have hcz9_1 : w8.cell? ⟨gb109, 1, none⟩ = some (.int .i64 a0_1) := (blk_cell BK109.out 1).trans rfl; have hcz9_2 : w8.cell? ⟨gb109, 2, none⟩ = some (.int .i64 a0_2) := (blk_cell BK109.out 2).trans rfl; have hfz9_0 := blk_frozen BK109.out 0; have hfz9_1 := blk_frozen BK109.out 1; have hfz9_2 := blk_frozen BK109.out 2) | ((with_reducible refine gate_callee (f := 8) rfl ?_); refine goesL_ (some 5) rfl rfl Tryd.func8 (by kernel_rfl) rfl #[.int .i64 a0_2, .int .i64 7] rfl (by (try simp only [List.map_toArray, List.map_cons, List.map_nil]); first | done | rfl | (simp only [List.length_drop, List.length_take]; rfl)) ?_; (with_reducible refine (beaconref0_Num.calls a0_2 7 true _ A2.out).mono ?_); rintro e w' ⟨rfl, ⟨nd, rfl⟩⟩; refine ⟨_, rfl, ?_⟩) | ((with_reducible refine gate_callee (f := 15) rfl ?_); refine goesL_ (some 13) rfl rfl Tryd.func15 (by kernel_rfl) rfl #[.int .i64 a0_1, .int .i64 32, .int .i64 1114111] rfl (by (try simp only [List.map_toArray, List.map_cons, List.map_nil]); first | done | rfl | (simp only [List.length_drop, List.length_take]; rfl)) ?_; (with_reducible refine (beaconref0_Between.calls a0_1 32 1114111 true _ A5.out).mono ?_); rintro e w' ⟨rfl, ⟨nd, rfl⟩⟩; refine ⟨_, rfl, ?_⟩))
          go_ret
          exact ⟨by first | rfl | (simp [errW_none, errW_some] <;> rfl) | (simp [*, errW_none, errW_some] <;> rfl), by repeat (first | (with_reducible first | exact HB.out | apply below_alloc | apply pw_below_drewN | apply below_drew1 | refine below_set ?_ GE109.out) | exact HB.out)⟩
        · rw [if_neg c7] at H
          have c7b0 : (a0_1 == 127) = false := beq_eq_false_iff_ne.mpr c7
          have c7b1 : (a0_1 != 127) = true := bne_iff_ne.mpr c7
          replace H := Option.bind_eq_some_iff.mp H
          obtain ⟨t112, A100, H⟩ := H
          replace H : (some (!t112)) = some r := H
          have A10 := Aside0.mk A100
          clear A100
          obtain rfl := Option.some.inj H
          go_enter Tryd.func7, Tryd.ntmps7
          go_wp2_with (first | ((with_reducible refine gate_dst (N := 1) rfl ?_); refine box_event ?hg (N := 1) ?hd (cs := #[.int .i64 a0_0, .int .i64 a0_1, .int .i64 a0_2]) (t := 32) ?hr ?_; (case hd => rfl); (case hg => rfl); (case hr => first | (go_simp; done) | (go_simp; rfl)); intro gb109 hg w11 hbox hb; have n0_ := Aside0.mk (below_step (by repeat (first | (with_reducible first | exact HB.out | apply below_alloc | apply pw_below_drewN | apply below_drew1) | exact HB.out)) hb); have n1_ := Aside0.mk (hbox); have n2_ := Aside0.mk ((by rw [hg]; exact (below_size (by repeat (first | (with_reducible first | exact HB.out | apply below_alloc | apply pw_below_drewN | apply below_drew1) | exact HB.out))) : w.heap.size ≤ gb109)); have n3_ := Aside0.mk ((by rw [hg]; exact (below_size (by repeat (first | (with_reducible first | exact HB.out | apply below_alloc | apply pw_below_drewN | apply below_drew1) | exact HB.out))) : w.heap.size ≤ gb109)); clear HB; have HB := n0_; have BK109 := n1_; have GW109 := n2_; have GE109 := n3_; clear n0_ n1_ n2_ n3_; clear hb hbox hg; have hcz12_0 : w11.cell? ⟨gb109, 0, none⟩ = some (.int .i64 a0_0) := (blk_cell BK109.out 0).trans rfl; have hcz12_1 : w11.cell? ⟨gb109, 1, none⟩ = some (.int .i64 a0_1) := (blk_cell BK109.out 1).trans rfl; have hcz12_2 : w11.cell? ⟨gb109, 2, none⟩ = some (.int .i64 a0_2) := (blk_cell BK109.out 2).trans rfl; have hfz12_0 := blk_frozen BK109.out 0; have hfz12_1 := blk_frozen BK109.out 1; have hfz12_2 := blk_frozen BK109.out 2) | ((with_reducible refine gate_callee (f := 8) rfl ?_); refine goesL_ (some 5) rfl rfl Tryd.func8 (by kernel_rfl) rfl #[.int .i64 a0_2, .int .i64 7] rfl (by (try simp only [List.map_toArray, List.map_cons, List.map_nil]); first | done | rfl | (simp only [List.length_drop, List.length_take]; rfl)) ?_; (with_reducible refine (beaconref0_Num.calls a0_2 7 true _ A2.out).mono ?_); rintro e w' ⟨rfl, ⟨nd, rfl⟩⟩; refine ⟨_, rfl, ?_⟩) | ((with_reducible refine gate_callee (f := 15) rfl ?_); refine goesL_ (some 13) rfl rfl Tryd.func15 (by kernel_rfl) rfl #[.int .i64 a0_1, .int .i64 32, .int .i64 1114111] rfl (by (try simp only [List.map_toArray, List.map_cons, List.map_nil]); first | done | rfl | (simp only [List.length_drop, List.length_take]; rfl)) ?_; (with_reducible refine (beaconref0_Between.calls a0_1 32 1114111 true _ A5.out).mono ?_); rintro e w' ⟨rfl, ⟨nd, rfl⟩⟩; refine ⟨_, rfl, ?_⟩) | (go_at_call 15; (with_reducible refine (beaconref0_Between.calls a0_1 55296 57343 t112 _ A10.out).mono ?_); rintro e w' ⟨rfl, ⟨nd, rfl⟩⟩))
          go_ret
          exact ⟨by first | rfl | (simp [errW_none, errW_some] <;> rfl) | (simp [*, errW_none, errW_some] <;> rfl), by repeat (first | (with_reducible first | exact HB.out | apply below_alloc | apply pw_below_drewN | apply below_drew1 | refine below_set ?_ GE109.out) | exact HB.out)⟩
      · replace c6 := Bool.eq_false_iff.mpr c6
        subst c6
        have H1 : (some false) = some r := by rw [if_neg (show ¬ (false = true) by decide)] at H; exact H
        clear H
        have H := H1
        clear H1
        obtain rfl := Option.some.inj H
        go_enter Tryd.func7, Tryd.ntmps7
        go_wp2_with (first | ((with_reducible refine gate_dst (N := 1) rfl ?_); refine box_event ?hg (N := 1) ?hd (cs := #[.int .i64 a0_0, .int .i64 a0_1, .int .i64 a0_2]) (t := 32) ?hr ?_; (case hd => rfl); (case hg => rfl); (case hr => first | (go_simp; done) | (go_simp; rfl)); intro gb109 hg w13 hbox hb; have n0_ := Aside0.mk (below_step (by repeat (first | (with_reducible first | exact HB.out | apply below_alloc | apply pw_below_drewN | apply below_drew1) | exact HB.out)) hb); have n1_ := Aside0.mk (hbox); have n2_ := Aside0.mk ((by rw [hg]; exact (below_size (by repeat (first | (with_reducible first | exact HB.out | apply below_alloc | apply pw_below_drewN | apply below_drew1) | exact HB.out))) : w.heap.size ≤ gb109)); have n3_ := Aside0.mk ((by rw [hg]; exact (below_size (by repeat (first | (with_reducible first | exact HB.out | apply below_alloc | apply pw_below_drewN | apply below_drew1) | exact HB.out))) : w.heap.size ≤ gb109)); clear HB; have HB := n0_; have BK109 := n1_; have GW109 := n2_; have GE109 := n3_; clear n0_ n1_ n2_ n3_; clear hb hbox hg; have hcz14_0 : w13.cell? ⟨gb109, 0, none⟩ = some (.int .i64 a0_0) := (blk_cell BK109.out 0).trans rfl; have hcz14_1 : w13.cell? ⟨gb109, 1, none⟩ = some (.int .i64 a0_1) := (blk_cell BK109.out 1).trans rfl; have hcz14_2 : w13.cell? ⟨gb109, 2, none⟩ = some (.int .i64 a0_2) := (blk_cell BK109.out 2).trans rfl; have hfz14_0 := blk_frozen BK109.out 0; have hfz14_1 := blk_frozen BK109.out 1; have hfz14_2 := blk_frozen BK109.out 2) | ((with_reducible refine gate_callee (f := 8) rfl ?_); refine goesL_ (some 5) rfl rfl Tryd.func8 (by kernel_rfl) rfl #[.int .i64 a0_2, .int .i64 7] rfl (by (try simp only [List.map_toArray, List.map_cons, List.map_nil]); first | done | rfl | (simp only [List.length_drop, List.length_take]; rfl)) ?_; (with_reducible refine (beaconref0_Num.calls a0_2 7 true _ A2.out).mono ?_); rintro e w' ⟨rfl, ⟨nd, rfl⟩⟩; refine ⟨_, rfl, ?_⟩) | ((with_reducible refine gate_callee (f := 15) rfl ?_); refine goesL_ (some 13) rfl rfl Tryd.func15 (by kernel_rfl) rfl #[.int .i64 a0_1, .int .i64 32, .int .i64 1114111] rfl (by (try simp only [List.map_toArray, List.map_cons, List.map_nil]); first | done | rfl | (simp only [List.length_drop, List.length_take]; rfl)) ?_; (with_reducible refine (beaconref0_Between.calls a0_1 32 1114111 false _ A5.out).mono ?_); rintro e w' ⟨rfl, ⟨nd, rfl⟩⟩; refine ⟨_, rfl, ?_⟩))
        go_ret
        exact ⟨by first | rfl | (simp [errW_none, errW_some] <;> rfl) | (simp [*, errW_none, errW_some] <;> rfl), by repeat (first | (with_reducible first | exact HB.out | apply below_alloc | apply pw_below_drewN | apply below_drew1 | refine below_set ?_ GE109.out) | exact HB.out)⟩
    · rw [if_neg c4] at H
      have c4b0 : (a0_0 == 1) = false := beq_eq_false_iff_ne.mpr c4
      have c4b1 : (a0_0 != 1) = true := bne_iff_ne.mpr c4
      by_cases c15 : a0_0 = 12
      · rw [if_pos c15] at H
        have c15b0 : (a0_0 == 12) = true := beq_iff_eq.mpr c15
        have c15b1 : (a0_0 != 12) = false := bne_eq_false_iff_eq.mpr c15
        clear c15
        replace H := Option.bind_eq_some_iff.mp H
        obtain ⟨t113, A160, H⟩ := H
        replace H : (some t113) = some r := H
        have A16 := Aside0.mk A160
        clear A160
        obtain rfl := Option.some.inj H
        go_enter Tryd.func7, Tryd.ntmps7
        go_wp2_with (first | ((with_reducible refine gate_dst (N := 1) rfl ?_); refine box_event ?hg (N := 1) ?hd (cs := #[.int .i64 a0_0, .int .i64 a0_1, .int .i64 a0_2]) (t := 32) ?hr ?_; (case hd => rfl); (case hg => rfl); (case hr => first | (go_simp; done) | (go_simp; rfl)); intro gb109 hg w17 hbox hb; have n0_ := Aside0.mk (below_step (by repeat (first | (with_reducible first | exact HB.out | apply below_alloc | apply pw_below_drewN | apply below_drew1) | exact HB.out)) hb); have n1_ := Aside0.mk (hbox); have n2_ := Aside0.mk ((by rw [hg]; exact (below_size (by repeat (first | (with_reducible first | exact HB.out | apply below_alloc | apply pw_below_drewN | apply below_drew1) | exact HB.out))) : w.heap.size ≤ gb109)); have n3_ := Aside0.mk ((by rw [hg]; exact (below_size (by repeat (first | (with_reducible first | exact HB.out | apply below_alloc | apply pw_below_drewN | apply below_drew1) | exact HB.out))) : w.heap.size ≤ gb109)); clear HB; have HB := n0_; have BK109 := n1_; have GW109 := n2_; have GE109 := n3_; clear n0_ n1_ n2_ n3_; clear hb hbox hg; have hcz18_0 : w17.cell? ⟨gb109, 0, none⟩ = some (.int .i64 a0_0) := (blk_cell BK109.out 0).trans rfl; have hcz18_1 : w17.cell? ⟨gb109, 1, none⟩ = some (.int .i64 a0_1) := (blk_cell BK109.out 1).trans rfl; have hcz18_2 : w17.cell? ⟨gb109, 2, none⟩ = some (.int .i64 a0_2) := (blk_cell BK109.out 2).trans rfl; have hfz18_0 := blk_frozen BK109.out 0; have hfz18_1 := blk_frozen BK109.out 1; have hfz18_2 := blk_frozen BK109.out 2) | ((with_reducible refine gate_callee (f := 8) rfl ?_); refine goesL_ (some 5) rfl rfl Tryd.func8 (by kernel_rfl) rfl #[.int .i64 a0_2, .int .i64 7] rfl (by (try simp only [List.map_toArray, List.map_cons, List.map_nil]); first | done | rfl | (simp only [List.length_drop, List.length_take]; rfl)) ?_; (with_reducible refine (beaconref0_Num.calls a0_2 7 true _ A2.out).mono ?_); rintro e w' ⟨rfl, ⟨nd, rfl⟩⟩; refine ⟨_, rfl, ?_⟩) | ((with_reducible refine gate_callee (f := 15) rfl ?_); refine goesL_ (some 29) rfl rfl Tryd.func15 (by kernel_rfl) rfl #[.int .i64 a0_1, .int .i64 1, .int .i64 2] rfl (by (try simp only [List.map_toArray, List.map_cons, List.map_nil]); first | done | rfl | (simp only [List.length_drop, List.length_take]; rfl)) ?_; (with_reducible refine (beaconref0_Between.calls a0_1 1 2 t113 _ A16.out).mono ?_); rintro e w' ⟨rfl, ⟨nd, rfl⟩⟩; refine ⟨_, rfl, ?_⟩))
        go_ret
        exact ⟨by first | rfl | (simp [errW_none, errW_some] <;> rfl) | (simp [*, errW_none, errW_some] <;> rfl), by repeat (first | (with_reducible first | exact HB.out | apply below_alloc | apply pw_below_drewN | apply below_drew1 | refine below_set ?_ GE109.out) | exact HB.out)⟩
      · rw [if_neg c15] at H
        have c15b0 : (a0_0 == 12) = false := beq_eq_false_iff_ne.mpr c15
        have c15b1 : (a0_0 != 12) = true := bne_iff_ne.mpr c15
        replace H := Option.bind_eq_some_iff.mp H
        obtain ⟨t114, A190, H⟩ := H
        replace H : (if t114 = true then (some (a0_1 == 0)) else (some false)) = some r := H
        have A19 := Aside0.mk A190
        clear A190
        by_cases c20 : t114 = true
        · subst c20
          have H1 : (some (a0_1 == 0)) = some r := by rw [if_pos rfl] at H; exact H
          clear H
          have H := H1
          clear H1
          obtain rfl := Option.some.inj H
          go_enter Tryd.func7, Tryd.ntmps7
          go_wp2_with (first | ((with_reducible refine gate_dst (N := 1) rfl ?_); refine box_event ?hg (N := 1) ?hd (cs := #[.int .i64 a0_0, .int .i64 a0_1, .int .i64 a0_2]) (t := 32) ?hr ?_; (case hd => rfl); (case hg => rfl); (case hr => first | (go_simp; done) | (go_simp; rfl)); intro gb109 hg w21 hbox hb; have n0_ := Aside0.mk (below_step (by repeat (first | (with_reducible first | exact HB.out | apply below_alloc | apply pw_below_drewN | apply below_drew1) | exact HB.out)) hb); have n1_ := Aside0.mk (hbox); have n2_ := Aside0.mk ((by rw [hg]; exact (below_size (by repeat (first | (with_reducible first | exact HB.out | apply below_alloc | apply pw_below_drewN | apply below_drew1) | exact HB.out))) : w.heap.size ≤ gb109)); have n3_ := Aside0.mk ((by rw [hg]; exact (below_size (by repeat (first | (with_reducible first | exact HB.out | apply below_alloc | apply pw_below_drewN | apply below_drew1) | exact HB.out))) : w.heap.size ≤ gb109)); clear HB; have HB := n0_; have BK109 := n1_; have GW109 := n2_; have GE109 := n3_; clear n0_ n1_ n2_ n3_; clear hb hbox hg; have hcz22_0 : w21.cell? ⟨gb109, 0, none⟩ = some (.int .i64 a0_0) := (blk_cell BK109.out 0).trans rfl; have hcz22_1 : w21.cell? ⟨gb109, 1, none⟩ = some (.int .i64 a0_1) := (blk_cell BK109.out 1).trans rfl; have hcz22_2 : w21.cell? ⟨gb109, 2, none⟩ = some (.int .i64 a0_2) := (blk_cell BK109.out 2).trans rfl; have hfz22_0 := blk_frozen BK109.out 0; have hfz22_1 := blk_frozen BK109.out 1; have hfz22_2 := blk_frozen BK109.out 2) | ((with_reducible refine gate_callee (f := 8) rfl ?_); refine goesL_ (some 5) rfl rfl Tryd.func8 (by kernel_rfl) rfl #[.int .i64 a0_2, .int .i64 7] rfl (by (try simp only [List.map_toArray, List.map_cons, List.map_nil]); first | done | rfl | (simp only [List.length_drop, List.length_take]; rfl)) ?_; (with_reducible refine (beaconref0_Num.calls a0_2 7 true _ A2.out).mono ?_); rintro e w' ⟨rfl, ⟨nd, rfl⟩⟩; refine ⟨_, rfl, ?_⟩) | ((with_reducible refine gate_callee (f := 15) rfl ?_); refine goesL_ (some 32) rfl rfl Tryd.func15 (by kernel_rfl) rfl #[.int .i64 a0_0, .int .i64 2, .int .i64 11] rfl (by (try simp only [List.map_toArray, List.map_cons, List.map_nil]); first | done | rfl | (simp only [List.length_drop, List.length_take]; rfl)) ?_; (with_reducible refine (beaconref0_Between.calls a0_0 2 11 true _ A19.out).mono ?_); rintro e w' ⟨rfl, ⟨nd, rfl⟩⟩; refine ⟨_, rfl, ?_⟩))
          go_ret
          exact ⟨by first | rfl | (simp [errW_none, errW_some] <;> rfl) | (simp [*, errW_none, errW_some] <;> rfl), by repeat (first | (with_reducible first | exact HB.out | apply below_alloc | apply pw_below_drewN | apply below_drew1 | refine below_set ?_ GE109.out) | exact HB.out)⟩
        · replace c20 := Bool.eq_false_iff.mpr c20
          subst c20
          have H1 : (some false) = some r := by rw [if_neg (show ¬ (false = true) by decide)] at H; exact H
          clear H
          have H := H1
          clear H1
          obtain rfl := Option.some.inj H
          go_enter Tryd.func7, Tryd.ntmps7
          go_wp2_with (first | ((with_reducible refine gate_dst (N := 1) rfl ?_); refine box_event ?hg (N := 1) ?hd (cs := #[.int .i64 a0_0, .int .i64 a0_1, .int .i64 a0_2]) (t := 32) ?hr ?_; (case hd => rfl); (case hg => rfl); (case hr => first | (go_simp; done) | (go_simp; rfl)); intro gb109 hg w23 hbox hb; have n0_ := Aside0.mk (below_step (by repeat (first | (with_reducible first | exact HB.out | apply below_alloc | apply pw_below_drewN | apply below_drew1) | exact HB.out)) hb); have n1_ := Aside0.mk (hbox); have n2_ := Aside0.mk ((by rw [hg]; exact (below_size (by repeat (first | (with_reducible first | exact HB.out | apply below_alloc | apply pw_below_drewN | apply below_drew1) | exact HB.out))) : w.heap.size ≤ gb109)); have n3_ := Aside0.mk ((by rw [hg]; exact (below_size (by repeat (first | (with_reducible first | exact HB.out | apply below_alloc | apply pw_below_drewN | apply below_drew1) | exact HB.out))) : w.heap.size ≤ gb109)); clear HB; have HB := n0_; have BK109 := n1_; have GW109 := n2_; have GE109 := n3_; clear n0_ n1_ n2_ n3_; clear hb hbox hg; have hcz24_0 : w23.cell? ⟨gb109, 0, none⟩ = some (.int .i64 a0_0) := (blk_cell BK109.out 0).trans rfl; have hcz24_1 : w23.cell? ⟨gb109, 1, none⟩ = some (.int .i64 a0_1) := (blk_cell BK109.out 1).trans rfl; have hcz24_2 : w23.cell? ⟨gb109, 2, none⟩ = some (.int .i64 a0_2) := (blk_cell BK109.out 2).trans rfl; have hfz24_0 := blk_frozen BK109.out 0; have hfz24_1 := blk_frozen BK109.out 1; have hfz24_2 := blk_frozen BK109.out 2) | ((with_reducible refine gate_callee (f := 8) rfl ?_); refine goesL_ (some 5) rfl rfl Tryd.func8 (by kernel_rfl) rfl #[.int .i64 a0_2, .int .i64 7] rfl (by (try simp only [List.map_toArray, List.map_cons, List.map_nil]); first | done | rfl | (simp only [List.length_drop, List.length_take]; rfl)) ?_; (with_reducible refine (beaconref0_Num.calls a0_2 7 true _ A2.out).mono ?_); rintro e w' ⟨rfl, ⟨nd, rfl⟩⟩; refine ⟨_, rfl, ?_⟩) | ((with_reducible refine gate_callee (f := 15) rfl ?_); refine goesL_ (some 32) rfl rfl Tryd.func15 (by kernel_rfl) rfl #[.int .i64 a0_0, .int .i64 2, .int .i64 11] rfl (by (try simp only [List.map_toArray, List.map_cons, List.map_nil]); first | done | rfl | (simp only [List.length_drop, List.length_take]; rfl)) ?_; (with_reducible refine (beaconref0_Between.calls a0_0 2 11 false _ A19.out).mono ?_); rintro e w' ⟨rfl, ⟨nd, rfl⟩⟩; refine ⟨_, rfl, ?_⟩))
          go_ret
          exact ⟨by first | rfl | (simp [errW_none, errW_some] <;> rfl) | (simp [*, errW_none, errW_some] <;> rfl), by repeat (first | (with_reducible first | exact HB.out | apply below_alloc | apply pw_below_drewN | apply below_drew1 | refine below_set ?_ GE109.out) | exact HB.out)⟩
  · replace c3 := Bool.eq_false_iff.mpr c3
    subst c3
    have H1 : (some false) = some r := by rw [if_neg (show ¬ (false = true) by decide)] at H; exact H
    clear H
    have H := H1
    clear H1
    obtain rfl := Option.some.inj H
    go_enter Tryd.func7, Tryd.ntmps7
    go_wp2_with (first | ((with_reducible refine gate_dst (N := 1) rfl ?_); refine box_event ?hg (N := 1) ?hd (cs := #[.int .i64 a0_0, .int .i64 a0_1, .int .i64 a0_2]) (t := 32) ?hr ?_; (case hd => rfl); (case hg => rfl); (case hr => first | (go_simp; done) | (go_simp; rfl)); intro gb109 hg w25 hbox hb; have n0_ := Aside0.mk (below_step (by repeat (first | (with_reducible first | exact HB.out | apply below_alloc | apply pw_below_drewN | apply below_drew1) | exact HB.out)) hb); have n1_ := Aside0.mk (hbox); have n2_ := Aside0.mk ((by rw [hg]; exact (below_size (by repeat (first | (with_reducible first | exact HB.out | apply below_alloc | apply pw_below_drewN | apply below_drew1) | exact HB.out))) : w.heap.size ≤ gb109)); have n3_ := Aside0.mk ((by rw [hg]; exact (below_size (by repeat (first | (with_reducible first | exact HB.out | apply below_alloc | apply pw_below_drewN | apply below_drew1) | exact HB.out))) : w.heap.size ≤ gb109)); clear HB; have HB := n0_; have BK109 := n1_; have GW109 := n2_; have GE109 := n3_; clear n0_ n1_ n2_ n3_; clear hb hbox hg; have hcz26_0 : w25.cell? ⟨gb109, 0, none⟩ = some (.int .i64 a0_0) := (blk_cell BK109.out 0).trans rfl; have hcz26_1 : w25.cell? ⟨gb109, 1, none⟩ = some (.int .i64 a0_1) := (blk_cell BK109.out 1).trans rfl; have hcz26_2 : w25.cell? ⟨gb109, 2, none⟩ = some (.int .i64 a0_2) := (blk_cell BK109.out 2).trans rfl; have hfz26_0 := blk_frozen BK109.out 0; have hfz26_1 := blk_frozen BK109.out 1; have hfz26_2 := blk_frozen BK109.out 2) | ((with_reducible refine gate_callee (f := 8) rfl ?_); refine goesL_ (some 5) rfl rfl Tryd.func8 (by kernel_rfl) rfl #[.int .i64 a0_2, .int .i64 7] rfl (by (try simp only [List.map_toArray, List.map_cons, List.map_nil]); first | done | rfl | (simp only [List.length_drop, List.length_take]; rfl)) ?_; (with_reducible refine (beaconref0_Num.calls a0_2 7 false _ A2.out).mono ?_); rintro e w' ⟨rfl, ⟨nd, rfl⟩⟩; refine ⟨_, rfl, ?_⟩))
    go_ret
    exact ⟨by first | rfl | (simp [errW_none, errW_some] <;> rfl) | (simp [*, errW_none, errW_some] <;> rfl), by repeat (first | (with_reducible first | exact HB.out | apply below_alloc | apply pw_below_drewN | apply below_drew1 | refine below_set ?_ GE109.out) | exact HB.out)⟩

-- NOT PRINTED: function 21 (strconv_small)

-- NOT PRINTED: function 25 (strconv_log10Pow2)

-- NOT PRINTED: function 26 (bits_Len64)

-- NOT PRINTED: function 27 (strconv_bool2_int)

-- NOT PRINTED: function 22 (strconv_numDigits)

-- NOT PRINTED: function 23 (strconv_formatBase10)

-- NOT PRINTED: function 28 (strconv_isPowerOfTwo)

-- NOT PRINTED: function 30 (bits_TrailingZeros32)

-- NOT PRINTED: function 31 (bits_TrailingZeros64)

-- NOT PRINTED: function 29 (bits_TrailingZeros)

-- NOT PRINTED: function 24 (strconv_formatBits)

-- NOT PRINTED: function 20 (strconv_FormatInt)

-- NOT PRINTED: function 19 (strconv_Itoa_19)

-- NOT PRINTED: function 16 (strconv_Itoa_16)

end Go.Proofs.YtadjhnlbpgknfaaDoor.P
