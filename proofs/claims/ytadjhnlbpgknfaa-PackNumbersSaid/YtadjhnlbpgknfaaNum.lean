/- Numbers as bytes: what the program's loops and the page's tell. Plain Lean over the printed functions. -/
import Derived.Test.YtadjhnlbpgknfaaPz
import Derived.Test.YtadjhnlbpgknfaaP4
import Derived.Test.YtadjhnlbpgknfaaP3
namespace Go.Proofs.Ytadjhnlbpgknfaa.P
open Go.RowKit Go.Proofs.YtadjhnlbpgknfaaW.PrintWords Go.Proofs.YtadjhnlbpgknfaaW.PrintLast Go.Proofs.YtadjhnlbpgknfaaW.PrintMore Go.Proofs.Ytadjhnlbpgknfaa.Pz

/-- A number's bytes, d + 1 of them at most. -/
def encd : Nat → Int → List Int
  | 0, n => [n]
  | d + 1, n => if n ≥ 128 then (n % 128 + 128) :: encd d (n / 128) else [n]
def enc (n : Int) : List Int := encd 8 n

theorem encd_len : ∀ d n, 1 ≤ (encd d n).length ∧ (encd d n).length ≤ d + 1
  | 0, n => by simp [encd]
  | d + 1, n => by
    unfold encd
    split
    · have := encd_len d (n / 128)
      simp only [List.length_cons]
      omega
    · simp

theorem put_l0 : ∀ (d : Nat) (xs : List Int) (n : Int), 0 ≤ n → n < 128 ^ (d + 1) → n ≤ 9223372036854775807 → xs.length + d + 1 < 140737488355328 → Ev (fun k => pack_Put.l0 k xs n) (xs ++ encd d n) := by
  intro d
  induction d with
  | zero =>
    intro xs n h0 h1 h2 hl
    refine Ev.step (fun k => by rw [pack_Put.l0]) ?_
    refine ev_neg (by omega) (ev_pos (by omega) (ev_cst ?_))
    simp only [encd]
    rw [show n % 256 = n by omega]
  | succ d ih =>
    intro xs n h0 h1 h2 hl
    refine Ev.step (fun k => by rw [pack_Put.l0]) ?_
    unfold encd
    by_cases h : n ≥ 128
    · refine ev_pos h (ev_pos (by omega) ?_)
      rw [if_pos h, tmod_pos h0, wrap_in (by omega) (by omega), show (n % 128 + 128) % 256 = n % 128 + 128 by omega]
      have hq : n / 128 < 128 ^ (d + 1) := Int.ediv_lt_of_lt_mul (by omega) (by rw [Int.pow_succ] at h1; exact h1)
      have := ih (xs ++ [n % 128 + 128]) (n / 128) (by omega) hq (by omega) (by simp only [List.length_append, List.length_cons, List.length_nil]; omega)
      rw [List.append_assoc] at this
      exact this
    · refine ev_neg h (ev_pos (by omega) (ev_cst ?_))
      rw [if_neg h, show n % 256 = n by omega]

theorem number_l0 : ∀ (d : Nat) (xs : List Int) (n : Int), 0 ≤ n → n < 128 ^ (d + 1) → n ≤ 9223372036854775807 → xs.length + d + 1 < 140737488355328 → Ev (fun k => beaconref16_Number.l0 k n xs) (strOfNums (xs ++ encd d n)) := by
  intro d
  induction d with
  | zero =>
    intro xs n h0 h1 h2 hl
    refine Ev.step (fun k => by rw [beaconref16_Number.l0]) ?_
    refine ev_neg (by omega) (ev_pos (by omega) (ev_cst ?_))
    simp only [encd]
    rw [show n % 256 = n by omega]
  | succ d ih =>
    intro xs n h0 h1 h2 hl
    refine Ev.step (fun k => by rw [beaconref16_Number.l0]) ?_
    unfold encd
    by_cases h : n ≥ 128
    · refine ev_pos h (ev_pos (by omega) ?_)
      rw [if_pos h, tmod_pos h0, tdiv_pos h0, wrap_in (by omega) (by omega), wrap_in (by omega) (by omega), show (n % 128 + 128) % 256 = n % 128 + 128 by omega]
      have hq : n / 128 < 128 ^ (d + 1) := Int.ediv_lt_of_lt_mul (by omega) (by rw [Int.pow_succ] at h1; exact h1)
      have := ih (xs ++ [n % 128 + 128]) (n / 128) (by omega) hq (by omega) (by simp only [List.length_append, List.length_cons, List.length_nil]; omega)
      rw [List.append_assoc] at this
      exact this
    · refine ev_neg h (ev_pos (by omega) (ev_cst ?_))
      rw [if_neg h, show n % 256 = n by omega]

theorem put_ev (xs : List Int) (n : Int) (h0 : 0 ≤ n) (h1 : n ≤ 9223372036854775807) (hl : xs.length + 9 < 140737488355328) : Ev (fun k => pack_Put.f k xs n) (xs ++ enc n) :=
  put_l0 8 xs n h0 (by omega) h1 (by omega)
theorem refNumber_ev (n : Int) (h0 : 0 ≤ n) (h1 : n ≤ 9223372036854775807) : Ev (fun k => beaconref16_Number.f k n) (strOfNums (enc n)) :=
  number_l0 8 [] n h0 (by omega) h1 (by simp)

theorem number_ev (n : Int) (h1 : n ≤ 9223372036854775807) : Ev (fun k => pack_Number.f k n) (if 0 ≤ n ∧ n < 34359738368 then (strOfNums (enc n), 0) else (⟨#[]⟩, 1)) := by
  unfold pack_Number.f
  by_cases h : n < 0
  · rw [if_neg (by omega)]
    exact ev_pos h (ev_cst rfl)
  · refine ev_neg h ?_
    by_cases h2 : n ≥ 34359738368
    · rw [if_neg (by omega)]
      exact ev_pos h2 (ev_cst rfl)
    · rw [if_pos (by omega)]
      refine ev_neg h2 ?_
      exact Ev.bind (put_ev [] n (by omega) h1 (by simp)) (ev_cst rfl)

/-- Which number bytes begin with, from place i on, j rounds left; none: there is none. -/
def tk (s : ByteArray) : Nat → Int → Int → Option (Int × ByteArray)
  | 0, _, _ => none
  | j + 1, i, acc => if i < (s.size : Int) then (if bt s i < 128 then (if bt s i = 0 ∧ i > 0 then none else some (acc + bt s i * 2 ^ (7 * i).toNat, s.extract (i + 1).toNat s.size)) else tk s j (i + 1) (acc + (bt s i - 128) * 2 ^ (7 * i).toNat)) else none
def tkp : Option (Int × ByteArray) → Int × ByteArray × Int
  | none => (0, ⟨#[]⟩, 6)
  | some (n, r) => (n, r, 0)

theorem takeNumber_j1 (s : ByteArray) (j : Nat) (i acc : Int) (hij : i + j = 4) (hi : 0 ≤ i) (ha : 0 ≤ acc) (hb : acc < 2 ^ (7 * i).toNat)
    (ih : ∀ acc', 0 ≤ acc' → acc' < 2 ^ (7 * (i + 1)).toNat → Ev (fun k => pack_TakeNumber.l0 k s acc' (i + 1)) (tkp (tk s j (i + 1) acc'))) :
    Ev (fun k => pack_TakeNumber.l0 k s acc i) (tkp (tk s (j + 1) i acc)) := by
  have hbr := bt_range s i
  refine Ev.step (fun k => by rw [pack_TakeNumber.l0]) (ev_pos (by omega) (Ev.step (fun k => by rw [pack_TakeNumber.j1]) ?_))
  unfold tk
  by_cases h : i < (s.size : Int)
  · refine ev_pos (by simpa using h) (ev_pos hi (ev_pos h ?_))
    rw [if_pos h]
    have e7 : wrap64 (7 * i) = 7 * i := wrap_in (by omega) (by omega)
    have e1 : wrap64 (i + 1) = i + 1 := wrap_in (by omega) (by omega)
    have esh : shl .i64 (wrap64 (Int.tmod (bt s i) 128)) (7 * i) = (bt s i % 128) * 2 ^ (7 * i).toNat := by
      rw [tmod_pos hbr.1, wrap_in (by omega) (by omega)]
      unfold shl
      have hc : i = 0 ∨ i = 1 ∨ i = 2 ∨ i = 3 ∨ i = 4 := by omega
      rcases hc with rfl | rfl | rfl | rfl | rfl <;> exact IntKind.wrap_i64 _ |>.trans (by simp [IntKind.bits]; omega)
    have hlo : (bt s i % 128) * 2 ^ (7 * i).toNat + acc < 2 ^ (7 * (i + 1)).toNat ∧ (2 : Int) ^ (7 * (i + 1)).toNat ≤ 34359738368 ∧ 0 ≤ (bt s i % 128) * 2 ^ (7 * i).toNat := by
      have hc : i = 0 ∨ i = 1 ∨ i = 2 ∨ i = 3 ∨ i = 4 := by omega
      rcases hc with rfl | rfl | rfl | rfl | rfl <;> simp at hb ⊢ <;> omega
    rw [e7, esh, e1, wrap_in (by omega) (by omega)]
    refine ev_pos (by omega) ?_
    by_cases h2 : bt s i < 128
    · refine ev_pos h2 ?_
      rw [if_pos h2]
      by_cases h3 : bt s i = 0
      · refine ev_pos h3 ?_
        by_cases h4 : i > 0
        · refine ev_pos h4 (ev_cst ?_)
          rw [if_pos ⟨h3, h4⟩]
          rfl
        · refine ev_neg h4 (ev_pos (by omega) (ev_pos (by omega) (ev_cst ?_)))
          rw [if_neg (by omega), show bt s i % 128 = bt s i by omega]
          rfl
      · refine ev_neg h3 (ev_pos (by omega) (ev_pos (by omega) (ev_cst ?_)))
        rw [if_neg (by omega), show bt s i % 128 = bt s i by omega]
        rfl
    · refine ev_neg h2 ?_
      rw [if_neg h2, show bt s i - 128 = bt s i % 128 by omega]
      exact ih _ (by omega) (by omega)
  · refine ev_neg (by simpa using h) (ev_cst ?_)
    rw [if_neg h]
    rfl

theorem takeNumber_l0 (s : ByteArray) : ∀ (j : Nat) (i acc : Int), i + j = 5 → 0 ≤ i → 0 ≤ acc → acc < 2 ^ (7 * i).toNat → Ev (fun k => pack_TakeNumber.l0 k s acc i) (tkp (tk s j i acc)) := by
  intro j
  induction j with
  | zero =>
    intro i acc hij hi ha hb
    refine Ev.step (fun k => by rw [pack_TakeNumber.l0]) ?_
    refine ev_neg (by omega) ?_
    refine Ev.step (fun k => by rw [pack_TakeNumber.j1]) ?_
    exact ev_neg (by simp) (ev_cst rfl)
  | succ j ih =>
    intro i acc hij hi ha hb
    exact takeNumber_j1 s j i acc (by omega) hi ha hb (fun acc' h0 h1 => ih (i + 1) acc' (by omega) (by omega) h0 h1)
def take5 (s : ByteArray) : Option (Int × ByteArray) := tk s 5 0 0
theorem takeNumber_ev (s : ByteArray) : Ev (fun k => pack_TakeNumber.f k s) (tkp (take5 s)) := takeNumber_l0 s 5 0 0 (by omega) (by omega) (by omega) (by simp)

/-- The page's reader: the same number, the same rest; or it is bad. -/
def RdOK (t : Option (Int × ByteArray)) (bad : Bool) (r : Int × ByteArray × Bool) : Prop :=
  match t with
  | none => r.2.2 = true
  | some (n, rest) => r = (n, rest, bad)

theorem readerNumber_j1 (s : ByteArray) (bad : Bool) (j : Nat) (i acc : Int) (hij : i + j = 4) (hi : 0 ≤ i) (ha : 0 ≤ acc) (hb : acc < 2 ^ (7 * i).toNat)
    (ih : ∀ acc', 0 ≤ acc' → acc' < 2 ^ (7 * (i + 1)).toNat → ∃ r, Ev (fun k => beaconref16_reader_number.l0 k acc' (i + 1) s bad) r ∧ RdOK (tk s j (i + 1) acc') bad r) :
    ∃ r, Ev (fun k => beaconref16_reader_number.l0 k acc i s bad) r ∧ RdOK (tk s (j + 1) i acc) bad r := by
  have hbr := bt_range s i
  unfold tk
  by_cases h : i < (s.size : Int)
  · rw [if_pos h]
    have e7 : wrap64 (7 * i) = 7 * i := wrap_in (by omega) (by omega)
    have e1 : wrap64 (i + 1) = i + 1 := wrap_in (by omega) (by omega)
    have esh : shl .i64 (wrap64 (Go.bits .and .u8 (bt s i) 127)) (7 * i) = (bt s i % 128) * 2 ^ (7 * i).toNat := by
      rw [and127 hbr.1 (by omega), wrap_in (by omega) (by omega)]
      unfold shl
      have hc : i = 0 ∨ i = 1 ∨ i = 2 ∨ i = 3 ∨ i = 4 := by omega
      rcases hc with rfl | rfl | rfl | rfl | rfl <;> exact IntKind.wrap_i64 _ |>.trans (by simp [IntKind.bits]; omega)
    have hlo : (bt s i % 128) * 2 ^ (7 * i).toNat + acc < 2 ^ (7 * (i + 1)).toNat ∧ (2 : Int) ^ (7 * (i + 1)).toNat ≤ 34359738368 ∧ 0 ≤ (bt s i % 128) * 2 ^ (7 * i).toNat ∧ (2 : Int) ^ (7 * i).toNat ≤ 34359738368 := by
      have hc : i = 0 ∨ i = 1 ∨ i = 2 ∨ i = 3 ∨ i = 4 := by omega
      rcases hc with rfl | rfl | rfl | rfl | rfl <;> simp at hb ⊢ <;> omega
    have eor : Go.bits .or .i64 acc ((bt s i % 128) * 2 ^ (7 * i).toNat) = acc + (bt s i % 128) * 2 ^ (7 * i).toNat :=
      or_add (7 * i).toNat ha hb (by omega) (Int.mul_emod_left _ _) (by omega) (by omega)
    have hfin : ∀ r, Ev (fun k => beaconref16_reader_number.j1 k acc i true s bad) r → Ev (fun k => beaconref16_reader_number.l0 k acc i s bad) r := fun r hr =>
      Ev.step (fun k => by rw [beaconref16_reader_number.l0]) (ev_pos (by omega) (by simpa [h] using hr))
    have hgo : ∀ r, Ev (fun k => (if bt s i < 128 then (if bad = true then (some (acc + bt s i % 128 * 2 ^ (7 * i).toNat, s.extract (i + 1).toNat s.size, true)) else if i > 0 then (some (acc + bt s i % 128 * 2 ^ (7 * i).toNat, s.extract (i + 1).toNat s.size, bt s i == 0)) else (some (acc + bt s i % 128 * 2 ^ (7 * i).toNat, s.extract (i + 1).toNat s.size, false))) else beaconref16_reader_number.l0 k (acc + bt s i % 128 * 2 ^ (7 * i).toNat) (i + 1) s bad : Option (Int × ByteArray × Bool))) r → Ev (fun k => beaconref16_reader_number.j1 k acc i true s bad) r := by
      intro r hr
      refine Ev.step (fun k => by rw [beaconref16_reader_number.j1]) (ev_pos rfl (ev_pos hi (ev_pos h ?_)))
      rw [e7, esh, e1, eor]
      refine ev_pos (by omega) ?_
      have p1 : (0 : Int) ≤ i + 1 := by omega
      have p2 : i + 1 ≤ (s.size : Int) := by omega
      simpa only [if_pos p1, if_pos p2] using hr
    by_cases h2 : bt s i < 128
    · rw [if_pos h2]
      have em : bt s i % 128 = bt s i := by omega
      cases bad with
      | true =>
        refine ⟨_, hfin _ (hgo _ (ev_pos h2 (ev_pos rfl (ev_cst rfl)))), ?_⟩
        split
        · rfl
        · rw [em]; rfl
      | false =>
        by_cases h4 : i > 0
        · refine ⟨_, hfin _ (hgo _ (ev_pos h2 (ev_neg (by simp) (ev_pos h4 (ev_cst rfl))))), ?_⟩
          by_cases h3 : bt s i = 0
          · rw [if_pos ⟨h3, h4⟩, h3]; rfl
          · rw [if_neg (by omega), em]
            show (_, _, _) = (_, _, _)
            rw [show (bt s i == 0) = false from by simpa using h3]
        · refine ⟨_, hfin _ (hgo _ (ev_pos h2 (ev_neg (by simp) (ev_neg h4 (ev_cst rfl))))), ?_⟩
          rw [if_neg (by omega), em]
          rfl
    · rw [if_neg h2]
      obtain ⟨r, hr, hok⟩ := ih (acc + bt s i % 128 * 2 ^ (7 * i).toNat) (by omega) (by omega)
      refine ⟨r, hfin _ (hgo _ (ev_neg h2 hr)), ?_⟩
      rw [show bt s i - 128 = bt s i % 128 by omega]
      exact hok
  · rw [if_neg h]
    exact ⟨(0, s, true), Ev.step (fun k => by rw [beaconref16_reader_number.l0]) (ev_pos (by omega) (Ev.step (fun k => by rw [beaconref16_reader_number.j1]) (ev_neg (by simpa using h) (ev_cst rfl)))), rfl⟩

theorem readerNumber_l0 (s : ByteArray) (bad : Bool) : ∀ (j : Nat) (i acc : Int), i + j = 5 → 0 ≤ i → 0 ≤ acc → acc < 2 ^ (7 * i).toNat → ∃ r, Ev (fun k => beaconref16_reader_number.l0 k acc i s bad) r ∧ RdOK (tk s j i acc) bad r := by
  intro j
  induction j with
  | zero =>
    intro i acc hij hi ha hb
    exact ⟨(0, s, true), Ev.step (fun k => by rw [beaconref16_reader_number.l0]) (ev_neg (by omega) (Ev.step (fun k => by rw [beaconref16_reader_number.j1]) (ev_neg (by simp) (ev_cst rfl)))), rfl⟩
  | succ j ih =>
    intro i acc hij hi ha hb
    exact readerNumber_j1 s bad j i acc (by omega) hi ha hb (fun acc' h0 h1 => ih (i + 1) acc' (by omega) (by omega) h0 h1)
theorem readerNumber_ev (s : ByteArray) (bad : Bool) : ∃ r, Ev (fun k => beaconref16_reader_number.f k s bad) r ∧ RdOK (take5 s) bad r := readerNumber_l0 s bad 5 0 0 (by omega) (by omega) (by omega) (by simp)
end Go.Proofs.Ytadjhnlbpgknfaa.P
