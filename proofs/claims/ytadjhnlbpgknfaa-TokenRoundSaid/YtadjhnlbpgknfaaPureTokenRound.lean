/- TokenRound, the plain side: whoever asks, in whatever order, gets the token in that order, as it is given back. -/
import Derived.Test.YtadjhnlbpgknfaaPSayTokenRound
import Derived.Test.YtadjhnlbpgknfaaPz
namespace Go.Proofs.Ytadjhnlbpgknfaa.Pure
open Go.RowKit Go.Proofs.Ytadjhnlbpgknfaa.P Go.Proofs.YtadjhnlbpgknfaaW.PrintWords Go.Proofs.YtadjhnlbpgknfaaW.PrintLast Go.Proofs.YtadjhnlbpgknfaaW.PrintMore Go.Proofs.Ytadjhnlbpgknfaa.Pz
namespace Tok

theorem nodup_le : ∀ (l s : List Int), l.Nodup → (∀ x ∈ l, x ∈ s) → l.length ≤ s.length
  | [], _, _, _ => by simp
  | x :: l, s, hn, hs => by
    have hx := hs x List.mem_cons_self
    obtain ⟨hxl, hnl⟩ := List.nodup_cons.1 hn
    have h := nodup_le l (s.erase x) hnl (fun y hy => (List.mem_erase_of_ne (fun e => hxl (by subst e; exact hy))).2 (hs y (List.mem_cons_of_mem _ hy)))
    rw [List.length_erase_of_mem hx] at h
    have : 0 < s.length := List.length_pos_of_mem hx
    simp only [List.length_cons]
    omega
/-- Who may stand in line: each once, from 1 to 4. -/
def Line (o : List Int) : Prop := o.Nodup ∧ ∀ x ∈ o, 1 ≤ x ∧ x ≤ 4
theorem Line.len {o : List Int} (h : Line o) : o.length ≤ 4 :=
  nodup_le o [1, 2, 3, 4] h.1 (fun x hx => by
    obtain ⟨h1, h2⟩ := h.2 x hx
    have : x = 1 ∨ x = 2 ∨ x = 3 ∨ x = 4 := by omega
    rcases this with rfl | rfl | rfl | rfl <;> simp)
theorem Line.tail {x : Int} {o : List Int} (h : Line (x :: o)) : Line o := ⟨(List.nodup_cons.1 h.1).2, fun y hy => h.2 y (List.mem_cons_of_mem _ hy)⟩

theorem index_l0 (l : List Int) (a : Int) (hl : l.length ≤ 1000000) : ∀ (d : Nat) (i : Int), 0 ≤ i → i + d = l.length → ∃ r, Ev (fun k => slices_Index_int_int.l0 k l a l.length i) r ∧ (r ≥ 0 ↔ a ∈ l.drop i.toNat) := by
  intro d
  induction d with
  | zero =>
    intro i h0 h1
    refine ⟨-1, Ev.step (fun k => by rw [slices_Index_int_int.l0]) (ev_neg (by omega) (ev_cst rfl)), ?_⟩
    rw [List.drop_eq_nil_of_le (by omega)]
    simp
  | succ d ih =>
    intro i h0 h1
    have hi : i.toNat < l.length := by omega
    have er : rd l i = l[i.toNat] := by
      unfold rd
      rw [List.getD_eq_getElem?_getD, List.getElem?_eq_getElem hi]
      rfl
    have hd : l.drop i.toNat = l[i.toNat] :: l.drop (i + 1).toNat := by rw [List.drop_eq_getElem_cons hi, show (i + 1).toNat = i.toNat + 1 by omega]
    by_cases h : a = rd l i
    · refine ⟨i, Ev.step (fun k => by rw [slices_Index_int_int.l0]) (ev_pos (by omega) (ev_pos h0 (ev_pos (by omega) (ev_pos h (ev_cst rfl))))), ?_⟩
      rw [hd, ← er, ← h]
      simp [h0]
    · obtain ⟨r, hr, hx⟩ := ih (i + 1) (by omega) (by omega)
      refine ⟨r, Ev.step (fun k => by rw [slices_Index_int_int.l0]) (ev_pos (by omega) (ev_pos h0 (ev_pos (by omega) (ev_neg h ?_)))), ?_⟩
      · rw [wrap_in (by omega) (by omega)]
        exact hr
      · rw [hx, hd, List.mem_cons, ← er]
        simp [h]
theorem contains_ev (l : List Int) (a : Int) (hl : l.length ≤ 1000000) : Ev (fun k => slices_Contains_int_int.f k l a) (decide (a ∈ l)) := by
  obtain ⟨r, hr, hx⟩ := index_l0 l a hl l.length 0 (by omega) (by omega)
  refine Ev.bind (f := fun k t => _) hr (ev_cst ?_)
  congr 1
  rw [decide_eq_decide]
  simpa using hx
theorem in_l0 (l : List Int) (a : Int) (hl : l.length ≤ 1000000) : ∀ (d : Nat) (i : Int), 0 ≤ i → i + d = l.length → ∃ r, Ev (fun k => beaconref0_In.l0 k l a i) r ∧ (r < 0 ↔ a ∉ l.drop i.toNat) := by
  intro d
  induction d with
  | zero =>
    intro i h0 h1
    refine ⟨-1, Ev.step (fun k => by rw [beaconref0_In.l0]) (ev_neg (by omega) (ev_cst rfl)), ?_⟩
    rw [List.drop_eq_nil_of_le (by omega)]
    simp
  | succ d ih =>
    intro i h0 h1
    have hi : i.toNat < l.length := by omega
    have er : rd l i = l[i.toNat] := by
      unfold rd
      rw [List.getD_eq_getElem?_getD, List.getElem?_eq_getElem hi]
      rfl
    have hd : l.drop i.toNat = l[i.toNat] :: l.drop (i + 1).toNat := by rw [List.drop_eq_getElem_cons hi, show (i + 1).toNat = i.toNat + 1 by omega]
    by_cases h : rd l i = a
    · refine ⟨i, Ev.step (fun k => by rw [beaconref0_In.l0]) (ev_pos (by omega) (ev_pos h0 (ev_pos h (ev_cst rfl)))), ?_⟩
      rw [hd, ← er, h]
      simp
      omega
    · obtain ⟨r, hr, hx⟩ := ih (i + 1) (by omega) (by omega)
      refine ⟨r, Ev.step (fun k => by rw [beaconref0_In.l0]) (ev_pos (by omega) (ev_pos h0 (ev_neg h ?_))), ?_⟩
      · rw [wrap_in (by omega) (by omega)]
        exact hr
      · rw [hx, hd, List.mem_cons, ← er]
        simp [Ne.symm h]
theorem viewer_some {x : Int} (h : 1 ≤ x ∧ x ≤ 4) : token_viewer.f x = some true := by
  unfold token_viewer.f
  rw [if_pos h.1]
  simp [h.2]
theorem may_l0 (h : Int) (q : List Int) (hn : Line (h :: q)) : ∀ (d : Nat) (i : Int), 0 ≤ i → i + d = q.length → Ev (fun k => token_May.l0 k q q.length i h q) true := by
  have hl := hn.len
  simp only [List.length_cons] at hl
  intro d
  induction d with
  | zero =>
    intro i h0 h1
    refine Ev.step (fun k => by rw [token_May.l0]) ?_
    exact ev_neg (by omega) (ev_cst rfl)
  | succ d ih =>
    intro i h0 h1
    have hi : i.toNat < q.length := by omega
    have er : rd q i = q[i.toNat] := by
      unfold rd
      rw [List.getD_eq_getElem?_getD, List.getElem?_eq_getElem hi]
      rfl
    have hm : rd q i ∈ q := rd_mem h0 (by omega)
    refine Ev.step (fun k => by rw [token_May.l0]) ?_
    refine ev_pos (by omega) (ev_pos h0 (ev_pos (by omega) (ev_bindc (viewer_some (hn.tail.2 _ hm)) (ev_pos rfl (ev_neg ?_ (ev_pos (by omega) (Ev.bind (contains_ev _ _ ?_) ?_)))))))
    · intro e
      exact (List.nodup_cons.1 hn.1).1 (e ▸ hm)
    · rw [List.length_take]
      omega
    · have hnot : ¬ rd q i ∈ q.take i.toNat := by
        intro hc
        have hnd := hn.tail.1
        rw [← List.take_append_drop i.toNat q, List.nodup_append] at hnd
        exact hnd.2.2 _ hc _ (by rw [er, List.drop_eq_getElem_cons hi]; exact List.mem_cons_self) rfl
      rw [decide_eq_false hnot]
      refine ev_neg (by decide) ?_
      rw [wrap_in (by omega) (by omega)]
      exact ih (i + 1) (by omega) (by omega)
/-- The token behind a line. -/
def hd (o : List Int) : Int := o.headD 0
theorem may_ev (o : List Int) (h : Line o) : Ev (fun k => token_May.f k (hd o) o.tail) true := by
  unfold token_May.f
  cases o with
  | nil =>
    refine ev_neg (by simp [hd]) (ev_neg (by simp [hd]) (ev_neg (by simp) (ev_pos (by simp [hd]) ?_)))
    refine Ev.step (fun k => by rw [token_May.j0]) ?_
    refine ev_neg (by simp) ?_
    refine Ev.step (fun k => by rw [token_May.l0]) ?_
    exact ev_neg (by simp) (ev_cst rfl)
  | cons x q =>
    have hx := h.2 x List.mem_cons_self
    have hl := h.len
    simp only [List.length_cons] at hl
    simp only [hd, List.headD_cons, List.tail_cons]
    refine ev_neg (by omega) (ev_neg (by omega) (ev_neg (by omega) (ev_neg (by omega) ?_)))
    refine Ev.step (fun k => by rw [token_May.j0]) ?_
    exact ev_neg (by decide) (may_l0 x q h q.length 0 (by omega) (by omega))
theorem own_some (h : Int) (q : List Int) (hl : q.length ≤ 10) : token_own.f h q = some (h, q) := by
  unfold token_own.f slices_Clone_int_int.f
  simp only [Option.bind_some, List.length_nil, List.nil_append]
  rw [if_pos (by omega)]
  rfl
def asked (o : List Int) (who : Int) : List Int := if who ∈ o then o else o ++ [who]
theorem asked_line {o : List Int} {who : Int} (h : Line o) (hw : 1 ≤ who ∧ who ≤ 4) : Line (asked o who) := by
  unfold asked
  split
  · exact h
  · rename_i hn
    refine ⟨List.nodup_append.2 ⟨h.1, by simp, fun a ha b hb e => ?_⟩, fun x hx => ?_⟩
    · rw [List.mem_singleton] at hb
      subst hb
      exact hn (e ▸ ha)
    · rcases List.mem_append.1 hx with hx | hx
      · exact h.2 x hx
      · rw [List.mem_singleton] at hx
        subst hx
        exact hw
theorem ask_ev (o : List Int) (who : Int) (h : Line o) (hw : 1 ≤ who ∧ who ≤ 4) : Ev (fun k => token_Ask.f k (hd o) o.tail who) (hd (asked o who), (asked o who).tail, 0) := by
  have hl := h.len
  refine Ev.bind (may_ev o h) (ev_pos rfl (ev_bindc (viewer_some hw) ?_))
  refine Ev.step (fun k => by rw [token_Ask.j0]) ?_
  refine ev_neg (by decide) (ev_bindc (own_some _ _ (by rw [List.length_tail]; omega)) ?_)
  cases o with
  | nil =>
    refine ev_pos rfl (ev_cst ?_)
    simp [asked, hd]
  | cons x q =>
    have hx := h.2 x List.mem_cons_self
    refine ev_neg (show ¬ x = 0 by omega) ?_
    show Ev (fun k => if x = who then _ else _) _
    by_cases he : x = who
    · subst he
      refine ev_pos rfl (ev_cst ?_)
      simp [asked, hd]
    · refine ev_neg he (Ev.bind (contains_ev q who (by simp at hl; omega)) ?_)
      by_cases hq : who ∈ q
      · rw [decide_eq_true hq]
        refine ev_pos rfl (ev_cst ?_)
        simp [asked, hd, hq]
      · rw [decide_eq_false hq]
        refine ev_neg (by decide) (ev_pos (by simp only [List.tail_cons]; simp at hl; omega) (ev_cst ?_))
        simp [asked, hd, hq, Ne.symm he]
theorem give_ev (x : Int) (q : List Int) (h : Line (x :: q)) : Ev (fun k => token_Give.f k x q x) (hd q, q.tail, 0) := by
  have hl := h.len
  simp only [List.length_cons] at hl
  have hx := h.2 x List.mem_cons_self
  have hm := may_ev (x :: q) h
  refine Ev.bind (f := fun k m => _) hm (ev_pos rfl (ev_bindc (viewer_some hx) (ev_pos rfl (ev_bindc (own_some _ _ (by omega)) (ev_cst ?_)))))
  have hf : q.filter (fun y => !(y == x)) = q := List.filter_eq_self.2 (fun a ha => by
    have : a ≠ x := fun e => (List.nodup_cons.1 h.1).1 (e ▸ ha)
    simpa using this)
  show some (giveOf x q x) = _
  unfold giveOf
  rw [if_pos rfl, hf]
  cases q <;> rfl
theorem wakes_ev : Ev (fun k => beaconlaw21_wakes.f k) true := by
  have l0 : Line [] := ⟨List.nodup_nil, fun x hx => by cases hx⟩
  have a1 := ask_ev [] 1 l0 (by omega)
  have l1 := asked_line l0 (show (1 : Int) ≤ 1 ∧ (1 : Int) ≤ 4 by omega)
  have e1 : asked [] 1 = [1] := by simp [asked]
  rw [e1] at a1 l1
  have a2 := ask_ev [1] 2 l1 (by omega)
  have l2 := asked_line l1 (show (1 : Int) ≤ 2 ∧ (2 : Int) ≤ 4 by omega)
  have e2 : asked [1] 2 = [1, 2] := by simp [asked]
  rw [e2] at a2 l2
  have g := give_ev 1 [2] l2
  exact Ev.bind a1 (Ev.bind a2 (Ev.bind g (ev_bindc rfl (ev_pos rfl (ev_bindc rfl (ev_pos rfl (ev_bindc rfl (ev_pos rfl (ev_cst rfl)))))))))
theorem within_some (x : Int) : ∃ r, beaconlaw0_Within.f x 4 = some r ∧ 0 ≤ r ∧ r ≤ 3 := by
  have e : ∀ n : Int, IntKind.u64.wrap n = n % 18446744073709551616 := fun n => by simp [IntKind.wrap, IntKind.bits, IntKind.signed]
  unfold beaconlaw0_Within.f
  rw [e, e, if_neg (by decide), show (4 : Int) % 18446744073709551616 = 4 from rfl]
  refine ⟨_, rfl, ?_⟩
  rw [tmod_pos (by omega), wrap_in (by omega) (by omega)]
  omega
theorem round_l1 (o : List Int) (h : Line o) : ∀ (d : Nat) (i : Int), 0 ≤ i → i + d = o.length → Ev (fun k => beaconlaw21_TokenRound.l1 k o i (hd (o.drop i.toNat)) (o.drop i.toNat).tail) true := by
  have hl := h.len
  intro d
  induction d with
  | zero =>
    intro i h0 h1
    refine Ev.step (fun k => by rw [beaconlaw21_TokenRound.l1]) ?_
    rw [List.drop_eq_nil_of_le (by omega)]
    exact ev_neg (by omega) (ev_pos rfl (ev_pos rfl (Ev.bind wakes_ev (ev_cst rfl))))
  | succ d ih =>
    intro i h0 h1
    have hi : i.toNat < o.length := by omega
    have er : rd o i = o[i.toNat] := by
      unfold rd
      rw [List.getD_eq_getElem?_getD, List.getElem?_eq_getElem hi]
      rfl
    have hd1 : o.drop i.toNat = rd o i :: o.drop (i + 1).toNat := by rw [er, List.drop_eq_getElem_cons hi, show (i + 1).toNat = i.toNat + 1 by omega]
    have hline : Line (rd o i :: o.drop (i + 1).toNat) := by
      rw [← hd1]
      exact ⟨h.1.sublist (List.drop_sublist _ _), fun x hx => h.2 x (List.mem_of_mem_drop hx)⟩
    refine Ev.step (fun k => by rw [beaconlaw21_TokenRound.l1]) ?_
    rw [hd1]
    refine ev_pos (by omega) (ev_pos h0 (ev_pos rfl ?_))
    refine Ev.step (fun k => by rw [beaconlaw21_TokenRound.j3]) ?_
    refine ev_neg ?_ (ev_pos h0 (ev_pos (by omega) (Ev.bind (give_ev _ _ hline) (ev_bindc rfl (ev_pos rfl ?_)))))
    · simp only [List.tail_cons, List.length_drop]
      rw [wrap_in (x := (o.length : Int) - i) (by omega) (by omega), wrap_in (by omega) (by omega)]
      simp
      omega
    · have := ih (i + 1) (by omega) (by omega)
      rw [← wrap_in (x := i + 1) (by omega) (by omega)] at this
      rw [wrap_in (x := i + 1) (by omega) (by omega)] at this ⊢
      exact this
theorem round_l0 (a : Int) (b l : List Int) : ∀ (d : Nat) (o : List Int) (i : Int), 0 ≤ i → i + d = l.length → Line o → Ev (fun k => beaconlaw21_TokenRound.l0 k o i a b l (hd o) o.tail) true := by
  intro d
  induction d with
  | zero =>
    intro o i h0 h1 h
    refine Ev.step (fun k => by rw [beaconlaw21_TokenRound.l0]) ?_
    refine ev_neg (by omega) ?_
    refine Ev.step (fun k => by rw [beaconlaw21_TokenRound.j1]) ?_
    exact ev_neg (by decide) (round_l1 o h o.length 0 (by omega) (by omega))
  | succ d ih =>
    intro o i h0 h1 h
    have hlen := h.len
    refine Ev.step (fun k => by rw [beaconlaw21_TokenRound.l0]) ?_
    refine ev_pos (by omega) ?_
    refine Ev.step (fun k => by rw [beaconlaw21_TokenRound.j1]) ?_
    by_cases h16 : i < 16
    · refine ev_pos (by simpa using h16) (ev_pos h0 (ev_pos (by omega) ?_))
      obtain ⟨r, hr, hr0, hr3⟩ := within_some (rd l i)
      have hw : 1 ≤ 1 + r ∧ 1 + r ≤ 4 := by omega
      refine ev_bindc hr ?_
      rw [wrap_in (x := 1 + r) (by omega) (by omega), wrap_in (x := i + 1) (by omega) (by omega)]
      refine Ev.bind (ask_ev o (1 + r) h hw) (ev_bindc rfl (ev_pos rfl ?_))
      obtain ⟨q, hq, hqx⟩ := in_l0 o (1 + r) (by omega) o.length 0 (by omega) (by omega)
      refine Ev.bind (f := fun k t => _) hq ?_
      have hgo := ih (asked o (1 + r)) (i + 1) (by omega) (by omega) (asked_line h hw)
      by_cases hin : (1 + r) ∈ o
      · have ea : asked o (1 + r) = o := by simp [asked, hin]
        rw [ea] at hgo ⊢
        exact ev_neg (by rw [hqx]; simpa using hin) hgo
      · have ea : asked o (1 + r) = o ++ [1 + r] := by simp [asked, hin]
        rw [ea] at hgo ⊢
        exact ev_pos (by rw [hqx]; simpa using hin) (ev_pos (by omega) hgo)
    · exact ev_neg (by simpa using h16) (round_l1 o h o.length 0 (by omega) (by omega))
end Tok
theorem TokenRound : beaconlaw21_TokenRound.Pure := by
  intro x _
  refine Ev.rounds ?_
  unfold beaconlaw21_TokenRound.f
  exact Tok.round_l0 x.f0.f0 x.f0.f1 x.f1 x.f1.length [] 0 (by omega) (by omega) ⟨List.nodup_nil, fun x hx => by cases hx⟩
end Go.Proofs.Ytadjhnlbpgknfaa.Pure
