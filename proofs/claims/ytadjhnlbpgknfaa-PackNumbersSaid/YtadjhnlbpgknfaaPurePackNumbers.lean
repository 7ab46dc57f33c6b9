/- PackNumbers, the plain side: whatever is handed in, each number's bytes are the page's, and each text's number, or the error is. -/
import Derived.Test.YtadjhnlbpgknfaaPSayPackNumbers
import Derived.Test.YtadjhnlbpgknfaaNum
import Derived.Test.YtadjhnlbpgknfaaHvTexts
import Derived.Test.YtadjhnlbpgknfaaHvPatch
namespace Go.Proofs.Ytadjhnlbpgknfaa.Pure
open Go.RowKit Go.Proofs.Ytadjhnlbpgknfaa.P Go.Proofs.YtadjhnlbpgknfaaW.PrintWords Go.Proofs.YtadjhnlbpgknfaaW.PrintLast Go.Proofs.YtadjhnlbpgknfaaW.PrintMore Go.Proofs.Ytadjhnlbpgknfaa.Pz

theorem wakes_ev : Ev (fun k => beaconlaw17_wakes.f k) true := by
  refine Ev.bind (f := fun k bt => _) (number_ev 300 (by omega)) ?_
  refine ev_cst ?_
  decide +kernel

theorem num_l1 (xs : List ByteArray) (hl : xs.length < 8796093022208) : ∀ (d : Nat) (i : Int), 0 ≤ i → i + d = xs.length → Ev (fun k => beaconlaw17_PackNumbers.l1 k xs i) true := by
  intro d
  induction d with
  | zero =>
    intro i h0 h1
    refine Ev.step (fun k => by rw [beaconlaw17_PackNumbers.l1]) ?_
    exact ev_neg (by omega) (Ev.bind wakes_ev (ev_cst rfl))
  | succ d ih =>
    intro i h0 h1
    refine Ev.step (fun k => by rw [beaconlaw17_PackNumbers.l1]) ?_
    refine ev_pos (by omega) (ev_pos h0 ?_)
    have hgo := ih (i + 1) (by omega) (by omega)
    rw [← wrap_in (x := i + 1) (by omega) (by omega)] at hgo
    obtain ⟨r, hr, hok⟩ := readerNumber_ev (rdOf ByteArray.empty xs i) false
    have ht := takeNumber_ev (rdOf ByteArray.empty xs i)
    have href : Ev (fun k => beaconref16_TakeNumber.f k (rdOf ByteArray.empty xs i)) (if r.2.2 = true then (0, ⟨#[]⟩, false) else (r.1, r.2.1, true)) := by
      refine Ev.bind hr ?_
      by_cases hb : r.2.2 = true
      · exact ev_pos hb (ev_cst (by rw [if_pos hb]))
      · exact ev_neg hb (ev_cst (by rw [if_neg hb]))
    refine Ev.bind ht (Ev.bind href (ev_bindc rfl ?_))
    cases hk : take5 (rdOf ByteArray.empty xs i) with
    | none =>
      rw [hk] at hok
      have hb : r.2.2 = true := hok
      rw [if_pos hb]
      refine ev_neg (by decide) (ev_neg (by decide) (ev_bindc rfl (ev_pos rfl (ev_pos rfl (ev_pos rfl hgo)))))
    | some y =>
      obtain ⟨n, rest⟩ := y
      rw [hk] at hok
      obtain rfl : r = (n, rest, false) := hok
      exact ev_neg (by simp [tkp]) (ev_pos rfl (ev_pos rfl (ev_pos rfl hgo)))

theorem num_l0 (ns : List Int) (hn : ∀ y ∈ ns, (Lit.int .i64 y).wf = true) (hln : ns.length ≤ 600) : ∀ (d : Nat) (xs : List ByteArray) (i : Int), 0 ≤ i → i + d = ns.length → xs.length + 3 * d ≤ 10000 → Ev (fun k => beaconlaw17_PackNumbers.l0 k ns xs i) true := by
  intro d
  induction d with
  | zero =>
    intro xs i h0 h1 h2
    refine Ev.step (fun k => by rw [beaconlaw17_PackNumbers.l0]) ?_
    exact ev_neg (by omega) (num_l1 xs (by omega) xs.length 0 (by omega) (by omega))
  | succ d ih =>
    intro xs i h0 h1 h2
    have hw := wf_i64 (hn _ (rd_mem h0 (show i < (ns.length : Int) by omega)))
    have hgo : ∀ ys : List ByteArray, ys.length ≤ xs.length + 3 → Ev (fun k => beaconlaw17_PackNumbers.l0 k ns ys (wrap64 (i + 1))) true := fun ys hy => by
      rw [wrap_in (by omega) (by omega)]
      exact ih ys (i + 1) (by omega) (by omega) (by omega)
    refine Ev.step (fun k => by rw [beaconlaw17_PackNumbers.l0]) ?_
    refine ev_pos (by omega) (ev_pos h0 (Ev.bind (number_ev (rd ns i) hw.2) ?_))
    by_cases hin : 0 ≤ rd ns i ∧ rd ns i < 34359738368
    · rw [if_pos hin]
      refine ev_pos hin.1 (Ev.step (fun k => by rw [beaconlaw17_PackNumbers.j1]) ?_)
      have hsz := encd_len 8 (rd ns i)
      have hsz2 : (strOfNums (enc (rd ns i))).size = (encd 8 (rd ns i)).length := strOfNums_size _
      refine ev_pos (by simpa using hin.2) (ev_pos h0 (ev_pos (by omega) (Ev.bind (refNumber_ev (rd ns i) hin.1 hw.2) ?_)))
      refine ev_pos (by omega) ?_
      rw [wrap_in (by omega) (by omega)]
      refine ev_pos (by omega) (ev_pos (by omega) (ev_pos (by rw [ByteArray.size_extract]; omega) (ev_bindc rfl ?_)))
      refine ev_pos (by simp only [List.length_cons, List.length_nil]; omega) (ev_bindc rfl (ev_pos rfl (ev_pos rfl (hgo _ ?_))))
      simp
    · rw [if_neg hin]
      have hj : Ev (fun k => beaconlaw17_PackNumbers.j1 k ns xs i ⟨#[]⟩ 1 1 ⟨#[]⟩ false) true := by
        refine Ev.step (fun k => by rw [beaconlaw17_PackNumbers.j1]) ?_
        exact ev_neg (by decide) (ev_bindc rfl (ev_pos rfl (ev_pos rfl (hgo _ (by omega)))))
      by_cases hp : rd ns i ≥ 0
      · refine ev_pos hp ?_
        rw [show decide (rd ns i < 34359738368) = false from by simpa using (by omega : ¬ (rd ns i < 34359738368))]
        exact hj
      · exact ev_neg hp hj

theorem PackNumbers : beaconlaw17_PackNumbers.Pure := by
  intro x hg
  obtain ⟨⟨⟨hv1, _, hv2⟩, hp1, _, hp2⟩, ⟨_, _, hn2⟩, hs1, _, hs2⟩ := hg
  refine Ev.rounds ?_
  have hheavy : ∃ b : Bool, Ev (fun k => beaconlaw17_Heavy.f k x.f0.f0 x.f0.f1 x.f1 x.f2) b ∧ (b = false → x.f1.length ≤ 500 ∧ x.f2.length ≤ 3000) := by
    unfold beaconlaw17_Heavy.f
    by_cases h1 : (x.f1.length : Int) > 500
    · exact ⟨true, ev_pos h1 (ev_cst rfl), fun h => by cases h⟩
    · obtain ⟨r, hr, hle⟩ := texts_ev x.f2 hs2 hs1
      by_cases h2 : r > 3000
      · exact ⟨true, ev_neg h1 (Ev.bind hr (ev_pos h2 (ev_cst rfl))), fun h => by cases h⟩
      · obtain ⟨b, hb, _⟩ := heavy_ev x.f0.f0 x.f0.f1 hv2 hp2 hv1 hp1
        exact ⟨b, ev_neg h1 (Ev.bind hr (ev_neg h2 (Ev.bind hb (ev_cst rfl)))), fun _ => by omega⟩
  obtain ⟨b, hb, hle⟩ := hheavy
  unfold beaconlaw17_PackNumbers.f
  refine Ev.bind hb ?_
  cases b with
  | true => exact ev_pos rfl (ev_cst rfl)
  | false =>
    obtain ⟨h1, h2⟩ := hle rfl
    refine ev_neg (by decide) (ev_bindc rfl (ev_pos (by simp only [List.length_cons, List.length_nil]; omega) (Ev.bind (copyStrings_ev x.f2 (by omega)) ?_)))
    refine num_l0 _ (fun y hy => ?_) (by simp; omega) _ x.f2 0 (by omega) (Int.zero_add _) (by simp; omega)
    rcases List.mem_append.1 hy with hy | hy
    · clear hle h1 h2
      simp only [List.mem_cons, List.not_mem_nil, or_false] at hy
      rcases hy with rfl | rfl | rfl | rfl | rfl | rfl | rfl | rfl | rfl | rfl <;> decide
    · exact hn2 y hy
end Go.Proofs.Ytadjhnlbpgknfaa.Pure
