/- What a call is handed, opened kind by kind: a struct with slices of structs inside reads as a Lean value, its sizes within the reach. -/
import Derived.Test.YtadjhnlbpgknfaaWWords
import Derived.SizedLaws
import Derived.ChangeSlices
import Derived.Deep.Slices
import Derived.WideShapes
import Derived.KernelRfl
namespace Go.Proofs.Ytadjhnlbpgknfaa.Rd
open Go.Proofs.YtadjhnlbpgknfaaW.PrintWords Go.WideShapes Go.Deep

/-- Whatever reads as a value of type t is told by the kind d, and G holds of it. -/
def Opens (P : Program) {α : Type} (d : Kd α) (t : TypeId) (G : α → Prop) : Prop :=
  ∀ (H : Type) (enc : TypeId × Value → H) (W : World) (base : Nat) (spare : Nat → Bool) (held : Bool) (fuel : Nat) (cs : List Value) (D : DataW H) (ps : List MemPlace),
    DataW.trod enc P W base spare held fuel t cs = some (D, ps) → (∀ n ∈ DataW.weights P t D, n ≤ reachBytes) → ∃ x, d.K W x cs ∧ G x

theorem Opens.mono {P : Program} {α : Type} {d : Kd α} {t : TypeId} {G G' : α → Prop} (h : Opens P d t G) (hg : ∀ x, G x → G' x) : Opens P d t G' := by
  intro H enc W base spare held fuel cs D ps ht hw
  obtain ⟨x, hk, hx⟩ := h H enc W base spare held fuel cs D ps ht hw
  exact ⟨x, hk, hg x hx⟩

theorem opens_int {P : Program} {t : TypeId} {k : IntKind} (hu : P.underlying t = some (.int k)) : Opens P (Kd.int k) t (fun x => (Lit.int k x).wf = true) := by
  intro H enc W base spare held fuel cs D ps ht _
  obtain ⟨n, rfl, _, hw⟩ := DataW.trod_int hu ht
  exact ⟨n, rfl, hw⟩

theorem opens_bool {P : Program} {t : TypeId} (hu : P.underlying t = some .bool) : Opens P Kd.bool t (fun _ => True) := by
  intro H enc W base spare held fuel cs D ps ht _
  obtain ⟨n, rfl, _⟩ := DataW.trod_bool hu ht
  exact ⟨n, rfl, trivial⟩

theorem opens_string {P : Program} {t : TypeId} (hu : P.underlying t = some .string) : Opens P Kd.string t (fun s => s.size ≤ 140737488351232) := by
  intro H enc W base spare held fuel cs D ps ht hw
  obtain ⟨s, rfl, hx, _⟩ := DataW.trod_string hu ht
  obtain ⟨rfl, _⟩ := Prod.mk.inj hx
  refine ⟨s, rfl, ?_⟩
  have := hw s.data.toList.length (by simp [DataW.weights])
  simpa [reachBytes] using this

theorem weightsAll_mem {H : Type} {P : Program} {e : TypeId} {d : DataW H} : ∀ {ds : List (DataW H)}, d ∈ ds → ∀ n ∈ DataW.weights P e d, n ∈ DataW.weightsAll P e ds
  | d0 :: ds, h, n, hn => by
    simp only [DataW.weightsAll, List.mem_append]
    rcases List.mem_cons.1 h with rfl | h
    · exact .inl hn
    · exact .inr (weightsAll_mem h n hn)

theorem choose_list {α : Type} {q : Nat → α → Prop} : ∀ (n : Nat), (∀ i, i < n → ∃ x, q i x) → ∃ xs : List α, xs.length = n ∧ ∀ i x, xs[i]? = some x → q i x
  | 0, _ => ⟨[], rfl, fun i x h => by simp at h⟩
  | n + 1, h => by
    obtain ⟨xs, hl, hx⟩ := choose_list n (fun i hi => h i (by omega))
    obtain ⟨y, hy⟩ := h n (by omega)
    refine ⟨xs ++ [y], by simp [hl], fun i x hi => ?_⟩
    by_cases hlt : i < n
    · rw [List.getElem?_append_left (by omega)] at hi
      exact hx i x hi
    · rw [List.getElem?_append_right (by omega)] at hi
      have : i - xs.length = 0 := by
        by_cases h0 : i - xs.length = 0
        · exact h0
        · rw [List.getElem?_eq_none (by simp; omega)] at hi
          cases hi
      rw [this] at hi
      obtain rfl : y = x := by simpa using hi
      obtain rfl : i = n := by omega
      exact hy

theorem addr_add_add (a : Addr) (m n : Nat) : (a.add m).add n = a.add (m + n) := by
  unfold Addr.add
  by_cases hm : m = 0
  · subst hm
    simp
  · by_cases hn : n = 0
    · subst hn
      simp [hm]
    · simp [hm, hn, Nat.add_assoc]

theorem opens_slice {P : Program} {α : Type} {d : Kd α} {t e : TypeId} {G : α → Prop} (B : Nat) (hu : P.underlying t = some (.slice e)) (hc : P.cellsOf e = d.sz) (hB : P.bytesOf e = B) (h : Opens P d e G) :
    Opens P (Kd.slice e d) t (fun xs => xs.length * B ≤ 140737488351232 ∧ xs.length ≤ maxLen ∧ ∀ x ∈ xs, G x) := by
  intro H enc W base spare held fuel cs D ps ht hw
  rcases open_slice hu ht with ⟨rfl, hx⟩ | ⟨a, len, cap, m, n, Df, Pl, rfl, hb, hl, hm, hmm, hx, hel⟩
  · exact ⟨[], ⟨none, 0, rfl, Nat.le_refl _, by simp, by simp, fun hn => absurd hn (by simp)⟩, by simp, by simp, fun x hx => by simp at hx⟩
  · obtain ⟨rfl, _⟩ := Prod.mk.inj hx
    have hlm : len ≤ m := by rw [hmm]; split <;> omega
    have hmem : ∀ i, i < len → Df i ∈ (List.range len).map Df := fun i hi => List.mem_map.2 ⟨i, List.mem_range.2 hi, rfl⟩
    have hw1 : ∀ i, i < len → ∀ q ∈ DataW.weights P e (Df i), q ≤ reachBytes := fun i hi q hq => hw q (by
      simp only [DataW.weights, hu]
      exact List.mem_cons_of_mem _ (List.mem_append.2 (.inl (weightsAll_mem (hmem i hi) q hq))))
    have hw0 := hw _ (by simp only [DataW.weights, hu]; exact List.mem_cons_self)
    simp only [List.length_map, List.length_range, hB] at hw0
    obtain ⟨xs, hxl, hxs⟩ := choose_list (q := fun i x => (∃ c, c.length = d.sz ∧ d.K W x c ∧ ∀ j u, c[j]? = some u → W.cell? (a.add (i * d.sz + j)) = some u) ∧ G x) len (fun i hi => by
      obtain ⟨cs', h1, h2⟩ := hel i (by omega)
      obtain ⟨x, hk, hg⟩ := h H enc W base spare held n cs' (Df i) (Pl i) h2 (hw1 i hi)
      obtain ⟨_, hcl, hcell⟩ := World.cells?_some h1
      refine ⟨x, ⟨cs', by rw [hcl, hc], hk, fun j u hj => ?_⟩, hg⟩
      have hj2 : j < P.cellsOf e := by
        have := (List.getElem?_eq_some_iff.1 hj).1
        omega
      have := hcell j hj2
      rw [hj, hc] at this
      rw [← this]
      rw [addr_add_add])
    have hlen : len ≤ maxLen := by omega
    refine ⟨xs, ⟨some a, cap, by rw [hxl], by omega, rfl, by rw [hxl]; simpa [maxLen] using hlen, fun _ => ⟨a, rfl, fun j p hj => (hxs j p hj).1⟩⟩, ?_, by omega, fun x hx => ?_⟩
    · rw [hxl]
      refine Nat.le_trans (Nat.mul_le_mul_right _ ?_) (by simpa [reachBytes] using hw0)
      omega
    · obtain ⟨i, hi⟩ := List.mem_iff_getElem?.1 hx
      exact (hxs i x hi).2

/-- A struct's fields from one on: the kind d tells the cells from off on. -/
def OpensF (P : Program) {α : Type} (d : Kd α) (fs : List Field) (off : Nat) (G : α → Prop) : Prop :=
  ∀ (H : Type) (enc : TypeId × Value → H) (W : World) (base : Nat) (spare : Nat → Bool) (held : Bool) (fuel : Nat) (cs : List Value) (xs : List (DataW H × List MemPlace)),
    cs.length = off + d.sz → xs.length = fs.length → (∀ (i : Nat) (f : Field), fs[i]? = some f → DataW.trod enc P W base spare held fuel f.type ((cs.drop f.offset).take (P.cellsOf f.type)) = xs[i]?) →
    (∀ n ∈ DataW.weightsEach P (fs.map (·.type)) (xs.map (·.1)), n ≤ reachBytes) → ∃ x, d.K W x (cs.drop off) ∧ G x

theorem opensF_one {P : Program} {α : Type} {d : Kd α} {f : Field} {off : Nat} {G : α → Prop} (ho : f.offset = off) (hs : P.cellsOf f.type = d.sz) (h : Opens P d f.type G) : OpensF P d [f] off G := by
  intro H enc W base spare held fuel cs xs hl hx ht hw
  match xs, hx with
  | [y], _ =>
    have h0 := ht 0 f rfl
    rw [ho, hs, List.take_of_length_le (by simp; omega)] at h0
    exact h H enc W base spare held fuel _ y.1 y.2 h0 (fun n hn => hw n (by simpa [DataW.weightsEach] using hn))

theorem opensF_pair {P : Program} {α β : Type} {d : Kd α} {d' : Kd β} {f : Field} {fs : List Field} {off : Nat} {G : α → Prop} {G' : β → Prop} (ho : f.offset = off) (hs : P.cellsOf f.type = d.sz) (h : Opens P d f.type G) (h' : OpensF P d' fs (off + d.sz) G') :
    OpensF P (Kd.pair d d') (f :: fs) off (fun x => G x.1 ∧ G' x.2) := by
  intro H enc W base spare held fuel cs xs hl hx ht hw
  match xs, hx with
  | y :: ys, hx =>
    have h0 := ht 0 f rfl
    rw [ho, hs] at h0
    have hl' : cs.length = off + (d.sz + d'.sz) := hl
    obtain ⟨x, hk, hg⟩ := h H enc W base spare held fuel _ y.1 y.2 h0 (fun n hn => hw n (by simp only [List.map_cons, DataW.weightsEach]; exact List.mem_append.2 (.inl hn)))
    obtain ⟨x', hk', hg'⟩ := h' H enc W base spare held fuel cs ys (by omega) (by simpa using hx) (fun i g hi => ht (i + 1) g hi) (fun n hn => hw n (by simp only [List.map_cons, DataW.weightsEach]; exact List.mem_append.2 (.inr hn)))
    refine ⟨(x, x'), ⟨_, _, ?_, hk, hk'⟩, hg, hg'⟩
    rw [← List.drop_drop, List.take_append_drop]

theorem opens_struct {P : Program} {α β : Type} {d : Kd α} {t : TypeId} {fs : Array Field} {G : α → Prop} {f : β → α} {g : α → β} {G' : β → Prop} (hfg : ∀ x, f (g x) = x) (hu : P.underlying t = some (.struct fs)) (hc : P.cellsOf t = d.sz) (h : OpensF P d fs.toList 0 G) (hG : ∀ x, G x → G' (g x)) :
    Opens P (Kd.iso d f) t G' := by
  intro H enc W base spare held fuel cs D ps ht hw
  obtain ⟨xs, n, _, hx, hl, hxl, hel⟩ := DataW.trod_struct hu ht
  obtain ⟨rfl, _⟩ := Prod.mk.inj hx
  obtain ⟨x, hk, hg⟩ := h H enc W base spare held n cs xs (by omega) (by simpa using hxl) (fun i f hi => hel i f (by simpa using hi)) (fun q hq => hw q (by simp only [DataW.weights, hu]; exact hq))
  refine ⟨g x, ?_, hG x hg⟩
  show d.K W (f (g x)) cs
  rw [hfg]
  exact hk
end Go.Proofs.Ytadjhnlbpgknfaa.Rd
