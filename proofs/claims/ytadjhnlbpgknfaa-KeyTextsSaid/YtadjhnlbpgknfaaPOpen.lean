-- Laid by a program of this session (wip/tools/xrow.py).
import Derived.Test.YtadjhnlbpgknfaaP0
import Derived.Test.YtadjhnlbpgknfaaRd
import Derived.KernelRfl
namespace Go.Proofs.Ytadjhnlbpgknfaa.P
open Go.RowKit Go.Proofs.Ytadjhnlbpgknfaa.P Go.Proofs.YtadjhnlbpgknfaaW.PrintWords Go.Proofs.YtadjhnlbpgknfaaW.PrintLast Go.Proofs.Ytadjhnlbpgknfaa.Rd
def G56 (x : S56) : Prop := ((Lit.int .i64 x.f0).wf = true) ∧ ((Lit.int .i64 x.f1).wf = true) ∧ ((Lit.int .i64 x.f2).wf = true)
theorem open56 : Opens Try.prog k56 56 G56 :=
  opens_struct (G' := G56) (g := fun p => (⟨p.1, p.2.1, p.2.2⟩ : S56)) (fun _ => rfl) Try.underlying56 (by kernel_rfl) (opensF_pair rfl (by kernel_rfl) (opens_int Try.underlying3) (opensF_pair rfl (by kernel_rfl) (opens_int Try.underlying3) (opensF_one rfl (by kernel_rfl) (opens_int Try.underlying3)))) (fun _ h => by unfold G56; exact h)
def G175 (x : S175) : Prop := ((Lit.int .i64 x.f0).wf = true) ∧ (x.f1.size ≤ 140737488351232) ∧ ((Lit.int .i64 x.f2).wf = true) ∧ (G56 x.f3)
theorem open175 : Opens Try.prog k175 175 G175 :=
  opens_struct (G' := G175) (g := fun p => (⟨p.1, p.2.1, p.2.2.1, p.2.2.2⟩ : S175)) (fun _ => rfl) Try.underlying175 (by kernel_rfl) (opensF_pair rfl (by kernel_rfl) (opens_int Try.underlying3) (opensF_pair rfl (by kernel_rfl) (opens_string Try.underlying9) (opensF_pair rfl (by kernel_rfl) (opens_int Try.underlying3) (opensF_one rfl (by kernel_rfl) open56)))) (fun _ h => by unfold G175; exact h)
def G135 (x : S135) : Prop := ((Lit.int .i64 x.f0).wf = true) ∧ ((Lit.int .i64 x.f1).wf = true) ∧ (x.f2.length * 56 ≤ 140737488351232 ∧ x.f2.length ≤ maxLen ∧ ∀ y ∈ x.f2, G175 y)
theorem open135 : Opens Try.prog k135 135 G135 :=
  opens_struct (G' := G135) (g := fun p => (⟨p.1, p.2.1, p.2.2⟩ : S135)) (fun _ => rfl) Try.underlying135 (by kernel_rfl) (opensF_pair rfl (by kernel_rfl) (opens_int Try.underlying3) (opensF_pair rfl (by kernel_rfl) (opens_int Try.underlying3) (opensF_one rfl (by kernel_rfl) (opens_slice 56 Try.underlying133 (by kernel_rfl) (by kernel_rfl) open175)))) (fun _ h => by unfold G135; exact h)
def G137 (x : S137) : Prop := (G135 x.f0) ∧ ((Lit.int .i64 x.f1).wf = true) ∧ ((Lit.int .i64 x.f2).wf = true) ∧ ((Lit.int .i64 x.f3).wf = true) ∧ (x.f4.size ≤ 140737488351232)
theorem open137 : Opens Try.prog k137 137 G137 :=
  opens_struct (G' := G137) (g := fun p => (⟨p.1, p.2.1, p.2.2.1, p.2.2.2.1, p.2.2.2.2⟩ : S137)) (fun _ => rfl) Try.underlying137 (by kernel_rfl) (opensF_pair rfl (by kernel_rfl) open135 (opensF_pair rfl (by kernel_rfl) (opens_int Try.underlying3) (opensF_pair rfl (by kernel_rfl) (opens_int Try.underlying3) (opensF_pair rfl (by kernel_rfl) (opens_int Try.underlying3) (opensF_one rfl (by kernel_rfl) (opens_string Try.underlying9)))))) (fun _ h => by unfold G137; exact h)
def G140 (x : S140) : Prop := ((Lit.int .i64 x.f0).wf = true) ∧ ((Lit.int .i64 x.f1).wf = true) ∧ (True) ∧ (x.f3.length * 8 ≤ 140737488351232 ∧ x.f3.length ≤ maxLen ∧ ∀ y ∈ x.f3, (Lit.int .i64 y).wf = true) ∧ (x.f4.length * 56 ≤ 140737488351232 ∧ x.f4.length ≤ maxLen ∧ ∀ y ∈ x.f4, G175 y) ∧ ((Lit.int .i64 x.f5).wf = true) ∧ ((Lit.int .i64 x.f6).wf = true) ∧ ((Lit.int .i64 x.f7).wf = true) ∧ (x.f8.size ≤ 140737488351232)
theorem open140 : Opens Try.prog k140 140 G140 :=
  opens_struct (G' := G140) (g := fun p => (⟨p.1, p.2.1, p.2.2.1, p.2.2.2.1, p.2.2.2.2.1, p.2.2.2.2.2.1, p.2.2.2.2.2.2.1, p.2.2.2.2.2.2.2.1, p.2.2.2.2.2.2.2.2⟩ : S140)) (fun _ => rfl) Try.underlying140 (by kernel_rfl) (opensF_pair rfl (by kernel_rfl) (opens_int Try.underlying3) (opensF_pair rfl (by kernel_rfl) (opens_int Try.underlying3) (opensF_pair rfl (by kernel_rfl) (opens_bool Try.underlying4) (opensF_pair rfl (by kernel_rfl) (opens_slice 8 Try.underlying26 (by kernel_rfl) (by kernel_rfl) (opens_int Try.underlying3)) (opensF_pair rfl (by kernel_rfl) (opens_slice 56 Try.underlying133 (by kernel_rfl) (by kernel_rfl) open175) (opensF_pair rfl (by kernel_rfl) (opens_int Try.underlying3) (opensF_pair rfl (by kernel_rfl) (opens_int Try.underlying3) (opensF_pair rfl (by kernel_rfl) (opens_int Try.underlying3) (opensF_one rfl (by kernel_rfl) (opens_string Try.underlying9)))))))))) (fun _ h => by unfold G140; exact h)
def G25 (x : S25) : Prop := (x.f0.length * 80 ≤ 140737488351232 ∧ x.f0.length ≤ maxLen ∧ ∀ y ∈ x.f0, G137 y) ∧ (x.f1.length * 112 ≤ 140737488351232 ∧ x.f1.length ≤ maxLen ∧ ∀ y ∈ x.f1, G140 y)
theorem open25 : Opens Try.prog k25 25 G25 :=
  opens_struct (G' := G25) (g := fun p => (⟨p.1, p.2⟩ : S25)) (fun _ => rfl) Try.underlying25 (by kernel_rfl) (opensF_pair rfl (by kernel_rfl) (opens_slice 80 Try.underlying22 (by kernel_rfl) (by kernel_rfl) open137) (opensF_one rfl (by kernel_rfl) (opens_slice 112 Try.underlying23 (by kernel_rfl) (by kernel_rfl) open140))) (fun _ h => by unfold G25; exact h)
def G29 (x : S29) : Prop := (G25 x.f0) ∧ (x.f1.length * 8 ≤ 140737488351232 ∧ x.f1.length ≤ maxLen ∧ ∀ y ∈ x.f1, (Lit.int .i64 y).wf = true) ∧ (x.f2.length * 16 ≤ 140737488351232 ∧ x.f2.length ≤ maxLen ∧ ∀ y ∈ x.f2, y.size ≤ 140737488351232)
theorem open29 : Opens Try.prog k29 29 G29 :=
  opens_struct (G' := G29) (g := fun p => (⟨p.1, p.2.1, p.2.2⟩ : S29)) (fun _ => rfl) Try.underlying29 (by kernel_rfl) (opensF_pair rfl (by kernel_rfl) open25 (opensF_pair rfl (by kernel_rfl) (opens_slice 8 Try.underlying26 (by kernel_rfl) (by kernel_rfl) (opens_int Try.underlying3)) (opensF_one rfl (by kernel_rfl) (opens_slice 16 Try.underlying27 (by kernel_rfl) (by kernel_rfl) (opens_string Try.underlying9))))) (fun _ h => by unfold G29; exact h)
def G43 (x : S43) : Prop := ((Lit.int .i64 x.f0).wf = true) ∧ (x.f1.length * 8 ≤ 140737488351232 ∧ x.f1.length ≤ maxLen ∧ ∀ y ∈ x.f1, (Lit.int .i64 y).wf = true)
theorem open43 : Opens Try.prog k43 43 G43 :=
  opens_struct (G' := G43) (g := fun p => (⟨p.1, p.2⟩ : S43)) (fun _ => rfl) Try.underlying43 (by kernel_rfl) (opensF_pair rfl (by kernel_rfl) (opens_int Try.underlying3) (opensF_one rfl (by kernel_rfl) (opens_slice 8 Try.underlying26 (by kernel_rfl) (by kernel_rfl) (opens_int Try.underlying3)))) (fun _ h => by unfold G43; exact h)
def G45 (x : S45) : Prop := (G43 x.f0) ∧ (x.f1.length * 8 ≤ 140737488351232 ∧ x.f1.length ≤ maxLen ∧ ∀ y ∈ x.f1, (Lit.int .i64 y).wf = true)
theorem open45 : Opens Try.prog k45 45 G45 :=
  opens_struct (G' := G45) (g := fun p => (⟨p.1, p.2⟩ : S45)) (fun _ => rfl) Try.underlying45 (by kernel_rfl) (opensF_pair rfl (by kernel_rfl) open43 (opensF_one rfl (by kernel_rfl) (opens_slice 8 Try.underlying26 (by kernel_rfl) (by kernel_rfl) (opens_int Try.underlying3)))) (fun _ h => by unfold G45; exact h)
def G130 (x : S130) : Prop := ((Lit.int .i64 x.f0).wf = true) ∧ ((Lit.int .i64 x.f1).wf = true) ∧ ((Lit.int .i64 x.f2).wf = true)
theorem open130 : Opens Try.prog k130 130 G130 :=
  opens_struct (G' := G130) (g := fun p => (⟨p.1, p.2.1, p.2.2⟩ : S130)) (fun _ => rfl) Try.underlying130 (by kernel_rfl) (opensF_pair rfl (by kernel_rfl) (opens_int Try.underlying3) (opensF_pair rfl (by kernel_rfl) (opens_int Try.underlying3) (opensF_one rfl (by kernel_rfl) (opens_int Try.underlying3)))) (fun _ h => by unfold G130; exact h)
def G94 (x : S94) : Prop := (x.f0.length * 24 ≤ 140737488351232 ∧ x.f0.length ≤ maxLen ∧ ∀ y ∈ x.f0, G130 y) ∧ ((Lit.int .i64 x.f1).wf = true) ∧ (x.f2.length * 16 ≤ 140737488351232 ∧ x.f2.length ≤ maxLen ∧ ∀ y ∈ x.f2, y.size ≤ 140737488351232)
theorem open94 : Opens Try.prog k94 94 G94 :=
  opens_struct (G' := G94) (g := fun p => (⟨p.1, p.2.1, p.2.2⟩ : S94)) (fun _ => rfl) Try.underlying94 (by kernel_rfl) (opensF_pair rfl (by kernel_rfl) (opens_slice 24 Try.underlying92 (by kernel_rfl) (by kernel_rfl) open130) (opensF_pair rfl (by kernel_rfl) (opens_int Try.underlying3) (opensF_one rfl (by kernel_rfl) (opens_slice 16 Try.underlying27 (by kernel_rfl) (by kernel_rfl) (opens_string Try.underlying9))))) (fun _ h => by unfold G94; exact h)
end Go.Proofs.Ytadjhnlbpgknfaa.P
