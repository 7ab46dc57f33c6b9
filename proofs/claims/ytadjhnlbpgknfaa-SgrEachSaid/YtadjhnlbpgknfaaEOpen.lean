-- Laid by a program of this session (wip/tools/xrow.py).
import Derived.Test.YtadjhnlbpgknfaaE0
import Derived.Test.YtadjhnlbpgknfaaRd
import Derived.KernelRfl
namespace Go.Proofs.Ytadjhnlbpgknfaa.E
open Go.RowKit Go.Proofs.Ytadjhnlbpgknfaa.E Go.Proofs.YtadjhnlbpgknfaaW.PrintWords Go.Proofs.YtadjhnlbpgknfaaW.PrintLast Go.Proofs.Ytadjhnlbpgknfaa.Rd
def G56 (x : S56) : Prop := ((Lit.int .i64 x.f0).wf = true) ∧ ((Lit.int .i64 x.f1).wf = true) ∧ ((Lit.int .i64 x.f2).wf = true)
theorem open56 : Opens Try.prog k56 56 G56 :=
  opens_struct (G' := G56) (g := fun p => (⟨p.1, p.2.1, p.2.2⟩ : S56)) (fun _ => rfl) Try.underlying56 (by kernel_rfl) (opensF_pair rfl (by kernel_rfl) (opens_int Try.underlying3) (opensF_pair rfl (by kernel_rfl) (opens_int Try.underlying3) (opensF_one rfl (by kernel_rfl) (opens_int Try.underlying3)))) (fun _ h => by unfold G56; exact h)
def G54 (x : S54) : Prop := (x.f0.length * 24 ≤ 140737488351232 ∧ x.f0.length ≤ maxLen ∧ ∀ y ∈ x.f0, G56 y) ∧ (x.f1.length * 24 ≤ 140737488351232 ∧ x.f1.length ≤ maxLen ∧ ∀ y ∈ x.f1, y.length * 8 ≤ 140737488351232 ∧ y.length ≤ maxLen ∧ ∀ yy ∈ y, (Lit.int .i64 yy).wf = true)
theorem open54 : Opens Try.prog k54 54 G54 :=
  opens_struct (G' := G54) (g := fun p => (⟨p.1, p.2⟩ : S54)) (fun _ => rfl) Try.underlying54 (by kernel_rfl) (opensF_pair rfl (by kernel_rfl) (opens_slice 24 Try.underlying51 (by kernel_rfl) (by kernel_rfl) open56) (opensF_one rfl (by kernel_rfl) (opens_slice 24 Try.underlying52 (by kernel_rfl) (by kernel_rfl) (opens_slice 8 Try.underlying26 (by kernel_rfl) (by kernel_rfl) (opens_int Try.underlying3))))) (fun _ h => by unfold G54; exact h)
end Go.Proofs.Ytadjhnlbpgknfaa.E
