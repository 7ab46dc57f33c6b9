-- Laid by a program of this session (wip/tools/xrow.py).
import Derived.Test.YtadjhnlbpgknfaaY0
import Derived.Test.YtadjhnlbpgknfaaRd
import Derived.KernelRfl
namespace Go.Proofs.Ytadjhnlbpgknfaa.Y
open Go.RowKit Go.Proofs.Ytadjhnlbpgknfaa.Y Go.Proofs.YtadjhnlbpgknfaaW.PrintWords Go.Proofs.YtadjhnlbpgknfaaW.PrintLast Go.Proofs.Ytadjhnlbpgknfaa.Rd
def G75 (x : S75) : Prop := ((Lit.int .i64 x.f0).wf = true) ∧ ((Lit.int .i64 x.f1).wf = true) ∧ ((Lit.int .i64 x.f2).wf = true)
theorem open75 : Opens Try.prog k75 75 G75 :=
  opens_struct (G' := G75) (g := fun p => (⟨p.1, p.2.1, p.2.2⟩ : S75)) (fun _ => rfl) Try.underlying75 (by kernel_rfl) (opensF_pair rfl (by kernel_rfl) (opens_int Try.underlying3) (opensF_pair rfl (by kernel_rfl) (opens_int Try.underlying3) (opensF_one rfl (by kernel_rfl) (opens_int Try.underlying3)))) (fun _ h => by unfold G75; exact h)
def G73 (x : S73) : Prop := (x.f0.length * 24 ≤ 140737488351232 ∧ x.f0.length ≤ maxLen ∧ ∀ y ∈ x.f0, G75 y) ∧ (x.f1.length * 24 ≤ 140737488351232 ∧ x.f1.length ≤ maxLen ∧ ∀ y ∈ x.f1, G75 y)
theorem open73 : Opens Try.prog k73 73 G73 :=
  opens_struct (G' := G73) (g := fun p => (⟨p.1, p.2⟩ : S73)) (fun _ => rfl) Try.underlying73 (by kernel_rfl) (opensF_pair rfl (by kernel_rfl) (opens_slice 24 Try.underlying71 (by kernel_rfl) (by kernel_rfl) open75) (opensF_one rfl (by kernel_rfl) (opens_slice 24 Try.underlying71 (by kernel_rfl) (by kernel_rfl) open75))) (fun _ h => by unfold G73; exact h)
end Go.Proofs.Ytadjhnlbpgknfaa.Y
