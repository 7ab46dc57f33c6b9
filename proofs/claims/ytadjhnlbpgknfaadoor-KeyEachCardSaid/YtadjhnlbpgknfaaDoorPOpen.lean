-- Laid by a program of this session (wip/tools/xrow.py).
import Derived.Test.YtadjhnlbpgknfaaDoorP0
import Derived.Test.YtadjhnlbpgknfaaDoorRd
import Derived.KernelRfl
namespace Go.Proofs.YtadjhnlbpgknfaaDoor.P
open Go.RowKit Go.Proofs.YtadjhnlbpgknfaaDoor.P Go.Proofs.YtadjhnlbpgknfaaDoorW.PrintWords Go.Proofs.YtadjhnlbpgknfaaDoorW.PrintLast Go.Proofs.YtadjhnlbpgknfaaDoor.Rd
def G32 (x : S32) : Prop := ((Lit.int .i64 x.f0).wf = true) ∧ ((Lit.int .i64 x.f1).wf = true) ∧ ((Lit.int .i64 x.f2).wf = true)
theorem open32 : Opens Tryd.prog k32 32 G32 :=
  opens_struct (G' := G32) (g := fun p => (⟨p.1, p.2.1, p.2.2⟩ : S32)) (fun _ => rfl) Tryd.underlying32 (by kernel_rfl) (opensF_pair rfl (by kernel_rfl) (opens_int Tryd.underlying3) (opensF_pair rfl (by kernel_rfl) (opens_int Tryd.underlying3) (opensF_one rfl (by kernel_rfl) (opens_int Tryd.underlying3)))) (fun _ h => by unfold G32; exact h)
def G25 (x : S25) : Prop := (x.f0.length * 24 ≤ 140737488351232 ∧ x.f0.length ≤ maxLen ∧ ∀ y ∈ x.f0, G32 y) ∧ ((Lit.int .i64 x.f1).wf = true) ∧ (x.f2.length * 16 ≤ 140737488351232 ∧ x.f2.length ≤ maxLen ∧ ∀ y ∈ x.f2, y.size ≤ 140737488351232)
theorem open25 : Opens Tryd.prog k25 25 G25 :=
  opens_struct (G' := G25) (g := fun p => (⟨p.1, p.2.1, p.2.2⟩ : S25)) (fun _ => rfl) Tryd.underlying25 (by kernel_rfl) (opensF_pair rfl (by kernel_rfl) (opens_slice 24 Tryd.underlying22 (by kernel_rfl) (by kernel_rfl) open32) (opensF_pair rfl (by kernel_rfl) (opens_int Tryd.underlying3) (opensF_one rfl (by kernel_rfl) (opens_slice 16 Tryd.underlying23 (by kernel_rfl) (by kernel_rfl) (opens_string Tryd.underlying9))))) (fun _ h => by unfold G25; exact h)
end Go.Proofs.YtadjhnlbpgknfaaDoor.P
