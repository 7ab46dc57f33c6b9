-- Laid by a program of this session (wip/tools/xrow.py).
import Derived.Test.YtadjhnlbpgknfaaP20
import Derived.Test.YtadjhnlbpgknfaaPOpen
namespace Go.Proofs.Ytadjhnlbpgknfaa.P
open Go.RowKit Go.Proofs.Ytadjhnlbpgknfaa.P Go.Proofs.YtadjhnlbpgknfaaW.PrintWords Go.Proofs.YtadjhnlbpgknfaaW.PrintLast Go.Proofs.Ytadjhnlbpgknfaa.Rd
def beaconlaw15_KeyTexts.Pure : Prop := ∀ x : S94, G94 x → ∃ k, beaconlaw15_KeyTexts.f k x.f0 x.f1 x.f2 = some true
end Go.Proofs.Ytadjhnlbpgknfaa.P
