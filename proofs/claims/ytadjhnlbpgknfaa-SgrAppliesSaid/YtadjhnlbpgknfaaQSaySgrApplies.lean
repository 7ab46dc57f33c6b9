-- Laid by a program of this session (wip/tools/xrow.py).
import Derived.Test.YtadjhnlbpgknfaaQ8
import Derived.Test.YtadjhnlbpgknfaaQOpen
namespace Go.Proofs.Ytadjhnlbpgknfaa.Q
open Go.RowKit Go.Proofs.Ytadjhnlbpgknfaa.Q Go.Proofs.YtadjhnlbpgknfaaW.PrintWords Go.Proofs.YtadjhnlbpgknfaaW.PrintLast Go.Proofs.Ytadjhnlbpgknfaa.Rd
def beaconlaw4_SgrApplies.Pure : Prop := ∀ x : S54, G54 x → ∃ k, beaconlaw4_SgrApplies.f k x.f0 x.f1 = some true
end Go.Proofs.Ytadjhnlbpgknfaa.Q
