-- Laid by a program of this session (wip/tools/xrow.py).
import Derived.Test.YtadjhnlbpgknfaaP18
import Derived.Test.YtadjhnlbpgknfaaPOpen
namespace Go.Proofs.Ytadjhnlbpgknfaa.P
open Go.RowKit Go.Proofs.Ytadjhnlbpgknfaa.P Go.Proofs.YtadjhnlbpgknfaaW.PrintWords Go.Proofs.YtadjhnlbpgknfaaW.PrintLast Go.Proofs.Ytadjhnlbpgknfaa.Rd
def beaconlaw4_SgrBack.Pure : Prop := ∀ x : S54, G54 x → ∃ k, beaconlaw4_SgrBack.f k x.f0 x.f1 = some true
end Go.Proofs.Ytadjhnlbpgknfaa.P
