-- Laid by a program of this session (wip/tools/xrow.py).
import Derived.Test.YtadjhnlbpgknfaaE7
import Derived.Test.YtadjhnlbpgknfaaEOpen
namespace Go.Proofs.Ytadjhnlbpgknfaa.E
open Go.RowKit Go.Proofs.Ytadjhnlbpgknfaa.E Go.Proofs.YtadjhnlbpgknfaaW.PrintWords Go.Proofs.YtadjhnlbpgknfaaW.PrintLast Go.Proofs.Ytadjhnlbpgknfaa.Rd
def beaconlaw4_SgrEach.Pure : Prop := ∀ x : S54, G54 x → ∃ k, beaconlaw4_SgrEach.f k x.f0 x.f1 = some true
end Go.Proofs.Ytadjhnlbpgknfaa.E
