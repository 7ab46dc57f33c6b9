-- Laid by a program of this session (wip/tools/xrow.py).
import Derived.Test.YtadjhnlbpgknfaaZ3
import Derived.Test.YtadjhnlbpgknfaaZOpen
namespace Go.Proofs.Ytadjhnlbpgknfaa.Z
open Go.RowKit Go.Proofs.Ytadjhnlbpgknfaa.Z Go.Proofs.YtadjhnlbpgknfaaW.PrintWords Go.Proofs.YtadjhnlbpgknfaaW.PrintLast Go.Proofs.Ytadjhnlbpgknfaa.Rd
def beaconlaw22_SizeLeast.Pure : Prop := ∀ x : S73, G73 x → ∃ k, beaconlaw22_SizeLeast.f k x.f0 x.f1 = some true
end Go.Proofs.Ytadjhnlbpgknfaa.Z
