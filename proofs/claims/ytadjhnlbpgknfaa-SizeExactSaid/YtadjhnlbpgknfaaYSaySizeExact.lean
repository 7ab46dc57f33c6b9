-- Laid by a program of this session (wip/tools/xrow.py).
import Derived.Test.YtadjhnlbpgknfaaY6
import Derived.Test.YtadjhnlbpgknfaaYOpen
namespace Go.Proofs.Ytadjhnlbpgknfaa.Y
open Go.RowKit Go.Proofs.Ytadjhnlbpgknfaa.Y Go.Proofs.YtadjhnlbpgknfaaW.PrintWords Go.Proofs.YtadjhnlbpgknfaaW.PrintLast Go.Proofs.Ytadjhnlbpgknfaa.Rd
def beaconlaw22_SizeExact.Pure : Prop := ∀ x : S73, G73 x → ∃ k, beaconlaw22_SizeExact.f k x.f0 x.f1 = some true
end Go.Proofs.Ytadjhnlbpgknfaa.Y
