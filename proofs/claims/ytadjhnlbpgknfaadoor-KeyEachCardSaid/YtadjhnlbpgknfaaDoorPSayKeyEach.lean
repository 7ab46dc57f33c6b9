-- Laid by a program of this session (wip/tools/xrow.py).
import Derived.Test.YtadjhnlbpgknfaaDoorP5
import Derived.Test.YtadjhnlbpgknfaaDoorPOpen
namespace Go.Proofs.YtadjhnlbpgknfaaDoor.P
open Go.RowKit Go.Proofs.YtadjhnlbpgknfaaDoor.P Go.Proofs.YtadjhnlbpgknfaaDoorW.PrintWords Go.Proofs.YtadjhnlbpgknfaaDoorW.PrintLast Go.Proofs.YtadjhnlbpgknfaaDoor.Rd
def beaconlaw15_KeyEach.Pure : Prop := ∀ x : S25, G25 x → ∃ k, beaconlaw15_KeyEach.f k x.f0 x.f1 x.f2 = some true
end Go.Proofs.YtadjhnlbpgknfaaDoor.P
