-- Laid by a program of this session (wip/tools/xrow.py).
import Derived.Test.YtadjhnlbpgknfaaP6
import Derived.Test.YtadjhnlbpgknfaaPOpen
namespace Go.Proofs.Ytadjhnlbpgknfaa.P
open Go.RowKit Go.Proofs.Ytadjhnlbpgknfaa.P Go.Proofs.YtadjhnlbpgknfaaW.PrintWords Go.Proofs.YtadjhnlbpgknfaaW.PrintLast Go.Proofs.Ytadjhnlbpgknfaa.Rd
def beaconlaw17_PackNumbers.Pure : Prop := ∀ x : S29, G29 x → ∃ k, beaconlaw17_PackNumbers.f k x.f0.f0 x.f0.f1 x.f1 x.f2 = some true
end Go.Proofs.Ytadjhnlbpgknfaa.P
