-- Laid by a program of this session (wip/tools/xrow.py).
import Derived.Test.YtadjhnlbpgknfaaP9
import Derived.Test.YtadjhnlbpgknfaaPOpen
namespace Go.Proofs.Ytadjhnlbpgknfaa.P
open Go.RowKit Go.Proofs.Ytadjhnlbpgknfaa.P Go.Proofs.YtadjhnlbpgknfaaW.PrintWords Go.Proofs.YtadjhnlbpgknfaaW.PrintLast Go.Proofs.Ytadjhnlbpgknfaa.Rd
def beaconlaw21_TokenRound.Pure : Prop := ∀ x : S45, G45 x → ∃ k, beaconlaw21_TokenRound.f k x.f0.f0 x.f0.f1 x.f1 = some true
end Go.Proofs.Ytadjhnlbpgknfaa.P
