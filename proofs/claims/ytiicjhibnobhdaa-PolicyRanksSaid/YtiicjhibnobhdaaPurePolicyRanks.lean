/- PolicyRanks: whatever the arguments, the plain walk answers yes. -/
import Derived.Test.YtiicjhibnobhdaaStPolicyRanks
import Derived.Test.YtiicjhibnobhdaaPol1
import Derived.Test.YtiicjhibnobhdaaPol2
import Derived.Test.YtiicjhibnobhdaaPallx4
namespace Go.Proofs.Ytiicjhibnobhdaa.Pure
open Go.RowKit Go.Proofs.Ytiicjhibnobhdaa.Pall Go.Proofs.YtiicjhibnobhdaaW.PrintWords Go.Proofs.YtiicjhibnobhdaaW.PrintLast Go.Proofs.Ytiicjhibnobhdaa.Lib Go.Proofs.Ytiicjhibnobhdaa.Pol1 Go.Proofs.Ytiicjhibnobhdaa.Pol2

theorem ranks (p : PV) : To (fun k => pestlelaw46_PolicyRanks.fp k p) true := by
  simp only [pestlelaw46_PolicyRanks.fp]
  exact To.bind awake46 (To.pos (all_ok p) (To.ret _))
theorem PolicyRanks : St.PolicyRanks_Pure := by
  intro y0 _
  exact To.ends (ranks _)
end Go.Proofs.Ytiicjhibnobhdaa.Pure
