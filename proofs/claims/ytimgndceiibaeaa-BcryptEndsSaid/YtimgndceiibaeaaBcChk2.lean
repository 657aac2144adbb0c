/- chapter 26's example, part 2 -/
import Derived.Test.YtimgndceiibaeaaBcChkA
namespace Go.Proofs.Ytimgndceiibaeaa.BcChk
open Go.RowKit Go.Proofs.Ytimgndceiibaeaa.Pall Go.Proofs.YtimgndceiibaeaaW.PrintWords Go.Proofs.YtimgndceiibaeaaW.PrintLast
set_option maxRecDepth 100000 in
theorem bx_3 : blRun bxK bxKS 8 bxT1 = bxT2 := by decide +kernel
end Go.Proofs.Ytimgndceiibaeaa.BcChk
