/- chapter 26's example, part 1 -/
import Derived.Test.YtimgndceiibaeaaBcChkA
namespace Go.Proofs.Ytimgndceiibaeaa.BcChk
open Go.RowKit Go.Proofs.Ytimgndceiibaeaa.Pall Go.Proofs.YtimgndceiibaeaaW.PrintWords Go.Proofs.YtimgndceiibaeaaW.PrintLast
set_option maxRecDepth 100000 in
theorem bx_1 : blExpand ciT0 bxK bxS = bxT0 := by decide +kernel
set_option maxRecDepth 100000 in
theorem bx_2 : blRun bxK bxKS 8 bxT0 = bxT1 := by decide +kernel
end Go.Proofs.Ytimgndceiibaeaa.BcChk
