/- chapter 26's example, part 3 -/
import Derived.Test.YtimgndceiibaeaaBcChkA
namespace Go.Proofs.Ytimgndceiibaeaa.BcChk
open Go.RowKit Go.Proofs.Ytimgndceiibaeaa.Pall Go.Proofs.YtimgndceiibaeaaW.PrintWords Go.Proofs.YtimgndceiibaeaaW.PrintLast
set_option maxRecDepth 100000 in
theorem bx_4 : blRun bxK bxKS 8 bxT2 = bxT3 := by decide +kernel
end Go.Proofs.Ytimgndceiibaeaa.BcChk
