/- chapter 26's example, part 4 -/
import Derived.Test.YtimgndceiibaeaaBcChkA
namespace Go.Proofs.Ytimgndceiibaeaa.BcChk
open Go.RowKit Go.Proofs.Ytimgndceiibaeaa.Pall Go.Proofs.YtimgndceiibaeaaW.PrintWords Go.Proofs.YtimgndceiibaeaaW.PrintLast
set_option maxRecDepth 100000 in
theorem bx_5 : blRun bxK bxKS 8 bxT3 = bxT4 := by decide +kernel
set_option maxRecDepth 100000 in
theorem bx_6 : blMany bxT4 64 (1332899944 * 4294967296 + 1700884034) = 464949571 * 4294967296 + 4188590852 := by decide +kernel
set_option maxRecDepth 100000 in
theorem bx_7 : blMany bxT4 64 (1701343084 * 4294967296 + 1684370003) = 3369221529 * 4294967296 + 2869205623 := by decide +kernel
set_option maxRecDepth 100000 in
theorem bx_8 : blMany bxT4 64 (1668446532 * 4294967296 + 1869963892) = 2794335436 * 4294967296 + 1950484155 := by decide +kernel
end Go.Proofs.Ytimgndceiibaeaa.BcChk
