/- CipherBack: whatever the arguments, the plain walk answers yes. -/
import Derived.Test.YtimgndceiibaeaaStCipherBack
import Derived.Test.YtimgndceiibaeaaBf1
import Derived.Test.YtimgndceiibaeaaPallx8
namespace Go.Proofs.Ytimgndceiibaeaa.Pure
open Go.RowKit Go.Proofs.Ytimgndceiibaeaa.Pall Go.Proofs.YtimgndceiibaeaaW.PrintWords Go.Proofs.YtimgndceiibaeaaW.PrintLast Go.Proofs.Ytimgndceiibaeaa.Lib Go.Proofs.Ytimgndceiibaeaa.Bf1

theorem wf_u32 {x : Int} (h : (Lit.int .u32 x).wf = true) : 0 ≤ x ∧ x < 4294967296 := by
  simp [Lit.wf, IntKind.min, IntKind.max, IntKind.signed, IntKind.bits] at h
  omega
theorem CipherBack : St.CipherBack_Pure := by
  intro salt key a b _ _ ha hb
  refine To.ends ?_
  simp only [pestlelaw10_CipherBack.f]
  refine To.bind awake10_to (To.ite (fun _ => To.ret _) (fun h => ?_))
  exact To.pos ⟨wf_u32 ha, wf_u32 hb⟩ (To.ret _)
end Go.Proofs.Ytimgndceiibaeaa.Pure
