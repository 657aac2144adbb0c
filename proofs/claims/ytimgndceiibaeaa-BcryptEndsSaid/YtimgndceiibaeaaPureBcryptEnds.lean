/- BcryptEnds: whatever the arguments, the plain walk answers yes. -/
import Derived.Test.YtimgndceiibaeaaStBcryptEnds
import Derived.Test.YtimgndceiibaeaaBf1
import Derived.Test.YtimgndceiibaeaaBcChk
import Derived.Test.YtimgndceiibaeaaPallx10
namespace Go.Proofs.Ytimgndceiibaeaa.Pure
open Go.RowKit Go.Proofs.Ytimgndceiibaeaa.Pall Go.Proofs.YtimgndceiibaeaaW.PrintWords Go.Proofs.YtimgndceiibaeaaW.PrintLast Go.Proofs.Ytimgndceiibaeaa.Lib Go.Proofs.Ytimgndceiibaeaa.Bf1 Go.Proofs.Ytimgndceiibaeaa.BcChk

theorem awake26 : To (fun k => pestlelaw26_awake.f k) true := by
  obtain ⟨k0, h0⟩ := pi_to
  obtain ⟨k1, h1⟩ : To (fun k => sextet_Coder_Decode.f k sxCrypt (⟨#[67, 67, 67, 67, 67, 67, 67, 67, 67, 67, 67, 67, 67, 67, 67, 67, 67, 67, 67, 67, 67, 46]⟩ : ByteArray)) (bxSalt, 0) := To.up (sextet_Coder_Decode.mono _ _) (k := 60) (by decide +kernel)
  obtain ⟨k2, h2⟩ : To (fun k => sextet_Coder_Encode.f k sxCrypt [bxSum]) (⟨#[69, 53, 89, 80, 79, 57, 107, 109, 121, 117, 82, 71, 121, 104, 48, 88, 111, 117, 81, 89, 98, 52, 89, 77, 74, 75, 118, 121, 79, 101, 87]⟩ : ByteArray) := To.up (sextet_Coder_Encode.mono _ _) (k := 200) (by decide +kernel)
  refine ⟨max k0 (max k1 k2), fun k hk => ?_⟩
  refine if_pos ⟨h0 k (by omega), h1 k (by omega), ?_⟩
  rw [bx_out]
  exact h2 k (by omega)
theorem BcryptEnds : St.BcryptEnds_Pure := by
  intro salt word _ _
  refine To.ends ?_
  simp only [pestlelaw26_BcryptEnds.f]
  exact To.bind awake26 (To.ite (fun _ => To.ret _) (fun _ => To.ite (fun _ => To.ret _) (fun _ => To.ret _)))
end Go.Proofs.Ytimgndceiibaeaa.Pure
