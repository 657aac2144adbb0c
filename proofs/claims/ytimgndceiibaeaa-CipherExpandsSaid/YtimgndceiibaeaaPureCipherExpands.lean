/- CipherExpands: whatever the arguments, the plain walk answers yes. -/
import Derived.Test.YtimgndceiibaeaaStCipherExpands
import Derived.Test.YtimgndceiibaeaaBf2
import Derived.Test.YtimgndceiibaeaaBf3
import Derived.Test.YtimgndceiibaeaaPallx8
namespace Go.Proofs.Ytimgndceiibaeaa.Pure
open Go.RowKit Go.Proofs.Ytimgndceiibaeaa.Pall Go.Proofs.YtimgndceiibaeaaW.PrintWords Go.Proofs.YtimgndceiibaeaaW.PrintLast Go.Proofs.Ytimgndceiibaeaa.Lib Go.Proofs.Ytimgndceiibaeaa.Bf1 Go.Proofs.Ytimgndceiibaeaa.Bf2 Go.Proofs.Ytimgndceiibaeaa.Bf3

theorem wf_u32 {x : Int} (h : (Lit.int .u32 x).wf = true) : 0 ≤ x ∧ x < 4294967296 := by
  simp [Lit.wf, IntKind.min, IntKind.max, IntKind.signed, IntKind.bits] at h
  omega
theorem CipherExpands : St.CipherExpands_Pure := by
  intro salt key a b _ _ ha hb
  refine To.ends ?_
  simp only [pestlelaw10_CipherExpands.f]
  refine To.bind awake10_to (To.ite (fun _ => To.ret _) (fun h => ?_))
  have h1 := wf_u32 ha
  have h2 := wf_u32 hb
  obtain ⟨l, rfl⟩ : ∃ n : Nat, a = n := ⟨a.toNat, by omega⟩
  obtain ⟨r, rfl⟩ : ∃ n : Nat, b = n := ⟨b.toNat, by omega⟩
  refine To.pos ⟨h1, h2⟩ ?_
  rw [Int.toNat_natCast, Int.toNat_natCast]
  simp only [pestlelaw10_CipherExpands.good]
  have ho1 : ciOk (ciT1 salt key) := ciExpand_pi salt key
  have ho2 : ciOk (ciT2 salt key) := ciExpand_ok ho1 (ciWord_lt key) (ciWord_lt salt)
  have hx1 : To (fun k => pestleref10_Expand.f k (ciI ciPi) salt key) (ciI (ciT1 salt key)) := expand_to ciPi_ok salt key (by omega) (by omega)
  have hx2 : To (fun k => pestleref10_Expand.f k (ciI (ciT1 salt key)) key salt) (ciI (ciT2 salt key)) := expand_to ho1 key salt (by omega) (by omega)
  exact To.bind plain_to (To.bind (sum_to ciPi_ok) (To.bind hx1 (To.bind hx2 (To.bind (enc_to ho2 l r (by omega) (by omega)) (To.bind (sum_to ho2) (To.pos ⟨rfl, rfl, rfl⟩ (To.ret _)))))))
end Go.Proofs.Ytimgndceiibaeaa.Pure
