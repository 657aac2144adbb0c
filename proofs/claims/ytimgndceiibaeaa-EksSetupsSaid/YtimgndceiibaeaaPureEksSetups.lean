/- EksSetups: whatever the arguments, the plain walk answers yes. -/
import Derived.Test.YtimgndceiibaeaaStEksSetups
import Derived.Test.YtimgndceiibaeaaEks1
import Derived.Test.YtimgndceiibaeaaPallx8
namespace Go.Proofs.Ytimgndceiibaeaa.Pure
open Go.RowKit Go.Proofs.Ytimgndceiibaeaa.Pall Go.Proofs.YtimgndceiibaeaaW.PrintWords Go.Proofs.YtimgndceiibaeaaW.PrintLast Go.Proofs.Ytimgndceiibaeaa.Lib Go.Proofs.Ytimgndceiibaeaa.Bf1 Go.Proofs.Ytimgndceiibaeaa.Bf2 Go.Proofs.Ytimgndceiibaeaa.Bf3 Go.Proofs.Ytimgndceiibaeaa.Eks1

theorem wf_u32 {x : Int} (h : (Lit.int .u32 x).wf = true) : 0 ≤ x ∧ x < 4294967296 := by
  simp [Lit.wf, IntKind.min, IntKind.max, IntKind.signed, IntKind.bits] at h
  omega
/-- more rounds tell the same of pi's words -/
theorem pi_at : ∃ k0, ∀ k, k0 ≤ k → pi_Words.f k 0 1042 = some (ciI ciPi, 0) := pi_to
theorem EksSetups : St.EksSetups_Pure := by
  intro cost salt key a b _ _ _ ha hb
  refine To.ends ?_
  simp only [pestlelaw11_EksSetups.f]
  refine To.ite (fun h => To.pos (rounds_out h) (To.ret _)) (fun h => To.ite (fun _ => To.ret _) (fun h2 => To.ite (fun h3 => ?_) (fun _ => To.ret _)))
  have h1 := wf_u32 ha
  have h4 := wf_u32 hb
  obtain ⟨l, rfl⟩ : ∃ n : Nat, a = n := ⟨a.toNat, by omega⟩
  obtain ⟨r, rfl⟩ : ∃ n : Nat, b = n := ⟨b.toNat, by omega⟩
  refine To.pos ⟨h1, h4⟩ ?_
  rw [Int.toNat_natCast, Int.toNat_natCast]
  simp only [pestlelaw11_EksSetups.good]
  unfold pestlelaw11_EksSetups.bad at h2
  have ho : ciOk (ciT11 salt key) := ciSet_ok salt key 16 _ (ciExpand_pi salt key)
  have hx : To (fun k => pestleref11_Setup.f k (ciI ciPi) 16 salt key) (ciI (ciT11 salt key)) := set_to salt key (by omega) (by omega) 16 (by omega) ciPi_ok
  refine To.bind plain_to (To.bind hx (To.bind (enc_to ho l r (by omega) (by omega)) (To.bind (sum_to ho) ?_)))
  obtain ⟨k0, hk0⟩ := pi_at
  refine ⟨k0, fun k hk => if_pos ⟨hk0 k hk, rfl, rfl⟩⟩
end Go.Proofs.Ytimgndceiibaeaa.Pure
