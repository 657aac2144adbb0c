/- CipherKeys: whatever the arguments, the plain walk answers yes. -/
import Derived.Test.YtimgndceiibaeaaStCipherKeys
import Derived.Test.YtimgndceiibaeaaBf2
import Derived.Test.YtimgndceiibaeaaBf3
import Derived.Test.YtimgndceiibaeaaPallx8
namespace Go.Proofs.Ytimgndceiibaeaa.Pure
open Go.RowKit Go.Proofs.Ytimgndceiibaeaa.Pall Go.Proofs.YtimgndceiibaeaaW.PrintWords Go.Proofs.YtimgndceiibaeaaW.PrintLast Go.Proofs.Ytimgndceiibaeaa.Lib Go.Proofs.Ytimgndceiibaeaa.Bf1 Go.Proofs.Ytimgndceiibaeaa.Bf2 Go.Proofs.Ytimgndceiibaeaa.Bf3

theorem wf_u32 {x : Int} (h : (Lit.int .u32 x).wf = true) : 0 ≤ x ∧ x < 4294967296 := by
  simp [Lit.wf, IntKind.min, IntKind.max, IntKind.signed, IntKind.bits] at h
  omega
theorem CipherKeys : St.CipherKeys_Pure := by
  intro key a b _ ha hb
  refine To.ends ?_
  simp only [pestlelaw10_CipherKeys.f]
  refine To.bind awake10_to (To.ite (fun _ => To.ret _) (fun h => ?_))
  have h1 := wf_u32 ha
  have h2 := wf_u32 hb
  obtain ⟨l, rfl⟩ : ∃ n : Nat, a = n := ⟨a.toNat, by omega⟩
  obtain ⟨r, rfl⟩ : ∃ n : Nat, b = n := ⟨b.toNat, by omega⟩
  refine To.pos ⟨h1, h2⟩ ?_
  rw [Int.toNat_natCast, Int.toNat_natCast]
  simp only [pestlelaw10_CipherKeys.good]
  have ho := ciExpand_pi ciE key
  have hx := expand_to ciPi_ok ciE key (by decide) (by omega)
  exact To.bind plain_to (To.bind hx (To.bind (enc_to ho l r (by omega) (by omega)) (To.bind (dec_to ho l r (by omega) (by omega)) (To.bind (sum_to ho) (To.pos ⟨rfl, rfl, rfl⟩ (To.ret _))))))
end Go.Proofs.Ytimgndceiibaeaa.Pure
