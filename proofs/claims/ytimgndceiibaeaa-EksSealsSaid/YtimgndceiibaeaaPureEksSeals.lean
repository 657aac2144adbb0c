/- EksSeals: whatever the arguments, the plain walk answers yes. -/
import Derived.Test.YtimgndceiibaeaaStEksSeals
import Derived.Test.YtimgndceiibaeaaEks2
import Derived.Test.YtimgndceiibaeaaPallx9
namespace Go.Proofs.Ytimgndceiibaeaa.Pure
open Go.RowKit Go.Proofs.Ytimgndceiibaeaa.Pall Go.Proofs.YtimgndceiibaeaaW.PrintWords Go.Proofs.YtimgndceiibaeaaW.PrintLast Go.Proofs.Ytimgndceiibaeaa.Lib Go.Proofs.Ytimgndceiibaeaa.Bf1 Go.Proofs.Ytimgndceiibaeaa.Bf2 Go.Proofs.Ytimgndceiibaeaa.Eks2

theorem wf_u32 {x : Int} (h : (Lit.int .u32 x).wf = true) : 0 ≤ x ∧ x < 4294967296 := by
  simp [Lit.wf, IntKind.min, IntKind.max, IntKind.signed, IntKind.bits] at h
  omega
theorem ciN_mem {l : List Int} (h : ∀ x ∈ l, 0 ≤ x ∧ x < 4294967296) : ∀ x ∈ ciN l, x < 4294967296 := by
  intro x hx
  unfold ciN at hx
  obtain ⟨y, hy, rfl⟩ := List.mem_map.mp hx
  have := h y hy
  omega
theorem EksSeals : St.EksSeals_Pure := by
  intro key m l _ _ hl
  have hu : ∀ x ∈ l, 0 ≤ x ∧ x < 4294967296 := fun x hx => wf_u32 (hl.1 x hx)
  clear hl
  refine To.ends ?_
  simp only [pestlelaw11_EksSeals.f]
  refine To.ite (fun _ => To.ret _) (fun hk => ?_)
  obtain ⟨k0, hk0⟩ := pi_to
  suffices h : To (fun k => if 40 < l.length then some true else (if m < 0 ∨ 1024 < m then some true else (if l.length % 2 ≠ 0 then some true else pestlelaw11_EksSeals.good k key m.toNat l))) true by
    obtain ⟨k1, hk1⟩ := h
    refine ⟨max k0 k1, fun k hk => ?_⟩
    exact (if_pos (hk0 k (by omega))).trans (hk1 k (by omega))
  refine To.ite (fun _ => To.ret _) (fun h40 => To.ite (fun _ => To.ret _) (fun ht => To.ite (fun _ => To.ret _) (fun ho => ?_)))
  simp only [pestlelaw11_EksSeals.good]
  have hok : ciOk (ciTs key) := ciExpand_pi ciE key
  have hx : To (fun k => pestleref10_Expand.f k (ciI ciPi) ⟨#[]⟩ key) (ciI (ciTs key)) := expand_to ciPi_ok ⟨#[]⟩ key (by decide) (by omega)
  have hs := seal_to hok m.toNat (by omega) (ciN l) (by unfold ciN; rw [List.length_map]; omega) (by unfold ciN; rw [List.length_map]; omega) (ciN_mem hu)
  rw [← ciN_is hu] at hs
  have hlen : (ciN l).length = l.length := List.length_map _
  rw [hlen] at hs
  exact To.bind plain_to (To.bind hx (To.bind hs (To.pos ⟨hu, rfl⟩ (To.ret _))))
end Go.Proofs.Ytimgndceiibaeaa.Pure
