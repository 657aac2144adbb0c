/- PolicyTells: whatever the arguments, the plain walk answers yes. -/
import Derived.Test.YtiicjhibnobhdaaStPolicyTells
import Derived.Test.YtiicjhibnobhdaaPol1
import Derived.Test.YtiicjhibnobhdaaPallx7
namespace Go.Proofs.Ytiicjhibnobhdaa.Pure
open Go.RowKit Go.Proofs.Ytiicjhibnobhdaa.Pall Go.Proofs.YtiicjhibnobhdaaW.PrintWords Go.Proofs.YtiicjhibnobhdaaW.PrintLast Go.Proofs.Ytiicjhibnobhdaa.Lib Go.Proofs.Ytiicjhibnobhdaa.Need1 Go.Proofs.Ytiicjhibnobhdaa.Pol1

theorem tells (p : PV) (q : QV) : To (fun k => pestlelaw46_PolicyTells.fp k p q) true := by
  simp only [pestlelaw46_PolicyTells.fp]
  refine To.bind awake46 (To.bind (ref_chk_to p) ?_)
  by_cases h : chkS p = 0
  · by_cases hq : parQ q = 0
    · have rq : To (fun k => pestleref44_Params.f k q.a0 q.a1 q.a2 q.a3 q.a4) (parQ q) := ref_params_to _ _ _ _ _
      exact To.bind (beh_to h hq) (To.bind (chk_to p) (To.pos rfl (To.pos h (To.bind rq (To.pos hq (To.bind0 (ref_beh_is h hq) (To.pos rfl (To.ret _))))))))
    · have rq : To (fun k => pestleref44_Params.f k q.a0 q.a1 q.a2 q.a3 q.a4) (parQ q) := ref_params_to _ _ _ _ _
      exact To.bind (beh_no2 h hq) (To.bind (chk_to p) (To.pos rfl (To.pos h (To.bind rq (To.neg hq (To.pos rfl (To.ret _)))))))
  · exact To.bind (beh_no h) (To.bind (chk_to p) (To.pos rfl (To.neg h (To.pos rfl (To.ret _)))))
theorem PolicyTells : St.PolicyTells_Pure := by
  intro y0 y1 _ _
  exact To.ends (tells _ _)
end Go.Proofs.Ytiicjhibnobhdaa.Pure
