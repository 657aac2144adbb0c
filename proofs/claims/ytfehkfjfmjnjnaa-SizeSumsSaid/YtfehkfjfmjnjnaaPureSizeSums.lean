/- For every list of numbers: sum and product, or why there is none, are what the document's reference answers.
   Conditions: the list is one that Go can hold in memory (as the row says); nothing else. -/
import Derived.Test.YtfehkfjfmjnjnaaSize2
import Derived.Test.YtfehkfjfmjnjnaaPallx4
namespace Go.Proofs.Ytfehkfjfmjnjnaa.Pure
open Go.RowKit Go.Proofs.Ytfehkfjfmjnjnaa.Pall Go.Proofs.YtfehkfjfmjnjnaaW.PrintWords Go.Proofs.YtfehkfjfmjnjnaaW.PrintLast Go.Proofs.Ytfehkfjfmjnjnaa.Lib Go.Proofs.Ytfehkfjfmjnjnaa.Size1 Go.Proofs.Ytfehkfjfmjnjnaa.Size2

theorem SizeSums : pestlelaw02_SizeSums.Pure := by
  intro l _ _ _
  refine To.ends ?_
  simp only [pestlelaw02_SizeSums.f]
  refine To.bind awake_to (To.pos rfl (To.ite (fun _ => To.ret _) (fun h => ?_)))
  have hl : l.length ≤ 1000000000 := by omega
  exact To.bind (add_to l hl) (To.bind (ref_add_to l hl) (To.bind (mul_to l hl) (To.bind (ref_mul_to l hl) (To.pos rfl (To.pos rfl (To.pos rfl (To.ret' (by simp))))))))
end Go.Proofs.Ytfehkfjfmjnjnaa.Pure
