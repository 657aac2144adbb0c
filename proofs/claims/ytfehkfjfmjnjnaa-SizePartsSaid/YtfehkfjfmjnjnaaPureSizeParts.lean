/- For every number and every unit: rounding up and down to units, and to blocks, answers what the document's reference answers.
   Conditions: the two arguments are 64-bit integers, as Go has them; nothing else. -/
import Derived.Test.YtfehkfjfmjnjnaaSize1
import Derived.Test.YtfehkfjfmjnjnaaPallx2
namespace Go.Proofs.Ytfehkfjfmjnjnaa.Pure
open Go.RowKit Go.Proofs.Ytfehkfjfmjnjnaa.Pall Go.Proofs.YtfehkfjfmjnjnaaW.PrintWords Go.Proofs.YtfehkfjfmjnjnaaW.PrintLast Go.Proofs.Ytfehkfjfmjnjnaa.Lib Go.Proofs.Ytfehkfjfmjnjnaa.Size1

theorem SizeParts : pestlelaw02_SizeParts.Pure := by
  intro n u _ _
  refine To.ends ?_
  simp only [pestlelaw02_SizeParts.f]
  refine To.bind awake_to (To.pos rfl (To.bind (up_to n u) (To.bind (ref_up_to n u) (To.bind0 (down_is n u) (To.bind0 (ref_down_is n u) (To.pos rfl (To.pos rfl (To.pos rfl (To.step ?_)))))))))
  simp only [pestlelaw02_SizeParts.j0]
  refine To.neg (by simp) ?_
  refine To.bind (a := upS n 1024) ?_ (To.bind (ref_up_to n 1024) (To.pos rfl (To.ret' (by simp))))
  simp only [size_Blocks.f]
  exact To.bind (up_to n 1024) (To.ret _)
end Go.Proofs.Ytfehkfjfmjnjnaa.Pure
