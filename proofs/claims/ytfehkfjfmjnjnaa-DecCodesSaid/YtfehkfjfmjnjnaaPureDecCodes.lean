/- For every number its digits are the reference's, and every text is read as the reference reads it.
   Conditions: the number is a 64-bit integer, the text one that Go can hold in memory (as the row says); nothing else. -/
import Derived.Test.YtfehkfjfmjnjnaaDec2
import Derived.Test.YtfehkfjfmjnjnaaPallx7
namespace Go.Proofs.Ytfehkfjfmjnjnaa.Pure
open Go.RowKit Go.Proofs.Ytfehkfjfmjnjnaa.Pall Go.Proofs.YtfehkfjfmjnjnaaW.PrintWords Go.Proofs.YtfehkfjfmjnjnaaW.PrintLast Go.Proofs.Ytfehkfjfmjnjnaa.Lib Go.Proofs.Ytfehkfjfmjnjnaa.Byt Go.Proofs.Ytfehkfjfmjnjnaa.Dec1 Go.Proofs.Ytfehkfjfmjnjnaa.Dec2

theorem DecCodes : pestlelaw18_DecCodes.Pure := by
  intro n s hn _
  have hw := wf_i64 hn
  refine To.ends ?_
  simp only [pestlelaw18_DecCodes.f]
  refine To.bind awake_to (To.pos rfl (To.ite (fun _ => To.ret _) (fun h => ?_)))
  exact To.bind (read_to s (by omega)) (To.bind (ref_read_to s (by omega)) (To.bind (text_to n hw.2) (To.bind (ref_text_to n hw.2) (To.pos rfl (To.pos rfl (To.ret' (by simp)))))))
end Go.Proofs.Ytfehkfjfmjnjnaa.Pure
