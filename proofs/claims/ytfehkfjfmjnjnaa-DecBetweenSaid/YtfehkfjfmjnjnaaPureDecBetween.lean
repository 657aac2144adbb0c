/- For every text and all bounds: the number is read if it lies from one to the other, and else it is told why not.
   Conditions: the bounds are 64-bit integers, the text one that Go can hold in memory (as the row says); nothing else. -/
import Derived.Test.YtfehkfjfmjnjnaaDec3
import Derived.Test.YtfehkfjfmjnjnaaPallx6
namespace Go.Proofs.Ytfehkfjfmjnjnaa.Pure
open Go.RowKit Go.Proofs.Ytfehkfjfmjnjnaa.Pall Go.Proofs.YtfehkfjfmjnjnaaW.PrintWords Go.Proofs.YtfehkfjfmjnjnaaW.PrintLast Go.Proofs.Ytfehkfjfmjnjnaa.Lib Go.Proofs.Ytfehkfjfmjnjnaa.Byt Go.Proofs.Ytfehkfjfmjnjnaa.Dec1 Go.Proofs.Ytfehkfjfmjnjnaa.Dec2 Go.Proofs.Ytfehkfjfmjnjnaa.Dec3

def betweenS (s : ByteArray) (a b : Int) : Int × Int := if (readS s).2 = 0 then (if (readS s).1 < a then (0, 2) else if (readS s).1 > b then (0, 2) else ((readS s).1, 0)) else (0, (readS s).2)
theorem between_to (s : ByteArray) (a b : Int) (hs : s.size ≤ 1000000000) : To (fun k => dec_Between.f k s a b) (betweenS s a b) := by
  unfold betweenS
  simp only [dec_Between.f]
  refine To.bind (read_to s hs) ?_
  by_cases h : (readS s).2 = 0
  · refine To.pos h ?_
    rw [if_pos h]
    by_cases h1 : (readS s).1 < a
    · refine To.pos h1 ?_
      rw [if_pos h1]; exact To.ret _
    · refine To.neg h1 ?_
      rw [if_neg h1]
      by_cases h2 : (readS s).1 > b
      · refine To.pos h2 ?_
        rw [if_pos h2]; exact To.ret _
      · refine To.neg h2 ?_
        rw [if_neg h2]; exact To.ret _
  · refine To.neg h ?_
    rw [if_neg h]; exact To.ret _
theorem DecBetween : pestlelaw18_DecBetween.Pure := by
  intro s a b _ _ _
  refine To.ends ?_
  simp only [pestlelaw18_DecBetween.f]
  refine To.bind awake_to (To.pos rfl (To.ite (fun _ => To.ret _) (fun h => ?_)))
  refine To.bind (between_to s a b (by omega)) (To.bind (ref_read_to s (by omega)) ?_)
  unfold betweenS
  by_cases h0 : (readS s).2 = 0
  · refine To.pos h0 ?_
    rw [if_pos h0]
    by_cases h1 : (readS s).1 < a
    · refine To.pos h1 ?_
      rw [if_pos h1]; exact To.pos rfl (To.ret _)
    · refine To.neg h1 ?_
      rw [if_neg h1]
      by_cases h2 : (readS s).1 > b
      · refine To.pos h2 ?_
        rw [if_pos h2]; exact To.pos rfl (To.ret _)
      · refine To.neg h2 ?_
        rw [if_neg h2]; exact To.pos rfl (To.ret _)
  · refine To.neg h0 ?_
    rw [if_neg h0]; exact To.pos rfl (To.ret' (by simp))
end Go.Proofs.Ytfehkfjfmjnjnaa.Pure
