/- Crypt64Back: whatever the arguments, the plain walk answers yes. -/
import Derived.Test.YtakhikhdbigdaaaStCrypt64Back
import Derived.Test.YtakhikhdbigdaaaC64a
import Derived.Test.YtakhikhdbigdaaaPallx8
import Derived.Test.YtakhikhdbigdaaaPallx3
namespace Go.Proofs.Ytakhikhdbigdaaa.Pure
open Go.RowKit Go.Proofs.Ytakhikhdbigdaaa.Pall Go.Proofs.YtakhikhdbigdaaaW.PrintWords Go.Proofs.YtakhikhdbigdaaaW.PrintLast Go.Proofs.Ytakhikhdbigdaaa.Lib Go.Proofs.Ytakhikhdbigdaaa.Byt Go.Proofs.Ytakhikhdbigdaaa.Sex1 Go.Proofs.Ytakhikhdbigdaaa.Sex2 Go.Proofs.Ytakhikhdbigdaaa.Sex3 Go.Proofs.Ytakhikhdbigdaaa.C64a

theorem awake17_to : To (fun k => pestlelaw17_awake.f k) true := To.up (fun k => pestlelaw17_awake.mono k) (k := 80) (by decide +kernel)
theorem Crypt64Back : St.Crypt64Back_Pure := by
  intro salt sum s _ _ _
  refine To.ends ?_
  simp only [pestlelaw17_Crypt64Back.f]
  refine To.bind awake17_to ?_
  simp only [pestlelaw17_Crypt64Back.good]
  have one : To (fun k => pestlelaw17_Crypt64Back.one k salt sum (joinS salt sum)) () := by
    simp only [pestlelaw17_Crypt64Back.one]
    refine To.ite (fun e => ?_) (fun _ => To.ret _)
    exact To.bind (part_to _) (To.pos (join_part e) (To.ret _))
  refine To.bind (join_to salt sum) (To.bind one (To.bind (part_to s) ?_))
  refine To.ite (fun e => ?_) (fun e => ?_)
  · exact To.bind (join_to _ _) (To.pos (part_join e) (To.ret _))
  · rw [(part_err e).1, (part_err e).2]
    exact To.pos ⟨toList_L _, toList_L _⟩ (To.ret _)
end Go.Proofs.Ytakhikhdbigdaaa.Pure
