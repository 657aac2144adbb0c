/- Crypt64Codes: whatever the arguments, the plain walk answers yes. -/
import Derived.Test.YtakhikhdbigdaaaStCrypt64Codes
import Derived.Test.YtakhikhdbigdaaaC64a
import Derived.Test.YtakhikhdbigdaaaPallx8
import Derived.Test.YtakhikhdbigdaaaPallx3
namespace Go.Proofs.Ytakhikhdbigdaaa.Pure
open Go.RowKit Go.Proofs.Ytakhikhdbigdaaa.Pall Go.Proofs.YtakhikhdbigdaaaW.PrintWords Go.Proofs.YtakhikhdbigdaaaW.PrintLast Go.Proofs.Ytakhikhdbigdaaa.Lib Go.Proofs.Ytakhikhdbigdaaa.Byt Go.Proofs.Ytakhikhdbigdaaa.Sex1 Go.Proofs.Ytakhikhdbigdaaa.Sex2 Go.Proofs.Ytakhikhdbigdaaa.Sex3 Go.Proofs.Ytakhikhdbigdaaa.C64a

theorem awake17_to : To (fun k => pestlelaw17_awake.f k) true := To.up (fun k => pestlelaw17_awake.mono k) (k := 80) (by decide +kernel)
theorem Crypt64Codes : St.Crypt64Codes_Pure := by
  intro salt sum s _ _ _
  refine To.ends ?_
  simp only [pestlelaw17_Crypt64Codes.f]
  refine To.bind awake17_to ?_
  refine To.ite (fun _ => To.ret _) (fun _ => ?_)
  refine To.ite (fun _ => To.ret _) (fun _ => ?_)
  refine To.ite (fun _ => To.ret _) (fun _ => ?_)
  simp only [pestlelaw17_Crypt64Codes.good]
  exact To.bind (join_to salt sum) (To.bind (ref_join_to salt sum) (To.bind (part_to s) (To.bind (ref_part_to s) (To.pos ⟨rfl, rfl⟩ (To.ret _)))))
end Go.Proofs.Ytakhikhdbigdaaa.Pure
