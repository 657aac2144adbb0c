/- Plain64Codes: whatever the arguments, the plain walk answers yes. -/
import Derived.Test.YtakhikhdbigdaaaStPlain64Codes
import Derived.Test.YtakhikhdbigdaaaP64a
import Derived.Test.YtakhikhdbigdaaaPallx5
import Derived.Test.YtakhikhdbigdaaaPallx3
namespace Go.Proofs.Ytakhikhdbigdaaa.Pure
open Go.RowKit Go.Proofs.Ytakhikhdbigdaaa.Pall Go.Proofs.YtakhikhdbigdaaaW.PrintWords Go.Proofs.YtakhikhdbigdaaaW.PrintLast Go.Proofs.Ytakhikhdbigdaaa.Lib Go.Proofs.Ytakhikhdbigdaaa.Byt Go.Proofs.Ytakhikhdbigdaaa.Sex1 Go.Proofs.Ytakhikhdbigdaaa.Sex2 Go.Proofs.Ytakhikhdbigdaaa.Sex3 Go.Proofs.Ytakhikhdbigdaaa.P64a

theorem awake16_to : To (fun k => pestlelaw16_awake.f k) true := To.up (fun k => pestlelaw16_awake.mono k) (k := 80) (by decide +kernel)
theorem Plain64Codes : St.Plain64Codes_Pure := by
  intro l m t s hl hm ht0 hs0
  refine To.ends ?_
  simp only [pestlelaw16_Plain64Codes.f]
  refine To.bind awake16_to ?_
  refine To.ite (fun _ => To.ret _) (fun h1 => ?_)
  refine To.ite (fun _ => To.ret _) (fun h2 => ?_)
  refine To.ite (fun _ => To.ret _) (fun h3 => ?_)
  simp only [pestlelaw16_Plain64Codes.good]
  refine To.bind (write_to l m t (by omega)) (To.bind (ref_write_to l m t (by omega)) (To.bind (read_to l m s (by omega)) (To.bind (ref_read_to l m (by omega) s (by omega)) (To.bind0 (many_f (by omega) (by omega)) (To.bind0 (many_f (by omega) (by omega)) (To.pos ⟨rfl, rfl, rfl, rfl⟩ (To.ret _)))))))
end Go.Proofs.Ytakhikhdbigdaaa.Pure
