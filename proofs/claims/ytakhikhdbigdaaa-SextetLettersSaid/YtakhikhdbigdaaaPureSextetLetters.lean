/- SextetLetters: whatever the arguments, the plain walk answers yes. -/
import Derived.Test.YtakhikhdbigdaaaStSextetLetters
import Derived.Test.YtakhikhdbigdaaaSex3
import Derived.Test.YtakhikhdbigdaaaPallx5
import Derived.Test.YtakhikhdbigdaaaPallx2
namespace Go.Proofs.Ytakhikhdbigdaaa.Pure
open Go.RowKit Go.Proofs.Ytakhikhdbigdaaa.Pall Go.Proofs.YtakhikhdbigdaaaW.PrintWords Go.Proofs.YtakhikhdbigdaaaW.PrintLast Go.Proofs.Ytakhikhdbigdaaa.Lib Go.Proofs.Ytakhikhdbigdaaa.Byt Go.Proofs.Ytakhikhdbigdaaa.Sex1 Go.Proofs.Ytakhikhdbigdaaa.Sex2 Go.Proofs.Ytakhikhdbigdaaa.Sex3

theorem awake15_to : To (fun k => pestlelaw15_awake.f k) true := To.up (fun k => pestlelaw15_awake.mono k) (k := 80) (by decide +kernel)
theorem SextetLetters : St.SextetLetters_Pure := by
  intro ps n hp hn
  obtain ⟨hp0, _, _⟩ := hp
  refine To.ends ?_
  simp only [pestlelaw15_SextetLetters.f]
  refine To.bind awake15_to ?_
  refine To.ite (fun _ => To.ret _) (fun h2 => ?_)
  refine To.bind (bytes_to ps (by omega) hp0) ?_
  refine To.ite (fun _ => To.ret _) (fun h3 => ?_)
  have hs := good_size sxPlain_ok
  have hfl : (flat ps).length ≤ 300 := by omega
  have hpm : ∀ p ∈ ps, p.size ≤ 1000000 := fun p hp => by have := flat_part ps p hp; omega
  refine To.bind (enc_to hs ps (by omega) hpm (by omega)) (To.pos ?_ (To.ret _))
  rw [enc_size]
  unfold sxLetters
  rw [if_neg (by omega), if_neg (by omega)]
  omega
end Go.Proofs.Ytakhikhdbigdaaa.Pure
