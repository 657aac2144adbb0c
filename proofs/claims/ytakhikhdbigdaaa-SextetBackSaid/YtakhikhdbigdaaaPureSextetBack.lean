/- SextetBack: whatever the arguments, the plain walk answers yes. -/
import Derived.Test.YtakhikhdbigdaaaStSextetBack
import Derived.Test.YtakhikhdbigdaaaSex3
import Derived.Test.YtakhikhdbigdaaaPallx4
import Derived.Test.YtakhikhdbigdaaaPallx2
namespace Go.Proofs.Ytakhikhdbigdaaa.Pure
open Go.RowKit Go.Proofs.Ytakhikhdbigdaaa.Pall Go.Proofs.YtakhikhdbigdaaaW.PrintWords Go.Proofs.YtakhikhdbigdaaaW.PrintLast Go.Proofs.Ytakhikhdbigdaaa.Lib Go.Proofs.Ytakhikhdbigdaaa.Byt Go.Proofs.Ytakhikhdbigdaaa.Sex1 Go.Proofs.Ytakhikhdbigdaaa.Sex2 Go.Proofs.Ytakhikhdbigdaaa.Sex3

theorem awake15_to : To (fun k => pestlelaw15_awake.f k) true := To.up (fun k => pestlelaw15_awake.mono k) (k := 80) (by decide +kernel)
theorem SextetBack : St.SextetBack_Pure := by
  intro s ps t hs0 hp ht0
  obtain ⟨hp0, _, _⟩ := hp
  refine To.ends ?_
  simp only [pestlelaw15_SextetBack.f]
  refine To.bind awake15_to ?_
  refine To.neg (by omega) (To.ite (fun h5 => ?_) (fun _ => To.ret _))
  refine To.ite (fun _ => To.ret _) (fun h2 => ?_)
  refine To.bind (bytes_to ps (by omega) hp0) ?_
  refine To.ite (fun _ => To.ret _) (fun h3 => ?_)
  refine To.ite (fun _ => To.ret _) (fun h4 => ?_)
  have hs := good_size h5
  have hfl : (flat ps).length ≤ 300 := by omega
  have hpm : ∀ p ∈ ps, p.size ≤ 1000000 := fun p hp => by have := flat_part ps p hp; omega
  have hes := enc_size s (flat ps)
  refine To.bind (enc_to hs ps (by omega) hpm (by omega)) (To.bind (dec_to hs _ (by omega)) (To.bind (joined_to ps (by omega) (by omega)) (To.bind (dec_to hs t (by omega)) (To.pos (dec_of_enc h5 _) ?_))))
  refine To.ite (fun h6 => ?_) (fun h6 => ?_)
  · have hl : (L (decS s t).1).length ≤ 1000 := by
      have h7 := enc_of_dec h5 t h6
      have h8 := enc_size s (L (decS s t).1)
      rw [h7] at h8
      omega
    have he := enc_to hs [(decS s t).1] (by simp) (by intro p hp; obtain rfl := List.mem_singleton.mp hp; rw [size_L]; omega) (by rw [flat_one]; omega)
    rw [flat_one] at he
    exact To.bind he (To.pos (enc_of_dec h5 t h6) (To.ret _))
  · rw [dec_err s t h6]
    exact To.pos (toList_L _) (To.ret _)
end Go.Proofs.Ytakhikhdbigdaaa.Pure
