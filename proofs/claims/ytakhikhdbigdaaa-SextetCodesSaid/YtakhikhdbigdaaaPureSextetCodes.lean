/- SextetCodes: whatever the arguments, the plain walk answers yes. -/
import Derived.Test.YtakhikhdbigdaaaStSextetCodes
import Derived.Test.YtakhikhdbigdaaaSex3
import Derived.Test.YtakhikhdbigdaaaPallx4
import Derived.Test.YtakhikhdbigdaaaPallx2
namespace Go.Proofs.Ytakhikhdbigdaaa.Pure
open Go.RowKit Go.Proofs.Ytakhikhdbigdaaa.Pall Go.Proofs.YtakhikhdbigdaaaW.PrintWords Go.Proofs.YtakhikhdbigdaaaW.PrintLast Go.Proofs.Ytakhikhdbigdaaa.Lib Go.Proofs.Ytakhikhdbigdaaa.Byt Go.Proofs.Ytakhikhdbigdaaa.Sex1 Go.Proofs.Ytakhikhdbigdaaa.Sex2 Go.Proofs.Ytakhikhdbigdaaa.Sex3

theorem awake15_to : To (fun k => pestlelaw15_awake.f k) true := To.up (fun k => pestlelaw15_awake.mono k) (k := 80) (by decide +kernel)
theorem SextetCodes : St.SextetCodes_Pure := by
  intro s ps t hs0 hp ht0
  obtain ⟨hp0, _, _⟩ := hp
  refine To.ends ?_
  simp only [pestlelaw15_SextetCodes.f]
  refine To.bind awake15_to ?_
  refine To.ite (fun _ => To.ret _) (fun h1 => ?_)
  refine To.ite (fun _ => To.ret _) (fun h2 => ?_)
  refine To.bind (bytes_to ps (by omega) hp0) ?_
  refine To.ite (fun _ => To.ret _) (fun h3 => ?_)
  refine To.ite (fun _ => To.ret _) (fun h4 => ?_)
  refine To.bind (letters_to s) ?_
  refine To.ite (fun h5 => ?_) (fun h5 => To.pos rfl (To.ret _))
  have hs := good_size h5
  have hfl : (flat ps).length ≤ 300 := by omega
  simp only [pestlelaw15_SextetCodes.good]
  have hpm : ∀ p ∈ ps, p.size ≤ 1000000 := fun p hp => by have := flat_part ps p hp; omega
  refine To.bind (dec_to hs t (by omega)) (To.bind (ref_dec_to hs t (by omega)) (To.bind (enc_to hs ps (by omega) hpm (by omega)) (To.bind (joined_to ps (by omega) (by omega)) (To.bind (ref_enc_to hs _ (by rw [mkB_len]; omega)) ?_))))
  exact To.pos ⟨h5, rfl, (decR_eq h5 t).symm⟩ (To.ret _)
end Go.Proofs.Ytakhikhdbigdaaa.Pure
