/- For every number and every text: what is written is read, beyond the bounds it is told so, and what is read was written just so.
   Conditions: the number is a 64-bit integer, the text one that Go can hold in memory (as the row says); nothing else. -/
import Derived.Test.YtfehkfjfmjnjnaaDec3
import Derived.Test.YtfehkfjfmjnjnaaPallx5
namespace Go.Proofs.Ytfehkfjfmjnjnaa.Pure
open Go.RowKit Go.Proofs.Ytfehkfjfmjnjnaa.Pall Go.Proofs.YtfehkfjfmjnjnaaW.PrintWords Go.Proofs.YtfehkfjfmjnjnaaW.PrintLast Go.Proofs.Ytfehkfjfmjnjnaa.Lib Go.Proofs.Ytfehkfjfmjnjnaa.Byt Go.Proofs.Ytfehkfjfmjnjnaa.Dec1 Go.Proofs.Ytfehkfjfmjnjnaa.Dec2 Go.Proofs.Ytfehkfjfmjnjnaa.Dec3

theorem back_end (s : ByteArray) : To (fun k => pestlelaw18_DecBack.j1 k s false) true := by
  refine To.step ?_
  simp only [pestlelaw18_DecBack.j1]
  refine To.neg (by decide) (To.ite (fun _ => To.ret _) (fun h => To.bind (read_to s (by omega)) (To.ite (fun h0 => ?_) (fun h0 => To.pos (read_not h0) (To.ret _)))))
  have t := text_read h0
  exact To.bind (text_to _ (by have := t.2.2; omega)) (To.ret' (by rw [t.1]; simp))
theorem textS_size (n : Int) (h : n ≤ 9223372036854775807) : (textS n).size ≤ 1000 := by
  rw [size_L]
  by_cases hn : n < 0
  · rw [L_textS_neg hn]; simp
  · rw [L_textS (by omega)]
    have := textN_len n.toNat 20 (by omega)
    omega
theorem DecBack : pestlelaw18_DecBack.Pure := by
  intro n s hn _
  have hw := wf_i64 hn
  refine To.ends ?_
  simp only [pestlelaw18_DecBack.f]
  refine To.bind awake_to (To.pos rfl (To.bind (text_to n hw.2) (To.bind (read_to _ (by have := textS_size n hw.2; omega)) ?_)))
  by_cases h0 : n < 0
  · rw [read_text_neg h0]
    refine To.neg (by omega) (To.step ?_)
    simp only [pestlelaw18_DecBack.j0]
    exact To.neg (by decide) (To.pos h0 (To.pos trivial (To.neg (by omega) (back_end s))))
  · rw [read_text (by omega)]
    refine To.pos (by omega) ?_
    by_cases h1 : n ≤ 4611686018427387904
    · rw [numS_lo (by omega)]
      refine To.pos h1 (To.pos rfl ?_)
      have e : ((n.toNat : Int) != n) = false := by
        rw [Int.toNat_of_nonneg (by omega)]
        simp
      show To (fun k => pestlelaw18_DecBack.j0 k n s 0 ((n.toNat : Int) != n)) true
      rw [e]
      refine To.step ?_
      simp only [pestlelaw18_DecBack.j0]
      exact To.neg (by decide) (To.neg h0 (To.neg (by omega) (back_end s)))
    · rw [numS_hi (by omega)]
      refine To.neg h1 (To.step ?_)
      simp only [pestlelaw18_DecBack.j0]
      exact To.neg (by decide) (To.neg h0 (To.pos (by omega) (back_end s)))
end Go.Proofs.Ytfehkfjfmjnjnaa.Pure
