/- For all texts of a megabyte at most: what is encoded is decoded, and digits come back as they were; with a dash likewise.
   Conditions: the texts are of 1048576 bytes at most (the second form's bound); nothing else. -/
import Derived.Test.YtakhikhdbigdaaaHex2
import Derived.Test.YtakhikhdbigdaaaPallx2
namespace Go.Proofs.Ytakhikhdbigdaaa.Pure
open Go.RowKit Go.Proofs.Ytakhikhdbigdaaa.Pall Go.Proofs.YtakhikhdbigdaaaW.PrintWords Go.Proofs.YtakhikhdbigdaaaW.PrintLast Go.Proofs.Ytakhikhdbigdaaa.Lib Go.Proofs.Ytakhikhdbigdaaa.Byt Go.Proofs.Ytakhikhdbigdaaa.Hex1 Go.Proofs.Ytakhikhdbigdaaa.Hex2

theorem awake14b_to : To (fun k => pestlelaw14_awake.f k) true := To.up (fun k => pestlelaw14_awake.mono k) (k := 30) (by decide +kernel)
theorem dashS_size (s : ByteArray) : (dashS s).size ≤ 2 * s.size + 1 := by
  unfold dashS
  split
  · show 1 ≤ _; omega
  · rw [encS_size]; omega
theorem decL_size (l : List UInt8) : (decL l).1.size ≤ l.length := by
  by_cases h : (decL l).2 = 0
  · obtain ⟨_, h2, h3⟩ := decL_ok h
    rw [h3]
    show (mkB (hexL l)).size ≤ _
    rw [size_L, L_mk, hexL_len (l.length / 2) l (by omega)]
    omega
  · unfold decL at h ⊢
    by_cases c1 : ∀ c ∈ l, isHex c
    · rw [if_pos c1] at h ⊢
      by_cases c2 : l.length % 2 = 0
      · rw [if_pos c2] at h; exact absurd rfl h
      · rw [if_neg c2]; exact Nat.zero_le _
    · rw [if_neg c1]; exact Nat.zero_le _
theorem decS_size (s : ByteArray) : (decS s).1.size ≤ s.size := by
  rw [size_L s]; exact decL_size _
theorem undashS_size (s : ByteArray) : (undashS s).1.size ≤ s.size := by
  unfold undashS
  split
  · exact Nat.zero_le _
  · split
    · exact Nat.zero_le _
    · exact decS_size s
theorem back_j0 (t : ByteArray) (ht : t.size ≤ 1048576) : To (fun k => pestlelaw14_HexesBack.j0 k t false) true := by
  refine To.step ?_
  simp only [pestlelaw14_HexesBack.j0]
  refine To.neg (by decide) (To.bind (dec_to t (by omega)) (To.bind (undash_to t (by omega)) ?_))
  have s1 := decS_size t
  have s2 := undashS_size t
  have rest : To (fun k => if (undashS t).2 = 0 then ((hexes_Dash.f k (undashS t).1).bind fun t147 => (some (t147.toList == t.toList))) else (some true)) true := by
    refine To.ite (fun h => To.bind (dash_to _ (by omega)) (To.ret' ?_)) (fun _ => To.ret _)
    rw [dash_undash h]; simp
  refine To.ite (fun h => To.bind (enc_one _ (by omega)) ?_) (fun _ => rest)
  refine To.pos ?_ rest
  rw [enc_dec h]
theorem HexesBackUpto (s t : ByteArray) (hs : s.size ≤ 1048576) (ht : t.size ≤ 1048576) : ∃ k, pestlelaw14_HexesBack.f k s t = some true := by
  refine To.ends ?_
  simp only [pestlelaw14_HexesBack.f]
  have e := encS_size s
  have d := dashS_size s
  refine To.bind awake14b_to (To.pos rfl (To.bind (enc_one s (by omega)) (To.bind (dec_to _ (by omega)) (To.bind (dash_to s (by omega)) (To.bind (undash_to _ (by omega)) ?_)))))
  rw [dec_enc, undash_dash]
  refine To.pos rfl (To.pos rfl (To.pos rfl ?_))
  rw [show (s.toList != s.toList) = false by simp]
  exact back_j0 t ht
end Go.Proofs.Ytakhikhdbigdaaa.Pure
