/- crypt64: what it joins and parts, by the program's way and by the reference's. -/
import Derived.Test.YtoknoghdnedmhaaSex3
import Derived.Test.YtoknoghdnedmhaaPallx6
import Derived.Test.YtoknoghdnedmhaaPallx3
import Derived.Test.YtoknoghdnedmhaaPallx8
import Derived.Test.YtoknoghdnedmhaaPallx7
namespace Go.Proofs.Ytoknoghdnedmhaa.C64a
open Go.RowKit Go.Proofs.Ytoknoghdnedmhaa.Pall Go.Proofs.YtoknoghdnedmhaaW.PrintWords Go.Proofs.YtoknoghdnedmhaaW.PrintLast Go.Proofs.Ytoknoghdnedmhaa.Lib Go.Proofs.Ytoknoghdnedmhaa.Byt Go.Proofs.Ytoknoghdnedmhaa.Sex1 Go.Proofs.Ytoknoghdnedmhaa.Sex2 Go.Proofs.Ytoknoghdnedmhaa.Sex3

def eB : ByteArray := ⟨#[]⟩
def joinS (salt sum : ByteArray) : ByteArray × Int := if salt.size = 16 then (if sum.size = 23 then (encS sxCrypt (L salt) ++ encS sxCrypt (L sum), 0) else (eB, 9)) else (eB, 9)
def comb (a b : ByteArray × Int) : ByteArray × ByteArray × Int := if a.2 = 0 then (if b.2 = 0 then (a.1, b.1, 0) else (eB, eB, b.2)) else (eB, eB, a.2)
def partS (s : ByteArray) : ByteArray × ByteArray × Int := if s.size = 53 then comb (decS sxCrypt (s.extract 0 22)) (decS sxCrypt (s.extract 22 53)) else (eB, eB, 9)
theorem crypt_size : sxCrypt.size = 64 := good_size sxCrypt_ok
theorem enc_one (b : ByteArray) (h : b.size ≤ 100) : To (fun k => sextet_Coder_Encode.f k sxCrypt [b]) (encS sxCrypt (L b)) := by
  have he := enc_to crypt_size [b] (by simp) (by intro p hp; obtain rfl := List.mem_singleton.mp hp; omega) (by rw [flat_one, ← size_L]; omega)
  rwa [flat_one] at he
theorem enc_len (b : ByteArray) : (encS sxCrypt (L b)).size = (8 * b.size + 5) / 6 := by rw [enc_size, ← size_L]
theorem join_to (salt sum : ByteArray) : To (fun k => crypt64_Code_Join.f k salt sum) (joinS salt sum) := by
  simp only [crypt64_Code_Join.f, joinS]
  by_cases h1 : salt.size = 16
  case neg => rw [if_neg h1]; exact To.neg h1 (To.ret _)
  rw [if_pos h1]
  refine To.pos h1 ?_
  by_cases h2 : sum.size = 23
  case neg => rw [if_neg h2]; exact To.neg h2 (To.ret _)
  rw [if_pos h2]
  have z1 := enc_len salt
  have z2 := enc_len sum
  exact To.pos h2 (To.bind (enc_one salt (by omega)) (To.bind (enc_one sum (by omega)) (To.pos (by omega) (To.ret _))))
theorem crypt_f : pestleref15_Crypt.f = some sxCrypt := rfl
theorem ref_join_to (salt sum : ByteArray) : To (fun k => pestleref17_Join.f k salt sum) (joinS salt sum) := by
  simp only [pestleref17_Join.f, joinS]
  by_cases h1 : salt.size = 16
  case neg =>
    rw [if_neg h1]
    refine To.neg (by omega) (To.step ?_)
    simp only [pestleref17_Join.j0]
    exact To.pos trivial (To.ret _)
  rw [if_pos h1]
  refine To.pos (by omega) (To.step ?_)
  simp only [pestleref17_Join.j0]
  by_cases h2 : sum.size = 23
  case neg =>
    rw [if_neg h2]
    exact To.pos (by simp; omega) (To.ret _)
  rw [if_pos h2]
  have z1 := enc_len salt
  have z2 := enc_len sum
  exact To.neg (by simp; omega) (To.bind0 crypt_f (To.bind (ref_enc_to crypt_size salt (by omega)) (To.bind0 crypt_f (To.bind (ref_enc_to crypt_size sum (by omega)) (To.pos (by omega) (To.ret _))))))
theorem ex_size (s : ByteArray) (i j : Nat) (h : j ≤ s.size) (hi : i ≤ j) : (s.extract i j).size = j - i := by
  rw [ByteArray.size_extract]; omega
theorem part_to (s : ByteArray) : To (fun k => crypt64_Code_Part.f k s) (partS s) := by
  simp only [crypt64_Code_Part.f]
  unfold partS
  by_cases h1 : s.size = 53
  case neg => rw [if_neg h1]; exact To.neg h1 (To.ret _)
  rw [if_pos h1]
  have z1 := ex_size s 0 22 (by omega) (by omega)
  have z2 := ex_size s 22 53 (by omega) (by omega)
  have ha := dec_to crypt_size (s.extract 0 22) (by omega)
  have hb := dec_to crypt_size (s.extract 22 53) (by omega)
  obtain ⟨a, ea⟩ : ∃ a, decS sxCrypt (s.extract 0 22) = a := ⟨_, rfl⟩
  obtain ⟨b, eb⟩ : ∃ b, decS sxCrypt (s.extract 22 53) = b := ⟨_, rfl⟩
  rw [ea] at ha ⊢
  rw [eb] at hb ⊢
  clear ea eb
  refine To.pos h1 (To.bind ha ?_)
  unfold comb
  by_cases e1 : a.2 = 0
  case neg => rw [if_neg e1]; exact To.neg e1 (To.ret _)
  rw [if_pos e1]
  refine To.pos e1 (To.bind hb ?_)
  by_cases e2 : b.2 = 0
  case neg =>
    refine To.neg e2 ?_
    rw [if_neg e2]
    exact To.ret _
  refine To.pos e2 ?_
  rw [if_pos e2]
  exact To.ret _
/-- what is joined is parted -/
theorem join_part {salt sum : ByteArray} (h : (joinS salt sum).2 = 0) : partS (joinS salt sum).1 = (salt, sum, 0) ∧ (joinS salt sum).1.size = 53 := by
  unfold joinS at h ⊢
  by_cases h1 : salt.size = 16
  case neg => rw [if_neg h1] at h; cases h
  by_cases h2 : sum.size = 23
  case neg => rw [if_pos h1, if_neg h2] at h; cases h
  rw [if_pos h1, if_pos h2]
  have z1 := enc_len salt
  have z2 := enc_len sum
  rw [h1] at z1
  rw [h2] at z2
  have zs : (encS sxCrypt (L salt) ++ encS sxCrypt (L sum)).size = 53 := by rw [ByteArray.size_append]; omega
  have l1 : (L (encS sxCrypt (L salt))).length = 22 := by rw [← size_L]; omega
  have l2 : (L (encS sxCrypt (L sum))).length = 31 := by rw [← size_L]; omega
  have e1 : (encS sxCrypt (L salt) ++ encS sxCrypt (L sum)).extract 0 22 = encS sxCrypt (L salt) := L_inj (by
    rw [L_extract, L_append, List.drop_zero, List.take_append_of_le_length (by omega), List.take_of_length_le (by omega)])
  have e2 : (encS sxCrypt (L salt) ++ encS sxCrypt (L sum)).extract 22 53 = encS sxCrypt (L sum) := L_inj (by
    rw [L_extract, L_append, List.drop_append_of_le_length (by omega), List.drop_of_length_le (by omega), List.nil_append, List.take_of_length_le (by omega)])
  refine ⟨?_, zs⟩
  show partS (encS sxCrypt (L salt) ++ encS sxCrypt (L sum)) = _
  unfold partS
  rw [if_pos zs, e1, e2, dec_of_enc sxCrypt_ok, dec_of_enc sxCrypt_ok, mk_L, mk_L]
  rfl
theorem comb_err {a b : ByteArray × Int} (h : (comb a b).2.2 ≠ 0) : (comb a b).1 = eB ∧ (comb a b).2.1 = eB := by
  unfold comb at h ⊢
  by_cases e1 : a.2 = 0
  case neg => rw [if_neg e1]; exact ⟨rfl, rfl⟩
  rw [if_pos e1] at h ⊢
  by_cases e2 : b.2 = 0
  case neg => rw [if_neg e2]; exact ⟨rfl, rfl⟩
  rw [if_pos e2] at h
  exact absurd rfl h
theorem comb_ok {a b : ByteArray × Int} (h : (comb a b).2.2 = 0) : a.2 = 0 ∧ b.2 = 0 ∧ comb a b = (a.1, b.1, 0) := by
  unfold comb at h ⊢
  by_cases e1 : a.2 = 0
  case neg => rw [if_neg e1] at h; exact absurd h e1
  rw [if_pos e1] at h ⊢
  by_cases e2 : b.2 = 0
  case neg => rw [if_neg e2] at h; exact absurd h e2
  rw [if_pos e2]
  exact ⟨e1, e2, rfl⟩
/-- what is parted was joined just so -/
theorem part_join {s : ByteArray} (h : (partS s).2.2 = 0) : joinS (partS s).1 (partS s).2.1 = (s, 0) := by
  unfold partS at h ⊢
  by_cases h1 : s.size = 53
  case neg => rw [if_neg h1] at h; cases h
  rw [if_pos h1] at h ⊢
  have z1 := ex_size s 0 22 (by omega) (by omega)
  have z2 := ex_size s 22 53 (by omega) (by omega)
  have q1 := enc_of_dec sxCrypt_ok (s.extract 0 22)
  have q2 := enc_of_dec sxCrypt_ok (s.extract 22 53)
  obtain ⟨a, ea⟩ : ∃ a, decS sxCrypt (s.extract 0 22) = a := ⟨_, rfl⟩
  obtain ⟨b, eb⟩ : ∃ b, decS sxCrypt (s.extract 22 53) = b := ⟨_, rfl⟩
  rw [ea] at q1 h ⊢
  rw [eb] at q2 h ⊢
  clear ea eb
  obtain ⟨h2, h3, h4⟩ := comb_ok h
  have e1 := q1 h2
  have e2 := q2 h3
  have y1 := enc_len a.1
  have y2 := enc_len b.1
  rw [e1] at y1
  rw [e2] at y2
  have l := size_L s
  have es : s.extract 0 22 ++ s.extract 22 53 = s := L_inj (by
    rw [L_append, L_extract, L_extract, List.drop_zero, show 22 - 0 = 22 from rfl, show 53 - 22 = 31 from rfl, List.take_of_length_le (l := (L s).drop 22) (by rw [List.length_drop]; omega), List.take_append_drop])
  rw [h4]
  show joinS a.1 b.1 = _
  unfold joinS
  rw [if_pos (by omega), if_pos (by omega), e1, e2, es]
theorem part_err {s : ByteArray} (h : (partS s).2.2 ≠ 0) : (partS s).1 = eB ∧ (partS s).2.1 = eB := by
  unfold partS at h ⊢
  by_cases h1 : s.size = 53
  case neg => rw [if_neg h1]; exact ⟨rfl, rfl⟩
  rw [if_pos h1] at h ⊢
  exact comb_err h
end Go.Proofs.Ytoknoghdnedmhaa.C64a
