/- The reference's hexadecimal digits of bytes. -/
import Derived.Test.YtoknoghdnedmhaaHex2
import Derived.Test.YtoknoghdnedmhaaPallx6
namespace Go.Proofs.Ytoknoghdnedmhaa.Hex3
open Go.RowKit Go.Proofs.Ytoknoghdnedmhaa.Pall Go.Proofs.YtoknoghdnedmhaaW.PrintWords Go.Proofs.YtoknoghdnedmhaaW.PrintLast Go.Proofs.Ytoknoghdnedmhaa.Lib Go.Proofs.Ytoknoghdnedmhaa.Byt Go.Proofs.Ytoknoghdnedmhaa.Hex1 Go.Proofs.Ytoknoghdnedmhaa.Hex2

theorem letter_all : ∀ n : Fin 16, pestleref14_letter.f (n.1 : Int) = some (mkB [hx n.1]) := by decide +kernel
theorem letter_is {n : Nat} (h : n < 16) : pestleref14_letter.f (n : Int) = some (mkB [hx n]) := letter_all ⟨n, h⟩
theorem mk_app (a b : List UInt8) : mkB a ++ mkB b = mkB (a ++ b) := by
  apply L_inj
  rw [L_append, L_mk, L_mk, L_mk]
theorem mk_size (a : List UInt8) : (mkB a).size = a.length := by rw [size_L, L_mk]
theorem ref_enc_l0 (s : ByteArray) (hs : s.size ≤ 1000000) (d : Nat) : ∀ n : Nat, n + d = (L s).length →
    To (fun k => pestleref14_Encode.l0 k s (mkB (encL ((L s).take n))) (n : Int)) (encS s) := by
  have hsz : (s.size : Int) = ((L s).length : Int) := by rw [size_L]
  rw [size_L] at hs
  induction d with
  | zero =>
    intro n hn
    refine To.step ?_
    simp only [pestleref14_Encode.l0]
    rw [hsz, List.take_of_length_le (by omega)]
    exact To.neg (by omega) (To.ret _)
  | succ d ih =>
    intro n hn
    have hlt : n < (L s).length := by omega
    have hc := (L s)[n].toNat_lt
    refine To.step ?_
    simp only [pestleref14_Encode.l0]
    rw [hsz, bt_nat hlt, wrap_id (x := (n : Int) + 1) (by omega) (by omega), wrap_id (x := ((L s)[n].toNat : Int)) (by omega) (by omega)]
    have e0 : Int.tdiv ((L s)[n].toNat : Int) 16 = (((L s)[n].toNat / 16 : Nat) : Int) := by rw [Int.tdiv_eq_ediv_of_nonneg (by omega)]; omega
    have e1 : Int.tmod ((L s)[n].toNat : Int) 16 = (((L s)[n].toNat % 16 : Nat) : Int) := by rw [Int.tmod_eq_emod_of_nonneg (by omega)]; omega
    rw [e0, e1, wrap_id (by omega) (by omega)]
    have htl : ((L s).take n).length = n := by rw [List.length_take]; omega
    refine To.pos (by omega) (To.pos (by omega) (To.bind0 (letter_is (by omega)) (To.pos ?_ (To.bind0 (letter_is (by omega)) (To.pos ?_ ?_)))))
    · rw [mk_size, mk_size, encL_len]; simp; omega
    · rw [mk_app, mk_size, mk_size, List.length_append, encL_len]; simp; omega
    · have := ih (n + 1) (by omega)
      rw [List.take_succ_eq_append_getElem hlt, encL_append] at this
      rw [mk_app, mk_app, List.append_assoc]
      exact this
theorem ref_enc_to (s : ByteArray) (hs : s.size ≤ 1000000) : To (fun k => pestleref14_Encode.f k s) (encS s) := by
  simp only [pestleref14_Encode.f]
  exact ref_enc_l0 s hs (L s).length 0 (by omega)
theorem ref_dash_to (s : ByteArray) (hs : s.size ≤ 1000000) : To (fun k => pestleref14_Dash.f k s) (dashS s) := by
  unfold dashS
  simp only [pestleref14_Dash.f]
  rw [toList_L]
  by_cases h : L s = []
  · refine To.pos h ?_
    rw [if_pos h]; exact To.ret _
  · refine To.neg h ?_
    rw [if_neg h]
    exact To.bind (ref_enc_to s hs) (To.ret _)
end Go.Proofs.Ytoknoghdnedmhaa.Hex3
