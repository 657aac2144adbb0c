/- Blowfish's tables, as the reference expands them. -/
import Derived.Test.YtimgndceiibaeaaBf1
import Derived.Test.YtimgndceiibaeaaByt
import Derived.Test.YtimgndceiibaeaaPallx8
import Derived.Test.YtimgndceiibaeaaPallx3
namespace Go.Proofs.Ytimgndceiibaeaa.Bf2
open Go.RowKit Go.Proofs.Ytimgndceiibaeaa.Pall Go.Proofs.YtimgndceiibaeaaW.PrintWords Go.Proofs.YtimgndceiibaeaaW.PrintLast Go.Proofs.Ytimgndceiibaeaa.Lib Go.Proofs.Ytimgndceiibaeaa.Byt Go.Proofs.Ytimgndceiibaeaa.PiW Go.Proofs.Ytimgndceiibaeaa.Bf1

theorem bt_ciB (s : ByteArray) (h : 0 < s.size) (m : Nat) : bt s ((m % s.size : Nat) : Int) = ((ciB s m : Nat) : Int) := by
  have hl : m % s.size < s.size := Nat.mod_lt _ h
  have hL : m % s.size < (L s).length := by rw [← size_L]; exact hl
  rw [bt_nat hL]
  unfold ciB
  rw [if_neg (by omega), List.getD_eq_getElem?_getD, List.getElem?_eq_getElem (show m % s.size < s.data.toList.length from hL)]
  rfl
theorem word_l0 (s : ByteArray) (hs : s.size ≤ 1000000000) (i : Nat) (hi : i ≤ 100000) (d : Nat) : ∀ n : Nat, n + d = 4 → To (fun k => pestleref10_word.l0 k s (i : Int) ((ciWj s i n : Nat) : Int) (n : Int)) ((ciWord s i : Nat) : Int) := by
  induction d with
  | zero =>
    intro n hn
    refine To.step ?_
    simp only [pestleref10_word.l0]
    obtain rfl : n = 4 := by omega
    exact To.neg (by omega) (To.ret _)
  | succ d ih =>
    intro n hn
    have hv : ciWj s i n < 16777216 := by
      have q := ciWj_lt s i n
      have q2 : 256 ^ n ≤ 256 ^ 3 := Nat.pow_le_pow_right (by omega) (by omega)
      omega
    have hb := ciB_lt s (4 * i + n)
    have i1 := ih (n + 1) (by omega)
    rw [ciWj_succ] at i1
    refine To.step ?_
    simp only [pestleref10_word.l0]
    rw [wrap_id (x := (n : Int) + 1) (by omega) (by omega), wrap_id (x := 4 * (i : Int)) (by omega) (by omega), wrap_id (x := 4 * (i : Int) + (n : Int)) (by omega) (by omega)]
    refine To.pos (by omega) (To.ite (fun hp => ?_) (fun hp => ?_))
    · have e : Int.tmod (4 * (i : Int) + (n : Int)) (s.size : Int) = (((4 * i + n) % s.size : Nat) : Int) := by
        rw [Int.tmod_eq_emod_of_nonneg (by omega), Int.natCast_emod]; rfl
      have hl : (4 * i + n) % s.size < s.size := Nat.mod_lt _ (by omega)
      rw [e, bt_ciB s (by omega)]
      refine To.neg (by omega) (To.pos (by omega) (To.pos (by omega) ?_))
      rw [show (((ciWj s i n : Nat) : Int) * 256 % 4294967296 + ((ciB s (4 * i + n) : Nat) : Int) % 4294967296) % 4294967296 = ((ciWj s i n * 256 + ciB s (4 * i + n) : Nat) : Int) by omega]
      exact i1
    · have hz : ciB s (4 * i + n) = 0 := by unfold ciB; exact if_pos (by omega)
      rw [hz] at i1
      rw [show ((ciWj s i n : Nat) : Int) * 256 % 4294967296 = ((ciWj s i n * 256 + 0 : Nat) : Int) by omega]
      exact i1
theorem word_to (s : ByteArray) (hs : s.size ≤ 1000000000) (i : Nat) (hi : i ≤ 100000) : To (fun k => pestleref10_word.f k s (i : Int)) ((ciWord s i : Nat) : Int) := by
  simp only [pestleref10_word.f]
  exact word_l0 s hs i hi 4 0 rfl
theorem ciI_set (t : List Nat) (i v : Nat) : (ciI t).set i (v : Int) = ciI (t.set i v) := by
  unfold ciI
  rw [List.map_set]
theorem keyed (kw : Nat → Nat) (t : List Nat) (hl : t.length = 1042) : ∀ n i s, i + n = 18 → s.length = 1042 → (∀ j, ciW s j = if j < i then ciW t j ^^^ kw j else ciW t j) → ∀ j, ciW (ciKey kw n i s) j = if j < 18 then ciW t j ^^^ kw j else ciW t j
  | 0, i, s, hn, _, hs, j => by
    obtain rfl : i = 18 := by omega
    exact hs j
  | n + 1, i, s, hn, hl', hs, j => by
    rw [ciKey_succ]
    refine keyed kw t hl n (i + 1) _ (by omega) (by rw [List.length_set]; exact hl') (fun j => ?_) j
    rw [ciW_set (by omega)]
    by_cases e : j = i
    · subst e; rw [if_pos rfl, hs j, if_neg (by omega), if_pos (by omega)]
    · rw [if_neg e, hs j]
      by_cases q : j < i
      · rw [if_pos q, if_pos (by omega)]
      · rw [if_neg q, if_neg (by omega)]
theorem key_at (kw : Nat → Nat) {t : List Nat} (hl : t.length = 1042) (j : Nat) : ciW (ciKey kw 18 0 t) j = if j < 18 then ciW t j ^^^ kw j else ciW t j :=
  keyed kw t hl 18 0 t rfl hl (fun j => by rw [if_neg (by omega)]) j
theorem key_take {K : List Nat} (hl : K.length = 1042) (n : Nat) (h : n < 1042) : (ciI K).take (n + 1) = (ciI K).take n ++ [((ciW K n : Nat) : Int)] := by
  have h1 : n < (ciI K).length := by rw [ciI_len, hl]; exact h
  rw [List.take_succ_eq_append_getElem h1]
  congr 2
  have e := ciI_rd K n (by omega)
  rw [rd_nat h1] at e
  exact e
section
variable {t : List Nat} (ho : ciOk t) (salt key : ByteArray) (hs : salt.size ≤ 1000000000) (hk : key.size ≤ 1000000000)
include ho hs hk
omit hk in
theorem ex_l1 (d : Nat) : ∀ (n x y : Nat) (u : List Nat), n + 2 * d = 1042 → ciOk u → x < 4294967296 → y < 4294967296 →
    To (fun k => pestleref10_Expand.l1 k (ciI t) salt (ciI u) (x : Int) (y : Int) (n : Int)) (ciI (ciChain (ciWord salt) d n x y u)) := by
  induction d with
  | zero =>
    intro n x y u hn hu hx hy
    refine To.step ?_
    simp only [pestleref10_Expand.l1]
    rw [wrap_id (x := (n : Int) + 1) (by omega) (by omega), lenI ho]
    exact To.neg (by omega) (To.ret' rfl)
  | succ d ih =>
    intro n x y u hn hu hx hy
    have w1 := ciWord_lt salt n
    have w2 := ciWord_lt salt (n + 1)
    have hlt := ciEnc_lt hu (ci_xor hx w1) (ci_xor hy w2)
    have u1 := ciOk_set hu (i := n) (by omega) hlt.1
    have u2 := ciOk_set u1 (i := n + 1) (by omega) hlt.2
    have i1 := ih (n + 2) _ _ _ (by omega) u2 hlt.1 hlt.2
    rw [← ciChain_succ] at i1
    refine To.step ?_
    simp only [pestleref10_Expand.l1]
    rw [wrap_id (x := (n : Int) + 1) (by omega) (by omega), wrap_id (x := (n : Int) + 2) (by omega) (by omega), lenI ho, lenI hu]
    refine To.pos (by omega) (To.bind (word_to salt hs n (by omega)) (To.bind (word_to salt hs (n + 1) (by omega)) ?_))
    rw [ci_bxor _ _ hx w1, ci_bxor _ _ hy w2]
    refine To.bind (enc_to hu _ _ (ci_xor hx w1) (ci_xor hy w2)) (To.pos (by omega) (To.pos (by omega) (To.pos (by omega) (To.pos (by omega) ?_))))
    rw [show ((n : Int)).toNat = n from rfl, show ((n : Int) + 1).toNat = n + 1 by omega, ciI_set, ciI_set]
    exact i1
theorem ex_l0 (d : Nat) : ∀ n : Nat, n + d = 1042 → To (fun k => pestleref10_Expand.l0 k (ciI t) salt key ((ciI (ciKey (ciWord key) 18 0 t)).take n ++ List.replicate d 0) (n : Int)) (ciI (ciExpand t (ciWord salt) (ciWord key))) := by
  have hK := ciKey_ok (ciWord key) (ciWord_lt key) 18 0 t (by omega) ho
  induction d with
  | zero =>
    intro n hn
    obtain rfl : n = 1042 := by omega
    refine To.step ?_
    simp only [pestleref10_Expand.l0]
    rw [lenI ho, List.replicate_zero, List.append_nil, List.take_of_length_le (by rw [ciI_len, hK.1]; exact Nat.le_refl _)]
    exact To.neg (by omega) (ex_l1 ho salt hs 521 0 0 0 _ (by omega) hK (by omega) (by omega))
  | succ d ih =>
    intro n hn
    have i1 := ih (n + 1) (by omega)
    rw [key_take hK.1 n (by omega), key_at _ ho.1] at i1
    have hl : ((ciI (ciKey (ciWord key) 18 0 t)).take n).length = n := by rw [List.length_take, ciI_len, hK.1]; omega
    have hlen : ((ciI (ciKey (ciWord key) 18 0 t)).take n ++ List.replicate (d + 1) (0 : Int)).length = 1042 := by rw [List.length_append, hl, List.length_replicate]; omega
    have st := fun v : Int => set_at ((ciI (ciKey (ciWord key) 18 0 t)).take n) d v
    rw [hl] at st
    refine To.step ?_
    simp only [pestleref10_Expand.l0]
    rw [lenI ho, hlen, rdI ho n (by omega), wrap_id (x := (n : Int) + 1) (by omega) (by omega), show ((n : Int)).toNat = n from rfl]
    refine To.pos (by omega) (To.pos (by omega) (To.pos (by omega) (To.bind0 rfl (To.ite (fun h => ?_) (fun h => ?_)))))
    · refine To.bind (word_to key hk n (by omega)) ?_
      rw [ci_bxor _ _ (ho.2 n) (ciWord_lt key n), List.set_set, st]
      rw [if_pos (by omega)] at i1
      exact i1
    · rw [st]
      rw [if_neg (by omega)] at i1
      exact i1
theorem expand_to : To (fun k => pestleref10_Expand.f k (ciI t) salt key) (ciI (ciExpand t (ciWord salt) (ciWord key))) := by
  simp only [pestleref10_Expand.f]
  have h := ex_l0 ho salt key hs hk 1042 0 rfl
  rw [List.take_zero, List.nil_append] at h
  have e : ((ciI t).length : Int).toNat = 1042 := by rw [ciI_len, ho.1]; rfl
  rw [e]
  exact To.pos (by omega) (To.pos (by omega) h)
end
end Go.Proofs.Ytimgndceiibaeaa.Bf2
