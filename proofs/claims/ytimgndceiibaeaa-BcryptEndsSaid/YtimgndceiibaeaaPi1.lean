/- The digits of pi that pi's functions hold, and their words, in plain numbers. -/
import Derived.Test.YtimgndceiibaeaaLib
import Derived.Test.YtimgndceiibaeaaPallx1
namespace Go.Proofs.Ytimgndceiibaeaa.Pi1
open Go.RowKit Go.Proofs.YtimgndceiibaeaaW.PrintWords Go.Proofs.YtimgndceiibaeaaW.PrintLast Go.Proofs.Ytimgndceiibaeaa.Pall Go.Proofs.Ytimgndceiibaeaa.Lib

/-- the digit at a place behind the point -/
def digN (n : Nat) : Nat := pi_LL / 16 ^ (8335 - n) % 16
theorem digN_lt (n : Nat) : digN n < 16 := Nat.mod_lt _ (by omega)
theorem list_get : ∀ (m i : Nat) (h : i < (pi_list m).length), (pi_list m)[i] = UInt8.ofNat (pi_hexN (pi_LL / 16 ^ (m - 1 - i) % 16))
  | 0, i, h => by simp [pi_list] at h
  | m + 1, 0, _ => rfl
  | m + 1, i + 1, h => by
    have h' : i < (pi_list m).length := by rw [pi_list_len] at h ⊢; omega
    have := list_get m i h'
    rw [show m + 1 - 1 - (i + 1) = m - 1 - i by omega, ← this]
    rfl
theorem hex_small : ∀ d : Fin 16, (UInt8.ofNat (pi_hexN d.1)).toNat = pi_hexN d.1 ∧ pi_value.f (pi_hexN d.1 : Int) = some (d.1 : Int) := by decide +kernel
theorem dig_bt {n : Nat} (h : n < 8336) : bt pi_DG (n : Int) = (pi_hexN (digN n) : Int) := by
  have hs : n < pi_DG.size := by rw [pi_DG_size]; exact h
  unfold bt
  rw [dif_pos (show ((n : Int)).toNat < pi_DG.size from hs)]
  have hl : n < (pi_list 8336).length := by rw [pi_list_len]; exact h
  have e : pi_DG[((n : Int)).toNat]'hs = (pi_list 8336)[n] := rfl
  rw [e, list_get]
  exact congrArg Int.ofNat (hex_small ⟨digN n, digN_lt n⟩).1
theorem dig_value {n : Nat} (h : n < 8336) : pi_value.f (bt pi_DG (n : Int)) = some (digN n : Int) := by
  rw [dig_bt h]; exact (hex_small ⟨digN n, digN_lt n⟩).2
def digS (i : Int) : Int × Int := if 0 ≤ i ∧ i < 8336 then ((digN i.toNat : Int), 0) else (0, 11)
theorem digS_in {n : Nat} (h : n < 8336) : digS (n : Int) = ((digN n : Int), 0) := if_pos (by omega)
theorem digS_out {i : Int} (h : i < 0 ∨ 8335 < i) : digS i = (0, 11) := if_neg (by omega)

/-- so many digits of a word -/
def wordN (i : Nat) : Nat → Nat
  | 0 => 0
  | k + 1 => 16 * wordN i k + digN (8 * i + k)
theorem wordN_lt (i k : Nat) : wordN i k < 16 ^ k := by
  induction k with
  | zero => exact Nat.one_pos
  | succ k ih =>
    have := digN_lt (8 * i + k)
    rw [wordN, Nat.pow_succ]; omega
theorem or32 (a b : Nat) (ha : a < 4294967296) (hb : b < 4294967296) : bits .or .u32 (a : Int) (b : Int) = ((a ||| b : Nat) : Int) := by
  have hx : a ||| b < 2 ^ 32 := Nat.or_lt_two_pow (by omega) (by omega)
  have h1 : (BitVec.ofInt 32 (a : Int)).toNat = a := by
    rw [BitVec.ofInt_natCast, BitVec.toNat_ofNat]; exact Nat.mod_eq_of_lt (by omega)
  have h2 : (BitVec.ofInt 32 (b : Int)).toNat = b := by
    rw [BitVec.ofInt_natCast, BitVec.toNat_ofNat]; exact Nat.mod_eq_of_lt (by omega)
  show IntKind.u32.wrap ((BitVec.ofInt 32 (a : Int) ||| BitVec.ofInt 32 (b : Int)).toNat : Int) = _
  rw [BitVec.toNat_or, h1, h2, IntKind.wrap_u32]
  omega
theorem or_digit (w d : Nat) (hw : w < 268435456) (hd : d < 16) : bits .or .u32 (((w : Int) * 16) % 4294967296) ((d : Int) % 4294967296) = ((16 * w + d : Nat) : Int) := by
  rw [show ((w : Int) * 16) % 4294967296 = ((16 * w : Nat) : Int) by omega, show (d : Int) % 4294967296 = (d : Int) by omega, or32 _ _ (by omega) (by omega)]
  have : w <<< 4 + d = w <<< 4 ||| d := Nat.shiftLeft_add_eq_or_of_lt (b := d) (i := 4) hd w
  rw [Nat.shiftLeft_eq] at this
  rw [show 16 * w = w * 2 ^ 4 by omega, this]
theorem word_l0 (i : Nat) (hi : i < 1042) (d : Nat) : ∀ n : Nat, n + d = 8 → To (fun k => pi_Word.l0 k (i : Int) (wordN i n : Int) (n : Int)) ((wordN i 8 : Int), 0) := by
  induction d with
  | zero =>
    intro n hn
    refine To.step ?_
    simp only [pi_Word.l0]
    obtain rfl : n = 8 := by omega
    exact To.neg (by omega) (To.ret _)
  | succ d ih =>
    intro n hn
    have hw : wordN i n < 268435456 := by
      have h1 := wordN_lt i n
      have h2 : 16 ^ n ≤ 16 ^ 7 := Nat.pow_le_pow_right (by omega) (by omega)
      omega
    refine To.step ?_
    simp only [pi_Word.l0]
    rw [wrap_id (x := 8 * (i : Int)) (by omega) (by omega), wrap_id (x := 8 * (i : Int) + (n : Int)) (by omega) (by omega), wrap_id (x := (n : Int) + 1) (by omega) (by omega)]
    rw [show 8 * (i : Int) + (n : Int) = ((8 * i + n : Nat) : Int) by omega]
    refine To.pos (by omega) (To.pos (by omega) (To.pos (by omega) (To.bind0 (dig_value (by omega)) ?_)))
    rw [or_digit _ _ hw (digN_lt _)]
    exact ih (n + 1) (by omega)
def wordS (i : Int) : Int × Int := if 0 ≤ i ∧ i < 1042 then ((wordN i.toNat 8 : Int), 0) else (0, 11)
theorem wordS_in {n : Nat} (h : n < 1042) : wordS (n : Int) = ((wordN n 8 : Int), 0) := if_pos (by omega)
theorem wordS_out {i : Int} (h : i < 0 ∨ 1041 < i) : wordS i = (0, 11) := if_neg (by omega)
theorem word_to (i : Int) : To (fun k => pi_Word.f k i) (wordS i) := by
  simp only [pi_Word.f]
  have jt : To (fun k => pi_Word.j0 k i true) (0, 11) := by
    refine To.step ?_
    simp only [pi_Word.j0]
    exact To.pos trivial (To.ret _)
  refine To.ite (fun h => jt.eq (wordS_out (by omega)).symm) (fun h => ?_)
  by_cases h2 : i ≥ 1042
  · rw [decide_eq_true h2]; exact jt.eq (wordS_out (by omega)).symm
  rw [decide_eq_false h2]
  obtain ⟨n, rfl⟩ : ∃ n : Nat, i = n := ⟨i.toNat, by omega⟩
  refine To.step ?_
  simp only [pi_Word.j0]
  refine To.neg (by decide) ?_
  rw [wordS_in (by omega)]
  exact word_l0 n (by omega) 8 0 rfl
end Go.Proofs.Ytimgndceiibaeaa.Pi1
