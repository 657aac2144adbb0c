/- Sixteen to a power modulo a number, quotients of two words by one, and the first bits of a fraction: what pi's functions and the reference's answer. -/
import Derived.Test.YtimgndceiibaeaaLib
import Derived.Test.YtimgndceiibaeaaPallx2
import Derived.Test.YtimgndceiibaeaaPallx3
namespace Go.Proofs.Ytimgndceiibaeaa.Pi2
open Go.RowKit Go.Proofs.YtimgndceiibaeaaW.PrintWords Go.Proofs.YtimgndceiibaeaaW.PrintLast Go.Proofs.Ytimgndceiibaeaa.Pall Go.Proofs.Ytimgndceiibaeaa.Lib

theorem u64_id {a : Nat} (h : a < 18446744073709551616) : IntKind.u64.wrap (a : Int) = (a : Int) := by rw [IntKind.wrap_u64]; omega
theorem pow_half (o c n m : Nat) : o * (c % m) ^ n % m = o * c ^ n % m := by
  rw [Nat.mul_mod, ← Nat.pow_mod, ← Nat.mul_mod]
theorem pow_odd (o b n m : Nat) (h : n % 2 = 1) : o * b % m * (b * b % m) ^ (n / 2) % m = o * b ^ n % m := by
  rw [pow_half, Nat.mod_mul_mod, ← Nat.pow_two, ← Nat.pow_mul, Nat.mul_assoc, ← Nat.pow_succ', show (2 * (n / 2)).succ = n by omega]
theorem pow_even (o b n m : Nat) (h : n % 2 = 0) : o * (b * b % m) ^ (n / 2) % m = o * b ^ n % m := by
  rw [pow_half, ← Nat.pow_two, ← Nat.pow_mul, show 2 * (n / 2) = n by omega]
theorem pow_l0 (m : Nat) (hm : 0 < m) (hm2 : m ≤ 4294967295) (n : Nat) : ∀ (o b : Nat), o < m → b < m → n ≤ 1000000 →
    To (fun k => pi_power.l0 k (n : Int) (m : Int) (o : Int) (b : Int)) ((o * b ^ n % m : Nat) : Int) := by
  induction n using Nat.strongRecOn with
  | _ n ih =>
    intro o b ho hb hn
    refine To.step ?_
    simp only [pi_power.l0]
    have p1 : o * b < 18446744073709551616 := by
      have := Nat.mul_le_mul (show o ≤ 4294967294 by omega) (show b ≤ 4294967294 by omega); omega
    have p2 : b * b < 18446744073709551616 := by
      have := Nat.mul_le_mul (show b ≤ 4294967294 by omega) (show b ≤ 4294967294 by omega); omega
    rw [Int.tmod_eq_emod_of_nonneg (a := (n : Int)) (by omega), Int.tdiv_eq_ediv_of_nonneg (a := (n : Int)) (by omega), wrap_id (x := (n : Int) / 2) (by omega) (by omega)]
    rw [show (o : Int) * (b : Int) = ((o * b : Nat) : Int) from (Int.natCast_mul o b).symm, show (b : Int) * (b : Int) = ((b * b : Nat) : Int) from (Int.natCast_mul b b).symm, u64_id p1, u64_id p2, Int.tmod_eq_emod_of_nonneg (a := ((o * b : Nat) : Int)) (by omega), Int.tmod_eq_emod_of_nonneg (a := ((b * b : Nat) : Int)) (by omega)]
    rw [show ((o * b : Nat) : Int) % (m : Int) = ((o * b % m : Nat) : Int) from (Int.natCast_emod _ _).symm, show ((b * b : Nat) : Int) % (m : Int) = ((b * b % m : Nat) : Int) from (Int.natCast_emod _ _).symm, show (n : Int) / 2 = ((n / 2 : Nat) : Int) by omega]
    by_cases h0 : n = 0
    · subst h0
      refine To.neg (by omega) (To.ret' ?_)
      rw [Nat.pow_zero, Nat.mul_one, Nat.mod_eq_of_lt ho]
    refine To.pos (by omega) ?_
    have lt : n / 2 < n := by omega
    by_cases h1 : n % 2 = 1
    · refine To.pos (by omega) (To.neg (by omega) ?_)
      refine (ih (n / 2) lt (o * b % m) (b * b % m) (Nat.mod_lt _ hm) (Nat.mod_lt _ hm) (by omega)).eq ?_
      rw [pow_odd o b n m h1]
    · refine To.neg (by omega) (To.neg (by omega) ?_)
      refine (ih (n / 2) lt o (b * b % m) ho (Nat.mod_lt _ hm) (by omega)).eq ?_
      rw [pow_even o b n m (by omega)]
theorem pow_to (n m : Nat) (hm : 0 < m) (hm2 : m ≤ 4294967295) (hn : n ≤ 1000000) : To (fun k => pi_power.f k (n : Int) (m : Int)) ((16 ^ n % m : Nat) : Int) := by
  simp only [pi_power.f]
  refine To.neg (by omega) ?_
  rw [show (1 : Int) % (m : Int) = ((1 % m : Nat) : Int) from (Int.natCast_emod 1 m).symm, show (16 : Int) % (m : Int) = ((16 % m : Nat) : Int) from (Int.natCast_emod 16 m).symm]
  refine (pow_l0 m hm hm2 n (1 % m) (16 % m) (Nat.mod_lt _ hm) (Nat.mod_lt _ hm) hn).eq ?_
  rw [Nat.mod_mul_mod, Nat.one_mul, ← Nat.pow_mod]
theorem rpow_l0 (m : Nat) (hm : 0 < m) (hm2 : m ≤ 4294967295) (n : Nat) : ∀ (o b : Nat), o < m → b < m → n ≤ 1000000 →
    To (fun k => pestleref09_power.l0 k (n : Int) (m : Int) (o : Int) (b : Int)) ((o * b ^ n % m : Nat) : Int) := by
  induction n using Nat.strongRecOn with
  | _ n ih =>
    intro o b ho hb hn
    refine To.step ?_
    simp only [pestleref09_power.l0]
    have p1 : o * b < 18446744073709551616 := by
      have := Nat.mul_le_mul (show o ≤ 4294967294 by omega) (show b ≤ 4294967294 by omega); omega
    have p2 : b * b < 18446744073709551616 := by
      have := Nat.mul_le_mul (show b ≤ 4294967294 by omega) (show b ≤ 4294967294 by omega); omega
    rw [Int.tmod_eq_emod_of_nonneg (a := (n : Int)) (by omega), Int.tdiv_eq_ediv_of_nonneg (a := (n : Int)) (by omega), wrap_id (x := (n : Int) / 2) (by omega) (by omega)]
    rw [show (o : Int) * (b : Int) = ((o * b : Nat) : Int) from (Int.natCast_mul o b).symm, show (b : Int) * (b : Int) = ((b * b : Nat) : Int) from (Int.natCast_mul b b).symm, u64_id p1, u64_id p2, Int.tmod_eq_emod_of_nonneg (a := ((o * b : Nat) : Int)) (by omega), Int.tmod_eq_emod_of_nonneg (a := ((b * b : Nat) : Int)) (by omega)]
    rw [show ((o * b : Nat) : Int) % (m : Int) = ((o * b % m : Nat) : Int) from (Int.natCast_emod _ _).symm, show ((b * b : Nat) : Int) % (m : Int) = ((b * b % m : Nat) : Int) from (Int.natCast_emod _ _).symm, show (n : Int) / 2 = ((n / 2 : Nat) : Int) by omega]
    by_cases h0 : n = 0
    · subst h0
      refine To.neg (by omega) (To.ret' ?_)
      rw [Nat.pow_zero, Nat.mul_one, Nat.mod_eq_of_lt ho]
    refine To.pos (by omega) ?_
    have lt : n / 2 < n := by omega
    by_cases h1 : n % 2 = 1
    · refine To.pos (by omega) (To.neg (by omega) ?_)
      refine (ih (n / 2) lt (o * b % m) (b * b % m) (Nat.mod_lt _ hm) (Nat.mod_lt _ hm) (by omega)).eq ?_
      rw [pow_odd o b n m h1]
    · refine To.neg (by omega) (To.neg (by omega) ?_)
      refine (ih (n / 2) lt o (b * b % m) ho (Nat.mod_lt _ hm) (by omega)).eq ?_
      rw [pow_even o b n m (by omega)]
theorem rpow_to (n m : Nat) (hm : 0 < m) (hm2 : m ≤ 4294967295) (hn : n ≤ 1000000) : To (fun k => pestleref09_power.f k (n : Int) (m : Int)) ((16 ^ n % m : Nat) : Int) := by
  simp only [pestleref09_power.f]
  refine To.neg (by omega) ?_
  rw [show (1 : Int) % (m : Int) = ((1 % m : Nat) : Int) from (Int.natCast_emod 1 m).symm, show (16 : Int) % (m : Int) = ((16 % m : Nat) : Int) from (Int.natCast_emod 16 m).symm]
  refine (rpow_l0 m hm hm2 n (1 % m) (16 % m) (Nat.mod_lt _ hm) (Nat.mod_lt _ hm) hn).eq ?_
  rw [Nat.mod_mul_mod, Nat.one_mul, ← Nat.pow_mod]

/-- the first bits behind the point of a fraction below 1 -/
theorem part_l0 (m : Nat) (hm : 0 < m) (hm2 : m ≤ 4294967295) (d : Nat) : ∀ (a o n : Nat), a < m → n + d = 60 → o < 2 ^ n →
    To (fun k => pestleref09_part.l0 k (a : Int) (m : Int) (o : Int) (n : Int)) ((o * 2 ^ d + a * 2 ^ d / m : Nat) : Int) := by
  induction d with
  | zero =>
    intro a o n ha hn ho
    refine To.step ?_
    simp only [pestleref09_part.l0]
    refine To.neg (by omega) (To.ret' ?_)
    rw [Nat.pow_zero, Nat.mul_one, Nat.mul_one, Nat.div_eq_of_lt ha, Nat.add_zero]
  | succ d ih =>
    intro a o n ha hn ho
    have ho' : o < 2 ^ 59 := Nat.lt_of_lt_of_le ho (Nat.pow_le_pow_right (by omega) (by omega))
    refine To.step ?_
    simp only [pestleref09_part.l0]
    rw [show (2 : Int) * (a : Int) = ((2 * a : Nat) : Int) by omega, show (2 : Int) * (o : Int) = ((2 * o : Nat) : Int) by omega, u64_id (a := 2 * a) (by omega), u64_id (a := 2 * o) (by omega), wrap_id (x := (n : Int) + 1) (by omega) (by omega)]
    have e2 : a * 2 ^ (d + 1) = 2 * a * 2 ^ d := by rw [Nat.pow_succ, Nat.mul_comm (2 ^ d) 2, ← Nat.mul_assoc, Nat.mul_comm a 2]
    have e3 : o * 2 ^ (d + 1) = 2 * o * 2 ^ d := by rw [Nat.pow_succ, Nat.mul_comm (2 ^ d) 2, ← Nat.mul_assoc, Nat.mul_comm o 2]
    have ho2 : 2 * o + 1 < 2 ^ (n + 1) := by rw [Nat.pow_succ]; omega
    refine To.pos (by omega) (To.ite (fun h => ?_) (fun h => ?_))
    · rw [show ((2 * a : Nat) : Int) - (m : Int) = ((2 * a - m : Nat) : Int) by omega, u64_id (by omega), show ((2 * o : Nat) : Int) + 1 = ((2 * o + 1 : Nat) : Int) by omega, u64_id (by omega)]
      refine (ih (2 * a - m) (2 * o + 1) (n + 1) (by omega) (by omega) ho2).eq ?_
      have : 2 * a * 2 ^ d / m = (2 * a - m) * 2 ^ d / m + 2 ^ d := by
        rw [show 2 * a * 2 ^ d = (2 * a - m) * 2 ^ d + m * 2 ^ d by rw [← Nat.add_mul, Nat.sub_add_cancel (by omega)], Nat.add_mul_div_left _ _ hm]
      rw [e2, e3, this, Nat.add_mul, Nat.one_mul]
      congr 1; omega
    · refine (ih (2 * a) (2 * o) (n + 1) (by omega) (by omega) (by omega)).eq ?_
      rw [e2, e3]
theorem part_to (a m : Nat) (ha : a < m) (hm2 : m ≤ 4294967295) : To (fun k => pestleref09_part.f k (a : Int) (m : Int)) ((a * 2 ^ 60 / m : Nat) : Int) := by
  simp only [pestleref09_part.f]
  have := part_l0 m (by omega) hm2 60 a 0 0 ha rfl (by omega)
  rw [Nat.zero_mul, Nat.zero_add] at this
  exact this
end Go.Proofs.Ytimgndceiibaeaa.Pi2
