/- The sum of Blowfish's tables, as the reference reckons it. -/
import Derived.Test.YtimgndceiibaeaaBf1
import Derived.Test.YtimgndceiibaeaaPallx1
namespace Go.Proofs.Ytimgndceiibaeaa.Bf3
open Go.RowKit Go.Proofs.Ytimgndceiibaeaa.Pall Go.Proofs.YtimgndceiibaeaaW.PrintWords Go.Proofs.YtimgndceiibaeaaW.PrintLast Go.Proofs.Ytimgndceiibaeaa.Lib Go.Proofs.Ytimgndceiibaeaa.Bf1

/-- turned to the left by n places -/
def rot (x n : Nat) : Nat := x * 2 ^ n % 4294967296 + x / 2 ^ (32 - n)
theorem rot_zero {x : Nat} (hx : x < 4294967296) : rot x 0 = x := by
  unfold rot
  rw [show 2 ^ (32 - 0) = 4294967296 from rfl, Nat.pow_zero]; omega
theorem rot_step {x n : Nat} (hx : x < 4294967296) (hn : n < 32) : (rot x n * 2 % 4294967296 + rot x n / 2147483648) % 4294967296 = rot x (n + 1) := by
  unfold rot
  have p : 2 ^ (32 - n) = 2 * 2 ^ (31 - n) := by rw [show 32 - n = (31 - n) + 1 by omega, Nat.pow_succ, Nat.mul_comm]
  have q : 2 ^ n * 2 ^ (31 - n) = 2147483648 := by rw [← Nat.pow_add, show n + (31 - n) = 31 by omega]
  have r : 32 - (n + 1) = 31 - n := by omega
  rw [p, r, Nat.pow_succ]
  have a0 : 0 < 2 ^ n := Nat.two_pow_pos n
  have b0 : 0 < 2 ^ (31 - n) := Nat.two_pow_pos _
  generalize 2 ^ n = a at q a0
  generalize 2 ^ (31 - n) = b at q b0
  -- x = c * (2 b) + e * b + d
  obtain ⟨c, hc⟩ : ∃ c, x / (2 * b) = c := ⟨_, rfl⟩
  obtain ⟨m, hm⟩ : ∃ m, x % (2 * b) = m := ⟨_, rfl⟩
  have hx2 : x = 2 * b * c + m := by rw [← hc, ← hm]; exact (Nat.div_add_mod x (2 * b)).symm
  have hm2 : m < 2 * b := by rw [← hm]; exact Nat.mod_lt _ (by omega)
  obtain ⟨e, he⟩ : ∃ e, m / b = e := ⟨_, rfl⟩
  obtain ⟨d, hd⟩ : ∃ d, m % b = d := ⟨_, rfl⟩
  have hme : m = b * e + d := by rw [← he, ← hd]; exact (Nat.div_add_mod m b).symm
  have hdb : d < b := by rw [← hd]; exact Nat.mod_lt _ b0
  have he2 : e < 2 := by
    rw [← he]; exact Nat.div_lt_of_lt_mul (by rw [Nat.mul_comm]; exact hm2)
  have hca : c < a := by
    rw [← hc]
    refine Nat.div_lt_of_lt_mul ?_
    rw [show 2 * b * a = 2 * (a * b) by rw [Nat.mul_assoc, Nat.mul_comm b a], q]; exact hx
  have m1 : x * a % 4294967296 = m * a := by
    rw [hx2, Nat.add_mul, show 2 * b * c * a = 4294967296 * c by rw [Nat.mul_right_comm, show 2 * b * a = 4294967296 by rw [Nat.mul_assoc, Nat.mul_comm b a, q]], Nat.mul_add_mod]
    refine Nat.mod_eq_of_lt ?_
    have := Nat.mul_lt_mul_of_pos_right hm2 a0
    rw [Nat.mul_assoc 2 b a, Nat.mul_comm b a, q] at this
    exact this
  have m2 : m * a = 2147483648 * e + d * a := by rw [hme, Nat.add_mul, Nat.mul_right_comm, Nat.mul_comm b a, q]
  have m3 : d * a + c < 2147483648 := by
    have h1 : (d + 1) * a ≤ b * a := Nat.mul_le_mul_right a hdb
    rw [Nat.add_mul, Nat.one_mul, Nat.mul_comm b a, q] at h1
    omega
  have n1 : x * (a * 2) % 4294967296 = d * a * 2 := by
    have : x * (a * 2) = 4294967296 * (2 * c + e) + d * a * 2 := by
      rw [← Nat.mul_assoc, show x * a = 4294967296 * c + m * a by
        rw [hx2, Nat.add_mul, Nat.mul_right_comm, show 2 * b * a = 4294967296 by rw [Nat.mul_assoc, Nat.mul_comm b a, q]], m2]
      omega
    rw [this, Nat.mul_add_mod]
    exact Nat.mod_eq_of_lt (by omega)
  have n2 : x / b = 2 * c + e := by
    rw [hx2, hme, show 2 * b * c + (b * e + d) = b * (2 * c + e) + d by rw [Nat.mul_add, ← Nat.add_assoc, Nat.mul_comm 2 b, Nat.mul_assoc]]
    rw [Nat.mul_add_div b0, Nat.div_eq_of_lt hdb, Nat.add_zero]
  rw [m1, m2, n1, n2, hc]
  clear m1 m2 n1 n2 hc hm hx2 hm2 he hd hme hdb hca p q r hx hn a0 b0
  generalize d * a = z at m3 ⊢
  obtain ⟨y, hy⟩ : ∃ y, z + c = y := ⟨_, rfl⟩
  rw [Nat.add_assoc (2147483648 * e) z c, hy]
  rw [hy] at m3
  have k1 : (2147483648 * e + y) / 2147483648 = e := by omega
  have k2 : (2147483648 * e + y) * 2 % 4294967296 = 2 * y := by omega
  rw [k1, k2]
  omega
theorem rot_lt {x n : Nat} (hx : x < 4294967296) (hn : n ≤ 32) : rot x n < 4294967296 := by
  cases n with
  | zero => rw [rot_zero hx]; exact hx
  | succ n => rw [← rot_step hx (by omega)]; exact Nat.mod_lt _ (by omega)
theorem left_l0 (x : Nat) (hx : x < 4294967296) (m : Nat) (hm : m ≤ 31) (d : Nat) : ∀ n : Nat, n + d = m → To (fun k => pestleref01_Left.l0 k ((rot x n : Nat) : Int) (m : Int) (n : Int)) ((rot x m : Nat) : Int) := by
  induction d with
  | zero =>
    intro n hn
    obtain rfl : n = m := by omega
    refine To.step ?_
    simp only [pestleref01_Left.l0]
    exact To.neg (by omega) (To.ret _)
  | succ d ih =>
    intro n hn
    have i1 := ih (n + 1) (by omega)
    have hl := rot_lt hx (n := n) (by omega)
    refine To.step ?_
    simp only [pestleref01_Left.l0]
    rw [wrap_id (x := (n : Int) + 1) (by omega) (by omega), Int.tdiv_eq_ediv_of_nonneg (by omega)]
    refine To.pos (by omega) ?_
    rw [← rot_step hx (by omega)] at i1
    rw [show (((rot x n : Nat) : Int) * 2 % 4294967296 + ((rot x n : Nat) : Int) / 2147483648 % 4294967296) % 4294967296 = (((rot x n * 2 % 4294967296 + rot x n / 2147483648) % 4294967296 : Nat) : Int) by omega]
    exact i1
theorem left_to (x : Nat) (hx : x < 4294967296) (i : Nat) : To (fun k => pestleref01_Left.f k (x : Int) (Int.tmod (i : Int) 32)) ((rot x (i % 32) : Nat) : Int) := by
  simp only [pestleref01_Left.f]
  have e1 : Int.tmod (i : Int) 32 = ((i % 32 : Nat) : Int) := by rw [Int.tmod_eq_emod_of_nonneg (by omega)]; omega
  have e2 : Int.tmod ((i % 32 : Nat) : Int) 32 = ((i % 32 : Nat) : Int) := by rw [Int.tmod_eq_emod_of_nonneg (by omega)]; omega
  rw [e1, e2]
  refine To.neg (by omega) (To.step ?_)
  simp only [pestleref01_Left.j0]
  have h := left_l0 x hx (i % 32) (by omega) (i % 32) 0 (by omega)
  rw [rot_zero hx] at h
  exact h
theorem or32 (a b : Nat) (ha : a < 4294967296) (hb : b < 4294967296) : bits .or .u32 (a : Int) (b : Int) = ((a ||| b : Nat) : Int) := by
  have hx : a ||| b < 2 ^ 32 := Nat.or_lt_two_pow (by omega) (by omega)
  have h1 : (BitVec.ofInt 32 (a : Int)).toNat = a := by
    rw [BitVec.ofInt_natCast, BitVec.toNat_ofNat]; exact Nat.mod_eq_of_lt (by omega)
  have h2 : (BitVec.ofInt 32 (b : Int)).toNat = b := by
    rw [BitVec.ofInt_natCast, BitVec.toNat_ofNat]; exact Nat.mod_eq_of_lt (by omega)
  show IntKind.u32.wrap ((BitVec.ofInt 32 (a : Int) ||| BitVec.ofInt 32 (b : Int)).toNat : Int) = _
  rw [BitVec.toNat_or, h1, h2, IntKind.wrap_u32]
  omega
theorem left_is (x : Nat) (hx : x < 4294967296) (i : Nat) (hi : i ≤ 100000) : ciLeft x i = ((rot x (i % 32) : Nat) : Int) := by
  have h := ciLeft_some x i
  unfold words_Left32.f at h
  have e0 : IntKind.u64.wrap (i : Int) = (i : Int) := by rw [IntKind.wrap_u64]; omega
  have e1 : Int.tmod (i : Int) 32 = ((i % 32 : Nat) : Int) := by rw [Int.tmod_eq_emod_of_nonneg (by omega)]; omega
  have e2 : IntKind.u64.wrap (32 - ((i % 32 : Nat) : Int)) = ((32 - i % 32 : Nat) : Int) := by rw [IntKind.wrap_u64]; omega
  rw [e0, e1, e2, if_pos (by omega), if_pos (by omega)] at h
  have h' := (Option.some.inj h).symm
  rw [h']
  obtain ⟨n, hn⟩ : ∃ n, i % 32 = n := ⟨_, rfl⟩
  have hn32 : n < 32 := by omega
  rw [hn]
  have s1 : shl .u32 (x : Int) (n : Int) = ((x * 2 ^ n % 4294967296 : Nat) : Int) := by
    unfold shl
    rw [show ((n : Int)).toNat = n from rfl, show IntKind.u32.bits = 32 from rfl, Nat.min_eq_left (by omega), IntKind.wrap_u32]
    have : (2 : Int) ^ n = ((2 ^ n : Nat) : Int) := (Int.natCast_pow 2 n).symm
    rw [this]; omega
  have s2 : shr .u32 (x : Int) ((32 - n : Nat) : Int) = ((x / 2 ^ (32 - n) : Nat) : Int) := by
    unfold shr
    rw [show (((32 - n : Nat) : Int)).toNat = 32 - n from rfl, show IntKind.u32.bits = 32 from rfl, Nat.min_eq_left (by omega), Int.natCast_ediv, Int.natCast_pow]; rfl
  have b1 : x * 2 ^ n % 4294967296 < 4294967296 := Nat.mod_lt _ (by omega)
  have pw : 2 ^ n * 2 ^ (32 - n) = 4294967296 := by rw [← Nat.pow_add, show n + (32 - n) = 32 by omega]
  have b2 : x / 2 ^ (32 - n) < 2 ^ n := Nat.div_lt_of_lt_mul (by rw [Nat.mul_comm, pw]; exact hx)
  have b3 : 2 ^ n ≤ 2 ^ 31 := Nat.pow_le_pow_right (by omega) (by omega)
  rw [s1, s2, or32 _ _ b1 (by omega)]
  congr 1
  have e : x * 2 ^ n % 4294967296 = (x % 2 ^ (32 - n)) <<< n := by
    rw [Nat.shiftLeft_eq, ← pw, Nat.mul_comm (2 ^ n), Nat.mul_mod_mul_right]
  unfold rot
  rw [e, Nat.shiftLeft_add_eq_or_of_lt b2]
theorem sum_l0 {t : List Nat} (ho : ciOk t) (d : Nat) : ∀ (n : Nat) (s : Int), n + d = 1042 → To (fun k => pestleref10_Sum.l0 k (ciI t) s (n : Int)) (ciSumR t d n s) := by
  induction d with
  | zero =>
    intro n s hn
    refine To.step ?_
    simp only [pestleref10_Sum.l0]
    rw [lenI ho]
    exact To.neg (by omega) (To.ret _)
  | succ d ih =>
    intro n s hn
    refine To.step ?_
    simp only [pestleref10_Sum.l0]
    rw [lenI ho, rdI ho n (by omega), wrap_id (x := (n : Int) + 1) (by omega) (by omega)]
    have hl := left_to _ (ho.2 n) n
    rw [← left_is _ (ho.2 n) n (by omega)] at hl
    refine To.pos (by omega) (To.pos (by omega) (To.bind hl ?_))
    rw [ciSumR_succ]
    exact ih (n + 1) _ (by omega)
theorem sum_to {t : List Nat} (ho : ciOk t) : To (fun k => pestleref10_Sum.f k (ciI t)) (ciSum t) := by
  simp only [pestleref10_Sum.f]
  exact sum_l0 ho 1042 0 0 rfl
end Go.Proofs.Ytimgndceiibaeaa.Bf3
