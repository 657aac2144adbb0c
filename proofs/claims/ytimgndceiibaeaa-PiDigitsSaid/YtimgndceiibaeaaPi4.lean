/- The two series, in plain numbers: the program's sums (64 bits) and the reference's (60 bits). -/
import Derived.Test.YtimgndceiibaeaaPi3
import Derived.Test.YtimgndceiibaeaaPiMath
import Derived.Test.YtimgndceiibaeaaPallx3
namespace Go.Proofs.Ytimgndceiibaeaa.Pi4
open Go.RowKit Go.Proofs.YtimgndceiibaeaaW.PrintWords Go.Proofs.YtimgndceiibaeaaW.PrintLast Go.Proofs.Ytimgndceiibaeaa.Pall Go.Proofs.Ytimgndceiibaeaa.Lib Go.Proofs.Ytimgndceiibaeaa.Pi2 Go.Proofs.Ytimgndceiibaeaa.Pi3 Go.Proofs.Ytimgndceiibaeaa.PiMath

def term (j M k : Nat) : Nat := 16 ^ (M - k) / (8 * k + j)
theorem S_is (j M : Nat) : S j M = sm (term j M) (M + 1) := rfl
/-- a whole term, of which the whole parts are cut off -/
theorem term_mod (A m B : Nat) (hm : 0 < m) : (A % m * B / m) % B = (A * B / m) % B := by
  have e : A * B = A % m * B + m * (A / m * B) := by
    have := Nat.div_add_mod A m
    rw [← Nat.mul_assoc, ← Nat.add_mul, Nat.add_comm (A % m), this]
  rw [e, Nat.add_mul_div_left _ _ hm, Nat.mul_comm (A / m) B, Nat.add_mul_mod_self_left]
theorem series_l1 (i j : Nat) (hi : i < 8336) (hj : 1 ≤ j ∧ j ≤ 6) (d : Nat) : ∀ (n s : Nat), n + d = i + 17 → d ≤ 16 → s = sm (term j (i + 16)) n % 18446744073709551616 →
    To (fun k => pi_series.l1 k (j : Int) (s : Int) (n : Int) (IntKind.u64.wrap (4 * (d : Int) - 4))) ((S j (i + 16) % 18446744073709551616 : Nat) : Int) := by
  induction d with
  | zero =>
    intro n s hn hd hs
    refine To.step ?_
    simp only [pi_series.l1]
    refine To.neg (by rw [IntKind.wrap_u64]; omega) (To.ret' ?_)
    rw [hs, S_is, show n = i + 16 + 1 by omega]
  | succ d ih =>
    intro n s hn hd hs
    refine To.step ?_
    simp only [pi_series.l1]
    have e1 : IntKind.u64.wrap (4 * ((d + 1 : Nat) : Int) - 4) = ((4 * d : Nat) : Int) := by rw [IntKind.wrap_u64]; omega
    rw [e1, u64_id (a := n) (by omega), show (8 : Int) * (n : Int) = ((8 * n : Nat) : Int) by omega, u64_id (a := 8 * n) (by omega), show ((8 * n : Nat) : Int) + (j : Int) = ((8 * n + j : Nat) : Int) by omega, u64_id (a := 8 * n + j) (by omega)]
    have p : 2 ^ (4 * d) < 18446744073709551616 := by
      have := Nat.pow_le_pow_right (n := 2) (show 0 < 2 by omega) (show 4 * d ≤ 60 by omega)
      have e : (2 : Nat) ^ 60 = 1152921504606846976 := by decide +kernel
      omega
    have hsh := shl_nat 1 (4 * d) (by omega) (by rw [Nat.one_mul]; exact p)
    rw [Nat.one_mul] at hsh
    rw [show shl .u64 1 ((4 * d : Nat) : Int) = ((2 ^ (4 * d) : Nat) : Int) from hsh, ← Int.natCast_ediv]
    have q : 2 ^ (4 * d) / (8 * n + j) ≤ 2 ^ (4 * d) := Nat.div_le_self _ _
    rw [u64_id (a := 2 ^ (4 * d) / (8 * n + j)) (by omega), wrap_id (x := (n : Int) + 1) (by omega) (by omega)]
    have t : term j (i + 16) n = 2 ^ (4 * d) / (8 * n + j) := by
      unfold term
      rw [show i + 16 - n = d by omega, show (16 : Nat) = 2 ^ 4 from rfl, ← Nat.pow_mul]
    have hs' : IntKind.u64.wrap ((s : Int) + ((2 ^ (4 * d) / (8 * n + j) : Nat) : Int)) = ((sm (term j (i + 16)) (n + 1) % 18446744073709551616 : Nat) : Int) := by
      rw [IntKind.wrap_u64, sm_succ, t, hs]
      generalize sm (term j (i + 16)) n = a
      generalize 2 ^ (4 * d) / (8 * n + j) = b
      omega
    rw [hs', show ((4 * d : Nat) : Int) - 4 = 4 * (d : Int) - 4 by omega]
    exact To.pos (by omega) (To.pos (by omega) (To.neg (by omega) (ih (n + 1) _ (by omega) (by omega) rfl)))
theorem acc_mod {s a b c : Nat} (hs : s = a % 18446744073709551616) (hm : b % 18446744073709551616 = c % 18446744073709551616) : IntKind.u64.wrap ((s : Int) + (b : Int)) = (((a + c) % 18446744073709551616 : Nat) : Int) := by
  rw [IntKind.wrap_u64]; omega
theorem series_l0 (i j : Nat) (hi : i < 8336) (hj : 1 ≤ j ∧ j ≤ 6) (d : Nat) : ∀ (n s : Nat), n + d = i + 1 → s = sm (term j (i + 16)) n % 18446744073709551616 →
    To (fun k => pi_series.l0 k (i : Int) (j : Int) (s : Int) (n : Int)) ((S j (i + 16) % 18446744073709551616 : Nat) : Int) := by
  induction d with
  | zero =>
    intro n s hn hs
    refine To.step ?_
    simp only [pi_series.l0]
    rw [wrap_id (x := (i : Int) + 1) (by omega) (by omega), show (i : Int) + 1 = (n : Int) by omega]
    refine To.neg (by omega) ?_
    have := series_l1 i j hi hj 16 n s (by omega) (by omega) hs
    rw [show IntKind.u64.wrap (4 * ((16 : Nat) : Int) - 4) = 60 by decide +kernel] at this
    exact this
  | succ d ih =>
    intro n s hn hs
    refine To.step ?_
    simp only [pi_series.l0]
    rw [u64_id (a := n) (by omega), show (8 : Int) * (n : Int) = ((8 * n : Nat) : Int) by omega, u64_id (a := 8 * n) (by omega), show ((8 * n : Nat) : Int) + (j : Int) = ((8 * n + j : Nat) : Int) by omega, u64_id (a := 8 * n + j) (by omega), wrap_id (x := (n : Int) + 1) (by omega) (by omega), show (i : Int) - (n : Int) = ((i - n : Nat) : Int) by omega, wrap_id (x := ((i - n : Nat) : Int)) (by omega) (by omega)]
    refine To.pos (by omega) (To.bind (pow_to (i - n) (8 * n + j) (by omega) (by omega) (by omega)) (To.neg (by omega) ?_))
    rw [Int.tmod_eq_emod_of_nonneg (Int.natCast_nonneg _), ← Int.natCast_emod, Nat.mod_mod]
    obtain ⟨r, hr⟩ := div_to (16 ^ (i - n) % (8 * n + j)) (8 * n + j) (Nat.mod_lt _ (by omega)) (by omega)
    refine To.bind hr ?_
    have t : term j (i + 16) n = 16 ^ (i - n) * 18446744073709551616 / (8 * n + j) := by
      have e16 : (16 : Nat) ^ 16 = 18446744073709551616 := by decide +kernel
      have ea : 16 ^ (i + 16 - n) = 16 ^ (i - n) * 16 ^ 16 := by rw [← Nat.pow_add]; congr 1; omega
      rw [e16] at ea
      exact congrArg (· / (8 * n + j)) ea
    have m := term_mod (16 ^ (i - n)) (8 * n + j) 18446744073709551616 (by omega)
    have hs' : IntKind.u64.wrap ((s : Int) + ((16 ^ (i - n) % (8 * n + j) * 18446744073709551616 / (8 * n + j) : Nat) : Int)) = ((sm (term j (i + 16)) (n + 1) % 18446744073709551616 : Nat) : Int) := by
      rw [sm_succ, t]
      exact acc_mod hs m
    rw [hs']
    exact ih (n + 1) _ (by omega) rfl
theorem series_to (i j : Nat) (hi : i < 8336) (hj : 1 ≤ j ∧ j ≤ 6) : To (fun k => pi_series.f k (i : Int) (j : Int)) ((S j (i + 16) % 18446744073709551616 : Nat) : Int) := by
  simp only [pi_series.f]
  exact series_l0 i j hi hj (i + 1) 0 0 (by omega) rfl
theorem acc_mod60 {s a b c : Nat} (hs : s = a % 1152921504606846976) (hm : b % 1152921504606846976 = c % 1152921504606846976) : Int.tmod (IntKind.u64.wrap ((s : Int) + (b : Int))) 1152921504606846976 = (((a + c) % 1152921504606846976 : Nat) : Int) := by
  rw [IntKind.wrap_u64, Int.tmod_eq_emod_of_nonneg (by omega)]; omega
theorem rseries_l1 (i j : Nat) (hi : i < 8336) (hj : 1 ≤ j ∧ j ≤ 6) (d : Nat) : ∀ (n s left : Nat), n + d = i + 16 → d ≤ 15 → left = 16 ^ d / 16 → s = sm (term j (i + 15)) n % 1152921504606846976 →
    To (fun k => pestleref09_series.l1 k (j : Int) (s : Int) (left : Int) (n : Int)) ((S j (i + 15) % 1152921504606846976 : Nat) : Int) := by
  induction d with
  | zero =>
    intro n s left hn hd hl hs
    refine To.step ?_
    simp only [pestleref09_series.l1]
    have l0 : left = 0 := by rw [hl]
    refine To.neg (by omega) (To.ret' ?_)
    rw [hs, S_is, show n = i + 15 + 1 by omega]
  | succ d ih =>
    intro n s left hn hd hl hs
    have hl' : left = 16 ^ d := by rw [hl, Nat.pow_succ, Nat.mul_div_cancel _ (by omega)]
    have lb : left ≤ 72057594037927936 := by
      rw [hl']
      have := Nat.pow_le_pow_right (n := 16) (show 0 < 16 by omega) (show d ≤ 14 by omega)
      have e : (16 : Nat) ^ 14 = 72057594037927936 := by decide +kernel
      omega
    have lp : 0 < left := by rw [hl']; exact Nat.pow_pos (by omega)
    refine To.step ?_
    simp only [pestleref09_series.l1]
    rw [wrap_id (x := 8 * (n : Int)) (by omega) (by omega), wrap_id (x := 8 * (n : Int) + (j : Int)) (by omega) (by omega), show 8 * (n : Int) + (j : Int) = ((8 * n + j : Nat) : Int) by omega, u64_id (a := 8 * n + j) (by omega)]
    rw [Int.tdiv_eq_ediv_of_nonneg (a := (left : Int)) (by omega), Int.tdiv_eq_ediv_of_nonneg (a := (left : Int)) (by omega), ← Int.natCast_ediv, show (left : Int) / 16 = ((left / 16 : Nat) : Int) by omega]
    have q : left / (8 * n + j) ≤ left := Nat.div_le_self _ _
    rw [u64_id (a := left / (8 * n + j)) (by omega), u64_id (a := left / 16) (by omega), wrap_id (x := (n : Int) + 1) (by omega) (by omega)]
    have t : term j (i + 15) n = left / (8 * n + j) := by
      unfold term
      rw [show i + 15 - n = d by omega, hl']
    rw [acc_mod60 (c := left / (8 * n + j)) hs rfl, ← t, ← sm_succ]
    exact To.pos (by omega) (To.neg (by omega) (ih (n + 1) _ _ (by omega) (by omega) (by rw [hl']) rfl))
theorem rseries_l0 (i j : Nat) (hi : i < 8336) (hj : 1 ≤ j ∧ j ≤ 6) (d : Nat) : ∀ (n s : Nat), n + d = i + 1 → s = sm (term j (i + 15)) n % 1152921504606846976 →
    To (fun k => pestleref09_series.l0 k (i : Int) (j : Int) (s : Int) (n : Int)) ((S j (i + 15) % 1152921504606846976 : Nat) : Int) := by
  induction d with
  | zero =>
    intro n s hn hs
    refine To.step ?_
    simp only [pestleref09_series.l0]
    rw [wrap_id (x := (i : Int) + 1) (by omega) (by omega), show (i : Int) + 1 = (n : Int) by omega]
    refine To.neg (by omega) ?_
    exact rseries_l1 i j hi hj 15 n s 72057594037927936 (by omega) (by omega) (by decide +kernel) hs
  | succ d ih =>
    intro n s hn hs
    refine To.step ?_
    simp only [pestleref09_series.l0]
    rw [wrap_id (x := 8 * (n : Int)) (by omega) (by omega), wrap_id (x := 8 * (n : Int) + (j : Int)) (by omega) (by omega), show 8 * (n : Int) + (j : Int) = ((8 * n + j : Nat) : Int) by omega, u64_id (a := 8 * n + j) (by omega), wrap_id (x := (n : Int) + 1) (by omega) (by omega), show (i : Int) - (n : Int) = ((i - n : Nat) : Int) by omega, wrap_id (x := ((i - n : Nat) : Int)) (by omega) (by omega)]
    refine To.pos (by omega) (To.bind (rpow_to (i - n) (8 * n + j) (by omega) (by omega) (by omega)) ?_)
    refine To.bind (part_to (16 ^ (i - n) % (8 * n + j)) (8 * n + j) (Nat.mod_lt _ (by omega)) (by omega)) ?_
    have e15 : (16 : Nat) ^ 15 = 2 ^ 60 := by decide +kernel
    have ea : 16 ^ (i + 15 - n) = 16 ^ (i - n) * 16 ^ 15 := by rw [← Nat.pow_add]; congr 1; omega
    rw [e15] at ea
    have t : term j (i + 15) n = 16 ^ (i - n) * 2 ^ 60 / (8 * n + j) := congrArg (· / (8 * n + j)) ea
    have m := term_mod (16 ^ (i - n)) (8 * n + j) (2 ^ 60) (by omega)
    rw [acc_mod60 (c := 16 ^ (i - n) * 2 ^ 60 / (8 * n + j)) hs m, ← t, ← sm_succ]
    exact ih (n + 1) _ (by omega) rfl
theorem rseries_to (i j : Nat) (hi : i < 8336) (hj : 1 ≤ j ∧ j ≤ 6) : To (fun k => pestleref09_series.f k (i : Int) (j : Int)) ((S j (i + 15) % 1152921504606846976 : Nat) : Int) := by
  simp only [pestleref09_series.f]
  exact rseries_l0 i j hi hj (i + 1) 0 0 (by omega) rfl
end Go.Proofs.Ytimgndceiibaeaa.Pi4
