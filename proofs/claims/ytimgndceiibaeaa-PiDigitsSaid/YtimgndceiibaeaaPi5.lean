/- The digit that is reckoned, by the program's way and by the reference's, is the one that stands in pi. -/
import Derived.Test.YtimgndceiibaeaaPi1
import Derived.Test.YtimgndceiibaeaaPi4
import Derived.Test.YtimgndceiibaeaaPiChk
import Derived.Test.YtimgndceiibaeaaPallx3
namespace Go.Proofs.Ytimgndceiibaeaa.Pi5
open Go.RowKit Go.Proofs.YtimgndceiibaeaaW.PrintWords Go.Proofs.YtimgndceiibaeaaW.PrintLast Go.Proofs.Ytimgndceiibaeaa.Pall Go.Proofs.Ytimgndceiibaeaa.Lib Go.Proofs.Ytimgndceiibaeaa.Pi1 Go.Proofs.Ytimgndceiibaeaa.Pi4 Go.Proofs.Ytimgndceiibaeaa.PiMath

theorem LL_is0 : L0 / 16 ^ 15 % 16 ^ 8336 = pi_LL := by decide +kernel
theorem LL_is (m : Nat) (h : m = 8336) : pi_LL = L0 / 16 ^ 15 % 16 ^ m := h ▸ LL_is0.symm
theorem D_L0 : D 8351 = (L0 : Nat) := by rw [D_L, L_is]
theorem mod_pow_div (a m n : Nat) (h : n < m) : a % 16 ^ m / 16 ^ n % 16 = a / 16 ^ n % 16 := by
  obtain ⟨d, rfl⟩ : ∃ d, m = n + (d + 1) := ⟨m - n - 1, by omega⟩
  rw [Nat.pow_add, Nat.mod_mul_right_div_self, Nat.pow_succ, Nat.mod_mul_left_mod]
/-- what stands at a digit's place, with fifteen digits behind it -/
def X (i : Nat) : Nat := L0 / 16 ^ (8335 - i)
theorem e60 : (16 : Nat) ^ 15 = 1152921504606846976 := by decide +kernel
theorem dig_X (i : Nat) (h : i < 8336) : digN i = X i / 1152921504606846976 % 16 := by
  obtain ⟨m, hm⟩ : ∃ m : Nat, m = 8336 := ⟨_, rfl⟩
  unfold digN X
  rw [LL_is m hm, mod_pow_div _ _ _ (by omega), Nat.div_div_eq_div_mul, Nat.div_div_eq_div_mul, Nat.mul_comm, e60]
theorem X_far (i : Nat) (h : i < 8336) : 1048576 ≤ X i % 1152921504606846976 ∧ X i % 1152921504606846976 + 1048576 ≤ 1152921504606846976 := L_far i h
theorem E_X (i : Nat) (h : i < 8336) : (X i : Int) - 33416 ≤ E (i + 16) ∧ E (i + 16) ≤ (X i : Int) + 33416 := by
  have := E_near 8351 (i + 16) L0 (by omega) D_L0
  rw [show 8351 - (i + 16) = 8335 - i by omega] at this
  unfold X
  omega
theorem E_Y (i : Nat) (h : i < 8336) : ((X i / 16 : Nat) : Int) - 33416 ≤ E (i + 15) ∧ E (i + 15) ≤ ((X i / 16 : Nat) : Int) + 33416 := by
  have := E_near 8351 (i + 15) L0 (by omega) D_L0
  rw [show 8351 - (i + 15) = 8335 - i + 1 by omega, Nat.pow_succ, ← Nat.div_div_eq_div_mul] at this
  unfold X
  omega
theorem digit64 (e : Int) (x : Nat) (h1 : (x : Int) - 33416 ≤ e) (h2 : e ≤ (x : Int) + 33416) (l : 1048576 ≤ x % 1152921504606846976) (u : x % 1152921504606846976 + 1048576 ≤ 1152921504606846976) :
    e % 18446744073709551616 / 1152921504606846976 = ((x / 1152921504606846976 % 16 : Nat) : Int) := by omega
theorem digit60 (e : Int) (x : Nat) (h1 : ((x / 16 : Nat) : Int) - 33416 ≤ e) (h2 : e ≤ ((x / 16 : Nat) : Int) + 33416) (l : 1048576 ≤ x % 1152921504606846976) (u : x % 1152921504606846976 + 1048576 ≤ 1152921504606846976) :
    e % 1152921504606846976 / 72057594037927936 = ((x / 1152921504606846976 % 16 : Nat) : Int) := by omega
theorem sums64 (a b c d : Nat) : IntKind.u64.wrap ((IntKind.u64.wrap ((IntKind.u64.wrap ((IntKind.u64.wrap (4 * ((a % 18446744073709551616 : Nat) : Int))) - (IntKind.u64.wrap (2 * ((b % 18446744073709551616 : Nat) : Int))))) - ((c % 18446744073709551616 : Nat) : Int))) - ((d % 18446744073709551616 : Nat) : Int)) = (4 * (a : Int) - 2 * b - c - d) % 18446744073709551616 := by
  simp only [IntKind.wrap_u64]
  omega
theorem sums60 (a b c d : Nat) : IntKind.u64.wrap ((IntKind.u64.wrap ((IntKind.u64.wrap ((IntKind.u64.wrap ((IntKind.u64.wrap ((IntKind.u64.wrap (4 * ((a % 1152921504606846976 : Nat) : Int))) + (IntKind.u64.wrap (2 * (IntKind.u64.wrap (1152921504606846976 - ((b % 1152921504606846976 : Nat) : Int))))))) + 1152921504606846976)) - ((c % 1152921504606846976 : Nat) : Int))) + 1152921504606846976)) - ((d % 1152921504606846976 : Nat) : Int)) % 1152921504606846976 = (4 * (a : Int) - 2 * b - c - d) % 1152921504606846976 := by
  simp only [IntKind.wrap_u64]
  omega
theorem wrap64_small (x : Int) (h : 0 ≤ x) (h2 : x < 16) : wrap64 x = x := wrap_id (by omega) (by omega)
theorem reckon_in (i : Nat) (h : i < 8336) : To (fun k => pi_Reckon.f k (i : Int)) ((digN i : Int), 0) := by
  simp only [pi_Reckon.f]
  refine To.neg (by omega) (To.step ?_)
  simp only [pi_Reckon.j0]
  refine To.neg (by simp; omega) (To.bind (series_to i 1 h (by omega)) (To.bind (series_to i 4 h (by omega)) (To.bind (series_to i 5 h (by omega)) (To.bind (series_to i 6 h (by omega)) (To.ret' ?_)))))
  have e := E_X i h
  have f := X_far i h
  rw [sums64, show 4 * (S 1 (i + 16) : Int) - 2 * S 4 (i + 16) - S 5 (i + 16) - S 6 (i + 16) = E (i + 16) from rfl, digit64 _ _ e.1 e.2 f.1 f.2, ← dig_X i h]
  have := digN_lt i
  rw [wrap64_small _ (by omega) (by omega)]
theorem reckon_to (i : Int) : To (fun k => pi_Reckon.f k i) (digS i) := by
  by_cases h : 0 ≤ i ∧ i < 8336
  · obtain ⟨n, rfl⟩ : ∃ n : Nat, i = n := ⟨i.toNat, by omega⟩
    rw [digS_in (by omega)]
    exact reckon_in n (by omega)
  · rw [digS_out (by omega)]
    simp only [pi_Reckon.f]
    refine To.ite (fun _ => To.step ?_) (fun _ => To.step ?_)
    · simp only [pi_Reckon.j0]
      exact To.pos trivial (To.ret _)
    · simp only [pi_Reckon.j0]
      exact To.pos (by simp; omega) (To.ret _)
theorem ref_to (i : Nat) (h : i < 8336) : To (fun k => pestleref09_Digit.f k (i : Int)) (digN i : Int) := by
  simp only [pestleref09_Digit.f]
  refine To.bind (rseries_to i 1 h (by omega)) (To.bind (rseries_to i 4 h (by omega)) (To.bind (rseries_to i 5 h (by omega)) (To.bind (rseries_to i 6 h (by omega)) (To.ret' ?_))))
  have e := E_Y i h
  have f := X_far i h
  have nn : ∀ x : Int, 0 ≤ IntKind.u64.wrap x := fun x => by rw [IntKind.wrap_u64]; omega
  rw [Int.tmod_eq_emod_of_nonneg (nn _), sums60, show 4 * (S 1 (i + 15) : Int) - 2 * S 4 (i + 15) - S 5 (i + 15) - S 6 (i + 15) = E (i + 15) from rfl, Int.tdiv_eq_ediv_of_nonneg (by omega), digit60 _ _ e.1 e.2 f.1 f.2, ← dig_X i h]
  have := digN_lt i
  rw [IntKind.wrap_u64, show ((digN i : Nat) : Int) % 18446744073709551616 = (digN i : Int) by omega, wrap64_small _ (by omega) (by omega)]
end Go.Proofs.Ytimgndceiibaeaa.Pi5
