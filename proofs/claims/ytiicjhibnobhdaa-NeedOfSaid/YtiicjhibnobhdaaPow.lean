/- Powers of two: what size and the reference answer, in plain numbers. -/
import Derived.Test.YtiicjhibnobhdaaSize1
import Derived.Test.YtiicjhibnobhdaaPallx46
import Derived.Test.YtiicjhibnobhdaaPallx51
namespace Go.Proofs.Ytiicjhibnobhdaa.Pow
open Go.RowKit Go.Proofs.Ytiicjhibnobhdaa.Pall Go.Proofs.YtiicjhibnobhdaaW.PrintWords Go.Proofs.YtiicjhibnobhdaaW.PrintLast Go.Proofs.Ytiicjhibnobhdaa.Lib Go.Proofs.Ytiicjhibnobhdaa.Size1

theorem shl_all : ∀ n : Fin 63, shl .i64 1 ((n : Nat) : Int) = 2 ^ (n : Nat) := by decide +kernel
theorem pow_le (i : Nat) (h : i ≤ 62) : (2 : Int) ^ i ≤ 4611686018427387904 := by
  have : ∀ n : Fin 63, (2 : Int) ^ (n : Nat) ≤ 4611686018427387904 := by decide +kernel
  exact this ⟨i, by omega⟩
theorem pow_pos' (i : Nat) : (1 : Int) ≤ (2 : Int) ^ i := by
  have := Int.pow_pos (n := (2 : Int)) (m := i) (by omega)
  omega
theorem ref_power_l0 (n : Nat) (hn : n ≤ 62) (d : Nat) : ∀ i : Nat, i + d = n → To (fun k => pestleref02_Power.l0 k (n : Int) (2 ^ i) (i : Int)) (2 ^ n, 0) := by
  induction d with
  | zero =>
    intro i hi
    refine To.step ?_
    simp only [pestleref02_Power.l0]
    obtain rfl : i = n := by omega
    exact To.neg (by omega) (To.ret _)
  | succ d ih =>
    intro i hi
    refine To.step ?_
    simp only [pestleref02_Power.l0]
    refine To.pos (by omega) ?_
    have e : (2 : Int) ^ i * 2 = 2 ^ (i + 1) := (Int.pow_succ 2 i).symm
    have p := pow_le (i + 1) (by omega)
    have q := pow_pos' (i + 1)
    rw [e, wrap_id (by omega) (by omega), wrap_id (x := (i : Int) + 1) (by omega) (by omega)]
    exact ih (i + 1) (by omega)
def powS (n : Int) : Int × Int := if n < 0 then (0, 1) else if n > 62 then (0, 10) else (2 ^ n.toNat, 0)
theorem power_is (n : Int) : size_Power.f n = some (powS n) := by
  unfold size_Power.f powS
  by_cases h : n < 0
  · rw [if_pos h, if_pos h]
  by_cases h' : n > 62
  · rw [if_neg h, if_neg h, if_pos h', if_pos h']
  rw [if_neg h, if_neg h, if_neg h', if_neg h', if_pos (by omega)]
  have := shl_all ⟨n.toNat, by omega⟩
  rw [show (((⟨n.toNat, by omega⟩ : Fin 63) : Nat) : Int) = n from Int.toNat_of_nonneg (by omega)] at this
  rw [this]
theorem ref_power_to (n : Int) : To (fun k => pestleref02_Power.f k n) (powS n) := by
  unfold powS
  simp only [pestleref02_Power.f]
  refine To.ite (fun h => To.ret' ?_) (fun h => To.ite (fun h' => To.ret' ?_) (fun h' => ?_))
  · rw [if_pos h]
  · rw [if_neg h, if_pos h']
  · rw [if_neg h, if_neg h']
    have := ref_power_l0 n.toNat (by omega) n.toNat 0 (by omega)
    rw [Int.toNat_of_nonneg (by omega)] at this
    exact this
end Go.Proofs.Ytiicjhibnobhdaa.Pow
