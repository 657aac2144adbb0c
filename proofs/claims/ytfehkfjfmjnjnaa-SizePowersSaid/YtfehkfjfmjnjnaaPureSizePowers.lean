/- For every number: its power of two, or why there is none, is the reference's; and whether a number lies from one to another is told.
   Conditions: the arguments are 64-bit integers, as Go has them; nothing else. -/
import Derived.Test.YtfehkfjfmjnjnaaSize1
import Derived.Test.YtfehkfjfmjnjnaaPallx3
namespace Go.Proofs.Ytfehkfjfmjnjnaa.Pure
open Go.RowKit Go.Proofs.Ytfehkfjfmjnjnaa.Pall Go.Proofs.YtfehkfjfmjnjnaaW.PrintWords Go.Proofs.YtfehkfjfmjnjnaaW.PrintLast Go.Proofs.Ytfehkfjfmjnjnaa.Lib Go.Proofs.Ytfehkfjfmjnjnaa.Size1

theorem shl_all : ∀ n : Fin 63, shl .i64 1 ((n : Nat) : Int) = 2 ^ (n : Nat) := by decide +kernel
theorem pow_le (i : Nat) (h : i ≤ 62) : (2 : Int) ^ i ≤ 4611686018427387904 := by
  have : ∀ n : Fin 63, (2 : Int) ^ (n : Nat) ≤ 4611686018427387904 := by decide +kernel
  exact this ⟨i, by omega⟩
theorem pow_pos' (i : Nat) : (1 : Int) ≤ (2 : Int) ^ i := by
  have := Int.pow_pos (n := (2 : Int)) (m := i) (by omega)
  omega
theorem ref_power_l0 (n : Nat) (hn : n ≤ 62) (d : Nat) : ∀ i : Nat, i + d = n → To (fun k => pestleref02_Power.l0 k (n : Int) (2 ^ i) (i : Int)) (2 ^ n, 0) := by
  induction d with
  | zero =>
    intro i hi
    refine To.step ?_
    simp only [pestleref02_Power.l0]
    obtain rfl : i = n := by omega
    exact To.neg (by omega) (To.ret _)
  | succ d ih =>
    intro i hi
    refine To.step ?_
    simp only [pestleref02_Power.l0]
    refine To.pos (by omega) ?_
    have e : (2 : Int) ^ i * 2 = 2 ^ (i + 1) := (Int.pow_succ 2 i).symm
    have p := pow_le (i + 1) (by omega)
    have q := pow_pos' (i + 1)
    rw [e, wrap_id (by omega) (by omega), wrap_id (x := (i : Int) + 1) (by omega) (by omega)]
    exact ih (i + 1) (by omega)
def powS (n : Int) : Int × Int := if n < 0 then (0, 1) else if n > 62 then (0, 10) else (2 ^ n.toNat, 0)
theorem power_is (n : Int) : size_Power.f n = some (powS n) := by
  unfold size_Power.f powS
  by_cases h : n < 0
  · rw [if_pos h, if_pos h]
  by_cases h' : n > 62
  · rw [if_neg h, if_neg h, if_pos h', if_pos h']
  rw [if_neg h, if_neg h, if_neg h', if_neg h', if_pos (by omega)]
  have := shl_all ⟨n.toNat, by omega⟩
  rw [show (((⟨n.toNat, by omega⟩ : Fin 63) : Nat) : Int) = n from Int.toNat_of_nonneg (by omega)] at this
  rw [this]
theorem ref_power_to (n : Int) : To (fun k => pestleref02_Power.f k n) (powS n) := by
  unfold powS
  simp only [pestleref02_Power.f]
  refine To.ite (fun h => To.ret' ?_) (fun h => To.ite (fun h' => To.ret' ?_) (fun h' => ?_))
  · rw [if_pos h]
  · rw [if_neg h, if_pos h']
  · rw [if_neg h, if_neg h']
    have := ref_power_l0 n.toNat (by omega) n.toNat 0 (by omega)
    rw [Int.toNat_of_nonneg (by omega)] at this
    exact this
theorem SizePowers : pestlelaw02_SizePowers.Pure := by
  intro n a b _ _ _
  refine To.ends ?_
  simp only [pestlelaw02_SizePowers.f]
  refine To.bind awake_to (To.pos rfl (To.bind0 (power_is n) (To.bind (ref_power_to n) (To.ite (fun h => ?_) (fun h => ?_)))))
  · refine To.pos rfl (To.pos rfl (To.bind0 (a := decide (n ≤ b)) (by unfold size_Within.f; rw [if_pos h]) (To.ret' (by simp))))
  · refine To.pos rfl (To.pos rfl (To.bind0 (a := false) (by unfold size_Within.f; rw [if_neg h]) (To.ret' (by simp))))
end Go.Proofs.Ytfehkfjfmjnjnaa.Pure
