/- Powers of two: what size and the reference answer, in plain numbers. -/
import Derived.Test.YtiicjhibnobhdaaSize1

namespace Go.Proofs.Ytiicjhibnobhdaa.Pow
open Go.RowKit Go.Proofs.Ytiicjhibnobhdaa.Pall Go.Proofs.YtiicjhibnobhdaaW.PrintWords Go.Proofs.YtiicjhibnobhdaaW.PrintLast Go.Proofs.Ytiicjhibnobhdaa.Lib Go.Proofs.Ytiicjhibnobhdaa.Size1

theorem shl_all : ∀ n : Fin 63, shl .i64 1 ((n : Nat) : Int) = 2 ^ (n : Nat) := by decide +kernel
theorem pow_le (i : Nat) (h : i ≤ 62) : (2 : Int) ^ i ≤ 4611686018427387904 := by
  have : ∀ n : Fin 63, (2 : Int) ^ (n : Nat) ≤ 4611686018427387904 := by decide +kernel
  exact this ⟨i, by omega⟩
theorem pow_pos' (i : Nat) : (1 : Int) ≤ (2 : Int) ^ i := by
  have := Int.pow_pos (n := (2 : Int)) (m := i) (by omega)
  omega
def powS (n : Int) : Int × Int := if n < 0 then (0, 1) else if n > 62 then (0, 10) else (2 ^ n.toNat, 0)
end Go.Proofs.Ytiicjhibnobhdaa.Pow
