/- What the functions of size answer: sums, units and powers, in plain numbers. -/
import Derived.Test.YtiicjhibnobhdaaLib
import Derived.Test.YtiicjhibnobhdaaPallx1
namespace Go.Proofs.Ytiicjhibnobhdaa.Size1
open Go.RowKit Go.Proofs.YtiicjhibnobhdaaW.PrintWords Go.Proofs.YtiicjhibnobhdaaW.PrintLast Go.Proofs.Ytiicjhibnobhdaa.Pall Go.Proofs.Ytiicjhibnobhdaa.Lib

theorem tdiv_pos {a b : Int} (ha : 0 ≤ a) : Int.tdiv a b = a / b := Int.tdiv_eq_ediv_of_nonneg ha
theorem tmod_pos {a b : Int} (ha : 0 ≤ a) : Int.tmod a b = a % b := Int.tmod_eq_emod_of_nonneg ha
theorem div_in {a b : Int} (ha : 0 ≤ a) (hb : 1 ≤ b) : 0 ≤ a / b ∧ a / b ≤ a := ⟨Int.ediv_nonneg ha (by omega), Int.ediv_le_self b ha⟩
theorem mod_in {a b : Int} (hb : 1 ≤ b) : 0 ≤ a % b ∧ a % b < b := ⟨Int.emod_nonneg a (by omega), Int.emod_lt_of_pos a (by omega)⟩

theorem held_is (n : Int) : size_held.f n = some (decide (0 ≤ n ∧ n ≤ 4611686018427387904)) := by
  unfold size_held.f
  by_cases h : n ≥ 0
  · rw [if_pos h]; simp [show 0 ≤ n from h]
  · rw [if_neg h]; simp; omega

/-- how many units hold a number -/
def upS (n u : Int) : Int × Int := if n < 0 ∨ n > 4611686018427387904 ∨ u < 1 then (0, 1) else (if n = 0 then 0 else (n - 1) / u + 1, 0)
def downS (n u : Int) : Int × Int := if n < 0 ∨ n > 4611686018427387904 ∨ u < 1 then (0, 1) else (n / u * u, 0)

theorem up_arith {n u : Int} (hu : 1 ≤ u) : (n - 1) / u + 1 = if n % u > 0 then n / u + 1 else n / u := by
  have e := Int.mul_ediv_add_emod n u
  have m := mod_in (a := n) hu
  split
  · have : (n - 1) / u = n / u := by
      rw [Int.ediv_eq_iff_of_pos (by omega)] 
      have c : u * (n / u) = n / u * u := Int.mul_comm _ _
      constructor <;> omega
    omega
  · have : (n - 1) / u = n / u - 1 := by
      rw [Int.ediv_eq_iff_of_pos (by omega)]
      have c : u * (n / u) = n / u * u := Int.mul_comm _ _
      have d : (n / u - 1) * u = n / u * u - u := by rw [Int.sub_mul, Int.one_mul]
      rw [d]
      constructor <;> omega
    omega

theorem down_is (n u : Int) : size_Down.f n u = some (downS n u) := by
  unfold size_Down.f downS
  rw [held_is]
  simp only [Option.bind_some]
  by_cases hn : 0 ≤ n ∧ n ≤ 4611686018427387904
  · rw [if_pos (by simpa using hn)]
    by_cases hu : u < 1
    · rw [if_pos hu, if_pos (by omega)]
    · rw [if_neg hu, if_neg (by omega), if_neg (by omega), tmod_pos hn.1]
      have e := Int.mul_ediv_add_emod n u
      have m := mod_in (a := n) (show 1 ≤ u by omega)
      have c : u * (n / u) = n / u * u := Int.mul_comm _ _
      have d := div_in hn.1 (show 1 ≤ u by omega)
      have l : n % u ≤ n := by
        have := Int.mul_nonneg d.1 (show (0:Int) ≤ u by omega)
        omega
      rw [wrap_id (by omega) (by omega)]
      congr 2
      omega
  · rw [if_neg (by simpa using hn), if_pos (by omega)]

end Go.Proofs.Ytiicjhibnobhdaa.Size1
