/- What the functions of size answer: sums, units and powers, in plain numbers. -/
import Derived.Test.YtfehkfjfmjnjnaaLib
import Derived.Test.YtfehkfjfmjnjnaaPallx1
import Derived.Test.YtfehkfjfmjnjnaaPallx2
import Derived.Test.YtfehkfjfmjnjnaaPallx3
namespace Go.Proofs.Ytfehkfjfmjnjnaa.Size1
open Go.RowKit Go.Proofs.YtfehkfjfmjnjnaaW.PrintWords Go.Proofs.YtfehkfjfmjnjnaaW.PrintLast Go.Proofs.Ytfehkfjfmjnjnaa.Pall Go.Proofs.Ytfehkfjfmjnjnaa.Lib

theorem tdiv_pos {a b : Int} (ha : 0 ≤ a) : Int.tdiv a b = a / b := Int.tdiv_eq_ediv_of_nonneg ha
theorem tmod_pos {a b : Int} (ha : 0 ≤ a) : Int.tmod a b = a % b := Int.tmod_eq_emod_of_nonneg ha
theorem div_in {a b : Int} (ha : 0 ≤ a) (hb : 1 ≤ b) : 0 ≤ a / b ∧ a / b ≤ a := ⟨Int.ediv_nonneg ha (by omega), Int.ediv_le_self b ha⟩
theorem mod_in {a b : Int} (hb : 1 ≤ b) : 0 ≤ a % b ∧ a % b < b := ⟨Int.emod_nonneg a (by omega), Int.emod_lt_of_pos a (by omega)⟩

theorem held_is (n : Int) : size_held.f n = some (decide (0 ≤ n ∧ n ≤ 4611686018427387904)) := by
  unfold size_held.f
  by_cases h : n ≥ 0
  · rw [if_pos h]; simp [show 0 ≤ n from h]
  · rw [if_neg h]; simp; omega

/-- how many units hold a number -/
def upS (n u : Int) : Int × Int := if n < 0 ∨ n > 4611686018427387904 ∨ u < 1 then (0, 1) else (if n = 0 then 0 else (n - 1) / u + 1, 0)
def downS (n u : Int) : Int × Int := if n < 0 ∨ n > 4611686018427387904 ∨ u < 1 then (0, 1) else (n / u * u, 0)

theorem up_arith {n u : Int} (hu : 1 ≤ u) : (n - 1) / u + 1 = if n % u > 0 then n / u + 1 else n / u := by
  have e := Int.mul_ediv_add_emod n u
  have m := mod_in (a := n) hu
  split
  · have : (n - 1) / u = n / u := by
      rw [Int.ediv_eq_iff_of_pos (by omega)] 
      have c : u * (n / u) = n / u * u := Int.mul_comm _ _
      constructor <;> omega
    omega
  · have : (n - 1) / u = n / u - 1 := by
      rw [Int.ediv_eq_iff_of_pos (by omega)]
      have c : u * (n / u) = n / u * u := Int.mul_comm _ _
      have d : (n / u - 1) * u = n / u * u - u := by rw [Int.sub_mul, Int.one_mul]
      rw [d]
      constructor <;> omega
    omega

theorem up_to (n u : Int) : To (fun k => size_Up.f k n u) (upS n u) := by
  unfold upS
  simp only [size_Up.f, held_is]
  refine To.bind0 rfl ?_
  by_cases hn : 0 ≤ n ∧ n ≤ 4611686018427387904
  · refine To.pos (by simpa using hn) (To.step ?_)
    simp only [size_Up.j0]
    by_cases hu : u < 1
    · refine To.pos (by simpa using hu) (To.ret' ?_)
      rw [if_pos (Or.inr (Or.inr hu))]
    · rw [if_neg (by omega : ¬ (n < 0 ∨ n > 4611686018427387904 ∨ u < 1))]
      refine To.neg (by simpa using hu) (To.neg (by omega) ?_)
      rw [tdiv_pos hn.1, tmod_pos hn.1]
      have d := div_in hn.1 (show 1 ≤ u by omega)
      rw [wrap_id (x := n / u) (by omega) (by omega), wrap_id (by omega) (by omega)]
      by_cases h0 : n = 0
      · subst h0
        rw [if_pos rfl, Int.zero_emod, Int.zero_ediv]
        exact To.neg (by omega) (To.ret _)
      · rw [if_neg h0, up_arith (by omega)]
        refine To.ite (fun h => ?_) (fun h => ?_)
        · rw [if_pos h]; exact To.ret _
        · rw [if_neg h]; exact To.ret _
  · refine To.neg (by simpa using hn) (To.step ?_)
    simp only [size_Up.j0]
    refine To.pos trivial (To.ret' ?_)
    rw [if_pos (by omega)]
theorem ref_up_to (n u : Int) : To (fun k => pestleref02_Up.f k n u) (upS n u) := by
  unfold upS
  simp only [pestleref02_Up.f]
  refine To.ite (fun h => To.step ?_) (fun h => To.ite (fun h' => To.step ?_) (fun h' => To.step ?_))
  · simp only [pestleref02_Up.j0]
    exact To.pos trivial (To.ret' (by rw [if_pos (by omega)]))
  · simp only [pestleref02_Up.j0]
    exact To.pos trivial (To.ret' (by rw [if_pos (by omega)]))
  · simp only [pestleref02_Up.j0]
    by_cases hu : u < 1
    · exact To.pos (by simpa using hu) (To.ret' (by rw [if_pos (by omega)]))
    · rw [if_neg (by omega : ¬ (n < 0 ∨ n > 4611686018427387904 ∨ u < 1))]
      refine To.neg (by simpa using hu) (To.ite (fun h0 => ?_) (fun h0 => To.neg (by omega) (To.ret' ?_)))
      · rw [if_pos h0]; exact To.ret _
      · rw [if_neg h0, wrap_id (x := n - 1) (by omega) (by omega), tdiv_pos (by omega)]
        have d := div_in (show 0 ≤ n - 1 by omega) (show 1 ≤ u by omega)
        rw [wrap_id (x := (n - 1) / u) (by omega) (by omega), wrap_id (by omega) (by omega)]
theorem down_is (n u : Int) : size_Down.f n u = some (downS n u) := by
  unfold size_Down.f downS
  rw [held_is]
  simp only [Option.bind_some]
  by_cases hn : 0 ≤ n ∧ n ≤ 4611686018427387904
  · rw [if_pos (by simpa using hn)]
    by_cases hu : u < 1
    · rw [if_pos hu, if_pos (by omega)]
    · rw [if_neg hu, if_neg (by omega), if_neg (by omega), tmod_pos hn.1]
      have e := Int.mul_ediv_add_emod n u
      have m := mod_in (a := n) (show 1 ≤ u by omega)
      have c : u * (n / u) = n / u * u := Int.mul_comm _ _
      have d := div_in hn.1 (show 1 ≤ u by omega)
      have l : n % u ≤ n := by
        have := Int.mul_nonneg d.1 (show (0:Int) ≤ u by omega)
        omega
      rw [wrap_id (by omega) (by omega)]
      congr 2
      omega
  · rw [if_neg (by simpa using hn), if_pos (by omega)]
theorem ref_down_is (n u : Int) : pestleref02_Down.f n u = some (downS n u) := by
  unfold pestleref02_Down.f downS
  by_cases h : n < 0
  · rw [if_pos h, if_pos (by omega)]
  by_cases h' : n > 4611686018427387904
  · rw [if_neg h, if_pos h', if_pos (by omega)]
  by_cases hu : u < 1
  · rw [if_neg h, if_neg h', if_pos hu, if_pos (by omega)]
  rw [if_neg h, if_neg h', if_neg hu, if_neg (by omega), if_neg (by omega), tdiv_pos (by omega)]
  have d := div_in (show 0 ≤ n by omega) (show 1 ≤ u by omega)
  have e := Int.mul_ediv_add_emod n u
  have m := mod_in (a := n) (show 1 ≤ u by omega)
  have c : u * (n / u) = n / u * u := Int.mul_comm _ _
  have p := Int.mul_nonneg d.1 (show (0:Int) ≤ u by omega)
  rw [wrap_id (x := n / u) (by omega) (by omega), wrap_id (by omega) (by omega)]

theorem awake_to : To (fun k => pestlelaw02_awake.f k) true := To.up (fun k => pestlelaw02_awake.mono k) (k := 12) (by decide +kernel)
end Go.Proofs.Ytfehkfjfmjnjnaa.Size1
