/- Sums and products of lists: what size and the reference answer, in plain numbers. -/
import Derived.Test.YtiicjhibnobhdaaSize1
import Derived.Lib.Mul64
import Derived.Laws.Bits64b

namespace Go.Proofs.Ytiicjhibnobhdaa.Size2
open Go.RowKit Go.Proofs.YtiicjhibnobhdaaW.PrintWords Go.Proofs.YtiicjhibnobhdaaW.PrintLast Go.Proofs.Ytiicjhibnobhdaa.Pall Go.Proofs.Ytiicjhibnobhdaa.Lib Go.Proofs.Ytiicjhibnobhdaa.Size1

def Fit (n : Int) : Prop := 0 ≤ n ∧ n ≤ 4611686018427387904
instance (n : Int) : Decidable (Fit n) := inferInstanceAs (Decidable (_ ∧ _))
def sumI : List Int → Int
  | [] => 0
  | x :: l => x + sumI l
def prodI : List Int → Int
  | [] => 1
  | x :: l => x * prodI l
theorem sumI_append (a b : List Int) : sumI (a ++ b) = sumI a + sumI b := by
  induction a with
  | nil => simp [sumI]
  | cons x a ih => simp only [List.cons_append, sumI, ih]; omega
theorem prodI_append (a b : List Int) : prodI (a ++ b) = prodI a * prodI b := by
  induction a with
  | nil => simp [prodI]
  | cons x a ih => simp only [List.cons_append, prodI, ih, Int.mul_assoc]
theorem sumI_reverse (a : List Int) : sumI a.reverse = sumI a := by
  induction a with
  | nil => rfl
  | cons x a ih => rw [List.reverse_cons, sumI_append, ih]; simp only [sumI]; omega
theorem prodI_reverse (a : List Int) : prodI a.reverse = prodI a := by
  induction a with
  | nil => rfl
  | cons x a ih => rw [List.reverse_cons, prodI_append, ih]; simp only [prodI, Int.mul_one]; rw [Int.mul_comm]
theorem sumI_nonneg {l : List Int} (h : ∀ x ∈ l, Fit x) : 0 ≤ sumI l := by
  induction l with
  | nil => simp [sumI]
  | cons x l ih =>
    have := (h x (by simp)).1
    have := ih (fun y hy => h y (by simp [hy]))
    simp only [sumI]; omega
theorem prodI_pos {l : List Int} (h : ∀ x ∈ l, 1 ≤ x) : 1 ≤ prodI l := by
  induction l with
  | nil => simp [prodI]
  | cons x l ih =>
    have h1 := h x (by simp)
    have h2 := ih (fun y hy => h y (by simp [hy]))
    simp only [prodI]
    have := Int.mul_le_mul h1 h2 (by omega) (by omega)
    omega

theorem sumI_cons (x : Int) (l : List Int) : sumI (x :: l) = x + sumI l := rfl
theorem prodI_cons (x : Int) (l : List Int) : prodI (x :: l) = x * prodI l := rfl
/-- a number, or that it is beyond the bound -/
def overS (s : Int) : Int × Int := if s > 4611686018427387904 then (0, 10) else (s, 0)
theorem overS_hi {s : Int} (h : s > 4611686018427387904) : overS s = (0, 10) := if_pos h
theorem overS_lo {s : Int} (h : s ≤ 4611686018427387904) : overS s = (s, 0) := if_neg (by omega)
/-- the sum of all, or why there is none -/
def addS (l : List Int) : Int × Int := if ∀ x ∈ l, Fit x then overS (sumI l) else (0, 1)
/-- the product of all, or why there is none -/
def mulS (l : List Int) : Int × Int := if ∀ x ∈ l, Fit x then (if (0 : Int) ∈ l then (0, 0) else overS (prodI l)) else (0, 1)

theorem all_drop {l : List Int} {n : Nat} (h : n < l.length) : (∀ x ∈ l.drop n, Fit x) ↔ Fit l[n] ∧ ∀ x ∈ l.drop (n + 1), Fit x := by
  rw [drop_cons h]
  simp only [List.mem_cons, forall_eq_or_imp]

theorem maskN (a : Nat) (ha : a < 18446744073709551616) : bits .and .u64 (a : Int) 4294967295 = ((a % 4294967296 : Nat) : Int) := by
  have h := bits_and_u64_nat a 4294967295 ha (by omega)
  have e : a &&& 4294967295 = a % 4294967296 := Nat.and_two_pow_sub_one_eq_mod a 32
  rw [e] at h
  exact h
theorem divN (a : Nat) : (a : Int) / 4294967296 = ((a / 4294967296 : Nat) : Int) := by omega
theorem mulN (a b : Nat) : (a : Int) * (b : Int) = ((a * b : Nat) : Int) := (Int.natCast_mul a b).symm
theorem addN (a b : Nat) : (a : Int) + (b : Int) = ((a + b : Nat) : Int) := (Int.natCast_add a b).symm
theorem wrapN (a : Nat) (ha : a < 18446744073709551616) : IntKind.u64.wrap (a : Int) = (a : Int) := by rw [IntKind.wrap_u64]; omega
theorem wrapM (a : Nat) : IntKind.u64.wrap (a : Int) = ((a % 18446744073709551616 : Nat) : Int) := by rw [IntKind.wrap_u64]; omega
end Go.Proofs.Ytiicjhibnobhdaa.Size2
