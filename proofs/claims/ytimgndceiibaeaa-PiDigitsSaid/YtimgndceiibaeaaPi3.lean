/- The quotient of two words by a small number (Div64 with nothing below), in plain numbers. -/
import Derived.Test.YtimgndceiibaeaaPi2
import Derived.Laws.Bits64b
import Derived.Test.YtimgndceiibaeaaPallx1
import Derived.Test.YtimgndceiibaeaaPallx2
namespace Go.Proofs.Ytimgndceiibaeaa.Pi3
open Go.RowKit Go.Proofs.YtimgndceiibaeaaW.PrintWords Go.Proofs.YtimgndceiibaeaaW.PrintLast Go.Proofs.Ytimgndceiibaeaa.Pall Go.Proofs.Ytimgndceiibaeaa.Lib Go.Proofs.Ytimgndceiibaeaa.Pi2

set_option maxRecDepth 100000 in
theorem tab_all : ∀ i : Fin 256, 0 ≤ bt (⟨#[0, 1, 2, 2, 3, 3, 3, 3, 4, 4, 4, 4, 4, 4, 4, 4, 5, 5, 5, 5, 5, 5, 5, 5, 5, 5, 5, 5, 5, 5, 5, 5, 6, 6, 6, 6, 6, 6, 6, 6, 6, 6, 6, 6, 6, 6, 6, 6, 6, 6, 6, 6, 6, 6, 6, 6, 6, 6, 6, 6, 6, 6, 6, 6, 7, 7, 7, 7, 7, 7, 7, 7, 7, 7, 7, 7, 7, 7, 7, 7, 7, 7, 7, 7, 7, 7, 7, 7, 7, 7, 7, 7, 7, 7, 7, 7, 7, 7, 7, 7, 7, 7, 7, 7, 7, 7, 7, 7, 7, 7, 7, 7, 7, 7, 7, 7, 7, 7, 7, 7, 7, 7, 7, 7, 7, 7, 7, 7, 8, 8, 8, 8, 8, 8, 8, 8, 8, 8, 8, 8, 8, 8, 8, 8, 8, 8, 8, 8, 8, 8, 8, 8, 8, 8, 8, 8, 8, 8, 8, 8, 8, 8, 8, 8, 8, 8, 8, 8, 8, 8, 8, 8, 8, 8, 8, 8, 8, 8, 8, 8, 8, 8, 8, 8, 8, 8, 8, 8, 8, 8, 8, 8, 8, 8, 8, 8, 8, 8, 8, 8, 8, 8, 8, 8, 8, 8, 8, 8, 8, 8, 8, 8, 8, 8, 8, 8, 8, 8, 8, 8, 8, 8, 8, 8, 8, 8, 8, 8, 8, 8, 8, 8, 8, 8, 8, 8, 8, 8, 8, 8, 8, 8, 8, 8, 8, 8, 8, 8, 8, 8, 8, 8, 8, 8, 8, 8]⟩ : ByteArray) (i.1 : Int) ∧ bt (⟨#[0, 1, 2, 2, 3, 3, 3, 3, 4, 4, 4, 4, 4, 4, 4, 4, 5, 5, 5, 5, 5, 5, 5, 5, 5, 5, 5, 5, 5, 5, 5, 5, 6, 6, 6, 6, 6, 6, 6, 6, 6, 6, 6, 6, 6, 6, 6, 6, 6, 6, 6, 6, 6, 6, 6, 6, 6, 6, 6, 6, 6, 6, 6, 6, 7, 7, 7, 7, 7, 7, 7, 7, 7, 7, 7, 7, 7, 7, 7, 7, 7, 7, 7, 7, 7, 7, 7, 7, 7, 7, 7, 7, 7, 7, 7, 7, 7, 7, 7, 7, 7, 7, 7, 7, 7, 7, 7, 7, 7, 7, 7, 7, 7, 7, 7, 7, 7, 7, 7, 7, 7, 7, 7, 7, 7, 7, 7, 7, 8, 8, 8, 8, 8, 8, 8, 8, 8, 8, 8, 8, 8, 8, 8, 8, 8, 8, 8, 8, 8, 8, 8, 8, 8, 8, 8, 8, 8, 8, 8, 8, 8, 8, 8, 8, 8, 8, 8, 8, 8, 8, 8, 8, 8, 8, 8, 8, 8, 8, 8, 8, 8, 8, 8, 8, 8, 8, 8, 8, 8, 8, 8, 8, 8, 8, 8, 8, 8, 8, 8, 8, 8, 8, 8, 8, 8, 8, 8, 8, 8, 8, 8, 8, 8, 8, 8, 8, 8, 8, 8, 8, 8, 8, 8, 8, 8, 8, 8, 8, 8, 8, 8, 8, 8, 8, 8, 8, 8, 8, 8, 8, 8, 8, 8, 8, 8, 8, 8, 8, 8, 8, 8, 8, 8, 8, 8, 8]⟩ : ByteArray) (i.1 : Int) ≤ 8 ∧ i.1 < 2 ^ (bt (⟨#[0, 1, 2, 2, 3, 3, 3, 3, 4, 4, 4, 4, 4, 4, 4, 4, 5, 5, 5, 5, 5, 5, 5, 5, 5, 5, 5, 5, 5, 5, 5, 5, 6, 6, 6, 6, 6, 6, 6, 6, 6, 6, 6, 6, 6, 6, 6, 6, 6, 6, 6, 6, 6, 6, 6, 6, 6, 6, 6, 6, 6, 6, 6, 6, 7, 7, 7, 7, 7, 7, 7, 7, 7, 7, 7, 7, 7, 7, 7, 7, 7, 7, 7, 7, 7, 7, 7, 7, 7, 7, 7, 7, 7, 7, 7, 7, 7, 7, 7, 7, 7, 7, 7, 7, 7, 7, 7, 7, 7, 7, 7, 7, 7, 7, 7, 7, 7, 7, 7, 7, 7, 7, 7, 7, 7, 7, 7, 7, 8, 8, 8, 8, 8, 8, 8, 8, 8, 8, 8, 8, 8, 8, 8, 8, 8, 8, 8, 8, 8, 8, 8, 8, 8, 8, 8, 8, 8, 8, 8, 8, 8, 8, 8, 8, 8, 8, 8, 8, 8, 8, 8, 8, 8, 8, 8, 8, 8, 8, 8, 8, 8, 8, 8, 8, 8, 8, 8, 8, 8, 8, 8, 8, 8, 8, 8, 8, 8, 8, 8, 8, 8, 8, 8, 8, 8, 8, 8, 8, 8, 8, 8, 8, 8, 8, 8, 8, 8, 8, 8, 8, 8, 8, 8, 8, 8, 8, 8, 8, 8, 8, 8, 8, 8, 8, 8, 8, 8, 8, 8, 8, 8, 8, 8, 8, 8, 8, 8, 8, 8, 8, 8, 8, 8, 8, 8, 8]⟩ : ByteArray) (i.1 : Int)).toNat := by decide +kernel
set_option maxRecDepth 100000 in
theorem tab_is {i : Nat} (h : i < 256) : ∃ l : Nat, bt (⟨#[0, 1, 2, 2, 3, 3, 3, 3, 4, 4, 4, 4, 4, 4, 4, 4, 5, 5, 5, 5, 5, 5, 5, 5, 5, 5, 5, 5, 5, 5, 5, 5, 6, 6, 6, 6, 6, 6, 6, 6, 6, 6, 6, 6, 6, 6, 6, 6, 6, 6, 6, 6, 6, 6, 6, 6, 6, 6, 6, 6, 6, 6, 6, 6, 7, 7, 7, 7, 7, 7, 7, 7, 7, 7, 7, 7, 7, 7, 7, 7, 7, 7, 7, 7, 7, 7, 7, 7, 7, 7, 7, 7, 7, 7, 7, 7, 7, 7, 7, 7, 7, 7, 7, 7, 7, 7, 7, 7, 7, 7, 7, 7, 7, 7, 7, 7, 7, 7, 7, 7, 7, 7, 7, 7, 7, 7, 7, 7, 8, 8, 8, 8, 8, 8, 8, 8, 8, 8, 8, 8, 8, 8, 8, 8, 8, 8, 8, 8, 8, 8, 8, 8, 8, 8, 8, 8, 8, 8, 8, 8, 8, 8, 8, 8, 8, 8, 8, 8, 8, 8, 8, 8, 8, 8, 8, 8, 8, 8, 8, 8, 8, 8, 8, 8, 8, 8, 8, 8, 8, 8, 8, 8, 8, 8, 8, 8, 8, 8, 8, 8, 8, 8, 8, 8, 8, 8, 8, 8, 8, 8, 8, 8, 8, 8, 8, 8, 8, 8, 8, 8, 8, 8, 8, 8, 8, 8, 8, 8, 8, 8, 8, 8, 8, 8, 8, 8, 8, 8, 8, 8, 8, 8, 8, 8, 8, 8, 8, 8, 8, 8, 8, 8, 8, 8, 8, 8]⟩ : ByteArray) (i : Int) = (l : Int) ∧ l ≤ 8 ∧ i < 2 ^ l := by
  obtain ⟨h1, h2, h3⟩ := tab_all ⟨i, h⟩
  exact ⟨(bt (⟨#[0, 1, 2, 2, 3, 3, 3, 3, 4, 4, 4, 4, 4, 4, 4, 4, 5, 5, 5, 5, 5, 5, 5, 5, 5, 5, 5, 5, 5, 5, 5, 5, 6, 6, 6, 6, 6, 6, 6, 6, 6, 6, 6, 6, 6, 6, 6, 6, 6, 6, 6, 6, 6, 6, 6, 6, 6, 6, 6, 6, 6, 6, 6, 6, 7, 7, 7, 7, 7, 7, 7, 7, 7, 7, 7, 7, 7, 7, 7, 7, 7, 7, 7, 7, 7, 7, 7, 7, 7, 7, 7, 7, 7, 7, 7, 7, 7, 7, 7, 7, 7, 7, 7, 7, 7, 7, 7, 7, 7, 7, 7, 7, 7, 7, 7, 7, 7, 7, 7, 7, 7, 7, 7, 7, 7, 7, 7, 7, 8, 8, 8, 8, 8, 8, 8, 8, 8, 8, 8, 8, 8, 8, 8, 8, 8, 8, 8, 8, 8, 8, 8, 8, 8, 8, 8, 8, 8, 8, 8, 8, 8, 8, 8, 8, 8, 8, 8, 8, 8, 8, 8, 8, 8, 8, 8, 8, 8, 8, 8, 8, 8, 8, 8, 8, 8, 8, 8, 8, 8, 8, 8, 8, 8, 8, 8, 8, 8, 8, 8, 8, 8, 8, 8, 8, 8, 8, 8, 8, 8, 8, 8, 8, 8, 8, 8, 8, 8, 8, 8, 8, 8, 8, 8, 8, 8, 8, 8, 8, 8, 8, 8, 8, 8, 8, 8, 8, 8, 8, 8, 8, 8, 8, 8, 8, 8, 8, 8, 8, 8, 8, 8, 8, 8, 8, 8, 8]⟩ : ByteArray) (i : Int)).toNat, (Int.toNat_of_nonneg h1).symm, Int.toNat_le.2 h2, h3⟩
set_option maxRecDepth 100000 in
theorem len_to (y : Nat) (h1 : 1 ≤ y) (h2 : y < 131072) : ∃ l : Nat, 1 ≤ l ∧ l ≤ 17 ∧ y < 2 ^ l ∧ To (fun k => bits_Len64.f k (y : Int)) (l : Int) := by
  simp only [bits_Len64.f]
  by_cases c1 : 65536 ≤ y
  · refine ⟨17, by omega, by omega, by omega, To.neg (by omega) (To.step ?_)⟩
    simp only [bits_Len64.j0]
    rw [show (y : Int) / 65536 = 1 by omega]
    refine To.pos (by omega) (To.neg (by omega) (To.pos (by omega) (To.pos (by omega) (To.ret' ?_))))
    decide +kernel
  by_cases c2 : 256 ≤ y
  · obtain ⟨l, e, hl, hi⟩ := tab_is (i := y / 256) (by omega)
    refine ⟨8 + l, by omega, by omega, by rw [Nat.pow_add]; omega, To.neg (by omega) (To.step ?_)⟩
    simp only [bits_Len64.j0]
    rw [show (y : Int) / 256 % 256 = ((y / 256 : Nat) : Int) by omega, e, wrap_id (x := (l : Int)) (by omega) (by omega)]
    refine To.neg (by omega) (To.pos (by omega) (To.pos (by omega) (To.pos (by omega) (To.ret' ?_))))
    rw [wrap_id (x := 0 + 8) (by omega) (by omega), wrap_id (by omega) (by omega)]
    omega
  · obtain ⟨l, e, hl, hi⟩ := tab_is (i := y) (by omega)
    have l1 : 1 ≤ l := by
      rcases Nat.eq_zero_or_pos l with rfl | h
      · rw [Nat.pow_zero] at hi; omega
      · exact h
    refine ⟨l, l1, by omega, hi, To.neg (by omega) (To.step ?_)⟩
    simp only [bits_Len64.j0]
    rw [show (y : Int) % 256 = (y : Int) by omega, e, wrap_id (x := (l : Int)) (by omega) (by omega)]
    refine To.neg (by omega) (To.neg (by omega) (To.pos (by omega) (To.pos (by omega) (To.ret' ?_))))
    rw [wrap_id (by omega) (by omega)]
    omega
theorem nn (z : Int) : ¬ (IntKind.u64.wrap 0 > IntKind.u64.wrap z) := by rw [IntKind.wrap_u64, IntKind.wrap_u64]; omega
theorem two_steps (u v : Nat) (hv : 0 < v) : u / v * 4294967296 + u % v * 4294967296 / v = u * 4294967296 / v := by
  have e : u * 4294967296 = u % v * 4294967296 + v * (u / v * 4294967296) := by
    have := Nat.div_add_mod u v
    rw [← Nat.mul_assoc, ← Nat.add_mul, Nat.add_comm (u % v), this]
  rw [e, Nat.add_mul_div_left _ _ hv, Nat.add_comm]
theorem div_l0 (s v u : Nat) (hv : 0 < v) (hv2 : v < 4294967296) (hu : u < v * 4294967296) : ∃ r : Int,
    To (fun k => bits_Div64.l0 k ((v * 4294967296 : Nat) : Int) (s : Int) (v : Int) 0 (u : Int) 0 0 ((u / v : Nat) : Int) ((u % v : Nat) : Int)) (((u * 4294967296 / v : Nat) : Int), r) := by
  refine ⟨shr .u64 (IntKind.u64.wrap (IntKind.u64.wrap (IntKind.u64.wrap (((u % v * 4294967296 : Nat) : Int) * 4294967296) + 0) - IntKind.u64.wrap (((u % v * 4294967296 / v : Nat) : Int) * ((v * 4294967296 : Nat) : Int)))) (s : Int), To.step ?_⟩
  simp only [bits_Div64.l0]
  have hq : u / v < 4294967296 := Nat.div_lt_of_lt_mul hu
  have hr : u % v < v := Nat.mod_lt _ hv
  have hq0 : u % v * 4294967296 / v < 4294967296 := Nat.div_lt_of_lt_mul (by omega)
  rw [Int.mul_zero, decide_eq_false (nn _)]
  refine To.neg (by omega) (To.step ?_)
  simp only [bits_Div64.j1]
  refine To.neg (by decide) (To.step ?_)
  simp only [bits_Div64.j2]
  have e21 : IntKind.u64.wrap (IntKind.u64.wrap (IntKind.u64.wrap ((u : Int) * 4294967296) + 0) - IntKind.u64.wrap (((u / v : Nat) : Int) * ((v * 4294967296 : Nat) : Int))) = ((u % v * 4294967296 : Nat) : Int) := by
    have d := Nat.div_add_mod u v
    have m : ((u / v : Nat) : Int) * ((v * 4294967296 : Nat) : Int) = ((v * (u / v) * 4294967296 : Nat) : Int) := by
      rw [← Int.natCast_mul]; congr 1; rw [← Nat.mul_assoc, Nat.mul_comm (u / v)]
    rw [m]
    have lt : u % v * 4294967296 < 18446744073709551616 := by omega
    rw [Int.add_zero, IntKind.wrap_u64, IntKind.wrap_u64, IntKind.wrap_u64, IntKind.wrap_u64, Int.emod_emod, ← Int.sub_emod]
    have s : (u : Int) * 4294967296 - ((v * (u / v) * 4294967296 : Nat) : Int) = ((u % v * 4294967296 : Nat) : Int) := by
      clear lt hq0 hr hq
      generalize v * (u / v) = a at *
      generalize u % v = r at *
      omega
    rw [s]
    exact Int.emod_eq_of_lt (Int.natCast_nonneg _) (by omega)
  rw [e21, Int.tdiv_eq_ediv_of_nonneg (by omega), ← Int.natCast_ediv, u64_id (a := u % v * 4294967296 / v) (by omega)]
  refine To.neg (by omega) (To.step ?_)
  simp only [bits_Div64.l1]
  rw [Int.mul_zero, decide_eq_false (nn _)]
  refine To.neg (by omega) (To.step ?_)
  simp only [bits_Div64.j4]
  refine To.neg (by decide) (To.pos (by omega) (To.ret' (Prod.ext ?_ rfl)))
  show IntKind.u64.wrap (IntKind.u64.wrap (((u / v : Nat) : Int) * 4294967296) + ((u % v * 4294967296 / v : Nat) : Int)) = _
  rw [← two_steps u v hv]
  clear e21 hr hu
  generalize u / v = a at *
  generalize u % v * 4294967296 / v = b at *
  rw [show (a : Int) * 4294967296 = ((a * 4294967296 : Nat) : Int) by omega, u64_id (a := a * 4294967296) (by omega), show ((a * 4294967296 : Nat) : Int) + (b : Int) = ((a * 4294967296 + b : Nat) : Int) by omega, u64_id (by omega)]
theorem shl_nat (a s : Nat) (hs : s ≤ 64) (h : a * 2 ^ s < 18446744073709551616) : shl .u64 (a : Int) (s : Int) = ((a * 2 ^ s : Nat) : Int) := by
  unfold shl
  rw [show ((s : Int)).toNat = s from rfl, show min s IntKind.u64.bits = s from Nat.min_eq_left hs, show (2 : Int) ^ s = ((2 ^ s : Nat) : Int) from (Int.natCast_pow 2 s).symm, ← Int.natCast_mul, u64_id h]
theorem shr_zero (s : Int) : shr .u64 0 s = 0 := by unfold shr; exact Int.zero_ediv _
theorem and_zero (a : Nat) (h : a < 18446744073709551616) : bits .and .u64 (a : Int) 4294967295 = ((a % 4294967296 : Nat) : Int) := by
  have e := bits_and_u64_nat a 4294967295 h (by omega)
  rw [show a &&& 4294967295 = a % 4294967296 from Nat.and_two_pow_sub_one_eq_mod a 32] at e
  exact e
theorem div_to (x y : Nat) (hx : x < y) (hy : y < 131072) : ∃ r : Int, To (fun k => bits_Div64.f k (x : Int) 0 (y : Int)) (((x * 18446744073709551616 / y : Nat) : Int), r) := by
  simp only [bits_Div64.f, bits_LeadingZeros64.f]
  by_cases h0 : x = 0
  · subst h0
    refine ⟨_, To.neg (by omega) (To.neg (by omega) (To.pos rfl (To.ret' (Prod.ext ?_ rfl))))⟩
    show IntKind.u64.wrap (Int.tdiv 0 (y : Int)) = _
    rw [Int.zero_tdiv, Nat.zero_mul, Nat.zero_div]; rfl
  obtain ⟨l, l1, l2, hl, tl⟩ := len_to y (by omega) hy
  obtain ⟨s, hs, hsl⟩ : ∃ s : Nat, s + l = 64 ∧ (64 - (l : Int)) = (s : Int) := ⟨64 - l, by omega, by omega⟩
  have hp : 2 ^ s * 2 ^ l = 18446744073709551616 := by rw [← Nat.pow_add, hs]
  obtain ⟨w, hw⟩ : ∃ w : Nat, 2 ^ s = w * 4294967296 := ⟨2 ^ (s - 32), by rw [show (4294967296 : Nat) = 2 ^ 32 from rfl, ← Nat.pow_add, show s - 32 + 32 = s by omega]⟩
  have w0 : 0 < w := by
    rcases Nat.eq_zero_or_pos w with rfl | h
    · have := Nat.pow_pos (n := s) (show 0 < 2 by omega); omega
    · exact h
  have yb : y * 2 ^ s < 18446744073709551616 := by
    rw [← hp, Nat.mul_comm]; exact Nat.mul_lt_mul_of_pos_left hl (Nat.pow_pos (by omega))
  have xb : x * 2 ^ s < y * 2 ^ s := Nat.mul_lt_mul_of_pos_right hx (Nat.pow_pos (by omega))
  have yv : y * 2 ^ s = y * w * 4294967296 := by rw [hw, Nat.mul_assoc]
  have v0 : 0 < y * w := Nat.mul_pos (by omega) w0
  have q : x * 2 ^ s * 4294967296 / (y * w) = x * 18446744073709551616 / y := by
    rw [hw, show x * (w * 4294967296) * 4294967296 = x * 18446744073709551616 * w by rw [show (18446744073709551616 : Nat) = 4294967296 * 4294967296 from rfl]; ac_rfl]
    exact Nat.mul_div_mul_right _ _ w0
  obtain ⟨r, hr⟩ := div_l0 s (y * w) (x * 2 ^ s) v0 (by omega) (by omega)
  rw [q, ← yv] at hr
  refine ⟨r, To.neg (by omega) (To.neg (by omega) (To.neg (by omega) (To.bind (To.bind tl (To.ret _)) ?_)))⟩
  rw [wrap_id (x := 64 - (l : Int)) (by omega) (by omega), hsl, u64_id (a := s) (by omega)]
  rw [shl_nat y s (by omega) yb, shl_nat x s (by omega) (by omega), shr_zero, show shl .u64 0 (s : Int) = 0 by unfold shl; rw [Int.zero_mul]; rfl]
  have ho : bits .or .u64 ((x * 2 ^ s : Nat) : Int) 0 = ((x * 2 ^ s : Nat) : Int) := by
    have e := bits_or_u64_nat (x * 2 ^ s) 0 (by omega) (by omega)
    rw [Nat.or_zero] at e
    exact e
  have ha : bits .and .u64 ((y * 2 ^ s : Nat) : Int) 4294967295 = 0 := by
    rw [and_zero _ yb, yv, Nat.mul_mod_left]; rfl
  have hz : bits .and .u64 0 4294967295 = 0 := by decide +kernel
  have hv : ((y * 2 ^ s : Nat) : Int) / 4294967296 = ((y * w : Nat) : Int) := by rw [yv]; omega
  rw [ho, ha, hz, hv, show (0 : Int) / 4294967296 = 0 from rfl]
  have qv : x * 2 ^ s / (y * w) ≤ x * 2 ^ s := Nat.div_le_self _ _
  have md : ((x * 2 ^ s : Nat) : Int) - ((x * 2 ^ s / (y * w) * (y * w) : Nat) : Int) = ((x * 2 ^ s % (y * w) : Nat) : Int) := by
    have := Nat.div_add_mod (x * 2 ^ s) (y * w)
    rw [Nat.mul_comm] at this
    omega
  have ml : x * 2 ^ s / (y * w) * (y * w) ≤ x * 2 ^ s := Nat.div_mul_le_self _ _
  have mm : x * 2 ^ s % (y * w) ≤ x * 2 ^ s := Nat.mod_le _ _
  rw [Int.tdiv_eq_ediv_of_nonneg (Int.natCast_nonneg _), ← Int.natCast_ediv, u64_id (a := x * 2 ^ s / (y * w)) (by omega), ← Int.natCast_mul, u64_id (a := x * 2 ^ s / (y * w) * (y * w)) (by omega), md, u64_id (a := x * 2 ^ s % (y * w)) (by omega)]
  exact To.pos (by omega) (To.pos (by rw [IntKind.wrap_u64]; omega) (To.neg (by omega) hr))
end Go.Proofs.Ytimgndceiibaeaa.Pi3
