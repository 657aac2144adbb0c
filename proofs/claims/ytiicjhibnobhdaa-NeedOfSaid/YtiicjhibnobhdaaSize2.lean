/- Sums and products of lists: what size and the reference answer, in plain numbers. -/
import Derived.Test.YtiicjhibnobhdaaSize1
import Derived.Lib.Mul64
import Derived.Laws.Bits64b
import Derived.Test.YtiicjhibnobhdaaPallx46
import Derived.Test.YtiicjhibnobhdaaPallx47
import Derived.Test.YtiicjhibnobhdaaPallx53
namespace Go.Proofs.Ytiicjhibnobhdaa.Size2
open Go.RowKit Go.Proofs.YtiicjhibnobhdaaW.PrintWords Go.Proofs.YtiicjhibnobhdaaW.PrintLast Go.Proofs.Ytiicjhibnobhdaa.Pall Go.Proofs.Ytiicjhibnobhdaa.Lib Go.Proofs.Ytiicjhibnobhdaa.Size1

def Fit (n : Int) : Prop := 0 ≤ n ∧ n ≤ 4611686018427387904
instance (n : Int) : Decidable (Fit n) := inferInstanceAs (Decidable (_ ∧ _))
def sumI : List Int → Int
  | [] => 0
  | x :: l => x + sumI l
def prodI : List Int → Int
  | [] => 1
  | x :: l => x * prodI l
theorem sumI_append (a b : List Int) : sumI (a ++ b) = sumI a + sumI b := by
  induction a with
  | nil => simp [sumI]
  | cons x a ih => simp only [List.cons_append, sumI, ih]; omega
theorem prodI_append (a b : List Int) : prodI (a ++ b) = prodI a * prodI b := by
  induction a with
  | nil => simp [prodI]
  | cons x a ih => simp only [List.cons_append, prodI, ih, Int.mul_assoc]
theorem sumI_reverse (a : List Int) : sumI a.reverse = sumI a := by
  induction a with
  | nil => rfl
  | cons x a ih => rw [List.reverse_cons, sumI_append, ih]; simp only [sumI]; omega
theorem prodI_reverse (a : List Int) : prodI a.reverse = prodI a := by
  induction a with
  | nil => rfl
  | cons x a ih => rw [List.reverse_cons, prodI_append, ih]; simp only [prodI, Int.mul_one]; rw [Int.mul_comm]
theorem sumI_nonneg {l : List Int} (h : ∀ x ∈ l, Fit x) : 0 ≤ sumI l := by
  induction l with
  | nil => simp [sumI]
  | cons x l ih =>
    have := (h x (by simp)).1
    have := ih (fun y hy => h y (by simp [hy]))
    simp only [sumI]; omega
theorem prodI_pos {l : List Int} (h : ∀ x ∈ l, 1 ≤ x) : 1 ≤ prodI l := by
  induction l with
  | nil => simp [prodI]
  | cons x l ih =>
    have h1 := h x (by simp)
    have h2 := ih (fun y hy => h y (by simp [hy]))
    simp only [prodI]
    have := Int.mul_le_mul h1 h2 (by omega) (by omega)
    omega

theorem sumI_cons (x : Int) (l : List Int) : sumI (x :: l) = x + sumI l := rfl
theorem prodI_cons (x : Int) (l : List Int) : prodI (x :: l) = x * prodI l := rfl
/-- a number, or that it is beyond the bound -/
def overS (s : Int) : Int × Int := if s > 4611686018427387904 then (0, 10) else (s, 0)
theorem overS_hi {s : Int} (h : s > 4611686018427387904) : overS s = (0, 10) := if_pos h
theorem overS_lo {s : Int} (h : s ≤ 4611686018427387904) : overS s = (s, 0) := if_neg (by omega)
/-- the sum of all, or why there is none -/
def addS (l : List Int) : Int × Int := if ∀ x ∈ l, Fit x then overS (sumI l) else (0, 1)
/-- the product of all, or why there is none -/
def mulS (l : List Int) : Int × Int := if ∀ x ∈ l, Fit x then (if (0 : Int) ∈ l then (0, 0) else overS (prodI l)) else (0, 1)

theorem all_drop {l : List Int} {n : Nat} (h : n < l.length) : (∀ x ∈ l.drop n, Fit x) ↔ Fit l[n] ∧ ∀ x ∈ l.drop (n + 1), Fit x := by
  rw [drop_cons h]
  simp only [List.mem_cons, forall_eq_or_imp]

theorem add_l1 (l : List Int) (hl : l.length ≤ 1000000000) (hf : ∀ x ∈ l, Fit x) (d : Nat) : ∀ (n : Nat) (a : Int), n + d = l.length → Fit a →
    To (fun k => size_Add.l1 k a l (l.length : Int) (n : Int)) (overS (a + sumI (l.drop n))) := by
  induction d with
  | zero =>
    intro n a hn ha
    refine To.step ?_
    simp only [size_Add.l1]
    refine To.neg (by omega) (To.ret' ?_)
    rw [List.drop_of_length_le (by omega), show sumI [] = 0 from rfl, Int.add_zero, overS_lo ha.2]
  | succ d ih =>
    intro n a hn ha
    have hlt : n < l.length := by omega
    refine To.step ?_
    simp only [size_Add.l1]
    refine To.pos (by omega) (To.pos (by omega) (To.pos (by omega) ?_))
    have hx := hf _ (List.getElem_mem hlt)
    have hs := sumI_nonneg (l := l.drop (n + 1)) (fun x hx => hf x (List.mem_of_mem_drop hx))
    rw [rd_nat hlt, drop_cons hlt, sumI_cons]
    have h1 := ha.1
    have h2 := ha.2
    have h3 := hx.1
    have h4 := hx.2
    rw [wrap_id (x := 4611686018427387904 - a) (by omega) (by omega)]
    refine To.ite (fun h => To.ret' ?_) (fun h => ?_)
    · rw [overS_hi (by omega)]
    · rw [wrap_id (x := a + l[n]) (by omega) (by omega), wrap_id (x := (n : Int) + 1) (by omega) (by omega)]
      have := ih (n + 1) (a + l[n]) (by omega) ⟨by omega, by omega⟩
      rw [← Int.add_assoc]
      exact this
theorem add_l0 (l : List Int) (hl : l.length ≤ 1000000000) (d : Nat) : ∀ (n : Nat), n + d = l.length → (∀ x ∈ l.take n, Fit x) →
    To (fun k => size_Add.l0 k l 0 l (l.length : Int) (n : Int)) (addS l) := by
  induction d with
  | zero =>
    intro n hn ht
    refine To.step ?_
    simp only [size_Add.l0]
    refine To.neg (by omega) ?_
    rw [List.take_of_length_le (by omega)] at ht
    have := add_l1 l hl ht l.length 0 0 (by omega) ⟨by omega, by omega⟩
    unfold addS
    rw [if_pos ht]
    simpa using this
  | succ d ih =>
    intro n hn ht
    have hlt : n < l.length := by omega
    refine To.step ?_
    simp only [size_Add.l0, held_is]
    refine To.pos (by omega) (To.pos (by omega) (To.pos (by omega) (To.bind0 rfl ?_)))
    rw [rd_nat hlt]
    by_cases hx : Fit l[n]
    · refine To.pos (decide_eq_true hx) ?_
      rw [wrap_id (x := (n : Int) + 1) (by omega) (by omega)]
      refine ih (n + 1) (by omega) ?_
      intro x hx'
      rw [List.take_succ_eq_append_getElem hlt, List.mem_append, List.mem_singleton] at hx'
      rcases hx' with h | rfl
      · exact ht x h
      · exact hx
    · refine To.neg (by rw [decide_eq_true_iff]; exact hx) (To.ret' ?_)
      unfold addS
      rw [if_neg (fun h => hx (h _ (List.getElem_mem hlt)))]
theorem add_to (l : List Int) (hl : l.length ≤ 1000000000) : To (fun k => size_Add.f k l) (addS l) := by
  simp only [size_Add.f]
  exact add_l0 l hl l.length 0 (by omega) (by simp)

theorem ref_held_l0 (l : List Int) (hl : l.length ≤ 1000000000) (d : Nat) : ∀ (n : Nat), n + d = l.length →
    To (fun k => pestleref02_held.l0 k l (n : Int)) (decide (∀ x ∈ l.drop n, Fit x)) := by
  induction d with
  | zero =>
    intro n hn
    refine To.step ?_
    simp only [pestleref02_held.l0]
    refine To.neg (by omega) (To.ret' ?_)
    rw [List.drop_of_length_le (by omega)]
    simp
  | succ d ih =>
    intro n hn
    have hlt : n < l.length := by omega
    refine To.step ?_
    simp only [pestleref02_held.l0]
    refine To.pos (by omega) (To.pos (by omega) ?_)
    rw [rd_nat hlt]
    refine To.ite (fun h => To.ret' ?_) (fun h => To.ite (fun h' => To.ret' ?_) (fun h' => ?_))
    · symm; rw [decide_eq_false_iff_not, all_drop hlt]; rintro ⟨⟨h1, _⟩, _⟩; omega
    · symm; rw [decide_eq_false_iff_not, all_drop hlt]; rintro ⟨⟨_, h1⟩, _⟩; omega
    · rw [wrap_id (x := (n : Int) + 1) (by omega) (by omega)]
      refine (ih (n + 1) (by omega)).eq ?_
      rw [decide_eq_decide, all_drop hlt]
      exact ⟨fun h1 => ⟨⟨by omega, by omega⟩, h1⟩, fun h1 => h1.2⟩
theorem ref_held_to (l : List Int) (hl : l.length ≤ 1000000000) : To (fun k => pestleref02_held.f k l) (decide (∀ x ∈ l, Fit x)) := by
  simp only [pestleref02_held.f]
  simpa using ref_held_l0 l hl l.length 0 (by omega)
theorem ref_add_l0 (l : List Int) (hl : l.length ≤ 1000000000) (hf : ∀ x ∈ l, Fit x) (d : Nat) : ∀ (n : Nat) (a : Int), n + d = l.length → Fit a →
    To (fun k => pestleref02_Add.l0 k l a (n : Int)) (overS (a + sumI (l.drop n))) := by
  induction d with
  | zero =>
    intro n a hn ha
    refine To.step ?_
    simp only [pestleref02_Add.l0]
    refine To.neg (by omega) (To.ret' ?_)
    rw [List.drop_of_length_le (by omega), show sumI [] = 0 from rfl, Int.add_zero, overS_lo ha.2]
  | succ d ih =>
    intro n a hn ha
    have hlt : n < l.length := by omega
    refine To.step ?_
    simp only [pestleref02_Add.l0]
    refine To.pos (by omega) (To.pos (by omega) ?_)
    have hx := hf _ (List.getElem_mem hlt)
    have hs := sumI_nonneg (l := l.drop (n + 1)) (fun x hx => hf x (List.mem_of_mem_drop hx))
    rw [rd_nat hlt, drop_cons hlt, sumI_cons]
    have h1 := ha.1
    have h2 := ha.2
    have h3 := hx.1
    have h4 := hx.2
    rw [wrap_id (x := 4611686018427387904 - a) (by omega) (by omega)]
    refine To.ite (fun h => To.ret' ?_) (fun h => ?_)
    · rw [overS_hi (by omega)]
    · rw [wrap_id (x := a + l[n]) (by omega) (by omega), wrap_id (x := (n : Int) + 1) (by omega) (by omega)]
      have := ih (n + 1) (a + l[n]) (by omega) ⟨by omega, by omega⟩
      rw [← Int.add_assoc]
      exact this
theorem ref_add_to (l : List Int) (hl : l.length ≤ 1000000000) : To (fun k => pestleref02_Add.f k l) (addS l) := by
  simp only [pestleref02_Add.f]
  refine To.bind (ref_held_to l hl) ?_
  unfold addS
  by_cases hf : ∀ x ∈ l, Fit x
  · rw [if_pos hf]
    refine To.pos (decide_eq_true hf) ?_
    simpa using ref_add_l0 l hl hf l.length 0 0 (by omega) ⟨by omega, by omega⟩
  · rw [if_neg hf]
    exact To.neg (by rw [decide_eq_true_iff]; exact hf) (To.ret _)

theorem maskN (a : Nat) (ha : a < 18446744073709551616) : bits .and .u64 (a : Int) 4294967295 = ((a % 4294967296 : Nat) : Int) := by
  have h := bits_and_u64_nat a 4294967295 ha (by omega)
  have e : a &&& 4294967295 = a % 4294967296 := Nat.and_two_pow_sub_one_eq_mod a 32
  rw [e] at h
  exact h
theorem divN (a : Nat) : (a : Int) / 4294967296 = ((a / 4294967296 : Nat) : Int) := by omega
theorem mulN (a b : Nat) : (a : Int) * (b : Int) = ((a * b : Nat) : Int) := (Int.natCast_mul a b).symm
theorem addN (a b : Nat) : (a : Int) + (b : Int) = ((a + b : Nat) : Int) := (Int.natCast_add a b).symm
theorem wrapN (a : Nat) (ha : a < 18446744073709551616) : IntKind.u64.wrap (a : Int) = (a : Int) := by rw [IntKind.wrap_u64]; omega
theorem wrapM (a : Nat) : IntKind.u64.wrap (a : Int) = ((a % 18446744073709551616 : Nat) : Int) := by rw [IntKind.wrap_u64]; omega
theorem mul64_nat (x y : Nat) (hx : x < 18446744073709551616) (hy : y < 18446744073709551616) :
    bits_Mul64.f (x : Int) (y : Int) = some (((x * y / 18446744073709551616 : Nat) : Int), ((x * y % 18446744073709551616 : Nat) : Int)) := by
  obtain ⟨bd, bt, bw, hhi⟩ := Go.Lib.mul64_hi x y hx hy
  have ba := Go.Lib.half_mul_le (a := x / 4294967296) (b := y / 4294967296) (by omega) (by omega)
  have bb := Go.Lib.half_mul_le (a := x / 4294967296) (b := y % 4294967296) (by omega) (by omega)
  have bc := Go.Lib.half_mul_le (a := x % 4294967296) (b := y / 4294967296) (by omega) (by omega)
  have ba' : x / 4294967296 * (y / 4294967296) < 18446744073709551616 := by omega
  have bb' : x / 4294967296 * (y % 4294967296) < 18446744073709551616 := by omega
  have bc' : x % 4294967296 * (y / 4294967296) < 18446744073709551616 := by omega
  have bh1 : x / 4294967296 * (y / 4294967296) + (x / 4294967296 * (y % 4294967296) + x % 4294967296 * (y % 4294967296) / 4294967296) / 4294967296 < 18446744073709551616 := by omega
  have bh : x / 4294967296 * (y / 4294967296) + (x / 4294967296 * (y % 4294967296) + x % 4294967296 * (y % 4294967296) / 4294967296) / 4294967296 + ((x / 4294967296 * (y % 4294967296) + x % 4294967296 * (y % 4294967296) / 4294967296) % 4294967296 + x % 4294967296 * (y / 4294967296)) / 4294967296 < 18446744073709551616 := by omega
  unfold bits_Mul64.f
  simp only [maskN x hx, maskN y hy, divN, mulN, addN, wrapN _ bd, wrapN _ bb', wrapN _ bt, maskN _ bt, wrapN _ bc', wrapN _ bw, wrapN _ ba', wrapN _ bh1, wrapN _ bh, wrapM (x * y)]
  rw [hhi]
/-- two numbers that may be reckoned with, multiplied in two words -/
theorem mul64_fit {a b : Int} (ha : Fit a) (hb : Fit b) : ∃ h l : Int, bits_Mul64.f (IntKind.u64.wrap a) (IntKind.u64.wrap b) = some (h, l) ∧ (a * b ≤ 4611686018427387904 → h = 0 ∧ l = a * b) ∧ (4611686018427387904 < a * b → h > 0 ∨ l > 4611686018427387904) ∧ 0 ≤ h ∧ 0 ≤ l := by
  obtain ⟨x, rfl⟩ : ∃ x : Nat, a = x := ⟨a.toNat, by have := ha.1; omega⟩
  obtain ⟨y, rfl⟩ : ∃ y : Nat, b = y := ⟨b.toNat, by have := hb.1; omega⟩
  have hx := ha.2
  have hy := hb.2
  refine ⟨_, _, by rw [wrapN _ (by omega), wrapN _ (by omega)]; exact mul64_nat x y (by omega) (by omega), ?_⟩
  rw [mulN]
  generalize x * y = p
  refine ⟨fun h => ⟨by omega, by omega⟩, fun h => by omega, by omega, by omega⟩

theorem mul_l1 (l : List Int) (hl : l.length ≤ 1000000000) (hf : ∀ x ∈ l, Fit x) (h1 : ∀ x ∈ l, 1 ≤ x) (d : Nat) : ∀ (n : Nat) (a : Int), n + d = l.length → Fit a → 1 ≤ a →
    To (fun k => size_Mul.l1 k a l (l.length : Int) (n : Int)) (overS (a * prodI (l.drop n))) := by
  induction d with
  | zero =>
    intro n a hn ha _
    refine To.step ?_
    simp only [size_Mul.l1]
    refine To.neg (by omega) (To.ret' ?_)
    rw [List.drop_of_length_le (by omega), show prodI [] = 1 from rfl, Int.mul_one, overS_lo ha.2]
  | succ d ih =>
    intro n a hn ha ha1
    have hlt : n < l.length := by omega
    refine To.step ?_
    simp only [size_Mul.l1]
    refine To.pos (by omega) (To.pos (by omega) (To.pos (by omega) ?_))
    have hx := hf _ (List.getElem_mem hlt)
    have hx1 := h1 _ (List.getElem_mem hlt)
    have hp := prodI_pos (l := l.drop (n + 1)) (fun x hx => h1 x (List.mem_of_mem_drop hx))
    obtain ⟨h, lo, he, hs, hb, h0, l0⟩ := mul64_fit ha hx
    rw [rd_nat hlt, drop_cons hlt, prodI_cons, ← Int.mul_assoc]
    refine To.bind0 he ?_
    by_cases hov : a * l[n] ≤ 4611686018427387904
    · obtain ⟨rfl, rfl⟩ := hs hov
      have hpos : 1 ≤ a * l[n] := by
        have := Int.mul_le_mul ha1 hx1 (by omega) (by omega)
        omega
      refine To.neg (by omega) (To.neg (by show ¬ (a * l[n] > 4611686018427387904); omega) ?_)
      show To (fun k => size_Mul.l1 k (wrap64 (a * l[n])) l (l.length : Int) (wrap64 ((n : Int) + 1))) _
      rw [wrap_id (x := a * l[n]) (by omega) (by omega), wrap_id (x := (n : Int) + 1) (by omega) (by omega)]
      exact ih (n + 1) _ (by omega) ⟨by omega, hov⟩ hpos
    · have hov' : a * l[n] * prodI (l.drop (n + 1)) > 4611686018427387904 := by
        have := Int.mul_le_mul (Int.le_refl (a * l[n])) hp (by omega) (by omega)
        omega
      rw [overS_hi hov']
      rcases hb (by omega) with h' | h'
      · exact To.pos h' (To.ret _)
      · refine To.ite (fun _ => To.ret _) (fun _ => To.pos h' (To.ret _))
theorem mul_l0 (l : List Int) (hl : l.length ≤ 1000000000) (d : Nat) : ∀ (n : Nat) (z : Bool), n + d = l.length → (∀ x ∈ l.take n, Fit x) → z = decide ((0 : Int) ∈ l.take n) →
    To (fun k => size_Mul.l0 k l 1 z l (l.length : Int) (n : Int)) (mulS l) := by
  induction d with
  | zero =>
    intro n z hn ht hz
    refine To.step ?_
    simp only [size_Mul.l0]
    refine To.neg (by omega) ?_
    rw [List.take_of_length_le (by omega)] at ht hz
    unfold mulS
    rw [if_pos ht]
    by_cases h0 : (0 : Int) ∈ l
    · rw [if_pos h0]
      exact To.pos (by rw [hz]; exact decide_eq_true h0) (To.ret _)
    · rw [if_neg h0]
      refine To.neg (by rw [hz, decide_eq_true_iff]; exact h0) ?_
      have := mul_l1 l hl ht (fun x hx => by have := (ht x hx).1; have : x ≠ 0 := fun e => h0 (e ▸ hx); omega) l.length 0 1 (by omega) ⟨by omega, by omega⟩ (by omega)
      simpa using this
  | succ d ih =>
    intro n z hn ht hz
    have hlt : n < l.length := by omega
    refine To.step ?_
    simp only [size_Mul.l0, held_is]
    refine To.pos (by omega) (To.pos (by omega) (To.pos (by omega) (To.bind0 rfl ?_)))
    rw [rd_nat hlt]
    by_cases hx : Fit l[n]
    · refine To.pos (decide_eq_true hx) ?_
      rw [wrap_id (x := (n : Int) + 1) (by omega) (by omega)]
      have ht' : ∀ x ∈ l.take (n + 1), Fit x := by
        intro x hx'
        rw [List.take_succ_eq_append_getElem hlt, List.mem_append, List.mem_singleton] at hx'
        rcases hx' with h | rfl
        · exact ht x h
        · exact hx
      refine To.ite (fun h => ih (n + 1) true (by omega) ht' ?_) (fun h => ih (n + 1) _ (by omega) ht' ?_)
      · symm
        rw [decide_eq_true_iff, List.take_succ_eq_append_getElem hlt, List.mem_append]
        left
        rw [h] at hz
        exact of_decide_eq_true hz.symm
      · rw [List.take_succ_eq_append_getElem hlt]
        have hz' : ¬ (0 : Int) ∈ l.take n := by
          intro hm
          exact h (hz.trans (decide_eq_true hm))
        rw [Bool.eq_iff_iff, beq_iff_eq, decide_eq_true_iff, List.mem_append, List.mem_singleton]
        exact ⟨fun e => Or.inr e.symm, fun e => e.elim (fun e => absurd e hz') (fun e => e.symm)⟩
    · refine To.neg (by rw [decide_eq_true_iff]; exact hx) (To.ret' ?_)
      unfold mulS
      rw [if_neg (fun h => hx (h _ (List.getElem_mem hlt)))]
theorem mul_to (l : List Int) (hl : l.length ≤ 1000000000) : To (fun k => size_Mul.f k l) (mulS l) := by
  simp only [size_Mul.f]
  exact mul_l0 l hl l.length 0 false (by omega) (by simp) (by simp)

end Go.Proofs.Ytiicjhibnobhdaa.Size2
