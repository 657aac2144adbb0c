/- What the functions of dec, and of its reference, answer: digits and numbers. -/
import Derived.Test.YtoknoghdnedmhaaByt
import Derived.Test.YtoknoghdnedmhaaPallx1
import Derived.Test.YtoknoghdnedmhaaPallx4

namespace Go.Proofs.Ytoknoghdnedmhaa.Dec1
open Go.RowKit Go.Proofs.YtoknoghdnedmhaaW.PrintWords Go.Proofs.YtoknoghdnedmhaaW.PrintLast Go.Proofs.Ytoknoghdnedmhaa.Pall Go.Proofs.Ytoknoghdnedmhaa.Lib Go.Proofs.Ytoknoghdnedmhaa.Byt

def dig (n : Nat) : UInt8 := UInt8.ofNat (48 + n)
theorem dig_nat {n : Nat} (h : n < 10) : (dig n).toNat = 48 + n := u8_of (by omega)
/-- digits, the last first -/
def lsd (n : Nat) : List UInt8 := if n < 10 then [dig n] else dig (n % 10) :: lsd (n / 10)
theorem lsd_lo {n : Nat} (h : n < 10) : lsd n = [dig n] := by rw [lsd, if_pos h]
theorem lsd_hi {n : Nat} (h : ¬ n < 10) : lsd n = dig (n % 10) :: lsd (n / 10) := by rw [lsd, if_neg h]
def textN (n : Nat) : List UInt8 := (lsd n).reverse
theorem textN_lo {n : Nat} (h : n < 10) : textN n = [dig n] := by rw [textN, lsd_lo h]; rfl
theorem textN_hi {n : Nat} (h : ¬ n < 10) : textN n = textN (n / 10) ++ [dig (n % 10)] := by rw [textN, lsd_hi h, List.reverse_cons]; rfl
/-- the text of a number: none of one below 0 -/
def textS (n : Int) : ByteArray := if n < 0 then ⟨#[]⟩ else mkB (textN n.toNat)
def isDig (c : UInt8) : Prop := 48 ≤ c.toNat ∧ c.toNat ≤ 57
instance (c : UInt8) : Decidable (isDig c) := inferInstanceAs (Decidable (_ ∧ _))
/-- the number of digits, from a number on -/
def valA : Nat → List UInt8 → Nat
  | a, [] => a
  | a, c :: l => valA (10 * a + (c.toNat - 48)) l
/-- is it a number's only text? -/
def Canon (l : List UInt8) : Prop := l ≠ [] ∧ (∀ c ∈ l, isDig c) ∧ (l.head? = some 48 → l.length = 1)
instance (l : List UInt8) : Decidable (Canon l) := inferInstanceAs (Decidable (_ ∧ _ ∧ _))
/-- a number, or that it is beyond the bound -/
def numS (v : Nat) : Int × Int := if v > 4611686018427387904 then (0, 10) else ((v : Int), 0)
theorem numS_hi {v : Nat} (h : v > 4611686018427387904) : numS v = (0, 10) := if_pos h
theorem numS_lo {v : Nat} (h : v ≤ 4611686018427387904) : numS v = ((v : Int), 0) := if_neg (by omega)
def readL (l : List UInt8) : Int × Int := if Canon l then numS (valA 0 l) else (0, 7)
def readS (s : ByteArray) : Int × Int := readL (L s)

/-! ### Text -/
theorem lsd_len (n : Nat) (k : Nat) (h : n < 10 ^ k) : (lsd n).length ≤ k + 1 := by
  induction k generalizing n with
  | zero => rw [lsd_lo (by omega)]; simp
  | succ k ih =>
    by_cases hn : n < 10
    · rw [lsd_lo hn]; simp
    · rw [lsd_hi hn]
      have := ih (n / 10) (by rw [Nat.pow_succ] at h; omega)
      simp only [List.length_cons]; omega
theorem rev_to (A M C : List Int) (hlen : (A ++ M ++ C).length ≤ 1000000000) (hac : A.length = C.length) : To (fun k => dec_Text.l1 k (A ++ M ++ C) (A.length : Int) (((A ++ M ++ C).length : Int) - 1 - (A.length : Int))) (strOfNums (A ++ M.reverse ++ C)) := by
  generalize hd : M.length = d
  induction d using Nat.strongRecOn generalizing A M C with
  | _ d ih =>
    refine To.step ?_
    simp only [dec_Text.l1]
    simp only [List.length_append] at hlen ⊢
    match M, hd with
    | [], hd =>
      refine To.neg ?_ (To.ret' rfl)
      simp only [List.length_nil]; omega
    | [x], hd =>
      refine To.neg ?_ (To.ret' rfl)
      simp only [List.length_cons, List.length_nil]; omega
    | x :: y :: M', hd =>
      obtain ⟨M2, z, hM⟩ : ∃ M2 z, y :: M' = M2 ++ [z] := ⟨(y :: M').dropLast, (y :: M').getLast (by simp), (List.dropLast_concat_getLast (by simp)).symm⟩
      rw [hM] at hd hlen ⊢
      simp only [List.length_cons, List.length_append, List.length_nil] at hd hlen ⊢
      have e6 : (((A.length + (M2.length + (0 + 1) + 1) + C.length : Nat) : Int) - 1 - (A.length : Int)) = ((A.length + 1 + M2.length : Nat) : Int) := by omega
      have el : A ++ x :: (M2 ++ [z]) ++ C = A ++ ([x] ++ (M2 ++ ([z] ++ C))) := by simp
      rw [e6, el]
      have hL : (A ++ ([x] ++ (M2 ++ ([z] ++ C)))).length = A.length + 2 + M2.length + C.length := by simp; omega
      refine To.pos (by omega) (To.pos (by omega) (To.pos (by omega) (To.pos (by omega) (To.pos (by omega) ?_))))
      rw [rd_nat (l := A ++ ([x] ++ (M2 ++ ([z] ++ C)))) (n := A.length + 1 + M2.length) (by rw [hL]; omega), rd_nat (l := A ++ ([x] ++ (M2 ++ ([z] ++ C)))) (n := A.length) (by rw [hL]; omega)]
      have g1 : (A ++ ([x] ++ (M2 ++ ([z] ++ C))))[A.length + 1 + M2.length]'(by rw [hL]; omega) = z := by
        rw [List.getElem_append_right (by omega), List.getElem_append_right (by simp; omega), List.getElem_append_right (by simp; omega)]
        simp [show A.length + 1 + M2.length - A.length - 1 - M2.length = 0 by omega]
      have g2 : (A ++ ([x] ++ (M2 ++ ([z] ++ C))))[A.length]'(by rw [hL]; omega) = x := by
        rw [List.getElem_append_right (by omega)]
        simp
      rw [g1, g2, Int.toNat_natCast, Int.toNat_natCast]
      have s1 : (A ++ ([x] ++ (M2 ++ ([z] ++ C)))).set A.length z = A ++ ([z] ++ (M2 ++ ([z] ++ C))) := by
        rw [List.set_append_right _ _ (by omega)]
        simp
      have s2 : (A ++ ([z] ++ (M2 ++ ([z] ++ C)))).set (A.length + 1 + M2.length) x = (A ++ [z]) ++ M2 ++ (x :: C) := by
        rw [List.set_append_right _ _ (by omega), List.set_append_right _ _ (by simp; omega), List.set_append_right _ _ (by simp; omega)]
        simp [show A.length + 1 + M2.length - A.length - 1 - M2.length = 0 by omega]
      rw [s1, s2, wrap_id (by omega) (by omega), wrap_id (by omega) (by omega)]
      have := ih M2.length (by omega) (A ++ [z]) M2 (x :: C) (by simp; omega) (by simp; omega) rfl
      have e7 : (((A ++ [z]).length : Nat) : Int) = (A.length : Int) + 1 := by simp
      have e8 : ((((A ++ [z]) ++ M2 ++ (x :: C)).length : Nat) : Int) - 1 - (((A ++ [z]).length : Nat) : Int) = ((A.length + 1 + M2.length : Nat) : Int) - 1 := by simp; omega
      rw [e8, e7] at this
      refine this.eq ?_
      congr 1
      simp
theorem dig_snoc (acc : List UInt8) (m : Nat) (hm : m < 10) : U acc ++ [(48 + (m : Int)) % 256] = U (acc ++ [dig m]) := by
  have e : [(48 + (m : Int)) % 256] = U [dig m] := by
    simp only [U, List.map_cons, List.map_nil]
    rw [dig_nat hm]
    exact congrArg (fun z => [z]) (by omega)
  rw [U_append, e]
theorem text_last (n : Nat) (acc : List UInt8) (h : n < 10) (ha : acc.length ≤ 1000) :
    To (fun k => dec_Text.l0 k (n : Int) (U acc) true) (mkB (acc ++ lsd n).reverse) := by
  refine To.step ?_
  simp only [dec_Text.l0]
  refine To.pos trivial (To.pos (by rw [U_length]; omega) ?_)
  have e0 : Int.tdiv (n : Int) 10 = 0 := by rw [Int.tdiv_eq_ediv_of_nonneg (by omega)]; omega
  have e1 : Int.tmod (n : Int) 10 = (n : Int) := by rw [Int.tmod_eq_emod_of_nonneg (by omega)]; omega
  rw [e0, e1, wrap_id (x := 0) (by omega) (by omega), wrap_id (x := 48 + (n : Int)) (by omega) (by omega), dig_snoc _ _ h]
  refine To.step ?_
  simp only [dec_Text.l0]
  refine To.neg (by decide) ?_
  rw [lsd_lo h]
  have hl : (acc ++ [dig n]).length ≤ 1000000000 := by simp; omega
  have := rev_to [] (U (acc ++ [dig n])) [] (by simpa [U_length] using hl) rfl
  simp only [List.nil_append, List.append_nil, List.length_nil, Int.natCast_zero, Int.sub_zero, U_length] at this
  rw [U_length, wrap_id (by omega) (by omega)]
  rw [← U_reverse, str_U] at this
  exact this
theorem text_l0 (d : Nat) (n : Nat) (acc : List UInt8) (hn : n < 10 ^ (d + 1)) (hn' : n ≤ 9223372036854775807) (ha : acc.length + d ≤ 1000) :
    To (fun k => dec_Text.l0 k (n : Int) (U acc) true) (mkB (acc ++ lsd n).reverse) := by
  induction d generalizing n acc with
  | zero => exact text_last n acc (by omega) (by omega)
  | succ d ih =>
    by_cases h : n < 10
    · exact text_last n acc h (by omega)
    refine To.step ?_
    simp only [dec_Text.l0]
    refine To.pos trivial (To.pos (by rw [U_length]; omega) ?_)
    have e0 : Int.tdiv (n : Int) 10 = ((n / 10 : Nat) : Int) := by rw [Int.tdiv_eq_ediv_of_nonneg (by omega)]; omega
    have e1 : Int.tmod (n : Int) 10 = ((n % 10 : Nat) : Int) := by rw [Int.tmod_eq_emod_of_nonneg (by omega)]; omega
    rw [e0, e1, wrap_id (x := ((n / 10 : Nat) : Int)) (by omega) (by omega), wrap_id (x := 48 + ((n % 10 : Nat) : Int)) (by omega) (by omega), dig_snoc _ _ (by omega)]
    rw [show decide (((n / 10 : Nat) : Int) > 0) = true from decide_eq_true (by omega)]
    have := ih (n / 10) (acc ++ [dig (n % 10)]) (by rw [Nat.pow_succ] at hn; omega) (by omega) (by simp; omega)
    rw [lsd_hi h]
    simpa using this
theorem text_to (n : Int) (hn : n ≤ 9223372036854775807) : To (fun k => dec_Text.f k n) (textS n) := by
  unfold textS
  simp only [dec_Text.f]
  refine To.ite (fun h => To.ret' ?_) (fun h => ?_)
  · rw [if_pos h]
  · rw [if_neg h]
    obtain ⟨m, rfl⟩ : ∃ m : Nat, n = m := ⟨n.toNat, by omega⟩
    have := text_l0 19 m [] (by omega) (by omega) (by simp)
    rw [Int.toNat_natCast]
    exact this
theorem ref_dig (n : Nat) (h : n < 10) : L ((⟨#[48, 49, 50, 51, 52, 53, 54, 55, 56, 57]⟩ : ByteArray).extract n (n + 1)) = [dig n] := by
  have : ∀ n : Fin 10, L ((⟨#[48, 49, 50, 51, 52, 53, 54, 55, 56, 57]⟩ : ByteArray).extract n.1 (n.1 + 1)) = [dig n.1] := by decide +kernel
  exact this ⟨n, h⟩
theorem textN_len (n : Nat) (k : Nat) (h : n < 10 ^ k) : (textN n).length ≤ k + 1 := by
  rw [textN, List.length_reverse]
  exact lsd_len n k h
theorem ref_text_nat (d : Nat) (n : Nat) (hn : n < 10 ^ (d + 1)) (hd : d ≤ 19) (hn' : n ≤ 9223372036854775807) : To (fun k => pestleref18_Text.f k (n : Int)) (mkB (textN n)) := by
  induction d generalizing n with
  | zero =>
    refine To.step ?_
    simp only [pestleref18_Text.f]
    have e1 : Int.tmod (n : Int) 10 = ((n % 10 : Nat) : Int) := by rw [Int.tmod_eq_emod_of_nonneg (by omega)]; omega
    rw [e1, wrap_id (by omega) (by omega)]
    refine To.neg (by omega) (To.pos (by omega) (To.pos (by omega) (To.pos (by omega) (To.pos (by omega) (To.ret' ?_)))))
    apply L_inj
    rw [L_mk, textN_lo (by omega), Int.toNat_natCast, show (((n % 10 : Nat) : Int) + 1).toNat = n % 10 + 1 by omega, ref_dig _ (by omega), show n % 10 = n by omega]
  | succ d ih =>
    refine To.step ?_
    simp only [pestleref18_Text.f]
    have e0 : Int.tdiv (n : Int) 10 = ((n / 10 : Nat) : Int) := by rw [Int.tdiv_eq_ediv_of_nonneg (by omega)]; omega
    have e1 : Int.tmod (n : Int) 10 = ((n % 10 : Nat) : Int) := by rw [Int.tmod_eq_emod_of_nonneg (by omega)]; omega
    rw [e1, e0, wrap_id (x := ((n % 10 : Nat) : Int) + 1) (by omega) (by omega), wrap_id (x := ((n / 10 : Nat) : Int)) (by omega) (by omega)]
    rw [Int.toNat_natCast, show (((n % 10 : Nat) : Int) + 1).toNat = n % 10 + 1 by omega]
    refine To.neg (by omega) (To.pos (by omega) (To.pos (by omega) (To.pos (by omega) (To.ite (fun h => To.ret' ?_) (fun h => ?_)))))
    · apply L_inj
      rw [L_mk, textN_lo (by omega), ref_dig _ (by omega), show n % 10 = n by omega]
    · refine To.bind (ih (n / 10) (by rw [Nat.pow_succ] at hn; omega) (by omega) (by omega)) (To.pos ?_ (To.ret' ?_))
      · rw [size_L, size_L, L_mk, ref_dig _ (by omega)]
        have := textN_len (n / 10) 20 (by omega)
        simp; omega
      · apply L_inj
        rw [L_append, L_mk, L_mk, ref_dig _ (by omega), ← textN_hi (by omega)]
theorem ref_text_to (n : Int) (hn : n ≤ 9223372036854775807) : To (fun k => pestleref18_Text.f k n) (textS n) := by
  unfold textS
  by_cases h : n < 0
  · rw [if_pos h]
    refine To.step ?_
    simp only [pestleref18_Text.f]
    exact To.pos h (To.ret _)
  · rw [if_neg h]
    obtain ⟨m, rfl⟩ : ∃ m : Nat, n = m := ⟨n.toNat, by omega⟩
    rw [Int.toNat_natCast]
    exact ref_text_nat 19 m (by omega) (by omega) (by omega)
end Go.Proofs.Ytoknoghdnedmhaa.Dec1
