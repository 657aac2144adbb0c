/- Numbers and their texts go to and fro. -/
import Derived.Test.YtoknoghdnedmhaaDec2
namespace Go.Proofs.Ytoknoghdnedmhaa.Dec3
open Go.RowKit Go.Proofs.YtoknoghdnedmhaaW.PrintWords Go.Proofs.YtoknoghdnedmhaaW.PrintLast Go.Proofs.Ytoknoghdnedmhaa.Pall Go.Proofs.Ytoknoghdnedmhaa.Lib Go.Proofs.Ytoknoghdnedmhaa.Byt Go.Proofs.Ytoknoghdnedmhaa.Dec1 Go.Proofs.Ytoknoghdnedmhaa.Dec2

theorem dig_is {n : Nat} (h : n < 10) : isDig (dig n) := by
  unfold isDig
  rw [dig_nat h]
  omega
theorem textN_ne (n : Nat) : textN n ≠ [] := by
  by_cases h : n < 10
  · rw [textN_lo h]; simp
  · rw [textN_hi h]; simp
theorem textN_dig (n : Nat) : ∀ c ∈ textN n, isDig c := by
  induction n using Nat.strongRecOn with
  | _ n ih =>
    by_cases h : n < 10
    · rw [textN_lo h]
      intro c hc
      rw [List.mem_singleton] at hc
      subst hc
      exact dig_is h
    · rw [textN_hi h]
      intro c hc
      rw [List.mem_append, List.mem_singleton] at hc
      rcases hc with hc | rfl
      · exact ih (n / 10) (by omega) c hc
      · exact dig_is (by omega)
theorem textN_val (n : Nat) : valA 0 (textN n) = n := by
  induction n using Nat.strongRecOn with
  | _ n ih =>
    by_cases h : n < 10
    · rw [textN_lo h]
      show 10 * 0 + ((dig n).toNat - 48) = n
      rw [dig_nat h]
      omega
    · rw [textN_hi h, valA_append, ih (n / 10) (by omega)]
      show 10 * (n / 10) + ((dig (n % 10)).toNat - 48) = n
      rw [dig_nat (by omega)]
      omega
theorem textN_head (n : Nat) : (textN n).head? = some 48 → (textN n).length = 1 := by
  induction n using Nat.strongRecOn with
  | _ n ih =>
    by_cases h : n < 10
    · rw [textN_lo h]; intro _; rfl
    · rw [textN_hi h]
      intro hh
      exfalso
      have hne := textN_ne (n / 10)
      have hh' : (textN (n / 10)).head? = some 48 := by
        cases e : textN (n / 10) with
        | nil => exact absurd e hne
        | cons c l => rw [e] at hh; simpa using hh
      have hl := ih (n / 10) (by omega) hh'
      by_cases h2 : n / 10 < 10
      · rw [textN_lo h2, List.head?_cons, Option.some.injEq] at hh'
        have := congrArg UInt8.toNat hh'
        rw [dig_nat h2] at this
        have h48 : (48 : UInt8).toNat = 48 := rfl
        omega
      · rw [textN_hi h2, List.length_append, List.length_singleton] at hl
        have : 0 < (textN (n / 10 / 10)).length := List.length_pos_iff.2 (textN_ne _)
        omega
theorem textN_canon (n : Nat) : Canon (textN n) := ⟨textN_ne n, textN_dig n, textN_head n⟩
/-- a list of digits, the last one taken off -/
theorem canon_snoc {l : List UInt8} {c : UInt8} (hl : l ≠ []) (h : Canon (l ++ [c])) : Canon l ∧ 1 ≤ valA 0 l := by
  obtain ⟨_, hd, hh⟩ := h
  cases l with
  | nil => exact absurd rfl hl
  | cons x l =>
    have hx : x ≠ 48 := by
      intro e
      subst e
      have := hh rfl
      simp at this
    refine ⟨⟨hl, fun y hy => hd y (List.mem_append_left _ hy), fun e => absurd (by simpa using e) hx⟩, ?_⟩
    have d := hd x (by simp)
    have d1 := d.1
    have d2 : x.toNat ≠ 48 := fun e => hx (UInt8.toNat_inj.1 e)
    refine Nat.le_trans ?_ (valA_ge (10 * 0 + (x.toNat - 48)) l)
    omega
theorem canon_text (n : Nat) : ∀ l : List UInt8, l.length = n → Canon l → textN (valA 0 l) = l := by
  induction n with
  | zero =>
    intro l hl hc
    exact absurd (List.length_eq_zero_iff.1 hl) hc.1
  | succ n ih =>
    intro l hl hc
    obtain ⟨m, c, rfl⟩ : ∃ m c, l = m ++ [c] := ⟨l.dropLast, l.getLast hc.1, (List.dropLast_concat_getLast hc.1).symm⟩
    have hcd := hc.2.1 c (by simp)
    have c1 := hcd.1
    have c2 := hcd.2
    have edig : dig (c.toNat - 48) = c := by
      apply UInt8.toNat_inj.1
      rw [dig_nat (by omega)]
      omega
    rw [valA_append]
    show textN (10 * valA 0 m + (c.toNat - 48)) = m ++ [c]
    by_cases hm : m = []
    · subst hm
      show textN (10 * 0 + (c.toNat - 48)) = [c]
      rw [textN_lo (by omega), Nat.mul_zero, Nat.zero_add, edig]
    · obtain ⟨hcm, hv⟩ := canon_snoc hm hc
      have hlm : m.length = n := by simpa using hl
      rw [textN_hi (by omega), show (10 * valA 0 m + (c.toNat - 48)) / 10 = valA 0 m by omega, show (10 * valA 0 m + (c.toNat - 48)) % 10 = c.toNat - 48 by omega, ih m hlm hcm, edig]
theorem L_textS {n : Int} (h : 0 ≤ n) : L (textS n) = textN n.toNat := by
  unfold textS
  rw [if_neg (by omega), L_mk]
theorem L_textS_neg {n : Int} (h : n < 0) : L (textS n) = [] := by
  unfold textS
  rw [if_pos h]
  rfl
/-- what is written is read -/
theorem read_text {n : Int} (h : 0 ≤ n) : readS (textS n) = numS n.toNat := by
  unfold readS readL
  rw [L_textS h, if_pos (textN_canon _), textN_val]
theorem read_text_neg {n : Int} (h : n < 0) : readS (textS n) = (0, 7) := by
  unfold readS readL
  rw [L_textS_neg h, if_neg (fun c => c.1 rfl)]
theorem readL_cases (l : List UInt8) : (Canon l ∧ valA 0 l ≤ 4611686018427387904 ∧ readL l = ((valA 0 l : Int), 0)) ∨ readL l = (0, 7) ∨ readL l = (0, 10) := by
  unfold readL
  by_cases hc : Canon l
  · rw [if_pos hc]
    by_cases hv : valA 0 l > 4611686018427387904
    · rw [numS_hi hv]; exact Or.inr (Or.inr rfl)
    · rw [numS_lo (by omega)]; exact Or.inl ⟨hc, by omega, rfl⟩
  · rw [if_neg hc]; exact Or.inr (Or.inl rfl)
/-- what is read is the only text of its number -/
theorem text_read {s : ByteArray} (h : (readS s).2 = 0) : textS (readS s).1 = s ∧ 0 ≤ (readS s).1 ∧ (readS s).1 ≤ 4611686018427387904 := by
  rcases readL_cases (L s) with ⟨hc, hv, e⟩ | e | e
  · have e' : readS s = ((valA 0 (L s) : Int), 0) := e
    rw [e']
    refine ⟨L_inj ?_, by show (0 : Int) ≤ (valA 0 (L s) : Int); omega, by show ((valA 0 (L s) : Nat) : Int) ≤ _; omega⟩
    rw [L_textS (by show (0 : Int) ≤ (valA 0 (L s) : Int); omega)]
    show textN (((valA 0 (L s) : Nat) : Int)).toNat = _
    rw [Int.toNat_natCast, canon_text _ _ rfl hc]
  · have e' : readS s = (0, 7) := e
    rw [e'] at h
    exact absurd h (by simp)
  · have e' : readS s = (0, 10) := e
    rw [e'] at h
    exact absurd h (by simp)
theorem read_not {s : ByteArray} (h : (readS s).2 ≠ 0) : (readS s).1 = 0 := by
  rcases readL_cases (L s) with ⟨_, _, e⟩ | e | e
  · have e' : readS s = ((valA 0 (L s) : Int), 0) := e
    rw [e'] at h
    exact absurd rfl h
  · have e' : readS s = (0, 7) := e
    rw [e']
  · have e' : readS s = (0, 10) := e
    rw [e']
theorem read_in (s : ByteArray) : 0 ≤ (readS s).1 ∧ (readS s).1 ≤ 4611686018427387904 := by
  by_cases h : (readS s).2 = 0
  · exact (text_read h).2
  · rw [read_not h]; constructor <;> omega
end Go.Proofs.Ytoknoghdnedmhaa.Dec3
