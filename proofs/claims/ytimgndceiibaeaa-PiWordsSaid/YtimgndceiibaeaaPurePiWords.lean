/- For every place and every span: a word is eight digits, and words stand one behind the other, or it is told that there is none.
   Conditions: the arguments are 64-bit integers, as Go has them; nothing else. -/
import Derived.Test.YtimgndceiibaeaaPi1
import Derived.Test.YtimgndceiibaeaaPallx4
import Derived.Test.YtimgndceiibaeaaPallx5
import Derived.Test.YtimgndceiibaeaaPallx1
namespace Go.Proofs.Ytimgndceiibaeaa.Pure
open Go.RowKit Go.Proofs.Ytimgndceiibaeaa.Pall Go.Proofs.YtimgndceiibaeaaW.PrintWords Go.Proofs.YtimgndceiibaeaaW.PrintLast Go.Proofs.Ytimgndceiibaeaa.Lib Go.Proofs.Ytimgndceiibaeaa.Pi1

theorem awake09_to : To (fun k => pestlelaw09_awake.f k) true := by
  simp only [pestlelaw09_awake.f, digit_is]
  refine To.bind (word_to 0) (To.bind (word_to 1041) (To.bind0 rfl ?_))
  have h0 : wordS 0 = (608135816, 0) := by decide +kernel
  have h1 : wordS 1041 = (985887462, 0) := by decide +kernel
  have h2 : digS 0 = (2, 0) := by decide +kernel
  rw [h0, h1, h2]
  exact To.pos rfl (To.pos rfl (To.pos rfl (To.pos rfl (To.ret _))))
theorem w64 {x : Int} (h1 : -9223372036854775808 ≤ x) (h2 : x ≤ 9223372036854775807) : wrap64 x = x := wrap_id h1 h2
/-- so many words from a place on -/
def run (from_ : Int) (m : Nat) : List Int := (List.range m).map fun (i : Nat) => (wordS (from_ + (i : Int))).1
theorem run_len (f : Int) (m : Nat) : (run f m).length = m := by simp [run]
theorem run_get (f : Int) (m i : Nat) (h : i < (run f m).length) : (run f m)[i] = (wordS (f + (i : Int))).1 := by simp [run]
theorem run_take (f : Int) (m n : Nat) (h : n < m) : (run f m).take (n + 1) = (run f m).take n ++ [(wordS (f + (n : Int))).1] := by
  have hl : n < (run f m).length := by rw [run_len]; exact h
  rw [List.take_succ_eq_append_getElem hl, run_get]
theorem set_at (a : List Int) (d : Nat) (v : Int) : (a ++ List.replicate (d + 1) 0).set a.length v = a ++ [v] ++ List.replicate d 0 := by
  rw [List.set_append_right _ _ (Nat.le_refl _), Nat.sub_self, List.replicate_succ, List.set_cons_zero, List.append_assoc]; rfl
theorem words_l0 (f : Int) (m : Nat) (hf : 0 ≤ f) (hm : f + m ≤ 1042) (d : Nat) : ∀ n : Nat, n + d = m →
    To (fun k => pi_Words.l0 k f ((run f m).take n ++ List.replicate d 0) (m : Int) (n : Int)) (run f m, 0) := by
  induction d with
  | zero =>
    intro n hn
    refine To.step ?_
    simp only [pi_Words.l0]
    refine To.neg (by omega) (To.ret' ?_)
    rw [List.take_of_length_le (l := run f m) (by rw [run_len]; omega), List.replicate_zero, List.append_nil]
  | succ d ih =>
    intro n hn
    refine To.step ?_
    simp only [pi_Words.l0]
    rw [wrap_id (x := f + (n : Int)) (by omega) (by omega), wrap_id (x := (n : Int) + 1) (by omega) (by omega)]
    have hl : ((run f m).take n).length = n := by rw [List.length_take, run_len]; omega
    refine To.pos (by omega) (To.bind (word_to _) (To.pos (by omega) (To.pos ?_ ?_)))
    · rw [List.length_append, hl, List.length_replicate]; omega
    · have i := ih (n + 1) (by omega)
      rw [run_take f m n (by omega)] at i
      have s := set_at ((run f m).take n) d (wordS (f + (n : Int))).1
      rw [hl] at s
      rw [show ((n : Int)).toNat = n from rfl, s]
      exact i
def spanOk (f m : Int) : Prop := 0 ≤ f ∧ 0 ≤ m ∧ f ≤ 1042 ∧ m ≤ 1042 - f
theorem words_no {f m : Int} (h : ¬ spanOk f m) : To (fun k => pi_Words.f k f m) (([] : List Int), 11) := by
  simp only [pi_Words.f]
  have jt : To (fun k => pi_Words.j0 k f m true) (([] : List Int), 11) := by
    refine To.step ?_
    simp only [pi_Words.j0]
    exact To.pos trivial (To.ret _)
  refine To.ite (fun _ => jt) (fun h1 => To.ite (fun _ => jt) (fun h2 => To.ite (fun _ => jt) (fun h3 => ?_)))
  rw [wrap_id (x := 1042 - f) (by omega) (by omega)]
  have : m > 1042 - f := by
    by_cases c : m > 1042 - f
    · exact c
    · exact absurd ⟨by omega, by omega, by omega, by omega⟩ h
  rw [decide_eq_true this]
  exact jt
theorem words_yes {f : Int} {m : Nat} (h : spanOk f m) : To (fun k => pi_Words.f k f m) (run f m, 0) := by
  obtain ⟨h1, h2, h3, h4⟩ := h
  simp only [pi_Words.f]
  refine To.neg (by omega) (To.neg (by omega) (To.neg (by omega) ?_))
  rw [wrap_id (x := 1042 - f) (by omega) (by omega), decide_eq_false (by omega)]
  refine To.step ?_
  simp only [pi_Words.j0]
  refine To.neg (by decide) (To.pos h2 (To.pos (by omega) (To.bind0 rfl ?_)))
  rw [List.length_replicate, show ((m : Int)).toNat = m from rfl]
  exact words_l0 f m h1 (by omega) m 0 (by omega)
theorem law_l1 (f : Int) (m : Nat) (hf : 0 ≤ f) (hm : f + m ≤ 1042) (d : Nat) : ∀ n : Nat, n + d = m →
    To (fun k => pestlelaw09_PiWords.l1 k f (run f m) (m : Int) (n : Int)) true := by
  induction d with
  | zero =>
    intro n hn
    refine To.step ?_
    simp only [pestlelaw09_PiWords.l1]
    exact To.neg (by omega) (To.ret _)
  | succ d ih =>
    intro n hn
    have hl : n < (run f m).length := by rw [run_len]; omega
    refine To.step ?_
    simp only [pestlelaw09_PiWords.l1]
    rw [wrap_id (x := f + (n : Int)) (by omega) (by omega), wrap_id (x := (n : Int) + 1) (by omega) (by omega), rd_nat hl, run_get]
    exact To.pos (by omega) (To.bind (word_to _) (To.pos (by omega) (To.pos (by omega) (To.pos rfl (ih (n + 1) (by omega))))))
theorem law_j2 (f m : Int) : To (fun k => pestlelaw09_PiWords.j2 k f m) true := by
  refine To.step ?_
  simp only [pestlelaw09_PiWords.j2]
  by_cases h : spanOk f m
  · obtain ⟨n, rfl⟩ : ∃ n : Nat, m = n := ⟨m.toNat, by have := h.2.1; omega⟩
    obtain ⟨h1, h2, h3, h4⟩ := h
    refine To.bind (words_yes ⟨h1, h2, h3, h4⟩) (To.neg (by omega) (To.neg (by omega) (To.neg (by omega) ?_)))
    rw [wrap_id (x := 1042 - f) (by omega) (by omega), decide_eq_false (by omega)]
    refine To.step ?_
    simp only [pestlelaw09_PiWords.j3]
    refine To.neg (by decide) (To.pos trivial ?_)
    rw [run_len, show ((n : Int) != (n : Int)) = false by simp]
    refine To.step ?_
    simp only [pestlelaw09_PiWords.j4]
    refine To.neg (by decide) ?_
    rw [run_len]
    exact law_l1 f n h1 (by omega) n 0 (by omega)
  · refine To.bind (words_no h) ?_
    have jt : To (fun k => pestlelaw09_PiWords.j3 k f m ([] : List Int) 11 true) true := by
      refine To.step ?_
      simp only [pestlelaw09_PiWords.j3]
      exact To.pos trivial (To.pos trivial (To.ret _))
    refine To.ite (fun _ => jt) (fun h1 => To.ite (fun _ => jt) (fun h2 => To.ite (fun _ => jt) (fun h3 => ?_)))
    rw [wrap_id (x := 1042 - f) (by omega) (by omega)]
    have : m > 1042 - f := by
      by_cases c : m > 1042 - f
      · exact c
      · exact absurd ⟨by omega, by omega, by omega, by omega⟩ h
    rw [decide_eq_true this]
    exact jt
theorem law_l0 (i : Nat) (hi : i < 1042) (f m : Int) (d : Nat) : ∀ n : Nat, n + d = 8 →
    To (fun k => pestlelaw09_PiWords.l0 k (i : Int) f m (wordN i 8 : Int) 0 (wordN i n : Int) (n : Int)) true := by
  induction d with
  | zero =>
    intro n hn
    refine To.step ?_
    simp only [pestlelaw09_PiWords.l0]
    obtain rfl : n = 8 := by omega
    exact To.neg (by omega) (To.pos trivial (To.pos rfl (law_j2 f m)))
  | succ d ih =>
    intro n hn
    have hw : wordN i n < 268435456 := by
      have h1 := wordN_lt i n
      have h2 : 16 ^ n ≤ 16 ^ 7 := Nat.pow_le_pow_right (by omega) (by omega)
      omega
    have hd := digN_lt (8 * i + n)
    refine To.step ?_
    simp only [pestlelaw09_PiWords.l0, digit_is]
    rw [wrap_id (x := 8 * (i : Int)) (by omega) (by omega), wrap_id (x := 8 * (i : Int) + (n : Int)) (by omega) (by omega), wrap_id (x := (n : Int) + 1) (by omega) (by omega)]
    rw [show 8 * (i : Int) + (n : Int) = ((8 * i + n : Nat) : Int) by omega, digS_in (by omega)]
    refine To.pos (by omega) (To.bind0 rfl ?_)
    simp only []
    rw [show ((16 * (wordN i n : Int)) % 4294967296 + (digN (8 * i + n) : Int) % 4294967296) % 4294967296 = (wordN i (n + 1) : Int) by rw [wordN]; omega]
    exact ih (n + 1) (by omega)
theorem PiWords : pestlelaw09_PiWords.Pure := by
  intro i f m _ _ _
  refine To.ends ?_
  simp only [pestlelaw09_PiWords.f]
  refine To.bind awake09_to (To.pos rfl (To.bind (word_to i) ?_))
  have jt (h : i < 0 ∨ 1041 < i) : To (fun k => pestlelaw09_PiWords.j0 k i f m (wordS i).1 (wordS i).2 true) true := by
    rw [wordS_out h]
    refine To.step ?_
    simp only [pestlelaw09_PiWords.j0]
    exact To.pos trivial (To.pos trivial (To.pos trivial (law_j2 f m)))
  refine To.ite (fun h => jt (Or.inl h)) (fun h => ?_)
  by_cases h2 : i ≥ 1042
  · rw [decide_eq_true h2]; exact jt (by omega)
  rw [decide_eq_false h2]
  obtain ⟨n, rfl⟩ : ∃ n : Nat, i = n := ⟨i.toNat, by omega⟩
  rw [wordS_in (by omega)]
  refine To.step ?_
  simp only [pestlelaw09_PiWords.j0]
  refine To.neg (by decide) ?_
  exact law_l0 n (by omega) f m 8 0 rfl
end Go.Proofs.Ytimgndceiibaeaa.Pure
