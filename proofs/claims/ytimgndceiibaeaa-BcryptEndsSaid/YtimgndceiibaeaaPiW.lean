/- pi's words, as the program gives them. -/
import Derived.Test.YtimgndceiibaeaaPi1
import Derived.Test.YtimgndceiibaeaaPallx1
namespace Go.Proofs.Ytimgndceiibaeaa.PiW
open Go.RowKit Go.Proofs.YtimgndceiibaeaaW.PrintWords Go.Proofs.YtimgndceiibaeaaW.PrintLast Go.Proofs.Ytimgndceiibaeaa.Pall Go.Proofs.Ytimgndceiibaeaa.Lib Go.Proofs.Ytimgndceiibaeaa.Pi1

theorem w64 {x : Int} (h1 : -9223372036854775808 ≤ x) (h2 : x ≤ 9223372036854775807) : wrap64 x = x := wrap_id h1 h2
/-- so many words from a place on -/
def run (from_ : Int) (m : Nat) : List Int := (List.range m).map fun (i : Nat) => (wordS (from_ + (i : Int))).1
theorem run_len (f : Int) (m : Nat) : (run f m).length = m := by simp [run]
theorem run_get (f : Int) (m i : Nat) (h : i < (run f m).length) : (run f m)[i] = (wordS (f + (i : Int))).1 := by simp [run]
theorem run_take (f : Int) (m n : Nat) (h : n < m) : (run f m).take (n + 1) = (run f m).take n ++ [(wordS (f + (n : Int))).1] := by
  have hl : n < (run f m).length := by rw [run_len]; exact h
  rw [List.take_succ_eq_append_getElem hl, run_get]
theorem set_at (a : List Int) (d : Nat) (v : Int) : (a ++ List.replicate (d + 1) 0).set a.length v = a ++ [v] ++ List.replicate d 0 := by
  rw [List.set_append_right _ _ (Nat.le_refl _), Nat.sub_self, List.replicate_succ, List.set_cons_zero, List.append_assoc]; rfl
theorem words_l0 (f : Int) (m : Nat) (hf : 0 ≤ f) (hm : f + m ≤ 1042) (d : Nat) : ∀ n : Nat, n + d = m →
    To (fun k => pi_Words.l0 k f ((run f m).take n ++ List.replicate d 0) (m : Int) (n : Int)) (run f m, 0) := by
  induction d with
  | zero =>
    intro n hn
    refine To.step ?_
    simp only [pi_Words.l0]
    refine To.neg (by omega) (To.ret' ?_)
    rw [List.take_of_length_le (l := run f m) (by rw [run_len]; omega), List.replicate_zero, List.append_nil]
  | succ d ih =>
    intro n hn
    refine To.step ?_
    simp only [pi_Words.l0]
    rw [wrap_id (x := f + (n : Int)) (by omega) (by omega), wrap_id (x := (n : Int) + 1) (by omega) (by omega)]
    have hl : ((run f m).take n).length = n := by rw [List.length_take, run_len]; omega
    refine To.pos (by omega) (To.bind (word_to _) (To.pos (by omega) (To.pos ?_ ?_)))
    · rw [List.length_append, hl, List.length_replicate]; omega
    · have i := ih (n + 1) (by omega)
      rw [run_take f m n (by omega)] at i
      have s := set_at ((run f m).take n) d (wordS (f + (n : Int))).1
      rw [hl] at s
      rw [show ((n : Int)).toNat = n from rfl, s]
      exact i
def spanOk (f m : Int) : Prop := 0 ≤ f ∧ 0 ≤ m ∧ f ≤ 1042 ∧ m ≤ 1042 - f
theorem words_yes {f : Int} {m : Nat} (h : spanOk f m) : To (fun k => pi_Words.f k f m) (run f m, 0) := by
  obtain ⟨h1, h2, h3, h4⟩ := h
  simp only [pi_Words.f]
  refine To.neg (by omega) (To.neg (by omega) (To.neg (by omega) ?_))
  rw [wrap_id (x := 1042 - f) (by omega) (by omega), decide_eq_false (by omega)]
  refine To.step ?_
  simp only [pi_Words.j0]
  refine To.neg (by decide) (To.pos h2 (To.pos (by omega) (To.bind0 rfl ?_)))
  rw [List.length_replicate, show ((m : Int)).toNat = m from rfl]
  exact words_l0 f m h1 (by omega) m 0 (by omega)
end Go.Proofs.Ytimgndceiibaeaa.PiW
