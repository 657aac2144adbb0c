/- For every list of numbers: sum and product do not hang on the order, and what is not refused lies between 0 and the bound.
   Conditions: the list is one that Go can hold in memory (as the row says); nothing else. -/
import Derived.Test.YtfehkfjfmjnjnaaSize2
import Derived.Test.YtfehkfjfmjnjnaaPallx2
namespace Go.Proofs.Ytfehkfjfmjnjnaa.Pure
open Go.RowKit Go.Proofs.Ytfehkfjfmjnjnaa.Pall Go.Proofs.YtfehkfjfmjnjnaaW.PrintWords Go.Proofs.YtfehkfjfmjnjnaaW.PrintLast Go.Proofs.Ytfehkfjfmjnjnaa.Lib Go.Proofs.Ytfehkfjfmjnjnaa.Size1 Go.Proofs.Ytfehkfjfmjnjnaa.Size2

theorem addS_reverse (l : List Int) : addS l.reverse = addS l := by
  unfold addS
  simp only [List.mem_reverse, sumI_reverse]
theorem mulS_reverse (l : List Int) : mulS l.reverse = mulS l := by
  unfold mulS
  simp only [List.mem_reverse, prodI_reverse]
theorem overS_in {s : Int} (h : 0 ≤ s) : 0 ≤ (overS s).1 ∧ (overS s).1 ≤ 4611686018427387904 := by
  by_cases c : s > 4611686018427387904
  · rw [overS_hi c]; constructor <;> simp
  · rw [overS_lo (by omega)]; exact ⟨h, by show s ≤ _; omega⟩
theorem addS_in (l : List Int) : 0 ≤ (addS l).1 ∧ (addS l).1 ≤ 4611686018427387904 := by
  unfold addS
  split
  · rename_i h
    exact overS_in (sumI_nonneg h)
  · constructor <;> simp
theorem mulS_in (l : List Int) : 0 ≤ (mulS l).1 ∧ (mulS l).1 ≤ 4611686018427387904 := by
  unfold mulS
  split
  · rename_i h
    split
    · constructor <;> simp
    · rename_i h0
      refine overS_in ?_
      have := prodI_pos (l := l) (fun x hx => by have := (h x hx).1; have : x ≠ 0 := fun e => h0 (e ▸ hx); omega)
      omega
  · constructor <;> simp
theorem kept_end (l : List Int) (hl : l.length ≤ 1000000000) : ∀ (d : Nat), d ≤ l.length →
    To (fun k => pestlelaw02_SizeKept.l0 k l (l.drop d).reverse ((d : Int) - 1)) true := by
  intro d
  induction d with
  | zero =>
    intro _
    refine To.step ?_
    simp only [pestlelaw02_SizeKept.l0, List.drop_zero]
    refine To.neg (by omega) ?_
    have hr : l.reverse.length ≤ 1000000000 := by simpa using hl
    have a := addS_in l
    have m := mulS_in l
    refine To.bind (add_to l hl) (To.bind (add_to l.reverse hr) (To.bind (mul_to l hl) (To.bind (mul_to l.reverse hr) ?_)))
    rw [addS_reverse, mulS_reverse]
    exact To.pos rfl (To.pos rfl (To.pos rfl (To.pos rfl (To.pos a.1 (To.pos a.2 (To.pos m.1 (To.ret' (decide_eq_true m.2))))))))
  | succ d ih =>
    intro hd
    have hlt : d < l.length := by omega
    refine To.step ?_
    simp only [pestlelaw02_SizeKept.l0]
    have e : ((d + 1 : Nat) : Int) - 1 = (d : Int) := by omega
    rw [e]
    refine To.pos (by omega) (To.pos (by omega) (To.pos (by omega) (To.pos ?_ ?_)))
    · simp only [List.length_reverse, List.length_drop]; omega
    · rw [wrap_id (x := (d : Int) - 1) (by omega) (by omega), rd_nat hlt]
      have := ih (by omega)
      rw [drop_cons hlt, List.reverse_cons] at this
      exact this
theorem SizeKept : pestlelaw02_SizeKept.Pure := by
  intro l _ _ _
  refine To.ends ?_
  simp only [pestlelaw02_SizeKept.f]
  refine To.bind awake_to (To.pos rfl (To.ite (fun _ => To.ret _) (fun h => ?_)))
  rw [wrap_id (by omega) (by omega)]
  have := kept_end l (by omega) l.length (Nat.le_refl _)
  rw [List.drop_length] at this
  exact this
end Go.Proofs.Ytfehkfjfmjnjnaa.Pure
