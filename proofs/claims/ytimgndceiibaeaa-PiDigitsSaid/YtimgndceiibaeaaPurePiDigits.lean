/- For every place: the digit of pi that is looked up is the one that is reckoned, or it is told that there is none.
   Conditions: the argument is a 64-bit integer, as Go has it; nothing else. -/
import Derived.Test.YtimgndceiibaeaaPi5
import Derived.Test.YtimgndceiibaeaaPallx4
import Derived.Test.YtimgndceiibaeaaPallx1
namespace Go.Proofs.Ytimgndceiibaeaa.Pure
open Go.RowKit Go.Proofs.Ytimgndceiibaeaa.Pall Go.Proofs.YtimgndceiibaeaaW.PrintWords Go.Proofs.YtimgndceiibaeaaW.PrintLast Go.Proofs.Ytimgndceiibaeaa.Lib Go.Proofs.Ytimgndceiibaeaa.Pi1 Go.Proofs.Ytimgndceiibaeaa.Pi5

theorem awake09_to : To (fun k => pestlelaw09_awake.f k) true := by
  simp only [pestlelaw09_awake.f, digit_is]
  refine To.bind (word_to 0) (To.bind (word_to 1041) (To.bind0 rfl ?_))
  have h0 : wordS 0 = (608135816, 0) := by decide +kernel
  have h1 : wordS 1041 = (985887462, 0) := by decide +kernel
  have h2 : digS 0 = (2, 0) := by decide +kernel
  rw [h0, h1, h2]
  exact To.pos rfl (To.pos rfl (To.pos rfl (To.pos rfl (To.ret _))))
theorem PiDigits : pestlelaw09_PiDigits.Pure := by
  intro i _
  refine To.ends ?_
  simp only [pestlelaw09_PiDigits.f, digit_is]
  refine To.bind awake09_to (To.pos rfl (To.bind0 rfl (To.bind (reckon_to i) ?_)))
  by_cases h : 0 ≤ i ∧ i < 8336
  · obtain ⟨n, rfl⟩ : ∃ n : Nat, i = n := ⟨i.toNat, by omega⟩
    have hn : n < 8336 := by omega
    rw [digS_in hn]
    refine To.neg (by omega) (To.neg (by omega) (To.pos rfl (To.pos rfl (To.pos rfl (To.bind (ref_to n hn) (To.ret' ?_))))))
    exact beq_self_eq_true _
  · rw [digS_out (by omega)]
    refine To.ite (fun _ => To.pos rfl (To.pos rfl (To.pos rfl (To.ret' rfl)))) (fun _ => To.pos (by omega) (To.pos rfl (To.pos rfl (To.pos rfl (To.ret' rfl)))))
end Go.Proofs.Ytimgndceiibaeaa.Pure
