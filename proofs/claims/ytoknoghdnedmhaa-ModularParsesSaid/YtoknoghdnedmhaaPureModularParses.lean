/- ModularParses: whatever the arguments, the plain walk answers yes. -/
import Derived.Test.YtoknoghdnedmhaaMod1
import Derived.Test.YtoknoghdnedmhaaPallx8
import Derived.Test.YtoknoghdnedmhaaPallx4
namespace Go.Proofs.Ytoknoghdnedmhaa.Pure
open Go.RowKit Go.Proofs.Ytoknoghdnedmhaa.Pall Go.Proofs.YtoknoghdnedmhaaW.PrintWords Go.Proofs.YtoknoghdnedmhaaW.PrintLast Go.Proofs.Ytoknoghdnedmhaa.Lib Go.Proofs.Ytoknoghdnedmhaa.Byt Go.Proofs.Ytoknoghdnedmhaa.Mod1

theorem awake43_to : To (fun k => pestlelaw43_awake.f k) true := To.up (fun k => pestlelaw43_awake.mono k) (k := 80) (by decide +kernel)
theorem ModularParses : pestlelaw43_ModularParses.Pure := by
  intro s hs
  refine To.ends ?_
  simp only [pestlelaw43_ModularParses.f]
  refine To.bind awake43_to (To.pos rfl ?_)
  refine To.ite (fun _ => To.ret _) (fun h1 => ?_)
  refine To.bind (parse_to s) (To.bind (ref_parse_to s) (To.pos rfl (To.pos (by simp only [beq_self_eq_true, Bool.and_self]) ?_)))
  by_cases h2 : 2 ≤ s.size
  case neg =>
    have e : modular_Is.f s = some false := by
      unfold modular_Is.f
      rw [if_neg (by omega)]
    exact To.bind0 e (To.neg (by omega) (To.ret _))
  refine To.bind0 (is_f h2) (To.pos (by omega) (To.pos (by omega) ?_))
  obtain ⟨a, b, l, e⟩ : ∃ a b l, L s = a :: b :: l := by
    rw [size_L] at h2
    match e : L s, h2 with
    | a :: b :: l, _ => exact ⟨a, b, l, rfl⟩
  have b0 : bt s 0 = (a.toNat : Int) := by
    have := bt_nat (s := s) (n := 0) (by rw [e]; simp)
    simpa [e] using this
  have b1 : bt s 1 = (b.toNat : Int) := by
    have := bt_nat (s := s) (n := 1) (by rw [e]; simp)
    simpa [e] using this
  have x : (s.extract 0 2).toList = [a, b] := by
    rw [toList_L, L_extract, e]; rfl
  rw [x, b0, b1]
  by_cases h3 : a = 36
  · subst h3
    refine To.pos rfl (To.pos (by omega) (To.ret' ?_))
    by_cases h4 : b = 50
    · subst h4; rfl
    · have n4 : (b.toNat : Int) ≠ 50 := fun q => h4 (u8_eq (b := 50) q)
      rw [beq_eq_false_iff_ne.2 n4, beq_eq_false_iff_ne.2 (show ([36, b] : List UInt8) ≠ [36, 50] by intro q; injection q with _ q; injection q with q _; exact h4 q)]
      rfl
  · have n3 : (a.toNat : Int) ≠ 36 := fun q => h3 (u8_eq (b := 36) q)
    refine To.neg n3 (To.ret' ?_)
    rw [beq_eq_false_iff_ne.2 (show ([a, b] : List UInt8) ≠ [36, 50] by intro q; injection q with q _; exact h3 q)]
    rfl
end Go.Proofs.Ytoknoghdnedmhaa.Pure
