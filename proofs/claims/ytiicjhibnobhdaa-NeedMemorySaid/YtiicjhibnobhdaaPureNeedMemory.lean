/- For every budget and number of lanes: the most memory that the budget holds fits into it, and one more doesn't; or it is told that there is none.
   Conditions: the arguments are 64-bit integers, as Go has them; nothing else. -/
import Derived.Test.YtiicjhibnobhdaaNeed1
import Derived.Test.YtiicjhibnobhdaaPallx50
import Derived.Test.YtiicjhibnobhdaaPallx49
import Derived.Test.YtiicjhibnobhdaaPallx45
namespace Go.Proofs.Ytiicjhibnobhdaa.Pure
open Go.RowKit Go.Proofs.Ytiicjhibnobhdaa.Pall Go.Proofs.YtiicjhibnobhdaaW.PrintWords Go.Proofs.YtiicjhibnobhdaaW.PrintLast Go.Proofs.Ytiicjhibnobhdaa.Lib Go.Proofs.Ytiicjhibnobhdaa.Size1 Go.Proofs.Ytiicjhibnobhdaa.Need1

/-- the most memory of a budget, or why there is none -/
def memoryS (b l : Int) : Int × Int := if (1 ≤ l ∧ l ≤ 16777215) ∧ (0 ≤ b ∧ b ≤ 4194304) then (if b / 8 < l then (0, 4) else (blocksS b l + 4 * l - 1, 0)) else (0, 1)
theorem memory_to (b l : Int) : To (fun k => need_Memory.f k b l) (memoryS b l) := by
  unfold memoryS
  simp only [need_Memory.f, within_is, Option.bind_some]
  have jt : To (fun k => need_Memory.j0 k b l true) (0, 1) := by
    refine To.step ?_
    simp only [need_Memory.j0]
    exact To.pos trivial (To.ret _)
  by_cases h1 : 1 ≤ l ∧ l ≤ 16777215
  case neg => exact To.neg (dneg h1) (jt.eq (by rw [if_neg (fun h => h1 h.1)]))
  refine To.pos (decide_eq_true h1) ?_
  by_cases h2 : 0 ≤ b ∧ b ≤ 4194304
  case neg => rw [decide_eq_false h2]; exact jt.eq (by rw [if_neg (fun h => h2 h.2)])
  rw [decide_eq_true h2, if_pos ⟨h1, h2⟩]
  refine To.step ?_
  simp only [need_Memory.j0, down_is, Option.bind_some]
  refine To.neg (by decide) ?_
  rw [tdiv_pos h2.1, wrap_id (x := b / 8) (by omega) (by omega)]
  refine To.ite (fun h => To.ret' (by rw [if_pos h])) (fun h => To.ret' ?_)
  rw [if_neg h, wrap_id (x := 4 * l) (by omega) (by omega), show downS b (4 * l) = (blocksS b l, 0) from if_neg (by omega)]
  have q := quot_in (m := b) h2.1 h1.1
  simp only []
  rw [wrap_id (x := blocksS b l + 4 * l) (by omega) (by omega), wrap_id (by omega) (by omega)]
  have : mn (blocksS b l + 4 * l - 1) 4294967295 = blocksS b l + 4 * l - 1 := by unfold mn; split <;> omega
  rw [this]
theorem awake_to : To (fun k => pestlelaw45_awake.f k) true := To.up (fun k => pestlelaw45_awake.mono k) (k := 12) (by decide +kernel)
/-- the blocks of a memory that is one less than a whole number of them, and of that number -/
theorem blocks_more {b l : Int} (hl : 1 ≤ l) : blocksS (blocksS b l + 4 * l - 1) l = blocksS b l ∧ blocksS (blocksS b l + 4 * l - 1 + 1) l = blocksS b l + 4 * l := by
  have e : blocksS b l = b / (4 * l) * (4 * l) := rfl
  have e1 : (blocksS b l + 4 * l - 1) / (4 * l) = b / (4 * l) := by
    rw [Int.ediv_eq_iff_of_pos (by omega)]
    rw [← e]; constructor <;> omega
  have e2 : (blocksS b l + 4 * l - 1 + 1) / (4 * l) = b / (4 * l) + 1 := by
    rw [Int.ediv_eq_iff_of_pos (by omega), Int.add_mul, Int.one_mul, ← e]; constructor <;> omega
  constructor
  · rw [show blocksS (blocksS b l + 4 * l - 1) l = (blocksS b l + 4 * l - 1) / (4 * l) * (4 * l) from rfl, e1, ← e]
  · rw [show blocksS (blocksS b l + 4 * l - 1 + 1) l = (blocksS b l + 4 * l - 1 + 1) / (4 * l) * (4 * l) from rfl, e2, Int.add_mul, Int.one_mul, ← e]
theorem fits_argon {b t m l s : Int} (h : ArgonOk 1 t m l s) : fitsS b 1 t m l s = if blocksS m l > b then 4 else 0 := by
  have p : paramsS 1 t m l s = 0 := by rw [params_argon _ _ _ _ (by omega), argonS, if_pos h]
  unfold fitsS
  rw [if_pos p, need_argon _ _ _ (by omega)]
theorem NeedMemory : pestlelaw45_NeedMemory.Pure := by
  intro b l _ _
  refine To.ends ?_
  simp only [pestlelaw45_NeedMemory.f]
  refine To.bind awake_to (To.pos rfl (To.bind (memory_to b l) ?_))
  have jt : ¬ ((1 ≤ l ∧ l ≤ 16777215) ∧ (0 ≤ b ∧ b ≤ 4194304)) → To (fun k => pestlelaw45_NeedMemory.j0 k b l (memoryS b l).1 (memoryS b l).2 true) true := by
    intro h
    rw [show memoryS b l = (0, 1) from if_neg h]
    refine To.step ?_
    simp only [pestlelaw45_NeedMemory.j0]
    exact To.pos trivial (To.pos trivial (To.ret _))
  refine To.ite (fun h => jt (by omega)) (fun h1 => To.ite (fun h => jt (by omega)) (fun h2 => To.ite (fun h => jt (by omega)) (fun h3 => ?_)))
  by_cases h4 : b > 4194304
  · rw [decide_eq_true h4]; exact jt (by omega)
  rw [decide_eq_false h4]
  refine To.step ?_
  simp only [pestlelaw45_NeedMemory.j0]
  refine To.neg (by decide) ?_
  rw [tdiv_pos (by omega), wrap_id (x := b / 8) (by omega) (by omega)]
  have e : memoryS b l = if b / 8 < l then (0, 4) else (blocksS b l + 4 * l - 1, 0) := if_pos (by omega)
  by_cases h5 : b / 8 < l
  · rw [e, if_pos h5]
    exact To.pos h5 (To.pos rfl (To.ret _))
  refine To.neg h5 ?_
  rw [e, if_neg h5]
  have q := quot_in (m := b) (l := l) (by omega) (by omega)
  have m := blocks_more (b := b) (l := l) (by omega)
  refine To.pos rfl (To.bind (fits_to _ _ _ _ _ _) ?_)
  simp only []
  rw [fits_argon ⟨by omega, by omega, by omega, by omega, by omega⟩, m.1, if_neg (by omega)]
  refine To.pos rfl (To.bind (fits_to _ _ _ _ _ _) (To.ret' ?_))
  rw [wrap_id (by omega) (by omega), fits_argon ⟨by omega, by omega, by omega, by omega, by omega⟩, m.2, if_pos (by omega)]
  rfl
end Go.Proofs.Ytiicjhibnobhdaa.Pure
