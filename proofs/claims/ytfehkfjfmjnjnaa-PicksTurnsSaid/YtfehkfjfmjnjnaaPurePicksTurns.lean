/- For all numbers: who is picked of so many is the document's, and picks round and round are.
   Conditions: the numbers are 64-bit integers, as Go has them; nothing else. -/
import Derived.Test.YtfehkfjfmjnjnaaLib
import Derived.Test.YtfehkfjfmjnjnaaPallx12
import Derived.Test.YtfehkfjfmjnjnaaPallx11
import Derived.Test.YtfehkfjfmjnjnaaPallx9
namespace Go.Proofs.Ytfehkfjfmjnjnaa.Pure
open Go.RowKit Go.Proofs.Ytfehkfjfmjnjnaa.Pall Go.Proofs.YtfehkfjfmjnjnaaW.PrintWords Go.Proofs.YtfehkfjfmjnjnaaW.PrintLast Go.Proofs.Ytfehkfjfmjnjnaa.Lib

theorem awake36_to : To (fun k => pestlelaw36_awake.f k) true := To.up (fun k => pestlelaw36_awake.mono k) (k := 30) (by decide +kernel)
theorem tmod_facts {a b : Int} (h1 : -9223372036854775808 ≤ a) (h2 : a ≤ 9223372036854775807) (hb : 1 ≤ b) :
    a - Int.tdiv a b * b = Int.tmod a b ∧ -9223372036854775808 ≤ Int.tdiv a b ∧ Int.tdiv a b ≤ 9223372036854775807 ∧ -9223372036854775808 ≤ Int.tdiv a b * b ∧ Int.tdiv a b * b ≤ 9223372036854775807 ∧ -9223372036854775808 ≤ Int.tmod a b ∧ Int.tmod a b ≤ 9223372036854775807 := by
  have e := Int.mul_tdiv_add_tmod a b
  rw [Int.mul_comm] at e
  by_cases ha : 0 ≤ a
  · have e1 : Int.tdiv a b = a / b := Int.tdiv_eq_ediv_of_nonneg ha
    have e2 : Int.tmod a b = a % b := Int.tmod_eq_emod_of_nonneg ha
    have d1 := Int.ediv_nonneg ha (show 0 ≤ b by omega)
    have d2 := Int.ediv_le_self b ha
    have m1 := Int.emod_nonneg a (show b ≠ 0 by omega)
    have m2 := Int.emod_lt_of_pos a (show 0 < b by omega)
    have p := Int.mul_nonneg d1 (show (0:Int) ≤ b by omega)
    rw [e1, e2] at e ⊢
    refine ⟨by omega, by omega, by omega, by omega, by omega, by omega, by omega⟩
  · obtain ⟨c, rfl⟩ : ∃ c, a = -c := ⟨-a, by omega⟩
    have hc : 0 ≤ c := by omega
    have e1 : Int.tdiv (-c) b = -(c / b) := by rw [Int.neg_tdiv, Int.tdiv_eq_ediv_of_nonneg hc]
    have e2 : Int.tmod (-c) b = -(c % b) := by rw [Int.neg_tmod, Int.tmod_eq_emod_of_nonneg hc]
    have d1 := Int.ediv_nonneg hc (show 0 ≤ b by omega)
    have d2 := Int.ediv_le_self b hc
    have m1 := Int.emod_nonneg c (show b ≠ 0 by omega)
    have m2 := Int.emod_lt_of_pos c (show 0 < b by omega)
    have p := Int.mul_nonneg d1 (show (0:Int) ≤ b by omega)
    have q : -(c / b) * b = -(c / b * b) := Int.neg_mul _ _
    rw [e1, e2, q] at e ⊢
    refine ⟨by omega, by omega, by omega, by omega, by omega, by omega, by omega⟩
theorem who_same (a b : Int) (h1 : -9223372036854775808 ≤ a) (h2 : a ≤ 9223372036854775807) : ∃ r, picks_Who.f a b = some r ∧ pestleref36_Who.f a b = some r ∧ (0 ≤ a → 1 ≤ b → r = a % b) := by
  by_cases hb : b < 1
  · exact ⟨0, by unfold picks_Who.f; rw [if_pos hb], by unfold pestleref36_Who.f; rw [if_pos hb], fun _ h => by omega⟩
  · obtain ⟨e, t1, t2, p1, p2, m1, m2⟩ := tmod_facts h1 h2 (show 1 ≤ b by omega)
    have hr : pestleref36_Who.f a b = picks_Who.f a b := by
      unfold pestleref36_Who.f picks_Who.f
      rw [if_neg hb, if_neg hb, wrap_id (x := Int.tdiv a b) t1 t2, wrap_id (x := Int.tdiv a b * b) p1 p2, wrap_id (x := a - Int.tdiv a b * b) (by omega) (by omega), e]
    rw [hr]
    unfold picks_Who.f
    rw [if_neg hb, if_neg (by omega)]
    by_cases h : Int.tmod a b < 0
    · refine ⟨_, by rw [if_pos h], by rw [if_pos h], fun h0 _ => ?_⟩
      have := Int.tmod_eq_emod_of_nonneg (b := b) h0
      have := Int.emod_nonneg a (show b ≠ 0 by omega)
      omega
    · exact ⟨_, by rw [if_neg h], by rw [if_neg h], fun h0 _ => Int.tmod_eq_emod_of_nonneg h0⟩
def turnsS (of_ : Int) (n : Nat) : List Int := (List.range n).map fun i : Nat => (i : Int) % of_
theorem turnsS_len (of_ : Int) (n : Nat) : (turnsS of_ n).length = n := by simp [turnsS]
theorem turnsS_get (of_ : Int) {n i : Nat} (h : i < n) : rd (turnsS of_ n) (i : Int) = (i : Int) % of_ := by
  rw [rd_nat (by rw [turnsS_len]; exact h)]
  simp [turnsS]
theorem turns_l0 (of_ : Int) (hof : 1 ≤ of_) (m : Nat) (hm : m ≤ 1000) (d : Nat) : ∀ n : Nat, n + d = m →
    To (fun k => picks_Turns.l0 k of_ (turnsS of_ n ++ List.replicate d 0) (m : Int) (n : Int)) (turnsS of_ m, 0) := by
  induction d with
  | zero =>
    intro n hn
    refine To.step ?_
    simp only [picks_Turns.l0]
    obtain rfl : n = m := by omega
    exact To.neg (by omega) (To.ret' (by simp))
  | succ d ih =>
    intro n hn
    refine To.step ?_
    simp only [picks_Turns.l0]
    have hl : (turnsS of_ n ++ List.replicate (d + 1) (0 : Int)).length = m := by rw [List.length_append, turnsS_len, List.length_replicate]; omega
    rw [hl, wrap_id (x := (n : Int) + 1) (by omega) (by omega), Int.tmod_eq_emod_of_nonneg (by omega), Int.toNat_natCast]
    refine To.pos (by omega) (To.neg (by omega) (To.pos (by omega) (To.pos (by omega) ?_)))
    have e : (turnsS of_ n ++ List.replicate (d + 1) (0 : Int)).set n ((n : Int) % of_) = turnsS of_ (n + 1) ++ List.replicate d 0 := by
      rw [List.set_append_right _ _ (by rw [turnsS_len]; omega), turnsS_len, Nat.sub_self, List.replicate_succ, List.set_cons_zero]
      unfold turnsS
      rw [List.range_succ, List.map_append]
      simp
    rw [e]
    exact ih (n + 1) (by omega)
def turns_f (many of_ : Int) : List Int × Int := if many < 0 ∨ many > 1048576 ∨ of_ < 1 then ([], 1) else (turnsS of_ many.toNat, 0)
theorem turns_to (many of_ : Int) (h : many ≤ 500 ∨ many > 1048576) : To (fun k => picks_Turns.f k many of_) (turns_f many of_) := by
  unfold turns_f
  simp only [picks_Turns.f]
  refine To.ite (fun h1 => To.step ?_) (fun h1 => To.ite (fun h2 => To.step ?_) (fun h2 => To.step ?_))
  · simp only [picks_Turns.j0]
    exact To.pos trivial (To.ret' (by rw [if_pos (by omega)]))
  · simp only [picks_Turns.j0]
    exact To.pos trivial (To.ret' (by rw [if_pos (by omega)]))
  · simp only [picks_Turns.j0]
    by_cases h3 : of_ < 1
    · exact To.pos (decide_eq_true h3) (To.ret' (by rw [if_pos (by omega)]))
    · rw [if_neg (by omega : ¬ (many < 0 ∨ many > 1048576 ∨ of_ < 1))]
      refine To.neg (by simpa using h3) (To.pos (by omega) (To.pos (by omega) (To.bind0 rfl ?_)))
      have := turns_l0 of_ (by omega) many.toNat (by omega) many.toNat 0 (by omega)
      rw [List.length_replicate]
      exact this
theorem turns_law_l0 (of_ : Int) (hof : 1 ≤ of_) (m : Nat) (hm : m ≤ 500) (d : Nat) : ∀ n : Nat, n + d = m →
    To (fun k => pestlelaw36_PicksTurns.l0 k of_ (m : Int) (turnsS of_ m) 0 (turnsS of_ m) (m : Int) (n : Int)) true := by
  induction d with
  | zero =>
    intro n hn
    refine To.step ?_
    simp only [pestlelaw36_PicksTurns.l0]
    rw [turnsS_len]
    exact To.neg (by omega) (To.pos trivial (To.ret' (by simp)))
  | succ d ih =>
    intro n hn
    refine To.step ?_
    simp only [pestlelaw36_PicksTurns.l0]
    rw [turnsS_len, wrap_id (x := (n : Int) + 1) (by omega) (by omega)]
    obtain ⟨r, _, hr, hv⟩ := who_same (n : Int) of_ (by omega) (by omega)
    refine To.pos (by omega) (To.pos (by omega) (To.pos (by omega) (To.bind0 hr (To.pos ?_ (ih (n + 1) (by omega))))))
    rw [turnsS_get of_ (by omega), hv (by omega) hof]
theorem PicksTurns : pestlelaw36_PicksTurns.Pure := by
  intro pick of_ many hp _ _
  have hpw := wf_i64 hp
  refine To.ends ?_
  simp only [pestlelaw36_PicksTurns.f]
  obtain ⟨r, h1, h2, _⟩ := who_same pick of_ hpw.1 hpw.2
  have main : (many ≤ 500 ∨ many > 1048576) → To (fun k => pestlelaw36_PicksTurns.j0 k of_ many false) true := by
    intro hm
    refine To.step ?_
    simp only [pestlelaw36_PicksTurns.j0]
    have bad : many < 0 ∨ many > 1048576 ∨ of_ < 1 → turns_f many of_ = ([], 1) := fun h => if_pos h
    have good : ¬ (many < 0 ∨ many > 1048576 ∨ of_ < 1) → turns_f many of_ = (turnsS of_ many.toNat, 0) := fun h => if_neg h
    refine To.neg (by decide) (To.bind (turns_to many of_ hm) ?_)
    refine To.ite (fun h3 => To.step ?_) (fun h3 => To.ite (fun h4 => To.step ?_) (fun h4 => To.step ?_))
    · rw [bad (by omega)]
      simp only [pestlelaw36_PicksTurns.j1]
      exact To.pos trivial (To.pos trivial (To.ret' (by simp)))
    · rw [bad (by omega)]
      simp only [pestlelaw36_PicksTurns.j1]
      exact To.pos trivial (To.pos trivial (To.ret' (by simp)))
    · by_cases h5 : of_ < 1
      · rw [bad (by omega), decide_eq_true h5]
        simp only [pestlelaw36_PicksTurns.j1]
        exact To.pos trivial (To.pos trivial (To.ret' (by simp)))
      · rw [good (by omega), decide_eq_false h5]
        simp only [pestlelaw36_PicksTurns.j1]
        have := turns_law_l0 of_ (by omega) many.toNat (by omega) many.toNat 0 (by omega)
        rw [Int.toNat_of_nonneg (by omega)] at this
        rw [turnsS_len, Int.toNat_of_nonneg (by omega)]
        exact To.neg (by decide) this
  refine To.bind awake36_to (To.pos rfl (To.bind0 h1 (To.bind0 h2 (To.pos rfl (To.ite (fun h3 => ?_) (fun h3 => main (by omega)))))))
  by_cases h4 : many ≤ 1048576
  · refine To.step ?_
    simp only [pestlelaw36_PicksTurns.j0]
    exact To.pos (decide_eq_true h4) (To.ret _)
  · rw [decide_eq_false h4]
    exact main (by omega)
end Go.Proofs.Ytfehkfjfmjnjnaa.Pure
