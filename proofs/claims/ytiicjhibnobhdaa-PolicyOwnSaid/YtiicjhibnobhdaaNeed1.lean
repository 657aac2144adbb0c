/- What parameters may be, and how many blocks they need: what shape, scrypt, record and need answer, and the reference likewise, in plain numbers. -/
import Derived.Test.YtiicjhibnobhdaaSize2
import Derived.Test.YtiicjhibnobhdaaPow
import Derived.Test.YtiicjhibnobhdaaPallx1
import Derived.Test.YtiicjhibnobhdaaPallx2
namespace Go.Proofs.Ytiicjhibnobhdaa.Need1
open Go.RowKit Go.Proofs.Ytiicjhibnobhdaa.Pall Go.Proofs.YtiicjhibnobhdaaW.PrintWords Go.Proofs.YtiicjhibnobhdaaW.PrintLast Go.Proofs.Ytiicjhibnobhdaa.Lib Go.Proofs.Ytiicjhibnobhdaa.Size1 Go.Proofs.Ytiicjhibnobhdaa.Size2 Go.Proofs.Ytiicjhibnobhdaa.Pow

theorem within_is (a b c : Int) : size_Within.f a b c = some (decide (b ≤ a ∧ a ≤ c)) := by
  unfold size_Within.f
  by_cases h : a ≥ b
  · rw [if_pos h]; simp [show b ≤ a from h]
  · rw [if_neg h]; simp; omega
theorem argon_is (a : Int) : record_Argon.f a = some (decide (1 ≤ a ∧ a ≤ 3)) := by
  unfold record_Argon.f; rw [within_is]; rfl

/-- Argon2's parameters that may be -/
def ArgonOk (a t m l s : Int) : Prop := (1 ≤ a ∧ a ≤ 3) ∧ (1 ≤ t ∧ t ≤ 4294967295) ∧ (1 ≤ l ∧ l ≤ 16777215) ∧ (8 * l ≤ m ∧ m ≤ 4294967295) ∧ (4 ≤ s ∧ s ≤ 1024)
instance (a t m l s : Int) : Decidable (ArgonOk a t m l s) := inferInstanceAs (Decidable (_ ∧ _))
/-- scrypt's parameters that may be -/
def ScryptOk (g r p b : Int) : Prop := ((1 ≤ r ∧ r ≤ 512) ∧ (1 ≤ p ∧ p ≤ 512) ∧ r * p ≤ 512) ∧ (1 ≤ g ∧ g ≤ 32) ∧ g < 16 * r ∧ (1 ≤ b ∧ b ≤ 1024)
instance (g r p b : Int) : Decidable (ScryptOk g r p b) := inferInstanceAs (Decidable (_ ∧ _))

/-- blocks of a memory and lanes -/
def blocksS (m l : Int) : Int := m / (4 * l) * (4 * l)
abbrev Shp := Int × Int × Int × Int × Int × Int × Int × Int
def shapeS (a t m l s : Int) : Shp := (a, t, l, m, blocksS m l, 4 * (m / (4 * l)), m / (4 * l), s)
def noShape : Shp := (0, 0, 0, 0, 0, 0, 0, 0)
def S8 {α : Type} (x : Shp) (e : α) : Int × Int × Int × Int × Int × Int × Int × Int × α := (x.1, x.2.1, x.2.2.1, x.2.2.2.1, x.2.2.2.2.1, x.2.2.2.2.2.1, x.2.2.2.2.2.2.1, x.2.2.2.2.2.2.2, e)
theorem blocks_div {m l : Int} (hl : 1 ≤ l) : blocksS m l / l = 4 * (m / (4 * l)) := by
  unfold blocksS
  rw [show m / (4 * l) * (4 * l) = (4 * (m / (4 * l))) * l by rw [Int.mul_comm 4 l, ← Int.mul_assoc, Int.mul_comm (m / (l * 4)) l, Int.mul_comm l (m / (l * 4)), Int.mul_assoc, Int.mul_comm l 4, ← Int.mul_assoc, Int.mul_comm 4 (m / (4 * l))]]
  exact Int.mul_ediv_cancel _ (by omega)
theorem quot_in {m l : Int} (hm : 0 ≤ m) (hl : 1 ≤ l) : 0 ≤ m / (4 * l) ∧ m / (4 * l) ≤ m ∧ 0 ≤ blocksS m l ∧ blocksS m l ≤ m ∧ m < blocksS m l + 4 * l := by
  have d := div_in hm (show 1 ≤ 4 * l by omega)
  have e := Int.mul_ediv_add_emod m (4 * l)
  have r := mod_in (a := m) (show 1 ≤ 4 * l by omega)
  have c : 4 * l * (m / (4 * l)) = m / (4 * l) * (4 * l) := Int.mul_comm _ _
  unfold blocksS
  refine ⟨d.1, d.2, Int.mul_nonneg d.1 (by omega), by omega, by omega⟩

theorem dneg {P : Prop} [Decidable P] (h : ¬ P) : ¬ (decide P = true) := by simp [h]
def argonS (a t m l s : Int) : Int := if ArgonOk a t m l s then 0 else 2
def scryptS (g r p b : Int) : Int := if ScryptOk g r p b then 0 else 2
theorem quarter {m l : Int} (hm : 0 ≤ m) (hl : 1 ≤ l) : m / (4 * l) ≤ m / 4 := by
  have q := quot_in hm hl
  rw [Int.le_ediv_iff_mul_le (by omega)]
  have h1 : 4 * l * (m / (4 * l)) ≤ m := Int.mul_ediv_self_le (by omega)
  have e : 4 * l * (m / (4 * l)) = l * (m / (4 * l)) * 4 := by rw [Int.mul_assoc, Int.mul_comm]
  have f : 1 * (m / (4 * l)) ≤ l * (m / (4 * l)) := Int.mul_le_mul_of_nonneg_right hl q.1
  omega
theorem shape_j1f (a t m l s : Int) : To (fun k => shape_Of.j1 k false a t m l s) (S8 noShape 2) := by
  refine To.step ?_
  simp only [shape_Of.j1]
  exact To.neg (by decide) (To.ret _)
theorem shape_j0f (a t m l s : Int) : To (fun k => shape_Of.j0 k false a t m l s) (S8 noShape 2) := by
  refine To.step ?_
  simp only [shape_Of.j0]
  exact To.neg (by decide) (shape_j1f _ _ _ _ _)
theorem shape_to (a t m l s : Int) : To (fun k => shape_Of.f k a t m l s) (if ArgonOk a t m l s then S8 (shapeS a t m l s) 0 else S8 noShape 2) := by
  simp only [shape_Of.f, within_is, Option.bind_some]
  by_cases h1 : 1 ≤ a ∧ a ≤ 3
  case neg => exact To.neg (dneg h1) ((shape_j0f _ _ _ _ _).eq (by rw [if_neg (fun h => h1 h.1)]))
  refine To.pos (decide_eq_true h1) ?_
  by_cases h2 : 1 ≤ t ∧ t ≤ 4294967295
  case neg => rw [decide_eq_false h2]; exact (shape_j0f _ _ _ _ _).eq (by rw [if_neg (fun h => h2 h.2.1)])
  rw [decide_eq_true h2]
  refine To.step ?_
  simp only [shape_Of.j0, within_is, Option.bind_some]
  refine To.pos trivial ?_
  by_cases h3 : 1 ≤ l ∧ l ≤ 16777215
  case neg => exact To.neg (dneg h3) ((shape_j1f _ _ _ _ _).eq (by rw [if_neg (fun h => h3 h.2.2.1)]))
  refine To.pos (decide_eq_true h3) ?_
  by_cases h4 : 1 ≤ m ∧ m ≤ 4294967295
  case neg => rw [decide_eq_false h4]; exact (shape_j1f _ _ _ _ _).eq (by rw [if_neg (fun h => h4 ⟨by have := h.2.2.2.1.1; omega, h.2.2.2.1.2⟩)])
  rw [decide_eq_true h4]
  refine To.step ?_
  simp only [shape_Of.j1, within_is, Option.bind_some]
  refine To.pos trivial ?_
  rw [tdiv_pos (by omega), wrap_id (x := m / 8) (by omega) (by omega)]
  by_cases h5 : 8 * l ≤ m
  case neg => exact To.neg (by omega) (To.ret' (by rw [if_neg (fun h => h5 h.2.2.2.1.1)]; rfl))
  refine To.pos (by omega) ?_
  by_cases h6 : 4 ≤ s ∧ s ≤ 1024
  case neg => exact To.neg (dneg h6) (To.ret' (by rw [if_neg (fun h => h6 h.2.2.2.2)]; rfl))
  refine To.pos (decide_eq_true h6) ?_
  rw [wrap_id (x := 4 * l) (by omega) (by omega), down_is]
  rw [show downS m (4 * l) = (blocksS m l, 0) from if_neg (by omega)]
  simp only [Option.bind_some]
  refine To.neg (by omega) (To.ret' ?_)
  have q := quot_in (m := m) (by omega) h3.1
  have b := blocks_div (m := m) h3.1
  have c := quarter (m := m) (by omega) h3.1
  rw [if_pos ⟨h1, h2, h3, ⟨h5, h4.2⟩, h6⟩, tdiv_pos q.2.2.1, b]
  unfold S8 shapeS
  generalize m / (4 * l) = x at *
  rw [wrap_id (x := 4 * x) (by omega) (by omega), tdiv_pos (by omega), show 4 * x / 4 = x by omega, wrap_id (x := x) (by omega) (by omega)]
theorem scrypt_check_to (g r p b : Int) : To (fun k => scrypt_Check.f k g r p b) (scryptS g r p b) := by
  unfold scryptS
  simp only [scrypt_Check.f, within_is, Option.bind_some]
  have jf : To (fun k => scrypt_Check.j0 k g r b false) 2 := by
    refine To.step ?_
    simp only [scrypt_Check.j0]
    exact To.neg (by decide) (To.ret _)
  by_cases h1 : 1 ≤ r ∧ r ≤ 512
  case neg => exact To.neg (dneg h1) (jf.eq (by rw [if_neg (fun h => h1 h.1.1)]))
  refine To.pos (decide_eq_true h1) ?_
  by_cases h2 : 1 ≤ p ∧ p ≤ 512
  case neg => exact To.neg (dneg h2) (jf.eq (by rw [if_neg (fun h => h2 h.1.2.1)]))
  refine To.pos (decide_eq_true h2) ?_
  have hb : 0 ≤ r * p ∧ r * p ≤ 512 * 512 := ⟨Int.mul_nonneg (by omega) (by omega), Int.mul_le_mul h1.2 h2.2 (by omega) (by omega)⟩
  rw [wrap_id (x := r * p) (by omega) (by omega)]
  by_cases h3 : r * p ≤ 512
  case neg => rw [decide_eq_false h3]; exact jf.eq (by rw [if_neg (fun h => h3 h.1.2.2)])
  rw [decide_eq_true h3]
  refine To.step ?_
  simp only [scrypt_Check.j0, within_is, Option.bind_some]
  refine To.pos trivial ?_
  by_cases h4 : 1 ≤ g ∧ g ≤ 32
  case neg => exact To.neg (dneg h4) (To.ret' (by rw [if_neg (fun h => h4 h.2.1)]))
  refine To.pos (decide_eq_true h4) ?_
  rw [wrap_id (x := 16 * r) (by omega) (by omega)]
  by_cases h5 : g < 16 * r
  case neg => exact To.neg h5 (To.ret' (by rw [if_neg (fun h => h5 h.2.2.1)]))
  refine To.pos h5 ?_
  by_cases h6 : 1 ≤ b ∧ b ≤ 1024
  case neg => exact To.neg (dneg h6) (To.ret' (by rw [if_neg (fun h => h6 h.2.2.2)]))
  exact To.pos (decide_eq_true h6) (To.ret' (by rw [if_pos ⟨⟨h1, h2, h3⟩, h4, h5, h6⟩]))

/-- bcrypt's parameters that may be -/
def BcryptOk (t m l s : Int) : Prop := (4 ≤ t ∧ t ≤ 31) ∧ m = 0 ∧ (0 ≤ l ∧ l ≤ 1) ∧ s = 23
instance (t m l s : Int) : Decidable (BcryptOk t m l s) := inferInstanceAs (Decidable (_ ∧ _))
/-- PBKDF2's parameters that may be -/
def PbkdfOk (t m l s : Int) : Prop := (4 ≤ s ∧ s ≤ 1024) ∧ m = 0 ∧ l = 0 ∧ (1 ≤ t ∧ t ≤ 4294967295)
instance (t m l s : Int) : Decidable (PbkdfOk t m l s) := inferInstanceAs (Decidable (_ ∧ _))
/-- why parameters may not be -/
def paramsS (a t m l s : Int) : Int :=
  if 1 ≤ a ∧ a ≤ 3 then argonS a t m l s
  else if a = 4 then (if 4 ≤ s ∧ ScryptOk t m l s then 0 else 2)
  else if a = 5 then (if BcryptOk t m l s then 0 else 2)
  else if a = 6 then (if PbkdfOk t m l s then 0 else 2)
  else 6
theorem params_argon {a : Int} (t m l s : Int) (h : 1 ≤ a ∧ a ≤ 3) : paramsS a t m l s = argonS a t m l s := if_pos h
theorem params_4 (t m l s : Int) : paramsS 4 t m l s = if 4 ≤ s ∧ ScryptOk t m l s then 0 else 2 := rfl
theorem params_5 (t m l s : Int) : paramsS 5 t m l s = if BcryptOk t m l s then 0 else 2 := rfl
theorem params_6 (t m l s : Int) : paramsS 6 t m l s = if PbkdfOk t m l s then 0 else 2 := rfl
theorem params_else {a : Int} (t m l s : Int) (h : a < 1 ∨ 6 < a) : paramsS a t m l s = 6 := by
  unfold paramsS
  rw [if_neg (by omega), if_neg (by omega), if_neg (by omega), if_neg (by omega)]
def pbkdfS (t s : Int) : Int := if (1 ≤ t ∧ t ≤ 4294967295) ∧ (1 ≤ s ∧ s ≤ 65536) then 0 else 2
theorem pbkdf_check_is (t s : Int) : pbkdf_Check.f t s = some (pbkdfS t s) := by
  unfold pbkdf_Check.f pbkdfS
  simp only [within_is, Option.bind_some]
  by_cases h1 : 1 ≤ t ∧ t ≤ 4294967295
  case neg => rw [if_neg (dneg h1), if_neg (fun h => h1 h.1)]
  rw [if_pos (decide_eq_true h1)]
  by_cases h2 : 1 ≤ s ∧ s ≤ 65536
  case neg => rw [if_neg (dneg h2), if_neg (fun h => h2 h.2)]
  rw [if_pos (decide_eq_true h2), if_pos ⟨h1, h2⟩]
theorem params_to (a t m l s : Int) : To (fun k => record_Params.f k a t m l s) (paramsS a t m l s) := by
  simp only [record_Params.f, argon_is, within_is, pbkdf_check_is, Option.bind_some]
  by_cases h1 : 1 ≤ a ∧ a ≤ 3
  · refine To.pos (decide_eq_true h1) (To.bind (shape_to a t m l s) (To.ret' ?_))
    rw [params_argon _ _ _ _ h1]
    unfold argonS
    by_cases h : ArgonOk a t m l s
    · rw [if_pos h, if_pos h]; rfl
    · rw [if_neg h, if_neg h]; rfl
  refine To.neg (dneg h1) ?_
  by_cases h4 : a = 4
  · subst h4
    refine To.pos rfl ?_
    rw [params_4]
    by_cases hs : s ≥ 4
    case neg => exact To.neg hs (To.ret' (by rw [if_neg (fun h => hs h.1)]))
    refine To.pos hs (To.bind (scrypt_check_to _ _ _ _) ?_)
    unfold scryptS
    by_cases h : ScryptOk t m l s
    · rw [if_pos h]; exact To.pos rfl (To.ret' (by rw [if_pos ⟨hs, h⟩]))
    · rw [if_neg h]; exact To.neg (by decide) (To.ret' (by rw [if_neg (fun h' => h h'.2)]))
  refine To.neg h4 ?_
  by_cases h5 : a = 5
  · subst h5
    refine To.pos rfl ?_
    rw [params_5]
    by_cases c1 : 4 ≤ t ∧ t ≤ 31
    case neg => exact To.neg (dneg c1) (To.ret' (by rw [if_neg (fun h => c1 h.1)]))
    refine To.pos (decide_eq_true c1) ?_
    by_cases c2 : m = 0
    case neg => exact To.neg c2 (To.ret' (by rw [if_neg (fun h => c2 h.2.1)]))
    refine To.pos c2 ?_
    by_cases c3 : 0 ≤ l ∧ l ≤ 1
    case neg => exact To.neg (dneg c3) (To.ret' (by rw [if_neg (fun h => c3 h.2.2.1)]))
    refine To.pos (decide_eq_true c3) ?_
    by_cases c4 : s = 23
    case neg => exact To.neg c4 (To.ret' (by rw [if_neg (fun h => c4 h.2.2.2)]))
    exact To.pos c4 (To.ret' (by rw [if_pos ⟨c1, c2, c3, c4⟩]))
  refine To.neg h5 ?_
  by_cases h6 : a = 6
  · subst h6
    refine To.pos rfl ?_
    rw [params_6]
    by_cases c1 : 4 ≤ s ∧ s ≤ 1024
    case neg => exact To.neg (dneg c1) (To.ret' (by rw [if_neg (fun h => c1 h.1)]))
    refine To.pos (decide_eq_true c1) ?_
    by_cases c2 : m = 0
    case neg => exact To.neg c2 (To.ret' (by rw [if_neg (fun h => c2 h.2.1)]))
    refine To.pos c2 ?_
    by_cases c3 : l = 0
    case neg => exact To.neg c3 (To.ret' (by rw [if_neg (fun h => c3 h.2.2.1)]))
    refine To.pos c3 ?_
    by_cases c4 : 1 ≤ t ∧ t ≤ 4294967295
    · rw [show pbkdfS t s = 0 from if_pos ⟨c4, by omega⟩]
      exact To.pos rfl (To.ret' (by rw [if_pos ⟨c1, c2, c3, c4⟩]))
    · rw [show pbkdfS t s = 2 from if_neg (fun h => c4 h.1)]
      exact To.neg (by decide) (To.ret' (by rw [if_neg (fun h => c4 h.2.2.2)]))
  refine To.neg h6 (To.ret' ?_)
  rw [params_else _ _ _ _ (by omega)]
/-- blocks that scrypt needs -/
def scryptNeed (g r p : Int) : Int := (128 * (r * (2 ^ g.toNat + p + 2)) - 1) / 1024 + 1
theorem pow32 {g : Int} (h1 : 1 ≤ g) (h2 : g ≤ 32) : 1 ≤ (2 : Int) ^ g.toNat ∧ (2 : Int) ^ g.toNat ≤ 4294967296 := by
  have : ∀ n : Fin 33, 1 ≤ (2 : Int) ^ (n : Nat) ∧ (2 : Int) ^ (n : Nat) ≤ 4294967296 := by decide +kernel
  exact this ⟨g.toNat, by omega⟩
theorem rows_in {g r p b : Int} (h : ScryptOk g r p b) : 1 ≤ (2 : Int) ^ g.toNat + p + 2 ∧ (2 : Int) ^ g.toNat + p + 2 ≤ 4294967810 ∧ 1 ≤ r * (2 ^ g.toNat + p + 2) ∧ r * (2 ^ g.toNat + p + 2) ≤ 512 * 4294967810 := by
  have k := pow32 h.2.1.1 h.2.1.2
  have hp := h.1.2.1
  have hr := h.1.1
  refine ⟨by omega, by omega, ?_, Int.mul_le_mul hr.2 (by omega) (by omega) (by omega)⟩
  have := Int.mul_le_mul hr.1 (show 1 ≤ (2 : Int) ^ g.toNat + p + 2 by omega) (by omega) (by omega)
  omega

/-- blocks that parameters that may be need -/
def needS (a t m l : Int) : Int := if 1 ≤ a ∧ a ≤ 3 then blocksS m l else if a = 4 then scryptNeed t m l else 0
theorem need_argon {a : Int} (t m l : Int) (h : 1 ≤ a ∧ a ≤ 3) : needS a t m l = blocksS m l := if_pos h
theorem need_4 (t m l : Int) : needS 4 t m l = scryptNeed t m l := rfl
theorem need_else {a : Int} (t m l : Int) (h : ¬ (1 ≤ a ∧ a ≤ 3)) (h4 : a ≠ 4) : needS a t m l = 0 := by unfold needS; rw [if_neg h, if_neg h4]
/-- what parameters need, or why they may not be -/
def ofS (a t m l s : Int) : Int × Int := if paramsS a t m l s = 0 then (needS a t m l, 0) else (0, paramsS a t m l s)
theorem of_ok {a t m l s : Int} (h : paramsS a t m l s = 0) : ofS a t m l s = (needS a t m l, 0) := if_pos h
theorem of_no {a t m l s : Int} (h : paramsS a t m l s ≠ 0) : ofS a t m l s = (0, paramsS a t m l s) := if_neg h
theorem argon_of {a t m l s : Int} (h1 : 1 ≤ a ∧ a ≤ 3) (h : paramsS a t m l s = 0) : ArgonOk a t m l s := by
  rw [params_argon _ _ _ _ h1] at h
  by_cases c : ArgonOk a t m l s
  · exact c
  · rw [argonS, if_neg c] at h; exact absurd h (by decide)
theorem scrypt_of {t m l s : Int} (h : paramsS 4 t m l s = 0) : ScryptOk t m l s := by
  rw [params_4] at h
  by_cases c : 4 ≤ s ∧ ScryptOk t m l s
  · exact c.2
  · rw [if_neg c] at h; exact absurd h (by decide)
theorem scrypt_one {t m l s : Int} (h : ScryptOk t m l s) : ScryptOk t m l 1 := ⟨h.1, h.2.1, h.2.2.1, by omega⟩
/-- whether parameters need no more than a budget -/
def fitsS (b a t m l s : Int) : Int := if paramsS a t m l s = 0 then (if needS a t m l > b then 4 else 0) else paramsS a t m l s
end Go.Proofs.Ytiicjhibnobhdaa.Need1
