/- The bcrypt string of what the document says: the program's way and the reference's, read as one. -/
import Derived.Test.YtoknoghdnedmhaaC64a
import Derived.Test.YtoknoghdnedmhaaPallx4
import Derived.Test.YtoknoghdnedmhaaPallx2

namespace Go.Proofs.Ytoknoghdnedmhaa.Mod1
open Go.RowKit Go.Proofs.Ytoknoghdnedmhaa.Pall Go.Proofs.YtoknoghdnedmhaaW.PrintWords Go.Proofs.YtoknoghdnedmhaaW.PrintLast Go.Proofs.Ytoknoghdnedmhaa.Lib Go.Proofs.Ytoknoghdnedmhaa.Byt Go.Proofs.Ytoknoghdnedmhaa.Sex1 Go.Proofs.Ytoknoghdnedmhaa.C64a

def isDg (x : Int) : Prop := 48 ≤ x ∧ x ≤ 57
instance (x : Int) : Decidable (isDg x) := inferInstanceAs (Decidable (_ ∧ _))
def costOf (s : ByteArray) : Int := 10 * (bt s 4 - 48) + (bt s 5 - 48)
def er (e : Int) : Int × Int × ByteArray × ByteArray × Int := (0, 0, eB, eB, e)
def pM4 (s : ByteArray) : Int × Int × ByteArray × ByteArray × Int := if (partS (s.extract 7 s.size)).2.2 = 0 then (bt s 2, costOf s, (partS (s.extract 7 s.size)).1, (partS (s.extract 7 s.size)).2.1, 0) else er (partS (s.extract 7 s.size)).2.2
def pM3 (s : ByteArray) : Int × Int × ByteArray × ByteArray × Int := if costOf s < 4 ∨ costOf s > 31 then er 2 else pM4 s
def pM2 (s : ByteArray) : Int × Int × ByteArray × ByteArray × Int := if isDg (bt s 4) ∧ isDg (bt s 5) then pM3 s else er 7
def pM1 (s : ByteArray) : Int × Int × ByteArray × ByteArray × Int := if bt s 2 = 97 ∨ bt s 2 = 98 then pM2 s else er 6
def head (s : ByteArray) : Prop := (s.extract 0 2).toList = ([36, 50] : List UInt8) ∧ bt s 3 = 36 ∧ bt s 6 = 36
instance (s : ByteArray) : Decidable (head s) := inferInstanceAs (Decidable (_ ∧ _))
def parseM (s : ByteArray) : Int × Int × ByteArray × ByteArray × Int := if s.size = 60 then (if head s then pM1 s else er 5) else er 9

theorem seven {s : ByteArray} (h : s.size = 60) : ∃ a0 a1 a2 a3 a4 a5 a6 l, L s = a0 :: a1 :: a2 :: a3 :: a4 :: a5 :: a6 :: l ∧ l.length = 53 := by
  rw [size_L] at h
  match e : L s, h with
  | a0 :: a1 :: a2 :: a3 :: a4 :: a5 :: a6 :: l, h => exact ⟨a0, a1, a2, a3, a4, a5, a6, l, rfl, by simpa using h⟩
theorem bt_in (s : ByteArray) (n : Nat) (h : n < s.size) : 0 ≤ bt s (n : Int) ∧ bt s (n : Int) < 256 := by
  rw [size_L] at h
  rw [bt_nat h]
  have := u8_lt (L s)[n]
  omega
theorem bt_ex {s : ByteArray} {i j n : Nat} (h : n < j - i) (hj : j ≤ s.size) : bt (s.extract i j) (n : Int) = bt s ((i + n : Nat) : Int) := by
  have hs := size_L s
  have e : L (s.extract i j) = ((L s).drop i).take (j - i) := L_extract s i j
  have hl : n < (L (s.extract i j)).length := by rw [e, List.length_take, List.length_drop]; omega
  rw [bt_nat hl, bt_nat (n := i + n) (by omega)]
  simp only [e, List.getElem_take, List.getElem_drop]
theorem two_to {s : ByteArray} (h : s.size = 60) : To (fun k => dec_ReadTwo.f k (s.extract 4 6)) (if isDg (bt s 4) ∧ isDg (bt s 5) then (costOf s, 0) else (0, 7)) := by
  simp only [dec_ReadTwo.f]
  have z : ((s.extract 4 6).size : Int) = 2 := by rw [ByteArray.size_extract]; omega
  have b4 := bt_in s 4 (by omega)
  have b5 := bt_in s 5 (by omega)
  have e0 : bt (s.extract 4 6) 0 = bt s 4 := bt_ex (n := 0) (by omega) (by omega)
  have e1 : bt (s.extract 4 6) 1 = bt s 5 := bt_ex (n := 1) (by omega) (by omega)
  have w0 : wrap64 (0 + 1) = 1 := wrap_id (by omega) (by omega)
  have w1 : wrap64 (1 + 1) = 2 := wrap_id (by omega) (by omega)
  refine To.pos z (To.step ?_)
  simp only [dec_ReadTwo.l0]
  rw [e0, w0, z]
  unfold isDg costOf
  have b4' : 0 ≤ bt s 4 ∧ bt s 4 < 256 := b4
  have b5' : 0 ≤ bt s 5 ∧ bt s 5 < 256 := b5
  generalize bt s 4 = x at b4' e0 ⊢
  generalize bt s 5 = y at b5' e1 ⊢
  refine To.pos (by omega) (To.pos (by omega) (To.pos (by omega) (To.ite (fun h1 => To.ret' (if_neg (by omega)).symm) (fun h1 => To.ite (fun h2 => To.ret' (if_neg (by omega)).symm) (fun h2 => To.step ?_)))))
  simp only [dec_ReadTwo.l0]
  rw [e1, w1, z]
  refine To.pos (by omega) (To.pos (by omega) (To.pos (by omega) (To.ite (fun h1 => To.ret' (if_neg (by omega)).symm) (fun h1 => To.ite (fun h2 => To.ret' (if_neg (by omega)).symm) (fun h2 => To.step ?_)))))
  simp only [dec_ReadTwo.l0]
  rw [e0, e1, z]
  refine To.neg (by omega) (To.pos (by omega) (To.pos (by omega) (To.ret' ?_)))
  rw [if_pos (by omega)]
  refine Prod.ext ?_ rfl
  show 10 * ((x - 48) % 256) + (y - 48) % 256 = 10 * (x - 48) + (y - 48)
  omega
theorem part4 {s : ByteArray} (h : s.size = 60) {g : Nat → Option (ByteArray × ByteArray × Int)} (hg : To g (partS (s.extract 7 s.size))) (c : Int) (hc : c = costOf s) :
    To (fun k => (g k).bind fun p => (if p.2.2 = 0 then (if 2 < (s.size : Int) then some (bt s 2, c, p.1, p.2.1, (0 : Int)) else none) else some (0, 0, (⟨#[]⟩ : ByteArray), (⟨#[]⟩ : ByteArray), p.2.2))) (pM4 s) := by
  subst hc
  refine To.bind hg ?_
  unfold pM4
  by_cases e : (partS (s.extract 7 s.size)).2.2 = 0
  · refine To.pos e (To.pos (by omega) ?_)
    rw [if_pos e]
    exact To.ret _
  · refine To.neg e ?_
    rw [if_neg e]
    exact To.ret _
theorem minor_f (x : Int) : modular_Minor.f x = some (decide (x = 97 ∨ x = 98)) := by
  unfold modular_Minor.f
  by_cases h : x = 97
  · rw [if_pos h, decide_eq_true (Or.inl h)]
  · rw [if_neg h]
    by_cases h' : x = 98
    · subst h'; rfl
    · rw [decide_eq_false (by omega), beq_eq_false_iff_ne.2 h']
theorem is_f {s : ByteArray} (h : 2 ≤ s.size) : modular_Is.f s = some ((s.extract 0 2).toList == ([36, 50] : List UInt8)) := by
  unfold modular_Is.f
  rw [if_pos (by omega), if_pos (by omega), if_pos (by omega)]
theorem j1_to {s : ByteArray} (h : s.size = 60) : To (fun k => modular_Parse.j1 k s (costOf s) false) (pM4 s) := by
  refine To.step ?_
  simp only [modular_Parse.j1]
  refine To.neg (by decide) (To.bind0 (a := 0) rfl (To.pos (by omega) ?_))
  exact part4 h (part_to _) _ rfl
theorem j0_to {s : ByteArray} (h : s.size = 60) : To (fun k => modular_Parse.j0 k s false) (pM1 s) := by
  refine To.step ?_
  simp only [modular_Parse.j0]
  refine To.neg (by decide) (To.pos (by omega) (To.bind0 (minor_f _) ?_))
  unfold pM1
  by_cases m : bt s 2 = 97 ∨ bt s 2 = 98
  case neg =>
    rw [if_neg m, decide_eq_false m]
    exact To.neg (by decide) (To.ret _)
  rw [if_pos m, decide_eq_true m]
  refine To.pos rfl (To.pos (by omega) (To.pos (by omega) (To.bind (two_to h) ?_)))
  unfold pM2
  by_cases d : isDg (bt s 4) ∧ isDg (bt s 5)
  case neg =>
    rw [if_neg d, if_neg d]
    exact To.neg (by decide) (To.ret _)
  rw [if_pos d, if_pos d]
  refine To.pos rfl ?_
  unfold pM3
  by_cases c1 : costOf s < 4
  · rw [if_pos (Or.inl c1)]
    refine To.pos c1 (To.step ?_)
    simp only [modular_Parse.j1]
    exact To.pos trivial (To.ret _)
  refine To.neg c1 ?_
  by_cases c2 : costOf s > 31
  · rw [if_pos (Or.inr c2)]
    refine To.step ?_
    simp only [modular_Parse.j1]
    exact To.pos (decide_eq_true c2) (To.ret _)
  rw [if_neg (by omega)]
  have := j1_to h
  rw [← decide_eq_false c2] at this
  exact this
theorem parse_to (s : ByteArray) : To (fun k => modular_Parse.f k s) (parseM s) := by
  simp only [modular_Parse.f]
  unfold parseM
  by_cases h : s.size = 60
  case neg => rw [if_neg h]; exact To.neg (by omega) (To.ret _)
  rw [if_pos h]
  refine To.pos (by omega) (To.bind0 (is_f (by omega)) ?_)
  have bad : To (fun k => modular_Parse.j0 k s true) (er 5) := by
    refine To.step ?_
    simp only [modular_Parse.j0]
    exact To.pos trivial (To.ret _)
  by_cases h1 : (s.extract 0 2).toList = ([36, 50] : List UInt8)
  case neg => rw [if_neg (fun q => h1 q.1)]; exact To.neg (by rw [beq_iff_eq]; exact h1) bad
  refine To.pos (by rw [beq_iff_eq]; exact h1) (To.pos (by omega) ?_)
  by_cases h2 : bt s 3 = 36
  case neg => rw [if_neg (fun q => h2 q.2.1)]; exact To.neg h2 bad
  refine To.pos h2 (To.pos (by omega) ?_)
  by_cases h3 : bt s 6 = 36
  case neg =>
    rw [if_neg (fun q => h3 q.2.2), show (bt s 6 != 36) = true from bne_iff_ne.2 h3]
    exact bad
  rw [if_pos (show head s from ⟨h1, h2, h3⟩), h3]
  exact j0_to h
/-! ### the reference -/
end Go.Proofs.Ytoknoghdnedmhaa.Mod1
