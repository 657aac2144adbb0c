/- The bcrypt string that a text is written as, and back. -/
import Derived.Test.YtoknoghdnedmhaaMod1
import Derived.Test.YtoknoghdnedmhaaPallx6
import Derived.Test.YtoknoghdnedmhaaPallx5
import Derived.Test.YtoknoghdnedmhaaPallx7
import Derived.Test.YtoknoghdnedmhaaPallx8
namespace Go.Proofs.Ytoknoghdnedmhaa.Mod2
open Go.RowKit Go.Proofs.Ytoknoghdnedmhaa.Pall Go.Proofs.YtoknoghdnedmhaaW.PrintWords Go.Proofs.YtoknoghdnedmhaaW.PrintLast Go.Proofs.Ytoknoghdnedmhaa.Lib Go.Proofs.Ytoknoghdnedmhaa.Byt Go.Proofs.Ytoknoghdnedmhaa.Sex1 Go.Proofs.Ytoknoghdnedmhaa.C64a Go.Proofs.Ytoknoghdnedmhaa.Mod1

def chk3 (salt sum : ByteArray) : Int := if salt.size = 16 then (if sum.size = 23 then 0 else 9) else 9
def chk2 (c : Int) (salt sum : ByteArray) : Int := if c < 4 ∨ c > 31 then 2 else chk3 salt sum
def chkM (m c : Int) (salt sum : ByteArray) : Int := if m = 97 ∨ m = 98 then chk2 c salt sum else 6
def twoM (c : Int) : ByteArray := mkB [UInt8.ofNat (48 + c.toNat / 10), UInt8.ofNat (48 + c.toNat % 10)]
def encM (m c : Int) (salt sum : ByteArray) : ByteArray := ((((⟨#[36, 50]⟩ ++ mkB [UInt8.ofNat m.toNat]) ++ ⟨#[36]⟩) ++ twoM c) ++ ⟨#[36]⟩) ++ (joinS salt sum).1
def encE (m c : Int) (salt sum : ByteArray) : ByteArray × Int := if chkM m c salt sum = 0 then (encM m c salt sum, 0) else (eB, chkM m c salt sum)

theorem chk_ok {m c : Int} {salt sum : ByteArray} (h : chkM m c salt sum = 0) : (m = 97 ∨ m = 98) ∧ 4 ≤ c ∧ c ≤ 31 ∧ salt.size = 16 ∧ sum.size = 23 := by
  unfold chkM at h
  by_cases h1 : m = 97 ∨ m = 98
  case neg => rw [if_neg h1] at h; cases h
  rw [if_pos h1] at h
  unfold chk2 at h
  by_cases h2 : c < 4 ∨ c > 31
  · rw [if_pos h2] at h; cases h
  rw [if_neg h2] at h
  unfold chk3 at h
  by_cases h3 : salt.size = 16
  case neg => rw [if_neg h3] at h; cases h
  by_cases h4 : sum.size = 23
  case neg => rw [if_pos h3, if_neg h4] at h; cases h
  exact ⟨h1, by omega, by omega, h3, h4⟩
theorem chk_is {m c : Int} {salt sum : ByteArray} (h1 : m = 97 ∨ m = 98) (h2 : 4 ≤ c) (h3 : c ≤ 31) (h4 : salt.size = 16) (h5 : sum.size = 23) : chkM m c salt sum = 0 := by
  unfold chkM chk2 chk3
  rw [if_pos h1, if_neg (by omega), if_pos h4, if_pos h5]
theorem join_is {salt sum : ByteArray} (h4 : salt.size = 16) (h5 : sum.size = 23) : (joinS salt sum).2 = 0 := by
  unfold joinS
  rw [if_pos h4, if_pos h5]
/-! ### what may be written -/
theorem chk_j0 (m c : Int) (salt sum : ByteArray) (b : Bool) : To (fun k => modular_Check.j0 k b m c salt sum) (if b = true then 2 else chk3 salt sum) := by
  refine To.step ?_
  simp only [modular_Check.j0]
  cases b
  · refine To.neg (by decide) ?_
    show To _ (chk3 salt sum)
    unfold chk3
    by_cases h3 : salt.size = 16
    case neg =>
      refine To.neg (by omega) ?_
      rw [if_neg h3]; exact To.ret _
    refine To.pos (by omega) ?_
    rw [if_pos h3]
    by_cases h4 : sum.size = 23
    case neg =>
      refine To.neg (by omega) ?_
      rw [if_neg h4]; exact To.ret _
    refine To.pos (by omega) ?_
    rw [if_pos h4]; exact To.ret _
  · exact To.pos rfl (To.ret _)
theorem check_to (m c : Int) (salt sum : ByteArray) : To (fun k => modular_Check.f k m c salt sum) (chkM m c salt sum) := by
  simp only [modular_Check.f]
  refine To.bind0 (minor_f m) ?_
  unfold chkM
  by_cases h1 : m = 97 ∨ m = 98
  case neg =>
    refine To.neg (by rw [decide_eq_true_iff]; exact h1) ?_
    rw [if_neg h1]; exact To.ret _
  refine To.pos (decide_eq_true h1) ?_
  rw [if_pos h1]
  unfold chk2
  by_cases h2 : c < 4
  · refine To.pos h2 ((chk_j0 m c salt sum true).eq ?_)
    rw [if_pos (Or.inl h2)]; rfl
  refine To.neg h2 ((chk_j0 m c salt sum (decide (c > 31))).eq ?_)
  by_cases h3 : c > 31
  · rw [if_pos (Or.inr h3), if_pos (decide_eq_true h3)]
  · rw [if_neg (by omega : ¬ (c < 4 ∨ c > 31)), if_neg (by rw [decide_eq_true_iff]; exact h3)]
theorem rchk_j1 (m c : Int) (salt sum : ByteArray) (b : Bool) : To (fun k => pestleref43_Check.j1 k b m c salt sum) (if b = true then 2 else chk3 salt sum) := by
  refine To.step ?_
  simp only [pestleref43_Check.j1]
  cases b
  · refine To.neg (by decide) ?_
    show To _ (chk3 salt sum)
    unfold chk3
    by_cases h3 : salt.size = 16
    case neg =>
      refine To.neg (by omega) ?_
      rw [if_neg h3]; exact To.ret _
    refine To.pos (by omega) ?_
    rw [if_pos h3]
    by_cases h4 : sum.size = 23
    case neg =>
      refine To.neg (by omega) ?_
      rw [if_neg h4]; exact To.ret _
    refine To.pos (by omega) ?_
    rw [if_pos h4]; exact To.ret _
  · exact To.pos rfl (To.ret _)
theorem rchk_j0 (m c : Int) (salt sum : ByteArray) (b : Bool) : To (fun k => pestleref43_Check.j0 k b m c salt sum) (if b = true then 6 else chk2 c salt sum) := by
  refine To.step ?_
  simp only [pestleref43_Check.j0]
  cases b
  · refine To.neg (by decide) ?_
    show To _ (chk2 c salt sum)
    unfold chk2
    by_cases h2 : c < 4
    · refine To.pos h2 ((rchk_j1 m c salt sum true).eq ?_)
      rw [if_pos (Or.inl h2)]; rfl
    refine To.neg h2 ((rchk_j1 m c salt sum (decide (c > 31))).eq ?_)
    by_cases h3 : c > 31
    · rw [if_pos (Or.inr h3), if_pos (decide_eq_true h3)]
    · rw [if_neg (by omega : ¬ (c < 4 ∨ c > 31)), if_neg (by rw [decide_eq_true_iff]; exact h3)]
  · exact To.pos rfl (To.ret _)
theorem ref_check_to (m c : Int) (salt sum : ByteArray) : To (fun k => pestleref43_Check.f k m c salt sum) (chkM m c salt sum) := by
  simp only [pestleref43_Check.f]
  unfold chkM
  by_cases h1 : m = 97
  · refine To.pos h1 ((rchk_j0 m c salt sum false).eq ?_)
    rw [if_pos (Or.inl h1)]; rfl
  refine To.neg h1 ((rchk_j0 m c salt sum (m != 98)).eq ?_)
  by_cases h2 : m = 98
  · rw [if_pos (Or.inr h2), h2]; rfl
  · rw [if_neg (by omega : ¬ (m = 97 ∨ m = 98)), if_pos (bne_iff_ne.2 h2)]
/-! ### writing -/
theorem two_n : ∀ n : Nat, n < 32 → dec_Two.f (n : Int) = some (twoM (n : Int), 0) := by decide +kernel
theorem reftext_n : ∀ n : Nat, n < 32 → pestleref18_Text.f 3 (n : Int) = some (if n < 10 then mkB [UInt8.ofNat (48 + n)] else twoM (n : Int)) := by decide +kernel
theorem two_lo : ∀ n : Nat, n < 10 → (⟨#[48]⟩ : ByteArray) ++ mkB [UInt8.ofNat (48 + n)] = twoM (n : Int) := by decide +kernel
theorem encode_to (m c : Int) (salt sum : ByteArray) : To (fun k => modular_Encode.f k m c salt sum) (encE m c salt sum) := by
  simp only [modular_Encode.f]
  refine To.bind (check_to m c salt sum) ?_
  unfold encE
  by_cases h : chkM m c salt sum = 0
  case neg =>
    refine To.neg h ?_
    rw [if_neg h]; exact To.ret _
  refine To.pos h ?_
  rw [if_pos h]
  obtain ⟨h1, h2, h3, h4, h5⟩ := chk_ok h
  obtain ⟨n, rfl⟩ : ∃ n : Nat, c = n := ⟨c.toNat, by omega⟩
  have hj := (join_part (join_is h4 h5)).2
  have hm : strOfNums [m] = mkB [UInt8.ofNat m.toNat] := by rw [U_single (by omega) (by omega), str_U]
  refine To.bind0 (two_n n (by omega)) (To.bind0 (a := 0) rfl (To.bind (join_to salt sum) (To.bind0 rfl ?_)))
  rw [hm]
  have z1 : (mkB [UInt8.ofNat m.toNat]).size = 1 := rfl
  have z2 : (twoM (n : Int)).size = 2 := rfl
  have z3 : (⟨#[36, 50]⟩ : ByteArray).size = 2 := rfl
  have z4 : (⟨#[36]⟩ : ByteArray).size = 1 := rfl
  refine To.pos (by omega) (To.pos ?_ (To.pos ?_ (To.pos ?_ (To.pos ?_ (To.ret _)))))
  all_goals simp only [ByteArray.size_append]; omega
theorem ref_encode_to {m c : Int} {salt sum : ByteArray} (h : chkM m c salt sum = 0) : To (fun k => pestleref43_Encode.f k m c salt sum) (encM m c salt sum) := by
  simp only [pestleref43_Encode.f]
  obtain ⟨h1, h2, h3, h4, h5⟩ := chk_ok h
  obtain ⟨n, rfl⟩ : ∃ n : Nat, c = n := ⟨c.toNat, by omega⟩
  have hj := (join_part (join_is h4 h5)).2
  have z2 : (twoM (n : Int)).size = 2 := rfl
  have z3 : (⟨#[36, 50]⟩ : ByteArray).size = 2 := rfl
  have z4 : (⟨#[36]⟩ : ByteArray).size = 1 := rfl
  have z5 : (⟨#[97]⟩ : ByteArray).size = 1 := rfl
  have z6 : (⟨#[98]⟩ : ByteArray).size = 1 := rfl
  have z7 : (⟨#[48]⟩ : ByteArray).size = 1 := rfl
  refine To.bind (To.up (fun k => pestleref18_Text.mono _ k) (k := 3) (reftext_n n (by omega))) ?_
  unfold encM
  by_cases q : (n : Int) < 10
  · refine To.pos q ?_
    have z1 : (mkB [UInt8.ofNat (48 + n)]).size = 1 := rfl
    rw [if_pos (by omega), two_lo n (by omega)]
    refine To.pos (by omega) (To.bind (ref_join_to salt sum) ?_)
    rcases h1 with rfl | rfl
    · refine To.neg (by omega) (To.pos (by omega) (To.pos ?_ (To.pos ?_ (To.pos ?_ (To.ret _)))))
      all_goals simp only [ByteArray.size_append]; omega
    · refine To.pos rfl (To.pos (by omega) (To.pos ?_ (To.pos ?_ (To.pos ?_ (To.ret _)))))
      all_goals simp only [ByteArray.size_append]; omega
  · refine To.neg q ?_
    rw [if_neg (by omega)]
    refine To.bind (ref_join_to salt sum) ?_
    rcases h1 with rfl | rfl
    · refine To.neg (by omega) (To.pos (by omega) (To.pos ?_ (To.pos ?_ (To.pos ?_ (To.ret _)))))
      all_goals simp only [ByteArray.size_append]; omega
    · refine To.pos rfl (To.pos (by omega) (To.pos ?_ (To.pos ?_ (To.pos ?_ (To.ret _)))))
      all_goals simp only [ByteArray.size_append]; omega
/-! ### and back -/
theorem L_enc (m c : Int) (salt sum : ByteArray) : L (encM m c salt sum) = 36 :: 50 :: UInt8.ofNat m.toNat :: 36 :: UInt8.ofNat (48 + c.toNat / 10) :: UInt8.ofNat (48 + c.toNat % 10) :: 36 :: L (joinS salt sum).1 := by
  unfold encM twoM
  simp only [L_append, L_mk]
  rfl
theorem bt_of {s : ByteArray} {n : Nat} {c : UInt8} (h : (L s)[n]? = some c) : bt s (n : Int) = (c.toNat : Int) := by
  obtain ⟨h1, h2⟩ := List.getElem?_eq_some_iff.mp h
  rw [bt_nat h1, h2]
theorem sub7 {s : ByteArray} {a0 a1 a2 a3 a4 a5 a6 : UInt8} {j : ByteArray} (e : L s = a0 :: a1 :: a2 :: a3 :: a4 :: a5 :: a6 :: L j) : s.extract 7 s.size = j := by
  refine L_inj ?_
  have l := size_L s
  rw [e] at l
  simp only [List.length_cons] at l
  rw [L_extract, e, l]
  show (L j).take _ = L j
  exact List.take_of_length_le (by omega)
theorem enc_parse {m c : Int} {salt sum : ByteArray} (h : chkM m c salt sum = 0) : parseM (encM m c salt sum) = (m, c, salt, sum, 0) := by
  obtain ⟨h1, h2, h3, h4, h5⟩ := chk_ok h
  obtain ⟨n, rfl⟩ : ∃ n : Nat, c = n := ⟨c.toNat, by omega⟩
  obtain ⟨hp, hj⟩ := join_part (join_is h4 h5)
  have e := L_enc m (n : Int) salt sum
  rw [Int.toNat_natCast] at e
  generalize encM m (n : Int) salt sum = s at e ⊢
  have l := size_L s
  rw [e] at l
  simp only [List.length_cons] at l
  rw [← size_L, hj] at l
  have b2 : bt s 2 = ((UInt8.ofNat m.toNat).toNat : Int) := bt_of (n := 2) (by rw [e]; rfl)
  have b3 : bt s 3 = ((36 : UInt8).toNat : Int) := bt_of (n := 3) (by rw [e]; rfl)
  have b4 : bt s 4 = ((UInt8.ofNat (48 + n / 10)).toNat : Int) := bt_of (n := 4) (by rw [e]; rfl)
  have b5 : bt s 5 = ((UInt8.ofNat (48 + n % 10)).toNat : Int) := bt_of (n := 5) (by rw [e]; rfl)
  have b6 : bt s 6 = ((36 : UInt8).toNat : Int) := bt_of (n := 6) (by rw [e]; rfl)
  rw [u8_of (by omega)] at b2 b4 b5
  have x : (s.extract 0 2).toList = ([36, 50] : List UInt8) := by
    rw [toList_L, L_extract, e]; rfl
  have c0 : costOf s = (n : Int) := by
    unfold costOf
    omega
  unfold parseM
  rw [if_pos (by omega), if_pos (show head s from ⟨x, b3, b6⟩)]
  unfold pM1
  rw [if_pos (by omega)]
  unfold pM2
  rw [if_pos (by unfold isDg; omega)]
  unfold pM3
  rw [c0, if_neg (by omega)]
  unfold pM4
  rw [sub7 e, hp, if_pos rfl, c0, b2]
  have : ((m.toNat : Nat) : Int) = m := by omega
  rw [this]
theorem parse_ok {s : ByteArray} (h : (parseM s).2.2.2.2 = 0) : s.size = 60 ∧ head s ∧ (bt s 2 = 97 ∨ bt s 2 = 98) ∧ (isDg (bt s 4) ∧ isDg (bt s 5)) ∧ 4 ≤ costOf s ∧ costOf s ≤ 31 ∧ (partS (s.extract 7 s.size)).2.2 = 0 ∧ parseM s = (bt s 2, costOf s, (partS (s.extract 7 s.size)).1, (partS (s.extract 7 s.size)).2.1, 0) := by
  unfold parseM at h ⊢
  by_cases h1 : s.size = 60
  case neg => rw [if_neg h1] at h; cases h
  rw [if_pos h1] at h ⊢
  by_cases h2 : head s
  case neg => rw [if_neg h2] at h; cases h
  rw [if_pos h2] at h ⊢
  unfold pM1 at h ⊢
  by_cases h3 : bt s 2 = 97 ∨ bt s 2 = 98
  case neg => rw [if_neg h3] at h; cases h
  rw [if_pos h3] at h ⊢
  unfold pM2 at h ⊢
  by_cases h4 : isDg (bt s 4) ∧ isDg (bt s 5)
  case neg => rw [if_neg h4] at h; cases h
  rw [if_pos h4] at h ⊢
  unfold pM3 at h ⊢
  by_cases h5 : costOf s < 4 ∨ costOf s > 31
  · rw [if_pos h5] at h; cases h
  rw [if_neg h5] at h ⊢
  unfold pM4 at h ⊢
  generalize partS (s.extract 7 s.size) = p at h ⊢
  by_cases h6 : p.2.2 = 0
  case neg => rw [if_neg h6] at h; exact absurd h h6
  rw [if_pos h6]
  exact ⟨h1, h2, h3, h4, by omega, by omega, h6, rfl⟩
theorem parse_err {s : ByteArray} (h : (parseM s).2.2.2.2 ≠ 0) : parseM s = er (parseM s).2.2.2.2 := by
  unfold parseM at h ⊢
  by_cases h1 : s.size = 60
  case neg => rw [if_neg h1]; rfl
  rw [if_pos h1] at h ⊢
  by_cases h2 : head s
  case neg => rw [if_neg h2]; rfl
  rw [if_pos h2] at h ⊢
  unfold pM1 at h ⊢
  by_cases h3 : bt s 2 = 97 ∨ bt s 2 = 98
  case neg => rw [if_neg h3]; rfl
  rw [if_pos h3] at h ⊢
  unfold pM2 at h ⊢
  by_cases h4 : isDg (bt s 4) ∧ isDg (bt s 5)
  case neg => rw [if_neg h4]; rfl
  rw [if_pos h4] at h ⊢
  unfold pM3 at h ⊢
  by_cases h5 : costOf s < 4 ∨ costOf s > 31
  · rw [if_pos h5]; rfl
  rw [if_neg h5] at h ⊢
  unfold pM4 at h ⊢
  generalize partS (s.extract 7 s.size) = p at h ⊢
  by_cases h6 : p.2.2 = 0
  · rw [if_pos h6] at h; exact absurd rfl h
  rw [if_neg h6]
  rfl
theorem parse_enc {s : ByteArray} (h : (parseM s).2.2.2.2 = 0) : encE (parseM s).1 (parseM s).2.1 (parseM s).2.2.1 (parseM s).2.2.2.1 = (s, 0) := by
  obtain ⟨h1, h2, h3, h4, h5, h6, h7, h8⟩ := parse_ok h
  rw [h8]
  show encE (bt s 2) (costOf s) (partS (s.extract 7 s.size)).1 (partS (s.extract 7 s.size)).2.1 = (s, 0)
  have hj := part_join h7
  generalize partS (s.extract 7 s.size) = p at hj
  have hz : p.1.size = 16 ∧ p.2.1.size = 23 := by
    unfold joinS at hj
    by_cases z1 : p.1.size = 16
    case neg => rw [if_neg z1] at hj; injection hj with _ hj; cases hj
    by_cases z2 : p.2.1.size = 23
    case neg => rw [if_pos z1, if_neg z2] at hj; injection hj with _ hj; cases hj
    exact ⟨z1, z2⟩
  have hc := chk_is (m := bt s 2) (c := costOf s) h3 h5 h6 hz.1 hz.2
  unfold encE
  rw [if_pos hc]
  refine Prod.ext (L_inj ?_) rfl
  show L (encM _ _ _ _) = L s
  rw [L_enc, hj]
  obtain ⟨a0, a1, a2, a3, a4, a5, a6, l, e, hl⟩ := seven h1
  have b2 : bt s 2 = (a2.toNat : Int) := bt_of (n := 2) (by rw [e]; rfl)
  have b3 : bt s 3 = (a3.toNat : Int) := bt_of (n := 3) (by rw [e]; rfl)
  have b4 : bt s 4 = (a4.toNat : Int) := bt_of (n := 4) (by rw [e]; rfl)
  have b5 : bt s 5 = (a5.toNat : Int) := bt_of (n := 5) (by rw [e]; rfl)
  have b6 : bt s 6 = (a6.toNat : Int) := bt_of (n := 6) (by rw [e]; rfl)
  obtain ⟨x, y3, y6⟩ := h2
  rw [toList_L, L_extract, e] at x
  have x' : [a0, a1] = ([36, 50] : List UInt8) := x
  injection x' with x0 x'
  injection x' with x1 x'
  have q3 : a3 = 36 := u8_eq (b3.symm.trans y3)
  have q6 : a6 = 36 := u8_eq (b6.symm.trans y6)
  have el : L (s.extract 7 s.size) = l := by
    rw [L_extract, e]
    show l.take _ = l
    exact List.take_of_length_le (by omega)
  obtain ⟨⟨d1, d2⟩, ⟨d3, d4⟩⟩ := h4
  have q2 : UInt8.ofNat (bt s 2).toNat = a2 := by rw [b2, Int.toNat_natCast]; exact UInt8.toNat_inj.1 (u8_of (u8_lt _))
  have ec : (costOf s).toNat = 10 * (a4.toNat - 48) + (a5.toNat - 48) := by unfold costOf; omega
  have q4 : UInt8.ofNat (48 + (costOf s).toNat / 10) = a4 := UInt8.toNat_inj.1 (by rw [u8_of (by omega)]; omega)
  have q5 : UInt8.ofNat (48 + (costOf s).toNat % 10) = a5 := UInt8.toNat_inj.1 (by rw [u8_of (by omega)]; omega)
  rw [e, el, q2, q4, q5, x0, x1, q3, q6]
end Go.Proofs.Ytoknoghdnedmhaa.Mod2
