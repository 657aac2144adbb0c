/- For every list of parameters (of 50 at most) and every budget: how many blocks each needs, alone and together, and whether that fits, is the reference's.
   Conditions: the numbers are 64-bit integers, as Go has them; nothing else. -/
import Derived.Test.YtiicjhibnobhdaaNeed1
import Derived.Test.YtiicjhibnobhdaaStNeedOf
import Derived.Test.YtiicjhibnobhdaaPallx55
import Derived.Test.YtiicjhibnobhdaaPallx49
import Derived.Test.YtiicjhibnobhdaaPallx52
import Derived.Test.YtiicjhibnobhdaaPallx54
namespace Go.Proofs.Ytiicjhibnobhdaa.Pure
open Go.RowKit Go.Proofs.Ytiicjhibnobhdaa.Pall Go.Proofs.YtiicjhibnobhdaaW.PrintWords Go.Proofs.YtiicjhibnobhdaaW.PrintLast Go.Proofs.Ytiicjhibnobhdaa.Lib Go.Proofs.Ytiicjhibnobhdaa.Size1 Go.Proofs.Ytiicjhibnobhdaa.Size2 Go.Proofs.Ytiicjhibnobhdaa.Need1

abbrev Par := S23
theorem rdP_nat {l : List Par} {n : Nat} (h : n < l.length) : rd_T23 l (n : Int) = l[n] := by
  unfold rd_T23
  rw [show ((n : Int)).toNat = n from rfl, List.getD_eq_getElem?_getD, List.getElem?_eq_getElem h]
  rfl
def errP (p : Par) : Int := paramsS p.f0 p.f1 p.f2 p.f3 p.f4
def needP (p : Par) : Int := needS p.f0 p.f1 p.f2 p.f3
/-- the first reason why parameters may not be -/
def errS : List Par → Int
  | [] => 0
  | p :: l => if errP p = 0 then errS l else errP p
theorem errS_ok {p : Par} {l : List Par} (h : errP p = 0) : errS (p :: l) = errS l := if_pos h
theorem errS_no {p : Par} {l : List Par} (h : errP p ≠ 0) : errS (p :: l) = errP p := if_neg h
def mostS (a : Int) (l : List Par) : Int × Int := if errS l = 0 then ((l.map needP).foldl mx a, 0) else (0, errS l)
def sumS (a : List Int) (l : List Par) : Int × Int := if errS l = 0 then addS (a ++ l.map needP) else (0, errS l)
theorem most_ok {a : Int} {p : Par} {l : List Par} (h : errP p = 0) : mostS a (p :: l) = mostS (mx a (needP p)) l := by
  unfold mostS; rw [errS_ok h]; rfl
theorem most_no {a : Int} {p : Par} {l : List Par} (h : errP p ≠ 0) : mostS a (p :: l) = (0, errP p) := by
  unfold mostS; rw [errS_no h, if_neg h]
theorem sum_ok {a : List Int} {p : Par} {l : List Par} (h : errP p = 0) : sumS a (p :: l) = sumS (a ++ [needP p]) l := by
  unfold sumS; rw [errS_ok h, List.map_cons, List.append_assoc]; rfl
theorem sum_no {a : List Int} {p : Par} {l : List Par} (h : errP p ≠ 0) : sumS a (p :: l) = (0, errP p) := by
  unfold sumS; rw [errS_no h, if_neg h]
theorem ofP_ok {p : Par} (h : errP p = 0) : ofS p.f0 p.f1 p.f2 p.f3 p.f4 = (needP p, 0) := of_ok h
theorem ofP_no {p : Par} (h : errP p ≠ 0) : ofS p.f0 p.f1 p.f2 p.f3 p.f4 = (0, errP p) := of_no h

theorem most_l0 (l : List Par) (hl : l.length ≤ 1000000) (d : Nat) : ∀ (n : Nat) (a : Int), n + d = l.length →
    To (fun k => need_Most.l0 k a l (l.length : Int) (n : Int)) (mostS a (l.drop n)) := by
  induction d with
  | zero =>
    intro n a hn
    refine To.step ?_
    simp only [need_Most.l0]
    refine To.neg (by omega) (To.ret' ?_)
    rw [List.drop_of_length_le (by omega)]; rfl
  | succ d ih =>
    intro n a hn
    have hlt : n < l.length := by omega
    refine To.step ?_
    simp only [need_Most.l0]
    rw [rdP_nat hlt, drop_cons hlt]
    refine To.pos (by omega) (To.pos (by omega) (To.pos (by omega) (To.bind (of_to _ _ _ _ _) ?_)))
    by_cases h : errP l[n] = 0
    · rw [ofP_ok h, most_ok h]
      refine To.pos rfl ?_
      rw [wrap_id (x := (n : Int) + 1) (by omega) (by omega)]
      exact ih (n + 1) _ (by omega)
    · rw [ofP_no h, most_no h]
      exact To.neg h (To.ret _)
theorem most_to (l : List Par) (hl : l.length ≤ 1000000) : To (fun k => need_Most.f k l) (mostS 0 l) := by
  simp only [need_Most.f]
  exact most_l0 l hl l.length 0 0 (by omega)
theorem set_next (a : List Int) (d : Nat) (v : Int) : (a ++ List.replicate (d + 1) 0).set a.length v = a ++ [v] ++ List.replicate d 0 := by
  rw [List.set_append_right _ _ (Nat.le_refl _), Nat.sub_self, List.replicate_succ, List.set_cons_zero, List.append_assoc]; rfl
theorem sum_l0 (l : List Par) (hl : l.length ≤ 1000000) (d : Nat) : ∀ (n : Nat) (a : List Int), n + d = l.length → a.length = n →
    To (fun k => need_Sum.l0 k (a ++ List.replicate d 0) l (l.length : Int) (n : Int)) (sumS a (l.drop n)) := by
  induction d with
  | zero =>
    intro n a hn ha
    refine To.step ?_
    simp only [need_Sum.l0, List.replicate_zero, List.append_nil]
    refine To.neg (by omega) ?_
    refine (To.bind (add_to a (by omega)) (To.ret _)).eq ?_
    rw [List.drop_of_length_le (by omega)]
    show addS a = if (0 : Int) = 0 then addS (a ++ []) else (0, 0)
    rw [if_pos rfl, List.append_nil]
  | succ d ih =>
    intro n a hn ha
    have hlt : n < l.length := by omega
    refine To.step ?_
    simp only [need_Sum.l0]
    rw [rdP_nat hlt, drop_cons hlt]
    refine To.pos (by omega) (To.pos (by omega) (To.pos (by omega) (To.bind (of_to _ _ _ _ _) ?_)))
    by_cases h : errP l[n] = 0
    · rw [ofP_ok h, sum_ok h]
      refine To.pos rfl (To.pos (by simp; omega) ?_)
      rw [wrap_id (x := (n : Int) + 1) (by omega) (by omega)]
      simp only [Int.toNat_natCast]
      obtain rfl := ha
      rw [set_next]
      exact ih (a.length + 1) (a ++ [needP l[a.length]]) (by omega) (by simp)
    · rw [ofP_no h, sum_no h]
      exact To.neg h (To.ret _)
theorem sum_to (l : List Par) (hl : l.length ≤ 1000000) : To (fun k => need_Sum.f k l) (sumS [] l) := by
  simp only [need_Sum.f]
  refine To.pos (by omega) (To.pos (by omega) ?_)
  exact sum_l0 l hl l.length 0 [] (by omega) rfl
/-- what several need: the most, the sum, and the error of each -/
def allS (m : Int) (a : List Int) (l : List Par) : Int × Int × Int × Int := ((mostS m l).1, (mostS m l).2, (sumS a l).1, (sumS a l).2)
theorem all_l0 (l : List Par) (hl : l.length ≤ 1000000) (d : Nat) : ∀ (n : Nat) (m : Int) (a : List Int), n + d = l.length → a.length = n →
    To (fun k => pestleref45_All.l0 k l m a (n : Int)) (allS m a (l.drop n)) := by
  induction d with
  | zero =>
    intro n m a hn ha
    refine To.step ?_
    simp only [pestleref45_All.l0]
    refine To.neg (by omega) ?_
    refine To.bind (ref_add_to a (by omega)) (To.ret' ?_)
    rw [List.drop_of_length_le (by omega)]
    show (m, 0, (addS a).1, (addS a).2) = (m, 0, (if (0 : Int) = 0 then addS (a ++ []) else (0, 0)).1, (if (0 : Int) = 0 then addS (a ++ []) else (0, 0)).2)
    rw [if_pos rfl, List.append_nil]
  | succ d ih =>
    intro n m a hn ha
    have hlt : n < l.length := by omega
    refine To.step ?_
    simp only [pestleref45_All.l0]
    rw [rdP_nat hlt, drop_cons hlt]
    refine To.pos (by omega) (To.pos (by omega) (To.bind (ref_of_to _ _ _ _ _) ?_))
    by_cases h : errP l[n] = 0
    · rw [ofP_ok h, show allS m a (l[n] :: l.drop (n + 1)) = allS (mx m (needP l[n])) (a ++ [needP l[n]]) (l.drop (n + 1)) by unfold allS; rw [most_ok h, sum_ok h]]
      refine To.pos rfl ?_
      rw [wrap_id (x := (n : Int) + 1) (by omega) (by omega)]
      have i := ih (n + 1) (mx m (needP l[n])) (a ++ [needP l[n]]) (by omega) (by simp; omega)
      refine To.ite (fun c => To.pos (by omega) ?_) (fun c => To.pos (by omega) ?_)
      · have e : mx m (needP l[n]) = needP l[n] := by unfold mx; split <;> omega
        rw [e] at i ⊢
        exact i
      · have e : mx m (needP l[n]) = m := by unfold mx; split <;> omega
        rw [e] at i ⊢
        exact i
    · rw [ofP_no h, show allS m a (l[n] :: l.drop (n + 1)) = (0, errP l[n], 0, errP l[n]) by unfold allS; rw [most_no h, sum_no h]]
      exact To.neg h (To.ret _)
theorem all_to (l : List Par) (hl : l.length ≤ 1000000) : To (fun k => pestleref45_All.f k l) (allS 0 [] l) := by
  simp only [pestleref45_All.f]
  exact all_l0 l hl l.length 0 0 [] (by omega) rfl
theorem awakeN_to : To (fun k => pestlelaw45_awake.f k) true := To.up (fun k => pestlelaw45_awake.mono k) (k := 12) (by decide +kernel)
theorem fitsP {p : Par} (b : Int) (h : errP p = 0) : fitsS b p.f0 p.f1 p.f2 p.f3 p.f4 = if needP p > b then 4 else 0 := if_pos h
theorem law_l0 (l : List Par) (b : Int) (hl : l.length ≤ 1000000) (d : Nat) : ∀ n : Nat, n + d = l.length →
    To (fun k => pestlelaw45_NeedOf.l0 k l b l (l.length : Int) (n : Int)) true := by
  induction d with
  | zero =>
    intro n hn
    refine To.step ?_
    simp only [pestlelaw45_NeedOf.l0]
    refine To.neg (by omega) (To.bind (most_to l hl) (To.bind (sum_to l hl) (To.bind (all_to l hl) ?_)))
    exact To.pos rfl (To.pos rfl (To.pos rfl (To.ret' (by simp [allS]))))
  | succ d ih =>
    intro n hn
    have hlt : n < l.length := by omega
    refine To.step ?_
    simp only [pestlelaw45_NeedOf.l0]
    rw [rdP_nat hlt]
    refine To.pos (by omega) (To.pos (by omega) (To.pos (by omega) (To.bind (of_to _ _ _ _ _) (To.bind (ref_of_to _ _ _ _ _) (To.bind (fits_to _ _ _ _ _ _) ?_)))))
    refine To.pos rfl (To.pos rfl ?_)
    have i := ih (n + 1) (by omega)
    rw [wrap_id (x := (n : Int) + 1) (by omega) (by omega)]
    by_cases h : errP l[n] = 0
    · rw [ofP_ok h, fitsP b h]
      refine To.pos rfl ?_
      by_cases c : needP l[n] > b
      · rw [if_pos c, decide_eq_true c]
        exact To.neg (by decide) (To.neg (by decide) (To.pos rfl i))
      · rw [if_neg c, decide_eq_false c]
        exact To.neg (by decide) (To.pos rfl i)
    · rw [ofP_no h, show fitsS b l[n].f0 l[n].f1 l[n].f2 l[n].f3 l[n].f4 = errP l[n] from if_neg h]
      exact To.neg h (To.pos rfl i)
theorem NeedOf : St.NeedOf_Pure := by
  intro l b _ _
  refine To.ends ?_
  simp only [pestlelaw45_NeedOf.f]
  refine To.bind awakeN_to (To.pos rfl (To.ite (fun h => To.ret _) (fun h => ?_)))
  exact law_l0 l b (by omega) l.length 0 (by omega)
end Go.Proofs.Ytiicjhibnobhdaa.Pure
