/- For all lists: what is woven has one pick of each list by turns, each list in its order, as the document's reference weaves them.
   Conditions: the lists are such as Go can hold in memory (as the row says); nothing else. -/
import Derived.Test.YtfehkfjfmjnjnaaStPicksWoven
import Derived.Test.YtfehkfjfmjnjnaaPicks1
import Derived.Test.YtfehkfjfmjnjnaaPallx12
import Derived.Test.YtfehkfjfmjnjnaaPallx9
namespace Go.Proofs.Ytfehkfjfmjnjnaa.Pure
open Go.RowKit Go.Proofs.Ytfehkfjfmjnjnaa.Pall Go.Proofs.YtfehkfjfmjnjnaaW.PrintWords Go.Proofs.YtfehkfjfmjnjnaaW.PrintLast Go.Proofs.Ytfehkfjfmjnjnaa.Lib Go.Proofs.Ytfehkfjfmjnjnaa.Picks1

theorem rdL_nat {l : List (List Int)} {n : Nat} (h : n < l.length) : rd_L2 l (n : Int) = l[n] := by
  unfold rd_L2
  simp [List.getD_eq_getElem?_getD, h]
/-- the i-th of each list that has one -/
def col (ls : List (List Int)) (i : Nat) : List Int := ls.filterMap fun x => x[i]?
def woven (ls : List (List Int)) (m : Nat) : List Int := (List.range m).flatMap (col ls)
def tot : List (List Int) → Nat
  | [] => 0
  | x :: l => x.length + tot l
def longest : List (List Int) → Nat
  | [] => 0
  | x :: l => max x.length (longest l)
theorem tot_append (a b : List (List Int)) : tot (a ++ b) = tot a + tot b := by
  induction a with
  | nil => simp [tot]
  | cons x a ih => simp only [List.cons_append, tot, ih]; omega
theorem longest_append (a b : List (List Int)) : longest (a ++ b) = max (longest a) (longest b) := by
  induction a with
  | nil => simp [longest]
  | cons x a ih => simp only [List.cons_append, longest, ih]; omega
theorem len_le_longest {l : List (List Int)} {x : List Int} (h : x ∈ l) : x.length ≤ longest l := by
  induction l with
  | nil => cases h
  | cons y l ih =>
    rw [List.mem_cons] at h
    simp only [longest]
    rcases h with rfl | h
    · omega
    · have := ih h; omega
theorem longest_le_tot (l : List (List Int)) : longest l ≤ tot l := by
  induction l with
  | nil => exact Nat.le_refl _
  | cons x l ih => simp only [longest, tot]; omega
theorem woven_succ (ls : List (List Int)) (m : Nat) : woven ls (m + 1) = woven ls m ++ col ls m := by
  unfold woven
  rw [List.range_succ, List.flatMap_append]
  simp
theorem col_cons (x : List Int) (ls : List (List Int)) (i : Nat) : (col (x :: ls) i).length = (if i < x.length then 1 else 0) + (col ls i).length := by
  unfold col
  by_cases h : i < x.length
  · rw [if_pos h, List.filterMap_cons, List.getElem?_eq_getElem h]; simp only [List.length_cons]; omega
  · rw [if_neg h, List.filterMap_cons, List.getElem?_eq_none (by omega)]; simp only; omega
theorem woven_cons_len (x : List Int) (ls : List (List Int)) (m : Nat) : (woven (x :: ls) m).length = min m x.length + (woven ls m).length := by
  induction m with
  | zero => simp [woven]
  | succ m ih =>
    rw [woven_succ, woven_succ, List.length_append, List.length_append, ih, col_cons]
    split <;> omega
theorem woven_len (ls : List (List Int)) (m : Nat) (h : longest ls ≤ m) : (woven ls m).length = tot ls := by
  induction ls with
  | nil =>
    have : woven [] m = [] := by
      unfold woven col
      rw [List.flatMap_eq_nil_iff]
      intro i _
      rfl
    rw [this]; rfl
  | cons x ls ih =>
    simp only [longest] at h
    rw [woven_cons_len, ih (by omega), tot]
    omega
theorem woven_len_le (ls : List (List Int)) (m : Nat) : (woven ls m).length ≤ tot ls := by
  have h := woven_len ls (max m (longest ls)) (by omega)
  have mono : ∀ d, (woven ls m).length ≤ (woven ls (m + d)).length := by
    intro d
    induction d with
    | zero => exact Nat.le_refl _
    | succ d ih => rw [← Nat.add_assoc, woven_succ, List.length_append]; omega
  have := mono (max m (longest ls) - m)
  rw [show m + (max m (longest ls) - m) = max m (longest ls) by omega] at this
  omega
theorem col_take_succ (ls : List (List Int)) (n i : Nat) (hn : n < ls.length) : col (ls.take (n + 1)) i = col (ls.take n) i ++ (if h : i < ls[n].length then [ls[n][i]] else []) := by
  unfold col
  rw [List.take_succ_eq_append_getElem hn, List.filterMap_append]
  congr 1
  by_cases h : i < ls[n].length
  · rw [dif_pos h, List.filterMap_cons, List.getElem?_eq_getElem h]; rfl
  · rw [dif_neg h, List.filterMap_cons, List.getElem?_eq_none (by omega)]; rfl
theorem col_take_len (ls : List (List Int)) (n i : Nat) : (col (ls.take n) i).length ≤ (col ls i).length := by
  have : col ls i = col (ls.take n) i ++ col (ls.drop n) i := by
    unfold col
    rw [← List.filterMap_append, List.take_append_drop]
  rw [this, List.length_append]
  omega

/-! ### picks.Weave -/
theorem weave_l2 (ls : List (List Int)) (hn : ls.length ≤ 30) (ht : tot ls ≤ 2000) (m i : Nat) (him : i < m) (hm : m ≤ 2000) (r : List Int × Int)
    (next : To (fun k => picks_Weave.l1 k ls (woven ls (i + 1)) (m : Int) ((i : Int) + 1)) r) (d : Nat) : ∀ n : Nat, n + d = ls.length →
    To (fun k => picks_Weave.l2 k ls (woven ls i ++ col (ls.take n) i) (i : Int) (m : Int) (i : Int) ls (ls.length : Int) (n : Int)) r := by
  have hw := woven_len_le ls (i + 1)
  rw [woven_succ, List.length_append] at hw
  induction d with
  | zero =>
    intro n hd
    refine To.step ?_
    simp only [picks_Weave.l2]
    rw [wrap_id (x := (i : Int) + 1) (by omega) (by omega), List.take_of_length_le (by omega), ← woven_succ]
    exact To.neg (by omega) next
  | succ d ih =>
    intro n hd
    have hlt : n < ls.length := by omega
    have hc := col_take_len ls n i
    refine To.step ?_
    simp only [picks_Weave.l2]
    rw [rdL_nat hlt, wrap_id (x := (n : Int) + 1) (by omega) (by omega)]
    have hi := ih (n + 1) (by omega)
    rw [col_take_succ ls n i hlt, ← List.append_assoc] at hi
    refine To.pos (by omega) (To.pos (by omega) (To.pos (by omega) ?_))
    by_cases h : i < ls[n].length
    · rw [dif_pos h] at hi
      refine To.pos (by omega) (To.pos (by omega) (To.pos (by rw [List.length_append]; omega) ?_))
      rw [rd_nat h]
      exact hi
    · rw [dif_neg h, List.append_nil] at hi
      exact To.neg (by omega) hi
theorem weave_l1 (ls : List (List Int)) (hn : ls.length ≤ 30) (ht : tot ls ≤ 2000) (m : Nat) (hm : m ≤ 2000) (d : Nat) : ∀ i : Nat, i + d = m →
    To (fun k => picks_Weave.l1 k ls (woven ls i) (m : Int) (i : Int)) (woven ls m, 0) := by
  induction d with
  | zero =>
    intro i hi
    obtain rfl : i = m := by omega
    refine To.step ?_
    simp only [picks_Weave.l1]
    exact To.neg (by omega) (To.ret _)
  | succ d ih =>
    intro i hi
    refine To.step ?_
    simp only [picks_Weave.l1]
    refine To.pos (by omega) ?_
    have := weave_l2 ls hn ht m i (by omega) hm _ (ih (i + 1) (by omega)) ls.length 0 (by omega)
    simpa [col] using this
theorem mx_max (a b : Nat) : mx (a : Int) (b : Int) = ((max a b : Nat) : Int) := by unfold mx; omega
theorem weave_l0 (ls : List (List Int)) (hn : ls.length ≤ 30) (ht : tot ls ≤ 2000) (d : Nat) : ∀ n : Nat, n + d = ls.length →
    To (fun k => picks_Weave.l0 k ls (tot (ls.take n) : Int) (longest (ls.take n) : Int) ls (ls.length : Int) (n : Int)) (woven ls (longest ls), 0) := by
  have hll := longest_le_tot ls
  induction d with
  | zero =>
    intro n hd
    refine To.step ?_
    simp only [picks_Weave.l0]
    rw [List.take_of_length_le (by omega)]
    refine To.neg (by omega) (To.neg (by omega) ?_)
    have := weave_l1 ls hn ht (longest ls) (by omega) (longest ls) 0 (by omega)
    exact this
  | succ d ih =>
    intro n hd
    have hlt : n < ls.length := by omega
    have hsum : tot ls = tot (ls.take (n + 1)) + tot (ls.drop (n + 1)) := by rw [← tot_append, List.take_append_drop]
    have hts : tot (ls.take (n + 1)) = tot (ls.take n) + ls[n].length := by rw [List.take_succ_eq_append_getElem hlt, tot_append]; simp [tot]
    have hls : longest (ls.take (n + 1)) = max (longest (ls.take n)) ls[n].length := by rw [List.take_succ_eq_append_getElem hlt, longest_append]; simp [longest]
    refine To.step ?_
    simp only [picks_Weave.l0]
    rw [rdL_nat hlt, wrap_id (x := (n : Int) + 1) (by omega) (by omega), mx_max, wrap_id (x := (tot (ls.take n) : Int) + (ls[n].length : Int)) (by omega) (by omega)]
    refine To.pos (by omega) (To.pos (by omega) (To.pos (by omega) ?_))
    have := ih (n + 1) (by omega)
    rw [hts, hls, Int.natCast_add] at this
    exact this
theorem weave_to (ls : List (List Int)) (hn : ls.length ≤ 30) (ht : tot ls ≤ 2000) : To (fun k => picks_Weave.f k ls) (woven ls (longest ls), 0) := by
  simp only [picks_Weave.f]
  exact weave_l0 ls hn ht ls.length 0 (by omega)

/-! ### the reference -/
theorem col_nil_iff (ls : List (List Int)) (i : Nat) : col ls i = [] ↔ longest ls ≤ i := by
  induction ls with
  | nil => simp [col, longest]
  | cons x ls ih =>
    have hc := col_cons x ls i
    simp only [longest]
    constructor
    · intro h
      rw [h, List.length_nil] at hc
      by_cases hx : i < x.length
      · rw [if_pos hx] at hc; omega
      · have : col ls i = [] := List.length_eq_zero_iff.1 (by omega)
        have := ih.1 this
        omega
    · intro h
      rw [if_neg (by omega), ih.2 (by omega), List.length_nil] at hc
      exact List.length_eq_zero_iff.1 hc
theorem ref_l1 (ls : List (List Int)) (hn : ls.length ≤ 30) (ht : tot ls ≤ 2000) (i : Nat) (hi : i ≤ 2000) (r : List Int)
    (next : To (fun k => pestleref36_Weave.l0 k ls (woven ls (i + 1)) (decide (col ls i ≠ [])) ((i : Int) + 1)) r) (d : Nat) : ∀ n : Nat, n + d = ls.length →
    To (fun k => pestleref36_Weave.l1 k ls (woven ls i ++ col (ls.take n) i) (decide (col (ls.take n) i ≠ [])) (i : Int) (n : Int)) r := by
  have hw := woven_len_le ls (i + 1)
  rw [woven_succ, List.length_append] at hw
  induction d with
  | zero =>
    intro n hd
    refine To.step ?_
    simp only [pestleref36_Weave.l1]
    rw [wrap_id (x := (i : Int) + 1) (by omega) (by omega), List.take_of_length_le (by omega), ← woven_succ]
    exact To.neg (by omega) next
  | succ d ih =>
    intro n hd
    have hlt : n < ls.length := by omega
    have hc := col_take_len ls n i
    refine To.step ?_
    simp only [pestleref36_Weave.l1]
    rw [rdL_nat hlt, wrap_id (x := (n : Int) + 1) (by omega) (by omega)]
    have hi := ih (n + 1) (by omega)
    rw [col_take_succ ls n i hlt, ← List.append_assoc] at hi
    refine To.pos (by omega) (To.pos (by omega) ?_)
    by_cases h : i < ls[n].length
    · rw [dif_pos h] at hi
      refine To.pos (by omega) (To.pos (by omega) (To.pos (by rw [List.length_append]; omega) ?_))
      rw [rd_nat h]
      rw [show decide (col (ls.take n) i ++ [ls[n][i]] ≠ []) = true from decide_eq_true (by simp)] at hi
      exact hi
    · rw [dif_neg h, List.append_nil, List.append_nil] at hi
      exact To.neg (by omega) hi
theorem ref_l0 (ls : List (List Int)) (hn : ls.length ≤ 30) (ht : tot ls ≤ 2000) (d : Nat) : ∀ i : Nat, i + d = longest ls →
    To (fun k => pestleref36_Weave.l0 k ls (woven ls i) true (i : Int)) (woven ls (longest ls)) := by
  have hll := longest_le_tot ls
  induction d with
  | zero =>
    intro i hi
    refine To.step ?_
    simp only [pestleref36_Weave.l0]
    refine To.pos trivial ?_
    have hcn : col ls i = [] := (col_nil_iff ls i).2 (by omega)
    have next : To (fun k => pestleref36_Weave.l0 k ls (woven ls (i + 1)) (decide (col ls i ≠ [])) ((i : Int) + 1)) (woven ls (longest ls)) := by
      rw [woven_succ, hcn, List.append_nil]
      refine To.step ?_
      simp only [pestleref36_Weave.l0]
      exact To.neg (by simp) (To.ret' (by rw [show i = longest ls by omega]))
    have := ref_l1 ls hn ht i (by omega) _ next ls.length 0 (by omega)
    simpa [col] using this
  | succ d ih =>
    intro i hi
    refine To.step ?_
    simp only [pestleref36_Weave.l0]
    refine To.pos trivial ?_
    have hcn : col ls i ≠ [] := fun e => by have := (col_nil_iff ls i).1 e; omega
    have next : To (fun k => pestleref36_Weave.l0 k ls (woven ls (i + 1)) (decide (col ls i ≠ [])) ((i : Int) + 1)) (woven ls (longest ls)) := by
      rw [decide_eq_true hcn]
      exact ih (i + 1) (by omega)
    have := ref_l1 ls hn ht i (by omega) _ next ls.length 0 (by omega)
    simpa [col] using this
theorem ref_weave_to (ls : List (List Int)) (hn : ls.length ≤ 30) (ht : tot ls ≤ 2000) : To (fun k => pestleref36_Weave.f k ls) (woven ls (longest ls)) := by
  simp only [pestleref36_Weave.f]
  exact ref_l0 ls hn ht (longest ls) 0 (by omega)
theorem woven_law_l0 (ls : List (List Int)) (hn : ls.length ≤ 30) (hb : ∀ x ∈ ls, x.length ≤ 140737488351232) (d : Nat) : ∀ n : Nat, n + d = ls.length → tot (ls.take n) ≤ 2000 →
    To (fun k => pestlelaw36_PicksWoven.l0 k ls (tot (ls.take n) : Int) ls (ls.length : Int) (n : Int)) true := by
  induction d with
  | zero =>
    intro n hd ht
    refine To.step ?_
    simp only [pestlelaw36_PicksWoven.l0]
    rw [List.take_of_length_le (by omega)] at ht ⊢
    have hl := woven_len ls (longest ls) (Nat.le_refl _)
    refine To.neg (by omega) (To.bind (weave_to ls hn ht) (To.pos rfl (To.pos ?_ (To.bind (ref_weave_to ls hn ht) (To.bind (same_to _ (by show (woven ls (longest ls)).length ≤ _; omega)) (To.ret _))))))
    show ((woven ls (longest ls)).length : Int) = _
    rw [hl]
  | succ d ih =>
    intro n hd ht
    have hlt : n < ls.length := by omega
    have hx := hb _ (List.getElem_mem hlt)
    have hts : tot (ls.take (n + 1)) = tot (ls.take n) + ls[n].length := by rw [List.take_succ_eq_append_getElem hlt, tot_append]; simp [tot]
    refine To.step ?_
    simp only [pestlelaw36_PicksWoven.l0]
    rw [rdL_nat hlt, wrap_id (x := (n : Int) + 1) (by omega) (by omega), wrap_id (x := (tot (ls.take n) : Int) + (ls[n].length : Int)) (by omega) (by omega)]
    refine To.pos (by omega) (To.pos (by omega) (To.pos (by omega) (To.ite (fun _ => To.ret _) (fun h => ?_))))
    have := ih (n + 1) (by omega) (by omega)
    rw [hts, Int.natCast_add] at this
    exact this
theorem PicksWoven : St.PicksWoven_Pure := by
  intro ls h
  have hb : ∀ x ∈ ls, x.length ≤ 140737488351232 := fun x hx => by
    have := (h.1 x hx).2.1
    omega
  refine To.ends ?_
  simp only [pestlelaw36_PicksWoven.f]
  refine To.bind awake36_to (To.pos rfl (To.ite (fun _ => To.ret _) (fun h2 => ?_)))
  have := woven_law_l0 ls (by omega) hb ls.length 0 (by omega) (by simp [tot])
  exact this
end Go.Proofs.Ytfehkfjfmjnjnaa.Pure
