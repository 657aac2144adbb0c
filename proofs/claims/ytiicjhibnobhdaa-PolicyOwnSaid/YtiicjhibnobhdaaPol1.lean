/- policies: what may be, and what is behind, in plain numbers. -/
import Derived.Test.YtiicjhibnobhdaaNeed1
import Derived.Test.YtiicjhibnobhdaaPallx2
import Derived.Test.YtiicjhibnobhdaaPallx3
import Derived.Test.YtiicjhibnobhdaaPallx4
import Derived.Test.YtiicjhibnobhdaaPallx1

namespace Go.Proofs.Ytiicjhibnobhdaa.Pol1
open Go.RowKit Go.Proofs.Ytiicjhibnobhdaa.Pall Go.Proofs.YtiicjhibnobhdaaW.PrintWords Go.Proofs.YtiicjhibnobhdaaW.PrintLast Go.Proofs.Ytiicjhibnobhdaa.Lib Go.Proofs.Ytiicjhibnobhdaa.Size1 Go.Proofs.Ytiicjhibnobhdaa.Size2 Go.Proofs.Ytiicjhibnobhdaa.Need1

/-- why a policy's, or other, parameters may not be -/
def parP (p : PV) : Int := paramsS p.a0 p.a1 p.a2 p.a3 p.a4
def parQ (q : QV) : Int := paramsS q.a0 q.a1 q.a2 q.a3 q.a4
theorem par_alg {a t m l s : Int} (h : paramsS a t m l s = 0) : 1 ≤ a ∧ a ≤ 6 := by
  by_cases q : a < 1 ∨ 6 < a
  · rw [params_else t m l s q] at h; omega
  · omega
def chkS (p : PV) : Int := if parP p ≠ 0 then parP p else if polSalt p = true then rkS p p.a0.toNat else 9
theorem chk_to (p : PV) : To (fun k => policy_Check.f k p) (chkS p) := by
  simp only [policy_Check.f]
  refine To.bind (params_to _ _ _ _ _) ?_
  by_cases h : parP p = 0
  · have b := par_alg h
    have e1 : chkS p = (if polSalt p = true then rkS p p.a0.toNat else 9) := if_neg (fun q => q h)
    rw [e1]
    refine To.neg (fun q => q h) ?_
    by_cases hs : polSalt p = true
    · exact (To.pos hs (To.pos (by omega) (To.ret _))).eq (if_pos hs).symm
    · exact (To.neg hs (To.ret _)).eq (if_neg hs).symm
  · rw [show chkS p = parP p from if_pos h]
    exact To.pos h (To.ret _)
/-! ### ranks -/
theorem rkIn_not {p : PV} {r : Int} : ∀ (d j : Nat), rkIn p r d j = false → 0 < r → ∀ i, j ≤ i → i < j + d → rkAt p i ≠ r
  | 0, j, _, _, i, h1, h2 => by omega
  | d + 1, j, h, hr, i, h1, h2 => by
    rw [rkIn_succ] at h
    by_cases q : 0 < r ∧ rkAt p j = r
    · rw [if_pos q] at h; cases h
    · rw [if_neg q] at h
      by_cases e : i = j
      · subst e; exact fun e => q ⟨hr, e⟩
      · exact rkIn_not d (j + 1) h hr i (by omega) (by omega)
theorem rkFrom_ok {p : PV} : ∀ (d j : Nat), rkFrom p d j = 0 → ∀ i, j ≤ i → i < j + d → 0 ≤ rkAt p i ∧ rkIn p (rkAt p i) i 0 = false
  | 0, j, _, i, h1, h2 => by omega
  | d + 1, j, h, i, h1, h2 => by
    rw [rkFrom_succ] at h
    by_cases q : rkAt p j < 0
    · rw [if_pos q] at h; cases h
    rw [if_neg q] at h
    by_cases q2 : rkIn p (rkAt p j) j 0 = true
    · rw [if_pos q2] at h; cases h
    rw [if_neg q2] at h
    by_cases e : i = j
    · subst e; exact ⟨by omega, Bool.eq_false_iff.2 q2⟩
    · exact rkFrom_ok d (j + 1) h i (by omega) (by omega)
theorem rkS_ok {p : PV} {n : Nat} (h : rkS p n = 0) : 1 ≤ rkAt p n ∧ rkAt p 0 = 0 ∧ (∀ i, i < 7 → 0 ≤ rkAt p i) ∧ ∀ i j, i < 7 → j < 7 → rkAt p i = rkAt p j → 0 < rkAt p i → i = j := by
  unfold rkS at h
  by_cases q : p.r0 ≠ 0 ∨ rkAt p n < 1
  · rw [if_pos q] at h; cases h
  rw [if_neg q] at h
  have a := rkFrom_ok 7 0 h
  have lt : ∀ i j, i < j → j < 7 → rkAt p i = rkAt p j → 0 < rkAt p i → False := fun i j h1 h2 h3 h4 =>
    rkIn_not j 0 (a j (by omega) (by omega)).2 (by omega) i (by omega) (by omega) h3
  refine ⟨by omega, by show p.r0 = 0; omega, fun i hi => (a i (by omega) (by omega)).1, fun i j hi hj e hp => ?_⟩
  rcases Nat.lt_trichotomy i j with c | c | c
  · exact (lt i j c hj e hp).elim
  · exact c
  · exact (lt j i c hi e.symm (by omega)).elim
/-! ### costs -/
def anyLt : List Int → List Int → Bool
  | a :: A, b :: B => if a < b then true else anyLt A B
  | _, _ => false
theorem lower_l0 (A B : List Int) (hl : A.length = B.length) (hs : A.length ≤ 1000) (d : Nat) : ∀ i : Nat, i + d = A.length → To (fun k => policy_Lower.l0 k A B (A.length : Int) (i : Int)) (anyLt (A.drop i) (B.drop i)) := by
  induction d with
  | zero =>
    intro i hi
    refine To.step ?_
    simp only [policy_Lower.l0]
    refine To.neg (by omega) (To.ret' ?_)
    rw [List.drop_of_length_le (by omega)]
    rfl
  | succ d ih =>
    intro i hi
    have h := ih (i + 1) (by omega)
    refine To.step ?_
    simp only [policy_Lower.l0]
    rw [wrap_id (x := (i : Int) + 1) (by omega) (by omega), rd_nat (by omega), rd_nat (by omega)]
    have e1 : A.drop i = A[i] :: A.drop (i + 1) := List.drop_eq_getElem_cons (by omega)
    have e2 : B.drop i = B[i] :: B.drop (i + 1) := List.drop_eq_getElem_cons (by omega)
    rw [e1, e2]
    refine To.pos (by omega) (To.pos (by omega) (To.pos (by omega) (To.pos (by omega) ?_)))
    show To _ (if A[i] < B[i] then true else anyLt (A.drop (i + 1)) (B.drop (i + 1)))
    by_cases q : A[i] < B[i]
    · rw [if_pos q]; exact To.pos q (To.ret _)
    · rw [if_neg q]; exact To.neg q h
def costs (a t m l s : Int) : List Int := if a = 5 then [t] else if a = 6 then [t, s] else [t, m, l, s]
theorem costs_is {a : Int} (t m l s : Int) (h : 1 ≤ a ∧ a ≤ 6) : policy_Costs.f a t m l s = some (costs a t m l s) := by
  unfold policy_Costs.f costs
  rw [argon_is]
  rw [Option.bind_some]
  by_cases h1 : a ≤ 3
  · rw [if_pos (decide_eq_true ⟨h.1, h1⟩), if_neg (by omega), if_neg (by omega)]
  · rw [if_neg (by rw [decide_eq_true_iff]; omega)]
    by_cases h4 : a = 4
    · rw [if_pos h4, if_neg (by omega), if_neg (by omega)]
    · rw [if_neg h4]
      by_cases h5 : a = 5
      · rw [if_pos h5, if_pos h5]
      · rw [if_neg h5, if_neg h5, if_pos (by omega), if_pos (by omega)]
theorem costs_len (a t m l s t' m' l' s' : Int) : (costs a t m l s).length = (costs a t' m' l' s').length := by
  unfold costs
  split
  · rfl
  · split <;> rfl
theorem costs_few (a t m l s : Int) : (costs a t m l s).length ≤ 1000 := by
  unfold costs
  split
  · simp
  · split <;> simp
theorem lower_to {a : Int} (t m l s t' m' l' s' : Int) (h : 1 ≤ a ∧ a ≤ 6) : To (fun k => policy_Lower.f k a t m l s a t' m' l' s') (anyLt (costs a t m l s) (costs a t' m' l' s')) := by
  simp only [policy_Lower.f]
  refine To.bind0 (costs_is t m l s h) (To.bind0 (costs_is t' m' l' s' h) ?_)
  have e := costs_len a t m l s t' m' l' s'
  rw [← e, show mn ((costs a t m l s).length : Int) ((costs a t m l s).length : Int) = ((costs a t m l s).length : Int) by unfold mn; split <;> rfl]
  exact lower_l0 _ _ e (costs_few a t m l s) (costs a t m l s).length 0 (by omega)
/-! ### what is behind -/
def behB (p : PV) (q : QV) : Bool := if rkAt p q.a0.toNat < rkAt p p.a0.toNat then true else if rkAt p q.a0.toNat = rkAt p p.a0.toNat then anyLt (costs p.a0 q.a1 q.a2 q.a3 q.a4) (costs p.a0 p.a1 p.a2 p.a3 p.a4) else false
theorem chk_ok {p : PV} (h : chkS p = 0) : parP p = 0 ∧ rkS p p.a0.toNat = 0 := by
  by_cases q : parP p = 0
  · rw [show chkS p = (if polSalt p = true then rkS p p.a0.toNat else 9) from if_neg (fun e => e q)] at h
    by_cases s : polSalt p = true
    · rw [if_pos s] at h; exact ⟨q, h⟩
    · rw [if_neg s] at h; cases h
  · rw [show chkS p = parP p from if_pos q] at h; exact (q h).elim
theorem same_alg {p : PV} {q : QV} (h : chkS p = 0) (hq : parQ q = 0) (e : rkAt p q.a0.toNat = rkAt p p.a0.toNat) : q.a0 = p.a0 := by
  obtain ⟨h1, h2⟩ := chk_ok h
  have b1 := par_alg h1
  have b2 := par_alg hq
  have r := rkS_ok h2
  have := r.2.2.2 _ _ (by omega) (by omega) e (by omega)
  omega
theorem beh_to {p : PV} {q : QV} (h : chkS p = 0) (hq : parQ q = 0) : To (fun k => policy_Behind.f k p q) (behB p q, 0) := by
  have b1 := par_alg (chk_ok h).1
  have b2 := par_alg hq
  have c := chk_to p
  rw [h] at c
  have pq : To (fun k => record_Params.f k q.a0 q.a1 q.a2 q.a3 q.a4) 0 := by
    have := params_to q.a0 q.a1 q.a2 q.a3 q.a4
    rw [show paramsS q.a0 q.a1 q.a2 q.a3 q.a4 = 0 from hq] at this
    exact this
  simp only [policy_Behind.f]
  refine To.bind c (To.neg (by omega) (To.bind pq (To.neg (by omega) (To.pos (by omega) ?_))))
  unfold behB
  by_cases q1 : rkAt p q.a0.toNat < rkAt p p.a0.toNat
  · rw [if_pos q1]; exact To.pos q1 (To.ret _)
  rw [if_neg q1]
  refine To.neg q1 ?_
  by_cases q2 : rkAt p q.a0.toNat = rkAt p p.a0.toNat
  · rw [if_pos q2]
    refine To.pos q2 ?_
    rw [same_alg h hq q2]
    exact To.bind (lower_to q.a1 q.a2 q.a3 q.a4 p.a1 p.a2 p.a3 p.a4 (by omega)) (To.ret _)
  · rw [if_neg q2]; exact To.neg q2 (To.ret _)
theorem beh_no {p : PV} {q : QV} (h : chkS p ≠ 0) : To (fun k => policy_Behind.f k p q) (false, chkS p) := by
  simp only [policy_Behind.f]
  exact To.bind (chk_to p) (To.pos h (To.ret _))
theorem beh_no2 {p : PV} {q : QV} (h : chkS p = 0) (hq : parQ q ≠ 0) : To (fun k => policy_Behind.f k p q) (false, parQ q) := by
  have c := chk_to p
  rw [h] at c
  simp only [policy_Behind.f]
  exact To.bind c (To.neg (by omega) (To.bind (params_to _ _ _ _ _) (To.pos hq (To.ret _))))
theorem awake46 : To (fun k => pestlelaw46_awake.f k) true := by
  have hp : chkS exP = 0 := by decide +kernel
  have hq : parQ exQ = 0 := by decide +kernel
  have e : behB exP exQ = true := by decide +kernel
  obtain ⟨k0, h0⟩ := beh_to hp hq
  rw [e] at h0
  exact ⟨k0, fun k hk => if_pos (h0 k hk)⟩
end Go.Proofs.Ytiicjhibnobhdaa.Pol1
