/- PolicyOwn: whatever the arguments, the plain walk answers yes. -/
import Derived.Test.YtiicjhibnobhdaaStPolicyOwn
import Derived.Test.YtiicjhibnobhdaaPol1
import Derived.Test.YtiicjhibnobhdaaPallx4
namespace Go.Proofs.Ytiicjhibnobhdaa.Pure
open Go.RowKit Go.Proofs.Ytiicjhibnobhdaa.Pall Go.Proofs.YtiicjhibnobhdaaW.PrintWords Go.Proofs.YtiicjhibnobhdaaW.PrintLast Go.Proofs.Ytiicjhibnobhdaa.Lib Go.Proofs.Ytiicjhibnobhdaa.Need1 Go.Proofs.Ytiicjhibnobhdaa.Pol1

theorem any_self : ∀ l, anyLt l l = false
  | [] => rfl
  | a :: l => by
    show (if a < a then true else anyLt l l) = false
    rw [if_neg (by omega)]
    exact any_self l
theorem any_at : ∀ (A B : List Int) (i : Nat), i < A.length → A.length = B.length → A.getD i 0 < B.getD i 0 → anyLt A B = true
  | a :: A, b :: B, 0, _, _, h => if_pos h
  | a :: A, b :: B, i + 1, hi, hl, h => by
    show (if a < b then true else anyLt A B) = true
    by_cases q : a < b
    · rw [if_pos q]
    · rw [if_neg q]
      exact any_at A B i (by simp only [List.length_cons] at hi; omega) (by simp only [List.length_cons] at hl; omega) h
  | [], _, _, hi, _, _ => by simp at hi
  | _ :: _, [], _, _, hl, _ => by simp at hl
structure Big (p : PV) : Prop where
  b1 : p.a1 ≤ 9223372036854775807
  b2 : p.a2 ≤ 9223372036854775807
  b3 : p.a3 ≤ 9223372036854775807
  b4 : p.a4 ≤ 9223372036854775807
theorem dq_alg (p : PV) (what b : Int) : (dq p what b).a0 = p.a0 := by
  unfold dq
  split
  · rfl
  · split
    · split <;> rfl
    · split <;> rfl
theorem less {x b : Int} (hx : x ≤ 9223372036854775807) (hb : 1 ≤ b) (h : b < x) : wrap64 (x - b) < x := by
  rw [wrap64]; omega
theorem dq_less {p : PV} (hB : Big p) {what b : Int} (h0 : 0 ≤ what) (h1 : what < ((costs p.a0 p.a1 p.a2 p.a3 p.a4).length : Int)) (hb : 1 ≤ b) (h : b < rd (costs p.a0 p.a1 p.a2 p.a3 p.a4) what) :
    anyLt (costs p.a0 (dq p what b).a1 (dq p what b).a2 (dq p what b).a3 (dq p what b).a4) (costs p.a0 p.a1 p.a2 p.a3 p.a4) = true := by
  obtain ⟨i, rfl⟩ : ∃ i : Nat, what = i := ⟨what.toNat, by omega⟩
  refine any_at _ _ i (by rw [costs_len p.a0 _ _ _ _ p.a1 p.a2 p.a3 p.a4]; omega) (costs_len _ _ _ _ _ _ _ _ _) ?_
  unfold rd at h
  rw [Int.toNat_natCast] at h
  by_cases h5 : p.a0 = 5
  · unfold costs at h h1 ⊢
    rw [if_pos h5] at h h1 ⊢
    obtain rfl : i = 0 := by simp at h1; omega
    rw [if_pos h5]
    exact less hB.b1 hb h
  by_cases h6 : p.a0 = 6
  · unfold costs at h h1 ⊢
    rw [if_neg h5, if_pos h6] at h h1
    rw [if_neg h5, if_pos h6, if_neg h5, if_pos h6]
    match i, h1, h with
    | 0, _, h => exact less hB.b1 hb h
    | 1, _, h =>
      have e : (dq p ((1 : Nat) : Int) b).a4 = wrap64 (p.a4 - b) := by
        unfold dq
        rw [if_neg (by omega), if_pos (by omega), if_pos h6]
      show (dq p ((1 : Nat) : Int) b).a4 < p.a4
      rw [e]
      exact less hB.b4 hb h
    | i + 2, h1, _ => simp at h1; omega
  · unfold costs at h h1 ⊢
    rw [if_neg h5, if_neg h6] at h h1
    rw [if_neg h5, if_neg h6, if_neg h5, if_neg h6]
    match i, h1, h with
    | 0, _, h => exact less hB.b1 hb h
    | 1, _, h =>
      have e : (dq p ((1 : Nat) : Int) b).a2 = wrap64 (p.a2 - b) := by
        unfold dq
        rw [if_neg (by omega), if_pos (by omega), if_neg h6]
      show (dq p ((1 : Nat) : Int) b).a2 < p.a2
      rw [e]
      exact less hB.b2 hb h
    | 2, _, h => exact less hB.b3 hb h
    | 3, _, h => exact less hB.b4 hb h
    | i + 4, h1, _ => simp at h1; omega
theorem own (p : PV) (hB : Big p) (what b : Int) : To (fun k => pestlelaw46_PolicyOwn.fp k p what b) true := by
  simp only [pestlelaw46_PolicyOwn.fp]
  refine To.bind awake46 (To.bind (chk_to p) ?_)
  by_cases hc : chkS p = 0
  case neg => exact To.pos hc (To.ret _)
  refine To.neg (fun q => q hc) ?_
  have hp := (chk_ok hc).1
  have ha := par_alg hp
  have hs : behB p (pq p) = false := by
    unfold behB
    rw [if_neg (show ¬ rkAt p (pq p).a0.toNat < rkAt p p.a0.toNat from Int.lt_irrefl _), if_pos (show rkAt p (pq p).a0.toNat = rkAt p p.a0.toNat from rfl)]
    exact any_self _
  have hb := beh_to (q := pq p) hc hp
  rw [hs] at hb
  refine To.bind hb (To.pos rfl ?_)
  have hl : To (fun k => lowQ k (pq p) p) false := by
    have := lower_to p.a1 p.a2 p.a3 p.a4 p.a1 p.a2 p.a3 p.a4 ha
    rw [any_self] at this
    exact this
  refine To.bind hl (To.pos rfl (To.bind0 (costs_is p.a1 p.a2 p.a3 p.a4 ha) ?_))
  refine To.ite (fun _ => To.ret _) (fun h0 => To.ite (fun _ => To.ret _) (fun h1 => To.ite (fun _ => To.ret _) (fun h2 => To.ite (fun _ => To.ret _) (fun h3 => ?_))))
  simp only [pestlelaw46_PolicyOwn.tail]
  have e := dq_less hB (what := what) (b := b) (by omega) (by omega) (by omega) (by omega)
  have hd := dq_alg p what b
  have hl2 : To (fun k => lowQ k (dq p what b) p) true := by
    have := lower_to (dq p what b).a1 (dq p what b).a2 (dq p what b).a3 (dq p what b).a4 p.a1 p.a2 p.a3 p.a4 ha
    rw [e] at this
    unfold lowQ
    rw [hd]
    exact this
  refine To.bind hl2 (To.pos rfl ?_)
  by_cases hq : parQ (dq p what b) = 0
  · have hb2 := beh_to (q := dq p what b) hc hq
    have hs2 : behB p (dq p what b) = true := by
      unfold behB
      rw [hd, if_neg (show ¬ rkAt p p.a0.toNat < rkAt p p.a0.toNat from Int.lt_irrefl _), if_pos rfl]
      exact e
    rw [hs2] at hb2
    exact To.bind hb2 (To.pos (Or.inr rfl) (To.ret _))
  · exact To.bind (beh_no2 (q := dq p what b) hc hq) (To.pos (Or.inl hq) (To.ret _))
theorem wf_le {x : Int} (h : (Lit.int .i64 x).wf = true) : x ≤ 9223372036854775807 := by
  simp [Lit.wf, IntKind.min, IntKind.max, IntKind.signed, IntKind.bits] at h
  omega
theorem PolicyOwn : St.PolicyOwn_Pure := by
  intro y0 y1 y2 h0 _ _
  have h := h0.1
  exact To.ends (own _ ⟨wf_le h.2.1, wf_le h.2.2.1, wf_le h.2.2.2.1, wf_le h.2.2.2.2⟩ _ _)
end Go.Proofs.Ytiicjhibnobhdaa.Pure
