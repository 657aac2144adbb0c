/- What reading of a number answers; and that numbers and their texts go to and fro. -/
import Derived.Test.YtoknoghdnedmhaaDec1
import Derived.Test.YtoknoghdnedmhaaPallx3
import Derived.Test.YtoknoghdnedmhaaPallx9
import Derived.Test.YtoknoghdnedmhaaPallx5
namespace Go.Proofs.Ytoknoghdnedmhaa.Dec2
open Go.RowKit Go.Proofs.YtoknoghdnedmhaaW.PrintWords Go.Proofs.YtoknoghdnedmhaaW.PrintLast Go.Proofs.Ytoknoghdnedmhaa.Pall Go.Proofs.Ytoknoghdnedmhaa.Lib Go.Proofs.Ytoknoghdnedmhaa.Byt Go.Proofs.Ytoknoghdnedmhaa.Dec1

theorem valA_append (a : Nat) (l m : List UInt8) : valA a (l ++ m) = valA (valA a l) m := by
  induction l generalizing a with
  | nil => rfl
  | cons c l ih => exact ih _
theorem valA_ge (a : Nat) (l : List UInt8) : a ≤ valA a l := by
  induction l generalizing a with
  | nil => exact Nat.le_refl a
  | cons c l ih => exact Nat.le_trans (by omega) (ih _)
theorem valA_mono {a b : Nat} (h : a ≤ b) (l : List UInt8) : valA a l ≤ valA b l := by
  induction l generalizing a b with
  | nil => exact h
  | cons c l ih => exact ih (by omega)
theorem valA_big (a : Nat) (l : List UInt8) : a * 10 ^ l.length ≤ valA a l := by
  induction l generalizing a with
  | nil => exact Nat.le_of_eq (Nat.mul_one a)
  | cons c l ih =>
    refine Nat.le_trans ?_ (ih (10 * a + (c.toNat - 48)))
    rw [List.length_cons, Nat.pow_succ, Nat.mul_comm (10 ^ l.length) 10, ← Nat.mul_assoc]
    exact Nat.mul_le_mul_right _ (by omega)

/-! ### Read -/
theorem digit_mod {c : UInt8} (h : isDig c) : ((c.toNat : Int) - 48) % 256 = ((c.toNat - 48 : Nat) : Int) := by
  have h1 := h.1
  have h2 := h.2
  omega
set_option maxHeartbeats 1000000 in
theorem read_l0 (s : ByteArray) (hs : s.size ≤ 1000000000) (d : Nat) : ∀ (n a : Nat) (o : Bool), n + d = (L s).length → (∀ c ∈ (L s).take n, isDig c) → a ≤ 4611686018427387904 → (o = true → 4611686018427387904 < valA 0 ((L s).take n)) → (o = false → a = valA 0 ((L s).take n)) →
    To (fun k => dec_Read.l0 k s (a : Int) o (s.size : Int) (n : Int)) (if ∀ c ∈ L s, isDig c then (numS (valA 0 (L s))) else (0, 7)) := by
  induction d with
  | zero =>
    intro n a o hn ht ha ho hv
    refine To.step ?_
    simp only [dec_Read.l0]
    rw [size_L] at hs ⊢
    rw [List.take_of_length_le (by omega)] at ht ho hv
    rw [if_pos ht]
    refine To.neg (by omega) (To.ite (fun h => To.ret' ?_) (fun h => To.ret' ?_))
    · rw [numS_hi (ho h)]
    · rw [← hv (by simpa using h), numS_lo ha]
  | succ d ih =>
    intro n a o hn ht ha ho hv
    have hlt : n < (L s).length := by omega
    have hb : valA 0 (L s) = valA (valA 0 ((L s).take (n + 1))) ((L s).drop (n + 1)) := by rw [← valA_append, List.take_append_drop]
    have hg := valA_ge (valA 0 ((L s).take (n + 1))) ((L s).drop (n + 1))
    refine To.step ?_
    simp only [dec_Read.l0]
    rw [size_L] at hs ⊢
    rw [bt_nat hlt]
    have hsz : (L s).length = s.size := (size_L s).symm
    refine To.pos (by omega) (To.pos (by omega) (To.pos (by omega) ?_))
    by_cases hc : isDig (L s)[n]
    · have c1 := hc.1
      have c2 := hc.2
      refine To.neg (by omega) ?_
      rw [show decide (((L s)[n].toNat : Int) > 57) = false from decide_eq_false (by omega)]
      refine To.step ?_
      simp only [dec_Read.j2]
      rw [bt_nat hlt, digit_mod hc, wrap_id (x := (n : Int) + 1) (by omega) (by omega)]
      have ht' : ∀ c ∈ (L s).take (n + 1), isDig c := by
        intro c hc'
        rw [List.take_succ_eq_append_getElem hlt, List.mem_append, List.mem_singleton] at hc'
        rcases hc' with h | rfl
        · exact ht c h
        · exact hc
      have hval : valA 0 ((L s).take (n + 1)) = 10 * valA 0 ((L s).take n) + ((L s)[n].toNat - 48) := by
        rw [List.take_succ_eq_append_getElem hlt, valA_append]; rfl
      have hr := fun (a : Nat) (o : Bool) => ih (n + 1) a o (by omega) ht'
      rw [size_L] at hr
      refine To.neg (by decide) (To.pos (by omega) (To.pos (by omega) (To.ite (fun ho' => ?_) (fun ho' => ?_))))
      · exact hr a true ha (fun _ => by have := ho ho'; omega) (fun h => by cases h)
      · have hv' := hv (by simpa using ho')
        rw [hval, ← hv'] at hr
        refine To.ite (fun h => ?_) (fun h => ?_)
        · rw [decide_eq_true h]
          exact hr a true ha (fun _ => by omega) (fun h => by cases h)
        · rw [decide_eq_false h, wrap_id (x := 10 * (a : Int)) (by omega) (by omega), wrap_id (by omega) (by omega)]
          have := hr (10 * a + ((L s)[n].toNat - 48)) false (by omega) (fun h => by cases h) (fun _ => rfl)
          rw [Int.natCast_add, Int.natCast_mul] at this
          exact this
    · rw [if_neg (fun h => hc (h _ (List.getElem_mem hlt)))]
      have hc' : ¬ (48 ≤ (L s)[n].toNat ∧ (L s)[n].toNat ≤ 57) := hc
      refine To.ite (fun h => ?_) (fun h => ?_)
      · refine To.step ?_
        simp only [dec_Read.j2]
        exact To.pos trivial (To.ret _)
      · rw [show decide (((L s)[n].toNat : Int) > 57) = true from decide_eq_true (by omega)]
        refine To.step ?_
        simp only [dec_Read.j2]
        exact To.pos trivial (To.ret _)
theorem head_nat {s : ByteArray} (h : 0 < (L s).length) : bt s 0 = (((L s)[0]).toNat : Int) := bt_nat (n := 0) h
theorem head48 {l : List UInt8} (h : 0 < l.length) : ((l[0]).toNat : Int) = 48 ↔ l.head? = some 48 := by
  cases l with
  | nil => simp at h
  | cons c l =>
    simp only [List.getElem_cons_zero, List.head?_cons, Option.some.injEq]
    constructor
    · intro e; exact UInt8.toNat_inj.1 (by have : (48 : UInt8).toNat = 48 := rfl; omega)
    · rintro rfl; rfl
theorem read_to (s : ByteArray) (hs : s.size ≤ 1000000000) : To (fun k => dec_Read.f k s) (readS s) := by
  unfold readS readL
  simp only [dec_Read.f]
  rw [toList_L]
  have h0 := read_l0 s hs (L s).length 0 0 false (by omega) (by simp) (by omega) (fun h => by cases h) (fun _ => rfl)
  rw [size_L] at hs
  refine To.ite (fun h => ?_) (fun h => ?_)
  · refine To.step ?_
    simp only [dec_Read.j0]
    exact To.pos trivial (To.ret' (by rw [if_neg (fun c => c.1 h)]))
  · have hp : 0 < (L s).length := by cases e : L s with | nil => exact absurd e h | cons c l => simp
    rw [size_L]
    rw [size_L] at h0
    refine To.ite (fun h1 => To.pos (by omega) ?_) (fun h1 => ?_)
    · rw [head_nat hp]
      refine To.step ?_
      simp only [dec_Read.j0]
      rw [size_L]
      refine To.ite (fun h2 => To.ret' ?_) (fun h2 => ?_)
      · rw [if_neg]
        intro c
        have := c.2.2 ((head48 hp).1 (by simpa using h2))
        omega
      · refine h0.eq ?_
        have hh : (L s).head? = some 48 → (L s).length = 1 := fun e => absurd ((head48 hp).2 e) (by simpa using h2)
        by_cases hd : ∀ c ∈ L s, isDig c
        · rw [if_pos hd, if_pos ⟨h, hd, hh⟩]
        · rw [if_neg hd, if_neg (fun c => hd c.2.1)]
    · refine To.step ?_
      simp only [dec_Read.j0]
      rw [size_L]
      refine To.neg (by decide) (h0.eq ?_)
      by_cases hd : ∀ c ∈ L s, isDig c
      · rw [if_pos hd, if_pos ⟨h, hd, fun _ => by omega⟩]
      · rw [if_neg hd, if_neg (fun c => hd c.2.1)]

theorem ref_digits_l0 (s : ByteArray) (hs : s.size ≤ 1000000000) (d : Nat) : ∀ n : Nat, n + d = (L s).length →
    To (fun k => pestleref18_digits.l0 k s (n : Int)) (decide (∀ c ∈ (L s).drop n, isDig c)) := by
  induction d with
  | zero =>
    intro n hn
    refine To.step ?_
    simp only [pestleref18_digits.l0]
    rw [size_L]
    refine To.neg (by omega) (To.ret' ?_)
    rw [List.drop_of_length_le (by omega)]
    simp
  | succ d ih =>
    intro n hn
    have hlt : n < (L s).length := by omega
    refine To.step ?_
    simp only [pestleref18_digits.l0]
    rw [size_L] at hs ⊢
    rw [bt_nat hlt]
    have hd : (∀ c ∈ (L s).drop n, isDig c) ↔ isDig (L s)[n] ∧ ∀ c ∈ (L s).drop (n + 1), isDig c := by
      rw [drop_cons hlt]; simp only [List.mem_cons, forall_eq_or_imp]
    refine To.pos (by omega) (To.pos (by omega) (To.ite (fun h => To.ret' ?_) (fun h => To.ite (fun h' => To.ret' ?_) (fun h' => ?_))))
    · symm; rw [decide_eq_false_iff_not, hd]; rintro ⟨⟨h1, _⟩, _⟩; omega
    · symm; rw [decide_eq_false_iff_not, hd]; rintro ⟨⟨_, h1⟩, _⟩; omega
    · rw [wrap_id (x := (n : Int) + 1) (by omega) (by omega)]
      refine (ih (n + 1) (by omega)).eq ?_
      rw [decide_eq_decide, hd]
      exact ⟨fun h1 => ⟨⟨by omega, by omega⟩, h1⟩, fun h1 => h1.2⟩
theorem ref_read_l0 (s : ByteArray) (hs : s.size ≤ 1000000000) (hd : ∀ c ∈ L s, isDig c) (d : Nat) : ∀ n : Nat, n + d = (L s).length → valA 0 ((L s).take n) ≤ 4611686018427387904 →
    To (fun k => pestleref18_Read.l0 k s (valA 0 ((L s).take n) : Int) (n : Int)) (numS (valA 0 (L s))) := by
  induction d with
  | zero =>
    intro n hn hv
    refine To.step ?_
    simp only [pestleref18_Read.l0]
    rw [size_L]
    rw [List.take_of_length_le (by omega)] at hv ⊢
    exact To.neg (by omega) (To.ret' (by rw [numS_lo hv]))
  | succ d ih =>
    intro n hn hv
    have hlt : n < (L s).length := by omega
    have hb : valA 0 (L s) = valA (valA 0 ((L s).take (n + 1))) ((L s).drop (n + 1)) := by rw [← valA_append, List.take_append_drop]
    have hg := valA_ge (valA 0 ((L s).take (n + 1))) ((L s).drop (n + 1))
    have hval : valA 0 ((L s).take (n + 1)) = 10 * valA 0 ((L s).take n) + ((L s)[n].toNat - 48) := by
      rw [List.take_succ_eq_append_getElem hlt, valA_append]; rfl
    have hc := hd _ (List.getElem_mem hlt)
    have c1 := hc.1
    have c2 := hc.2
    refine To.step ?_
    simp only [pestleref18_Read.l0]
    rw [size_L] at hs ⊢
    rw [bt_nat hlt, digit_mod hc, wrap_id (x := (n : Int) + 1) (by omega) (by omega)]
    have ih' := ih (n + 1) (by omega)
    rw [hval] at ih' hb hg
    generalize valA 0 ((L s).take n) = a at *
    have hi : 10 * a + ((L s)[n].toNat - 48) ≤ 4611686018427387904 → To (fun k => pestleref18_Read.l0 k s (wrap64 (wrap64 (10 * (a : Int)) + (((L s)[n].toNat - 48 : Nat) : Int))) ((n : Int) + 1)) (numS (valA 0 (L s))) := by
      intro h
      rw [wrap_id (x := 10 * (a : Int)) (by omega) (by omega), wrap_id (by omega) (by omega)]
      have := ih' h
      rw [Int.natCast_add, Int.natCast_mul] at this
      exact this
    refine To.pos (by omega) (To.pos (by omega) (To.ite (fun h => To.ret' ?_) (fun h => To.ite (fun h' => To.ite (fun h2 => To.ret' ?_) (fun h2 => ?_)) (fun h' => ?_))))
    · rw [numS_hi (by omega)]
    · rw [numS_hi (by omega)]
    · exact hi (by omega)
    · exact hi (by omega)
set_option maxHeartbeats 1000000 in
theorem ref_read_to (s : ByteArray) (hs : s.size ≤ 1000000000) : To (fun k => pestleref18_Read.f k s) (readS s) := by
  unfold readS readL
  simp only [pestleref18_Read.f]
  rw [toList_L]
  refine To.ite (fun h => ?_) (fun h => ?_)
  · refine To.step ?_
    simp only [pestleref18_Read.j0]
    exact To.pos trivial (To.ret' (by rw [if_neg (fun c => c.1 h)]))
  have hp : 0 < (L s).length := by cases e : L s with | nil => exact absurd e h | cons c l => simp
  have hdig : To (fun k => pestleref18_digits.f k s) (decide (∀ c ∈ L s, isDig c)) := by
    simp only [pestleref18_digits.f]
    simpa using ref_digits_l0 s hs (L s).length 0 (by omega)
  refine To.bind hdig ?_
  by_cases hd : ∀ c ∈ L s, isDig c
  · refine To.pos (decide_eq_true hd) (To.pos (by rw [size_L]; omega) ?_)
    have main : Canon (L s) → To (fun k => if (s.size : Int) > 19 then some (0, 10) else pestleref18_Read.l0 k s 0 0) (if Canon (L s) then (numS (valA 0 (L s))) else (0, 7)) := by
      intro hcan
      rw [if_pos hcan]
      rw [size_L]
      refine To.ite (fun h1 => To.ret' ?_) (fun h1 => ?_)
      · refine (numS_hi ?_).symm
        cases e : L s with
        | nil => exact absurd e h
        | cons c l =>
          have hc := hd c (by rw [e]; simp)
          have hne : ¬ (L s).head? = some 48 := fun e2 => by have := hcan.2.2 e2; omega
          rw [e, List.head?_cons, Option.some.injEq] at hne
          have c1 := hc.1
          have c3 : c.toNat ≠ 48 := fun e2 => hne (UInt8.toNat_inj.1 e2)
          have hb := valA_big (c.toNat - 48) l
          have hl : 19 ≤ l.length := by rw [e, List.length_cons] at h1; omega
          have hpw : 10000000000000000000 ≤ 10 ^ l.length := Nat.le_trans (by decide +kernel : 10000000000000000000 ≤ 10 ^ 19) (Nat.pow_le_pow_right (by omega) hl)
          have hm : 10 ^ l.length ≤ (c.toNat - 48) * 10 ^ l.length := Nat.le_mul_of_pos_left _ (by omega)
          have e3 : valA 0 (c :: l) = valA (10 * 0 + (c.toNat - 48)) l := rfl
          rw [Nat.mul_zero, Nat.zero_add] at e3
          rw [e3]
          omega
      · have := ref_read_l0 s hs hd (L s).length 0 (by omega) (Nat.zero_le _)
        exact this
    rw [head_nat hp]
    refine To.ite (fun h1 => ?_) (fun h1 => ?_)
    · refine To.step ?_
      simp only [pestleref18_Read.j0]
      have h48 := (head48 hp).1 h1
      by_cases e : L s = [48]
      · refine To.neg (by rw [e]; decide) (main ⟨h, hd, fun _ => by rw [e]; rfl⟩)
      · refine To.pos (by simpa using e) (To.ret' ?_)
        rw [if_neg]
        intro c
        have hl := c.2.2 h48
        apply e
        cases e2 : L s with
        | nil => exact absurd e2 h
        | cons x l =>
          rw [e2] at hl h48
          simp at hl h48
          rw [hl, h48]
    · refine To.step ?_
      simp only [pestleref18_Read.j0]
      exact To.neg (by decide) (main ⟨h, hd, fun e => absurd ((head48 hp).2 e) h1⟩)
  · refine To.neg (by rw [decide_eq_true_iff]; exact hd) (To.step ?_)
    simp only [pestleref18_Read.j0]
    exact To.pos trivial (To.ret' (by rw [if_neg (fun c => hd c.2.1)]))
end Go.Proofs.Ytoknoghdnedmhaa.Dec2
