/- For all pairs and names: pairs are written, and their values are told by their names, as the document says, or it is told why not; what is written is read.
   Conditions: pairs and names are such as Go can hold in memory (as the row says); nothing else. -/
import Derived.Test.YtoknoghdnedmhaaStFieldsWrites
import Derived.Test.YtoknoghdnedmhaaFld4
import Derived.Test.YtoknoghdnedmhaaPallx11
import Derived.Test.YtoknoghdnedmhaaPallx4
namespace Go.Proofs.Ytoknoghdnedmhaa.Pure
open Go.RowKit Go.Proofs.Ytoknoghdnedmhaa.Pall Go.Proofs.YtoknoghdnedmhaaW.PrintWords Go.Proofs.YtoknoghdnedmhaaW.PrintLast Go.Proofs.Ytoknoghdnedmhaa.Lib Go.Proofs.Ytoknoghdnedmhaa.Byt Go.Proofs.Ytoknoghdnedmhaa.Spl Go.Proofs.Ytoknoghdnedmhaa.Fld1 Go.Proofs.Ytoknoghdnedmhaa.Fld2 Go.Proofs.Ytoknoghdnedmhaa.Fld3 Go.Proofs.Ytoknoghdnedmhaa.Fld4

theorem awake41w_to : To (fun k => pestlelaw41_awake.f k) true := To.up (fun k => pestlelaw41_awake.mono k) (k := 60) (by decide +kernel)
theorem vals_l2 (l : List Pr) (hl : l.length ≤ 50) (d : Nat) : ∀ n : Nat, n + d = l.length → To (fun k => pestlelaw41_FieldsWrites.l2 k l (l.map (·.f1)) 0 (l.length : Int) (n : Int)) true := by
  induction d with
  | zero =>
    intro n hn
    refine To.step ?_
    simp only [pestlelaw41_FieldsWrites.l2]
    rw [List.length_map]
    exact To.neg (by omega) (To.pos trivial (To.ret' (by simp)))
  | succ d ih =>
    intro n hn
    have hlt : n < l.length := by omega
    refine To.step ?_
    simp only [pestlelaw41_FieldsWrites.l2]
    rw [List.length_map, rdT_nat hlt, rd_nat (by rw [List.length_map]; exact hlt), List.getElem_map, wrap_id (x := (n : Int) + 1) (by omega) (by omega)]
    exact To.pos (by omega) (To.pos rfl (To.pos (by omega) (To.pos (by omega) (To.pos (by omega) (To.pos rfl (ih (n + 1) (by omega)))))))
/-- the end of the walk over names: is told, by the values -/
theorem names_end (l : List Pr) (ns : List ByteArray) (hl : l.length ≤ 50) (b : Bool) (hb : b = decide (l.map (·.f0) = ns)) :
    To (fun k => (fields_Values.f k l ns).bind fun bt288 => (if b = true then (pestlelaw41_FieldsWrites.l2 k l bt288.1 bt288.2 (l.length : Int) 0) else (if bt288.2 = 5 then (some ((bt288.1.length : Int) == 0)) else (some false)))) true := by
  refine To.bind (values_to l ns (by omega)) ?_
  unfold valuesS
  by_cases h : l.map (·.f0) = ns
  · rw [if_pos h, hb, decide_eq_true h]
    exact To.pos rfl (vals_l2 l hl l.length 0 (by omega))
  · rw [if_neg h, hb, decide_eq_false h]
    exact To.neg (by decide) (To.pos rfl (To.ret' (by simp)))
theorem names_l1 (l : List Pr) (ns : List ByteArray) (hl : l.length ≤ 50) (d : Nat) : ∀ (n : Nat) (b : Bool), n + d = l.length → (b = decide (l.length = ns.length ∧ (l.take n).map (·.f0) = ns.take n)) →
    To (fun k => pestlelaw41_FieldsWrites.l1 k l ns b (l.length : Int) (n : Int)) true := by
  induction d with
  | zero =>
    intro n b hn hb
    refine To.step ?_
    simp only [pestlelaw41_FieldsWrites.l1]
    refine To.neg (by omega) (names_end l ns hl b ?_)
    rw [hb, decide_eq_decide]
    rw [List.take_of_length_le (by omega)]
    constructor
    · rintro ⟨h1, h2⟩
      rwa [List.take_of_length_le (by omega)] at h2
    · intro h
      have hlen : l.length = ns.length := by rw [← h, List.length_map]
      exact ⟨hlen, by rw [List.take_of_length_le (by omega)]; exact h⟩
  | succ d ih =>
    intro n b hn hb
    have hlt : n < l.length := by omega
    refine To.step ?_
    simp only [pestlelaw41_FieldsWrites.l1]
    rw [wrap_id (x := (n : Int) + 1) (by omega) (by omega)]
    refine To.pos (by omega) (To.ite (fun h => ?_) (fun h => ?_))
    · rw [h] at hb
      obtain ⟨h1, h2⟩ := of_decide_eq_true hb.symm
      have hlt' : n < ns.length := by omega
      rw [rdT_nat hlt, rdOf_nat hlt']
      refine To.pos (by omega) (To.pos (by omega) (To.pos (by omega) (ih (n + 1) _ (by omega) ?_)))
      rw [beq_L, decide_eq_decide, List.take_succ_eq_append_getElem hlt, List.take_succ_eq_append_getElem hlt', List.map_append, h2]
      constructor
      · intro e
        exact ⟨h1, by simp [e]⟩
      · rintro ⟨_, e⟩
        have := List.append_cancel_left e
        simpa using this
    · refine ih (n + 1) false (by omega) ?_
      have hb' : ¬ (l.length = ns.length ∧ (l.take n).map (·.f0) = ns.take n) := by
        intro hh
        exact h (hb.trans (decide_eq_true hh))
      symm
      rw [decide_eq_false_iff_not]
      rintro ⟨h1, h2⟩
      have hlt' : n < ns.length := by omega
      rw [List.take_succ_eq_append_getElem hlt, List.take_succ_eq_append_getElem hlt', List.map_append, List.map_cons, List.map_nil] at h2
      exact hb' ⟨h1, (List.append_inj h2 (by rw [List.length_map, List.length_take, List.length_take]; omega)).1⟩
theorem writes_j4 (l : List Pr) (ns : List ByteArray) (hl : l.length ≤ 50) : To (fun k => pestlelaw41_FieldsWrites.j4 k l ns) true := by
  refine To.step ?_
  simp only [pestlelaw41_FieldsWrites.j4]
  refine names_l1 l ns hl l.length 0 _ (by omega) ?_
  rw [Bool.eq_iff_iff, beq_iff_eq, decide_eq_true_iff]
  simp
  omega
theorem writes_l0 (l : List Pr) (ns : List ByteArray) (hl : l.length ≤ 50) (hv : ∀ p ∈ l, p.f1 ≤ 9223372036854775807) (d : Nat) : ∀ n : Nat, n + d = l.length → (∀ p ∈ l.take n, p.f0.size ≤ 100) →
    To (fun k => pestlelaw41_FieldsWrites.l0 k l ns l (l.length : Int) (n : Int)) true := by
  induction d with
  | zero =>
    intro n hn ht
    rw [List.take_of_length_le (by omega)] at ht
    have hn' : ∀ p ∈ l, p.f0.size ≤ 1000 ∧ p.f1 ≤ 9223372036854775807 := fun p hp => ⟨by have := ht p hp; omega, hv p hp⟩
    refine To.step ?_
    simp only [pestlelaw41_FieldsWrites.l0]
    refine To.neg (by omega) (To.bind (textP_to l hn') (To.bind (ref_textP_to l hn') (To.pos rfl (To.pos rfl (To.bind (check_to l (fun p hp => by have := ht p hp; omega)) (To.step ?_))))))
    simp only [pestlelaw41_FieldsWrites.j2]
    have hts : (textP l).2 = checkS l := by
      unfold textP
      by_cases h : checkS l = 0
      · rw [if_pos h, h]
      · rw [if_neg h]
    rw [hts]
    refine To.neg (by simp) (To.ite (fun h => To.step ?_) (fun h => To.step ?_))
    · simp only [pestlelaw41_FieldsWrites.j3]
      refine To.ite (fun h1 => ?_) (fun _ => writes_j4 l ns hl)
      have hne : l ≠ [] := by
        intro e
        rw [e] at h1
        simp at h1
      have e1 : textP l = (joinS 44 (l.map pairT), 0) := by unfold textP; rw [if_pos h]
      rw [e1]
      have hjs : (joinS 44 (l.map pairT)).size ≤ 1000000 := by
        unfold joinS
        rw [size_L, L_mk]
        have a := joinB_len 44 (l.map pairT)
        have b := sizes_le (l := l.map pairT) (m := 1022) (by
          intro q hq
          rw [List.mem_map] at hq
          obtain ⟨p, hp, rfl⟩ := hq
          have := pairT_size p (hn' p hp).2
          have := (hn' p hp).1
          omega)
        rw [List.length_map] at a b
        omega
      refine To.bind (pairs_to _ hjs) ?_
      rw [pairs_back h hne]
      exact To.pos rfl (To.bind (same_to l (by omega)) (To.pos rfl (writes_j4 l ns hl)))
    · simp only [pestlelaw41_FieldsWrites.j3]
      exact To.neg (by decide) (writes_j4 l ns hl)
  | succ d ih =>
    intro n hn ht
    have hlt : n < l.length := by omega
    refine To.step ?_
    simp only [pestlelaw41_FieldsWrites.l0]
    rw [rdT_nat hlt, wrap_id (x := (n : Int) + 1) (by omega) (by omega)]
    refine To.pos (by omega) (To.pos (by omega) (To.pos (by omega) (To.ite (fun _ => To.ret _) (fun h => ih (n + 1) (by omega) ?_))))
    intro p hp
    rw [List.take_succ_eq_append_getElem hlt, List.mem_append, List.mem_singleton] at hp
    rcases hp with h' | rfl
    · exact ht p h'
    · omega
theorem FieldsWrites : St.FieldsWrites_Pure := by
  intro l ns hl _
  have hv : ∀ p ∈ l, p.f1 ≤ 9223372036854775807 := fun p hp => (wf_i64 (hl.1 p hp).2).2
  refine To.ends ?_
  simp only [pestlelaw41_FieldsWrites.f]
  refine To.bind awake41w_to (To.pos rfl (To.ite (fun _ => To.step ?_) (fun h => To.step ?_)))
  · simp only [pestlelaw41_FieldsWrites.j0]
    exact To.pos trivial (To.ret _)
  simp only [pestlelaw41_FieldsWrites.j0]
  exact To.ite (fun _ => To.ret _) (fun _ => writes_l0 l ns (by omega) hv l.length 0 (by omega) (by simp))
end Go.Proofs.Ytoknoghdnedmhaa.Pure
