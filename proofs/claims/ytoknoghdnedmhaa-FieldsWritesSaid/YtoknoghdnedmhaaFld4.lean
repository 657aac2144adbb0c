/- Pairs as a text, and back; the values of pairs. -/
import Derived.Test.YtoknoghdnedmhaaFld3
import Derived.Test.YtoknoghdnedmhaaPallx9
import Derived.Test.YtoknoghdnedmhaaPallx10
namespace Go.Proofs.Ytoknoghdnedmhaa.Fld4
open Go.RowKit Go.Proofs.Ytoknoghdnedmhaa.Pall Go.Proofs.YtoknoghdnedmhaaW.PrintWords Go.Proofs.YtoknoghdnedmhaaW.PrintLast Go.Proofs.Ytoknoghdnedmhaa.Lib Go.Proofs.Ytoknoghdnedmhaa.Byt Go.Proofs.Ytoknoghdnedmhaa.Dec1 Go.Proofs.Ytoknoghdnedmhaa.Dec2 Go.Proofs.Ytoknoghdnedmhaa.Dec3 Go.Proofs.Ytoknoghdnedmhaa.Spl Go.Proofs.Ytoknoghdnedmhaa.Fld1 Go.Proofs.Ytoknoghdnedmhaa.Fld2 Go.Proofs.Ytoknoghdnedmhaa.Fld3

def eqB : ByteArray := ⟨#[61]⟩
/-- a pair as a text -/
def pairT (p : Pr) : ByteArray := (p.f0 ++ eqB) ++ textS p.f1
def textP (l : List Pr) : ByteArray × Int := if checkS l = 0 then (joinS 44 (l.map pairT), 0) else (⟨#[]⟩, checkS l)
theorem textS_sz {n : Int} (h : n ≤ 9223372036854775807) : (textS n).size ≤ 21 := by
  rw [size_L]
  by_cases hn : n < 0
  · rw [L_textS_neg hn]; simp
  · rw [L_textS (by omega)]
    have := textN_len n.toNat 20 (by omega)
    omega
theorem pairT_size (p : Pr) (h : p.f1 ≤ 9223372036854775807) : (pairT p).size ≤ p.f0.size + 22 := by
  unfold pairT
  have := textS_sz h
  have e : eqB.size = 1 := rfl
  rw [ByteArray.size_append, ByteArray.size_append]
  omega
/-- what a check lets by -/
theorem checkA_zero : ∀ (l prev : List Pr), checkA prev l = 0 → (∀ p ∈ l, nameS p.f0 = true ∧ Val p.f1) := by
  intro l
  induction l with
  | nil => intro _ _ p hp; cases hp
  | cons q l ih =>
    intro prev h p hp
    rw [checkA] at h
    by_cases h1 : nameS q.f0 = true
    · rw [if_pos h1] at h
      by_cases h2 : Val q.f1
      · rw [if_pos h2] at h
        by_cases h3 : Fld2.seen prev q.f0 = true
        · rw [if_pos h3] at h; exact absurd h (by decide)
        · rw [if_neg h3] at h
          rw [List.mem_cons] at hp
          rcases hp with rfl | hp
          · exact ⟨h1, h2⟩
          · exact ih _ h p hp
      · rw [if_neg h2] at h; exact absurd h (by decide)
    · rw [if_neg h1] at h; exact absurd h (by decide)
theorem checkS_zero {l : List Pr} (h : checkS l = 0) : l.length ≤ 8 ∧ ∀ p ∈ l, nameS p.f0 = true ∧ Val p.f1 := by
  unfold checkS at h
  by_cases hl : l.length > 8
  · rw [if_pos hl] at h; exact absurd h (by decide)
  · rw [if_neg hl] at h; exact ⟨by omega, checkA_zero l [] h⟩
theorem text_l0 (l : List Pr) (hl : l.length ≤ 8) (hn : ∀ p ∈ l, p.f0.size ≤ 1000 ∧ p.f1 ≤ 9223372036854775807) (d : Nat) : ∀ n : Nat, n + d = l.length →
    To (fun k => fields_Text.l0 k ((l.take n).map pairT ++ List.replicate d ⟨#[]⟩) l (l.length : Int) (n : Int)) (joinS 44 (l.map pairT), 0) := by
  have hszs : sizes (l.map pairT) + (l.map pairT).length ≤ 1000000000 := by
    have := sizes_le (l := l.map pairT) (m := 1022) (by
      intro q hq
      rw [List.mem_map] at hq
      obtain ⟨p, hp, rfl⟩ := hq
      have := pairT_size p (hn p hp).2
      have := (hn p hp).1
      omega)
    rw [List.length_map] at this ⊢
    omega
  induction d with
  | zero =>
    intro n hd
    refine To.step ?_
    simp only [fields_Text.l0]
    rw [List.replicate_zero, List.append_nil, List.take_of_length_le (by omega)]
    exact To.neg (by omega) (To.bind (join_to 44 _ hszs) (To.ret _))
  | succ d ih =>
    intro n hd
    have hlt : n < l.length := by omega
    have hp := hn _ (List.getElem_mem hlt)
    have hts := textS_sz hp.2
    refine To.step ?_
    simp only [fields_Text.l0]
    rw [rdT_nat hlt, wrap_id (x := (n : Int) + 1) (by omega) (by omega), Int.toNat_natCast]
    have hlen : ((l.take n).map pairT ++ List.replicate (d + 1) (⟨#[]⟩ : ByteArray)).length = l.length := by rw [List.length_append, List.length_map, List.length_take, List.length_replicate]; omega
    have e1 : (⟨#[61]⟩ : ByteArray).size = 1 := rfl
    refine To.pos (by omega) (To.pos (by omega) (To.pos (by omega) (To.pos (by omega) (To.bind (text_to _ hp.2) (To.pos (by rw [ByteArray.size_append]; omega) (To.pos (by omega) ?_))))))
    have e : ((l.take n).map pairT ++ List.replicate (d + 1) (⟨#[]⟩ : ByteArray)).set n (pairT l[n]) = (l.take (n + 1)).map pairT ++ List.replicate d ⟨#[]⟩ := by
      have hk : ((l.take n).map pairT).length = n := by rw [List.length_map, List.length_take]; omega
      rw [List.set_append_right _ _ (by omega), hk, Nat.sub_self, List.replicate_succ, List.set_cons_zero, List.take_succ_eq_append_getElem hlt, List.map_append]
      simp
    have := ih (n + 1) (by omega)
    rw [← e] at this
    exact this
theorem textP_to (l : List Pr) (hn : ∀ p ∈ l, p.f0.size ≤ 1000 ∧ p.f1 ≤ 9223372036854775807) : To (fun k => fields_Text.f k l) (textP l) := by
  simp only [fields_Text.f]
  refine To.bind (check_to l (fun p hp => by have := (hn p hp).1; omega)) ?_
  unfold textP
  by_cases h : checkS l = 0
  · rw [if_pos h]
    have hl := (checkS_zero h).1
    refine To.pos h (To.pos (by omega) (To.pos (by rw [Int.toNat_natCast]; omega) ?_))
    rw [Int.toNat_natCast]
    exact text_l0 l hl hn l.length 0 (by omega)
  · rw [if_neg h]
    exact To.neg h (To.ret _)
theorem ref_text_l0 (l : List Pr) (hl : l.length ≤ 8) (hn : ∀ p ∈ l, p.f0.size ≤ 1000 ∧ p.f1 ≤ 9223372036854775807) (d : Nat) : ∀ n : Nat, n + d = l.length →
    To (fun k => pestleref41_Text.l0 k l ((l.take n).map pairT) (n : Int)) (joinS 44 (l.map pairT), 0) := by
  have hszs : sizes (l.map pairT) + (l.map pairT).length ≤ 1000000000 := by
    have := sizes_le (l := l.map pairT) (m := 1022) (by
      intro q hq
      rw [List.mem_map] at hq
      obtain ⟨p, hp, rfl⟩ := hq
      have := pairT_size p (hn p hp).2
      have := (hn p hp).1
      omega)
    rw [List.length_map] at this ⊢
    omega
  induction d with
  | zero =>
    intro n hd
    refine To.step ?_
    simp only [pestleref41_Text.l0]
    rw [List.take_of_length_le (by omega)]
    exact To.neg (by omega) (To.bind (ref_join_to ⟨#[44]⟩ 44 rfl _ hszs) (To.ret _))
  | succ d ih =>
    intro n hd
    have hlt : n < l.length := by omega
    have hp := hn _ (List.getElem_mem hlt)
    have hts := textS_sz hp.2
    refine To.step ?_
    simp only [pestleref41_Text.l0]
    rw [rdT_nat hlt, wrap_id (x := (n : Int) + 1) (by omega) (by omega)]
    have e1 : (⟨#[61]⟩ : ByteArray).size = 1 := rfl
    refine To.pos (by omega) (To.pos (by omega) (To.pos (by omega) (To.bind (ref_text_to _ hp.2) (To.pos (by rw [ByteArray.size_append]; omega) (To.pos (by rw [List.length_map, List.length_take]; omega) ?_)))))
    have := ih (n + 1) (by omega)
    rw [List.take_succ_eq_append_getElem hlt, List.map_append] at this
    exact this
theorem ref_textP_to (l : List Pr) (hn : ∀ p ∈ l, p.f0.size ≤ 1000 ∧ p.f1 ≤ 9223372036854775807) : To (fun k => pestleref41_Text.f k l) (textP l) := by
  simp only [pestleref41_Text.f]
  refine To.bind (ref_check_to l (fun p hp => by have := (hn p hp).1; omega)) ?_
  unfold textP
  by_cases h : checkS l = 0
  · rw [if_pos h]
    exact To.pos h (ref_text_l0 l (checkS_zero h).1 hn l.length 0 (by omega))
  · rw [if_neg h]
    exact To.neg h (To.ret _)

/-! ### back -/
theorem name_no {s : ByteArray} (h : nameS s = true) (c : UInt8) (hc : ¬ okc c) : c ∉ L s := by
  intro hm
  have := of_decide_eq_true h
  exact hc (this.1 c hm)
theorem digs_no (n : Nat) (c : UInt8) (hc : ¬ isDig c) : c ∉ textN n := fun hm => hc (textN_dig n c hm)
theorem L_pairT {p : Pr} (h : 0 ≤ p.f1) : L (pairT p) = L p.f0 ++ 61 :: textN p.f1.toNat := by
  unfold pairT
  rw [L_append, L_append, L_textS h]
  show L p.f0 ++ [61] ++ _ = _
  simp
theorem pairS_back {p : Pr} (hn : nameS p.f0 = true) (hv : Val p.f1) : pairS (pairT p) = (p.f0, p.f1, 0) := by
  have h0 := hv.1
  have h1 := hv.2
  have hparts : parts 61 (pairT p) = [p.f0, textS p.f1] := by
    have e : pairT p = joinS 61 [p.f0, textS p.f1] := by
      apply L_inj
      rw [L_pairT h0]
      unfold joinS joinB
      rw [L_mk]
      show _ = L p.f0 ++ 61 :: L (textS p.f1)
      rw [L_textS h0]
    rw [e, parts_join 61 _ (by simp)]
    intro q hq
    rw [List.mem_cons, List.mem_singleton] at hq
    rcases hq with rfl | rfl
    · exact name_no hn 61 (by decide)
    · rw [L_textS h0]; exact digs_no _ 61 (by decide)
  have hr : readS (textS p.f1) = (p.f1, 0) := by
    rw [read_text h0, numS_lo (by omega), Int.toNat_of_nonneg h0]
  rw [pair_two hparts, if_pos hn, hr, if_pos rfl]
theorem pairsA_back : ∀ (l acc : List Pr), (∀ p ∈ l, nameS p.f0 = true ∧ Val p.f1) → pairsA acc (l.map pairT) = pairsE (acc ++ l) := by
  intro l
  induction l with
  | nil => intro acc _; rw [List.map_nil, List.append_nil]; rfl
  | cons p l ih =>
    intro acc h
    obtain ⟨hn, hv⟩ := h p (by simp)
    rw [List.map_cons, pairsA, pairS_back hn hv, if_pos rfl, ih _ (fun q hq => h q (by simp [hq]))]
    simp
theorem pairs_back {l : List Pr} (h : checkS l = 0) (hne : l ≠ []) : pairsS (joinS 44 (l.map pairT)) = (l, 0) := by
  obtain ⟨_, hp⟩ := checkS_zero h
  unfold pairsS
  rw [parts_join 44 _ (by simp [hne]) ?_, pairsA_back l [] hp, List.nil_append]
  · unfold pairsE
    rw [if_pos h]
  · intro q hq
    rw [List.mem_map] at hq
    obtain ⟨p, hpm, rfl⟩ := hq
    obtain ⟨hn, hv⟩ := hp p hpm
    rw [L_pairT hv.1, List.mem_append, List.mem_cons]
    rintro (h1 | h1 | h1)
    · exact name_no hn 44 (by decide) h1
    · exact absurd h1 (by decide)
    · exact digs_no _ 44 (by decide) h1

/-! ### values -/
def valuesS (l : List Pr) (ns : List ByteArray) : List Int × Int := if l.map (·.f0) = ns then (l.map (·.f1), 0) else ([], 5)
theorem values_l0 (l : List Pr) (ns : List ByteArray) (hl : l.length ≤ 1000) (he : l.length = ns.length) (d : Nat) : ∀ n : Nat, n + d = l.length → (l.take n).map (·.f0) = ns.take n →
    To (fun k => fields_Values.l0 k ns ((l.take n).map (·.f1) ++ List.replicate d 0) l (l.length : Int) (n : Int)) (valuesS l ns) := by
  induction d with
  | zero =>
    intro n hd ht
    refine To.step ?_
    simp only [fields_Values.l0]
    rw [List.replicate_zero, List.append_nil, List.take_of_length_le (by omega)]
    refine To.neg (by omega) (To.ret' ?_)
    rw [List.take_of_length_le (by omega), List.take_of_length_le (by omega)] at ht
    unfold valuesS
    rw [if_pos ht]
  | succ d ih =>
    intro n hd ht
    have hlt : n < l.length := by omega
    have hlt' : n < ns.length := by omega
    have hlen : ((l.take n).map (·.f1) ++ List.replicate (d + 1) (0 : Int)).length = l.length := by rw [List.length_append, List.length_map, List.length_take, List.length_replicate]; omega
    refine To.step ?_
    simp only [fields_Values.l0]
    rw [rdT_nat hlt, rdOf_nat hlt', wrap_id (x := (n : Int) + 1) (by omega) (by omega), Int.toNat_natCast]
    refine To.pos (by omega) (To.pos (by omega) (To.pos (by omega) (To.pos (by omega) (To.ite (fun h => To.pos (by omega) ?_) (fun h => To.ret' ?_)))))
    · have e0 : l[n].f0 = ns[n] := L_inj (by rw [← toList_L, ← toList_L]; exact h)
      have e : ((l.take n).map (·.f1) ++ List.replicate (d + 1) (0 : Int)).set n l[n].f1 = (l.take (n + 1)).map (·.f1) ++ List.replicate d 0 := by
        have hk : ((l.take n).map (·.f1)).length = n := by rw [List.length_map, List.length_take]; omega
        rw [List.set_append_right _ _ (by omega), hk, Nat.sub_self, List.replicate_succ, List.set_cons_zero, List.take_succ_eq_append_getElem hlt, List.map_append]
        simp
      have := ih (n + 1) (by omega) (by rw [List.take_succ_eq_append_getElem hlt, List.take_succ_eq_append_getElem hlt', List.map_append, ht]; simp [e0])
      rw [← e] at this
      exact this
    · unfold valuesS
      rw [if_neg]
      intro e
      apply h
      have : l[n].f0 = ns[n] := by
        have h1 : (l.map (·.f0))[n]'(by rw [List.length_map]; exact hlt) = ns[n] := by simp only [e]
        rwa [List.getElem_map] at h1
      rw [this]
theorem values_to (l : List Pr) (ns : List ByteArray) (hl : l.length ≤ 1000) : To (fun k => fields_Values.f k l ns) (valuesS l ns) := by
  simp only [fields_Values.f]
  refine To.ite (fun h => To.pos (by omega) (To.pos (by rw [Int.toNat_natCast]; omega) ?_)) (fun h => To.ret' ?_)
  · rw [Int.toNat_natCast]
    exact values_l0 l ns hl (by omega) l.length 0 (by omega) (by simp)
  · unfold valuesS
    rw [if_neg]
    intro e
    have := congrArg List.length e
    rw [List.length_map] at this
    omega
end Go.Proofs.Ytoknoghdnedmhaa.Fld4
