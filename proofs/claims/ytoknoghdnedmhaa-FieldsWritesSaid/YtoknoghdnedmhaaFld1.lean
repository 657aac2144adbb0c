/- What the functions of fields, and of their reference, answer: parts, names, pairs. -/
import Derived.Test.YtoknoghdnedmhaaDec3
import Derived.Test.YtoknoghdnedmhaaSpl
import Derived.Test.YtoknoghdnedmhaaPallx3
import Derived.Test.YtoknoghdnedmhaaPallx4
import Derived.Test.YtoknoghdnedmhaaPallx5
import Derived.Test.YtoknoghdnedmhaaPallx6
namespace Go.Proofs.Ytoknoghdnedmhaa.Fld1
open Go.RowKit Go.Proofs.Ytoknoghdnedmhaa.Pall Go.Proofs.YtoknoghdnedmhaaW.PrintWords Go.Proofs.YtoknoghdnedmhaaW.PrintLast Go.Proofs.Ytoknoghdnedmhaa.Lib Go.Proofs.Ytoknoghdnedmhaa.Byt Go.Proofs.Ytoknoghdnedmhaa.Dec1 Go.Proofs.Ytoknoghdnedmhaa.Dec2 Go.Proofs.Ytoknoghdnedmhaa.Dec3 Go.Proofs.Ytoknoghdnedmhaa.Spl

theorem rdOf_nat {α : Type} {z : α} {l : List α} {n : Nat} (h : n < l.length) : rdOf z l (n : Int) = l[n] := by
  unfold rdOf
  simp [List.getD_eq_getElem?_getD, h]
def parts (c : UInt8) (s : ByteArray) : List ByteArray := (splitL c (L s)).map mkB
theorem split_l0 (c : UInt8) (s : ByteArray) (hs : s.size ≤ 1000000) (d : Nat) : ∀ (n from_ : Nat) (out : List ByteArray), n + d = (L s).length → from_ ≤ n → out.length ≤ n →
    To (fun k => fields_Split.l0 k s (c.toNat : Int) out (from_ : Int) (s.size : Int) (n : Int)) (out ++ (splitA c (((L s).drop from_).take (n - from_)) ((L s).drop n)).map mkB) := by
  rw [size_L] at hs
  have hsz : (s.size : Int) = ((L s).length : Int) := by rw [size_L]
  rw [hsz]
  induction d with
  | zero =>
    intro n from_ out hn hf ho
    obtain rfl : n = (L s).length := by omega
    refine To.step ?_
    simp only [fields_Split.l0]
    refine To.neg (by omega) (To.pos (by omega) (To.pos (by omega) (To.pos (by omega) (To.ret' ?_))))
    rw [List.drop_length, List.take_of_length_le (by rw [List.length_drop]; omega), splitA]
    congr 1
    simp only [List.map_cons, List.map_nil]
    congr 1
    apply L_inj
    rw [L_extract, L_mk, Int.toNat_natCast, size_L, List.take_of_length_le (by rw [List.length_drop]; omega)]
  | succ d ih =>
    intro n from_ out hn hf ho
    have hlt : n < (L s).length := by omega
    refine To.step ?_
    simp only [fields_Split.l0]
    rw [bt_nat hlt, hsz, wrap_id (x := (n : Int) + 1) (by omega) (by omega), drop_cons hlt]
    refine To.pos (by omega) (To.pos (by omega) (To.pos (by omega) ?_))
    by_cases hc : (L s)[n] = c
    · rw [splitA, if_pos hc]
      refine To.pos (by rw [hc]) (To.pos (by omega) (To.pos (by omega) (To.pos (by omega) (To.pos (by omega) ?_))))
      have := ih (n + 1) (n + 1) (out ++ [s.extract from_ n]) (by omega) (by omega) (by simp; omega)
      rw [Nat.sub_self, List.take_zero] at this
      refine this.eq ?_
      have e : s.extract from_ n = mkB (((L s).drop from_).take (n - from_)) := by
        apply L_inj
        rw [L_extract, L_mk]
      rw [e]
      simp
    · rw [splitA, if_neg hc]
      refine To.neg (fun e => hc (u8_eq e)) ?_
      have := ih (n + 1) from_ out (by omega) (by omega) (by omega)
      have e : ((L s).drop from_).take (n + 1 - from_) = ((L s).drop from_).take (n - from_) ++ [(L s)[n]] := by
        rw [show n + 1 - from_ = (n - from_) + 1 by omega, List.take_succ_eq_append_getElem (by rw [List.length_drop]; omega)]
        congr 2
        rw [List.getElem_drop]
        congr 1
        omega
      rw [e] at this
      exact this
theorem split_to (c : UInt8) (s : ByteArray) (hs : s.size ≤ 1000000) : To (fun k => fields_Split.f k s (c.toNat : Int)) (parts c s) := by
  simp only [fields_Split.f]
  have := split_l0 c s hs (L s).length 0 0 [] (by omega) (by omega) (by simp)
  exact this
theorem ref_split_l0 (c : UInt8) (s : ByteArray) (hs : s.size ≤ 1000000) (d : Nat) : ∀ (n : Nat) (part : ByteArray) (out : List ByteArray), n + d = (L s).length → part.size ≤ n → out.length ≤ n →
    To (fun k => pestleref41_Split.l0 k s (c.toNat : Int) out part (n : Int)) (out ++ (splitA c (L part) ((L s).drop n)).map mkB) := by
  rw [size_L] at hs
  have hsz : (s.size : Int) = ((L s).length : Int) := by rw [size_L]
  induction d with
  | zero =>
    intro n part out hn hf ho
    obtain rfl : n = (L s).length := by omega
    refine To.step ?_
    simp only [pestleref41_Split.l0]
    refine To.neg (by omega) (To.pos (by omega) (To.ret' ?_))
    rw [List.drop_length, splitA]
    simp [mk_L]
  | succ d ih =>
    intro n part out hn hf ho
    have hlt : n < (L s).length := by omega
    refine To.step ?_
    simp only [pestleref41_Split.l0]
    rw [bt_nat hlt, hsz, wrap_id (x := (n : Int) + 1) (by omega) (by omega), drop_cons hlt]
    refine To.pos (by omega) (To.pos (by omega) ?_)
    by_cases hc : (L s)[n] = c
    · rw [splitA, if_pos hc]
      refine To.pos (by rw [hc]) (To.pos (by omega) ?_)
      have := ih (n + 1) ⟨#[]⟩ (out ++ [part]) (by omega) (Nat.zero_le _) (by simp; omega)
      refine this.eq ?_
      simp [mk_L, L_nil]
    · rw [splitA, if_neg hc]
      have hex : L (s.extract n ((n : Int) + 1).toNat) = [(L s)[n]] := by
        rw [L_extract, show ((n : Int) + 1).toNat - n = 1 by omega, drop_cons hlt]
        rfl
      have hes : (s.extract n ((n : Int) + 1).toNat).size = 1 := by rw [size_L, hex]; rfl
      rw [Int.toNat_natCast]
      refine To.neg (fun e => hc (u8_eq e)) (To.pos (by omega) (To.pos (by omega) (To.pos (by omega) ?_)))
      have := ih (n + 1) (part ++ s.extract n ((n : Int) + 1).toNat) out (by omega) (by rw [ByteArray.size_append]; omega) (by omega)
      rw [L_append, hex] at this
      exact this
theorem ref_split_to (c : UInt8) (s : ByteArray) (hs : s.size ≤ 1000000) : To (fun k => pestleref41_Split.f k s (c.toNat : Int)) (parts c s) := by
  simp only [pestleref41_Split.f]
  exact ref_split_l0 c s hs (L s).length 0 ⟨#[]⟩ [] (by omega) (Nat.zero_le _) (by simp)

/-! ### names -/
def okc (c : UInt8) : Prop := (97 ≤ c.toNat ∧ c.toNat ≤ 122) ∨ (48 ≤ c.toNat ∧ c.toNat ≤ 57) ∨ c.toNat = 45
instance (c : UInt8) : Decidable (okc c) := inferInstanceAs (Decidable (_ ∨ _ ∨ _))
def nameL (l : List UInt8) : Bool := decide ((∀ c ∈ l, okc c) ∧ l ≠ [] ∧ l.length ≤ 32)
def nameS (s : ByteArray) : Bool := nameL (L s)
theorem name_l0 (s : ByteArray) (hs : s.size ≤ 1000000) (d : Nat) : ∀ n : Nat, n + d = (L s).length →
    To (fun k => fields_Name.l0 k s (s.size : Int) (n : Int)) (decide ((∀ c ∈ (L s).drop n, okc c) ∧ L s ≠ [] ∧ (L s).length ≤ 32)) := by
  rw [size_L] at hs
  have hsz : (s.size : Int) = ((L s).length : Int) := by rw [size_L]
  rw [hsz]
  induction d with
  | zero =>
    intro n hn
    refine To.step ?_
    simp only [fields_Name.l0]
    rw [toList_L, hsz, List.drop_of_length_le (by omega)]
    refine To.neg (by omega) (To.ite (fun h => To.ret' ?_) (fun h => To.ret' ?_))
    · symm; rw [decide_eq_false_iff_not]; rintro ⟨_, h', _⟩; exact h' h
    · rw [decide_eq_decide]
      exact ⟨fun h' => ⟨by simp, h, by omega⟩, fun h' => by omega⟩
  | succ d ih =>
    intro n hn
    have hlt : n < (L s).length := by omega
    have hih := ih (n + 1) (by omega)
    have hd : (∀ c ∈ (L s).drop n, okc c) ↔ okc (L s)[n] ∧ ∀ c ∈ (L s).drop (n + 1), okc c := by
      rw [drop_cons hlt]; simp only [List.mem_cons, forall_eq_or_imp]
    have good : okc (L s)[n] → To (fun k => fields_Name.l0 k s ((L s).length : Int) ((n : Int) + 1)) (decide ((∀ c ∈ (L s).drop n, okc c) ∧ L s ≠ [] ∧ (L s).length ≤ 32)) := by
      intro h
      refine hih.eq ?_
      rw [decide_eq_decide, hd]
      exact ⟨fun h' => ⟨⟨h, h'.1⟩, h'.2⟩, fun h' => ⟨h'.1.2, h'.2⟩⟩
    have bad : ¬ okc (L s)[n] → To (fun _ => some false) (decide ((∀ c ∈ (L s).drop n, okc c) ∧ L s ≠ [] ∧ (L s).length ≤ 32)) := by
      intro h
      refine To.ret' ?_
      symm
      rw [decide_eq_false_iff_not, hd]
      exact fun h' => h h'.1.1
    refine To.step ?_
    simp only [fields_Name.l0]
    rw [bt_nat hlt, hsz, wrap_id (x := (n : Int) + 1) (by omega) (by omega)]
    unfold okc at good bad
    refine To.pos (by omega) (To.pos (by omega) (To.pos (by omega) (To.ite (fun h1 => To.ite (fun h2 => To.ite (fun h3 => good (by omega)) (fun h3 => bad (by omega))) (fun h2 => To.ite (fun h3 => To.ite (fun h4 => good (by omega)) (fun h4 => bad (by omega))) (fun h3 => good (by omega)))) (fun h1 => To.ite (fun h2 => To.ite (fun h3 => To.ite (fun h4 => good (by omega)) (fun h4 => bad (by omega))) (fun h3 => To.ite (fun h4 => To.ite (fun h5 => good (by omega)) (fun h5 => bad (by omega))) (fun h4 => good (by omega)))) (fun h2 => good (by omega))))))
theorem name_to (s : ByteArray) (hs : s.size ≤ 1000000) : To (fun k => fields_Name.f k s) (nameS s) := by
  simp only [fields_Name.f]
  exact name_l0 s hs (L s).length 0 (by omega)
def lets : ByteArray := ⟨#[97, 98, 99, 100, 101, 102, 103, 104, 105, 106, 107, 108, 109, 110, 111, 112, 113, 114, 115, 116, 117, 118, 119, 120, 121, 122, 48, 49, 50, 51, 52, 53, 54, 55, 56, 57, 45]⟩
theorem lets_len : (L lets).length = 37 := rfl
theorem lets_ok (c : UInt8) : c ∈ L lets ↔ okc c := by
  have : ∀ n : Fin 256, (UInt8.ofNat n.1) ∈ L lets ↔ okc (UInt8.ofNat n.1) := by decide +kernel
  have h := this ⟨c.toNat, c.toNat_lt⟩
  rwa [UInt8.ofNat_toNat] at h
theorem ref_name_l1 (s : ByteArray) (n : Nat) (hlt : n < (L s).length) (hs : s.size ≤ 1000000) (r : Bool) (good : okc (L s)[n] → To (fun k => pestleref41_Name.l0 k s lets ((n : Int) + 1)) r) (bad : ¬ okc (L s)[n] → r = false) (d : Nat) :
    ∀ (m : Nat) (f : Bool), m + d = 37 → f = decide ((L s)[n] ∈ (L lets).take m) → To (fun k => pestleref41_Name.l1 k s lets (n : Int) f (m : Int)) r := by
  rw [size_L] at hs
  have hsz : (s.size : Int) = ((L s).length : Int) := by rw [size_L]
  have hlz : (lets.size : Int) = 37 := rfl
  induction d with
  | zero =>
    intro m f hm hf
    obtain rfl : m = 37 := by omega
    refine To.step ?_
    simp only [pestleref41_Name.l1]
    rw [hlz, wrap_id (x := (n : Int) + 1) (by omega) (by omega)]
    rw [List.take_of_length_le (by rw [lets_len]; omega)] at hf
    refine To.neg (by omega) (To.ite (fun h => good ?_) (fun h => To.ret' ?_))
    · rw [h] at hf; exact (lets_ok _).1 (of_decide_eq_true hf.symm)
    · rw [bad]
      intro hk
      exact h (hf.trans (decide_eq_true ((lets_ok _).2 hk)))
  | succ d ih =>
    intro m f hm hf
    have hml : m < (L lets).length := by rw [lets_len]; omega
    refine To.step ?_
    simp only [pestleref41_Name.l1]
    rw [hlz, hsz, bt_nat hml, bt_nat hlt, wrap_id (x := (m : Int) + 1) (by omega) (by omega)]
    refine To.pos (by omega) (To.ite (fun h => ?_) (fun h => To.pos (by omega) (To.pos (by omega) (To.pos (by omega) ?_))))
    · refine ih (m + 1) true (by omega) ?_
      rw [h] at hf
      have := of_decide_eq_true hf.symm
      symm
      rw [decide_eq_true_iff, List.take_succ_eq_append_getElem hml, List.mem_append]
      exact Or.inl this
    · refine ih (m + 1) _ (by omega) ?_
      have hnm : ¬ (L s)[n] ∈ (L lets).take m := fun hk => h (hf.trans (decide_eq_true hk))
      rw [List.take_succ_eq_append_getElem hml, Bool.eq_iff_iff, beq_iff_eq, decide_eq_true_iff, List.mem_append, List.mem_singleton]
      exact ⟨fun e => Or.inr (u8_eq e).symm, fun e => e.elim (fun e => absurd e hnm) (fun e => by rw [e])⟩
theorem ref_name_l0 (s : ByteArray) (hs : s.size ≤ 1000000) (d : Nat) : ∀ n : Nat, n + d = (L s).length →
    To (fun k => pestleref41_Name.l0 k s lets (n : Int)) (decide ((∀ c ∈ (L s).drop n, okc c) ∧ L s ≠ [] ∧ (L s).length ≤ 32)) := by
  have hsz : (s.size : Int) = ((L s).length : Int) := by rw [size_L]
  induction d with
  | zero =>
    intro n hn
    refine To.step ?_
    simp only [pestleref41_Name.l0]
    rw [hsz, List.drop_of_length_le (by omega)]
    refine To.neg (by omega) (To.ite (fun h => To.ret' ?_) (fun h => To.ret' ?_))
    · rw [decide_eq_decide]
      exact ⟨fun h' => ⟨by simp, fun e => by rw [e] at h; simp at h, by omega⟩, fun h' => by omega⟩
    · symm; rw [decide_eq_false_iff_not]; rintro ⟨_, h', _⟩
      exact h' (List.length_eq_zero_iff.1 (by omega))
  | succ d ih =>
    intro n hn
    have hlt : n < (L s).length := by omega
    have hd : (∀ c ∈ (L s).drop n, okc c) ↔ okc (L s)[n] ∧ ∀ c ∈ (L s).drop (n + 1), okc c := by
      rw [drop_cons hlt]; simp only [List.mem_cons, forall_eq_or_imp]
    refine To.step ?_
    simp only [pestleref41_Name.l0]
    rw [hsz]
    refine To.pos (by omega) (ref_name_l1 s n hlt hs _ ?_ ?_ 37 0 false (by omega) (by simp))
    · intro h
      refine (ih (n + 1) (by omega)).eq ?_
      rw [decide_eq_decide, hd]
      exact ⟨fun h' => ⟨⟨h, h'.1⟩, h'.2⟩, fun h' => ⟨h'.1.2, h'.2⟩⟩
    · intro h
      rw [decide_eq_false_iff_not, hd]
      exact fun h' => h h'.1.1
theorem ref_name_to (s : ByteArray) (hs : s.size ≤ 1000000) : To (fun k => pestleref41_Name.f k s) (nameS s) := by
  simp only [pestleref41_Name.f]
  exact ref_name_l0 s hs (L s).length 0 (by omega)

/-! ### a pair -/
def pairS (s : ByteArray) : ByteArray × Int × Int := match parts 61 s with
  | [a, b] => if nameS a = true then (if (readS b).2 = 0 then (a, (readS b).1, 0) else (⟨#[]⟩, 0, (readS b).2)) else (⟨#[]⟩, 0, 6)
  | _ => (⟨#[]⟩, 0, 5)
theorem parts_size (c : UInt8) (s p : ByteArray) (h : p ∈ parts c s) : p.size ≤ s.size := by
  unfold parts at h
  rw [List.mem_map] at h
  obtain ⟨q, hq, rfl⟩ := h
  rw [size_L, size_L, L_mk]
  have : ∀ (l cur : List UInt8), ∀ q ∈ splitA c cur l, q.length ≤ cur.length + l.length := by
    intro l
    induction l with
    | nil => intro cur q hq; simp only [splitA, List.mem_singleton] at hq; subst hq; simp
    | cons x l ih =>
      intro cur q hq
      simp only [splitA] at hq
      split at hq
      · rw [List.mem_cons] at hq
        rcases hq with rfl | hq
        · simp only [List.length_cons]; omega
        · have := ih [] q hq; simp only [List.length_cons, List.length_nil] at this ⊢; omega
      · have := ih _ q hq; simp only [List.length_append, List.length_cons, List.length_nil] at this ⊢; omega
  have := this (L s) [] q hq
  simpa using this
theorem parts_len (c : UInt8) (s : ByteArray) : (parts c s).length ≤ s.size + 1 := by
  unfold parts
  rw [List.length_map, size_L]
  exact split_len c [] (L s)
theorem pair_two {s a b : ByteArray} (h : parts 61 s = [a, b]) : pairS s = if nameS a = true then (if (readS b).2 = 0 then (a, (readS b).1, 0) else (⟨#[]⟩, 0, (readS b).2)) else (⟨#[]⟩, 0, 6) := by
  unfold pairS; rw [h]
theorem pair_not {s : ByteArray} (h : (parts 61 s).length ≠ 2) : pairS s = (⟨#[]⟩, 0, 5) := by
  unfold pairS
  match e : parts 61 s, h with
  | [], _ => rfl
  | [_], _ => rfl
  | [_, _], h => exact absurd rfl h
  | _ :: _ :: _ :: _, _ => rfl
theorem two_parts {l : List ByteArray} (h : l.length = 2) : ∃ a b, l = [a, b] := by
  match l, h with
  | [a, b], _ => exact ⟨a, b, rfl⟩
theorem pair_to (s : ByteArray) (hs : s.size ≤ 1000000) : To (fun k => fields_Pair.f k s) (pairS s) := by
  simp only [fields_Pair.f]
  refine To.bind (split_to 61 s hs) ?_
  refine To.ite (fun h => ?_) (fun h => ?_)
  · obtain ⟨a, b, e⟩ := two_parts (l := parts 61 s) (by omega)
    have ha := parts_size 61 s a (by rw [e]; simp)
    have hb := parts_size 61 s b (by rw [e]; simp)
    rw [pair_two e, e]
    have r0 : rdOf ByteArray.empty [a, b] 0 = a := rfl
    have r1 : rdOf ByteArray.empty [a, b] 1 = b := rfl
    rw [r0, r1]
    refine To.pos (by simp) (To.bind (name_to a (by omega)) (To.ite (fun h1 => To.pos (by simp) (To.bind (read_to b (by omega)) ?_)) (fun h1 => ?_)))
    · rw [if_pos h1]
      by_cases h2 : (readS b).2 = 0
      · refine To.pos h2 ?_
        rw [if_pos h2]; exact To.ret _
      · refine To.neg h2 ?_
        rw [if_neg h2]; exact To.ret _
    · rw [if_neg h1]; exact To.ret _
  · rw [pair_not (by omega)]; exact To.ret _
theorem ref_pair_to (s : ByteArray) (hs : s.size ≤ 1000000) : To (fun k => pestleref41_Pair.f k s) (pairS s) := by
  simp only [pestleref41_Pair.f]
  refine To.bind (ref_split_to 61 s hs) ?_
  refine To.ite (fun h => ?_) (fun h => ?_)
  · obtain ⟨a, b, e⟩ := two_parts (l := parts 61 s) (by omega)
    have ha := parts_size 61 s a (by rw [e]; simp)
    have hb := parts_size 61 s b (by rw [e]; simp)
    rw [pair_two e, e]
    have r0 : rdOf ByteArray.empty [a, b] 0 = a := rfl
    have r1 : rdOf ByteArray.empty [a, b] 1 = b := rfl
    rw [r0, r1]
    refine To.pos (by simp) (To.bind (ref_name_to a (by omega)) (To.ite (fun h1 => To.pos (by simp) (To.bind (ref_read_to b (by omega)) ?_)) (fun h1 => ?_)))
    · rw [if_pos h1]
      by_cases h2 : (readS b).2 = 0
      · refine To.pos h2 ?_
        rw [if_pos h2]; exact To.ret _
      · refine To.neg h2 ?_
        rw [if_neg h2]; exact To.ret _
    · rw [if_neg h1]; exact To.ret _
  · rw [pair_not (by omega)]; exact To.ret _
end Go.Proofs.Ytoknoghdnedmhaa.Fld1
