/- A text cut at a byte, by the program's way and by the reference's. -/
import Derived.Test.YtoknoghdnedmhaaSpl
import Derived.Test.YtoknoghdnedmhaaPallx2
import Derived.Test.YtoknoghdnedmhaaPallx6
namespace Go.Proofs.Ytoknoghdnedmhaa.FldS
open Go.RowKit Go.Proofs.Ytoknoghdnedmhaa.Pall Go.Proofs.YtoknoghdnedmhaaW.PrintWords Go.Proofs.YtoknoghdnedmhaaW.PrintLast Go.Proofs.Ytoknoghdnedmhaa.Lib Go.Proofs.Ytoknoghdnedmhaa.Byt Go.Proofs.Ytoknoghdnedmhaa.Spl

theorem rdOf_nat {α : Type} {z : α} {l : List α} {n : Nat} (h : n < l.length) : rdOf z l (n : Int) = l[n] := by
  unfold rdOf
  simp [List.getD_eq_getElem?_getD, h]
def parts (c : UInt8) (s : ByteArray) : List ByteArray := (splitL c (L s)).map mkB
theorem split_l0 (c : UInt8) (s : ByteArray) (hs : s.size ≤ 1000000) (d : Nat) : ∀ (n from_ : Nat) (out : List ByteArray), n + d = (L s).length → from_ ≤ n → out.length ≤ n →
    To (fun k => fields_Split.l0 k s (c.toNat : Int) out (from_ : Int) (s.size : Int) (n : Int)) (out ++ (splitA c (((L s).drop from_).take (n - from_)) ((L s).drop n)).map mkB) := by
  rw [size_L] at hs
  have hsz : (s.size : Int) = ((L s).length : Int) := by rw [size_L]
  rw [hsz]
  induction d with
  | zero =>
    intro n from_ out hn hf ho
    obtain rfl : n = (L s).length := by omega
    refine To.step ?_
    simp only [fields_Split.l0]
    refine To.neg (by omega) (To.pos (by omega) (To.pos (by omega) (To.pos (by omega) (To.ret' ?_))))
    rw [List.drop_length, List.take_of_length_le (by rw [List.length_drop]; omega), splitA]
    congr 1
    simp only [List.map_cons, List.map_nil]
    congr 1
    apply L_inj
    rw [L_extract, L_mk, Int.toNat_natCast, size_L, List.take_of_length_le (by rw [List.length_drop]; omega)]
  | succ d ih =>
    intro n from_ out hn hf ho
    have hlt : n < (L s).length := by omega
    refine To.step ?_
    simp only [fields_Split.l0]
    rw [bt_nat hlt, hsz, wrap_id (x := (n : Int) + 1) (by omega) (by omega), drop_cons hlt]
    refine To.pos (by omega) (To.pos (by omega) (To.pos (by omega) ?_))
    by_cases hc : (L s)[n] = c
    · rw [splitA, if_pos hc]
      refine To.pos (by rw [hc]) (To.pos (by omega) (To.pos (by omega) (To.pos (by omega) (To.pos (by omega) ?_))))
      have := ih (n + 1) (n + 1) (out ++ [s.extract from_ n]) (by omega) (by omega) (by simp; omega)
      rw [Nat.sub_self, List.take_zero] at this
      refine this.eq ?_
      have e : s.extract from_ n = mkB (((L s).drop from_).take (n - from_)) := by
        apply L_inj
        rw [L_extract, L_mk]
      rw [e]
      simp
    · rw [splitA, if_neg hc]
      refine To.neg (fun e => hc (u8_eq e)) ?_
      have := ih (n + 1) from_ out (by omega) (by omega) (by omega)
      have e : ((L s).drop from_).take (n + 1 - from_) = ((L s).drop from_).take (n - from_) ++ [(L s)[n]] := by
        rw [show n + 1 - from_ = (n - from_) + 1 by omega, List.take_succ_eq_append_getElem (by rw [List.length_drop]; omega)]
        congr 2
        rw [List.getElem_drop]
        congr 1
        omega
      rw [e] at this
      exact this
theorem split_to (c : UInt8) (s : ByteArray) (hs : s.size ≤ 1000000) : To (fun k => fields_Split.f k s (c.toNat : Int)) (parts c s) := by
  simp only [fields_Split.f]
  have := split_l0 c s hs (L s).length 0 0 [] (by omega) (by omega) (by simp)
  exact this
theorem ref_split_l0 (c : UInt8) (s : ByteArray) (hs : s.size ≤ 1000000) (d : Nat) : ∀ (n : Nat) (part : ByteArray) (out : List ByteArray), n + d = (L s).length → part.size ≤ n → out.length ≤ n →
    To (fun k => pestleref41_Split.l0 k s (c.toNat : Int) out part (n : Int)) (out ++ (splitA c (L part) ((L s).drop n)).map mkB) := by
  rw [size_L] at hs
  have hsz : (s.size : Int) = ((L s).length : Int) := by rw [size_L]
  induction d with
  | zero =>
    intro n part out hn hf ho
    obtain rfl : n = (L s).length := by omega
    refine To.step ?_
    simp only [pestleref41_Split.l0]
    refine To.neg (by omega) (To.pos (by omega) (To.ret' ?_))
    rw [List.drop_length, splitA]
    simp [mk_L]
  | succ d ih =>
    intro n part out hn hf ho
    have hlt : n < (L s).length := by omega
    refine To.step ?_
    simp only [pestleref41_Split.l0]
    rw [bt_nat hlt, hsz, wrap_id (x := (n : Int) + 1) (by omega) (by omega), drop_cons hlt]
    refine To.pos (by omega) (To.pos (by omega) ?_)
    by_cases hc : (L s)[n] = c
    · rw [splitA, if_pos hc]
      refine To.pos (by rw [hc]) (To.pos (by omega) ?_)
      have := ih (n + 1) ⟨#[]⟩ (out ++ [part]) (by omega) (Nat.zero_le _) (by simp; omega)
      refine this.eq ?_
      simp [mk_L, L_nil]
    · rw [splitA, if_neg hc]
      have hex : L (s.extract n ((n : Int) + 1).toNat) = [(L s)[n]] := by
        rw [L_extract, show ((n : Int) + 1).toNat - n = 1 by omega, drop_cons hlt]
        rfl
      have hes : (s.extract n ((n : Int) + 1).toNat).size = 1 := by rw [size_L, hex]; rfl
      rw [Int.toNat_natCast]
      refine To.neg (fun e => hc (u8_eq e)) (To.pos (by omega) (To.pos (by omega) (To.pos (by omega) ?_)))
      have := ih (n + 1) (part ++ s.extract n ((n : Int) + 1).toNat) out (by omega) (by rw [ByteArray.size_append]; omega) (by omega)
      rw [L_append, hex] at this
      exact this
theorem ref_split_to (c : UInt8) (s : ByteArray) (hs : s.size ≤ 1000000) : To (fun k => pestleref41_Split.f k s (c.toNat : Int)) (parts c s) := by
  simp only [pestleref41_Split.f]
  exact ref_split_l0 c s hs (L s).length 0 ⟨#[]⟩ [] (by omega) (Nat.zero_le _) (by simp)

/-! ### names -/
theorem parts_size (c : UInt8) (s p : ByteArray) (h : p ∈ parts c s) : p.size ≤ s.size := by
  unfold parts at h
  rw [List.mem_map] at h
  obtain ⟨q, hq, rfl⟩ := h
  rw [size_L, size_L, L_mk]
  have : ∀ (l cur : List UInt8), ∀ q ∈ splitA c cur l, q.length ≤ cur.length + l.length := by
    intro l
    induction l with
    | nil => intro cur q hq; simp only [splitA, List.mem_singleton] at hq; subst hq; simp
    | cons x l ih =>
      intro cur q hq
      simp only [splitA] at hq
      split at hq
      · rw [List.mem_cons] at hq
        rcases hq with rfl | hq
        · simp only [List.length_cons]; omega
        · have := ih [] q hq; simp only [List.length_cons, List.length_nil] at this ⊢; omega
      · have := ih _ q hq; simp only [List.length_append, List.length_cons, List.length_nil] at this ⊢; omega
  have := this (L s) [] q hq
  simpa using this
theorem parts_len (c : UInt8) (s : ByteArray) : (parts c s).length ≤ s.size + 1 := by
  unfold parts
  rw [List.length_map, size_L]
  exact split_len c [] (L s)
theorem two_parts {l : List ByteArray} (h : l.length = 2) : ∃ a b, l = [a, b] := by
  match l, h with
  | [a, b], _ => exact ⟨a, b, rfl⟩
end Go.Proofs.Ytoknoghdnedmhaa.FldS
