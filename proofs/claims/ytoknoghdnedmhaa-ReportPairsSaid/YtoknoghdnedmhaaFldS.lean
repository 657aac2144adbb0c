/- A text cut at a byte, by the program's way and by the reference's. -/
import Derived.Test.YtoknoghdnedmhaaSpl
import Derived.Test.YtoknoghdnedmhaaPallx0

namespace Go.Proofs.Ytoknoghdnedmhaa.FldS
open Go.RowKit Go.Proofs.Ytoknoghdnedmhaa.Pall Go.Proofs.YtoknoghdnedmhaaW.PrintWords Go.Proofs.YtoknoghdnedmhaaW.PrintLast Go.Proofs.Ytoknoghdnedmhaa.Lib Go.Proofs.Ytoknoghdnedmhaa.Byt Go.Proofs.Ytoknoghdnedmhaa.Spl

theorem rdOf_nat {α : Type} {z : α} {l : List α} {n : Nat} (h : n < l.length) : rdOf z l (n : Int) = l[n] := by
  unfold rdOf
  simp [List.getD_eq_getElem?_getD, h]
def parts (c : UInt8) (s : ByteArray) : List ByteArray := (splitL c (L s)).map mkB
/-! ### names -/
theorem parts_size (c : UInt8) (s p : ByteArray) (h : p ∈ parts c s) : p.size ≤ s.size := by
  unfold parts at h
  rw [List.mem_map] at h
  obtain ⟨q, hq, rfl⟩ := h
  rw [size_L, size_L, L_mk]
  have : ∀ (l cur : List UInt8), ∀ q ∈ splitA c cur l, q.length ≤ cur.length + l.length := by
    intro l
    induction l with
    | nil => intro cur q hq; simp only [splitA, List.mem_singleton] at hq; subst hq; simp
    | cons x l ih =>
      intro cur q hq
      simp only [splitA] at hq
      split at hq
      · rw [List.mem_cons] at hq
        rcases hq with rfl | hq
        · simp only [List.length_cons]; omega
        · have := ih [] q hq; simp only [List.length_cons, List.length_nil] at this ⊢; omega
      · have := ih _ q hq; simp only [List.length_append, List.length_cons, List.length_nil] at this ⊢; omega
  have := this (L s) [] q hq
  simpa using this
theorem parts_len (c : UInt8) (s : ByteArray) : (parts c s).length ≤ s.size + 1 := by
  unfold parts
  rw [List.length_map, size_L]
  exact split_len c [] (L s)
theorem two_parts {l : List ByteArray} (h : l.length = 2) : ∃ a b, l = [a, b] := by
  match l, h with
  | [a, b], _ => exact ⟨a, b, rfl⟩
end Go.Proofs.Ytoknoghdnedmhaa.FldS
