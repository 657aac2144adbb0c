/- Lists of bytes cut at a byte, and joined by one. -/
import Derived.Test.YtoknoghdnedmhaaByt
namespace Go.Proofs.Ytoknoghdnedmhaa.Spl
open Go.RowKit Go.Proofs.YtoknoghdnedmhaaW.PrintWords Go.Proofs.YtoknoghdnedmhaaW.PrintLast Go.Proofs.Ytoknoghdnedmhaa.Lib Go.Proofs.Ytoknoghdnedmhaa.Byt

def splitA (by_ : UInt8) : List UInt8 → List UInt8 → List (List UInt8)
  | cur, [] => [cur]
  | cur, c :: l => if c = by_ then cur :: splitA by_ [] l else splitA by_ (cur ++ [c]) l
def splitL (by_ : UInt8) (l : List UInt8) : List (List UInt8) := splitA by_ [] l
def joinL (by_ : UInt8) : List (List UInt8) → List UInt8
  | [] => []
  | [p] => p
  | p :: q :: ps => p ++ by_ :: joinL by_ (q :: ps)
theorem joinL_cons (by_ : UInt8) (p : List UInt8) {ps : List (List UInt8)} (h : ps ≠ []) : joinL by_ (p :: ps) = p ++ by_ :: joinL by_ ps := by
  cases ps with
  | nil => exact absurd rfl h
  | cons q ps => rfl
theorem splitA_ne (by_ : UInt8) (cur l : List UInt8) : splitA by_ cur l ≠ [] := by
  induction l generalizing cur with
  | nil => simp [splitA]
  | cons c l ih =>
    simp only [splitA]
    split
    · simp
    · exact ih _
theorem join_split (by_ : UInt8) (cur l : List UInt8) : joinL by_ (splitA by_ cur l) = cur ++ l := by
  induction l generalizing cur with
  | nil => simp [splitA, joinL]
  | cons c l ih =>
    simp only [splitA]
    split
    · rename_i h
      rw [joinL_cons _ _ (splitA_ne _ _ _), ih, h, List.nil_append]
    · rw [ih]; simp
theorem split_plain (by_ : UInt8) (cur p l : List UInt8) (h : by_ ∉ p) : splitA by_ cur (p ++ l) = splitA by_ (cur ++ p) l := by
  induction p generalizing cur with
  | nil => simp
  | cons c p ih =>
    rw [List.mem_cons, not_or] at h
    rw [List.cons_append, splitA, if_neg (fun e => h.1 e.symm), ih _ h.2]
    simp
theorem split_join (by_ : UInt8) (ps : List (List UInt8)) (hne : ps ≠ []) (h : ∀ p ∈ ps, by_ ∉ p) : splitL by_ (joinL by_ ps) = ps := by
  unfold splitL
  induction ps with
  | nil => exact absurd rfl hne
  | cons p ps ih =>
    by_cases hp : ps = []
    · subst hp
      have := split_plain by_ [] p [] (h p (by simp))
      rw [List.append_nil] at this
      show splitA by_ [] p = _
      rw [this]
      rfl
    · rw [joinL_cons _ _ hp, split_plain _ _ _ _ (h p (by simp)), splitA, if_pos rfl, ih hp (fun q hq => h q (by simp [hq])), List.nil_append]
theorem split_none (by_ : UInt8) (cur l : List UInt8) (hc : by_ ∉ cur) : ∀ p ∈ splitA by_ cur l, by_ ∉ p := by
  induction l generalizing cur with
  | nil => simp only [splitA, List.mem_singleton]; rintro p rfl; exact hc
  | cons c l ih =>
    simp only [splitA]
    split
    · intro p hp
      rw [List.mem_cons] at hp
      rcases hp with rfl | hp
      · exact hc
      · exact ih [] (by simp) p hp
    · rename_i hne
      refine ih _ ?_
      rw [List.mem_append, List.mem_singleton]
      rintro (h | h)
      · exact hc h
      · exact hne h.symm
theorem split_len (by_ : UInt8) (cur l : List UInt8) : (splitA by_ cur l).length ≤ l.length + 1 := by
  induction l generalizing cur with
  | nil => simp [splitA]
  | cons c l ih =>
    simp only [splitA]
    split
    · have := ih []; simp only [List.length_cons]; omega
    · have := ih (cur ++ [c]); simp only [List.length_cons]; omega
end Go.Proofs.Ytoknoghdnedmhaa.Spl
