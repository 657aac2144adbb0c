/- For every list and every text: picks are written, and texts are read, as the document says, and what is written is read.
   Conditions: list and text are such as Go can hold in memory (as the row says); nothing else. -/
import Derived.Test.YtfehkfjfmjnjnaaPicks1
import Derived.Test.YtfehkfjfmjnjnaaPallx11
namespace Go.Proofs.Ytfehkfjfmjnjnaa.Pure
open Go.RowKit Go.Proofs.Ytfehkfjfmjnjnaa.Pall Go.Proofs.YtfehkfjfmjnjnaaW.PrintWords Go.Proofs.YtfehkfjfmjnjnaaW.PrintLast Go.Proofs.Ytfehkfjfmjnjnaa.Lib Go.Proofs.Ytfehkfjfmjnjnaa.Byt Go.Proofs.Ytfehkfjfmjnjnaa.Dec1 Go.Proofs.Ytfehkfjfmjnjnaa.Dec2 Go.Proofs.Ytfehkfjfmjnjnaa.Dec3 Go.Proofs.Ytfehkfjfmjnjnaa.Dec4 Go.Proofs.Ytfehkfjfmjnjnaa.Spl Go.Proofs.Ytfehkfjfmjnjnaa.Picks1

theorem listA_size (b : ByteArray) (hb : b.size ≤ 1) (l : List Int) (hw : ∀ x ∈ l, x ≤ 9223372036854775807) : ∀ (first : Bool) (out : ByteArray), (listA b first out l).size ≤ out.size + l.length * 22 := by
  induction l with
  | nil => intro first out; simp [listA]
  | cons n l ih =>
    intro first out
    have hi := item_size (hw n (by simp))
    have := ih (fun x hx => hw x (by simp [hx])) false ((if first then out else out ++ b) ++ item n)
    rw [listA_cons]
    have hs : ((if first then out else out ++ b) ++ item n).size ≤ out.size + 1 + 21 := by
      rw [ByteArray.size_append]
      cases first
      · rw [if_neg (by decide), ByteArray.size_append]; omega
      · rw [if_pos rfl]; omega
    simp only [List.length_cons]
    omega
theorem read_end (s : ByteArray) (hs : s.size ≤ 1000) :
    To (fun k => if (picksS s).2 = 0 then ((picks_Text.f k (picksS s).1).bind fun b => (if b.2 = 0 then (some (b.1.toList == s.toList)) else (some false))) else (some true)) true := by
  refine To.ite (fun h => ?_) (fun h => To.ret _)
  have ho := picks_only h
  have hn : ∀ x ∈ (picksS s).1, Num x := by
    rcases textsS_cases (picksS s).1 with ⟨a, _⟩ | e
    · exact a
    · rw [e] at ho
      have := congrArg Prod.snd ho
      exact absurd this (by show (1 : Int) ≠ 0; decide)
  have hlen : (picksS s).1.length ≤ 1048576 := by
    unfold picksS
    by_cases h0 : L s = []
    · rw [if_pos h0]; simp
    · rw [if_neg h0]
      have a := readAll_len [] (splitL 32 (L s))
      have b := split_len 32 [] (L s)
      rw [size_L] at hs
      unfold splitL at a ⊢
      simp only [List.length_nil] at a
      omega
  refine To.bind (Picks1.text_to _ hlen (fun x hx => by have := (hn x hx).2; omega)) ?_
  rw [ho]
  exact To.pos rfl (To.ret' (by simp))
theorem picks_len (s : ByteArray) (hs : s.size ≤ 1000000) : (picksS s).1.length ≤ 1000000000 := by
  unfold picksS
  by_cases h0 : L s = []
  · rw [if_pos h0]; simp
  · rw [if_neg h0]
    have a := readAll_len [] (splitL 32 (L s))
    have b := split_len 32 [] (L s)
    rw [size_L] at hs
    unfold splitL at a ⊢
    simp only [List.length_nil] at a
    omega
theorem PicksCodes : pestlelaw36_PicksCodes.Pure := by
  intro l s _ _ hw _
  have hw' : ∀ x ∈ l, x ≤ 9223372036854775807 := fun x hx => (wf_i64 (hw x hx)).2
  refine To.ends ?_
  simp only [pestlelaw36_PicksCodes.f]
  refine To.bind awake36_to (To.pos rfl (To.ite (fun _ => To.step ?_) (fun h => To.step ?_)))
  · simp only [pestlelaw36_PicksCodes.j0]
    exact To.pos trivial (To.ret _)
  simp only [pestlelaw36_PicksCodes.j0]
  refine To.ite (fun _ => To.ret _) (fun h1 => ?_)
  have hs : s.size ≤ 1000 := by
    have : ¬ ((s.size : Int) > 1000) := by simpa using h1
    omega
  have fin := read_end s hs
  refine To.bind (Picks1.text_to l (by omega) hw') (To.bind (Picks1.ref_text_to l (by omega) hw') (To.bind (Picks1.read_to s (by omega)) (To.bind (Picks1.ref_read_to s (by omega)) (To.pos rfl (To.pos rfl (To.bind (same_to _ (picks_len s (by omega))) (To.pos rfl (To.step ?_))))))))
  simp only [pestlelaw36_PicksCodes.j1]
  refine To.neg (by simp) ?_
  rcases textsS_cases l with ⟨hn, e⟩ | e
  · rw [e]
    have hsz : (listS sp l).size ≤ 1000000 := by
      have := listA_size sp (by decide) l hw' true ⟨#[]⟩
      have h0 : (⟨#[]⟩ : ByteArray).size = 0 := rfl
      unfold listS
      omega
    refine To.pos rfl (To.bind (Picks1.read_to _ hsz) ?_)
    rw [picks_back hn]
    refine To.pos rfl (To.bind (same_to l (by omega)) (To.step ?_))
    simp only [pestlelaw36_PicksCodes.j2]
    exact To.neg (by decide) fin
  · rw [e]
    exact To.neg (by decide) fin
end Go.Proofs.Ytfehkfjfmjnjnaa.Pure
