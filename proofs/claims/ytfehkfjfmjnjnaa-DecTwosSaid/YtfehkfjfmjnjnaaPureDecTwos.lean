/- For every number, text and list: two digits are written and read as the document says, and numbers with something between are written as the reference writes them.
   Conditions: the numbers are 64-bit integers, text and list such as Go can hold in memory (as the row says); nothing else. -/
import Derived.Test.YtfehkfjfmjnjnaaDec4
import Derived.Test.YtfehkfjfmjnjnaaPallx8
namespace Go.Proofs.Ytfehkfjfmjnjnaa.Pure
open Go.RowKit Go.Proofs.Ytfehkfjfmjnjnaa.Pall Go.Proofs.YtfehkfjfmjnjnaaW.PrintWords Go.Proofs.YtfehkfjfmjnjnaaW.PrintLast Go.Proofs.Ytfehkfjfmjnjnaa.Lib Go.Proofs.Ytfehkfjfmjnjnaa.Byt Go.Proofs.Ytfehkfjfmjnjnaa.Dec1 Go.Proofs.Ytfehkfjfmjnjnaa.Dec2 Go.Proofs.Ytfehkfjfmjnjnaa.Dec3 Go.Proofs.Ytfehkfjfmjnjnaa.Dec4

theorem lists_end (s : ByteArray) (hs : s.size ≤ 20) (l : List Int) (hl : l.length ≤ 100) (hw : ∀ x ∈ l, x ≤ 9223372036854775807) :
    To (fun k => (dec_List.f k s l).bind fun t => (pestleref18_List.f k s l).bind fun u => some (t.toList == u.toList)) true :=
  To.bind (list_to s (by omega) l (by omega) hw) (To.bind (ref_list_to s (by omega) l (by omega) hw) (To.ret' (by simp)))
theorem two_end (s : ByteArray) (hs : s.size ≤ 20) (l : List Int) (hl : l.length ≤ 100) (hw : ∀ x ∈ l, x ≤ 9223372036854775807) : To (fun k => pestlelaw18_DecTwos.j2 k s l) true := by
  have fin := lists_end s hs l hl hw
  refine To.step ?_
  simp only [pestlelaw18_DecTwos.j2]
  refine To.bind (readTwo_to s) ?_
  by_cases h : (readTwoS s).2 = 0
  · refine To.pos h (To.bind0 (two_is _) ?_)
    rw [two_back h]
    exact To.pos rfl fin
  · refine To.neg h ?_
    have h7 : readTwoS s = (0, 7) := by
      unfold readTwoS at h ⊢
      by_cases h2 : (L s).length = 2
      · obtain ⟨a, b, e⟩ := two_of (s := s) (by rw [size_L]; exact h2)
        rw [e] at h ⊢
        by_cases hd : isDig a ∧ isDig b
        · have e1 : readTwoL [a, b] = (((10 * (a.toNat - 48) + (b.toNat - 48) : Nat) : Int), 0) := if_pos hd
          rw [e1] at h
          exact absurd rfl h
        · exact if_neg hd
      · exact readTwoL_not h2
    rw [h7]
    have fin' := To.pos (g := fun _ => some false) (rfl : (7 : Int) = 7) (To.pos (g := fun _ => some false) (rfl : (0 : Int) = 0) fin)
    refine To.ite (fun h2 => ?_) (fun h2 => fin')
    obtain ⟨a, b, e⟩ := two_of (s := s) (by omega)
    have b0 : bt s 0 = (a.toNat : Int) := by
      have := bt_nat (s := s) (n := 0) (by rw [e]; simp)
      simpa [e] using this
    have b1 : bt s 1 = (b.toNat : Int) := by
      have := bt_nat (s := s) (n := 1) (by rw [e]; simp)
      simpa [e] using this
    have hd : ¬ (isDig a ∧ isDig b) := by
      intro hd
      have e1 : readTwoL [a, b] = (((10 * (a.toNat - 48) + (b.toNat - 48) : Nat) : Int), 0) := if_pos hd
      unfold readTwoS at h
      rw [e, e1] at h
      exact h rfl
    rw [b0, b1]
    refine To.pos (by omega) (To.ite (fun h3 => To.ite (fun h4 => To.pos (by omega) (To.ite (fun h5 => To.ite (fun h6 => ?_) (fun _ => fin')) (fun _ => fin'))) (fun _ => fin')) (fun _ => fin'))
    exact absurd ⟨⟨by omega, by omega⟩, ⟨by omega, by omega⟩⟩ hd
theorem DecTwos : pestlelaw18_DecTwos.Pure := by
  intro n s l hn _ _ _ hw
  have hnw := wf_i64 hn
  have hw' : ∀ x ∈ l, x ≤ 9223372036854775807 := fun x hx => (wf_i64 (hw x hx)).2
  refine To.ends ?_
  simp only [pestlelaw18_DecTwos.f]
  refine To.bind awake_to (To.pos rfl (To.ite (fun _ => To.step ?_) (fun h => To.step ?_)))
  · simp only [pestlelaw18_DecTwos.j0]
    exact To.pos trivial (To.ret _)
  · simp only [pestlelaw18_DecTwos.j0]
    refine To.ite (fun _ => To.ret _) (fun h1 => ?_)
    have hl : l.length ≤ 100 := by
      have : ¬ ((l.length : Int) > 100) := by simpa using h1
      omega
    have fin := two_end s (by omega) l hl hw'
    refine To.bind0 (two_is n) (To.ite (fun h2 => To.step ?_) (fun h2 => To.step ?_))
    · simp only [pestlelaw18_DecTwos.j1]
      have e : twoS n = (⟨#[]⟩, 1) := if_pos (Or.inl h2)
      rw [e]
      exact To.pos trivial (To.pos rfl (To.pos (by rw [toList_L]; rfl) fin))
    · simp only [pestlelaw18_DecTwos.j1]
      by_cases h3 : n > 99
      · have e : twoS n = (⟨#[]⟩, 1) := if_pos (Or.inr h3)
        rw [e]
        exact To.pos (decide_eq_true h3) (To.pos rfl (To.pos (by rw [toList_L]; rfl) fin))
      · refine To.neg (by simpa using h3) ?_
        obtain ⟨m, rfl⟩ : ∃ m : Nat, n = m := ⟨n.toNat, by omega⟩
        have e : twoS (m : Int) = (mkB [dig (m / 10), dig (m % 10)], 0) := by
          unfold twoS
          rw [if_neg (by omega), Int.toNat_natCast]
        rw [e]
        have er : readTwoS (mkB [dig (m / 10), dig (m % 10)]) = ((m : Int), 0) := by
          unfold readTwoS
          rw [L_mk]
          have e1 : readTwoL [dig (m / 10), dig (m % 10)] = (((10 * ((dig (m / 10)).toNat - 48) + ((dig (m % 10)).toNat - 48) : Nat) : Int), 0) := if_pos ⟨dig_is (by omega), dig_is (by omega)⟩
          rw [e1, dig_nat (by omega), dig_nat (by omega)]
          refine Prod.ext ?_ rfl
          show ((10 * (48 + m / 10 - 48) + (48 + m % 10 - 48) : Nat) : Int) = (m : Int)
          omega
        have hr := readTwo_to (mkB [dig (m / 10), dig (m % 10)])
        rw [er] at hr
        have e0 : Int.tdiv (m : Int) 10 = ((m / 10 : Nat) : Int) := by rw [Int.tdiv_eq_ediv_of_nonneg (by omega)]; omega
        have e1 : Int.tmod (m : Int) 10 = ((m % 10 : Nat) : Int) := by rw [Int.tmod_eq_emod_of_nonneg (by omega)]; omega
        rw [e0, e1, wrap_id (by omega) (by omega)]
        refine To.bind hr (To.pos rfl (To.pos rfl (To.pos rfl (To.pos rfl (To.bind (ref_text_to _ (by omega)) (To.bind (ref_text_to _ (by omega)) (To.pos ?_ (To.pos ?_ fin))))))))
        · have a1 := textS_size (n := ((m / 10 : Nat) : Int)) (by omega)
          have a2 := textS_size (n := ((m % 10 : Nat) : Int)) (by omega)
          omega
        · rw [toList_L, toList_L, L_append, L_mk, L_textS (by omega), L_textS (by omega), Int.toNat_natCast, Int.toNat_natCast, textN_lo (by omega), textN_lo (by omega)]
          rfl
end Go.Proofs.Ytfehkfjfmjnjnaa.Pure
