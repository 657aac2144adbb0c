/- A call as a line, by the program's way and by the reference's; what is written is read, and what is read is written just so. -/
import Derived.Test.YtoknoghdnedmhaaFldJ
import Derived.Test.YtoknoghdnedmhaaLine2
import Derived.Test.YtoknoghdnedmhaaHex3
import Derived.Test.YtoknoghdnedmhaaPallx5
import Derived.Test.YtoknoghdnedmhaaPallx10
import Derived.Test.YtoknoghdnedmhaaPallx9
namespace Go.Proofs.Ytoknoghdnedmhaa.Line3
open Go.RowKit Go.Proofs.YtoknoghdnedmhaaW.PrintWords Go.Proofs.YtoknoghdnedmhaaW.PrintLast Go.Proofs.Ytoknoghdnedmhaa.Pall Go.Proofs.Ytoknoghdnedmhaa.Lib Go.Proofs.Ytoknoghdnedmhaa.Byt Go.Proofs.Ytoknoghdnedmhaa.Spl Go.Proofs.Ytoknoghdnedmhaa.Hex1 Go.Proofs.Ytoknoghdnedmhaa.Line1 Go.Proofs.Ytoknoghdnedmhaa.Line2 Go.Proofs.Ytoknoghdnedmhaa.FldJ
open Go.Proofs.Ytoknoghdnedmhaa.Hex3 (ref_dash_to)
open Go.Proofs.Ytoknoghdnedmhaa.FldS (parts split_to ref_split_to parts_size parts_len)
open Go.Proofs.Ytoknoghdnedmhaa.Hex2 (dashS dash_to encS encS_size undash_dash dash_undash encL encL_hex encL_len)

def sp : ByteArray := ⟨#[32]⟩
def lineS (c : Cl) : ByteArray × Int :=
  if c.f0 = 1 then (if L c.f2 = [] then (joinS 32 [hashB, dashS c.f1], 0) else (eB, 5))
  else if c.f0 = 2 then (if plainS c.f2 = true then (joinS 32 [verB, dashS c.f1, c.f2], 0) else (eB, 8))
  else if c.f0 = 3 then (if L c.f1 = [] then (if plainS c.f2 = true then (joinS 32 [staB, c.f2], 0) else (eB, 8)) else (eB, 5))
  else (eB, 1)
theorem join2 (a b : ByteArray) : joinS 32 [a, b] = (a ++ sp) ++ b := by
  refine L_inj ?_
  rw [L_append, L_append]
  show L a ++ 32 :: L b = _
  rw [List.append_assoc]; rfl
theorem join3 (a b c : ByteArray) : joinS 32 [a, b, c] = (((a ++ sp) ++ b) ++ sp) ++ c := by
  refine L_inj ?_
  rw [L_append, L_append, L_append, L_append]
  show L a ++ 32 :: (L b ++ 32 :: L c) = _
  simp only [List.append_assoc]; rfl
theorem dash_sz (s : ByteArray) : (dashS s).size ≤ 2 * s.size + 1 := by
  unfold dashS
  split
  · exact Nat.le_add_left 1 _
  · rw [encS_size]; omega
theorem sizes1 (a : ByteArray) : sizes [a] = a.size := by simp [sizes]
theorem sizes2 (a b : ByteArray) : sizes [a, b] = a.size + b.size := by simp [sizes]
theorem sizes3 (a b c : ByteArray) : sizes [a, b, c] = a.size + (b.size + c.size) := by simp [sizes]
theorem hashB_size : hashB.size = 4 := rfl
theorem verB_size : verB.size = 6 := rfl
theorem staB_size : staB.size = 5 := rfl
theorem line_to (c : Cl) (h1 : c.f1.size ≤ 1000000) (h2 : c.f2.size ≤ 1000000) : To (fun k => line_Line.f k c.f0 c.f1 c.f2) (lineS c) := by
  obtain ⟨f0, f1, f2⟩ := c
  simp only [line_Line.f]
  have hd := dash_sz f1
  change f1.size ≤ _ at h1
  change f2.size ≤ _ at h2
  rw [word_f, toList_L]
  refine To.bind0 rfl ?_
  by_cases k1 : f0 = 1
  · subst k1
    refine To.pos rfl (To.bind0 rfl (To.neg (by decide) (To.bind (dash_to f1 (by omega)) (To.pos (by decide) (To.step ?_)))))
    simp only [line_Line.j0]
    rw [toList_L]
    refine To.pos trivial ?_
    have e : lineS ⟨1, f1, f2⟩ = if L f2 = [] then (joinS 32 [hashB, dashS f1], 0) else (eB, 5) := rfl
    rw [e]
    by_cases t : L f2 = []
    · refine To.eq (To.pos t (To.bind (join_to 32 _ ?_) (To.ret _))) (if_pos t).symm
      show sizes [hashB, dashS f1] + 2 ≤ _
      rw [sizes2, hashB_size]; omega
    · exact To.eq (To.neg t (To.ret _)) (if_neg t).symm
  by_cases k2 : f0 = 2
  · subst k2
    refine To.pos rfl (To.bind0 rfl (To.neg (by decide) (To.bind (dash_to f1 (by omega)) (To.pos (by decide) (To.step ?_)))))
    simp only [line_Line.j0]
    refine To.neg (by decide) (To.bind (plain_to f2 h2) ?_)
    have e : lineS ⟨2, f1, f2⟩ = if plainS f2 = true then (joinS 32 [verB, dashS f1, f2], 0) else (eB, 8) := rfl
    rw [e]
    by_cases t : plainS f2 = true
    · refine To.eq (To.pos t (To.pos (by simp only [List.length_append, List.length_cons, List.length_nil]; omega) (To.bind (join_to 32 _ ?_) (To.ret _)))) (if_pos t).symm
      show sizes [verB, dashS f1, f2] + 3 ≤ _
      rw [sizes3, verB_size]; omega
    · exact To.eq (To.neg t (To.ret _)) (if_neg t).symm
  by_cases k3 : f0 = 3
  · subst k3
    refine To.pos rfl (To.bind0 rfl (To.pos rfl ?_))
    have e : lineS ⟨3, f1, f2⟩ = if L f1 = [] then (if plainS f2 = true then (joinS 32 [staB, f2], 0) else (eB, 8)) else (eB, 5) := rfl
    rw [e]
    by_cases t1 : L f1 = []
    · refine To.eq (To.pos t1 (To.step ?_)) (if_pos t1).symm
      simp only [line_Line.j0]
      refine To.neg (by decide) (To.bind (plain_to f2 h2) ?_)
      by_cases t : plainS f2 = true
      · refine To.eq (To.pos t (To.pos (by decide) (To.bind (join_to 32 _ ?_) (To.ret _)))) (if_pos t).symm
        show sizes [staB, f2] + 2 ≤ _
        rw [sizes2, staB_size]; omega
      · exact To.eq (To.neg t (To.ret _)) (if_neg t).symm
    · exact To.eq (To.neg t1 (To.ret _)) (if_neg t1).symm
  have e : lineS ⟨f0, f1, f2⟩ = (eB, 1) := by
    unfold lineS
    rw [if_neg k1, if_neg k2, if_neg k3]
  rw [e]
  have q : ¬ (1 ≤ f0 ∧ f0 ≤ 3) := by omega
  refine To.neg ?_ (To.ret' ?_)
  · show ¬ (if 1 ≤ f0 ∧ f0 ≤ 3 then (0 : Int) else 1) = 0
    rw [if_neg q]; decide
  · show (_, if 1 ≤ f0 ∧ f0 ≤ 3 then (0 : Int) else 1) = _
    rw [if_neg q]; rfl
theorem ref_line_to (c : Cl) (h1 : c.f1.size ≤ 1000000) (h2 : c.f2.size ≤ 1000000) : To (fun k => pestleref53_Line.f k c.f0 c.f1 c.f2) (lineS c) := by
  obtain ⟨f0, f1, f2⟩ := c
  simp only [pestleref53_Line.f]
  have hd := dash_sz f1
  change f1.size ≤ _ at h1
  change f2.size ≤ _ at h2
  have s1 : sp.size = 1 := rfl
  rw [ref_word_f, toList_L, toList_L]
  refine To.bind0 rfl ?_
  rw [toList_L]
  by_cases k1 : f0 = 1
  · subst k1
    refine To.neg (fun q => (by cases q)) (To.neg (by decide) (To.pos rfl (To.step ?_)))
    simp only [pestleref53_Line.j0]
    have e : lineS ⟨1, f1, f2⟩ = if L f2 = [] then (joinS 32 [hashB, dashS f1], 0) else (eB, 5) := rfl
    rw [e]
    by_cases t : L f2 = []
    · rw [if_pos t]
      refine To.neg (by rw [t]; decide) (To.pos trivial (To.step ?_))
      simp only [pestleref53_Line.j1]
      rw [ref_word_f]
      refine To.neg (by decide) (To.bind0 rfl (To.neg (by decide) (To.pos (by decide) (To.bind (ref_dash_to f1 (by omega)) (To.pos ?_ (To.pos trivial (To.ret' ?_)))))))
      · show (hashB ++ sp).size + _ ≤ _
        rw [ByteArray.size_append, hashB_size, s1]; omega
      · rw [join2]; rfl
    · rw [if_neg t]
      exact To.pos (by rw [bne_iff_ne]; exact t) (To.ret _)
  by_cases k2 : f0 = 2
  · subst k2
    refine To.neg (fun q => (by cases q)) (To.neg (by decide) (To.neg (by decide) (To.step ?_)))
    simp only [pestleref53_Line.j0]
    refine To.neg (by decide) (To.neg (by decide) (To.bind (ref_plain_to f2 h2) (To.step ?_)))
    simp only [pestleref53_Line.j1]
    have e : lineS ⟨2, f1, f2⟩ = if plainS f2 = true then (joinS 32 [verB, dashS f1, f2], 0) else (eB, 8) := rfl
    rw [e]
    by_cases t : plainS f2 = true
    · rw [if_pos t, t, ref_word_f]
      refine To.neg (by decide) (To.bind0 rfl (To.neg (by decide) (To.pos (by decide) (To.bind (ref_dash_to f1 (by omega)) (To.pos ?_ (To.neg (by decide) (To.pos ?_ (To.pos ?_ (To.ret' ?_)))))))))
      · show (verB ++ sp).size + _ ≤ _
        rw [ByteArray.size_append, verB_size, s1]; omega
      · show ((verB ++ sp) ++ _).size + 1 ≤ _
        rw [ByteArray.size_append, ByteArray.size_append, verB_size, s1]; omega
      · show (((verB ++ sp) ++ dashS f1) ++ sp).size + _ ≤ _
        rw [ByteArray.size_append, ByteArray.size_append, ByteArray.size_append, verB_size, s1]; omega
      · rw [join3]; rfl
    · rw [if_neg t]
      exact To.pos (by rw [Bool.not_eq_true] at t; rw [t]; rfl) (To.ret _)
  by_cases k3 : f0 = 3
  · subst k3
    refine To.neg (fun q => (by cases q)) (To.pos rfl ?_)
    have e : lineS ⟨3, f1, f2⟩ = if L f1 = [] then (if plainS f2 = true then (joinS 32 [staB, f2], 0) else (eB, 8)) else (eB, 5) := rfl
    rw [e]
    by_cases t1 : L f1 = []
    · rw [if_pos t1]
      refine To.pos t1 (To.neg (by decide) (To.step ?_))
      simp only [pestleref53_Line.j0]
      refine To.neg (by decide) (To.neg (by decide) (To.bind (ref_plain_to f2 h2) (To.step ?_)))
      simp only [pestleref53_Line.j1]
      by_cases t : plainS f2 = true
      · rw [if_pos t, t, ref_word_f]
        refine To.neg (by decide) (To.bind0 rfl (To.pos trivial (To.neg (by decide) (To.pos (by decide) (To.pos ?_ (To.ret' ?_))))))
        · show (staB ++ sp).size + _ ≤ _
          rw [ByteArray.size_append, staB_size, s1]; omega
        · rw [join2]; rfl
      · rw [if_neg t]
        exact To.pos (by rw [Bool.not_eq_true] at t; rw [t]; rfl) (To.ret _)
    · rw [if_neg t1]
      refine To.neg t1 (To.step ?_)
      simp only [pestleref53_Line.j0]
      exact To.pos trivial (To.ret _)
  have e : lineS ⟨f0, f1, f2⟩ = (eB, 1) := by
    unfold lineS
    rw [if_neg k1, if_neg k2, if_neg k3]
  rw [e]
  exact To.pos (word_nil.mpr (by omega)) (To.ret _)

/-! ### back and forth -/
theorem plain_not {s : ByteArray} (h : plainS s = true) {c : UInt8} (hc : ¬ plainC c) : c ∉ L s := fun m => hc ((of_decide_eq_true h).1 c m)
theorem dash_chars (s : ByteArray) : ∀ c ∈ L (dashS s), plainC c := by
  intro c hc
  unfold dashS at hc
  split at hc
  · have : c = 45 := by simpa [L] using hc
    rw [this]; decide
  · have := encL_hex (L s) c (by rw [show encL (L s) = L (encS s) from rfl]; exact hc)
    unfold isHex at this
    unfold plainC; omega
theorem word_chars (b : ByteArray) (h : b = hashB ∨ b = verB ∨ b = staB) : ∀ c ∈ L b, plainC c := by
  rcases h with rfl | rfl | rfl <;> decide
theorem not32 {b : ByteArray} (h : ∀ c ∈ L b, plainC c) : (32 : UInt8) ∉ L b := fun m => by have := h 32 m; revert this; decide
theorem plain_chars {s : ByteArray} (h : plainS s = true) : ∀ c ∈ L s, plainC c := (of_decide_eq_true h).1
theorem line_read (c : Cl) (h : (lineS c).2 = 0) : readS (lineS c).1 = (c.f0, c.f1, c.f2, 0) := by
  obtain ⟨f0, f1, f2⟩ := c
  unfold lineS at h ⊢
  have dn := not32 (dash_chars f1)
  have ud := undash_dash f1
  by_cases k1 : f0 = 1
  · subst k1
    rw [if_pos rfl] at h ⊢
    by_cases t : L f2 = []
    · rw [if_pos t] at h ⊢
      show readP (parts 32 (joinS 32 [hashB, dashS f1])) = _
      rw [parts_join 32 _ (by simp) (by intro p hp; rcases List.mem_cons.mp hp with rfl | hp; exact not32 (word_chars _ (.inl rfl)); rw [List.mem_singleton] at hp; rw [hp]; exact dn), readP_1 rfl, ud, if_pos rfl]
      have : f2 = eB := L_inj t
      rw [this]
    · rw [if_neg t] at h; cases h
  rw [if_neg k1] at h ⊢
  by_cases k2 : f0 = 2
  · subst k2
    rw [if_pos rfl] at h ⊢
    by_cases t : plainS f2 = true
    · rw [if_pos t] at h ⊢
      show readP (parts 32 (joinS 32 [verB, dashS f1, f2])) = _
      rw [parts_join 32 _ (by simp) (by intro p hp; rcases List.mem_cons.mp hp with rfl | hp; exact not32 (word_chars _ (.inr (.inl rfl))); rcases List.mem_cons.mp hp with rfl | hp; exact dn; rw [List.mem_singleton] at hp; rw [hp]; exact not32 (plain_chars t)), readP_2 rfl, ud, if_pos rfl]
      unfold textP
      rw [if_pos t]
    · rw [if_neg t] at h; cases h
  rw [if_neg k2] at h ⊢
  by_cases k3 : f0 = 3
  · subst k3
    rw [if_pos rfl] at h ⊢
    by_cases t1 : L f1 = []
    · rw [if_pos t1] at h ⊢
      by_cases t : plainS f2 = true
      · rw [if_pos t] at h ⊢
        show readP (parts 32 (joinS 32 [staB, f2])) = _
        rw [parts_join 32 _ (by simp) (by intro p hp; rcases List.mem_cons.mp hp with rfl | hp; exact not32 (word_chars _ (.inr (.inr rfl))); rw [List.mem_singleton] at hp; rw [hp]; exact not32 (plain_chars t)), readP_3 rfl]
        unfold textP
        have : f1 = eB := L_inj t1
        rw [if_pos t, this]
      · rw [if_neg t] at h; cases h
    · rw [if_neg t1] at h; cases h
  rw [if_neg k3] at h; cases h
theorem bad_ne {e : Int} (h : e ≠ 0) : ¬ (bad e).2.2.2 = 0 := h
theorem read_line (s : ByteArray) (h : (readS s).2.2.2 = 0) : lineS (toC (readS s)) = (s, 0) := by
  have hj := join_parts 32 s
  have hne := parts_ne 32 s
  unfold readS at h ⊢
  generalize parts 32 s = ps at *
  cases ps with
  | nil => exact absurd rfl hne
  | cons a l =>
    rcases kind_cases a with k0 | ⟨k0, rfl⟩ | ⟨k0, rfl⟩ | ⟨k0, rfl⟩
    · rw [readP_no k0] at h; cases h
    · by_cases hl : l.length = 1
      · obtain ⟨b, rfl⟩ : ∃ b, l = [b] := List.length_eq_one_iff.mp hl
        rw [readP_1 k0] at h ⊢
        by_cases hu : (undashS b).2 = 0
        · rw [if_pos hu]
          show (joinS 32 [hashB, dashS (undashS b).1], (0 : Int)) = _
          rw [dash_undash hu, hj]
        · rw [if_neg hu] at h; exact absurd h (bad_ne hu)
      · rw [readP_many (by omega) (.inr ⟨by omega, hl⟩)] at h; cases h
    · by_cases hl : l.length = 2
      · obtain ⟨b, c, rfl⟩ : ∃ b c, l = [b, c] := Go.Proofs.Ytoknoghdnedmhaa.FldS.two_parts hl
        rw [readP_2 k0] at h ⊢
        by_cases hu : (undashS b).2 = 0
        · rw [if_pos hu] at h ⊢
          unfold textP at h ⊢
          by_cases t : plainS c = true
          · rw [if_pos t]
            show (if plainS c = true then (joinS 32 [verB, dashS (undashS b).1, c], (0 : Int)) else (eB, 8)) = _
            rw [if_pos t, dash_undash hu, hj]
          · rw [if_neg t] at h; cases h
        · rw [if_neg hu] at h; exact absurd h (bad_ne hu)
      · rw [readP_many (by omega) (.inl ⟨k0, hl⟩)] at h; cases h
    · by_cases hl : l.length = 1
      · obtain ⟨b, rfl⟩ : ∃ b, l = [b] := List.length_eq_one_iff.mp hl
        rw [readP_3 k0] at h ⊢
        unfold textP at h ⊢
        by_cases t : plainS b = true
        · rw [if_pos t]
          show (if L eB = [] then (if plainS b = true then (joinS 32 [staB, b], (0 : Int)) else (eB, 8)) else (eB, 5)) = _
          rw [if_pos (show L eB = [] from rfl), if_pos t, hj]
        · rw [if_neg t] at h; cases h
      · rw [readP_many (by omega) (.inr ⟨by omega, hl⟩)] at h; cases h
theorem read_bad (s : ByteArray) (h : (readS s).2.2.2 ≠ 0) : (readS s).1 = 0 ∧ (readS s).2.1 = eB ∧ (readS s).2.2.1 = eB := by
  have hne := parts_ne 32 s
  unfold readS at h ⊢
  generalize parts 32 s = ps at *
  cases ps with
  | nil => exact absurd rfl hne
  | cons a l =>
    rcases kind_cases a with k0 | ⟨k0, rfl⟩ | ⟨k0, rfl⟩ | ⟨k0, rfl⟩
    · rw [readP_no k0]; exact ⟨rfl, rfl, rfl⟩
    · by_cases hl : l.length = 1
      · obtain ⟨b, rfl⟩ : ∃ b, l = [b] := List.length_eq_one_iff.mp hl
        rw [readP_1 k0] at h ⊢
        by_cases hu : (undashS b).2 = 0
        · rw [if_pos hu] at h; exact absurd rfl h
        · rw [if_neg hu]; exact ⟨rfl, rfl, rfl⟩
      · rw [readP_many (by omega) (.inr ⟨by omega, hl⟩)]; exact ⟨rfl, rfl, rfl⟩
    · by_cases hl : l.length = 2
      · obtain ⟨b, c, rfl⟩ : ∃ b c, l = [b, c] := Go.Proofs.Ytoknoghdnedmhaa.FldS.two_parts hl
        rw [readP_2 k0] at h ⊢
        by_cases hu : (undashS b).2 = 0
        · rw [if_pos hu] at h ⊢
          unfold textP at h ⊢
          by_cases t : plainS c = true
          · rw [if_pos t] at h; exact absurd rfl h
          · rw [if_neg t]; exact ⟨rfl, rfl, rfl⟩
        · rw [if_neg hu]; exact ⟨rfl, rfl, rfl⟩
      · rw [readP_many (by omega) (.inl ⟨k0, hl⟩)]; exact ⟨rfl, rfl, rfl⟩
    · by_cases hl : l.length = 1
      · obtain ⟨b, rfl⟩ : ∃ b, l = [b] := List.length_eq_one_iff.mp hl
        rw [readP_3 k0] at h ⊢
        unfold textP at h ⊢
        by_cases t : plainS b = true
        · rw [if_pos t] at h; exact absurd rfl h
        · rw [if_neg t]; exact ⟨rfl, rfl, rfl⟩
      · rw [readP_many (by omega) (.inr ⟨by omega, hl⟩)]; exact ⟨rfl, rfl, rfl⟩
end Go.Proofs.Ytoknoghdnedmhaa.Line3
