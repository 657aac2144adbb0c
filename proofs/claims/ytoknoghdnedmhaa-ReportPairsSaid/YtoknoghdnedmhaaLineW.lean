/- A call as a line, by the program's way and by the reference's: the writing alone. -/
import Derived.Test.YtoknoghdnedmhaaFldJ
import Derived.Test.YtoknoghdnedmhaaHex3
import Derived.Test.YtoknoghdnedmhaaPallx3
import Derived.Test.YtoknoghdnedmhaaPallx4
import Derived.Test.YtoknoghdnedmhaaPallx6
import Derived.Test.YtoknoghdnedmhaaPallx7
namespace Go.Proofs.Ytoknoghdnedmhaa.LineW
open Go.RowKit Go.Proofs.YtoknoghdnedmhaaW.PrintWords Go.Proofs.YtoknoghdnedmhaaW.PrintLast Go.Proofs.Ytoknoghdnedmhaa.Pall Go.Proofs.Ytoknoghdnedmhaa.Lib Go.Proofs.Ytoknoghdnedmhaa.Byt Go.Proofs.Ytoknoghdnedmhaa.Spl Go.Proofs.Ytoknoghdnedmhaa.Hex1 Go.Proofs.Ytoknoghdnedmhaa.FldJ
open Go.Proofs.Ytoknoghdnedmhaa.Hex3 (ref_dash_to)
open Go.Proofs.Ytoknoghdnedmhaa.FldS (parts parts_size parts_len)
open Go.Proofs.Ytoknoghdnedmhaa.Hex2 (dashS dash_to encS encS_size encL encL_hex encL_len)
abbrev Cl := S49
def eB : ByteArray := ⟨#[]⟩
def hashB : ByteArray := ⟨#[104, 97, 115, 104]⟩
def verB : ByteArray := ⟨#[118, 101, 114, 105, 102, 121]⟩
def staB : ByteArray := ⟨#[115, 116, 97, 108, 101]⟩
def plainC (c : UInt8) : Prop := 33 ≤ c.toNat ∧ c.toNat ≤ 126
instance (c : UInt8) : Decidable (plainC c) := inferInstanceAs (Decidable (_ ∧ _))
def plainS (s : ByteArray) : Bool := decide ((∀ c ∈ L s, plainC c) ∧ L s ≠ [])
theorem rdOf_nat {α : Type} {z : α} {l : List α} {n : Nat} (h : n < l.length) : rdOf z l (n : Int) = l[n] := by
  unfold rdOf
  simp [List.getD_eq_getElem?_getD, h]
theorem plain_no {s : ByteArray} {n : Nat} (h : n < (L s).length) (hc : ¬ plainC (L s)[n]) : plainS s = false := by
  unfold plainS
  exact decide_eq_false fun h' => hc (h'.1 _ (List.getElem_mem h))
theorem plain_end {s : ByteArray} (h : ∀ c ∈ (L s).take (L s).length, plainC c) : plainS s = decide (L s ≠ []) := by
  rw [List.take_length] at h
  unfold plainS
  by_cases e : L s = []
  · rw [decide_eq_false (fun h' => h'.2 e), decide_eq_false (fun h' => h' e)]
  · rw [decide_eq_true ⟨h, e⟩, decide_eq_true e]
theorem take_snoc {α : Type} {p : α → Prop} {l : List α} {n : Nat} (h : n < l.length) (ha : ∀ c ∈ l.take n, p c) (hb : p l[n]) : ∀ c ∈ l.take (n + 1), p c := by
  intro c hc
  rw [List.take_succ_eq_append_getElem h, List.mem_append] at hc
  rcases hc with hc | hc
  · exact ha c hc
  · rw [List.mem_singleton] at hc; rw [hc]; exact hb
theorem plain_l0 (s : ByteArray) (hs : s.size ≤ 1000000) (d : Nat) : ∀ n : Nat, n + d = (L s).length → (∀ c ∈ (L s).take n, plainC c) →
    To (fun k => line_Plain.l0 k s (s.size : Int) (n : Int)) (plainS s) := by
  rw [size_L] at hs
  induction d with
  | zero =>
    intro n hn hp
    refine To.step ?_
    simp only [line_Plain.l0]
    rw [size_L, toList_L]
    refine To.neg (by omega) (To.ret' ?_)
    have hn' : n = (L s).length := by omega
    rw [hn'] at hp
    rw [plain_end hp]
    cases L s <;> rfl
  | succ d ih =>
    intro n hn hp
    have hlt : n < (L s).length := by omega
    refine To.step ?_
    simp only [line_Plain.l0]
    rw [bt_nat hlt, wrap_id (x := (n : Int) + 1) (by omega) (by omega), size_L]
    refine To.pos (by omega) (To.pos (by omega) (To.pos (by omega) ?_))
    by_cases c : plainC (L s)[n]
    · obtain ⟨c1, c2⟩ := c
      refine To.neg (by omega) (To.neg (by omega) ?_)
      have := ih (n + 1) (by omega) (take_snoc hlt hp ⟨c1, c2⟩)
      rw [size_L] at this
      exact this
    · rw [plain_no hlt c]
      refine To.ite (fun _ => To.ret _) fun h1 => To.pos ?_ (To.ret _)
      have : ¬ (33 ≤ (L s)[n].toNat ∧ (L s)[n].toNat ≤ 126) := c
      omega
theorem plain_to (s : ByteArray) (hs : s.size ≤ 1000000) : To (fun k => line_Plain.f k s) (plainS s) := by
  simp only [line_Plain.f]
  exact plain_l0 s hs (L s).length 0 (by omega) (by simp)
theorem ref_plain_l0 (s : ByteArray) (hs : s.size ≤ 1000000) (d : Nat) : ∀ n : Nat, n + d = (L s).length → (∀ c ∈ (L s).take n, plainC c) →
    To (fun k => pestleref53_Plain.l0 k s (n : Int)) (plainS s) := by
  rw [size_L] at hs
  induction d with
  | zero =>
    intro n hn hp
    refine To.step ?_
    simp only [pestleref53_Plain.l0]
    rw [size_L]
    refine To.neg (by omega) (To.ret' ?_)
    have hn' : n = (L s).length := by omega
    rw [hn'] at hp
    rw [plain_end hp]
    cases L s with
    | nil => rfl
    | cons a l => rw [decide_eq_true (by simp only [List.length_cons]; omega), decide_eq_true (List.cons_ne_nil a l)]
  | succ d ih =>
    intro n hn hp
    have hlt : n < (L s).length := by omega
    refine To.step ?_
    simp only [pestleref53_Plain.l0]
    rw [bt_nat hlt, wrap_id (x := (n : Int) + 1) (by omega) (by omega), size_L]
    refine To.pos (by omega) (To.pos (by omega) ?_)
    by_cases c : plainC (L s)[n]
    · obtain ⟨c1, c2⟩ := c
      refine To.neg (by omega) (To.neg (by omega) ?_)
      exact ih (n + 1) (by omega) (take_snoc hlt hp ⟨c1, c2⟩)
    · rw [plain_no hlt c]
      refine To.ite (fun _ => To.ret _) fun h1 => To.pos ?_ (To.ret _)
      have : ¬ (33 ≤ (L s)[n].toNat ∧ (L s)[n].toNat ≤ 126) := c
      omega
theorem ref_plain_to (s : ByteArray) (hs : s.size ≤ 1000000) : To (fun k => pestleref53_Plain.f k s) (plainS s) := by
  simp only [pestleref53_Plain.f]
  exact ref_plain_l0 s hs (L s).length 0 (by omega) (by simp)

def wordS (k : Int) : ByteArray := if k = 1 then hashB else if k = 2 then verB else if k = 3 then staB else eB
theorem word_f (k : Int) : line_Word.f k = some (wordS k, if 1 ≤ k ∧ k ≤ 3 then 0 else 1) := by
  unfold line_Word.f wordS
  by_cases h1 : k = 1
  · subst h1; rfl
  by_cases h2 : k = 2
  · subst h2; rfl
  by_cases h3 : k = 3
  · subst h3; rfl
  rw [if_neg h1, if_neg h2, if_neg h3, if_neg h1, if_neg h2, if_neg h3, if_neg (by omega)]; rfl
theorem ref_word_f (k : Int) : pestleref53_word.f k = some (wordS k) := by
  unfold pestleref53_word.f wordS
  rw [Option.bind_some]
  by_cases h1 : k = 1
  · subst h1; rfl
  by_cases h2 : k = 2
  · subst h2; rfl
  by_cases h3 : k = 3
  · subst h3; rfl
  rw [if_neg h1, if_neg h2, if_neg h3]
  by_cases h : k < 1
  · rw [if_pos h]; rfl
  · rw [if_neg h, if_pos (by omega)]; rfl
theorem word_nil {k : Int} : L (wordS k) = [] ↔ ¬ (1 ≤ k ∧ k ≤ 3) := by
  unfold wordS
  by_cases h1 : k = 1
  · subst h1; exact ⟨fun h => (by cases h), fun h => absurd ⟨by omega, by omega⟩ h⟩
  by_cases h2 : k = 2
  · subst h2; exact ⟨fun h => (by cases h), fun h => absurd ⟨by omega, by omega⟩ h⟩
  by_cases h3 : k = 3
  · subst h3; exact ⟨fun h => (by cases h), fun h => absurd ⟨by omega, by omega⟩ h⟩
  rw [if_neg h1, if_neg h2, if_neg h3]
  exact ⟨fun _ => by omega, fun _ => rfl⟩
theorem word_size (k : Int) : (wordS k).size ≤ 6 := by
  unfold wordS
  by_cases h1 : k = 1
  · rw [if_pos h1]; decide
  by_cases h2 : k = 2
  · rw [if_neg h1, if_pos h2]; decide
  by_cases h3 : k = 3
  · rw [if_neg h1, if_neg h2, if_pos h3]; decide
  rw [if_neg h1, if_neg h2, if_neg h3]; decide

theorem rdT_nat {l : List Cl} {n : Nat} (h : n < l.length) : rd_T49 l (n : Int) = l[n] := by
  unfold rd_T49
  simp [List.getD_eq_getElem?_getD, h]
def sp : ByteArray := ⟨#[32]⟩
def lineS (c : Cl) : ByteArray × Int :=
  if c.f0 = 1 then (if L c.f2 = [] then (joinS 32 [hashB, dashS c.f1], 0) else (eB, 5))
  else if c.f0 = 2 then (if plainS c.f2 = true then (joinS 32 [verB, dashS c.f1, c.f2], 0) else (eB, 8))
  else if c.f0 = 3 then (if L c.f1 = [] then (if plainS c.f2 = true then (joinS 32 [staB, c.f2], 0) else (eB, 8)) else (eB, 5))
  else (eB, 1)
theorem join2 (a b : ByteArray) : joinS 32 [a, b] = (a ++ sp) ++ b := by
  refine L_inj ?_
  rw [L_append, L_append]
  show L a ++ 32 :: L b = _
  rw [List.append_assoc]; rfl
theorem join3 (a b c : ByteArray) : joinS 32 [a, b, c] = (((a ++ sp) ++ b) ++ sp) ++ c := by
  refine L_inj ?_
  rw [L_append, L_append, L_append, L_append]
  show L a ++ 32 :: (L b ++ 32 :: L c) = _
  simp only [List.append_assoc]; rfl
theorem dash_sz (s : ByteArray) : (dashS s).size ≤ 2 * s.size + 1 := by
  unfold dashS
  split
  · exact Nat.le_add_left 1 _
  · rw [encS_size]; omega
theorem sizes1 (a : ByteArray) : sizes [a] = a.size := by simp [sizes]
theorem sizes2 (a b : ByteArray) : sizes [a, b] = a.size + b.size := by simp [sizes]
theorem sizes3 (a b c : ByteArray) : sizes [a, b, c] = a.size + (b.size + c.size) := by simp [sizes]
theorem hashB_size : hashB.size = 4 := rfl
theorem verB_size : verB.size = 6 := rfl
theorem staB_size : staB.size = 5 := rfl
theorem line_to (c : Cl) (h1 : c.f1.size ≤ 1000000) (h2 : c.f2.size ≤ 1000000) : To (fun k => line_Line.f k c.f0 c.f1 c.f2) (lineS c) := by
  obtain ⟨f0, f1, f2⟩ := c
  simp only [line_Line.f]
  have hd := dash_sz f1
  change f1.size ≤ _ at h1
  change f2.size ≤ _ at h2
  rw [word_f, toList_L]
  refine To.bind0 rfl ?_
  by_cases k1 : f0 = 1
  · subst k1
    refine To.pos rfl (To.bind0 rfl (To.neg (by decide) (To.bind (dash_to f1 (by omega)) (To.pos (by decide) (To.step ?_)))))
    simp only [line_Line.j0]
    rw [toList_L]
    refine To.pos trivial ?_
    have e : lineS ⟨1, f1, f2⟩ = if L f2 = [] then (joinS 32 [hashB, dashS f1], 0) else (eB, 5) := rfl
    rw [e]
    by_cases t : L f2 = []
    · refine To.eq (To.pos t (To.bind (join_to 32 _ ?_) (To.ret _))) (if_pos t).symm
      show sizes [hashB, dashS f1] + 2 ≤ _
      rw [sizes2, hashB_size]; omega
    · exact To.eq (To.neg t (To.ret _)) (if_neg t).symm
  by_cases k2 : f0 = 2
  · subst k2
    refine To.pos rfl (To.bind0 rfl (To.neg (by decide) (To.bind (dash_to f1 (by omega)) (To.pos (by decide) (To.step ?_)))))
    simp only [line_Line.j0]
    refine To.neg (by decide) (To.bind (plain_to f2 h2) ?_)
    have e : lineS ⟨2, f1, f2⟩ = if plainS f2 = true then (joinS 32 [verB, dashS f1, f2], 0) else (eB, 8) := rfl
    rw [e]
    by_cases t : plainS f2 = true
    · refine To.eq (To.pos t (To.pos (by simp only [List.length_append, List.length_cons, List.length_nil]; omega) (To.bind (join_to 32 _ ?_) (To.ret _)))) (if_pos t).symm
      show sizes [verB, dashS f1, f2] + 3 ≤ _
      rw [sizes3, verB_size]; omega
    · exact To.eq (To.neg t (To.ret _)) (if_neg t).symm
  by_cases k3 : f0 = 3
  · subst k3
    refine To.pos rfl (To.bind0 rfl (To.pos rfl ?_))
    have e : lineS ⟨3, f1, f2⟩ = if L f1 = [] then (if plainS f2 = true then (joinS 32 [staB, f2], 0) else (eB, 8)) else (eB, 5) := rfl
    rw [e]
    by_cases t1 : L f1 = []
    · refine To.eq (To.pos t1 (To.step ?_)) (if_pos t1).symm
      simp only [line_Line.j0]
      refine To.neg (by decide) (To.bind (plain_to f2 h2) ?_)
      by_cases t : plainS f2 = true
      · refine To.eq (To.pos t (To.pos (by decide) (To.bind (join_to 32 _ ?_) (To.ret _)))) (if_pos t).symm
        show sizes [staB, f2] + 2 ≤ _
        rw [sizes2, staB_size]; omega
      · exact To.eq (To.neg t (To.ret _)) (if_neg t).symm
    · exact To.eq (To.neg t1 (To.ret _)) (if_neg t1).symm
  have e : lineS ⟨f0, f1, f2⟩ = (eB, 1) := by
    unfold lineS
    rw [if_neg k1, if_neg k2, if_neg k3]
  rw [e]
  have q : ¬ (1 ≤ f0 ∧ f0 ≤ 3) := by omega
  refine To.neg ?_ (To.ret' ?_)
  · show ¬ (if 1 ≤ f0 ∧ f0 ≤ 3 then (0 : Int) else 1) = 0
    rw [if_neg q]; decide
  · show (_, if 1 ≤ f0 ∧ f0 ≤ 3 then (0 : Int) else 1) = _
    rw [if_neg q]; rfl
theorem ref_line_to (c : Cl) (h1 : c.f1.size ≤ 1000000) (h2 : c.f2.size ≤ 1000000) : To (fun k => pestleref53_Line.f k c.f0 c.f1 c.f2) (lineS c) := by
  obtain ⟨f0, f1, f2⟩ := c
  simp only [pestleref53_Line.f]
  have hd := dash_sz f1
  change f1.size ≤ _ at h1
  change f2.size ≤ _ at h2
  have s1 : sp.size = 1 := rfl
  rw [ref_word_f, toList_L, toList_L]
  refine To.bind0 rfl ?_
  rw [toList_L]
  by_cases k1 : f0 = 1
  · subst k1
    refine To.neg (fun q => (by cases q)) (To.neg (by decide) (To.pos rfl (To.step ?_)))
    simp only [pestleref53_Line.j0]
    have e : lineS ⟨1, f1, f2⟩ = if L f2 = [] then (joinS 32 [hashB, dashS f1], 0) else (eB, 5) := rfl
    rw [e]
    by_cases t : L f2 = []
    · rw [if_pos t]
      refine To.neg (by rw [t]; decide) (To.pos trivial (To.step ?_))
      simp only [pestleref53_Line.j1]
      rw [ref_word_f]
      refine To.neg (by decide) (To.bind0 rfl (To.neg (by decide) (To.pos (by decide) (To.bind (ref_dash_to f1 (by omega)) (To.pos ?_ (To.pos trivial (To.ret' ?_)))))))
      · show (hashB ++ sp).size + _ ≤ _
        rw [ByteArray.size_append, hashB_size, s1]; omega
      · rw [join2]; rfl
    · rw [if_neg t]
      exact To.pos (by rw [bne_iff_ne]; exact t) (To.ret _)
  by_cases k2 : f0 = 2
  · subst k2
    refine To.neg (fun q => (by cases q)) (To.neg (by decide) (To.neg (by decide) (To.step ?_)))
    simp only [pestleref53_Line.j0]
    refine To.neg (by decide) (To.neg (by decide) (To.bind (ref_plain_to f2 h2) (To.step ?_)))
    simp only [pestleref53_Line.j1]
    have e : lineS ⟨2, f1, f2⟩ = if plainS f2 = true then (joinS 32 [verB, dashS f1, f2], 0) else (eB, 8) := rfl
    rw [e]
    by_cases t : plainS f2 = true
    · rw [if_pos t, t, ref_word_f]
      refine To.neg (by decide) (To.bind0 rfl (To.neg (by decide) (To.pos (by decide) (To.bind (ref_dash_to f1 (by omega)) (To.pos ?_ (To.neg (by decide) (To.pos ?_ (To.pos ?_ (To.ret' ?_)))))))))
      · show (verB ++ sp).size + _ ≤ _
        rw [ByteArray.size_append, verB_size, s1]; omega
      · show ((verB ++ sp) ++ _).size + 1 ≤ _
        rw [ByteArray.size_append, ByteArray.size_append, verB_size, s1]; omega
      · show (((verB ++ sp) ++ dashS f1) ++ sp).size + _ ≤ _
        rw [ByteArray.size_append, ByteArray.size_append, ByteArray.size_append, verB_size, s1]; omega
      · rw [join3]; rfl
    · rw [if_neg t]
      exact To.pos (by rw [Bool.not_eq_true] at t; rw [t]; rfl) (To.ret _)
  by_cases k3 : f0 = 3
  · subst k3
    refine To.neg (fun q => (by cases q)) (To.pos rfl ?_)
    have e : lineS ⟨3, f1, f2⟩ = if L f1 = [] then (if plainS f2 = true then (joinS 32 [staB, f2], 0) else (eB, 8)) else (eB, 5) := rfl
    rw [e]
    by_cases t1 : L f1 = []
    · rw [if_pos t1]
      refine To.pos t1 (To.neg (by decide) (To.step ?_))
      simp only [pestleref53_Line.j0]
      refine To.neg (by decide) (To.neg (by decide) (To.bind (ref_plain_to f2 h2) (To.step ?_)))
      simp only [pestleref53_Line.j1]
      by_cases t : plainS f2 = true
      · rw [if_pos t, t, ref_word_f]
        refine To.neg (by decide) (To.bind0 rfl (To.pos trivial (To.neg (by decide) (To.pos (by decide) (To.pos ?_ (To.ret' ?_))))))
        · show (staB ++ sp).size + _ ≤ _
          rw [ByteArray.size_append, staB_size, s1]; omega
        · rw [join2]; rfl
      · rw [if_neg t]
        exact To.pos (by rw [Bool.not_eq_true] at t; rw [t]; rfl) (To.ret _)
    · rw [if_neg t1]
      refine To.neg t1 (To.step ?_)
      simp only [pestleref53_Line.j0]
      exact To.pos trivial (To.ret _)
  have e : lineS ⟨f0, f1, f2⟩ = (eB, 1) := by
    unfold lineS
    rw [if_neg k1, if_neg k2, if_neg k3]
  rw [e]
  exact To.pos (word_nil.mpr (by omega)) (To.ret _)

end Go.Proofs.Ytoknoghdnedmhaa.LineW
