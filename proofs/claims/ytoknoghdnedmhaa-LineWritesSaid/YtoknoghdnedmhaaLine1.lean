/- A call as a line, and a line as a call, in plain lists. -/
import Derived.Test.YtoknoghdnedmhaaFldS
import Derived.Test.YtoknoghdnedmhaaHex2
import Derived.Test.YtoknoghdnedmhaaPallx2
import Derived.Test.YtoknoghdnedmhaaPallx4
import Derived.Test.YtoknoghdnedmhaaPallx5
import Derived.Test.YtoknoghdnedmhaaPallx6
import Derived.Test.YtoknoghdnedmhaaPallx7
import Derived.Test.YtoknoghdnedmhaaPallx10
import Derived.Test.YtoknoghdnedmhaaPallx8
namespace Go.Proofs.Ytoknoghdnedmhaa.Line1
open Go.RowKit Go.Proofs.YtoknoghdnedmhaaW.PrintWords Go.Proofs.YtoknoghdnedmhaaW.PrintLast Go.Proofs.Ytoknoghdnedmhaa.Pall Go.Proofs.Ytoknoghdnedmhaa.Lib Go.Proofs.Ytoknoghdnedmhaa.Byt Go.Proofs.Ytoknoghdnedmhaa.Spl Go.Proofs.Ytoknoghdnedmhaa.Hex1
open Go.Proofs.Ytoknoghdnedmhaa.FldS (parts split_to ref_split_to parts_size parts_len)
open Go.Proofs.Ytoknoghdnedmhaa.Hex2 (dashS dash_to encS encS_size undash_dash dash_undash encL encL_hex encL_len)

abbrev Cl := S49
abbrev Res := Int × ByteArray × ByteArray × Int
def eB : ByteArray := ⟨#[]⟩
def hashB : ByteArray := ⟨#[104, 97, 115, 104]⟩
def verB : ByteArray := ⟨#[118, 101, 114, 105, 102, 121]⟩
def staB : ByteArray := ⟨#[115, 116, 97, 108, 101]⟩
def plainC (c : UInt8) : Prop := 33 ≤ c.toNat ∧ c.toNat ≤ 126
instance (c : UInt8) : Decidable (plainC c) := inferInstanceAs (Decidable (_ ∧ _))
def plainS (s : ByteArray) : Bool := decide ((∀ c ∈ L s, plainC c) ∧ L s ≠ [])
theorem rdOf_nat {α : Type} {z : α} {l : List α} {n : Nat} (h : n < l.length) : rdOf z l (n : Int) = l[n] := by
  unfold rdOf
  simp [List.getD_eq_getElem?_getD, h]
theorem plain_no {s : ByteArray} {n : Nat} (h : n < (L s).length) (hc : ¬ plainC (L s)[n]) : plainS s = false := by
  unfold plainS
  exact decide_eq_false fun h' => hc (h'.1 _ (List.getElem_mem h))
theorem plain_end {s : ByteArray} (h : ∀ c ∈ (L s).take (L s).length, plainC c) : plainS s = decide (L s ≠ []) := by
  rw [List.take_length] at h
  unfold plainS
  by_cases e : L s = []
  · rw [decide_eq_false (fun h' => h'.2 e), decide_eq_false (fun h' => h' e)]
  · rw [decide_eq_true ⟨h, e⟩, decide_eq_true e]
theorem take_snoc {α : Type} {p : α → Prop} {l : List α} {n : Nat} (h : n < l.length) (ha : ∀ c ∈ l.take n, p c) (hb : p l[n]) : ∀ c ∈ l.take (n + 1), p c := by
  intro c hc
  rw [List.take_succ_eq_append_getElem h, List.mem_append] at hc
  rcases hc with hc | hc
  · exact ha c hc
  · rw [List.mem_singleton] at hc; rw [hc]; exact hb
theorem plain_l0 (s : ByteArray) (hs : s.size ≤ 1000000) (d : Nat) : ∀ n : Nat, n + d = (L s).length → (∀ c ∈ (L s).take n, plainC c) →
    To (fun k => line_Plain.l0 k s (s.size : Int) (n : Int)) (plainS s) := by
  rw [size_L] at hs
  induction d with
  | zero =>
    intro n hn hp
    refine To.step ?_
    simp only [line_Plain.l0]
    rw [size_L, toList_L]
    refine To.neg (by omega) (To.ret' ?_)
    have hn' : n = (L s).length := by omega
    rw [hn'] at hp
    rw [plain_end hp]
    cases L s <;> rfl
  | succ d ih =>
    intro n hn hp
    have hlt : n < (L s).length := by omega
    refine To.step ?_
    simp only [line_Plain.l0]
    rw [bt_nat hlt, wrap_id (x := (n : Int) + 1) (by omega) (by omega), size_L]
    refine To.pos (by omega) (To.pos (by omega) (To.pos (by omega) ?_))
    by_cases c : plainC (L s)[n]
    · obtain ⟨c1, c2⟩ := c
      refine To.neg (by omega) (To.neg (by omega) ?_)
      have := ih (n + 1) (by omega) (take_snoc hlt hp ⟨c1, c2⟩)
      rw [size_L] at this
      exact this
    · rw [plain_no hlt c]
      refine To.ite (fun _ => To.ret _) fun h1 => To.pos ?_ (To.ret _)
      have : ¬ (33 ≤ (L s)[n].toNat ∧ (L s)[n].toNat ≤ 126) := c
      omega
theorem plain_to (s : ByteArray) (hs : s.size ≤ 1000000) : To (fun k => line_Plain.f k s) (plainS s) := by
  simp only [line_Plain.f]
  exact plain_l0 s hs (L s).length 0 (by omega) (by simp)
theorem ref_plain_l0 (s : ByteArray) (hs : s.size ≤ 1000000) (d : Nat) : ∀ n : Nat, n + d = (L s).length → (∀ c ∈ (L s).take n, plainC c) →
    To (fun k => pestleref53_Plain.l0 k s (n : Int)) (plainS s) := by
  rw [size_L] at hs
  induction d with
  | zero =>
    intro n hn hp
    refine To.step ?_
    simp only [pestleref53_Plain.l0]
    rw [size_L]
    refine To.neg (by omega) (To.ret' ?_)
    have hn' : n = (L s).length := by omega
    rw [hn'] at hp
    rw [plain_end hp]
    cases L s with
    | nil => rfl
    | cons a l => rw [decide_eq_true (by simp only [List.length_cons]; omega), decide_eq_true (List.cons_ne_nil a l)]
  | succ d ih =>
    intro n hn hp
    have hlt : n < (L s).length := by omega
    refine To.step ?_
    simp only [pestleref53_Plain.l0]
    rw [bt_nat hlt, wrap_id (x := (n : Int) + 1) (by omega) (by omega), size_L]
    refine To.pos (by omega) (To.pos (by omega) ?_)
    by_cases c : plainC (L s)[n]
    · obtain ⟨c1, c2⟩ := c
      refine To.neg (by omega) (To.neg (by omega) ?_)
      exact ih (n + 1) (by omega) (take_snoc hlt hp ⟨c1, c2⟩)
    · rw [plain_no hlt c]
      refine To.ite (fun _ => To.ret _) fun h1 => To.pos ?_ (To.ret _)
      have : ¬ (33 ≤ (L s)[n].toNat ∧ (L s)[n].toNat ≤ 126) := c
      omega
theorem ref_plain_to (s : ByteArray) (hs : s.size ≤ 1000000) : To (fun k => pestleref53_Plain.f k s) (plainS s) := by
  simp only [pestleref53_Plain.f]
  exact ref_plain_l0 s hs (L s).length 0 (by omega) (by simp)

/-- the kind of a word; 0: it is none -/
def kindS (w : ByteArray) : Int := if L w = [104, 97, 115, 104] then 1 else if L w = [118, 101, 114, 105, 102, 121] then 2 else if L w = [115, 116, 97, 108, 101] then 3 else 0
def wordS (k : Int) : ByteArray := if k = 1 then hashB else if k = 2 then verB else if k = 3 then staB else eB
theorem kind_f (w : ByteArray) : line_Kind.f w = some (kindS w, if kindS w = 0 then 6 else 0) := by
  unfold line_Kind.f kindS
  rw [toList_L]
  by_cases h1 : L w = [104, 97, 115, 104]
  · rw [if_pos h1, if_pos h1]; rfl
  rw [if_neg h1, if_neg h1]
  by_cases h2 : L w = [118, 101, 114, 105, 102, 121]
  · rw [if_pos h2, if_pos h2]; rfl
  rw [if_neg h2, if_neg h2]
  by_cases h3 : L w = [115, 116, 97, 108, 101]
  · rw [if_pos h3, if_pos h3]; rfl
  rw [if_neg h3, if_neg h3]; rfl
theorem kind_cases (w : ByteArray) : kindS w = 0 ∨ (kindS w = 1 ∧ w = hashB) ∨ (kindS w = 2 ∧ w = verB) ∨ (kindS w = 3 ∧ w = staB) := by
  unfold kindS
  by_cases h1 : L w = [104, 97, 115, 104]
  · rw [if_pos h1]; exact .inr (.inl ⟨rfl, L_inj h1⟩)
  rw [if_neg h1]
  by_cases h2 : L w = [118, 101, 114, 105, 102, 121]
  · rw [if_pos h2]; exact .inr (.inr (.inl ⟨rfl, L_inj h2⟩))
  rw [if_neg h2]
  by_cases h3 : L w = [115, 116, 97, 108, 101]
  · rw [if_pos h3]; exact .inr (.inr (.inr ⟨rfl, L_inj h3⟩))
  rw [if_neg h3]; exact .inl rfl
theorem word_f (k : Int) : line_Word.f k = some (wordS k, if 1 ≤ k ∧ k ≤ 3 then 0 else 1) := by
  unfold line_Word.f wordS
  by_cases h1 : k = 1
  · subst h1; rfl
  by_cases h2 : k = 2
  · subst h2; rfl
  by_cases h3 : k = 3
  · subst h3; rfl
  rw [if_neg h1, if_neg h2, if_neg h3, if_neg h1, if_neg h2, if_neg h3, if_neg (by omega)]; rfl
theorem ref_word_f (k : Int) : pestleref53_word.f k = some (wordS k) := by
  unfold pestleref53_word.f wordS
  rw [Option.bind_some]
  by_cases h1 : k = 1
  · subst h1; rfl
  by_cases h2 : k = 2
  · subst h2; rfl
  by_cases h3 : k = 3
  · subst h3; rfl
  rw [if_neg h1, if_neg h2, if_neg h3]
  by_cases h : k < 1
  · rw [if_pos h]; rfl
  · rw [if_neg h, if_pos (by omega)]; rfl
theorem kind_word {k : Int} (h : 1 ≤ k ∧ k ≤ 3) : kindS (wordS k) = k := by
  rcases (by omega : k = 1 ∨ k = 2 ∨ k = 3) with rfl | rfl | rfl <;> rfl
theorem word_nil {k : Int} : L (wordS k) = [] ↔ ¬ (1 ≤ k ∧ k ≤ 3) := by
  unfold wordS
  by_cases h1 : k = 1
  · subst h1; exact ⟨fun h => (by cases h), fun h => absurd ⟨by omega, by omega⟩ h⟩
  by_cases h2 : k = 2
  · subst h2; exact ⟨fun h => (by cases h), fun h => absurd ⟨by omega, by omega⟩ h⟩
  by_cases h3 : k = 3
  · subst h3; exact ⟨fun h => (by cases h), fun h => absurd ⟨by omega, by omega⟩ h⟩
  rw [if_neg h1, if_neg h2, if_neg h3]
  exact ⟨fun _ => by omega, fun _ => rfl⟩
theorem word_size (k : Int) : (wordS k).size ≤ 6 := by
  unfold wordS
  by_cases h1 : k = 1
  · rw [if_pos h1]; decide
  by_cases h2 : k = 2
  · rw [if_neg h1, if_pos h2]; decide
  by_cases h3 : k = 3
  · rw [if_neg h1, if_neg h2, if_pos h3]; decide
  rw [if_neg h1, if_neg h2, if_neg h3]; decide

/-! ### a line as a call -/
def bad (e : Int) : Res := (0, eB, eB, e)
def textP (k : Int) (w t : ByteArray) : Res := if plainS t = true then (k, w, t, 0) else bad 8
def readP : List ByteArray → Res
  | [] => bad 6
  | h :: l => if kindS h = 0 then bad 6 else match l with
    | [a] => if kindS h = 2 then bad 5 else if kindS h = 3 then textP 3 eB a else if (undashS a).2 = 0 then (1, (undashS a).1, eB, 0) else bad (undashS a).2
    | [a, b] => if kindS h = 2 then (if (undashS a).2 = 0 then textP 2 (undashS a).1 b else bad (undashS a).2) else bad 5
    | _ => bad 5
def readS (s : ByteArray) : Res := readP (parts 32 s)
theorem parts_ne (c : UInt8) (s : ByteArray) : parts c s ≠ [] := by
  unfold parts splitL
  intro h
  exact splitA_ne c [] (L s) (List.map_eq_nil_iff.mp h)
theorem undash_sz {p s : ByteArray} (h : p ∈ parts 32 s) (hs : s.size ≤ 1000000) : p.size ≤ 1000000000 := by
  have := parts_size 32 s p h
  omega
theorem read_j1 (l : List ByteArray) (kind want : Int) (w : ByteArray) (_hk : kind = 1 ∨ kind = 2 ∨ kind = 3) (hw : want = (l.length : Int)) (hl : 2 ≤ l.length ∧ l.length ≤ 3) (hs : ∀ p ∈ l, p.size ≤ 1000000) :
    To (fun k => line_Read.j1 k l kind want kind w eB) (if kind = 1 then (kind, w, eB, 0) else textP kind w (l.getD (l.length - 1) eB)) := by
  refine To.step ?_
  simp only [line_Read.j1]
  by_cases h1 : kind = 1
  · rw [if_pos h1]; exact To.pos h1 (To.ret _)
  · rw [if_neg h1]
    have e : wrap64 (want - 1) = ((l.length - 1 : Nat) : Int) := by rw [wrap_id (by omega) (by omega)]; omega
    have hlt : l.length - 1 < l.length := by omega
    have eg : l.getD (l.length - 1) eB = l[l.length - 1] := by simp [List.getD_eq_getElem?_getD, hlt]
    rw [e, rdOf_nat hlt, eg]
    refine To.neg h1 (To.pos (by omega) (To.pos (by omega) (To.bind (plain_to _ (hs _ (List.getElem_mem hlt))) ?_)))
    unfold textP
    by_cases hp : plainS l[l.length - 1] = true
    · exact To.pos hp (To.ret' (if_pos hp).symm)
    · exact To.neg hp (To.ret' (if_neg hp).symm)
theorem readP_no {h : ByteArray} {l : List ByteArray} (k0 : kindS h = 0) : readP (h :: l) = bad 6 := if_pos k0
theorem read_to (s : ByteArray) (hs : s.size ≤ 1000000) : To (fun k => line_Read.f k s) (readS s) := by
  simp only [line_Read.f]
  refine To.bind (split_to 32 s hs) ?_
  have hne := parts_ne 32 s
  have hsz : ∀ p ∈ parts 32 s, p.size ≤ 1000000 := fun p hp => Nat.le_trans (parts_size 32 s p hp) hs
  unfold readS
  generalize parts 32 s = ps at *
  cases ps with
  | nil => exact absurd rfl hne
  | cons h l =>
    refine To.pos (by simp only [List.length_cons]; omega) ?_
    have e0 : rdOf ByteArray.empty (h :: l) (0 : Int) = h := rfl
    rw [e0, kind_f]
    refine To.bind0 rfl ?_
    rcases kind_cases h with k0 | ⟨k0, _⟩ | ⟨k0, _⟩ | ⟨k0, _⟩
    · rw [k0]
      refine To.neg (by decide) (To.ret' ?_)
      exact (readP_no k0).symm
    · rw [k0]
      refine To.pos (by decide) (To.neg (by decide) (To.step ?_))
      simp only [line_Read.j0]
      match l, hsz with
      | [a], hsz =>
        refine To.pos rfl (To.neg (by decide) (To.pos (by simp only [List.length_cons, List.length_nil]; omega) ?_))
        have e1 : rdOf ByteArray.empty [h, a] (1 : Int) = a := rfl
        rw [e1]
        refine To.bind (undash_to a (by have := hsz a (by simp); omega)) ?_
        simp only [readP, k0]
        rw [if_neg (by decide), if_neg (by decide), if_neg (by decide)]
        by_cases hu : (undashS a).2 = 0
        · rw [if_pos hu]
          refine To.pos hu ?_
          have := read_j1 [h, a] 1 2 (undashS a).1 (by omega) rfl ⟨by simp only [List.length_cons, List.length_nil]; omega, by simp only [List.length_cons, List.length_nil]; omega⟩ hsz
          rw [if_pos rfl] at this
          exact this
        · rw [if_neg hu]
          exact To.neg hu (To.ret _)
      | [], _ => exact To.neg (by simp) (To.ret' (by simp only [readP, k0]; rw [if_neg (by decide)]; rfl))
      | [a, b], _ => exact To.neg (by simp) (To.ret' (by simp only [readP, k0]; rw [if_neg (by decide), if_neg (by decide)]; rfl))
      | a :: b :: c :: r, _ => exact To.neg (by simp only [List.length_cons]; omega) (To.ret' (by simp only [readP, k0]; rw [if_neg (by decide)]; rfl))
    · rw [k0]
      refine To.pos (by decide) (To.pos rfl (To.step ?_))
      simp only [line_Read.j0]
      match l, hsz with
      | [a, b], hsz =>
        refine To.pos rfl (To.neg (by decide) (To.pos (by simp only [List.length_cons, List.length_nil]; omega) ?_))
        have e1 : rdOf ByteArray.empty [h, a, b] (1 : Int) = a := rfl
        rw [e1]
        refine To.bind (undash_to a (by have := hsz a (by simp); omega)) ?_
        simp only [readP, k0]
        rw [if_neg (by decide), if_pos trivial]
        by_cases hu : (undashS a).2 = 0
        · rw [if_pos hu]
          refine To.pos hu ?_
          have := read_j1 [h, a, b] 2 3 (undashS a).1 (by omega) rfl ⟨by simp only [List.length_cons, List.length_nil]; omega, by simp only [List.length_cons, List.length_nil]; omega⟩ hsz
          rw [if_neg (by decide)] at this
          exact this
        · rw [if_neg hu]
          exact To.neg hu (To.ret _)
      | [], _ => exact To.neg (by simp) (To.ret' (by simp only [readP, k0]; rw [if_neg (by decide)]; rfl))
      | [a], _ => exact To.neg (by simp) (To.ret' (by simp only [readP, k0]; rw [if_neg (by decide), if_pos trivial]; rfl))
      | a :: b :: c :: r, _ => exact To.neg (by simp only [List.length_cons]; omega) (To.ret' (by simp only [readP, k0]; rw [if_neg (by decide)]; rfl))
    · rw [k0]
      refine To.pos (by decide) (To.neg (by decide) (To.step ?_))
      simp only [line_Read.j0]
      match l, hsz with
      | [a], hsz =>
        refine To.pos rfl (To.pos trivial ?_)
        simp only [readP, k0]
        rw [if_neg (by decide), if_neg (by decide), if_pos trivial]
        have := read_j1 [h, a] 3 2 eB (by omega) rfl ⟨by simp only [List.length_cons, List.length_nil]; omega, by simp only [List.length_cons, List.length_nil]; omega⟩ hsz
        rw [if_neg (by decide)] at this
        exact this
      | [], _ => exact To.neg (by simp) (To.ret' (by simp only [readP, k0]; rw [if_neg (by decide)]; rfl))
      | [a, b], _ => exact To.neg (by simp) (To.ret' (by simp only [readP, k0]; rw [if_neg (by decide), if_neg (by decide)]; rfl))
      | a :: b :: c :: r, _ => exact To.neg (by simp only [List.length_cons]; omega) (To.ret' (by simp only [readP, k0]; rw [if_neg (by decide)]; rfl))
end Go.Proofs.Ytoknoghdnedmhaa.Line1
