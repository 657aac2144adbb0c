/- A line as a call by the reference's way, and lines as calls. -/
import Derived.Test.YtoknoghdnedmhaaLine1
import Derived.Test.YtoknoghdnedmhaaPallx8
import Derived.Test.YtoknoghdnedmhaaPallx7
namespace Go.Proofs.Ytoknoghdnedmhaa.Line2
open Go.RowKit Go.Proofs.YtoknoghdnedmhaaW.PrintWords Go.Proofs.YtoknoghdnedmhaaW.PrintLast Go.Proofs.Ytoknoghdnedmhaa.Pall Go.Proofs.Ytoknoghdnedmhaa.Lib Go.Proofs.Ytoknoghdnedmhaa.Byt Go.Proofs.Ytoknoghdnedmhaa.Spl Go.Proofs.Ytoknoghdnedmhaa.Hex1 Go.Proofs.Ytoknoghdnedmhaa.Line1
open Go.Proofs.Ytoknoghdnedmhaa.FldS (parts split_to ref_split_to parts_size parts_len)

theorem kind_ne {h : ByteArray} {k : Int} (hk : 1 ≤ k ∧ k ≤ 3) (e : kindS h ≠ k) : ¬ (wordS k).toList = h.toList := by
  intro q
  rw [toList_L, toList_L] at q
  exact e (by rw [← L_inj q]; exact kind_word hk)
theorem kind_eq {h : ByteArray} {k : Int} (hk : 1 ≤ k ∧ k ≤ 3) (e : kindS h = k) : (wordS k).toList = h.toList := by
  rcases kind_cases h with q | ⟨q, rfl⟩ | ⟨q, rfl⟩ | ⟨q, rfl⟩
  · omega
  · obtain rfl : k = 1 := by omega
    rfl
  · obtain rfl : k = 2 := by omega
    rfl
  · obtain rfl : k = 3 := by omega
    rfl
/-- what the kind is so far -/
def soFar (h : ByteArray) (n : Nat) : Int := if 0 < kindS h ∧ kindS h < (n : Int) then kindS h else 0
theorem ref_read_l0 (h : ByteArray) (l : List ByteArray) (r : Res) (last : To (fun k => pestleref53_Read.l0 k (h :: l) (kindS h) 4) r) (d : Nat) : ∀ n : Nat, n + d = 4 → 1 ≤ n →
    To (fun k => pestleref53_Read.l0 k (h :: l) (soFar h n) (n : Int)) r := by
  induction d with
  | zero =>
    intro n hn _
    obtain rfl : n = 4 := by omega
    have e : soFar h 4 = kindS h := by
      unfold soFar
      rcases kind_cases h with q | ⟨q, _⟩ | ⟨q, _⟩ | ⟨q, _⟩ <;> rw [q] <;> rfl
    rw [e]; exact last
  | succ d ih =>
    intro n hn h1
    refine To.step ?_
    simp only [pestleref53_Read.l0]
    have e0 : rdOf ByteArray.empty (h :: l) (0 : Int) = h := rfl
    rw [wrap_id (x := (n : Int) + 1) (by omega) (by omega), ref_word_f, e0]
    refine To.pos (by omega) (To.bind0 rfl (To.pos (by simp only [List.length_cons]; omega) ?_))
    have i := ih (n + 1) (by omega) (by omega)
    by_cases c : kindS h = (n : Int)
    · refine To.pos (kind_eq (by omega) c) ?_
      have e : soFar h (n + 1) = (n : Int) := by
        unfold soFar
        rw [if_pos (by omega), c]
      rw [e] at i; exact i
    · refine To.neg (kind_ne (by omega) c) ?_
      have e : soFar h (n + 1) = soFar h n := by
        unfold soFar
        by_cases q : 0 < kindS h ∧ kindS h < (n : Int)
        · rw [if_pos q, if_pos (by omega)]
        · rw [if_neg q, if_neg (by omega)]
      rw [e] at i; exact i
theorem ref_j2 (l : List ByteArray) (kind : Int) (w : ByteArray) (hl : 2 ≤ l.length ∧ l.length ≤ 3) (hs : ∀ p ∈ l, p.size ≤ 1000000) :
    To (fun k => pestleref53_Read.j2 k l kind kind w eB) (if kind = 1 then (kind, w, eB, 0) else textP kind w (l.getD (l.length - 1) eB)) := by
  refine To.step ?_
  simp only [pestleref53_Read.j2]
  by_cases h1 : kind = 1
  · rw [if_pos h1]; exact To.pos h1 (To.ret _)
  · rw [if_neg h1]
    have e : wrap64 ((l.length : Int) - 1) = ((l.length - 1 : Nat) : Int) := by rw [wrap_id (by omega) (by omega)]; omega
    have hlt : l.length - 1 < l.length := by omega
    have eg : l.getD (l.length - 1) eB = l[l.length - 1] := by simp [List.getD_eq_getElem?_getD, hlt]
    rw [e, rdOf_nat hlt, eg]
    refine To.neg h1 (To.pos (by omega) (To.pos (by omega) (To.bind (ref_plain_to _ (hs _ (List.getElem_mem hlt))) ?_)))
    unfold textP
    by_cases hp : plainS l[l.length - 1] = true
    · exact To.pos hp (To.ret' (if_pos hp).symm)
    · exact To.neg hp (To.ret' (if_neg hp).symm)
/-- the same, as to what a line's parts are -/
theorem readP_1 {h a : ByteArray} (k0 : kindS h = 1) : readP [h, a] = if (undashS a).2 = 0 then (1, (undashS a).1, eB, 0) else bad (undashS a).2 := by
  simp only [readP, k0]
  rw [if_neg (by decide), if_neg (by decide), if_neg (by decide)]
theorem readP_2 {h a b : ByteArray} (k0 : kindS h = 2) : readP [h, a, b] = if (undashS a).2 = 0 then textP 2 (undashS a).1 b else bad (undashS a).2 := by
  simp only [readP, k0]
  rw [if_neg (by decide), if_pos trivial]
theorem readP_3 {h a : ByteArray} (k0 : kindS h = 3) : readP [h, a] = textP 3 eB a := by
  simp only [readP, k0]
  rw [if_neg (by decide), if_neg (by decide), if_pos trivial]
theorem readP_many {h : ByteArray} {l : List ByteArray} (k0 : kindS h ≠ 0) (hl : kindS h = 2 ∧ l.length ≠ 2 ∨ kindS h ≠ 2 ∧ l.length ≠ 1) : readP (h :: l) = bad 5 := by
  match l with
  | [] => exact if_neg k0
  | [a] =>
    rcases hl with ⟨k2, _⟩ | ⟨_, q⟩
    · simp only [readP]; rw [if_neg k0, if_pos k2]
    · exact absurd rfl q
  | [a, b] =>
    rcases hl with ⟨_, q⟩ | ⟨k2, _⟩
    · exact absurd rfl q
    · simp only [readP]; rw [if_neg k0, if_neg k2]
  | a :: b :: c :: r => exact if_neg k0
theorem ref_read_to (s : ByteArray) (hs : s.size ≤ 1000000) : To (fun k => pestleref53_Read.f k s) (readS s) := by
  simp only [pestleref53_Read.f]
  refine To.bind (ref_split_to 32 s hs) ?_
  have hne := parts_ne 32 s
  have hsz : ∀ p ∈ parts 32 s, p.size ≤ 1000000 := fun p hp => Nat.le_trans (parts_size 32 s p hp) hs
  unfold readS
  generalize parts 32 s = ps at *
  cases ps with
  | nil => exact absurd rfl hne
  | cons h l =>
    have e1 : soFar h 1 = 0 := by
      unfold soFar
      exact if_neg (by omega)
    have := ref_read_l0 h l (readP (h :: l)) ?_ 3 1 (by omega) (by omega)
    · rw [e1] at this; exact this
    refine To.step ?_
    simp only [pestleref53_Read.l0]
    refine To.neg (by omega) ?_
    rcases kind_cases h with k0 | ⟨k0, _⟩ | ⟨k0, _⟩ | ⟨k0, _⟩
    · rw [readP_no k0]; exact To.pos k0 (To.ret _)
    · refine To.neg (by omega) (To.neg (by omega) (To.step ?_))
      simp only [pestleref53_Read.j1]
      by_cases hl : l.length = 1
      · obtain ⟨a, rfl⟩ : ∃ a, l = [a] := List.length_eq_one_iff.mp hl
        refine To.neg (by simp) (To.neg (by omega) (To.pos (by simp only [List.length_cons, List.length_nil]; omega) ?_))
        have ea : rdOf ByteArray.empty [h, a] (1 : Int) = a := rfl
        rw [ea, readP_1 k0]
        refine To.bind (ref_undash_to a (by have := hsz a (by simp); omega)) ?_
        by_cases hu : (undashS a).2 = 0
        · have j := ref_j2 [h, a] (kindS h) (undashS a).1 ⟨by simp only [List.length_cons, List.length_nil]; omega, by simp only [List.length_cons, List.length_nil]; omega⟩ hsz
          rw [if_pos k0, k0] at j
          rw [k0]
          exact To.eq (To.pos hu j) (if_pos hu).symm
        · exact To.eq (To.neg hu (To.ret _)) (if_neg hu).symm
      · rw [readP_many (by omega) (.inr ⟨by omega, hl⟩)]
        refine To.pos ?_ (To.ret _)
        simp only [List.length_cons, bne_iff_ne]; omega
    · refine To.neg (by omega) (To.pos k0 ?_)
      by_cases hl : l.length = 2
      · obtain ⟨a, b, rfl⟩ : ∃ a b, l = [a, b] := Go.Proofs.Ytoknoghdnedmhaa.FldS.two_parts hl
        refine To.pos rfl (To.step ?_)
        simp only [pestleref53_Read.j1]
        refine To.neg (by decide) (To.neg (by omega) (To.pos (by simp only [List.length_cons, List.length_nil]; omega) ?_))
        have ea : rdOf ByteArray.empty [h, a, b] (1 : Int) = a := rfl
        rw [ea, readP_2 k0]
        refine To.bind (ref_undash_to a (by have := hsz a (by simp); omega)) ?_
        by_cases hu : (undashS a).2 = 0
        · have j := ref_j2 [h, a, b] (kindS h) (undashS a).1 ⟨by simp only [List.length_cons, List.length_nil]; omega, by simp only [List.length_cons, List.length_nil]; omega⟩ hsz
          rw [if_neg (by omega), k0] at j
          rw [k0]
          exact To.eq (To.pos hu j) (if_pos hu).symm
        · exact To.eq (To.neg hu (To.ret _)) (if_neg hu).symm
      · rw [readP_many (by omega) (.inl ⟨k0, hl⟩)]
        refine To.neg (by simp only [List.length_cons]; omega) (To.step ?_)
        simp only [pestleref53_Read.j1]
        exact To.pos trivial (To.ret _)
    · refine To.neg (by omega) (To.neg (by omega) (To.step ?_))
      simp only [pestleref53_Read.j1]
      by_cases hl : l.length = 1
      · obtain ⟨a, rfl⟩ : ∃ a, l = [a] := List.length_eq_one_iff.mp hl
        refine To.neg (by simp) (To.pos k0 ?_)
        rw [readP_3 k0]
        have j := ref_j2 [h, a] (kindS h) eB ⟨by simp only [List.length_cons, List.length_nil]; omega, by simp only [List.length_cons, List.length_nil]; omega⟩ hsz
        rw [if_neg (by omega), k0] at j
        rw [k0]
        exact j
      · rw [readP_many (by omega) (.inr ⟨by omega, hl⟩)]
        refine To.pos ?_ (To.ret _)
        simp only [List.length_cons, bne_iff_ne]; omega

/-! ### lines -/
def toC (r : Res) : Cl := ⟨r.1, r.2.1, r.2.2.1⟩
def allA : List Cl → Nat → List ByteArray → List Cl × Int × Int
  | out, _, [] => (out, 0, 0)
  | out, n, [s] => if L s = [] then (out, 0, 0) else ([], (n : Int), 13)
  | out, n, s :: t :: l => if (readS s).2.2.2 = 0 then allA (out ++ [toC (readS s)]) (n + 1) (t :: l) else ([], (n : Int), (readS s).2.2.2)
theorem allA_cons (out : List Cl) (n : Nat) (s : ByteArray) {l : List ByteArray} (h : l ≠ []) : allA out n (s :: l) = if (readS s).2.2.2 = 0 then allA (out ++ [toC (readS s)]) (n + 1) l else ([], (n : Int), (readS s).2.2.2) := by
  cases l with
  | nil => exact absurd rfl h
  | cons t l => rfl
def allS (s : ByteArray) : List Cl × Int × Int := allA [] 0 (parts 10 s)
theorem all_l0 (ps : List ByteArray) (hps : ps.length ≤ 2000000) (hsz : ∀ p ∈ ps, p.size ≤ 1000000) (d : Nat) : ∀ (n : Nat) (out : List Cl), n + d = ps.length → out.length ≤ n →
    To (fun k => line_All.l0 k out ps ps (ps.length : Int) (n : Int)) (allA out n (ps.drop n)) := by
  induction d with
  | zero =>
    intro n out hn _
    refine To.step ?_
    simp only [line_All.l0]
    rw [List.drop_of_length_le (by omega)]
    exact To.neg (by omega) (To.ret _)
  | succ d ih =>
    intro n out hn ho
    have hlt : n < ps.length := by omega
    refine To.step ?_
    simp only [line_All.l0]
    rw [rdOf_nat hlt, wrap_id (x := (ps.length : Int) - 1) (by omega) (by omega), wrap_id (x := (n : Int) + 1) (by omega) (by omega), toList_L]
    refine To.pos (by omega) (To.pos (by omega) (To.pos (by omega) ?_))
    rw [drop_cons hlt]
    by_cases hlast : n + 1 = ps.length
    · rw [List.drop_of_length_le (l := ps) (by omega)]
      refine To.pos (by omega) ?_
      unfold allA
      by_cases he : L ps[n] = []
      · exact To.eq (To.pos he (To.ret _)) (if_pos he).symm
      · exact To.eq (To.neg he (To.ret _)) (if_neg he).symm
    · refine To.neg (by omega) ?_
      rw [allA_cons _ _ _ (fun q => by have := congrArg List.length q; rw [List.length_drop] at this; simp at this; omega)]
      refine To.bind (read_to _ (hsz _ (List.getElem_mem hlt))) ?_
      by_cases he : (readS ps[n]).2.2.2 = 0
      · have := ih (n + 1) (out ++ [toC (readS ps[n])]) (by omega) (by rw [List.length_append, List.length_singleton]; omega)
        exact To.eq (To.pos he (To.pos (by omega) this)) (if_pos he).symm
      · exact To.eq (To.neg he (To.ret _)) (if_neg he).symm
theorem all_to (s : ByteArray) (hs : s.size ≤ 1000000) : To (fun k => line_All.f k s) (allS s) := by
  simp only [line_All.f]
  rw [toList_L]
  by_cases h : L s = []
  · refine To.pos h (To.ret' ?_)
    unfold allS
    have e : parts 10 s = [mkB []] := by unfold parts; rw [h]; rfl
    rw [e]; rfl
  · have := all_l0 (parts 10 s) (by have := parts_len 10 s; omega) (fun p hp => Nat.le_trans (parts_size 10 s p hp) hs) (parts 10 s).length 0 [] (by omega) (by simp)
    exact To.neg h (To.bind (split_to 10 s hs) this)
theorem ref_all_l0 (s : ByteArray) (hs : s.size ≤ 1000000) (d : Nat) : ∀ (n m : Nat) (part : ByteArray) (out : List Cl), n + d = (L s).length → m ≤ n → part.size ≤ n → out.length ≤ n →
    To (fun k => pestleref53_All.l0 k s out part (m : Int) (n : Int)) (allA out m ((splitA 10 (L part) ((L s).drop n)).map mkB)) := by
  rw [size_L] at hs
  induction d with
  | zero =>
    intro n m part out hn _ _ _
    refine To.step ?_
    simp only [pestleref53_All.l0]
    rw [List.drop_of_length_le (by omega), size_L, toList_L, splitA, List.map_cons, List.map_nil, mk_L]
    refine To.neg (by omega) ?_
    unfold allA
    by_cases he : L part = []
    · exact To.eq (To.pos he (To.ret _)) (if_pos he).symm
    · exact To.eq (To.neg he (To.ret _)) (if_neg he).symm
  | succ d ih =>
    intro n m part out hn hm hp ho
    have hlt : n < (L s).length := by omega
    refine To.step ?_
    simp only [pestleref53_All.l0]
    rw [bt_nat hlt, wrap_id (x := (n : Int) + 1) (by omega) (by omega), wrap_id (x := (m : Int) + 1) (by omega) (by omega), drop_cons hlt, splitA]
    have es : s.size = (L s).length := size_L s
    refine To.pos (by omega) (To.pos (by omega) ?_)
    by_cases c : (L s)[n] = 10
    · rw [if_pos c, List.map_cons, mk_L, allA_cons _ _ _ (fun q => splitA_ne 10 _ _ (List.map_eq_nil_iff.mp q))]
      refine To.pos (by rw [c]; rfl) (To.bind (ref_read_to _ (by omega)) ?_)
      by_cases he : (readS part).2.2.2 = 0
      · have := ih (n + 1) (m + 1) (⟨#[]⟩ : ByteArray) (out ++ [toC (readS part)]) (by omega) (by omega) (Nat.zero_le _) (by rw [List.length_append, List.length_singleton]; omega)
        exact To.eq (To.pos he (To.pos (by omega) this)) (if_pos he).symm
      · exact To.eq (To.neg he (To.ret _)) (if_neg he).symm
    · rw [if_neg c]
      refine To.neg (fun q => c (u8_eq q)) (To.pos (by omega) (To.pos (by omega) ?_))
      have ee : L (s.extract ((n : Int)).toNat (((n : Int) + 1)).toNat) = [(L s)[n]] := by
        rw [L_extract, show ((n : Int)).toNat = n from rfl, show ((n : Int) + 1).toNat = n + 1 by omega, show n + 1 - n = 1 by omega, drop_cons hlt]; rfl
      have e1 : (s.extract ((n : Int)).toNat (((n : Int) + 1)).toNat).size = 1 := by rw [size_L, ee]; rfl
      refine To.pos (by rw [e1]; omega) ?_
      have := ih (n + 1) m (part ++ s.extract ((n : Int)).toNat (((n : Int) + 1)).toNat) out (by omega) (by omega) (by rw [ByteArray.size_append, e1]; omega) (by omega)
      rw [L_append, ee] at this
      exact this
theorem ref_all_to (s : ByteArray) (hs : s.size ≤ 1000000) : To (fun k => pestleref53_All.f k s) (allS s) := by
  simp only [pestleref53_All.f]
  exact ref_all_l0 s hs (L s).length 0 0 ⟨#[]⟩ [] (by omega) (by omega) (Nat.zero_le _) (by simp)
theorem rdT_nat {l : List Cl} {n : Nat} (h : n < l.length) : rd_T49 l (n : Int) = l[n] := by
  unfold rd_T49
  simp [List.getD_eq_getElem?_getD, h]
theorem same_l0 (l : List Cl) (hl : l.length ≤ 2000000) (d : Nat) : ∀ n : Nat, n + d = l.length → To (fun k => pestleref53_Same.l0 k l l (n : Int)) true := by
  induction d with
  | zero =>
    intro n hn
    refine To.step ?_
    simp only [pestleref53_Same.l0]
    exact To.neg (by omega) (To.ret _)
  | succ d ih =>
    intro n hn
    refine To.step ?_
    simp only [pestleref53_Same.l0]
    rw [wrap_id (x := (n : Int) + 1) (by omega) (by omega)]
    refine To.pos (by omega) (To.pos (by omega) (To.pos (by omega) (To.neg ?_ (ih (n + 1) (by omega)))))
    simp only [beq_self_eq_true, Bool.not_true, Bool.or_self]
    decide
theorem same_to (l : List Cl) (hl : l.length ≤ 2000000) : To (fun k => pestleref53_Same.f k l l) true := by
  simp only [pestleref53_Same.f]
  exact To.pos trivial (same_l0 l hl l.length 0 (by omega))
theorem allA_len : ∀ (ps : List ByteArray) (out : List Cl) (n : Nat), (allA out n ps).1.length ≤ out.length + ps.length
  | [], out, n => by unfold allA; simp
  | [s], out, n => by
    unfold allA
    split
    · exact Nat.le_add_right _ _
    · exact Nat.zero_le _
  | s :: t :: l, out, n => by
    rw [allA_cons _ _ _ (by simp)]
    split
    · refine Nat.le_trans (allA_len (t :: l) _ _) ?_
      simp only [List.length_append, List.length_cons, List.length_nil]; omega
    · exact Nat.zero_le _
theorem allS_len (s : ByteArray) (hs : s.size ≤ 1000000) : (allS s).1.length ≤ 2000000 := by
  have := allA_len (parts 10 s) [] 0
  have h := parts_len 10 s
  unfold allS
  rw [List.length_nil] at this
  omega
end Go.Proofs.Ytoknoghdnedmhaa.Line2
