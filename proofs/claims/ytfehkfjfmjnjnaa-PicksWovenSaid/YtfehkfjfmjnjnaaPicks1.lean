/- Picks as texts: what is written, what is read. -/
import Derived.Test.YtfehkfjfmjnjnaaDec4
import Derived.Test.YtfehkfjfmjnjnaaSpl
import Derived.Test.YtfehkfjfmjnjnaaPallx9
import Derived.Test.YtfehkfjfmjnjnaaPallx10
namespace Go.Proofs.Ytfehkfjfmjnjnaa.Picks1
open Go.RowKit Go.Proofs.Ytfehkfjfmjnjnaa.Pall Go.Proofs.YtfehkfjfmjnjnaaW.PrintWords Go.Proofs.YtfehkfjfmjnjnaaW.PrintLast Go.Proofs.Ytfehkfjfmjnjnaa.Lib Go.Proofs.Ytfehkfjfmjnjnaa.Byt Go.Proofs.Ytfehkfjfmjnjnaa.Dec1 Go.Proofs.Ytfehkfjfmjnjnaa.Dec2 Go.Proofs.Ytfehkfjfmjnjnaa.Dec3 Go.Proofs.Ytfehkfjfmjnjnaa.Dec4 Go.Proofs.Ytfehkfjfmjnjnaa.Spl

theorem awake36_to : To (fun k => pestlelaw36_awake.f k) true := To.up (fun k => pestlelaw36_awake.mono k) (k := 30) (by decide +kernel)
def Num (n : Int) : Prop := 0 ≤ n ∧ n ≤ 4611686018427387904
instance (n : Int) : Decidable (Num n) := inferInstanceAs (Decidable (_ ∧ _))
def sp : ByteArray := ⟨#[32]⟩
def textsS (l : List Int) : ByteArray × Int := if ∀ x ∈ l, Num x then (listS sp l, 0) else (⟨#[]⟩, 1)
theorem all_drop {l : List Int} {n : Nat} (h : n < l.length) : (∀ x ∈ l.drop n, Num x) ↔ Num l[n] ∧ ∀ x ∈ l.drop (n + 1), Num x := by
  rw [drop_cons h]
  simp only [List.mem_cons, forall_eq_or_imp]
theorem text_l0 (l : List Int) (hl : l.length ≤ 1048576) (hw : ∀ x ∈ l, x ≤ 9223372036854775807) (d : Nat) : ∀ n : Nat, n + d = l.length →
    To (fun k => picks_Text.l0 k l l (l.length : Int) (n : Int)) (if ∀ x ∈ l.drop n, Num x then (listS sp l, 0) else (⟨#[]⟩, 1)) := by
  induction d with
  | zero =>
    intro n hn
    refine To.step ?_
    simp only [picks_Text.l0]
    rw [if_pos (by rw [List.drop_of_length_le (by omega)]; simp)]
    exact To.neg (by omega) (To.neg (by omega) (To.bind (list_to sp (by decide) l hl hw) (To.ret _)))
  | succ d ih =>
    intro n hn
    have hlt : n < l.length := by omega
    refine To.step ?_
    simp only [picks_Text.l0]
    rw [rd_nat hlt, wrap_id (x := (n : Int) + 1) (by omega) (by omega)]
    refine To.pos (by omega) (To.pos (by omega) (To.pos (by omega) (To.ite (fun h => To.ret' ?_) (fun h => To.ite (fun h' => To.ret' ?_) (fun h' => ?_)))))
    · rw [if_neg]; rw [all_drop hlt]; rintro ⟨⟨_, _⟩, _⟩; omega
    · rw [if_neg]; rw [all_drop hlt]; rintro ⟨⟨_, _⟩, _⟩; omega
    · refine (ih (n + 1) (by omega)).eq ?_
      simp only [all_drop hlt, show Num l[n] from ⟨by omega, by omega⟩, true_and]
theorem text_to (l : List Int) (hl : l.length ≤ 1048576) (hw : ∀ x ∈ l, x ≤ 9223372036854775807) : To (fun k => picks_Text.f k l) (textsS l) := by
  simp only [picks_Text.f]
  exact text_l0 l hl hw l.length 0 (by omega)
theorem ref_text_l0 (l : List Int) (hl : l.length ≤ 1048576) (hw : ∀ x ∈ l, x ≤ 9223372036854775807) (d : Nat) : ∀ n : Nat, n + d = l.length →
    To (fun k => pestleref36_Text.l0 k l (n : Int)) (if ∀ x ∈ l.drop n, Num x then (listS sp l, 0) else (⟨#[]⟩, 1)) := by
  induction d with
  | zero =>
    intro n hn
    refine To.step ?_
    simp only [pestleref36_Text.l0]
    rw [if_pos (by rw [List.drop_of_length_le (by omega)]; simp)]
    exact To.neg (by omega) (To.neg (by omega) (To.bind (ref_list_to sp (by decide) l hl hw) (To.ret _)))
  | succ d ih =>
    intro n hn
    have hlt : n < l.length := by omega
    refine To.step ?_
    simp only [pestleref36_Text.l0]
    rw [rd_nat hlt, wrap_id (x := (n : Int) + 1) (by omega) (by omega)]
    refine To.pos (by omega) (To.pos (by omega) (To.ite (fun h => To.ret' ?_) (fun h => To.ite (fun h' => To.ret' ?_) (fun h' => ?_))))
    · rw [if_neg]; rw [all_drop hlt]; rintro ⟨⟨_, _⟩, _⟩; omega
    · rw [if_neg]; rw [all_drop hlt]; rintro ⟨⟨_, _⟩, _⟩; omega
    · refine (ih (n + 1) (by omega)).eq ?_
      simp only [all_drop hlt, show Num l[n] from ⟨by omega, by omega⟩, true_and]
theorem ref_text_to (l : List Int) (hl : l.length ≤ 1048576) (hw : ∀ x ∈ l, x ≤ 9223372036854775807) : To (fun k => pestleref36_Text.f k l) (textsS l) := by
  simp only [pestleref36_Text.f]
  exact ref_text_l0 l hl hw l.length 0 (by omega)

/-! ### reading -/
/-- parts are read, one behind the other -/
def readAll (acc : List Int) : List (List UInt8) → List Int × Int
  | [] => (acc, 0)
  | p :: ps => if (readL p).2 = 0 then readAll (acc ++ [(readL p).1]) ps else ([], (readL p).2)
def picksS (s : ByteArray) : List Int × Int := if L s = [] then ([], 0) else readAll [] (splitL 32 (L s))
theorem readAll_len (acc : List Int) (ps : List (List UInt8)) : (readAll acc ps).1.length ≤ acc.length + ps.length := by
  induction ps generalizing acc with
  | nil => exact Nat.le_refl _
  | cons p ps ih =>
    rw [readAll]
    split
    · have := ih (acc ++ [(readL p).1])
      simp only [List.length_append, List.length_cons, List.length_nil] at this ⊢
      omega
    · simp
theorem read_l0 (s : ByteArray) (hs : s.size ≤ 1000000) (d : Nat) : ∀ (n from_ : Nat) (acc : List Int), n + d = (L s).length → from_ ≤ n → acc.length ≤ n →
    To (fun k => picks_Read.l0 k s acc (from_ : Int) (n : Int)) (readAll acc (splitA 32 (((L s).drop from_).take (n - from_)) ((L s).drop n))) := by
  have hend : ∀ (from_ : Nat) (acc : List Int) (x : List Int × Int), from_ ≤ (L s).length → acc.length ≤ (L s).length →
      To (fun k => (dec_Read.f k (s.extract from_ (L s).length)).bind fun b => if b.2 = 0 then (if acc.length < 17592186044416 then picks_Read.l0 k s (acc ++ [b.1]) (((L s).length + 1 : Nat) : Int) (((L s).length + 1 : Nat) : Int) else none) else some ([], b.2))
        (readAll acc [(L s).drop from_]) := by
    intro from_ acc x hf ha
    rw [size_L] at hs
    have hex : L (s.extract from_ (L s).length) = (L s).drop from_ := by
      rw [L_extract, List.take_of_length_le (by simp)]
    have hr : readS (s.extract from_ (L s).length) = readL ((L s).drop from_) := by unfold readS; rw [hex]
    refine To.bind (Dec2.read_to _ (by rw [size_L, hex, List.length_drop]; omega)) ?_
    rw [hr, readAll]
    refine To.ite (fun h => To.pos (by omega) (To.step ?_)) (fun h => ?_)
    · simp only [picks_Read.l0]
      rw [if_pos h, size_L]
      refine To.neg (by omega) (To.neg ?_ (To.ret _))
      simp only [List.length_append, List.length_cons, List.length_nil]; omega
    · rw [if_neg h]; exact To.ret _
  induction d with
  | zero =>
    intro n from_ acc hn hf ha
    obtain rfl : n = (L s).length := by omega
    have hsz : (s.size : Int) = ((L s).length : Int) := by rw [size_L]
    refine To.step ?_
    simp only [picks_Read.l0]
    refine To.pos (by omega) (To.neg (by omega) (To.step ?_))
    simp only [picks_Read.j1]
    rw [size_L] at hs
    rw [wrap_id (x := ((L s).length : Int) + 1) (by omega) (by omega), Int.toNat_natCast, Int.toNat_natCast]
    refine To.neg (by decide) (To.pos (by omega) (To.pos (by omega) (To.pos (by omega) ?_)))
    rw [List.drop_length, List.take_of_length_le (by rw [List.length_drop]; omega)]
    exact hend from_ acc ([], 0) hf ha
  | succ d ih =>
    intro n from_ acc hn hf ha
    have hlt : n < (L s).length := by omega
    have hsz : (s.size : Int) = ((L s).length : Int) := by rw [size_L]
    rw [size_L] at hs
    refine To.step ?_
    simp only [picks_Read.l0]
    rw [bt_nat hlt]
    refine To.pos (by omega) (To.pos (by omega) (To.pos (by omega) (To.step ?_)))
    simp only [picks_Read.j1]
    rw [wrap_id (x := (n : Int) + 1) (by omega) (by omega), Int.toNat_natCast, Int.toNat_natCast, drop_cons hlt]
    by_cases hc : (L s)[n] = 32
    · have hb : (((L s)[n].toNat : Int) != 32) = false := by rw [hc]; rfl
      rw [hb, splitA, if_pos hc, readAll]
      have hex : L (s.extract from_ n) = ((L s).drop from_).take (n - from_) := L_extract _ _ _
      have hr : readS (s.extract from_ n) = readL (((L s).drop from_).take (n - from_)) := by unfold readS; rw [hex]
      refine To.neg (by decide) (To.pos (by omega) (To.pos (by omega) (To.pos (by omega) (To.bind (Dec2.read_to _ (by rw [size_L, hex, List.length_take, List.length_drop]; omega)) ?_))))
      rw [hr]
      refine To.ite (fun h => To.pos (by omega) ?_) (fun h => ?_)
      · rw [if_pos h]
        have := ih (n + 1) (n + 1) (acc ++ [(readL (((L s).drop from_).take (n - from_))).1]) (by omega) (by omega) (by simp; omega)
        rw [Nat.sub_self, List.take_zero] at this
        exact this
      · rw [if_neg h]; exact To.ret _
    · have hb : (((L s)[n].toNat : Int) != 32) = true := by
        rw [bne_iff_ne]
        intro e
        exact hc (UInt8.toNat_inj.1 (by have : (32 : UInt8).toNat = 32 := rfl; omega))
      rw [hb, splitA, if_neg hc]
      refine To.pos rfl ?_
      have := ih (n + 1) from_ acc (by omega) (by omega) (by omega)
      have e : ((L s).drop from_).take (n + 1 - from_) = ((L s).drop from_).take (n - from_) ++ [(L s)[n]] := by
        rw [show n + 1 - from_ = (n - from_) + 1 by omega, List.take_succ_eq_append_getElem (by rw [List.length_drop]; omega)]
        congr 2
        rw [List.getElem_drop]
        congr 1
        omega
      rw [e] at this
      exact this
theorem read_to (s : ByteArray) (hs : s.size ≤ 1000000) : To (fun k => picks_Read.f k s) (picksS s) := by
  unfold picksS
  simp only [picks_Read.f]
  rw [toList_L]
  refine To.ite (fun h => To.ret' (by rw [if_pos h])) (fun h => ?_)
  rw [if_neg h]
  exact read_l0 s hs (L s).length 0 0 [] (by omega) (by omega) (by simp)
theorem ref_read_l0 (s : ByteArray) (hs : s.size ≤ 1000000) (d : Nat) : ∀ (n : Nat) (word : ByteArray) (acc : List Int), n + d = (L s).length → word.size ≤ n → acc.length ≤ n →
    To (fun k => pestleref36_Read.l0 k s acc word (n : Int)) (readAll acc (splitA 32 (L word) ((L s).drop n))) := by
  induction d with
  | zero =>
    intro n word acc hn hf ha
    obtain rfl : n = (L s).length := by omega
    have hsz : (s.size : Int) = ((L s).length : Int) := by rw [size_L]
    refine To.step ?_
    simp only [pestleref36_Read.l0]
    refine To.pos (by omega) (To.neg (by omega) (To.step ?_))
    simp only [pestleref36_Read.j1]
    rw [size_L] at hs
    rw [wrap_id (x := ((L s).length : Int) + 1) (by omega) (by omega), List.drop_length]
    refine To.neg (by decide) (To.bind (Dec2.ref_read_to _ (by omega)) ?_)
    show To _ (readAll acc [L word])
    rw [readAll]
    refine To.ite (fun h => To.pos (by omega) (To.step ?_)) (fun h => ?_)
    · have h' : (readL (L word)).2 = 0 := h
      simp only [pestleref36_Read.l0]
      rw [if_pos h', size_L]
      exact To.neg (by omega) (To.ret _)
    · have h' : ¬ (readL (L word)).2 = 0 := h
      rw [if_neg h']; exact To.ret _
  | succ d ih =>
    intro n word acc hn hf ha
    have hlt : n < (L s).length := by omega
    have hsz : (s.size : Int) = ((L s).length : Int) := by rw [size_L]
    rw [size_L] at hs
    refine To.step ?_
    simp only [pestleref36_Read.l0]
    rw [bt_nat hlt]
    refine To.pos (by omega) (To.pos (by omega) (To.pos (by omega) (To.step ?_)))
    simp only [pestleref36_Read.j1]
    rw [wrap_id (x := (n : Int) + 1) (by omega) (by omega), Int.toNat_natCast, drop_cons hlt]
    by_cases hc : (L s)[n] = 32
    · have hb : (((L s)[n].toNat : Int) != 32) = false := by rw [hc]; rfl
      rw [hb, splitA, if_pos hc, readAll]
      refine To.neg (by decide) (To.bind (Dec2.ref_read_to _ (by omega)) (To.ite (fun h => To.pos (by omega) ?_) (fun h => ?_)))
      · have h' : (readL (L word)).2 = 0 := h
        rw [if_pos h']
        have := ih (n + 1) ⟨#[]⟩ (acc ++ [(readL (L word)).1]) (by omega) (Nat.zero_le _) (by simp; omega)
        exact this
      · have h' : ¬ (readL (L word)).2 = 0 := h
        rw [if_neg h']; exact To.ret _
    · have hb : (((L s)[n].toNat : Int) != 32) = true := by
        rw [bne_iff_ne]
        intro e
        exact hc (UInt8.toNat_inj.1 (by have : (32 : UInt8).toNat = 32 := rfl; omega))
      have hex : L (s.extract n ((n : Int) + 1).toNat) = [(L s)[n]] := by
        rw [L_extract, show ((n : Int) + 1).toNat - n = 1 by omega, drop_cons hlt]
        rfl
      have hes : (s.extract n ((n : Int) + 1).toNat).size = 1 := by rw [size_L, hex]; rfl
      rw [hb, splitA, if_neg hc]
      refine To.pos rfl (To.pos (by omega) (To.pos (by omega) (To.pos (by omega) (To.pos (by omega) ?_))))
      have := ih (n + 1) (word ++ s.extract n ((n : Int) + 1).toNat) acc (by omega) (by rw [ByteArray.size_append]; omega) (by omega)
      rw [L_append, hex] at this
      exact this
theorem ref_read_to (s : ByteArray) (hs : s.size ≤ 1000000) : To (fun k => pestleref36_Read.f k s) (picksS s) := by
  unfold picksS
  simp only [pestleref36_Read.f]
  rw [toList_L]
  refine To.ite (fun h => To.ret' (by rw [if_pos h])) (fun h => ?_)
  rw [if_neg h]
  exact ref_read_l0 s hs (L s).length 0 ⟨#[]⟩ [] (by omega) (Nat.zero_le _) (by simp)
theorem same_l0 (a : List Int) (ha : a.length ≤ 1000000000) (d : Nat) : ∀ n : Nat, n + d = a.length → To (fun k => pestlelaw36_same.l0 k a a (a.length : Int) (n : Int)) true := by
  induction d with
  | zero =>
    intro n hn
    refine To.step ?_
    simp only [pestlelaw36_same.l0]
    exact To.neg (by omega) (To.ret _)
  | succ d ih =>
    intro n hn
    refine To.step ?_
    simp only [pestlelaw36_same.l0]
    rw [wrap_id (x := (n : Int) + 1) (by omega) (by omega)]
    exact To.pos (by omega) (To.pos (by omega) (To.pos (by omega) (To.pos (by omega) (To.pos trivial (ih (n + 1) (by omega))))))
theorem same_to (a : List Int) (ha : a.length ≤ 1000000000) : To (fun k => pestlelaw36_same.f k a a) true := by
  simp only [pestlelaw36_same.f]
  exact To.pos trivial (same_l0 a ha a.length 0 (by omega))

/-! ### to and fro -/
theorem L_sp : L sp = [32] := rfl
theorem listA_join (b : ByteArray) (c : UInt8) (hb : L b = [c]) (l : List Int) (out : ByteArray) : L (listA b false out l) = L out ++ (l.map fun n => c :: L (item n)).flatten := by
  induction l generalizing out with
  | nil => simp [listA]
  | cons n l ih =>
    rw [listA_cons, ih, if_neg (by decide), L_append, L_append, hb]
    simp
theorem joinL_flat (c : UInt8) (p : List UInt8) (ps : List (List UInt8)) : joinL c (p :: ps) = p ++ (ps.map fun q => c :: q).flatten := by
  induction ps generalizing p with
  | nil => simp [joinL]
  | cons q ps ih => rw [joinL, ih]; simp
theorem L_listS (b : ByteArray) (c : UInt8) (hb : L b = [c]) (l : List Int) : L (listS b l) = joinL c (l.map fun n => L (item n)) := by
  cases l with
  | nil => rfl
  | cons n l =>
    unfold listS
    rw [listA_cons, listA_join b c hb, if_pos rfl, L_append, L_nil, List.nil_append, List.map_cons, joinL_flat, List.map_map]
    rfl
theorem item_num {n : Int} (h : Num n) : L (item n) = textN n.toNat := by rw [item_pos (by have := h.1; omega), L_textS h.1]
theorem readL_item {n : Int} (h : Num n) : readL (L (item n)) = (n, 0) := by
  have h1 := h.1
  have h2 := h.2
  rw [item_num h]
  have := read_text h.1
  unfold readS at this
  rw [L_textS h.1] at this
  rw [this, numS_lo (by omega), Int.toNat_of_nonneg h.1]
theorem readAll_items (l : List Int) (h : ∀ x ∈ l, Num x) (acc : List Int) : readAll acc (l.map fun n => L (item n)) = (acc ++ l, 0) := by
  induction l generalizing acc with
  | nil => simp [readAll]
  | cons n l ih =>
    rw [List.map_cons, readAll, readL_item (h n (by simp)), if_pos rfl, ih (fun x hx => h x (by simp [hx]))]
    simp
theorem picks_back {l : List Int} (h : ∀ x ∈ l, Num x) : picksS (listS sp l) = (l, 0) := by
  unfold picksS
  rw [L_listS sp 32 rfl]
  cases l with
  | nil => rfl
  | cons n l =>
    have hne : joinL 32 ((n :: l).map fun n => L (item n)) ≠ [] := by
      rw [List.map_cons, joinL_flat, item_num (h n (by simp))]
      have := textN_ne n.toNat
      simp [this]
    rw [if_neg hne, split_join _ _ (by simp) ?_, readAll_items _ h, List.nil_append]
    intro p hp
    rw [List.mem_map] at hp
    obtain ⟨m, hm, rfl⟩ := hp
    rw [item_num (h m hm)]
    intro h32
    have := (textN_dig _ _ h32).1
    exact absurd this (by decide)
theorem readAll_back (ps : List (List UInt8)) : ∀ (acc : List Int), (∀ x ∈ acc, Num x) → (readAll acc ps).2 = 0 → (∀ x ∈ (readAll acc ps).1, Num x) ∧ (readAll acc ps).1.map (fun n => L (item n)) = acc.map (fun n => L (item n)) ++ ps := by
  induction ps with
  | nil => intro acc ha _; exact ⟨ha, by simp [readAll]⟩
  | cons p ps ih =>
    intro acc ha h
    rw [readAll] at h ⊢
    by_cases h0 : (readL p).2 = 0
    · rw [if_pos h0] at h ⊢
      have t := text_read (s := mkB p) (by unfold readS; rw [L_mk]; exact h0)
      unfold readS at t
      rw [L_mk] at t
      have hn : Num (readL p).1 := t.2
      obtain ⟨a, b⟩ := ih (acc ++ [(readL p).1]) (by intro x hx; rw [List.mem_append, List.mem_singleton] at hx; rcases hx with hx | rfl; exact ha x hx; exact hn) h
      refine ⟨a, ?_⟩
      rw [b, List.map_append, List.map_cons, List.map_nil, List.append_assoc]
      congr 1
      rw [item_num hn, ← L_textS hn.1, t.1, L_mk]
      rfl
    · rw [if_neg h0] at h
      exact absurd h h0
theorem picks_only {s : ByteArray} (h : (picksS s).2 = 0) : textsS (picksS s).1 = (s, 0) := by
  unfold picksS at h ⊢
  by_cases h0 : L s = []
  · rw [if_pos h0]
    have : s = ⟨#[]⟩ := L_inj h0
    subst this
    rfl
  · rw [if_neg h0] at h ⊢
    obtain ⟨a, b⟩ := readAll_back _ [] (by simp) h
    unfold textsS
    rw [if_pos a]
    refine Prod.ext (L_inj ?_) rfl
    show L (listS sp _) = L s
    rw [L_listS sp 32 rfl, b, List.map_nil, List.nil_append]
    unfold splitL
    rw [join_split, List.nil_append]
theorem textsS_cases (l : List Int) : ((∀ x ∈ l, Num x) ∧ textsS l = (listS sp l, 0)) ∨ textsS l = (⟨#[]⟩, 1) := by
  unfold textsS
  by_cases h : ∀ x ∈ l, Num x
  · rw [if_pos h]; exact Or.inl ⟨h, rfl⟩
  · rw [if_neg h]; exact Or.inr rfl
end Go.Proofs.Ytfehkfjfmjnjnaa.Picks1
