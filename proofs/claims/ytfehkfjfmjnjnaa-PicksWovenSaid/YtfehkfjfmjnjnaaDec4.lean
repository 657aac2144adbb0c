/- Two digits, and lists of numbers with something between. -/
import Derived.Test.YtfehkfjfmjnjnaaDec3
import Derived.Test.YtfehkfjfmjnjnaaPallx7
namespace Go.Proofs.Ytfehkfjfmjnjnaa.Dec4
open Go.RowKit Go.Proofs.YtfehkfjfmjnjnaaW.PrintWords Go.Proofs.YtfehkfjfmjnjnaaW.PrintLast Go.Proofs.Ytfehkfjfmjnjnaa.Pall Go.Proofs.Ytfehkfjfmjnjnaa.Lib Go.Proofs.Ytfehkfjfmjnjnaa.Byt Go.Proofs.Ytfehkfjfmjnjnaa.Dec1 Go.Proofs.Ytfehkfjfmjnjnaa.Dec2 Go.Proofs.Ytfehkfjfmjnjnaa.Dec3

def twoS (n : Int) : ByteArray × Int := if n < 0 ∨ n > 99 then (⟨#[]⟩, 1) else (mkB [dig (n.toNat / 10), dig (n.toNat % 10)], 0)
theorem two_is (n : Int) : dec_Two.f n = some (twoS n) := by
  unfold dec_Two.f twoS
  by_cases h : n < 0
  · rw [if_pos h, if_pos (Or.inl h)]
  by_cases h' : n > 99
  · rw [if_neg h, if_pos h', if_pos (Or.inr h')]
  rw [if_neg h, if_neg h', if_neg (by omega)]
  obtain ⟨m, rfl⟩ : ∃ m : Nat, n = m := ⟨n.toNat, by omega⟩
  rw [Int.toNat_natCast]
  have e0 : Int.tdiv (m : Int) 10 = ((m / 10 : Nat) : Int) := by rw [Int.tdiv_eq_ediv_of_nonneg (by omega)]; omega
  have e1 : Int.tmod (m : Int) 10 = ((m % 10 : Nat) : Int) := by rw [Int.tmod_eq_emod_of_nonneg (by omega)]; omega
  rw [e0, e1, wrap_id (x := ((m / 10 : Nat) : Int)) (by omega) (by omega), wrap_id (x := 48 + ((m / 10 : Nat) : Int)) (by omega) (by omega), wrap_id (x := 48 + ((m % 10 : Nat) : Int)) (by omega) (by omega)]
  have e2 : [(48 + ((m / 10 : Nat) : Int)) % 256, (48 + ((m % 10 : Nat) : Int)) % 256] = U [dig (m / 10), dig (m % 10)] := by
    simp only [U, List.map_cons, List.map_nil]
    rw [dig_nat (by omega), dig_nat (by omega)]
    have a1 : (48 + ((m / 10 : Nat) : Int)) % 256 = ((48 + m / 10 : Nat) : Int) := by omega
    have a2 : (48 + ((m % 10 : Nat) : Int)) % 256 = ((48 + m % 10 : Nat) : Int) := by omega
    rw [a1, a2]
  rw [e2, str_U]
def readTwoL : List UInt8 → Int × Int
  | [a, b] => if isDig a ∧ isDig b then (((10 * (a.toNat - 48) + (b.toNat - 48) : Nat) : Int), 0) else (0, 7)
  | _ => (0, 7)
def readTwoS (s : ByteArray) : Int × Int := readTwoL (L s)
theorem two_of {s : ByteArray} (h : s.size = 2) : ∃ a b, L s = [a, b] := by
  rw [size_L] at h
  match e : L s, h with
  | [a, b], _ => exact ⟨a, b, rfl⟩
theorem readTwoL_not {l : List UInt8} (h : l.length ≠ 2) : readTwoL l = (0, 7) := by
  match l, h with
  | [], _ => rfl
  | [_], _ => rfl
  | [_, _], h => exact absurd rfl h
  | _ :: _ :: _ :: _, _ => rfl
theorem readTwo_to (s : ByteArray) : To (fun k => dec_ReadTwo.f k s) (readTwoS s) := by
  unfold readTwoS
  simp only [dec_ReadTwo.f]
  by_cases h : (s.size : Int) = 2
  · refine To.pos h ?_
    obtain ⟨a, b, e⟩ := two_of (s := s) (by omega)
    have b0 : bt s 0 = (a.toNat : Int) := by
      have := bt_nat (s := s) (n := 0) (by rw [e]; simp)
      simpa [e] using this
    have b1 : bt s 1 = (b.toNat : Int) := by
      have := bt_nat (s := s) (n := 1) (by rw [e]; simp)
      simpa [e] using this
    have w0 : wrap64 (0 + 1) = 1 := wrap_id (by omega) (by omega)
    have w1 : wrap64 (1 + 1) = 2 := wrap_id (by omega) (by omega)
    rw [e]
    have hout : ¬ (isDig a ∧ isDig b) → readTwoL [a, b] = (0, 7) := fun hn => if_neg hn
    have hin : isDig a ∧ isDig b → readTwoL [a, b] = (((10 * (a.toNat - 48) + (b.toNat - 48) : Nat) : Int), 0) := fun hn => if_pos hn
    refine To.step ?_
    simp only [dec_ReadTwo.l0]
    rw [b0, w0, h]
    refine To.pos (by omega) (To.pos (by omega) (To.pos (by omega) (To.ite (fun h1 => To.ret' ?_) (fun h1 => To.ite (fun h2 => To.ret' ?_) (fun h2 => ?_)))))
    · rw [hout]; rintro ⟨⟨_, _⟩, _⟩; omega
    · rw [hout]; rintro ⟨⟨_, _⟩, _⟩; omega
    refine To.step ?_
    simp only [dec_ReadTwo.l0]
    rw [b1, w1, h]
    refine To.pos (by omega) (To.pos (by omega) (To.pos (by omega) (To.ite (fun h3 => To.ret' ?_) (fun h3 => To.ite (fun h4 => To.ret' ?_) (fun h4 => ?_)))))
    · rw [hout]; rintro ⟨_, ⟨_, _⟩⟩; omega
    · rw [hout]; rintro ⟨_, ⟨_, _⟩⟩; omega
    refine To.step ?_
    simp only [dec_ReadTwo.l0]
    rw [b0, b1, h]
    refine To.neg (by omega) (To.pos (by omega) (To.pos (by omega) (To.ret' ?_)))
    rw [hin ⟨⟨by omega, by omega⟩, ⟨by omega, by omega⟩⟩]
    refine Prod.ext ?_ rfl
    show 10 * (((a.toNat : Int) - 48) % 256) + ((b.toNat : Int) - 48) % 256 = ((10 * (a.toNat - 48) + (b.toNat - 48) : Nat) : Int)
    omega
  · refine To.neg h (To.ret' ?_)
    rw [readTwoL_not (by rw [← size_L]; omega)]
/-- what two digits are read as is written so -/
theorem two_back {s : ByteArray} (h : (readTwoS s).2 = 0) : twoS (readTwoS s).1 = (s, 0) := by
  unfold readTwoS at h ⊢
  by_cases h2 : (L s).length = 2
  · obtain ⟨a, b, e⟩ := two_of (s := s) (by rw [size_L]; exact h2)
    rw [e] at h ⊢
    by_cases hd : isDig a ∧ isDig b
    · have e1 : readTwoL [a, b] = (((10 * (a.toNat - 48) + (b.toNat - 48) : Nat) : Int), 0) := if_pos hd
      rw [e1]
      obtain ⟨⟨a1, a2⟩, ⟨b1, b2⟩⟩ := hd
      show twoS ((10 * (a.toNat - 48) + (b.toNat - 48) : Nat) : Int) = _
      unfold twoS
      rw [if_neg (by omega), Int.toNat_natCast]
      refine Prod.ext (L_inj ?_) rfl
      rw [L_mk, e, show (10 * (a.toNat - 48) + (b.toNat - 48)) / 10 = a.toNat - 48 by omega, show (10 * (a.toNat - 48) + (b.toNat - 48)) % 10 = b.toNat - 48 by omega]
      have ea : dig (a.toNat - 48) = a := UInt8.toNat_inj.1 (by rw [dig_nat (by omega)]; omega)
      have eb : dig (b.toNat - 48) = b := UInt8.toNat_inj.1 (by rw [dig_nat (by omega)]; omega)
      rw [ea, eb]
    · have e1 : readTwoL [a, b] = (0, 7) := if_neg hd
      rw [e1] at h
      exact absurd h (by simp)
  · rw [readTwoL_not h2] at h
    exact absurd h (by simp)

/-! ### lists -/
def item (n : Int) : ByteArray := if n < 0 then mkB [45] else textS n
/-- what has been written, what is to come; is it the first -/
def listA (b : ByteArray) : Bool → ByteArray → List Int → ByteArray
  | _, out, [] => out
  | first, out, n :: l => listA b false ((if first then out else out ++ b) ++ item n) l
def listS (b : ByteArray) (l : List Int) : ByteArray := listA b true ⟨#[]⟩ l
theorem listA_cons (b : ByteArray) (first : Bool) (out : ByteArray) (n : Int) (l : List Int) : listA b first out (n :: l) = listA b false ((if first then out else out ++ b) ++ item n) l := rfl
theorem textS_size {n : Int} (h : n ≤ 9223372036854775807) : (textS n).size ≤ 21 := by
  rw [size_L]
  by_cases hn : n < 0
  · rw [L_textS_neg hn]; simp
  · rw [L_textS (by omega)]
    have := textN_len n.toNat 20 (by omega)
    omega
theorem item_neg {n : Int} (h : n < 0) : item n = (⟨#[45]⟩ : ByteArray) := if_pos h
theorem item_pos {n : Int} (h : ¬ n < 0) : item n = textS n := if_neg h
theorem item_size {n : Int} (h : n ≤ 9223372036854775807) : (item n).size ≤ 21 := by
  by_cases hn : n < 0
  · rw [item_neg hn]; decide
  · rw [item_pos hn]; exact textS_size h
theorem list_l0 (b : ByteArray) (hb : b.size ≤ 1000) (l : List Int) (hl : l.length ≤ 1048576) (hw : ∀ x ∈ l, x ≤ 9223372036854775807) (d : Nat) : ∀ (n : Nat) (acc : ByteArray), n + d = l.length → acc.size ≤ n * 2000 →
    To (fun k => dec_List.l0 k b acc l (l.length : Int) (n : Int)) (listA b (n == 0) acc (l.drop n)) := by
  induction d with
  | zero =>
    intro n acc hn ha
    refine To.step ?_
    simp only [dec_List.l0]
    refine To.neg (by omega) (To.ret' ?_)
    rw [List.drop_of_length_le (by omega)]
    rfl
  | succ d ih =>
    intro n acc hn ha
    have hlt : n < l.length := by omega
    have hx := hw _ (List.getElem_mem hlt)
    refine To.step ?_
    simp only [dec_List.l0]
    rw [rd_nat hlt, drop_cons hlt, listA_cons, wrap_id (x := (n : Int) + 1) (by omega) (by omega)]
    have hi := item_size hx
    refine To.pos (by omega) (To.pos (by omega) (To.pos (by omega) (To.ite (fun h => To.pos (by omega) ?_) (fun h => ?_))))
    · rw [show (n == 0) = false from beq_eq_false_iff_ne.2 (by omega)]
      have hs : (acc ++ b).size = acc.size + b.size := ByteArray.size_append
      have hs2 : ((acc ++ b) ++ item l[n]).size = acc.size + b.size + (item l[n]).size := by rw [ByteArray.size_append, hs]
      have := ih (n + 1) ((acc ++ b) ++ item l[n]) (by omega) (by omega)
      rw [show (n + 1 == 0) = false from rfl] at this
      refine To.ite (fun h1 => To.pos (by omega) ?_) (fun h1 => To.bind (text_to _ hx) (To.pos ?_ ?_))
      · rw [item_neg h1] at this ⊢; exact this
      · rw [item_pos h1] at hi; omega
      · rw [item_pos h1] at this ⊢; exact this
    · rw [show (n == 0) = true from beq_iff_eq.2 (by omega)]
      have hs2 : (acc ++ item l[n]).size = acc.size + (item l[n]).size := ByteArray.size_append
      have := ih (n + 1) (acc ++ item l[n]) (by omega) (by omega)
      rw [show (n + 1 == 0) = false from rfl] at this
      refine To.ite (fun h1 => To.pos (by omega) ?_) (fun h1 => To.bind (text_to _ hx) (To.pos ?_ ?_))
      · rw [item_neg h1] at this ⊢; exact this
      · rw [item_pos h1] at hi; omega
      · rw [item_pos h1] at this ⊢; exact this
theorem list_to (b : ByteArray) (hb : b.size ≤ 1000) (l : List Int) (hl : l.length ≤ 1048576) (hw : ∀ x ∈ l, x ≤ 9223372036854775807) : To (fun k => dec_List.f k b l) (listS b l) := by
  simp only [dec_List.f]
  exact list_l0 b hb l hl hw l.length 0 _ (by omega) (by decide)
theorem app_empty (a : ByteArray) : a ++ (⟨#[]⟩ : ByteArray) = a := by
  apply L_inj
  rw [L_append, L_nil, List.append_nil]
theorem ref_list_l0 (b : ByteArray) (hb : b.size ≤ 1000) (l : List Int) (hl : l.length ≤ 1048576) (hw : ∀ x ∈ l, x ≤ 9223372036854775807) (d : Nat) : ∀ (n : Nat) (acc : ByteArray), n + d = l.length → acc.size ≤ n * 2000 →
    To (fun k => pestleref18_List.l0 k b l acc (n : Int)) (listA b (n == 0) acc (l.drop n)) := by
  induction d with
  | zero =>
    intro n acc hn ha
    refine To.step ?_
    simp only [pestleref18_List.l0]
    refine To.neg (by omega) (To.ret' ?_)
    rw [List.drop_of_length_le (by omega)]
    rfl
  | succ d ih =>
    intro n acc hn ha
    have hlt : n < l.length := by omega
    have hx := hw _ (List.getElem_mem hlt)
    refine To.step ?_
    simp only [pestleref18_List.l0]
    rw [rd_nat hlt, drop_cons hlt, listA_cons, wrap_id (x := (n : Int) + 1) (by omega) (by omega)]
    have hi := item_size hx
    have ht := textS_size hx
    have s45 : (⟨#[45]⟩ : ByteArray).size = 1 := rfl
    refine To.pos (by omega) (To.ite (fun h => To.pos (by omega) (To.pos (by omega) ?_)) (fun h => To.pos (by omega) ?_))
    · rw [show (n == 0) = false from beq_eq_false_iff_ne.2 (by omega)]
      have hs : (acc ++ b).size = acc.size + b.size := ByteArray.size_append
      have hs2 : ((acc ++ b) ++ item l[n]).size = acc.size + b.size + (item l[n]).size := by rw [ByteArray.size_append, hs]
      have := ih (n + 1) ((acc ++ b) ++ item l[n]) (by omega) (by omega)
      rw [show (n + 1 == 0) = false from rfl] at this
      refine To.ite (fun h1 => To.pos (by omega) (To.bind (ref_text_to _ hx) (To.pos ?_ ?_))) (fun h1 => To.bind (ref_text_to _ hx) (To.pos ?_ ?_))
      · rw [ByteArray.size_append, hs]; omega
      · have e : textS l[n] = ⟨#[]⟩ := if_pos h1
        rw [item_neg h1] at this ⊢
        rw [e, app_empty]; exact this
      · omega
      · rw [item_pos h1] at this ⊢; exact this
    · rw [show (n == 0) = true from beq_iff_eq.2 (by omega)]
      have hs2 : (acc ++ item l[n]).size = acc.size + (item l[n]).size := ByteArray.size_append
      have := ih (n + 1) (acc ++ item l[n]) (by omega) (by omega)
      rw [show (n + 1 == 0) = false from rfl] at this
      refine To.ite (fun h1 => To.pos (by omega) (To.bind (ref_text_to _ hx) (To.pos ?_ ?_))) (fun h1 => To.bind (ref_text_to _ hx) (To.pos ?_ ?_))
      · rw [ByteArray.size_append]; omega
      · have e : textS l[n] = ⟨#[]⟩ := if_pos h1
        rw [item_neg h1] at this ⊢
        rw [e, app_empty]; exact this
      · omega
      · rw [item_pos h1] at this ⊢; exact this
theorem ref_list_to (b : ByteArray) (hb : b.size ≤ 1000) (l : List Int) (hl : l.length ≤ 1048576) (hw : ∀ x ∈ l, x ≤ 9223372036854775807) : To (fun k => pestleref18_List.f k b l) (listS b l) := by
  simp only [pestleref18_List.f]
  exact ref_list_l0 b hb l hl hw l.length 0 _ (by omega) (by decide)
end Go.Proofs.Ytfehkfjfmjnjnaa.Dec4
