/- Lists of numbers with something between. -/
import Derived.Test.YtoknoghdnedmhaaDec1
import Derived.Test.YtoknoghdnedmhaaPallx1
import Derived.Test.YtoknoghdnedmhaaPallx5
namespace Go.Proofs.Ytoknoghdnedmhaa.DecL
open Go.RowKit Go.Proofs.YtoknoghdnedmhaaW.PrintWords Go.Proofs.YtoknoghdnedmhaaW.PrintLast Go.Proofs.Ytoknoghdnedmhaa.Pall Go.Proofs.Ytoknoghdnedmhaa.Lib Go.Proofs.Ytoknoghdnedmhaa.Byt Go.Proofs.Ytoknoghdnedmhaa.Dec1

theorem L_textS {n : Int} (h : 0 ≤ n) : L (textS n) = textN n.toNat := by
  rw [textS, if_neg (by omega)]; rfl
theorem L_textS_neg {n : Int} (h : n < 0) : L (textS n) = [] := by
  rw [textS, if_pos h]; rfl
/-! ### lists -/
def item (n : Int) : ByteArray := if n < 0 then mkB [45] else textS n
/-- what has been written, what is to come; is it the first -/
def listA (b : ByteArray) : Bool → ByteArray → List Int → ByteArray
  | _, out, [] => out
  | first, out, n :: l => listA b false ((if first then out else out ++ b) ++ item n) l
def listS (b : ByteArray) (l : List Int) : ByteArray := listA b true ⟨#[]⟩ l
theorem listA_cons (b : ByteArray) (first : Bool) (out : ByteArray) (n : Int) (l : List Int) : listA b first out (n :: l) = listA b false ((if first then out else out ++ b) ++ item n) l := rfl
theorem textS_size {n : Int} (h : n ≤ 9223372036854775807) : (textS n).size ≤ 21 := by
  rw [size_L]
  by_cases hn : n < 0
  · rw [L_textS_neg hn]; simp
  · rw [L_textS (by omega)]
    have := textN_len n.toNat 20 (by omega)
    omega
theorem item_neg {n : Int} (h : n < 0) : item n = (⟨#[45]⟩ : ByteArray) := if_pos h
theorem item_pos {n : Int} (h : ¬ n < 0) : item n = textS n := if_neg h
theorem item_size {n : Int} (h : n ≤ 9223372036854775807) : (item n).size ≤ 21 := by
  by_cases hn : n < 0
  · rw [item_neg hn]; decide
  · rw [item_pos hn]; exact textS_size h
theorem list_l0 (b : ByteArray) (hb : b.size ≤ 1000) (l : List Int) (hl : l.length ≤ 1048576) (hw : ∀ x ∈ l, x ≤ 9223372036854775807) (d : Nat) : ∀ (n : Nat) (acc : ByteArray), n + d = l.length → acc.size ≤ n * 2000 →
    To (fun k => dec_List.l0 k b acc l (l.length : Int) (n : Int)) (listA b (n == 0) acc (l.drop n)) := by
  induction d with
  | zero =>
    intro n acc hn ha
    refine To.step ?_
    simp only [dec_List.l0]
    refine To.neg (by omega) (To.ret' ?_)
    rw [List.drop_of_length_le (by omega)]
    rfl
  | succ d ih =>
    intro n acc hn ha
    have hlt : n < l.length := by omega
    have hx := hw _ (List.getElem_mem hlt)
    refine To.step ?_
    simp only [dec_List.l0]
    rw [rd_nat hlt, drop_cons hlt, listA_cons, wrap_id (x := (n : Int) + 1) (by omega) (by omega)]
    have hi := item_size hx
    refine To.pos (by omega) (To.pos (by omega) (To.pos (by omega) (To.ite (fun h => To.pos (by omega) ?_) (fun h => ?_))))
    · rw [show (n == 0) = false from beq_eq_false_iff_ne.2 (by omega)]
      have hs : (acc ++ b).size = acc.size + b.size := ByteArray.size_append
      have hs2 : ((acc ++ b) ++ item l[n]).size = acc.size + b.size + (item l[n]).size := by rw [ByteArray.size_append, hs]
      have := ih (n + 1) ((acc ++ b) ++ item l[n]) (by omega) (by omega)
      rw [show (n + 1 == 0) = false from rfl] at this
      refine To.ite (fun h1 => To.pos (by omega) ?_) (fun h1 => To.bind (text_to _ hx) (To.pos ?_ ?_))
      · rw [item_neg h1] at this ⊢; exact this
      · rw [item_pos h1] at hi; omega
      · rw [item_pos h1] at this ⊢; exact this
    · rw [show (n == 0) = true from beq_iff_eq.2 (by omega)]
      have hs2 : (acc ++ item l[n]).size = acc.size + (item l[n]).size := ByteArray.size_append
      have := ih (n + 1) (acc ++ item l[n]) (by omega) (by omega)
      rw [show (n + 1 == 0) = false from rfl] at this
      refine To.ite (fun h1 => To.pos (by omega) ?_) (fun h1 => To.bind (text_to _ hx) (To.pos ?_ ?_))
      · rw [item_neg h1] at this ⊢; exact this
      · rw [item_pos h1] at hi; omega
      · rw [item_pos h1] at this ⊢; exact this
theorem list_to (b : ByteArray) (hb : b.size ≤ 1000) (l : List Int) (hl : l.length ≤ 1048576) (hw : ∀ x ∈ l, x ≤ 9223372036854775807) : To (fun k => dec_List.f k b l) (listS b l) := by
  simp only [dec_List.f]
  exact list_l0 b hb l hl hw l.length 0 _ (by omega) (by decide)
theorem app_empty (a : ByteArray) : a ++ (⟨#[]⟩ : ByteArray) = a := by
  apply L_inj
  rw [L_append, L_nil, List.append_nil]
theorem ref_list_l0 (b : ByteArray) (hb : b.size ≤ 1000) (l : List Int) (hl : l.length ≤ 1048576) (hw : ∀ x ∈ l, x ≤ 9223372036854775807) (d : Nat) : ∀ (n : Nat) (acc : ByteArray), n + d = l.length → acc.size ≤ n * 2000 →
    To (fun k => pestleref18_List.l0 k b l acc (n : Int)) (listA b (n == 0) acc (l.drop n)) := by
  induction d with
  | zero =>
    intro n acc hn ha
    refine To.step ?_
    simp only [pestleref18_List.l0]
    refine To.neg (by omega) (To.ret' ?_)
    rw [List.drop_of_length_le (by omega)]
    rfl
  | succ d ih =>
    intro n acc hn ha
    have hlt : n < l.length := by omega
    have hx := hw _ (List.getElem_mem hlt)
    refine To.step ?_
    simp only [pestleref18_List.l0]
    rw [rd_nat hlt, drop_cons hlt, listA_cons, wrap_id (x := (n : Int) + 1) (by omega) (by omega)]
    have hi := item_size hx
    have ht := textS_size hx
    have s45 : (⟨#[45]⟩ : ByteArray).size = 1 := rfl
    refine To.pos (by omega) (To.ite (fun h => To.pos (by omega) (To.pos (by omega) ?_)) (fun h => To.pos (by omega) ?_))
    · rw [show (n == 0) = false from beq_eq_false_iff_ne.2 (by omega)]
      have hs : (acc ++ b).size = acc.size + b.size := ByteArray.size_append
      have hs2 : ((acc ++ b) ++ item l[n]).size = acc.size + b.size + (item l[n]).size := by rw [ByteArray.size_append, hs]
      have := ih (n + 1) ((acc ++ b) ++ item l[n]) (by omega) (by omega)
      rw [show (n + 1 == 0) = false from rfl] at this
      refine To.ite (fun h1 => To.pos (by omega) (To.bind (ref_text_to _ hx) (To.pos ?_ ?_))) (fun h1 => To.bind (ref_text_to _ hx) (To.pos ?_ ?_))
      · rw [ByteArray.size_append, hs]; omega
      · have e : textS l[n] = ⟨#[]⟩ := if_pos h1
        rw [item_neg h1] at this ⊢
        rw [e, app_empty]; exact this
      · omega
      · rw [item_pos h1] at this ⊢; exact this
    · rw [show (n == 0) = true from beq_iff_eq.2 (by omega)]
      have hs2 : (acc ++ item l[n]).size = acc.size + (item l[n]).size := ByteArray.size_append
      have := ih (n + 1) (acc ++ item l[n]) (by omega) (by omega)
      rw [show (n + 1 == 0) = false from rfl] at this
      refine To.ite (fun h1 => To.pos (by omega) (To.bind (ref_text_to _ hx) (To.pos ?_ ?_))) (fun h1 => To.bind (ref_text_to _ hx) (To.pos ?_ ?_))
      · rw [ByteArray.size_append]; omega
      · have e : textS l[n] = ⟨#[]⟩ := if_pos h1
        rw [item_neg h1] at this ⊢
        rw [e, app_empty]; exact this
      · omega
      · rw [item_pos h1] at this ⊢; exact this
theorem ref_list_to (b : ByteArray) (hb : b.size ≤ 1000) (l : List Int) (hl : l.length ≤ 1048576) (hw : ∀ x ∈ l, x ≤ 9223372036854775807) : To (fun k => pestleref18_List.f k b l) (listS b l) := by
  simp only [pestleref18_List.f]
  exact ref_list_l0 b hb l hl hw l.length 0 _ (by omega) (by decide)
end Go.Proofs.Ytoknoghdnedmhaa.DecL
