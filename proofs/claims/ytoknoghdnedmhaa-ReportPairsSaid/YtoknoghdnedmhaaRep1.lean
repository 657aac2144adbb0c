/- Replies and parameters as lines, by the program's way and by the reference's. -/
import Derived.Test.YtoknoghdnedmhaaDecL
import Derived.Test.YtoknoghdnedmhaaFldJ
import Derived.Test.YtoknoghdnedmhaaPallx1
import Derived.Test.YtoknoghdnedmhaaPallx2
import Derived.Test.YtoknoghdnedmhaaPallx4
import Derived.Test.YtoknoghdnedmhaaPallx5
import Derived.Test.YtoknoghdnedmhaaPallx6
namespace Go.Proofs.Ytoknoghdnedmhaa.Rep1
open Go.RowKit Go.Proofs.YtoknoghdnedmhaaW.PrintWords Go.Proofs.YtoknoghdnedmhaaW.PrintLast Go.Proofs.Ytoknoghdnedmhaa.Pall Go.Proofs.Ytoknoghdnedmhaa.Lib Go.Proofs.Ytoknoghdnedmhaa.Byt Go.Proofs.Ytoknoghdnedmhaa.Dec1 Go.Proofs.Ytoknoghdnedmhaa.DecL Go.Proofs.Ytoknoghdnedmhaa.FldJ

def eB : ByteArray := ⟨#[]⟩
def errB : ByteArray := ⟨#[101, 114, 114, 111, 114]⟩
def nameS (e : Int) : ByteArray := if 0 ≤ e ∧ e ≤ 16 then repL.getD e.toNat eB else errB
theorem name_f (e : Int) : report_Name.f e = some (nameS e) := by
  unfold report_Name.f nameS
  by_cases h1 : e < 0
  · rw [if_pos h1, if_neg (by omega)]; rfl
  by_cases h2 : e ≥ 17
  · rw [if_neg h1, if_pos h2, if_neg (by omega)]; rfl
  rw [if_neg h1, if_neg h2, if_pos (by omega)]; rfl
theorem ref_name_f (e : Int) : pestleref54_Name.f e = some (nameS e) := by
  unfold pestleref54_Name.f nameS
  rw [Option.bind_some]
  by_cases h1 : e < 0
  · rw [if_pos h1, if_neg (by omega)]; rfl
  by_cases h2 : e > 16
  · rw [if_neg h1, if_pos h2, if_neg (by omega)]; rfl
  rw [if_neg h1, if_neg h2, if_pos (by omega), if_pos (by simp only [List.length_cons, List.length_nil]; omega), if_pos (by omega)]
  rfl
theorem repL_size : ∀ n : Fin 17, (repL.getD n.1 eB).size ≤ 8 := by decide +kernel
theorem nameS_size (e : Int) : (nameS e).size ≤ 8 := by
  unfold nameS
  by_cases h : 0 ≤ e ∧ e ≤ 16
  · rw [if_pos h]; exact repL_size ⟨e.toNat, by omega⟩
  · rw [if_neg h]; decide
def yesS (b : Bool) : ByteArray := if b = true then ⟨#[121, 101, 115]⟩ else ⟨#[110, 111]⟩
theorem yes_f (b : Bool) : report_yes.f b = some (yesS b) := by cases b <;> rfl
theorem ref_yes_f (b : Bool) : pestleref54_yes.f b = some (yesS b) := by cases b <;> rfl
theorem yesS_size (b : Bool) : (yesS b).size ≤ 3 := by cases b <;> decide
def numS (n : Int) : ByteArray := eB ++ item n
theorem numS_size {n : Int} (h : n ≤ 9223372036854775807) : (numS n).size ≤ 21 := by
  unfold numS
  have := item_size h
  rw [ByteArray.size_append]
  have : eB.size = 0 := rfl
  omega
theorem one_to (b : ByteArray) (hb : b.size ≤ 1000) (n : Int) (h : n ≤ 9223372036854775807) : To (fun k => dec_List.f k b [n]) (numS n) :=
  list_to b hb [n] (by simp) (fun x hx => by rw [List.mem_singleton] at hx; rw [hx]; exact h)
theorem num_to (n : Int) (h : n ≤ 9223372036854775807) : To (fun k => pestleref54_num.f k n) (numS n) := by
  simp only [pestleref54_num.f]
  exact To.bind (ref_list_to ⟨#[]⟩ (by decide) [n] (by simp) (fun x hx => by rw [List.mem_singleton] at hx; rw [hx]; exact h)) (To.ret _)
def hashedB : ByteArray := ⟨#[104, 97, 115, 104, 101, 100, 32]⟩
def verifB : ByteArray := ⟨#[118, 101, 114, 105, 102, 105, 101, 100, 32]⟩
def highB : ByteArray := ⟨#[32, 104, 105, 103, 104, 32]⟩
def staleB : ByteArray := ⟨#[115, 116, 97, 108, 101, 32]⟩
def refuB : ByteArray := ⟨#[114, 101, 102, 117, 115, 101, 100, 32]⟩
def replyS (kind err : Int) (text : ByteArray) (is : Bool) (high : Int) : ByteArray :=
  if err = 0 then (if kind = 1 then ((hashedB ++ text) ++ highB) ++ numS high else (if kind = 2 then ((verifB ++ yesS is) ++ highB) ++ numS high else staleB ++ yesS is)) else refuB ++ nameS err
theorem sz1 : hashedB.size = 7 := rfl
theorem sz2 : verifB.size = 9 := rfl
theorem sz3 : highB.size = 6 := rfl
theorem sz4 : staleB.size = 6 := rfl
theorem sz5 : refuB.size = 8 := rfl
theorem replyS_size (kind err : Int) (text : ByteArray) (is : Bool) (high : Int) (hh : high ≤ 9223372036854775807) : (replyS kind err text is high).size ≤ text.size + 100 := by
  have h1 := numS_size hh
  have h2 := yesS_size is
  have h3 := nameS_size err
  unfold replyS
  split
  · split
    · rw [ByteArray.size_append, ByteArray.size_append, ByteArray.size_append, sz1, sz3]; omega
    · split
      · rw [ByteArray.size_append, ByteArray.size_append, ByteArray.size_append, sz2, sz3]; omega
      · rw [ByteArray.size_append, sz4]; omega
  · rw [ByteArray.size_append, sz5]; omega
theorem reply_to (kind : Int) (w t : ByteArray) (err : Int) (text : ByteArray) (is : Bool) (high : Int) (ht : text.size ≤ 1000000) (hh : high ≤ 9223372036854775807) :
    To (fun k => report_Reply.f k kind w t err text is high) (replyS kind err text is high) := by
  simp only [report_Reply.f]
  have h1 := numS_size hh
  have h2 := yesS_size is
  have h3 := nameS_size err
  rw [yes_f, name_f]
  unfold replyS
  by_cases e : err = 0
  · refine To.eq (To.pos e ?_) (if_pos e).symm
    by_cases k1 : kind = 1
    · refine To.eq (To.pos k1 (To.pos (by omega) (To.pos ?_ (To.bind (one_to ⟨#[32]⟩ (by decide) high hh) (To.pos ?_ (To.ret _)))))) (if_pos k1).symm
      · show (hashedB ++ text).size + 6 ≤ _
        rw [ByteArray.size_append, sz1]; omega
      · show ((hashedB ++ text) ++ highB).size + _ ≤ _
        rw [ByteArray.size_append, ByteArray.size_append, sz1, sz3]; omega
    · refine To.eq (To.neg k1 ?_) (if_neg k1).symm
      by_cases k2 : kind = 2
      · refine To.eq (To.pos k2 (To.bind0 rfl (To.pos (by omega) (To.pos ?_ (To.bind (one_to ⟨#[32]⟩ (by decide) high hh) (To.pos ?_ (To.ret _))))))) (if_pos k2).symm
        · show (verifB ++ yesS is).size + 6 ≤ _
          rw [ByteArray.size_append, sz2]; omega
        · show ((verifB ++ yesS is) ++ highB).size + _ ≤ _
          rw [ByteArray.size_append, ByteArray.size_append, sz2, sz3]; omega
      · exact To.eq (To.neg k2 (To.bind0 rfl (To.pos (by omega) (To.ret _)))) (if_neg k2).symm
  · exact To.eq (To.neg e (To.bind0 rfl (To.pos (by omega) (To.ret _)))) (if_neg e).symm
theorem ref_reply_to (kind : Int) (w t : ByteArray) (err : Int) (text : ByteArray) (is : Bool) (high : Int) (ht : text.size ≤ 1000000) (hh : high ≤ 9223372036854775807) :
    To (fun k => pestleref54_Reply.f k kind w t err text is high) (replyS kind err text is high) := by
  simp only [pestleref54_Reply.f]
  have h1 := numS_size hh
  have h2 := yesS_size is
  have h3 := nameS_size err
  rw [ref_yes_f, ref_name_f]
  unfold replyS
  by_cases e : err = 0
  · refine To.eq (To.pos e ?_) (if_pos e).symm
    by_cases k1 : kind = 1
    · refine To.eq (To.pos k1 (To.pos (by omega) (To.pos ?_ (To.bind (num_to high hh) (To.pos ?_ (To.ret _)))))) (if_pos k1).symm
      · show (hashedB ++ text).size + 6 ≤ _
        rw [ByteArray.size_append, sz1]; omega
      · show ((hashedB ++ text) ++ highB).size + _ ≤ _
        rw [ByteArray.size_append, ByteArray.size_append, sz1, sz3]; omega
    · refine To.eq (To.neg k1 ?_) (if_neg k1).symm
      by_cases k2 : kind = 2
      · refine To.eq (To.pos k2 (To.bind0 rfl (To.pos (by omega) (To.pos ?_ (To.bind (num_to high hh) (To.pos ?_ (To.ret _))))))) (if_pos k2).symm
        · show (verifB ++ yesS is).size + 6 ≤ _
          rw [ByteArray.size_append, sz2]; omega
        · show ((verifB ++ yesS is) ++ highB).size + _ ≤ _
          rw [ByteArray.size_append, ByteArray.size_append, sz2, sz3]; omega
      · exact To.eq (To.neg k2 (To.bind0 rfl (To.pos (by omega) (To.ret _)))) (if_neg k2).symm
  · exact To.eq (To.neg e (To.bind0 rfl (To.pos (by omega) (To.ret _)))) (if_neg e).symm

/-! ### parameters -/
end Go.Proofs.Ytoknoghdnedmhaa.Rep1
