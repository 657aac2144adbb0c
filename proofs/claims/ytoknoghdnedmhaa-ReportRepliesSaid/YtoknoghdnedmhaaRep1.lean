/- Replies and parameters as lines, by the program's way and by the reference's. -/
import Derived.Test.YtoknoghdnedmhaaDecL
import Derived.Test.YtoknoghdnedmhaaFldJ
import Derived.Test.YtoknoghdnedmhaaPallx1
import Derived.Test.YtoknoghdnedmhaaPallx2
import Derived.Test.YtoknoghdnedmhaaPallx5
import Derived.Test.YtoknoghdnedmhaaPallx4
import Derived.Test.YtoknoghdnedmhaaPallx3
import Derived.Test.YtoknoghdnedmhaaPallx6
namespace Go.Proofs.Ytoknoghdnedmhaa.Rep1
open Go.RowKit Go.Proofs.YtoknoghdnedmhaaW.PrintWords Go.Proofs.YtoknoghdnedmhaaW.PrintLast Go.Proofs.Ytoknoghdnedmhaa.Pall Go.Proofs.Ytoknoghdnedmhaa.Lib Go.Proofs.Ytoknoghdnedmhaa.Byt Go.Proofs.Ytoknoghdnedmhaa.Dec1 Go.Proofs.Ytoknoghdnedmhaa.DecL Go.Proofs.Ytoknoghdnedmhaa.FldJ

def eB : ByteArray := ⟨#[]⟩
def errB : ByteArray := ⟨#[101, 114, 114, 111, 114]⟩
def nameS (e : Int) : ByteArray := if 0 ≤ e ∧ e ≤ 16 then repL.getD e.toNat eB else errB
theorem name_f (e : Int) : report_Name.f e = some (nameS e) := by
  unfold report_Name.f nameS
  by_cases h1 : e < 0
  · rw [if_pos h1, if_neg (by omega)]; rfl
  by_cases h2 : e ≥ 17
  · rw [if_neg h1, if_pos h2, if_neg (by omega)]; rfl
  rw [if_neg h1, if_neg h2, if_pos (by omega)]; rfl
theorem ref_name_f (e : Int) : pestleref54_Name.f e = some (nameS e) := by
  unfold pestleref54_Name.f nameS
  rw [Option.bind_some]
  by_cases h1 : e < 0
  · rw [if_pos h1, if_neg (by omega)]; rfl
  by_cases h2 : e > 16
  · rw [if_neg h1, if_pos h2, if_neg (by omega)]; rfl
  rw [if_neg h1, if_neg h2, if_pos (by omega), if_pos (by simp only [List.length_cons, List.length_nil]; omega), if_pos (by omega)]
  rfl
theorem repL_size : ∀ n : Fin 17, (repL.getD n.1 eB).size ≤ 8 := by decide +kernel
theorem nameS_size (e : Int) : (nameS e).size ≤ 8 := by
  unfold nameS
  by_cases h : 0 ≤ e ∧ e ≤ 16
  · rw [if_pos h]; exact repL_size ⟨e.toNat, by omega⟩
  · rw [if_neg h]; decide
def yesS (b : Bool) : ByteArray := if b = true then ⟨#[121, 101, 115]⟩ else ⟨#[110, 111]⟩
theorem yes_f (b : Bool) : report_yes.f b = some (yesS b) := by cases b <;> rfl
theorem ref_yes_f (b : Bool) : pestleref54_yes.f b = some (yesS b) := by cases b <;> rfl
theorem yesS_size (b : Bool) : (yesS b).size ≤ 3 := by cases b <;> decide
def numS (n : Int) : ByteArray := eB ++ item n
theorem numS_size {n : Int} (h : n ≤ 9223372036854775807) : (numS n).size ≤ 21 := by
  unfold numS
  have := item_size h
  rw [ByteArray.size_append]
  have : eB.size = 0 := rfl
  omega
theorem one_to (b : ByteArray) (hb : b.size ≤ 1000) (n : Int) (h : n ≤ 9223372036854775807) : To (fun k => dec_List.f k b [n]) (numS n) :=
  list_to b hb [n] (by simp) (fun x hx => by rw [List.mem_singleton] at hx; rw [hx]; exact h)
theorem num_to (n : Int) (h : n ≤ 9223372036854775807) : To (fun k => pestleref54_num.f k n) (numS n) := by
  simp only [pestleref54_num.f]
  exact To.bind (ref_list_to ⟨#[]⟩ (by decide) [n] (by simp) (fun x hx => by rw [List.mem_singleton] at hx; rw [hx]; exact h)) (To.ret _)
def hashedB : ByteArray := ⟨#[104, 97, 115, 104, 101, 100, 32]⟩
def verifB : ByteArray := ⟨#[118, 101, 114, 105, 102, 105, 101, 100, 32]⟩
def highB : ByteArray := ⟨#[32, 104, 105, 103, 104, 32]⟩
def staleB : ByteArray := ⟨#[115, 116, 97, 108, 101, 32]⟩
def refuB : ByteArray := ⟨#[114, 101, 102, 117, 115, 101, 100, 32]⟩
def replyS (kind err : Int) (text : ByteArray) (is : Bool) (high : Int) : ByteArray :=
  if err = 0 then (if kind = 1 then ((hashedB ++ text) ++ highB) ++ numS high else (if kind = 2 then ((verifB ++ yesS is) ++ highB) ++ numS high else staleB ++ yesS is)) else refuB ++ nameS err
theorem sz1 : hashedB.size = 7 := rfl
theorem sz2 : verifB.size = 9 := rfl
theorem sz3 : highB.size = 6 := rfl
theorem sz4 : staleB.size = 6 := rfl
theorem sz5 : refuB.size = 8 := rfl
theorem replyS_size (kind err : Int) (text : ByteArray) (is : Bool) (high : Int) (hh : high ≤ 9223372036854775807) : (replyS kind err text is high).size ≤ text.size + 100 := by
  have h1 := numS_size hh
  have h2 := yesS_size is
  have h3 := nameS_size err
  unfold replyS
  split
  · split
    · rw [ByteArray.size_append, ByteArray.size_append, ByteArray.size_append, sz1, sz3]; omega
    · split
      · rw [ByteArray.size_append, ByteArray.size_append, ByteArray.size_append, sz2, sz3]; omega
      · rw [ByteArray.size_append, sz4]; omega
  · rw [ByteArray.size_append, sz5]; omega
theorem reply_to (kind : Int) (w t : ByteArray) (err : Int) (text : ByteArray) (is : Bool) (high : Int) (ht : text.size ≤ 1000000) (hh : high ≤ 9223372036854775807) :
    To (fun k => report_Reply.f k kind w t err text is high) (replyS kind err text is high) := by
  simp only [report_Reply.f]
  have h1 := numS_size hh
  have h2 := yesS_size is
  have h3 := nameS_size err
  rw [yes_f, name_f]
  unfold replyS
  by_cases e : err = 0
  · refine To.eq (To.pos e ?_) (if_pos e).symm
    by_cases k1 : kind = 1
    · refine To.eq (To.pos k1 (To.pos (by omega) (To.pos ?_ (To.bind (one_to ⟨#[32]⟩ (by decide) high hh) (To.pos ?_ (To.ret _)))))) (if_pos k1).symm
      · show (hashedB ++ text).size + 6 ≤ _
        rw [ByteArray.size_append, sz1]; omega
      · show ((hashedB ++ text) ++ highB).size + _ ≤ _
        rw [ByteArray.size_append, ByteArray.size_append, sz1, sz3]; omega
    · refine To.eq (To.neg k1 ?_) (if_neg k1).symm
      by_cases k2 : kind = 2
      · refine To.eq (To.pos k2 (To.bind0 rfl (To.pos (by omega) (To.pos ?_ (To.bind (one_to ⟨#[32]⟩ (by decide) high hh) (To.pos ?_ (To.ret _))))))) (if_pos k2).symm
        · show (verifB ++ yesS is).size + 6 ≤ _
          rw [ByteArray.size_append, sz2]; omega
        · show ((verifB ++ yesS is) ++ highB).size + _ ≤ _
          rw [ByteArray.size_append, ByteArray.size_append, sz2, sz3]; omega
      · exact To.eq (To.neg k2 (To.bind0 rfl (To.pos (by omega) (To.ret _)))) (if_neg k2).symm
  · exact To.eq (To.neg e (To.bind0 rfl (To.pos (by omega) (To.ret _)))) (if_neg e).symm
theorem ref_reply_to (kind : Int) (w t : ByteArray) (err : Int) (text : ByteArray) (is : Bool) (high : Int) (ht : text.size ≤ 1000000) (hh : high ≤ 9223372036854775807) :
    To (fun k => pestleref54_Reply.f k kind w t err text is high) (replyS kind err text is high) := by
  simp only [pestleref54_Reply.f]
  have h1 := numS_size hh
  have h2 := yesS_size is
  have h3 := nameS_size err
  rw [ref_yes_f, ref_name_f]
  unfold replyS
  by_cases e : err = 0
  · refine To.eq (To.pos e ?_) (if_pos e).symm
    by_cases k1 : kind = 1
    · refine To.eq (To.pos k1 (To.pos (by omega) (To.pos ?_ (To.bind (num_to high hh) (To.pos ?_ (To.ret _)))))) (if_pos k1).symm
      · show (hashedB ++ text).size + 6 ≤ _
        rw [ByteArray.size_append, sz1]; omega
      · show ((hashedB ++ text) ++ highB).size + _ ≤ _
        rw [ByteArray.size_append, ByteArray.size_append, sz1, sz3]; omega
    · refine To.eq (To.neg k1 ?_) (if_neg k1).symm
      by_cases k2 : kind = 2
      · refine To.eq (To.pos k2 (To.bind0 rfl (To.pos (by omega) (To.pos ?_ (To.bind (num_to high hh) (To.pos ?_ (To.ret _))))))) (if_pos k2).symm
        · show (verifB ++ yesS is).size + 6 ≤ _
          rw [ByteArray.size_append, sz2]; omega
        · show ((verifB ++ yesS is) ++ highB).size + _ ≤ _
          rw [ByteArray.size_append, ByteArray.size_append, sz2, sz3]; omega
      · exact To.eq (To.neg k2 (To.bind0 rfl (To.pos (by omega) (To.ret _)))) (if_neg k2).symm
  · exact To.eq (To.neg e (To.bind0 rfl (To.pos (by omega) (To.ret _)))) (if_neg e).symm

/-! ### parameters -/
def idL : List ByteArray := [eB, ⟨#[97, 114, 103, 111, 110, 50, 100]⟩, ⟨#[97, 114, 103, 111, 110, 50, 105]⟩, ⟨#[97, 114, 103, 111, 110, 50, 105, 100]⟩, ⟨#[115, 99, 114, 121, 112, 116]⟩, ⟨#[98, 99, 114, 121, 112, 116]⟩, ⟨#[112, 98, 107, 100, 102, 50, 45, 115, 104, 97, 50, 53, 54]⟩]
def idS (a : Int) : ByteArray := if 1 ≤ a ∧ a ≤ 6 then idL.getD a.toNat eB else eB
theorem ref_id_f (a : Int) : pestleref44_Id.f a = some (idS a) := by
  unfold pestleref44_Id.f idS
  rw [Option.bind_some]
  by_cases h1 : a < 1
  · rw [if_pos h1, if_neg (by omega)]; rfl
  by_cases h2 : a > 6
  · rw [if_neg h1, if_pos h2, if_neg (by omega)]; rfl
  rw [if_neg h1, if_neg h2, if_pos (by omega), if_pos (by simp only [List.length_cons, List.length_nil]; omega), if_pos (by omega)]
  rfl
theorem id_in {a : Int} (h : 1 ≤ a ∧ a ≤ 6) : To (fun k => record_Name.f k a) (idS a, 0) := by
  rcases (by omega : a = 1 ∨ a = 2 ∨ a = 3 ∨ a = 4 ∨ a = 5 ∨ a = 6) with rfl | rfl | rfl | rfl | rfl | rfl <;>
  exact To.up (record_Name.mono _) (k := 20) (by decide +kernel)
theorem id_out {a : Int} (h : ¬ (1 ≤ a ∧ a ≤ 6)) : To (fun k => record_Name.f k a) (eB, 6) := by
  simp only [record_Name.f]
  refine To.neg (by omega) (To.bind0 rfl ?_)
  refine To.step ?_
  simp only [record_Name.l0]
  refine To.pos (by decide +kernel) (To.pos (by decide +kernel) (To.pos (by decide +kernel) (To.neg (fun q => ?_) ?_)))
  · have q' : (1 : Int) = a := q
    omega
  rw [show wrap64 (0 + 1) = 1 by decide +kernel]
  refine To.step ?_
  simp only [record_Name.l0]
  refine To.pos (by decide +kernel) (To.pos (by decide +kernel) (To.pos (by decide +kernel) (To.neg (fun q => ?_) ?_)))
  · have q' : (2 : Int) = a := q
    omega
  rw [show wrap64 (1 + 1) = 2 by decide +kernel]
  refine To.step ?_
  simp only [record_Name.l0]
  refine To.pos (by decide +kernel) (To.pos (by decide +kernel) (To.pos (by decide +kernel) (To.neg (fun q => ?_) ?_)))
  · have q' : (3 : Int) = a := q
    omega
  rw [show wrap64 (2 + 1) = 3 by decide +kernel]
  refine To.step ?_
  simp only [record_Name.l0]
  refine To.pos (by decide +kernel) (To.pos (by decide +kernel) (To.pos (by decide +kernel) (To.neg (fun q => ?_) ?_)))
  · have q' : (4 : Int) = a := q
    omega
  rw [show wrap64 (3 + 1) = 4 by decide +kernel]
  refine To.step ?_
  simp only [record_Name.l0]
  refine To.pos (by decide +kernel) (To.pos (by decide +kernel) (To.pos (by decide +kernel) (To.neg (fun q => ?_) ?_)))
  · have q' : (6 : Int) = a := q
    omega
  rw [show wrap64 (4 + 1) = 5 by decide +kernel]
  refine To.step ?_
  simp only [record_Name.l0]
  exact To.neg (by decide +kernel) (To.ret _)
theorem idL_size : ∀ n : Fin 7, (idL.getD n.1 eB).size ≤ 13 := by decide +kernel
theorem idS_size (a : Int) : (idS a).size ≤ 13 := by
  unfold idS
  by_cases h : 1 ≤ a ∧ a ≤ 6
  · rw [if_pos h]; exact idL_size ⟨a.toNat, by omega⟩
  · rw [if_neg h]; decide
theorem id_nil {a : Int} : L (idS a) = [] ↔ ¬ (1 ≤ a ∧ a ≤ 6) := by
  constructor
  · intro h q
    rcases (by omega : a = 1 ∨ a = 2 ∨ a = 3 ∨ a = 4 ∨ a = 5 ∨ a = 6) with rfl | rfl | rfl | rfl | rfl | rfl <;> exact absurd h (by decide)
  · intro h
    unfold idS
    rw [if_neg h]; rfl
def timeB : ByteArray := ⟨#[116, 105, 109, 101]⟩
def memB : ByteArray := ⟨#[109, 101, 109, 111, 114, 121]⟩
def lanB : ByteArray := ⟨#[108, 97, 110, 101, 115]⟩
def sizB : ByteArray := ⟨#[115, 105, 122, 101]⟩
def paramsS (a t m l s : Int) : ByteArray := if 1 ≤ a ∧ a ≤ 6 then joinS 32 [idS a, timeB, numS t, memB, numS m, lanB, numS l, sizB, numS s] else ⟨#[63]⟩
theorem params_to (a t m l s : Int) (ht : t ≤ 9223372036854775807) (hm : m ≤ 9223372036854775807) (hl : l ≤ 9223372036854775807) (hs : s ≤ 9223372036854775807) :
    To (fun k => report_Params.f k a t m l s) (paramsS a t m l s) := by
  simp only [report_Params.f]
  unfold paramsS
  by_cases h : 1 ≤ a ∧ a ≤ 6
  · refine To.eq (To.bind (id_in h) (To.pos rfl (To.bind (one_to ⟨#[]⟩ (by decide) t ht) (To.bind (one_to ⟨#[]⟩ (by decide) m hm) (To.bind (one_to ⟨#[]⟩ (by decide) l hl) (To.bind (one_to ⟨#[]⟩ (by decide) s hs) (To.bind (join_to 32 _ ?_) (To.ret _)))))))) (if_pos h).symm
    have h1 := numS_size ht
    have h2 := numS_size hm
    have h3 := numS_size hl
    have h4 := numS_size hs
    have h5 := idS_size a
    show sizes [idS a, timeB, numS t, memB, numS m, lanB, numS l, sizB, numS s] + 9 ≤ _
    simp only [sizes, show timeB.size = 4 from rfl, show memB.size = 6 from rfl, show lanB.size = 5 from rfl, show sizB.size = 4 from rfl]
    omega
  · exact To.eq (To.bind (id_out h) (To.neg (by decide) (To.ret _))) (if_neg h).symm
def sp (b : ByteArray) : ByteArray := (⟨#[32]⟩ ++ b) ++ ⟨#[32]⟩
theorem ref_params_to (a t m l s : Int) (ht : t ≤ 9223372036854775807) (hm : m ≤ 9223372036854775807) (hl : l ≤ 9223372036854775807) (hs : s ≤ 9223372036854775807) :
    To (fun k => pestleref54_Params.f k a t m l s) (paramsS a t m l s) := by
  simp only [pestleref54_Params.f]
  rw [ref_id_f]
  refine To.bind0 rfl ?_
  rw [toList_L]
  by_cases h : 1 ≤ a ∧ a ≤ 6
  · have h1 := numS_size ht
    have h2 := numS_size hm
    have h3 := numS_size hl
    have h4 := numS_size hs
    have h5 := idS_size a
    have s1 : (⟨#[32, 116, 105, 109, 101, 32]⟩ : ByteArray).size = 6 := rfl
    have s2 : (⟨#[32, 109, 101, 109, 111, 114, 121, 32]⟩ : ByteArray).size = 8 := rfl
    have s3 : (⟨#[32, 108, 97, 110, 101, 115, 32]⟩ : ByteArray).size = 7 := rfl
    have s4 : (⟨#[32, 115, 105, 122, 101, 32]⟩ : ByteArray).size = 6 := rfl
    refine To.neg (fun q => id_nil.mp q h) (To.pos (by omega) (To.bind (num_to t ht) (To.pos ?_ (To.pos ?_ (To.bind (num_to m hm) (To.pos ?_ (To.pos ?_ (To.bind (num_to l hl) (To.pos ?_ (To.pos ?_ (To.bind (num_to s hs) (To.pos ?_ (To.ret' ?_)))))))))))))
    all_goals (try (simp only [ByteArray.size_append, s1, s2, s3, s4]; omega))
    unfold paramsS
    rw [if_pos h]
    refine L_inj ?_
    unfold joinS
    rw [L_mk]
    simp only [L_append]
    show _ = L (idS a) ++ 32 :: (L timeB ++ 32 :: (L (numS t) ++ 32 :: (L memB ++ 32 :: (L (numS m) ++ 32 :: (L lanB ++ 32 :: (L (numS l) ++ 32 :: (L sizB ++ 32 :: L (numS s))))))))
    have e1 : L (⟨#[32, 116, 105, 109, 101, 32]⟩ : ByteArray) = 32 :: (L timeB ++ [32]) := rfl
    have e2 : L (⟨#[32, 109, 101, 109, 111, 114, 121, 32]⟩ : ByteArray) = 32 :: (L memB ++ [32]) := rfl
    have e3 : L (⟨#[32, 108, 97, 110, 101, 115, 32]⟩ : ByteArray) = 32 :: (L lanB ++ [32]) := rfl
    have e4 : L (⟨#[32, 115, 105, 122, 101, 32]⟩ : ByteArray) = 32 :: (L sizB ++ [32]) := rfl
    rw [e1, e2, e3, e4]
    simp only [List.append_assoc, List.cons_append, List.nil_append]
  · refine To.eq (To.pos (id_nil.mpr h) (To.ret _)) ?_
    unfold paramsS
    rw [if_neg h]
end Go.Proofs.Ytoknoghdnedmhaa.Rep1
