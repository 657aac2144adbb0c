/- plain64: what it writes and reads, by the program's way and by the reference's. -/
import Derived.Test.YtakhikhdbigdaaaSex3
import Derived.Test.YtakhikhdbigdaaaPallx1
import Derived.Test.YtakhikhdbigdaaaPallx3
import Derived.Test.YtakhikhdbigdaaaPallx4
namespace Go.Proofs.Ytakhikhdbigdaaa.P64a
open Go.RowKit Go.Proofs.Ytakhikhdbigdaaa.Pall Go.Proofs.YtakhikhdbigdaaaW.PrintWords Go.Proofs.YtakhikhdbigdaaaW.PrintLast Go.Proofs.Ytakhikhdbigdaaa.Lib Go.Proofs.Ytakhikhdbigdaaa.Byt Go.Proofs.Ytakhikhdbigdaaa.Sex1 Go.Proofs.Ytakhikhdbigdaaa.Sex2 Go.Proofs.Ytakhikhdbigdaaa.Sex3

def eB : ByteArray := ⟨#[]⟩
def writeS (l m : Int) (t : ByteArray) : ByteArray × Int := if (t.size : Int) < l then (eB, 9) else if m < (t.size : Int) then (eB, 9) else (encS sxPlain (L t), 0)
def readS (l m : Int) (s : ByteArray) : ByteArray × Int := if sxLetters m < (s.size : Int) then (eB, 9) else if (decS sxPlain s).2 = 0 then (if ((decS sxPlain s).1.size : Int) < l then (eB, 9) else ((decS sxPlain s).1, 0)) else (eB, (decS sxPlain s).2)
theorem plain_size : sxPlain.size = 64 := good_size sxPlain_ok
theorem write_to (l m : Int) (t : ByteArray) (ht : t.size ≤ 100000) : To (fun k => plain64_Code_Write.f k l m t) (writeS l m t) := by
  simp only [plain64_Code_Write.f, writeS]
  by_cases h1 : (t.size : Int) < l
  · rw [if_pos h1]; exact To.pos h1 (To.ret _)
  rw [if_neg h1]
  by_cases h2 : m < (t.size : Int)
  · rw [if_pos h2]; exact To.neg h1 (To.pos h2 (To.ret _))
  rw [if_neg h2]
  have he := enc_to plain_size [t] (by simp) (by intro p hp; obtain rfl := List.mem_singleton.mp hp; omega) (by rw [flat_one, ← size_L]; omega)
  rw [flat_one] at he
  exact To.neg h1 (To.neg h2 (To.bind he (To.ret _)))
theorem ref_write_to (l m : Int) (t : ByteArray) (ht : t.size ≤ 100000) : To (fun k => pestleref16_Write.f k l m t) (writeS l m t) := by
  simp only [pestleref16_Write.f, writeS]
  by_cases h1 : (t.size : Int) < l
  · rw [if_pos h1]
    refine To.pos h1 (To.step ?_)
    simp only [pestleref16_Write.j0]
    exact To.pos trivial (To.ret _)
  rw [if_neg h1]
  refine To.neg h1 (To.step ?_)
  simp only [pestleref16_Write.j0]
  by_cases h2 : m < (t.size : Int)
  · rw [if_pos h2]; exact To.pos (decide_eq_true h2) (To.ret _)
  rw [if_neg h2]
  refine To.neg (by simp only [decide_eq_true_eq]; exact h2) (To.bind0 (show pestleref15_Plain.f = some sxPlain from rfl) (To.bind (ref_enc_to plain_size t ht) (To.ret _)))
theorem many_f {n : Int} (h0 : 0 ≤ n) (h1 : n ≤ 65536) : pestleref16_Many.f n = some (sxLetters n) := by
  unfold pestleref16_Many.f sxLetters
  rw [if_neg (by omega), if_neg (by omega), wrap_id (x := 8 * n) (by omega) (by omega), wrap_id (x := 8 * n + 5) (by omega) (by omega), Int.tdiv_eq_ediv_of_nonneg (by omega), wrap_id (by omega) (by omega)]
theorem fin_to (l : Int) (d : ByteArray × Int) : To (fun _ : Nat => if d.2 = 0 then (if (d.1.size : Int) < l then some ((⟨#[]⟩ : ByteArray), (9 : Int)) else some (d.1, 0)) else some (⟨#[]⟩, d.2)) (if d.2 = 0 then (if (d.1.size : Int) < l then (eB, 9) else (d.1, 0)) else (eB, d.2)) := by
  refine To.of fun _ => ?_
  split
  · split <;> rfl
  · rfl
theorem read_to (l m : Int) (s : ByteArray) (hs : s.size ≤ 10000) : To (fun k => plain64_Code_Read.f k l m s) (readS l m s) := by
  simp only [plain64_Code_Read.f, readS]
  by_cases h1 : sxLetters m < (s.size : Int)
  · rw [if_pos h1]; exact To.pos h1 (To.ret _)
  rw [if_neg h1]
  refine To.neg h1 (To.bind (dec_to plain_size s (by omega)) ?_)
  exact fin_to l (decS sxPlain s)
theorem ref_read_to (l m : Int) (hm : 0 ≤ m ∧ m ≤ 65536) (s : ByteArray) (hs : s.size ≤ 10000) : To (fun k => pestleref16_Read.f k l m s) (readS l m s) := by
  simp only [pestleref16_Read.f, readS]
  refine To.bind0 (many_f hm.1 hm.2) ?_
  by_cases h1 : sxLetters m < (s.size : Int)
  · rw [if_pos h1]; exact To.pos h1 (To.ret _)
  rw [if_neg h1]
  have hd := ref_dec_to plain_size s hs
  rw [decR_eq sxPlain_ok] at hd
  refine To.neg h1 (To.bind0 (show pestleref15_Plain.f = some sxPlain from rfl) (To.bind hd ?_))
  exact fin_to l (decS sxPlain s)
/-- what may be written is read, as it was -/
theorem write_read {l m : Int} {t : ByteArray} (hm : m ≤ 65536) (h : (writeS l m t).2 = 0) : readS l m (writeS l m t).1 = (t, 0) ∧ l ≤ (t.size : Int) ∧ (t.size : Int) ≤ m := by
  unfold writeS at h ⊢
  by_cases h1 : (t.size : Int) < l
  · rw [if_pos h1] at h; cases h
  rw [if_neg h1] at h ⊢
  by_cases h2 : m < (t.size : Int)
  · rw [if_pos h2] at h; cases h
  rw [if_neg h2] at h ⊢
  refine ⟨?_, by omega, by omega⟩
  have e := dec_of_enc sxPlain_ok (L t)
  rw [mk_L] at e
  have hz := enc_size sxPlain (L t)
  rw [← size_L] at hz
  have hle : ¬ sxLetters m < ((encS sxPlain (L t)).size : Int) := by
    rw [hz]
    unfold sxLetters
    rw [if_neg (by omega), if_neg (by omega)]
    omega
  show readS l m (encS sxPlain (L t)) = _
  unfold readS
  rw [if_neg hle, e, if_pos rfl, if_neg h1]
theorem read_write {l m : Int} {s : ByteArray} (hl : 0 ≤ l) (hlm : l ≤ m) (hm : m ≤ 65536) (h : (readS l m s).2 = 0) : writeS l m (readS l m s).1 = (s, 0) := by
  unfold readS at h ⊢
  by_cases h1 : sxLetters m < (s.size : Int)
  · rw [if_pos h1] at h; cases h
  rw [if_neg h1] at h ⊢
  by_cases h2 : (decS sxPlain s).2 = 0
  · rw [if_pos h2] at h ⊢
    by_cases h3 : ((decS sxPlain s).1.size : Int) < l
    · rw [if_pos h3] at h; cases h
    rw [if_neg h3]
    have e := enc_of_dec sxPlain_ok s h2
    have hz := enc_size sxPlain (L (decS sxPlain s).1)
    rw [e, ← size_L] at hz
    have hle : ¬ m < ((decS sxPlain s).1.size : Int) := by
      unfold sxLetters at h1
      rw [if_neg (by omega), if_neg (by omega)] at h1
      omega
    show writeS l m (decS sxPlain s).1 = _
    unfold writeS
    rw [if_neg h3, if_neg hle, e]
  · rw [if_neg h2] at h
    exact absurd h h2
theorem read_size {l m : Int} {s : ByteArray} (hs : s.size ≤ 1000) : (readS l m s).1.size ≤ 1000 := by
  have e0 : eB.size = 0 := rfl
  unfold readS
  split
  · show eB.size ≤ _; omega
  split
  · rename_i h2
    split
    · show eB.size ≤ _; omega
    · have e := enc_of_dec sxPlain_ok s h2
      have hz := enc_size sxPlain (L (decS sxPlain s).1)
      rw [e, ← size_L] at hz
      show (decS sxPlain s).1.size ≤ _
      omega
  · show eB.size ≤ _; omega
theorem read_err {l m : Int} {s : ByteArray} (h : (readS l m s).2 ≠ 0) : (readS l m s).1 = eB := by
  unfold readS at h ⊢
  split
  · rfl
  split
  · split
    · rfl
    · rename_i h1 h2 h3
      rw [if_neg h1, if_pos h2, if_neg h3] at h
      exact absurd rfl h
  · rfl
theorem write_size {l m : Int} {t : ByteArray} (ht : t.size ≤ 1000) : (writeS l m t).1.size ≤ 2000 := by
  have e0 : eB.size = 0 := rfl
  unfold writeS
  split
  · show eB.size ≤ _; omega
  split
  · show eB.size ≤ _; omega
  · show (encS sxPlain (L t)).size ≤ _
    rw [enc_size, ← size_L]; omega
end Go.Proofs.Ytakhikhdbigdaaa.P64a
