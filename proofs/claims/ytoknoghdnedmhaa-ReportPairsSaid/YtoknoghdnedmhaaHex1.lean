/- Hexadecimal digits: what hexes and its reference read. -/
import Derived.Test.YtoknoghdnedmhaaByt
import Derived.Test.YtoknoghdnedmhaaPallx0

namespace Go.Proofs.Ytoknoghdnedmhaa.Hex1
open Go.RowKit Go.Proofs.Ytoknoghdnedmhaa.Pall Go.Proofs.YtoknoghdnedmhaaW.PrintWords Go.Proofs.YtoknoghdnedmhaaW.PrintLast Go.Proofs.Ytoknoghdnedmhaa.Lib Go.Proofs.Ytoknoghdnedmhaa.Byt

def isHex (c : UInt8) : Prop := (48 ≤ c.toNat ∧ c.toNat ≤ 57) ∨ (97 ≤ c.toNat ∧ c.toNat ≤ 102)
instance (c : UInt8) : Decidable (isHex c) := inferInstanceAs (Decidable (_ ∨ _))
/-- a digit's value -/
def dv (c : UInt8) : Nat := if c.toNat ≤ 57 then c.toNat - 48 else c.toNat - 87
theorem dv_lt {c : UInt8} (h : isHex c) : dv c < 16 := by
  unfold dv
  rcases h with h | h
  · rw [if_pos h.2]; omega
  · rw [if_neg (by omega)]; omega
def digV (c : UInt8) : Int := if isHex c then (dv c : Int) else -1
theorem digV_pos {c : UInt8} (h : isHex c) : digV c = (dv c : Int) := if_pos h
theorem digV_neg {c : UInt8} (h : ¬ isHex c) : digV c = -1 := if_neg h
def hexes : ByteArray := ⟨#[48, 49, 50, 51, 52, 53, 54, 55, 56, 57, 97, 98, 99, 100, 101, 102]⟩
/-- two digits' byte -/
def hb (a b : UInt8) : UInt8 := UInt8.ofNat (16 * dv a + dv b)
/-- the bytes of digits, two by two -/
def hexL : List UInt8 → List UInt8
  | a :: b :: l => hb a b :: hexL l
  | _ => []
theorem hexL_cons (a b : UInt8) (l : List UInt8) : hexL (a :: b :: l) = hb a b :: hexL l := rfl
theorem hexL_append : ∀ (n : Nat) (a b : List UInt8), a.length = 2 * n → hexL (a ++ b) = hexL a ++ hexL b := by
  intro n
  induction n with
  | zero => intro a b h; rw [List.length_eq_zero_iff.1 h]; rfl
  | succ n ih =>
    intro a b h
    match a, h with
    | x :: y :: a, h =>
      rw [List.cons_append, List.cons_append, hexL_cons, hexL_cons, ih a b (by simp at h; omega), List.cons_append]
theorem hexL_len : ∀ (n : Nat) (a : List UInt8), a.length = 2 * n → (hexL a).length = n := by
  intro n
  induction n with
  | zero => intro a h; rw [List.length_eq_zero_iff.1 h]; rfl
  | succ n ih =>
    intro a h
    match a, h with
    | x :: y :: a, h => rw [hexL_cons, List.length_cons, ih a (by simp at h; omega)]
theorem hexL_snoc {l : List UInt8} {m : Nat} (h : 2 * m + 1 < l.length) : hexL (l.take (2 * m + 2)) = hexL (l.take (2 * m)) ++ [hb l[2 * m] l[2 * m + 1]] := by
  rw [show 2 * m + 2 = (2 * m + 1) + 1 by omega, List.take_succ_eq_append_getElem h, List.take_succ_eq_append_getElem (by omega), List.append_assoc, hexL_append m _ _ (by rw [List.length_take]; omega)]
  rfl
def decL (l : List UInt8) : ByteArray × Int := if ∀ c ∈ l, isHex c then (if l.length % 2 = 0 then (mkB (hexL l), 0) else (⟨#[]⟩, 9)) else (⟨#[]⟩, 8)
def decS (s : ByteArray) : ByteArray × Int := decL (L s)
def undashS (s : ByteArray) : ByteArray × Int := if L s = [45] then (⟨#[]⟩, 0) else if L s = [] then (⟨#[]⟩, 5) else decS s

theorem byte_eq {a b : UInt8} (ha : isHex a) (hb' : isHex b) : (16 * (dv a : Int) + (dv b : Int)) % 256 = ((hb a b).toNat : Int) := by
  have h1 := dv_lt ha
  have h2 := dv_lt hb'
  unfold hb
  rw [u8_of (by omega)]
  omega
end Go.Proofs.Ytoknoghdnedmhaa.Hex1
