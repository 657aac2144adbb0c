/- Plain lemmas on texts as lists of bytes. -/
import Derived.Test.YtimgndceiibaeaaLib
import Derived.Lib.Bytes
namespace Go.Proofs.Ytimgndceiibaeaa.Byt
open Go.RowKit Go.Proofs.YtimgndceiibaeaaW.PrintWords Go.Proofs.YtimgndceiibaeaaW.PrintLast Go.Proofs.Ytimgndceiibaeaa.Lib

/-- a text's bytes -/
def L (s : ByteArray) : List UInt8 := s.data.toList
/-- the text of bytes -/
def mkB (l : List UInt8) : ByteArray := ⟨l.toArray⟩
/-- bytes as numbers -/
def U (l : List UInt8) : List Int := l.map fun c => (c.toNat : Int)
theorem L_mk (l : List UInt8) : L (mkB l) = l := rfl
theorem mk_L (s : ByteArray) : mkB (L s) = s := by
  unfold mkB L
  cases s
  simp
theorem L_inj {a b : ByteArray} (h : L a = L b) : a = b := by rw [← mk_L a, ← mk_L b, h]
theorem toList_L (s : ByteArray) : s.toList = L s := ByteArray.toList_eq s
theorem size_L (s : ByteArray) : s.size = (L s).length := by
  unfold L
  rw [Array.length_toList]
  rfl
theorem L_append (a b : ByteArray) : L (a ++ b) = L a ++ L b := by
  unfold L
  rw [ByteArray.data_append, Array.toList_append]
theorem L_extract (s : ByteArray) (i j : Nat) : L (s.extract i j) = ((L s).drop i).take (j - i) := by
  unfold L
  rw [ByteArray.data_extract, Array.toList_extract, List.extract_eq_take_drop]
theorem bt_nat {s : ByteArray} {n : Nat} (h : n < (L s).length) : bt s (n : Int) = ((L s)[n].toNat : Int) := by
  have h' : n < s.size := by rw [size_L]; exact h
  rw [← bt_at s (n : Int) (by simpa using h')]
  rfl
theorem L_nil : L (⟨#[]⟩ : ByteArray) = [] := rfl
theorem U_append (a b : List UInt8) : U (a ++ b) = U a ++ U b := List.map_append
theorem U_length (a : List UInt8) : (U a).length = a.length := List.length_map _
theorem U_reverse (a : List UInt8) : U a.reverse = (U a).reverse := List.map_reverse
theorem str_U (l : List UInt8) : strOfNums (U l) = mkB l := by
  unfold strOfNums U mkB
  congr 2
  rw [List.map_map]
  conv => rhs; rw [← List.map_id l]
  apply List.map_congr_left
  intro b _
  simp
theorem L_str (xs : List Int) : L (strOfNums xs) = xs.map fun n => UInt8.ofNat n.toNat := by
  rw [← toList_L]
  exact Go.Lib.strOfNums_toList xs
theorem u8_eq {a b : UInt8} (h : (a.toNat : Int) = (b.toNat : Int)) : a = b := UInt8.toNat_inj.1 (by omega)
theorem u8_lt (a : UInt8) : a.toNat < 256 := a.toNat_lt
theorem u8_of {n : Nat} (h : n < 256) : (UInt8.ofNat n).toNat = n := by
  rw [UInt8.toNat_ofNat']
  omega
theorem U_single {x : Int} (h0 : 0 ≤ x) (h1 : x < 256) : [x] = U [UInt8.ofNat x.toNat] := by
  simp only [U, List.map_cons, List.map_nil]
  rw [u8_of (by omega)]
  congr 1
  omega
/-- two texts are equal just if their bytes are -/
theorem beq_L (a b : ByteArray) : (a.toList == b.toList) = decide (a = b) := by
  rw [toList_L, toList_L, Bool.eq_iff_iff, beq_iff_eq, decide_eq_true_iff]
  exact ⟨L_inj, fun h => by rw [h]⟩
end Go.Proofs.Ytimgndceiibaeaa.Byt
