/- Hexadecimal digits: what hexes and its reference read. -/
import Derived.Test.YtoknoghdnedmhaaByt
import Derived.Test.YtoknoghdnedmhaaPallx2
import Derived.Test.YtoknoghdnedmhaaPallx3
import Derived.Test.YtoknoghdnedmhaaPallx6
import Derived.Test.YtoknoghdnedmhaaPallx7
namespace Go.Proofs.Ytoknoghdnedmhaa.Hex1
open Go.RowKit Go.Proofs.Ytoknoghdnedmhaa.Pall Go.Proofs.YtoknoghdnedmhaaW.PrintWords Go.Proofs.YtoknoghdnedmhaaW.PrintLast Go.Proofs.Ytoknoghdnedmhaa.Lib Go.Proofs.Ytoknoghdnedmhaa.Byt

def isHex (c : UInt8) : Prop := (48 ≤ c.toNat ∧ c.toNat ≤ 57) ∨ (97 ≤ c.toNat ∧ c.toNat ≤ 102)
instance (c : UInt8) : Decidable (isHex c) := inferInstanceAs (Decidable (_ ∨ _))
/-- a digit's value -/
def dv (c : UInt8) : Nat := if c.toNat ≤ 57 then c.toNat - 48 else c.toNat - 87
theorem dv_lt {c : UInt8} (h : isHex c) : dv c < 16 := by
  unfold dv
  rcases h with h | h
  · rw [if_pos h.2]; omega
  · rw [if_neg (by omega)]; omega
def digV (c : UInt8) : Int := if isHex c then (dv c : Int) else -1
theorem digV_pos {c : UInt8} (h : isHex c) : digV c = (dv c : Int) := if_pos h
theorem digV_neg {c : UInt8} (h : ¬ isHex c) : digV c = -1 := if_neg h
theorem digit_to (c : UInt8) : To (fun k => hexes_digit.f k (c.toNat : Int)) (digV c) := by
  have hc := c.toNat_lt
  simp only [hexes_digit.f]
  refine To.ite (fun h => To.step ?_) (fun h => To.step ?_)
  · simp only [hexes_digit.j0]
    by_cases h1 : (c.toNat : Int) ≤ 57
    · refine To.pos (decide_eq_true h1) (To.ret' ?_)
      rw [digV_pos (Or.inl ⟨by omega, by omega⟩)]
      unfold dv
      rw [if_pos (by omega)]
      omega
    · refine To.neg (by simpa using h1) (To.ite (fun h2 => To.ite (fun h3 => To.ret' ?_) (fun h3 => To.ret' ?_)) (fun h2 => To.ret' ?_))
      · rw [digV_pos (Or.inr ⟨by omega, by omega⟩)]
        unfold dv
        rw [if_neg (by omega)]
        omega
      · rw [digV_neg]; rintro (⟨_, _⟩ | ⟨_, _⟩) <;> omega
      · rw [digV_neg]; rintro (⟨_, _⟩ | ⟨_, _⟩) <;> omega
  · simp only [hexes_digit.j0]
    refine To.neg (by decide) (To.neg (by omega) (To.ret' ?_))
    rw [digV_neg]; rintro (⟨_, _⟩ | ⟨_, _⟩) <;> omega
def hexes : ByteArray := ⟨#[48, 49, 50, 51, 52, 53, 54, 55, 56, 57, 97, 98, 99, 100, 101, 102]⟩
theorem value_all : ∀ n : Fin 256, pestleref14_value.f 20 ((n.1 : Nat) : Int) = some (digV (UInt8.ofNat n.1)) := by decide +kernel
theorem value_to (c : UInt8) : To (fun k => pestleref14_value.f k (c.toNat : Int)) (digV c) := by
  refine To.up (fun k => pestleref14_value.mono _ k) (k := 20) ?_
  have := value_all ⟨c.toNat, c.toNat_lt⟩
  rwa [UInt8.ofNat_toNat] at this

/-- two digits' byte -/
def hb (a b : UInt8) : UInt8 := UInt8.ofNat (16 * dv a + dv b)
/-- the bytes of digits, two by two -/
def hexL : List UInt8 → List UInt8
  | a :: b :: l => hb a b :: hexL l
  | _ => []
theorem hexL_cons (a b : UInt8) (l : List UInt8) : hexL (a :: b :: l) = hb a b :: hexL l := rfl
theorem hexL_append : ∀ (n : Nat) (a b : List UInt8), a.length = 2 * n → hexL (a ++ b) = hexL a ++ hexL b := by
  intro n
  induction n with
  | zero => intro a b h; rw [List.length_eq_zero_iff.1 h]; rfl
  | succ n ih =>
    intro a b h
    match a, h with
    | x :: y :: a, h =>
      rw [List.cons_append, List.cons_append, hexL_cons, hexL_cons, ih a b (by simp at h; omega), List.cons_append]
theorem hexL_len : ∀ (n : Nat) (a : List UInt8), a.length = 2 * n → (hexL a).length = n := by
  intro n
  induction n with
  | zero => intro a h; rw [List.length_eq_zero_iff.1 h]; rfl
  | succ n ih =>
    intro a h
    match a, h with
    | x :: y :: a, h => rw [hexL_cons, List.length_cons, ih a (by simp at h; omega)]
theorem hexL_snoc {l : List UInt8} {m : Nat} (h : 2 * m + 1 < l.length) : hexL (l.take (2 * m + 2)) = hexL (l.take (2 * m)) ++ [hb l[2 * m] l[2 * m + 1]] := by
  rw [show 2 * m + 2 = (2 * m + 1) + 1 by omega, List.take_succ_eq_append_getElem h, List.take_succ_eq_append_getElem (by omega), List.append_assoc, hexL_append m _ _ (by rw [List.length_take]; omega)]
  rfl
def decL (l : List UInt8) : ByteArray × Int := if ∀ c ∈ l, isHex c then (if l.length % 2 = 0 then (mkB (hexL l), 0) else (⟨#[]⟩, 9)) else (⟨#[]⟩, 8)
def decS (s : ByteArray) : ByteArray × Int := decL (L s)
def undashS (s : ByteArray) : ByteArray × Int := if L s = [45] then (⟨#[]⟩, 0) else if L s = [] then (⟨#[]⟩, 5) else decS s

theorem byte_eq {a b : UInt8} (ha : isHex a) (hb' : isHex b) : (16 * (dv a : Int) + (dv b : Int)) % 256 = ((hb a b).toNat : Int) := by
  have h1 := dv_lt ha
  have h2 := dv_lt hb'
  unfold hb
  rw [u8_of (by omega)]
  omega
theorem dec_l1 (s : ByteArray) (hs : s.size ≤ 1000000000) (hh : ∀ c ∈ L s, isHex c) (m : Nat) (hm : (L s).length = 2 * m) (d : Nat) : ∀ n : Nat, n + d = m →
    To (fun k => hexes_Decode.l1 k s (U (hexL ((L s).take (2 * n))) ++ List.replicate d 0) (m : Int) (n : Int)) (mkB (hexL (L s)), 0) := by
  have hsz : (s.size : Int) = ((L s).length : Int) := by rw [size_L]
  rw [size_L] at hs
  induction d with
  | zero =>
    intro n hn
    refine To.step ?_
    simp only [hexes_Decode.l1]
    refine To.neg (by omega) (To.ret' ?_)
    rw [List.replicate_zero, List.append_nil, List.take_of_length_le (by omega), str_U]
  | succ d ih =>
    intro n hn
    have h0 : 2 * n < (L s).length := by omega
    have h1 : 2 * n + 1 < (L s).length := by omega
    refine To.step ?_
    simp only [hexes_Decode.l1]
    rw [hsz, show (2 * (n : Int)) = ((2 * n : Nat) : Int) by omega, wrap_id (x := ((2 * n : Nat) : Int)) (by omega) (by omega), show ((2 * n : Nat) : Int) + 1 = ((2 * n + 1 : Nat) : Int) by omega, wrap_id (x := ((2 * n + 1 : Nat) : Int)) (by omega) (by omega), bt_nat h0, bt_nat h1, wrap_id (x := (n : Int) + 1) (by omega) (by omega)]
    have x0 := hh _ (List.getElem_mem h0)
    have x1 := hh _ (List.getElem_mem h1)
    have hlen : (U (hexL ((L s).take (2 * n)))).length = n := by rw [U_length, hexL_len n _ (by rw [List.length_take]; omega)]
    refine To.pos (by omega) (To.pos (by omega) (To.pos (by omega) (To.bind (digit_to _) (To.pos (by omega) (To.pos (by omega) (To.bind (digit_to _) (To.pos (by omega) (To.pos ?_ ?_))))))))
    · rw [List.length_append, hlen, List.length_replicate]; omega
    rw [digV_pos x0, digV_pos x1]
    have b0 := dv_lt x0
    have b1 := dv_lt x1
    rw [wrap_id (x := 16 * (dv (L s)[2 * n] : Int)) (by omega) (by omega), wrap_id (by omega) (by omega), byte_eq x0 x1, Int.toNat_natCast]
    have e : (U (hexL ((L s).take (2 * n))) ++ List.replicate (d + 1) (0 : Int)).set n ((hb (L s)[2 * n] (L s)[2 * n + 1]).toNat : Int) = U (hexL ((L s).take (2 * (n + 1)))) ++ List.replicate d 0 := by
      rw [List.set_append_right _ _ (by omega), hlen, Nat.sub_self, List.replicate_succ, List.set_cons_zero, show 2 * (n + 1) = 2 * n + 2 by omega, hexL_snoc h1, U_append, List.append_assoc]
      rfl
    rw [e]
    exact ih (n + 1) (by omega)
theorem dec_l0 (s : ByteArray) (hs : s.size ≤ 1000000000) (d : Nat) : ∀ n : Nat, n + d = (L s).length → (∀ c ∈ (L s).take n, isHex c) →
    To (fun k => hexes_Decode.l0 k s (s.size : Int) (n : Int)) (decS s) := by
  have hsz : (s.size : Int) = ((L s).length : Int) := by rw [size_L]
  have hs' := hs
  rw [size_L] at hs'
  rw [hsz]
  induction d with
  | zero =>
    intro n hn ht
    rw [List.take_of_length_le (by omega)] at ht
    refine To.step ?_
    simp only [hexes_Decode.l0]
    rw [hsz]
    unfold decS decL
    rw [if_pos ht]
    refine To.neg (by omega) (To.ite (fun h => ?_) (fun h => ?_))
    · obtain ⟨m, hm⟩ : ∃ m, (L s).length = 2 * m := ⟨(L s).length / 2, by omega⟩
      rw [if_pos (by omega), show ((L s).length : Int) / 2 = (m : Int) by omega, wrap_id (by omega) (by omega), Int.toNat_natCast]
      refine To.pos (by omega) (To.pos (by omega) (To.bind0 rfl ?_))
      have := dec_l1 s hs ht m hm m 0 (by omega)
      rw [List.length_replicate]
      exact this
    · rw [if_neg (by omega)]; exact To.ret _
  | succ d ih =>
    intro n hn ht
    have hlt : n < (L s).length := by omega
    refine To.step ?_
    simp only [hexes_Decode.l0]
    rw [hsz, bt_nat hlt, wrap_id (x := (n : Int) + 1) (by omega) (by omega)]
    refine To.pos (by omega) (To.pos (by omega) (To.pos (by omega) (To.bind (digit_to _) ?_)))
    by_cases hc : isHex (L s)[n]
    · rw [digV_pos hc]
      refine To.neg (by omega) (ih (n + 1) (by omega) ?_)
      intro c hc'
      rw [List.take_succ_eq_append_getElem hlt, List.mem_append, List.mem_singleton] at hc'
      rcases hc' with h | rfl
      · exact ht c h
      · exact hc
    · rw [digV_neg hc]
      refine To.pos (by omega) (To.ret' ?_)
      unfold decS decL
      rw [if_neg (fun h => hc (h _ (List.getElem_mem hlt)))]
theorem dec_to (s : ByteArray) (hs : s.size ≤ 1000000000) : To (fun k => hexes_Decode.f k s) (decS s) := by
  simp only [hexes_Decode.f]
  exact dec_l0 s hs (L s).length 0 (by omega) (by simp)
theorem undash_to (s : ByteArray) (hs : s.size ≤ 1000000000) : To (fun k => hexes_Undash.f k s) (undashS s) := by
  unfold undashS
  simp only [hexes_Undash.f]
  rw [toList_L]
  by_cases h : L s = [45]
  · refine To.pos h ?_
    rw [if_pos h]; exact To.ret _
  · refine To.neg h ?_
    rw [if_neg h]
    by_cases h' : L s = []
    · refine To.pos h' ?_
      rw [if_pos h']; exact To.ret _
    · refine To.neg h' ?_
      rw [if_neg h']
      exact To.bind (dec_to s hs) (To.ret _)
theorem ref_dec_l1 (s : ByteArray) (hs : s.size ≤ 1000000000) (hh : ∀ c ∈ L s, isHex c) (m : Nat) (hm : (L s).length = 2 * m) (d : Nat) : ∀ n : Nat, n + d = m →
    To (fun k => pestleref14_Decode.l1 k s (U (hexL ((L s).take (2 * n)))) ((2 * n : Nat) : Int)) (mkB (hexL (L s)), 0) := by
  have hsz : (s.size : Int) = ((L s).length : Int) := by rw [size_L]
  rw [size_L] at hs
  induction d with
  | zero =>
    intro n hn
    refine To.step ?_
    simp only [pestleref14_Decode.l1]
    rw [hsz]
    refine To.neg (by omega) (To.ret' ?_)
    rw [List.take_of_length_le (by omega), str_U]
  | succ d ih =>
    intro n hn
    have h0 : 2 * n < (L s).length := by omega
    have h1 : 2 * n + 1 < (L s).length := by omega
    refine To.step ?_
    simp only [pestleref14_Decode.l1]
    rw [hsz, show ((2 * n : Nat) : Int) + 1 = ((2 * n + 1 : Nat) : Int) by omega, wrap_id (x := ((2 * n + 1 : Nat) : Int)) (by omega) (by omega), bt_nat h0, bt_nat h1, show ((2 * n : Nat) : Int) + 2 = ((2 * (n + 1) : Nat) : Int) by omega, wrap_id (x := ((2 * (n + 1) : Nat) : Int)) (by omega) (by omega)]
    have x0 := hh _ (List.getElem_mem h0)
    have x1 := hh _ (List.getElem_mem h1)
    have hlen : (U (hexL ((L s).take (2 * n)))).length = n := by rw [U_length, hexL_len n _ (by rw [List.length_take]; omega)]
    refine To.pos (by omega) (To.pos (by omega) (To.bind (value_to _) (To.pos (by omega) (To.pos (by omega) (To.bind (value_to _) (To.pos (by omega) ?_))))))
    rw [digV_pos x0, digV_pos x1]
    have b0 := dv_lt x0
    have b1 := dv_lt x1
    rw [wrap_id (x := 16 * (dv (L s)[2 * n] : Int)) (by omega) (by omega), wrap_id (by omega) (by omega), byte_eq x0 x1]
    have e : U (hexL ((L s).take (2 * n))) ++ [((hb (L s)[2 * n] (L s)[2 * n + 1]).toNat : Int)] = U (hexL ((L s).take (2 * (n + 1)))) := by
      rw [show 2 * (n + 1) = 2 * n + 2 by omega, hexL_snoc h1, U_append]
      rfl
    rw [e]
    exact ih (n + 1) (by omega)
theorem ref_dec_l0 (s : ByteArray) (hs : s.size ≤ 1000000000) (d : Nat) : ∀ n : Nat, n + d = (L s).length → (∀ c ∈ (L s).take n, isHex c) →
    To (fun k => pestleref14_Decode.l0 k s (n : Int)) (decS s) := by
  have hsz : (s.size : Int) = ((L s).length : Int) := by rw [size_L]
  have hs' := hs
  rw [size_L] at hs'
  induction d with
  | zero =>
    intro n hn ht
    rw [List.take_of_length_le (by omega)] at ht
    refine To.step ?_
    simp only [pestleref14_Decode.l0]
    rw [hsz]
    unfold decS decL
    rw [if_pos ht]
    refine To.neg (by omega) (To.ite (fun h => ?_) (fun h => ?_))
    · rw [if_neg (by omega)]; exact To.ret _
    · obtain ⟨m, hm⟩ : ∃ m, (L s).length = 2 * m := ⟨(L s).length / 2, by omega⟩
      rw [if_pos (by omega)]
      exact ref_dec_l1 s hs ht m hm m 0 (by omega)
  | succ d ih =>
    intro n hn ht
    have hlt : n < (L s).length := by omega
    refine To.step ?_
    simp only [pestleref14_Decode.l0]
    rw [hsz, bt_nat hlt, wrap_id (x := (n : Int) + 1) (by omega) (by omega)]
    refine To.pos (by omega) (To.pos (by omega) (To.bind (value_to _) ?_))
    by_cases hc : isHex (L s)[n]
    · rw [digV_pos hc]
      refine To.neg (by omega) (ih (n + 1) (by omega) ?_)
      intro c hc'
      rw [List.take_succ_eq_append_getElem hlt, List.mem_append, List.mem_singleton] at hc'
      rcases hc' with h | rfl
      · exact ht c h
      · exact hc
    · rw [digV_neg hc]
      refine To.pos (by omega) (To.ret' ?_)
      unfold decS decL
      rw [if_neg (fun h => hc (h _ (List.getElem_mem hlt)))]
theorem ref_dec_to (s : ByteArray) (hs : s.size ≤ 1000000000) : To (fun k => pestleref14_Decode.f k s) (decS s) := by
  simp only [pestleref14_Decode.f]
  exact ref_dec_l0 s hs (L s).length 0 (by omega) (by simp)
theorem ref_undash_to (s : ByteArray) (hs : s.size ≤ 1000000000) : To (fun k => pestleref14_Undash.f k s) (undashS s) := by
  unfold undashS
  simp only [pestleref14_Undash.f]
  rw [toList_L]
  by_cases h : L s = [45]
  · have h' : ¬ L s = [] := by rw [h]; simp
    refine To.neg h' (To.pos h ?_)
    rw [if_pos h]; exact To.ret _
  · rw [if_neg h]
    by_cases h' : L s = []
    · refine To.pos h' ?_
      rw [if_pos h']; exact To.ret _
    · refine To.neg h' (To.neg h ?_)
      rw [if_neg h']
      exact To.bind (ref_dec_to s hs) (To.ret _)
end Go.Proofs.Ytoknoghdnedmhaa.Hex1
