/- Hexadecimal digits: what hexes writes of bytes, and that it is read again. -/
import Derived.Test.YtoknoghdnedmhaaHex1
import Derived.Test.YtoknoghdnedmhaaPallx3
namespace Go.Proofs.Ytoknoghdnedmhaa.Hex2
open Go.RowKit Go.Proofs.Ytoknoghdnedmhaa.Pall Go.Proofs.YtoknoghdnedmhaaW.PrintWords Go.Proofs.YtoknoghdnedmhaaW.PrintLast Go.Proofs.Ytoknoghdnedmhaa.Lib Go.Proofs.Ytoknoghdnedmhaa.Byt Go.Proofs.Ytoknoghdnedmhaa.Hex1

theorem rdOf_nat {α : Type} {z : α} {l : List α} {n : Nat} (h : n < l.length) : rdOf z l (n : Int) = l[n] := by
  unfold rdOf
  simp [List.getD_eq_getElem?_getD, h]
/-- the digit of a number below 16 -/
def hx (n : Nat) : UInt8 := if n < 10 then UInt8.ofNat (48 + n) else UInt8.ofNat (87 + n)
theorem hx_all : ∀ n : Fin 16, isHex (hx n.1) ∧ dv (hx n.1) = n.1 ∧ bt (⟨#[48, 49, 50, 51, 52, 53, 54, 55, 56, 57, 97, 98, 99, 100, 101, 102]⟩ : ByteArray) (n.1 : Int) = ((hx n.1).toNat : Int) := by decide +kernel
theorem hx_dv_all : ∀ n : Fin 256, isHex (UInt8.ofNat n.1) → hx (dv (UInt8.ofNat n.1)) = UInt8.ofNat n.1 := by decide +kernel
theorem hx_hex {n : Nat} (h : n < 16) : isHex (hx n) := (hx_all ⟨n, h⟩).1
theorem dv_hx {n : Nat} (h : n < 16) : dv (hx n) = n := (hx_all ⟨n, h⟩).2.1
theorem bt_hx {n : Nat} (h : n < 16) : bt (⟨#[48, 49, 50, 51, 52, 53, 54, 55, 56, 57, 97, 98, 99, 100, 101, 102]⟩ : ByteArray) (n : Int) = ((hx n).toNat : Int) := (hx_all ⟨n, h⟩).2.2
theorem hx_dv {c : UInt8} (h : isHex c) : hx (dv c) = c := by
  have := hx_dv_all ⟨c.toNat, c.toNat_lt⟩
  rw [UInt8.ofNat_toNat] at this
  exact this h
/-- the digits of bytes -/
def encL : List UInt8 → List UInt8
  | [] => []
  | c :: l => hx (c.toNat / 16) :: hx (c.toNat % 16) :: encL l
theorem encL_append (a b : List UInt8) : encL (a ++ b) = encL a ++ encL b := by
  induction a with
  | nil => rfl
  | cons c a ih => simp only [List.cons_append, encL, ih]
theorem encL_len (a : List UInt8) : (encL a).length = 2 * a.length := by
  induction a with
  | nil => rfl
  | cons c a ih => simp only [encL, List.length_cons, ih]; omega
theorem encL_hex (a : List UInt8) : ∀ c ∈ encL a, isHex c := by
  induction a with
  | nil => intro c hc; cases hc
  | cons x a ih =>
    have := x.toNat_lt
    intro c hc
    simp only [encL, List.mem_cons] at hc
    rcases hc with rfl | rfl | hc
    · exact hx_hex (by omega)
    · exact hx_hex (by omega)
    · exact ih c hc
theorem hexL_encL (a : List UInt8) : hexL (encL a) = a := by
  induction a with
  | nil => rfl
  | cons c a ih =>
    have := c.toNat_lt
    simp only [encL, hexL_cons, ih]
    congr 1
    unfold hb
    rw [dv_hx (by omega), dv_hx (by omega)]
    apply UInt8.toNat_inj.1
    rw [u8_of (by omega)]
    omega
theorem encL_hexL : ∀ (n : Nat) (a : List UInt8), a.length = 2 * n → (∀ c ∈ a, isHex c) → encL (hexL a) = a := by
  intro n
  induction n with
  | zero => intro a h _; rw [List.length_eq_zero_iff.1 h]; rfl
  | succ n ih =>
    intro a h hh
    match a, h with
    | x :: y :: a, h =>
      have hx' := hh x (by simp)
      have hy' := hh y (by simp)
      have h1 := dv_lt hx'
      have h2 := dv_lt hy'
      rw [hexL_cons, encL, ih a (by simp at h; omega) (fun c hc => hh c (by simp [hc]))]
      unfold hb
      rw [u8_of (by omega), show (16 * dv x + dv y) / 16 = dv x by omega, show (16 * dv x + dv y) % 16 = dv y by omega, Hex2.hx_dv hx', Hex2.hx_dv hy']
def flat : List ByteArray → List UInt8
  | [] => []
  | p :: l => L p ++ flat l
theorem flat_append (a b : List ByteArray) : flat (a ++ b) = flat a ++ flat b := by
  induction a with
  | nil => rfl
  | cons p a ih => simp only [List.cons_append, flat, ih, List.append_assoc]
theorem flat_take (l : List ByteArray) (n : Nat) : (flat (l.take n)).length ≤ (flat l).length := by
  have : flat l = flat (l.take n) ++ flat (l.drop n) := by rw [← flat_append, List.take_append_drop]
  rw [this, List.length_append]
  omega
theorem enc_l1 (ps : List ByteArray) (hb : (flat ps).length ≤ 1000000000) (n : Nat) (hn : n < ps.length) (hpl : ps.length ≤ 1000000000) (r : ByteArray)
    (next : To (fun k => hexes_Encode.l0 k (U (encL (flat (ps.take (n + 1))))) ps (ps.length : Int) ((n : Int) + 1)) r) (d : Nat) : ∀ m : Nat, m + d = (L ps[n]).length →
    To (fun k => hexes_Encode.l1 k (U (encL (flat (ps.take n) ++ (L ps[n]).take m))) ps[n] ps (ps.length : Int) (n : Int) (ps[n].size : Int) (m : Int)) r := by
  have hft := flat_take ps (n + 1)
  have hfs : flat (ps.take (n + 1)) = flat (ps.take n) ++ L ps[n] := by rw [List.take_succ_eq_append_getElem hn, flat_append]; simp [flat]
  rw [hfs, List.length_append] at hft
  have hsz : (ps[n].size : Int) = ((L ps[n]).length : Int) := by rw [size_L]
  rw [hsz]
  induction d with
  | zero =>
    intro m hm
    refine To.step ?_
    simp only [hexes_Encode.l1]
    rw [wrap_id (x := (n : Int) + 1) (by omega) (by omega), List.take_of_length_le (l := L ps[n]) (by omega), ← hfs]
    exact To.neg (by omega) next
  | succ d ih =>
    intro m hm
    have hml : m < (L ps[n]).length := by omega
    have hlt := (L ps[n])[m].toNat_lt
    refine To.step ?_
    simp only [hexes_Encode.l1]
    rw [hsz, bt_nat hml, wrap_id (x := (m : Int) + 1) (by omega) (by omega)]
    have e0 : Int.tdiv ((L ps[n])[m].toNat : Int) 16 % 256 = (((L ps[n])[m].toNat / 16 : Nat) : Int) := by rw [Int.tdiv_eq_ediv_of_nonneg (by omega)]; omega
    have e1 : Int.tmod ((L ps[n])[m].toNat : Int) 16 = (((L ps[n])[m].toNat % 16 : Nat) : Int) := by rw [Int.tmod_eq_emod_of_nonneg (by omega)]; omega
    rw [e0, e1, bt_hx (by omega), bt_hx (by omega)]
    refine To.pos (by omega) (To.pos (by omega) (To.pos (by omega) (To.pos (by omega) (To.pos (by omega) (To.pos (by omega) (To.pos (by omega) (To.bind0 rfl (To.pos ?_ ?_))))))))
    · rw [U_length, encL_len, List.length_append, List.length_take]
      show _ + 2 < _
      omega
    · have := ih (m + 1) (by omega)
      have e : U (encL (flat (ps.take n) ++ (L ps[n]).take m)) ++ [((hx ((L ps[n])[m].toNat / 16)).toNat : Int), ((hx ((L ps[n])[m].toNat % 16)).toNat : Int)] = U (encL (flat (ps.take n) ++ (L ps[n]).take (m + 1))) := by
        rw [List.take_succ_eq_append_getElem hml, ← List.append_assoc, encL_append (flat (ps.take n) ++ _), U_append]
        rfl
      rw [e]
      exact this
theorem enc_l0 (ps : List ByteArray) (hb : (flat ps).length ≤ 1000000000) (hpl : ps.length ≤ 1000000000) (d : Nat) : ∀ n : Nat, n + d = ps.length →
    To (fun k => hexes_Encode.l0 k (U (encL (flat (ps.take n)))) ps (ps.length : Int) (n : Int)) (mkB (encL (flat ps))) := by
  induction d with
  | zero =>
    intro n hn
    refine To.step ?_
    simp only [hexes_Encode.l0]
    rw [List.take_of_length_le (by omega), str_U]
    exact To.neg (by omega) (To.ret _)
  | succ d ih =>
    intro n hn
    have hlt : n < ps.length := by omega
    refine To.step ?_
    simp only [hexes_Encode.l0]
    rw [rdOf_nat hlt]
    refine To.pos (by omega) (To.pos (by omega) (To.pos (by omega) ?_))
    have := enc_l1 ps hb n hlt hpl _ (ih (n + 1) (by omega)) (L ps[n]).length 0 (by omega)
    rw [List.take_zero, List.append_nil] at this
    exact this
theorem enc_to (ps : List ByteArray) (hb : (flat ps).length ≤ 1000000000) (hpl : ps.length ≤ 1000000000) : To (fun k => hexes_Encode.f k ps) (mkB (encL (flat ps))) := by
  simp only [hexes_Encode.f]
  exact enc_l0 ps hb hpl ps.length 0 (by omega)
def encS (s : ByteArray) : ByteArray := mkB (encL (L s))
theorem enc_one (s : ByteArray) (hs : s.size ≤ 1000000000) : To (fun k => hexes_Encode.f k [s]) (encS s) := by
  have := enc_to [s] (by rw [size_L] at hs; simpa [flat] using hs) (by simp)
  refine this.eq ?_
  unfold encS
  simp [flat]
def dashS (s : ByteArray) : ByteArray := if L s = [] then ⟨#[45]⟩ else encS s
theorem dash_to (s : ByteArray) (hs : s.size ≤ 1000000000) : To (fun k => hexes_Dash.f k s) (dashS s) := by
  unfold dashS
  simp only [hexes_Dash.f]
  rw [toList_L]
  by_cases h : L s = []
  · refine To.pos h ?_
    rw [if_pos h]; exact To.ret _
  · refine To.neg h ?_
    rw [if_neg h]
    exact To.bind (enc_one s hs) (To.ret _)
theorem encS_size (s : ByteArray) : (encS s).size = 2 * s.size := by unfold encS; rw [size_L, L_mk, encL_len, size_L]
theorem dec_enc (s : ByteArray) : decS (encS s) = (s, 0) := by
  unfold decS decL encS
  rw [L_mk, if_pos (encL_hex _), if_pos (by rw [encL_len]; omega), hexL_encL, mk_L]
theorem decL_ok {l : List UInt8} (h : (decL l).2 = 0) : (∀ c ∈ l, isHex c) ∧ l.length % 2 = 0 ∧ decL l = (mkB (hexL l), 0) := by
  unfold decL at h ⊢
  by_cases h1 : ∀ c ∈ l, isHex c
  · rw [if_pos h1] at h ⊢
    by_cases h2 : l.length % 2 = 0
    · rw [if_pos h2]; exact ⟨h1, h2, rfl⟩
    · rw [if_neg h2] at h; exact absurd h (by show ¬ (9 : Int) = 0; decide)
  · rw [if_neg h1] at h; exact absurd h (by show ¬ (8 : Int) = 0; decide)
theorem enc_dec {s : ByteArray} (h : (decS s).2 = 0) : encS (decS s).1 = s := by
  obtain ⟨h1, h2, e⟩ := decL_ok (l := L s) h
  have e' : decS s = (mkB (hexL (L s)), 0) := e
  rw [e']
  apply L_inj
  unfold encS
  rw [L_mk, L_mk, encL_hexL ((L s).length / 2) _ (by omega) h1]
theorem undash_dash (s : ByteArray) : undashS (dashS s) = (s, 0) := by
  unfold dashS
  by_cases h : L s = []
  · rw [if_pos h]
    have e : s = ⟨#[]⟩ := L_inj h
    subst e
    rfl
  · rw [if_neg h]
    unfold undashS
    have h1 : L (encS s) ≠ [] := by
      unfold encS; rw [L_mk]
      intro e
      have := congrArg List.length e
      rw [encL_len, List.length_nil] at this
      exact h (List.length_eq_zero_iff.1 (by omega))
    have h2 : L (encS s) ≠ [45] := by
      unfold encS; rw [L_mk]
      intro e
      have := congrArg List.length e
      rw [encL_len] at this
      simp at this
      omega
    rw [if_neg h2, if_neg h1, dec_enc]
theorem dash_undash {s : ByteArray} (h : (undashS s).2 = 0) : dashS (undashS s).1 = s := by
  unfold undashS at h ⊢
  by_cases h1 : L s = [45]
  · rw [if_pos h1]
    show (⟨#[45]⟩ : ByteArray) = s
    exact L_inj h1.symm
  · rw [if_neg h1] at h ⊢
    by_cases h2 : L s = []
    · rw [if_pos h2] at h; exact absurd h (by show ¬ (5 : Int) = 0; decide)
    · rw [if_neg h2] at h ⊢
      have e := enc_dec h
      unfold dashS
      rw [if_neg, e]
      intro e2
      apply h2
      have : (decS s).1 = ⟨#[]⟩ := L_inj e2
      rw [this] at e
      rw [← e]; rfl
end Go.Proofs.Ytoknoghdnedmhaa.Hex2
