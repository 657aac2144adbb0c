/- The reference's texts of sextet are the program's; sizes and joined parts. -/
import Derived.Test.YtoknoghdnedmhaaSex2
import Derived.Test.YtoknoghdnedmhaaPallx7
namespace Go.Proofs.Ytoknoghdnedmhaa.Sex3
open Go.RowKit Go.Proofs.YtoknoghdnedmhaaW.PrintWords Go.Proofs.YtoknoghdnedmhaaW.PrintLast Go.Proofs.YtoknoghdnedmhaaW.PrintMore Go.Proofs.Ytoknoghdnedmhaa.Pall Go.Proofs.Ytoknoghdnedmhaa.Lib Go.Proofs.Ytoknoghdnedmhaa.Byt Go.Proofs.Ytoknoghdnedmhaa.SexMath Go.Proofs.Ytoknoghdnedmhaa.Sex1 Go.Proofs.Ytoknoghdnedmhaa.Sex2

theorem mkB_add (a b : List UInt8) : mkB a ++ mkB b = mkB (a ++ b) := L_inj (by rw [L_append]; rfl)
theorem mkB_len (a : List UInt8) : (mkB a).size = a.length := by rw [size_L]; rfl
theorem sub1 {s : ByteArray} (hs : s.size = 64) {v : Nat} (hv : v < 64) : s.extract ((v : Int)).toNat ((v : Int) + 1).toNat = mkB [(L s).getD v 0] := by
  refine L_inj ?_
  have hl : v < (L s).length := by rw [← size_L]; omega
  rw [L_extract, L_mk, show ((v : Int)).toNat = v from rfl, show ((v : Int) + 1).toNat - v = 1 by omega, drop_cons hl, List.getD_eq_getElem?_getD, List.getElem?_eq_getElem hl]
  rfl
theorem ref_enc_l0 {s : ByteArray} (hs : s.size = 64) (bs : List Nat) (hb : ∀ b ∈ bs, b < 2) (hl : bs.length ≤ 1000000) (f : Nat) : ∀ (n : Nat) (out : List UInt8), bs.length ≤ n + 6 * f → n ≤ 1000006 → out.length ≤ n →
    To (fun k => pestleref15_Encode.l0 k s (ints bs) (mkB out) (n : Int)) (mkB (out ++ lets s (ch6 f (bs.drop n)))) := by
  induction f with
  | zero =>
    intro n out hf hn ho
    refine To.step ?_
    simp only [pestleref15_Encode.l0]
    rw [ints_len]
    refine To.neg (by omega) (To.ret' ?_)
    show mkB out = mkB (out ++ [])
    rw [List.append_nil]
  | succ f ih =>
    intro n out hf hn ho
    refine To.step ?_
    simp only [pestleref15_Encode.l0]
    rw [ints_len]
    by_cases h : n < bs.length
    · have hv := numL_lt (bs.drop n) (fun b hb' => hb b (List.mem_of_mem_drop hb')) 6 0
      have hd : bs.drop n = bs[n] :: bs.drop (n + 1) := drop_cons h
      have hch : ch6 (f + 1) (bs.drop n) = numL 0 (bs.drop n) 6 :: ch6 f (bs.drop (n + 6)) := by
        have e : (bs.drop n).drop 6 = bs.drop (n + 6) := List.drop_drop
        rw [← e, hd]; rfl
      rw [hch]
      have hnum := number_to bs hb n 6 (by omega) (by omega)
      generalize numL 0 (bs.drop n) 6 = v at *
      have hv' : v < 64 := by omega
      refine To.pos (by omega) (To.bind hnum ?_)
      have hi := ih (n + 6) (out ++ [(L s).getD v 0]) (by omega) (by omega) (by rw [List.length_append, List.length_singleton]; omega)
      rw [wrap_id (x := (v : Int) + 1) (by omega) (by omega), wrap_id (x := (n : Int) + 6) (by omega) (by omega), sub1 hs hv', mkB_add]
      refine To.pos (by omega) (To.pos (by omega) (To.pos (by omega) (To.pos (by rw [mkB_len, mkB_len, List.length_singleton]; omega) ?_)))
      rw [lets_cons, show out ++ (L s).getD v 0 :: lets s (ch6 f (bs.drop (n + 6))) = out ++ [(L s).getD v 0] ++ lets s (ch6 f (bs.drop (n + 6))) from List.append_cons ..]
      exact hi
    · rw [List.drop_of_length_le (by omega), ch6_nil]
      refine To.neg (by omega) (To.ret' ?_)
      show mkB out = mkB (out ++ [])
      rw [List.append_nil]
theorem nats_len (l : List UInt8) : (nats l).length = l.length := List.length_map _
theorem ref_enc_to {s : ByteArray} (hs : s.size = 64) (b : ByteArray) (hb : b.size ≤ 100000) : To (fun k => pestleref15_Encode.f k s b) (encS s (L b)) := by
  simp only [pestleref15_Encode.f]
  refine To.bind (bits_to b hb) ?_
  have hl : (bitsB 7 (nats (L b))).length = 8 * (L b).length := by rw [bitsB_len, nats_len]
  have hbl : (L b).length ≤ 100000 := by rw [← size_L]; exact hb
  have := ref_enc_l0 hs (bitsB 7 (nats (L b))) (bitsB_two 7 _) (by omega) (2 * (nats (L b)).length) 0 [] (by rw [nats_len]; omega) (by omega) (by simp)
  rw [List.drop_zero, (ch6_enc (nats (L b)) (nats_lt _)).1 _ (Nat.le_refl _)] at this
  exact this

/-! ### the reference reads -/
def ch8 : Nat → List Nat → List Nat
  | 0, _ => []
  | f + 1, l => if 8 ≤ l.length then numL 0 l 8 :: ch8 f (l.drop 8) else []
theorem bits6 (a : Nat) : bitsJ a 5 = [a / 32 % 2, a / 16 % 2, a / 8 % 2, a / 4 % 2, a / 2 % 2, a % 2] := rfl
theorem numL8 (a b c d e f g h : Nat) (l : List Nat) : numL 0 (a :: b :: c :: d :: e :: f :: g :: h :: l) 8 = 128 * a + 64 * b + 32 * c + 16 * d + 8 * e + 4 * f + 2 * g + h := by
  simp only [numL]; omega
theorem ch8_step (f : Nat) (a b c d e g h i : Nat) (l : List Nat) : ch8 (f + 1) (a :: b :: c :: d :: e :: g :: h :: i :: l) = (128 * a + 64 * b + 32 * c + 16 * d + 8 * e + 4 * g + 2 * h + i) :: ch8 f l := by
  rw [ch8, if_pos (by simp), numL8]; rfl
theorem ch8_short (f : Nat) (l : List Nat) (h : l.length < 8) : ch8 f l = [] := by
  cases f with
  | zero => rfl
  | succ f => rw [ch8, if_neg (by omega)]
theorem ch8_dec (v : List Nat) (h : ∀ x ∈ v, x < 64) : ∀ f, v.length ≤ f → ch8 f (bitsB 5 v) = decF 0 0 v ∧ (∀ u, u < 64 → ch8 f (u / 32 % 2 :: u / 16 % 2 :: u / 8 % 2 :: u / 4 % 2 :: u / 2 % 2 :: u % 2 :: bitsB 5 v) = decF 1 u v) ∧ (∀ u, u < 16 → ch8 f (u / 8 % 2 :: u / 4 % 2 :: u / 2 % 2 :: u % 2 :: bitsB 5 v) = decF 2 u v) ∧ (∀ u, u < 4 → ch8 f (u / 2 % 2 :: u % 2 :: bitsB 5 v) = decF 3 u v) := by
  induction v with
  | nil =>
    intro f _
    refine ⟨ch8_short f _ (by simp [bitsB]), fun u _ => ch8_short f _ (by simp [bitsB]), fun u _ => ch8_short f _ (by simp [bitsB]), fun u _ => ch8_short f _ (by simp [bitsB])⟩
  | cons x v ih =>
    intro f hf
    rw [List.length_cons] at hf
    obtain ⟨f, rfl⟩ : ∃ g, f = g + 1 := ⟨f - 1, by omega⟩
    have hx := h x (List.mem_cons_self ..)
    have hv := fun y hy => h y (List.mem_cons_of_mem _ hy)
    obtain ⟨_, j1, _, _⟩ := ih hv (f + 1) (by omega)
    obtain ⟨i0, i1, i2, i3⟩ := ih hv f (by omega)
    refine ⟨?_, fun u hu => ?_, fun u hu => ?_, fun u hu => ?_⟩
    · simp only [decF]
      rw [bitsB, bits6]
      exact j1 x hx
    · simp only [decF]
      rw [bitsB, bits6]
      show ch8 (f + 1) (u / 32 % 2 :: u / 16 % 2 :: u / 8 % 2 :: u / 4 % 2 :: u / 2 % 2 :: u % 2 :: x / 32 % 2 :: x / 16 % 2 :: x / 8 % 2 :: x / 4 % 2 :: x / 2 % 2 :: x % 2 :: bitsB 5 v) = _
      rw [ch8_step]
      have e := i2 (x % 16) (by omega)
      rw [show x % 16 / 8 % 2 = x / 8 % 2 by omega, show x % 16 / 4 % 2 = x / 4 % 2 by omega, show x % 16 / 2 % 2 = x / 2 % 2 by omega, show x % 16 % 2 = x % 2 by omega] at e
      rw [e]
      congr 1; omega
    · simp only [decF]
      rw [bitsB, bits6]
      show ch8 (f + 1) (u / 8 % 2 :: u / 4 % 2 :: u / 2 % 2 :: u % 2 :: x / 32 % 2 :: x / 16 % 2 :: x / 8 % 2 :: x / 4 % 2 :: x / 2 % 2 :: x % 2 :: bitsB 5 v) = _
      rw [ch8_step]
      have e := i3 (x % 4) (by omega)
      rw [show x % 4 / 2 % 2 = x / 2 % 2 by omega, show x % 4 % 2 = x % 2 by omega] at e
      rw [e]
      congr 1; omega
    · simp only [decF]
      rw [bitsB, bits6]
      show ch8 (f + 1) (u / 2 % 2 :: u % 2 :: x / 32 % 2 :: x / 16 % 2 :: x / 8 % 2 :: x / 4 % 2 :: x / 2 % 2 :: x % 2 :: bitsB 5 v) = _
      rw [ch8_step, i0]
      congr 1; omega
/-- what the reference reads -/
def bytesOf (l : List Nat) : List UInt8 := l.map UInt8.ofNat
def decR (s t : ByteArray) : ByteArray × Int := if ∀ c ∈ L t, isLet s c then (if encS s (bytesOf (decF 0 0 (vals s (L t)))) = t then (mkB (bytesOf (decF 0 0 (vals s (L t)))), 0) else (⟨#[]⟩, 5)) else (⟨#[]⟩, 8)
theorem ch8_bytes (f : Nat) : ∀ l : List Nat, (∀ b ∈ l, b < 2) → ∀ x ∈ ch8 f l, x < 256 := by
  induction f with
  | zero => intro l _ x hx; cases hx
  | succ f ih =>
    intro l hl x hx
    rw [ch8] at hx
    split at hx
    · rcases List.mem_cons.mp hx with rfl | hx
      · exact numL_lt l hl 8 0
      · exact ih _ (fun b hb => hl b (List.mem_of_mem_drop hb)) x hx
    · cases hx
theorem nats_bytes (l : List Nat) (h : ∀ x ∈ l, x < 256) : nats (bytesOf l) = l := by
  unfold nats bytesOf
  rw [List.map_map]
  conv => rhs; rw [← List.map_id l]
  exact List.map_congr_left fun x hx => u8_of (h x hx)
theorem bytes_nats (l : List UInt8) : bytesOf (nats l) = l := by
  unfold nats bytesOf
  rw [List.map_map]
  conv => rhs; rw [← List.map_id l]
  refine List.map_congr_left fun x _ => ?_
  exact UInt8.toNat_inj.1 (u8_of x.toNat_lt)
theorem decR_eq {s : ByteArray} (h : sxErr s = 0) (t : ByteArray) : decR s t = decS s t := by
  have hs := good_size h
  unfold decR decS
  by_cases g : ∀ c ∈ L t, isLet s c
  · rw [if_pos g, if_pos g, dec_iff _ (vals_lt hs _)]
    have hb := (dec_bytes (vals s (L t)) (vals_lt hs _)).1
    have e : encS s (bytesOf (decF 0 0 (vals s (L t)))) = t ↔ encP 0 0 (decF 0 0 (vals s (L t))) = vals s (L t) := by
      unfold encS
      rw [nats_bytes _ hb]
      constructor
      · intro q
        have := congrArg L q
        rw [L_mk] at this
        have e2 := (vals_lets h _ (enc_lt _ hb).1).1
        rw [this] at e2
        exact e2.symm
      · intro q
        rw [q, lets_vals _ g, mk_L]
    by_cases q : encP 0 0 (decF 0 0 (vals s (L t))) = vals s (L t)
    · rw [if_pos (e.2 q), if_pos q]; rfl
    · rw [if_neg (fun w => q (e.1 w)), if_neg q]
  · rw [if_neg g, if_neg g]
/-! ### what is written is read, and what is read is written just so -/
theorem dec_of_enc {s : ByteArray} (h : sxErr s = 0) (l : List UInt8) : decS s (encS s l) = (mkB l, 0) := by
  unfold decS
  have e := (enc_lt (nats l) (nats_lt l)).1
  rw [show L (encS s l) = lets s (encP 0 0 (nats l)) from rfl, if_pos (vals_lets h _ e).2, (vals_lets h _ e).1, (dec_enc _ (nats_lt l)).1]
  show (mkB (bytesOf (nats l)), (0 : Int)) = _
  rw [bytes_nats]
theorem enc_of_dec {s : ByteArray} (h : sxErr s = 0) (t : ByteArray) : (decS s t).2 = 0 → encS s (L (decS s t).1) = t := by
  rw [← decR_eq h]
  unfold decR
  split
  · split
    · rename_i q
      intro _
      exact q
    · intro q; cases q
  · intro q; cases q
theorem dec_err (s t : ByteArray) : (decS s t).2 ≠ 0 → (decS s t).1 = ⟨#[]⟩ := by
  unfold decS
  split
  · split
    · intro q; exact absurd rfl q
    · intro _; rfl
  · intro _; rfl
theorem enc_size (s : ByteArray) (l : List UInt8) : (encS s l).size = (8 * l.length + 5) / 6 := by
  unfold encS
  rw [mkB_len]
  unfold lets
  rw [List.length_map, (enc_len _).1, nats_len]

/-! ### parts -/
theorem flat_one (b : ByteArray) : flat [b] = L b := List.append_nil _
theorem flat_append (a b : List ByteArray) : flat (a ++ b) = flat a ++ flat b := by
  induction a with
  | nil => rfl
  | cons x a ih => rw [List.cons_append, flat, ih, flat, List.append_assoc]
theorem rdOf_nat {ps : List ByteArray} {n : Nat} (h : n < ps.length) : rdOf ByteArray.empty ps (n : Int) = ps[n] := by
  unfold rdOf
  simp [List.getD_eq_getElem?_getD, h]
theorem flat_step {ps : List ByteArray} {n : Nat} (h : n < ps.length) : flat (ps.take (n + 1)) = flat (ps.take n) ++ L ps[n] := by
  rw [List.take_succ_eq_append_getElem h, flat_append, flat_one]
theorem flat_big (ps : List ByteArray) (hp : ∀ p ∈ ps, p.size ≤ 140737488351232) : (flat ps).length ≤ ps.length * 140737488351232 := by
  induction ps with
  | nil => simp [flat]
  | cons p ps ih =>
    have i := ih fun x hx => hp x (List.mem_cons_of_mem _ hx)
    have := hp p (List.mem_cons_self ..)
    rw [size_L] at this
    rw [flat, List.length_append, List.length_cons, Nat.succ_mul]; omega
theorem flat_part (ps : List ByteArray) : ∀ p ∈ ps, p.size ≤ (flat ps).length := by
  induction ps with
  | nil => intro p hp; cases hp
  | cons q ps ih =>
    intro p hp
    rw [flat, List.length_append]
    rcases List.mem_cons.mp hp with rfl | hp
    · rw [size_L]; omega
    · have := ih p hp; omega
end Go.Proofs.Ytoknoghdnedmhaa.Sex3
