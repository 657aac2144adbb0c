/- What the reference of sextet writes and reads is the same; what is written is read, and what is read is written just so. -/
import Derived.Test.YtoknoghdnedmhaaSex1
import Derived.Test.YtoknoghdnedmhaaPallx7
namespace Go.Proofs.Ytoknoghdnedmhaa.Sex2
open Go.RowKit Go.Proofs.YtoknoghdnedmhaaW.PrintWords Go.Proofs.YtoknoghdnedmhaaW.PrintLast Go.Proofs.YtoknoghdnedmhaaW.PrintMore Go.Proofs.Ytoknoghdnedmhaa.Pall Go.Proofs.Ytoknoghdnedmhaa.Lib Go.Proofs.Ytoknoghdnedmhaa.Byt Go.Proofs.Ytoknoghdnedmhaa.SexMath Go.Proofs.Ytoknoghdnedmhaa.Sex1

/-! ### places of letters -/
theorem sxVal_app (a b : List UInt8) (c : Nat) : sxVal (a ++ b) c = if sxVal a c = 0 then (if sxVal b c = 0 then 0 else a.length + sxVal b c) else sxVal a c := by
  induction a with
  | nil =>
    show sxVal b c = if (0 : Nat) = 0 then (if sxVal b c = 0 then 0 else 0 + sxVal b c) else 0
    rw [if_pos rfl]
    by_cases h : sxVal b c = 0
    · rw [if_pos h, h]
    · rw [if_neg h, Nat.zero_add]
  | cons x a ih =>
    rw [List.cons_append, sxVal, ih, sxVal]
    by_cases h : x.toNat = c
    · rw [if_pos h, if_pos h, if_neg (by decide)]
    · rw [if_neg h, if_neg h, List.length_cons]
      by_cases z : sxVal a c = 0
      · rw [if_pos z, if_pos z, if_pos rfl]
        by_cases y : sxVal b c = 0
        · rw [if_pos y, if_pos rfl, if_pos y]
        · rw [if_neg y, if_neg (by omega), if_neg y]; omega
      · rw [if_neg z, if_neg z, if_neg (by omega)]
/-- of good letters each stands once -/
theorem good_size {s : ByteArray} (h : sxErr s = 0) : s.size = 64 := by
  unfold sxErr at h
  by_cases c : s.size = 64
  · exact c
  · rw [if_neg c] at h; cases h
theorem errA_zero : ∀ (l d : List UInt8), sxErrA d l = 0 → ∀ i (h : i < l.length), sxVal (d ++ l.take i) l[i].toNat = 0
  | [], _, _, i, h => by simp at h
  | c :: l, d, e, i, h => by
    rw [sxErrA] at e
    by_cases b : c.toNat < 33 ∨ 126 < c.toNat
    · rw [if_pos b] at e; cases e
    rw [if_neg b] at e
    by_cases v : 0 < sxVal d c.toNat
    · rw [if_pos v] at e; cases e
    rw [if_neg v] at e
    cases i with
    | zero =>
      rw [List.take_zero, List.append_nil]
      show sxVal d c.toNat = 0
      omega
    | succ i =>
      have := errA_zero l (d ++ [c]) e i (by simp at h; omega)
      rw [List.append_assoc] at this
      exact this
theorem good_place {s : ByteArray} (h : sxErr s = 0) (i : Nat) (hi : i < (L s).length) : sxVal (L s) (L s)[i].toNat = i + 1 := by
  have e : sxErrA [] (L s) = 0 := by
    have := h
    unfold sxErr at this
    rw [if_pos (good_size h)] at this; exact this
  have z := errA_zero (L s) [] e i hi
  rw [List.nil_append] at z
  have hap := sxVal_app ((L s).take i) ((L s).drop i) (L s)[i].toNat
  rw [List.take_append_drop, if_pos z, drop_cons hi, sxVal, if_pos rfl, if_neg (by decide), List.length_take] at hap
  omega
theorem vals_lets {s : ByteArray} (h : sxErr s = 0) (v : List Nat) (hv : ∀ x ∈ v, x < 64) : vals s (lets s v) = v ∧ ∀ c ∈ lets s v, isLet s c := by
  have hl : (L s).length = 64 := by rw [← size_L]; exact good_size h
  have key : ∀ x ∈ v, sxVal (L s) ((L s).getD x 0).toNat = x + 1 := by
    intro x hx
    have hx' : x < (L s).length := by rw [hl]; exact hv x hx
    rw [List.getD_eq_getElem?_getD, List.getElem?_eq_getElem hx']
    exact good_place h x hx'
  constructor
  · unfold vals lets
    rw [List.map_map]
    conv => rhs; rw [← List.map_id v]
    refine List.map_congr_left fun x hx => ?_
    show sxVal (L s) ((L s).getD x 0).toNat - 1 = x
    rw [key x hx]; rfl
  · intro c hc
    obtain ⟨x, hx, rfl⟩ := List.mem_map.mp hc
    unfold isLet
    rw [key x hx]; exact Nat.succ_ne_zero x
theorem sxVal_is : ∀ (l : List UInt8) (c : UInt8), sxVal l c.toNat ≠ 0 → l.getD (sxVal l c.toNat - 1) 0 = c
  | [], c, h => absurd rfl h
  | x :: l, c, h => by
    rw [sxVal] at h ⊢
    by_cases e : x.toNat = c.toNat
    · rw [if_pos e]; exact UInt8.toNat_inj.1 e
    · rw [if_neg e] at h ⊢
      by_cases z : sxVal l c.toNat = 0
      · rw [if_pos z] at h; exact absurd rfl h
      · rw [if_neg z]
        have := sxVal_is l c z
        rw [show sxVal l c.toNat + 1 - 1 = (sxVal l c.toNat - 1) + 1 by omega, List.getD_cons_succ]
        exact this
theorem lets_vals {s : ByteArray} (l : List UInt8) (h : ∀ c ∈ l, isLet s c) : lets s (vals s l) = l := by
  unfold vals lets
  rw [List.map_map]
  conv => rhs; rw [← List.map_id l]
  refine List.map_congr_left fun c hc => ?_
  exact sxVal_is (L s) c (h c hc)

/-! ### bits -/
def ints (l : List Nat) : List Int := l.map fun (n : Nat) => (n : Int)
theorem ints_len (l : List Nat) : (ints l).length = l.length := List.length_map _
theorem ints_app (a b : List Nat) : ints (a ++ b) = ints a ++ ints b := List.map_append
theorem ints_get {l : List Nat} {n : Nat} (h : n < l.length) : rd (ints l) (n : Int) = (l[n] : Int) := by
  rw [rd_nat (by rw [ints_len]; exact h)]
  simp [ints]
def numL : Nat → List Nat → Nat → Nat
  | a, _, 0 => a
  | a, [], m + 1 => numL (2 * a) [] m
  | a, b :: l, m + 1 => numL (2 * a + b) l m
theorem number_l0 (bs : List Nat) (hb : ∀ b ∈ bs, b < 2) (a1 a2 : Nat) (h2 : a2 ≤ 8) (h1 : a1 ≤ 10000000) (m : Nat) : ∀ (n a : Nat), n + m = a1 + a2 → a < 2 ^ (8 - m) → m ≤ 8 →
    To (fun k => pestleref15_number.l0 k (ints bs) (a1 : Int) (a2 : Int) (a : Int) (n : Int)) (numL a (bs.drop n) m : Int) := by
  induction m with
  | zero =>
    intro n a hn _ _
    refine To.step ?_
    simp only [pestleref15_number.l0]
    rw [wrap_id (x := (a1 : Int) + (a2 : Int)) (by omega) (by omega)]
    exact To.neg (by omega) (To.ret' (by rw [numL]))
  | succ m ih =>
    intro n a hn ha hm
    have ha' : a < 128 := by
      have : 2 ^ (8 - (m + 1)) ≤ 2 ^ 7 := Nat.pow_le_pow_right (by omega) (by omega)
      omega
    have hp : 2 ^ (8 - m) = 2 * 2 ^ (8 - (m + 1)) := by rw [show 8 - m = 8 - (m + 1) + 1 by omega, Nat.pow_succ]; omega
    refine To.step ?_
    simp only [pestleref15_number.l0]
    rw [wrap_id (x := (a1 : Int) + (a2 : Int)) (by omega) (by omega), wrap_id (x := (n : Int) + 1) (by omega) (by omega), wrap_id (x := 2 * (a : Int)) (by omega) (by omega), ints_len]
    refine To.pos (by omega) ?_
    by_cases h : n < bs.length
    · have hbn := hb _ (List.getElem_mem h)
      have i := ih (n + 1) (2 * a + bs[n]) (by omega) (by omega) (by omega)
      rw [ints_get h, wrap_id (x := 2 * (a : Int) + (bs[n] : Int)) (by omega) (by omega), show 2 * (a : Int) + (bs[n] : Int) = ((2 * a + bs[n] : Nat) : Int) by omega, drop_cons h, numL]
      exact To.pos (by omega) (To.pos (by omega) i)
    · have i := ih (n + 1) (2 * a) (by omega) (by omega) (by omega)
      rw [List.drop_of_length_le (by omega)] at i ⊢
      rw [show 2 * (a : Int) = ((2 * a : Nat) : Int) by omega, numL]
      exact To.neg (by omega) i
theorem number_to (bs : List Nat) (hb : ∀ b ∈ bs, b < 2) (n m : Nat) (hm : m ≤ 8) (hn : n ≤ 10000000) : To (fun k => pestleref15_number.f k (ints bs) (n : Int) (m : Int)) (numL 0 (bs.drop n) m : Int) := by
  simp only [pestleref15_number.f]
  exact number_l0 bs hb n m hm hn m n 0 rfl (Nat.pow_pos (by omega)) hm
/-- a number's bits, from one on -/
def bitsJ (a : Nat) : Nat → List Nat
  | 0 => [a % 2]
  | j + 1 => a / 2 ^ (j + 1) % 2 :: bitsJ a j
theorem bitsJ_len (a j : Nat) : (bitsJ a j).length = j + 1 := by
  induction j with
  | zero => rfl
  | succ j ih => rw [bitsJ, List.length_cons, ih]
theorem bitsJ_two (a j : Nat) : ∀ b ∈ bitsJ a j, b < 2 := by
  induction j with
  | zero => intro b hb; simp only [bitsJ, List.mem_singleton] at hb; omega
  | succ j ih =>
    intro b hb
    rw [bitsJ] at hb
    rcases List.mem_cons.mp hb with rfl | hb
    · exact Nat.mod_lt _ (by omega)
    · exact ih b hb
def bitsB : Nat → List Nat → List Nat
  | _, [] => []
  | j, a :: l => bitsJ a j ++ bitsB j l
theorem bitsB_app (j : Nat) (a b : List Nat) : bitsB j (a ++ b) = bitsB j a ++ bitsB j b := by
  induction a with
  | nil => rfl
  | cons x a ih => rw [List.cons_append, bitsB, ih, bitsB, List.append_assoc]
theorem bitsB_len (j : Nat) (l : List Nat) : (bitsB j l).length = (j + 1) * l.length := by
  induction l with
  | nil => rfl
  | cons a l ih => rw [bitsB, List.length_append, bitsJ_len, ih, List.length_cons, Nat.mul_succ, Nat.add_comm]
theorem bitsB_two (j : Nat) (l : List Nat) : ∀ b ∈ bitsB j l, b < 2 := by
  induction l with
  | nil => intro b hb; cases hb
  | cons a l ih =>
    intro b hb
    rw [bitsB] at hb
    rcases List.mem_append.mp hb with hb | hb
    · exact bitsJ_two a j b hb
    · exact ih b hb
theorem ptwo (j : Nat) (h : j ≤ 7) : 2 ^ j ≤ 128 := Nat.pow_le_pow_right (n := 2) (by omega) h
theorem tdiv2 (j : Nat) : Int.tdiv ((2 ^ (j + 1) : Nat) : Int) 2 = ((2 ^ j : Nat) : Int) := by
  rw [Int.tdiv_eq_ediv_of_nonneg (Int.natCast_nonneg _), Nat.pow_succ]
  generalize 2 ^ j = p
  omega
theorem bit_is (a j : Nat) (ha : a < 256) : Int.tmod (wrap64 (Int.tdiv (a : Int) ((2 ^ j : Nat) : Int))) 2 = ((a / 2 ^ j % 2 : Nat) : Int) := by
  have q : a / 2 ^ j ≤ a := Nat.div_le_self _ _
  rw [Int.tdiv_eq_ediv_of_nonneg (by omega), ← Int.natCast_ediv]
  generalize a / 2 ^ j = z at *
  rw [wrap_id (by omega) (by omega), Int.tmod_eq_emod_of_nonneg (by omega)]; omega
theorem bits_l1 (s : ByteArray) (n : Int) (a : Nat) (ha : a < 256) (r : List Int) (j : Nat) (hj : j ≤ 7) : ∀ (bs : List Nat), bs.length + j ≤ 10000000 →
    To (fun k => pestleref15_Bits.l0 k s (ints (bs ++ bitsJ a j)) (wrap64 (n + 1))) r → To (fun k => pestleref15_Bits.l1 k s (ints bs) n (a : Int) ((2 ^ j : Nat) : Int)) r := by
  induction j with
  | zero =>
    intro bs hl hr
    refine To.step ?_
    simp only [pestleref15_Bits.l1]
    rw [bit_is a 0 ha]
    refine To.pos (by decide) (To.neg (by decide) (To.pos (by rw [ints_len]; omega) (To.step ?_)))
    simp only [pestleref15_Bits.l1]
    refine To.neg (by decide +kernel) ?_
    rw [ints_app] at hr
    rw [show a / 2 ^ 0 % 2 = a % 2 by rw [Nat.pow_zero, Nat.div_one]]
    show To (fun k => pestleref15_Bits.l0 k s (ints bs ++ ints [a % 2]) (wrap64 (n + 1))) r
    exact hr
  | succ j ih =>
    intro bs hl hr
    have p1 := ptwo (j + 1) hj
    have p0 : 0 < 2 ^ (j + 1) := Nat.pow_pos (by omega)
    have p2 := ptwo j (by omega)
    refine To.step ?_
    simp only [pestleref15_Bits.l1]
    have w : wrap64 ((2 ^ j : Nat) : Int) = ((2 ^ j : Nat) : Int) := by
      generalize 2 ^ j = z at *
      exact wrap_id (by omega) (by omega)
    have c1 : (((2 ^ (j + 1) : Nat) : Int)) > 0 := by
      generalize 2 ^ (j + 1) = z at *
      omega
    rw [bit_is a (j + 1) ha, tdiv2, w]
    refine To.pos c1 (To.neg (fun q => by rw [q] at c1; exact absurd c1 (by decide)) (To.pos (by rw [ints_len]; omega) ?_))
    have := ih (by omega) (bs ++ [a / 2 ^ (j + 1) % 2]) (by rw [List.length_append, List.length_singleton]; omega) (by rw [List.append_assoc]; exact hr)
    rw [ints_app] at this
    exact this
theorem bits_l0 (s : ByteArray) (hs : s.size ≤ 100000) (d : Nat) : ∀ n : Nat, n + d = (L s).length →
    To (fun k => pestleref15_Bits.l0 k s (ints (bitsB 7 (nats ((L s).take n)))) (n : Int)) (ints (bitsB 7 (nats (L s)))) := by
  have hl : (L s).length ≤ 100000 := by rw [← size_L]; exact hs
  induction d with
  | zero =>
    intro n hn
    refine To.step ?_
    simp only [pestleref15_Bits.l0]
    rw [size_L, List.take_of_length_le (by omega)]
    exact To.neg (by omega) (To.ret _)
  | succ d ih =>
    intro n hn
    have hlt : n < (L s).length := by omega
    have hc := (L s)[n].toNat_lt
    refine To.step ?_
    simp only [pestleref15_Bits.l0]
    rw [size_L, bt_nat hlt, wrap_id (x := ((L s)[n].toNat : Int)) (by omega) (by omega)]
    refine To.pos (by omega) (To.pos (by omega) ?_)
    have i := ih (n + 1) (by omega)
    have e : nats ((L s).take (n + 1)) = nats ((L s).take n) ++ [(L s)[n].toNat] := by
      unfold nats
      rw [List.take_succ_eq_append_getElem hlt, List.map_append]; rfl
    have ht : (nats ((L s).take n)).length ≤ n := by
      unfold nats
      rw [List.length_map, List.length_take]; exact Nat.min_le_left _ _
    rw [e, bitsB_app, show bitsB 7 [(L s)[n].toNat] = bitsJ (L s)[n].toNat 7 from List.append_nil _] at i
    refine bits_l1 s (n : Int) (L s)[n].toNat (by omega) _ 7 (by omega) _ (by rw [bitsB_len]; omega) ?_
    rw [wrap_id (x := (n : Int) + 1) (by omega) (by omega)]
    exact i
theorem bits_to (s : ByteArray) (hs : s.size ≤ 100000) : To (fun k => pestleref15_Bits.f k s) (ints (bitsB 7 (nats (L s)))) := by
  simp only [pestleref15_Bits.f]
  exact bits_l0 s hs (L s).length 0 (by omega)
/-- six bits by six -/
def ch6 : Nat → List Nat → List Nat
  | 0, _ => []
  | f + 1, l => match l with
    | [] => []
    | b :: l => numL 0 (b :: l) 6 :: ch6 f ((b :: l).drop 6)
theorem ch6_nil (f : Nat) : ch6 f [] = [] := by cases f <;> rfl
theorem bits8 (a : Nat) : bitsJ a 7 = [a / 128 % 2, a / 64 % 2, a / 32 % 2, a / 16 % 2, a / 8 % 2, a / 4 % 2, a / 2 % 2, a % 2] := rfl
theorem numL6 (a b c d e f : Nat) (l : List Nat) : numL 0 (a :: b :: c :: d :: e :: f :: l) 6 = 32 * a + 16 * b + 8 * c + 4 * d + 2 * e + f := by
  simp only [numL]; omega
theorem ch6_enc (l : List Nat) (h : ∀ x ∈ l, x < 256) : (∀ f, 2 * l.length ≤ f → ch6 f (bitsB 7 l) = encP 0 0 l) ∧ (∀ f c, 2 * l.length + 1 ≤ f → c < 4 → ch6 f (c / 2 % 2 :: c % 2 :: bitsB 7 l) = encP 1 c l) ∧ (∀ f c, 2 * l.length + 1 ≤ f → c < 16 → ch6 f (c / 8 % 2 :: c / 4 % 2 :: c / 2 % 2 :: c % 2 :: bitsB 7 l) = encP 2 c l) := by
  induction l with
  | nil =>
    refine ⟨fun f _ => ch6_nil f, fun f c hf hc => ?_, fun f c hf hc => ?_⟩
    · obtain ⟨f, rfl⟩ : ∃ g, f = g + 1 := ⟨f - 1, by simp at hf; omega⟩
      show numL 0 [c / 2 % 2, c % 2] 6 :: ch6 f [] = [c * 16]
      rw [ch6_nil]
      simp only [numL]
      congr 1; omega
    · obtain ⟨f, rfl⟩ : ∃ g, f = g + 1 := ⟨f - 1, by simp at hf; omega⟩
      show numL 0 [c / 8 % 2, c / 4 % 2, c / 2 % 2, c % 2] 6 :: ch6 f [] = [c * 4]
      rw [ch6_nil]
      simp only [numL]
      congr 1; omega
  | cons a l ih =>
    have ha := h a (List.mem_cons_self ..)
    obtain ⟨i0, i1, i2⟩ := ih fun x hx => h x (List.mem_cons_of_mem _ hx)
    refine ⟨fun f hf => ?_, fun f c hf hc => ?_, fun f c hf hc => ?_⟩
    · rw [List.length_cons] at hf
      obtain ⟨f, rfl⟩ : ∃ g, f = g + 1 := ⟨f - 1, by omega⟩
      rw [bitsB, bits8, encP]
      show numL 0 (a / 128 % 2 :: a / 64 % 2 :: a / 32 % 2 :: a / 16 % 2 :: a / 8 % 2 :: a / 4 % 2 :: a / 2 % 2 :: a % 2 :: bitsB 7 l) 6 :: ch6 f (a / 2 % 2 :: a % 2 :: bitsB 7 l) = _
      have e := i1 f (a % 4) (by omega) (by omega)
      rw [show a % 4 / 2 % 2 = a / 2 % 2 by omega, show a % 4 % 2 = a % 2 by omega] at e
      rw [e, numL6]
      congr 1; omega
    · rw [List.length_cons] at hf
      obtain ⟨f, rfl⟩ : ∃ g, f = g + 1 := ⟨f - 1, by omega⟩
      rw [bitsB, bits8, encP]
      show numL 0 (c / 2 % 2 :: c % 2 :: a / 128 % 2 :: a / 64 % 2 :: a / 32 % 2 :: a / 16 % 2 :: a / 8 % 2 :: a / 4 % 2 :: a / 2 % 2 :: a % 2 :: bitsB 7 l) 6 :: ch6 f (a / 8 % 2 :: a / 4 % 2 :: a / 2 % 2 :: a % 2 :: bitsB 7 l) = _
      have e := i2 f (a % 16) (by omega) (by omega)
      rw [show a % 16 / 8 % 2 = a / 8 % 2 by omega, show a % 16 / 4 % 2 = a / 4 % 2 by omega, show a % 16 / 2 % 2 = a / 2 % 2 by omega, show a % 16 % 2 = a % 2 by omega] at e
      rw [e, numL6]
      congr 1; omega
    · rw [List.length_cons] at hf
      obtain ⟨f, rfl⟩ : ∃ g, f = g + 1 + 1 := ⟨f - 2, by omega⟩
      rw [bitsB, bits8, encP]
      show numL 0 (c / 8 % 2 :: c / 4 % 2 :: c / 2 % 2 :: c % 2 :: a / 128 % 2 :: a / 64 % 2 :: a / 32 % 2 :: a / 16 % 2 :: a / 8 % 2 :: a / 4 % 2 :: a / 2 % 2 :: a % 2 :: bitsB 7 l) 6 :: numL 0 (a / 32 % 2 :: a / 16 % 2 :: a / 8 % 2 :: a / 4 % 2 :: a / 2 % 2 :: a % 2 :: bitsB 7 l) 6 :: ch6 f (bitsB 7 l) = _
      rw [i0 f (by omega), numL6, numL6]
      congr 1
      · omega
      · congr 1; omega
theorem nats_lt (l : List UInt8) : ∀ x ∈ nats l, x < 256 := by
  intro x hx
  obtain ⟨c, _, rfl⟩ := List.mem_map.mp hx
  exact c.toNat_lt
theorem numL_lt (l : List Nat) (h : ∀ b ∈ l, b < 2) (m : Nat) : ∀ a, numL a l m < (a + 1) * 2 ^ m := by
  induction m generalizing l with
  | zero => intro a; rw [numL]; omega
  | succ m ih =>
    intro a
    have hp : 2 ^ (m + 1) = 2 * 2 ^ m := by rw [Nat.pow_succ]; omega
    cases l with
    | nil =>
      rw [numL]
      have := ih [] (by simp) (2 * a)
      refine Nat.lt_of_lt_of_le this ?_
      rw [hp, ← Nat.mul_assoc]
      exact Nat.mul_le_mul_right _ (by omega)
    | cons b l =>
      have hb := h b (List.mem_cons_self ..)
      rw [numL]
      have := ih l (fun x hx => h x (List.mem_cons_of_mem _ hx)) (2 * a + b)
      refine Nat.lt_of_lt_of_le this ?_
      rw [hp, ← Nat.mul_assoc]
      exact Nat.mul_le_mul_right _ (by omega)
end Go.Proofs.Ytoknoghdnedmhaa.Sex2
