/- For all texts and all words: their digits, and the dash, are what the document's reference writes.
   Conditions: the arguments are such as Go can hold in memory (as the row says); nothing else. -/
import Derived.Test.YtakhikhdbigdaaaStHexesWrites
import Derived.Test.YtakhikhdbigdaaaHex2
import Derived.Test.YtakhikhdbigdaaaSpl
import Derived.Laws.BitsAllLaws
import Derived.Test.YtakhikhdbigdaaaPallx5
import Derived.Test.YtakhikhdbigdaaaPallx2
import Derived.Test.YtakhikhdbigdaaaPallx4
import Derived.Test.YtakhikhdbigdaaaPallx3
namespace Go.Proofs.Ytakhikhdbigdaaa.Pure
open Go.RowKit Go.Proofs.Ytakhikhdbigdaaa.Pall Go.Proofs.YtakhikhdbigdaaaW.PrintWords Go.Proofs.YtakhikhdbigdaaaW.PrintLast Go.Proofs.Ytakhikhdbigdaaa.Lib Go.Proofs.Ytakhikhdbigdaaa.Byt Go.Proofs.Ytakhikhdbigdaaa.Hex1 Go.Proofs.Ytakhikhdbigdaaa.Hex2 Go.Proofs.Ytakhikhdbigdaaa.Spl

theorem awake14w_to : To (fun k => pestlelaw14_awake.f k) true := To.up (fun k => pestlelaw14_awake.mono k) (k := 30) (by decide +kernel)
theorem letter_all : ∀ n : Fin 16, pestleref14_letter.f (n.1 : Int) = some (mkB [hx n.1]) := by decide +kernel
theorem letter_is {n : Nat} (h : n < 16) : pestleref14_letter.f (n : Int) = some (mkB [hx n]) := letter_all ⟨n, h⟩
theorem mk_app (a b : List UInt8) : mkB a ++ mkB b = mkB (a ++ b) := by
  apply L_inj
  rw [L_append, L_mk, L_mk, L_mk]
theorem mk_size (a : List UInt8) : (mkB a).size = a.length := by rw [size_L, L_mk]
theorem ref_enc_l0 (s : ByteArray) (hs : s.size ≤ 1000000) (d : Nat) : ∀ n : Nat, n + d = (L s).length →
    To (fun k => pestleref14_Encode.l0 k s (mkB (encL ((L s).take n))) (n : Int)) (encS s) := by
  have hsz : (s.size : Int) = ((L s).length : Int) := by rw [size_L]
  rw [size_L] at hs
  induction d with
  | zero =>
    intro n hn
    refine To.step ?_
    simp only [pestleref14_Encode.l0]
    rw [hsz, List.take_of_length_le (by omega)]
    exact To.neg (by omega) (To.ret _)
  | succ d ih =>
    intro n hn
    have hlt : n < (L s).length := by omega
    have hc := (L s)[n].toNat_lt
    refine To.step ?_
    simp only [pestleref14_Encode.l0]
    rw [hsz, bt_nat hlt, wrap_id (x := (n : Int) + 1) (by omega) (by omega), wrap_id (x := ((L s)[n].toNat : Int)) (by omega) (by omega)]
    have e0 : Int.tdiv ((L s)[n].toNat : Int) 16 = (((L s)[n].toNat / 16 : Nat) : Int) := by rw [Int.tdiv_eq_ediv_of_nonneg (by omega)]; omega
    have e1 : Int.tmod ((L s)[n].toNat : Int) 16 = (((L s)[n].toNat % 16 : Nat) : Int) := by rw [Int.tmod_eq_emod_of_nonneg (by omega)]; omega
    rw [e0, e1, wrap_id (by omega) (by omega)]
    have htl : ((L s).take n).length = n := by rw [List.length_take]; omega
    refine To.pos (by omega) (To.pos (by omega) (To.bind0 (letter_is (by omega)) (To.pos ?_ (To.bind0 (letter_is (by omega)) (To.pos ?_ ?_)))))
    · rw [mk_size, mk_size, encL_len]; simp; omega
    · rw [mk_app, mk_size, mk_size, List.length_append, encL_len]; simp; omega
    · have := ih (n + 1) (by omega)
      rw [List.take_succ_eq_append_getElem hlt, encL_append] at this
      rw [mk_app, mk_app, List.append_assoc]
      exact this
theorem ref_enc_to (s : ByteArray) (hs : s.size ≤ 1000000) : To (fun k => pestleref14_Encode.f k s) (encS s) := by
  simp only [pestleref14_Encode.f]
  exact ref_enc_l0 s hs (L s).length 0 (by omega)
theorem ref_dash_to (s : ByteArray) (hs : s.size ≤ 1000000) : To (fun k => pestleref14_Dash.f k s) (dashS s) := by
  unfold dashS
  simp only [pestleref14_Dash.f]
  rw [toList_L]
  by_cases h : L s = []
  · refine To.pos h ?_
    rw [if_pos h]; exact To.ret _
  · refine To.neg h ?_
    rw [if_neg h]
    exact To.bind (ref_enc_to s hs) (To.ret _)

/-! ### words -/
/-- the lowest digits of a word -/
def low : Nat → Nat → List UInt8
  | 0, _ => []
  | j + 1, x => hx (x / 16 ^ j % 16) :: low j x
theorem low_len (j x : Nat) : (low j x).length = j := by
  induction j with
  | zero => rfl
  | succ j ih => rw [low, List.length_cons, ih]
def wordsB (l : List Nat) : List UInt8 := joinL 32 (l.map (low 8))
theorem joinL_snoc (c : UInt8) {ps : List (List UInt8)} (h : ps ≠ []) (p : List UInt8) : joinL c (ps ++ [p]) = joinL c ps ++ c :: p := by
  induction ps with
  | nil => exact absurd rfl h
  | cons q qs ih =>
    by_cases hq : qs = []
    · subst hq; rfl
    · rw [List.cons_append, joinL_cons c q (by simp), joinL_cons c q hq, ih hq]
      simp
theorem wordsB_len (l : List Nat) : (wordsB l).length ≤ 9 * l.length := by
  unfold wordsB
  induction l with
  | nil => simp [joinL]
  | cons x l ih =>
    cases l with
    | nil => show (low 8 x).length ≤ 9; rw [low_len]; omega
    | cons y l =>
      rw [List.map_cons, joinL_cons 32 _ (by simp), List.length_append, List.length_cons, low_len]
      simp only [List.length_cons] at ih ⊢
      omega
theorem digit_and (x j : Nat) (hx32 : x < 4294967296) (hj : j ≤ 7) : Go.bits .and .u32 (shr .u32 (x : Int) ((4 * j : Nat) : Int)) 15 = ((x / 16 ^ j % 16 : Nat) : Int) := by
  have e1 : shr .u32 (x : Int) ((4 * j : Nat) : Int) = ((x / 16 ^ j : Nat) : Int) := by
    unfold shr
    have hb : IntKind.u32.bits = 32 := rfl
    have hp : (2 : Int) ^ (4 * j) = ((16 ^ j : Nat) : Int) := by
      have : (2 : Nat) ^ (4 * j) = 16 ^ j := Nat.pow_mul 2 4 j
      rw [← this, Int.natCast_pow]
      rfl
    rw [Int.toNat_natCast, Nat.min_eq_left (by omega), hp]
    exact (Int.natCast_ediv x (16 ^ j)).symm
  have hle : x / 16 ^ j ≤ x := Nat.div_le_self _ _
  rw [e1]
  have h := u32_and_nat (x / 16 ^ j) 15 (by omega) (by omega)
  have e2 : x / 16 ^ j &&& 15 = x / 16 ^ j % 16 := Nat.and_two_pow_sub_one_eq_mod _ 4
  rw [e2] at h
  exact h
theorem words_l1 (l : List Int) (x : Nat) (hx32 : x < 4294967296) (n : Nat) (hn : n ≤ 50) (j : Nat) (hj : j ≤ 8) : ∀ (acc : List UInt8) (r : ByteArray), acc.length + j ≤ 1000 →
    To (fun k => hexes_Words.l0 k (U (acc ++ low j x)) l (l.length : Int) ((n : Int) + 1)) r →
    To (fun k => hexes_Words.l1 k (U acc) (x : Int) ((4 * j : Nat) - 4) l (l.length : Int) (n : Int)) r := by
  induction j with
  | zero =>
    intro acc r ha next
    refine To.step ?_
    simp only [hexes_Words.l1]
    rw [wrap_id (x := (n : Int) + 1) (by omega) (by omega)]
    rw [low, List.append_nil] at next
    exact To.neg (by omega) next
  | succ j ih =>
    intro acc r ha next
    refine To.step ?_
    simp only [hexes_Words.l1]
    have e : ((4 * (j + 1) : Nat) : Int) - 4 = ((4 * j : Nat) : Int) := by omega
    rw [e, digit_and x j hx32 (by omega), bt_hx (by omega), wrap_id (x := ((4 * j : Nat) : Int) - 4) (by omega) (by omega)]
    refine To.pos (by omega) (To.pos (by omega) (To.pos (by omega) (To.pos (by omega) (To.pos (by rw [U_length]; omega) ?_))))
    have := ih (by omega) (acc ++ [hx (x / 16 ^ j % 16)]) r (by simp; omega) (by rw [low] at next; simpa using next)
    rw [U_append] at this
    exact this
theorem words_l0 (l : List Int) (xs : List Nat) (hl : l = xs.map (fun n : Nat => (n : Int))) (hn : xs.length ≤ 50) (hx32 : ∀ x ∈ xs, x < 4294967296) (d : Nat) : ∀ n : Nat, n + d = xs.length →
    To (fun k => hexes_Words.l0 k (U (wordsB (xs.take n))) l (l.length : Int) (n : Int)) (mkB (wordsB xs)) := by
  have hll : l.length = xs.length := by rw [hl, List.length_map]
  induction d with
  | zero =>
    intro n hd
    refine To.step ?_
    simp only [hexes_Words.l0]
    rw [List.take_of_length_le (by omega), str_U]
    exact To.neg (by omega) (To.ret _)
  | succ d ih =>
    intro n hd
    have hlt : n < xs.length := by omega
    have hrd : rd l (n : Int) = (xs[n] : Int) := by
      subst hl
      rw [rd_nat (by rw [List.length_map]; exact hlt), List.getElem_map]
    have hwl := wordsB_len (xs.take n)
    have htl : (xs.take n).length = n := by rw [List.length_take]; omega
    have hih := ih (n + 1) (by omega)
    rw [List.take_succ_eq_append_getElem hlt] at hih
    refine To.step ?_
    simp only [hexes_Words.l0]
    rw [hrd]
    refine To.pos (by omega) (To.pos (by omega) (To.pos (by omega) (To.ite (fun h => To.pos (by rw [U_length]; omega) (To.step ?_)) (fun h => To.step ?_))))
    · simp only [hexes_Words.j1]
      have hne : (xs.take n).map (low 8) ≠ [] := by
        intro e
        have := congrArg List.length e
        rw [List.length_map, htl, List.length_nil] at this
        omega
      have e1 : wordsB (xs.take n ++ [xs[n]]) = (wordsB (xs.take n) ++ [32]) ++ low 8 xs[n] := by
        unfold wordsB
        rw [List.map_append, List.map_cons, List.map_nil, joinL_snoc 32 hne]
        simp
      rw [e1] at hih
      have := words_l1 l xs[n] (hx32 _ (List.getElem_mem hlt)) n (by omega) 8 (by omega) (wordsB (xs.take n) ++ [32]) _ (by simp; omega) hih
      rw [U_append] at this
      exact this
    · simp only [hexes_Words.j1]
      have hn0 : n = 0 := by omega
      subst hn0
      have e1 : wordsB (xs.take 0 ++ [xs[0]]) = [] ++ low 8 xs[0] := rfl
      rw [e1] at hih
      exact words_l1 l xs[0] (hx32 _ (List.getElem_mem hlt)) 0 (by omega) 8 (by omega) [] _ (by simp) hih
theorem words_to (l : List Int) (xs : List Nat) (hl : l = xs.map (fun n : Nat => (n : Int))) (hn : xs.length ≤ 50) (hx32 : ∀ x ∈ xs, x < 4294967296) : To (fun k => hexes_Words.f k l) (mkB (wordsB xs)) := by
  simp only [hexes_Words.f]
  exact words_l0 l xs hl hn hx32 xs.length 0 (by omega)
theorem ref_words_l1 (l : List Int) (x : Nat) (hx32 : x < 4294967296) (n : Nat) (hn : n ≤ 50) (acc : List UInt8) (ha : acc.length ≤ 1000) (r : ByteArray)
    (next : To (fun k => pestleref14_Words.l0 k l (mkB (acc ++ (if n > 0 then [32] else []) ++ low 8 x)) ((n : Int) + 1)) r) (d : Nat) : ∀ j : Nat, j + d = 8 →
    To (fun k => pestleref14_Words.l1 k l (mkB acc) (n : Int) (mkB (low j x)) ((x / 16 ^ j : Nat) : Int) (j : Int)) r := by
  induction d with
  | zero =>
    intro j hj
    obtain rfl : j = 8 := by omega
    refine To.step ?_
    simp only [pestleref14_Words.l1]
    rw [wrap_id (x := (n : Int) + 1) (by omega) (by omega)]
    refine To.neg (by omega) (To.ite (fun h => To.pos ?_ (To.pos ?_ ?_)) (fun h => To.pos ?_ ?_))
    · rw [mk_size]; omega
    · rw [ByteArray.size_append, mk_size, mk_size, low_len]
      show _ + 1 + 8 ≤ _
      omega
    · rw [if_pos (by omega)] at next
      have e : (mkB acc ++ (⟨#[32]⟩ : ByteArray)) ++ mkB (low 8 x) = mkB (acc ++ [32] ++ low 8 x) := by
        have : (⟨#[32]⟩ : ByteArray) = mkB [32] := rfl
        rw [this, mk_app, mk_app]
      rw [e]; exact next
    · rw [mk_size, mk_size, low_len]; omega
    · rw [if_neg (by omega), List.append_nil] at next
      rw [mk_app]; exact next
  | succ d ih =>
    intro j hj
    have hle : x / 16 ^ j ≤ x := Nat.div_le_self _ _
    have hs : x / 16 ^ (j + 1) = x / 16 ^ j / 16 := by rw [Nat.pow_succ, Nat.div_div_eq_div_mul]
    have ihj := ih (j + 1) (by omega)
    rw [hs, low] at ihj
    refine To.step ?_
    simp only [pestleref14_Words.l1]
    generalize x / 16 ^ j = y at *
    have e0 : Int.tdiv (y : Int) 16 = ((y / 16 : Nat) : Int) := by
      rw [Int.tdiv_eq_ediv_of_nonneg (by omega)]
      omega
    have e1 : Int.tmod (y : Int) 16 = ((y % 16 : Nat) : Int) := by rw [Int.tmod_eq_emod_of_nonneg (by omega)]; omega
    rw [e0, e1, wrap_id (x := ((y / 16 : Nat) : Int)) (by omega) (by omega), wrap_id (x := (j : Int) + 1) (by omega) (by omega)]
    refine To.pos (by omega) (To.bind0 (letter_is (by omega)) (To.pos ?_ ?_))
    · rw [mk_size, mk_size, low_len]; simp; omega
    · rw [mk_app]
      exact ihj
theorem ref_words_l0 (l : List Int) (xs : List Nat) (hl : l = xs.map (fun n : Nat => (n : Int))) (hn : xs.length ≤ 50) (hx32 : ∀ x ∈ xs, x < 4294967296) (d : Nat) : ∀ n : Nat, n + d = xs.length →
    To (fun k => pestleref14_Words.l0 k l (mkB (wordsB (xs.take n))) (n : Int)) (mkB (wordsB xs)) := by
  have hll : l.length = xs.length := by rw [hl, List.length_map]
  induction d with
  | zero =>
    intro n hd
    refine To.step ?_
    simp only [pestleref14_Words.l0]
    rw [List.take_of_length_le (by omega)]
    exact To.neg (by omega) (To.ret _)
  | succ d ih =>
    intro n hd
    have hlt : n < xs.length := by omega
    have hrd : rd l (n : Int) = (xs[n] : Int) := by
      subst hl
      rw [rd_nat (by rw [List.length_map]; exact hlt), List.getElem_map]
    have hwl := wordsB_len (xs.take n)
    have htl : (xs.take n).length = n := by rw [List.length_take]; omega
    have hx' := hx32 _ (List.getElem_mem hlt)
    have hih := ih (n + 1) (by omega)
    rw [List.take_succ_eq_append_getElem hlt] at hih
    refine To.step ?_
    simp only [pestleref14_Words.l0]
    rw [hrd, wrap_id (x := (xs[n] : Int)) (by omega) (by omega)]
    refine To.pos (by omega) (To.pos (by omega) ?_)
    have e1 : wordsB (xs.take n ++ [xs[n]]) = wordsB (xs.take n) ++ (if n > 0 then [32] else []) ++ low 8 xs[n] := by
      by_cases h : n > 0
      · have hne : (xs.take n).map (low 8) ≠ [] := by
          intro e
          have := congrArg List.length e
          rw [List.length_map, htl, List.length_nil] at this
          omega
        rw [if_pos h]
        unfold wordsB
        rw [List.map_append, List.map_cons, List.map_nil, joinL_snoc 32 hne]
        simp
      · have hn0 : n = 0 := by omega
        subst hn0
        rfl
    rw [e1] at hih
    have := ref_words_l1 l xs[n] hx' n (by omega) (wordsB (xs.take n)) (by omega) _ hih 8 0 (by omega)
    rw [Nat.pow_zero, Nat.div_one] at this
    exact this
theorem ref_words_to (l : List Int) (xs : List Nat) (hl : l = xs.map (fun n : Nat => (n : Int))) (hn : xs.length ≤ 50) (hx32 : ∀ x ∈ xs, x < 4294967296) : To (fun k => pestleref14_Words.f k l) (mkB (wordsB xs)) := by
  simp only [pestleref14_Words.f]
  exact ref_words_l0 l xs hl hn hx32 xs.length 0 (by omega)

/-! ### parts -/
theorem bytes_l0 (ps : List ByteArray) (hn : ps.length ≤ 20) (hs : ∀ p ∈ ps, p.size ≤ 140737488351232) (d : Nat) : ∀ n : Nat, n + d = ps.length →
    To (fun k => pestleref04_Bytes.l0 k ps ((flat (ps.take n)).length : Int) (n : Int)) ((flat ps).length : Int) := by
  have hfl : ∀ l : List ByteArray, (∀ p ∈ l, p.size ≤ 140737488351232) → (flat l).length ≤ l.length * 140737488351232 := by
    intro l
    induction l with
    | nil => intro _; exact Nat.zero_le _
    | cons p l ih =>
      intro h
      have h1 := h p (by simp)
      have h2 := ih (fun q hq => h q (by simp [hq]))
      rw [size_L] at h1
      simp only [flat, List.length_append, List.length_cons, Nat.succ_mul]
      omega
  have hall := hfl ps hs
  induction d with
  | zero =>
    intro n hd
    refine To.step ?_
    simp only [pestleref04_Bytes.l0]
    rw [List.take_of_length_le (by omega)]
    exact To.neg (by omega) (To.ret _)
  | succ d ih =>
    intro n hd
    have hlt : n < ps.length := by omega
    have hft := flat_take ps (n + 1)
    have hfs : flat (ps.take (n + 1)) = flat (ps.take n) ++ L ps[n] := by rw [List.take_succ_eq_append_getElem hlt, flat_append]; simp [flat]
    have hm : ps.length * 140737488351232 ≤ 20 * 140737488351232 := Nat.mul_le_mul_right _ hn
    rw [hfs, List.length_append] at hft
    refine To.step ?_
    simp only [pestleref04_Bytes.l0]
    rw [rdOf_nat hlt, size_L, wrap_id (x := (n : Int) + 1) (by omega) (by omega), wrap_id (x := ((flat (ps.take n)).length : Int) + ((L ps[n]).length : Int)) (by omega) (by omega)]
    have := ih (n + 1) (by omega)
    rw [hfs, List.length_append, Int.natCast_add] at this
    exact To.pos (by omega) (To.pos (by omega) this)
theorem bytes_to (ps : List ByteArray) (hn : ps.length ≤ 20) (hs : ∀ p ∈ ps, p.size ≤ 140737488351232) : To (fun k => pestleref04_Bytes.f k ps) ((flat ps).length : Int) := by
  simp only [pestleref04_Bytes.f]
  exact bytes_l0 ps hn hs ps.length 0 (by omega)
theorem joined_l0 (ps : List ByteArray) (hn : ps.length ≤ 20) (hb : (flat ps).length ≤ 300) (d : Nat) : ∀ n : Nat, n + d = ps.length →
    To (fun k => pestleref04_Joined.l0 k ps (mkB (flat (ps.take n))) (n : Int)) (mkB (flat ps)) := by
  induction d with
  | zero =>
    intro n hd
    refine To.step ?_
    simp only [pestleref04_Joined.l0]
    rw [List.take_of_length_le (by omega)]
    exact To.neg (by omega) (To.ret _)
  | succ d ih =>
    intro n hd
    have hlt : n < ps.length := by omega
    have hft := flat_take ps (n + 1)
    have hfs : flat (ps.take (n + 1)) = flat (ps.take n) ++ L ps[n] := by rw [List.take_succ_eq_append_getElem hlt, flat_append]; simp [flat]
    rw [hfs, List.length_append] at hft
    refine To.step ?_
    simp only [pestleref04_Joined.l0]
    rw [rdOf_nat hlt, wrap_id (x := (n : Int) + 1) (by omega) (by omega)]
    have := ih (n + 1) (by omega)
    rw [hfs] at this
    refine To.pos (by omega) (To.pos (by omega) (To.pos (by rw [mk_size, size_L]; omega) ?_))
    have e : mkB (flat (ps.take n)) ++ ps[n] = mkB (flat (ps.take n) ++ L ps[n]) := by
      apply L_inj
      rw [L_append, L_mk, L_mk]
    rw [e]
    exact this
theorem joined_to (ps : List ByteArray) (hn : ps.length ≤ 20) (hb : (flat ps).length ≤ 300) : To (fun k => pestleref04_Joined.f k ps) (mkB (flat ps)) := by
  simp only [pestleref04_Joined.f]
  exact joined_l0 ps hn hb ps.length 0 (by omega)
theorem HexesWrites : St.HexesWrites_Pure := by
  intro ps l hps hl
  have hsz : ∀ p ∈ ps, p.size ≤ 140737488351232 := hps.1
  refine To.ends ?_
  simp only [pestlelaw14_HexesWrites.f]
  have skip : ∀ b : Bool, b = true → To (fun k => pestlelaw14_HexesWrites.j0 k ps l b) true := by
    intro b hb
    refine To.step ?_
    simp only [pestlelaw14_HexesWrites.j0]
    exact To.pos hb (To.ret _)
  refine To.bind awake14w_to (To.pos rfl (To.ite (fun _ => skip true rfl) (fun h => To.bind (bytes_to ps (by omega) hsz) (To.ite (fun _ => skip true rfl) (fun h1 => ?_)))))
  by_cases h2 : (l.length : Int) > 50
  · exact skip _ (decide_eq_true h2)
  rw [decide_eq_false h2]
  refine To.step ?_
  simp only [pestlelaw14_HexesWrites.j0]
  have hw : ∀ x ∈ l, 0 ≤ x ∧ x < 4294967296 := by
    intro x hx'
    have h' : (Lit.int .u32 x).wf = true := hl.1 x hx'
    simp [Lit.wf, IntKind.min, IntKind.max, IntKind.signed, IntKind.bits] at h'
    omega
  have hxs : l = (l.map Int.toNat).map (fun n : Nat => (n : Int)) := by
    rw [List.map_map]
    conv => lhs; rw [← List.map_id l]
    apply List.map_congr_left
    intro x hx'
    show x = ((x.toNat : Nat) : Int)
    rw [Int.toNat_of_nonneg (hw x hx').1]
  have hx32 : ∀ x ∈ l.map Int.toNat, x < 4294967296 := by
    intro x hx'
    rw [List.mem_map] at hx'
    obtain ⟨y, hy, rfl⟩ := hx'
    have := hw y hy
    omega
  have hfl : (flat ps).length ≤ 300 := by omega
  have hms : (mkB (flat ps)).size ≤ 1000000 := by rw [mk_size]; omega
  have hlen : (l.map Int.toNat).length ≤ 50 := by rw [List.length_map]; omega
  refine To.neg (by decide) (To.bind (joined_to ps (by omega) hfl) (To.bind (enc_to ps (by omega) (by omega)) (To.bind (ref_enc_to _ hms) (To.pos (by unfold encS; rw [L_mk]) (To.bind (words_to l _ hxs hlen hx32) (To.bind (ref_words_to l _ hxs hlen hx32) (To.pos rfl (To.bind (dash_to _ (by omega)) (To.bind (ref_dash_to _ hms) (To.ret' (by simp)))))))))))
end Go.Proofs.Ytakhikhdbigdaaa.Pure
