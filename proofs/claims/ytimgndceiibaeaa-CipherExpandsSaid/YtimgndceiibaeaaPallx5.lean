-- PRINTED by print.py (a twelfth state) out of the translation. Not trusted: Lean checks it.
import Derived.Test.YtimgndceiibaeaaPallx0
import Derived.Test.YtimgndceiibaeaaPallx1
import Derived.Test.YtimgndceiibaeaaPallx2
import Derived.Test.YtimgndceiibaeaaPallx4
namespace Go.Proofs.Ytimgndceiibaeaa.Pall
open Go.RowKit Go.Proofs.YtimgndceiibaeaaW.PrintWords Go.Proofs.YtimgndceiibaeaaW.PrintLast Go.Proofs.YtimgndceiibaeaaW.PrintMore
attribute [local go_sem] max2_int min2_int max_two min_two max_three min_three max_four min_four   -- for this text's walks alone
set_option linter.unusedVariables false
set_option linter.unusedSimpArgs false

/-! ### cipher_New: function 27 -/
def ciE : ByteArray := ⟨#[]⟩
theorem ci_empty {s : ByteArray} : (s.toList == ([] : List UInt8)) = decide (s.size = 0) ∧ s.toList.isEmpty = decide (s.size = 0) := by
  have h : s.toList.length = s.size := by rw [ByteArray.toList_eq]; exact Array.length_toList
  rw [← h]
  cases s.toList <;> exact ⟨rfl, rfl⟩
set_option maxHeartbeats 8000000 in
set_option maxRecDepth 100000 in
theorem cipher_New.bad (key : ByteArray) (w : World) (h : key.size = 0 ∨ 72 < key.size) : Calls Try.prog 27 #[.string key] w fun e w' => e = .returned (.tuple #[.pointer none, .int .i64 1]) ∧ Below w.heap.size w w' := by
  by_cases h0 : key.size = 0
  · have e1 := (ci_empty (s := key)).1
    have e2 := (ci_empty (s := key)).2
    rw [decide_eq_true h0] at e1 e2
    go_enter Try.func27, Try.ntmps27
    go_wp2
    go_ret2
    exact ⟨rfl, Below.refl _ _⟩
  · have e1 := (ci_empty (s := key)).1
    have e2 := (ci_empty (s := key)).2
    have e3 : decide ((72 : Int) < (key.size : Int)) = true := decide_eq_true (by omega)
    have e4 : decide (72 < key.size) = true := decide_eq_true (by omega)
    rw [decide_eq_false h0] at e1 e2
    go_enter Try.func27, Try.ntmps27
    go_wp2
    go_ret2
    exact ⟨rfl, Below.refl _ _⟩
set_option maxHeartbeats 8000000 in
set_option maxRecDepth 100000 in
theorem cipher_New.calls (k : Nat) (t : List Nat) (ho : ciOk t) (hpi : pi_Words.f k 0 1042 = some (ciI t, 0)) (key : ByteArray) (w : World) (h0 : ¬ key.size = 0) (h72 : key.size ≤ 72) :
    Calls Try.prog 27 #[.string key] w fun e w' => ∃ g, w.heap.size ≤ g ∧ e = .returned (.tuple #[.pointer (some ⟨g, 0, none⟩), .int .i64 0]) ∧ Ci 70 w' g (ciExpand t (ciWord ciE) (ciWord key)) ∧ Below w.heap.size w w' := by
  have HO := Aside0.mk ho
  have HP := Aside0.mk hpi
  have HZ := Aside0.mk h72
  have e1 := (ci_empty (s := key)).1
  have e2 := (ci_empty (s := key)).2
  have e3 : decide ((72 : Int) < (key.size : Int)) = false := decide_eq_false (by omega)
  have e4 : decide (72 < key.size) = false := decide_eq_false (by omega)
  rw [decide_eq_false h0] at e1 e2
  clear ho hpi h72 h0
  go_enter Try.func27, Try.ntmps27
  go_wp2_with (first | (go_at_call 17; refine (cipher_Plain.calls k t HO.out.1 HP.out _).mono ?_; rintro e wn ⟨g, hg, rfl, hc, hb⟩; have HC := Aside0.mk hc; have HG := Aside0.mk hg; have HB := Aside0.mk hb; clear hc hg hb) | (go_at_call 21; refine (cipher_Cipher_Expand.calls ciE key (by decide) (by have := HZ.out; omega) g t _ HC.out HO.out).mono ?_; rintro e wn2 ⟨rfl, hc, hb⟩; have n0_ := Aside0.mk hc; have n1_ := Aside0.mk (But.below HB.out hb HG.out HB.out.size); clear HC HB hc hb; have HC := n0_; have HB := n1_; clear n0_ n1_))
  go_ret2
  exact ⟨g, HG.out, rfl, HC.out, HB.out⟩

/-! ### pestlelaw10_awake: function 16 -/
/-- a word of a table that is one number -/
def blG (T i : Nat) : Nat := (T >>> (32 * i)) % 4294967296
def blPut (T i v : Nat) : Nat := T ^^^ ((blG T i ^^^ v) <<< (32 * i))
def blFn (T x : Nat) : Nat := ((((blG T (18 + x / 16777216) + blG T (274 + x / 65536 % 256)) % 4294967296) ^^^ blG T (530 + x / 256 % 256)) + blG T (786 + x % 256)) % 4294967296
/-- one round: both words in one number -/
def blRnd (T i s : Nat) : Nat := ((s % 4294967296) ^^^ blFn T ((s / 4294967296) ^^^ blG T i)) * 4294967296 + ((s / 4294967296) ^^^ blG T i)
def blRnds (T : Nat) : Nat → Nat → Nat → Nat
  | 0, _, s => s
  | n + 1, i, s => blRnds T n (i + 1) (blRnd T i s)
def blFin (T s : Nat) : Nat := ((s % 4294967296) ^^^ blG T 17) * 4294967296 + ((s / 4294967296) ^^^ blG T 16)
def blEnc (T s : Nat) : Nat := blFin T (blRnds T 16 0 s)
/-- the state: the table above two words -/
def blPut2 (T i s : Nat) : Nat := blPut (blPut T i (s / 4294967296)) (i + 1) (s % 4294967296) * 18446744073709551616 + s
def blStepE (S i X : Nat) : Nat := blPut2 (X / 18446744073709551616) i (blEnc (X / 18446744073709551616) ((X % 18446744073709551616) ^^^ (blG S (i % 4) * 4294967296 + blG S ((i + 1) % 4))))
def blRunE (S : Nat) : Nat → Nat → Nat → Nat
  | 0, _, X => X
  | n + 1, i, X => blRunE S n (i + 2) (blStepE S i X)
/-- a key's 18 words K are blPut in; then the chain, with the salt's four words -/
def blExpand (T K S : Nat) : Nat := blRunE S 521 0 ((T ^^^ K) * 18446744073709551616) / 18446744073709551616
theorem bl_g_bit (T i k : Nat) : (blG T i).testBit k = (decide (k < 32) && T.testBit (32 * i + k)) := by
  unfold blG
  rw [show (4294967296 : Nat) = 2 ^ 32 from rfl, Nat.testBit_mod_two_pow, Nat.testBit_shiftRight]
theorem bl_g_lt (T i : Nat) : blG T i < 4294967296 := Nat.mod_lt _ (by omega)
theorem bl_bit_high {v k : Nat} (h : v < 4294967296) (hk : 32 ≤ k) : v.testBit k = false :=
  Nat.testBit_lt_two_pow (Nat.lt_of_lt_of_le h (by rw [show (4294967296 : Nat) = 2 ^ 32 from rfl]; exact Nat.pow_le_pow_right (by omega) hk))
theorem bl_g_put_same (T i v : Nat) (hv : v < 4294967296) : blG (blPut T i v) i = v := by
  refine Nat.eq_of_testBit_eq fun k => ?_
  rw [bl_g_bit]
  unfold blPut
  rw [Nat.testBit_xor, Nat.testBit_shiftLeft]
  by_cases hk : k < 32
  · rw [decide_eq_true hk, decide_eq_true (show 32 * i + k ≥ 32 * i by omega), show 32 * i + k - 32 * i = k by omega, Nat.testBit_xor, bl_g_bit, decide_eq_true hk]
    cases T.testBit (32 * i + k) <;> cases v.testBit k <;> rfl
  · rw [decide_eq_false hk, bl_bit_high hv (by omega)]; rfl
theorem bl_g_put_other (T i j v : Nat) (hv : v < 4294967296) (h : j ≠ i) : blG (blPut T i v) j = blG T j := by
  refine Nat.eq_of_testBit_eq fun k => ?_
  rw [bl_g_bit, bl_g_bit]
  unfold blPut
  rw [Nat.testBit_xor, Nat.testBit_shiftLeft]
  by_cases hk : k < 32
  · rw [decide_eq_true hk, Bool.true_and, Bool.true_and]
    by_cases hc : 32 * j + k ≥ 32 * i
    · rw [decide_eq_true hc, bl_bit_high (Nat.xor_lt_two_pow (n := 32) (bl_g_lt T i) hv) (by omega)]; simp
    · rw [decide_eq_false hc]; simp
  · rw [decide_eq_false hk]; simp
theorem bl_g_xor (T K i : Nat) : blG (T ^^^ K) i = blG T i ^^^ blG K i := by
  refine Nat.eq_of_testBit_eq fun k => ?_
  rw [bl_g_bit, Nat.testBit_xor, Nat.testBit_xor, bl_g_bit, bl_g_bit]
  cases decide (k < 32) <;> simp
/-! ### both -/
def BlRep (t : List Nat) (T : Nat) : Prop := t.length = 1042 ∧ ∀ i, i < 1042 → ciW t i = blG T i
theorem BlRep.ciok {t : List Nat} {T : Nat} (h : BlRep t T) : ciOk t := by
  refine ⟨h.1, fun i => ?_⟩
  by_cases hi : i < 1042
  · rw [h.2 i hi]; exact bl_g_lt _ _
  · unfold ciW
    rw [List.getD_eq_getElem?_getD, List.getElem?_eq_none (by rw [h.1]; omega)]; decide
theorem BlRep.set {t : List Nat} {T : Nat} (h : BlRep t T) {i v : Nat} (hi : i < 1042) (hv : v < 4294967296) : BlRep (t.set i v) (blPut T i v) := by
  refine ⟨by rw [List.length_set, h.1], fun j hj => ?_⟩
  rw [ciW_set (by rw [h.1]; exact hi)]
  by_cases e : j = i
  · subst e; rw [if_pos rfl, bl_g_put_same _ _ _ hv]
  · rw [if_neg e, bl_g_put_other _ _ _ _ hv e, h.2 j hj]
theorem BlRep.f {t : List Nat} {T : Nat} (h : BlRep t T) {x : Nat} (hx : x < 4294967296) : ciF t x = blFn T x := by
  unfold ciF blFn
  rw [h.2 _ (by omega), h.2 _ (by omega), h.2 _ (by omega), h.2 _ (by omega)]
theorem bl_pack_mod {l r : Nat} (hr : r < 4294967296) : (l * 4294967296 + r) % 4294967296 = r := by omega
theorem bl_pack_div {l r : Nat} (hr : r < 4294967296) : (l * 4294967296 + r) / 4294967296 = l := by omega
theorem bl_rnds_succ (T n i s : Nat) : blRnds T (n + 1) i s = blRnds T n (i + 1) (blRnd T i s) := rfl
theorem BlRep.rnds {t : List Nat} {T : Nat} (h : BlRep t T) (n : Nat) : ∀ i l r, i + n ≤ 16 → l < 4294967296 → r < 4294967296 → blRnds T n i (l * 4294967296 + r) = (ciEncR t n i l r).1 * 4294967296 + (ciEncR t n i l r).2 := by
  induction n with
  | zero => intro i l r _ _ _; rfl
  | succ n ih =>
    intro i l r hn hl hr
    have hx := ci_xor hl (h.ciok.2 i)
    have q := ih (i + 1) (r ^^^ ciF t (l ^^^ ciW t i)) (l ^^^ ciW t i) (by omega) (ci_xor hr (ciF_lt _ _)) hx
    rw [bl_rnds_succ, ciEncR_succ, ← q]
    unfold blRnd
    rw [bl_pack_mod hr, bl_pack_div hr, ← h.2 i (by omega), ← h.f hx]
theorem BlRep.enc {t : List Nat} {T : Nat} (h : BlRep t T) {l r : Nat} (hl : l < 4294967296) (hr : r < 4294967296) : blEnc T (l * 4294967296 + r) = (ciEnc t l r).1 * 4294967296 + (ciEnc t l r).2 := by
  unfold blEnc blFin ciEnc
  rw [h.rnds 16 0 l r (by omega) hl hr]
  have b := ciEncR_lt h.ciok 16 0 l r hl hr
  generalize ciEncR t 16 0 l r = p at b
  obtain ⟨a, c⟩ := p
  simp only at b
  have e1 : (a * 4294967296 + c) % 4294967296 = c := by omega
  have e2 : (a * 4294967296 + c) / 4294967296 = a := by omega
  rw [e1, e2, ← h.2 17 (by omega), ← h.2 16 (by omega)]
theorem BlRep.key {K : Nat} (kw : Nat → Nat) (hk : ∀ i, i < 18 → kw i = blG K i) (h18 : ∀ i, 18 ≤ i → i < 1042 → blG K i = 0) {t : List Nat} {T : Nat} (h : BlRep t T) : BlRep (ciKey kw 18 0 t) (T ^^^ K) := by
  have gen : ∀ n i t', i + n = 18 → t'.length = 1042 → (∀ j, j < 1042 → ciW t' j = if j < i then blG T j ^^^ blG K j else blG T j) → BlRep (ciKey kw n i t') (T ^^^ K) := by
    intro n
    induction n with
    | zero =>
      intro i t' hn hl ht
      refine ⟨hl, fun j hj => ?_⟩
      show ciW t' j = _
      rw [ht j hj, bl_g_xor]
      split
      · rfl
      · rw [h18 j (by omega) hj, Nat.xor_zero]
    | succ n ih =>
      intro i t' hn hl ht
      refine ih (i + 1) _ (by omega) (by rw [List.length_set, hl]) fun j hj => ?_
      rw [ciW_set (by omega)]
      by_cases e : j = i
      · subst e
        rw [if_pos rfl, if_pos (by omega), ht j hj, if_neg (by omega), hk j (by omega)]
      · rw [if_neg e, ht j hj]
        by_cases q : j < i
        · rw [if_pos q, if_pos (by omega)]
        · rw [if_neg q, if_neg (by omega)]
  exact gen 18 0 t rfl h.1 fun j hj => by rw [if_neg (by omega), h.2 j hj]
theorem bl_xor_pack {a b c d : Nat} (hb : b < 4294967296) (hd : d < 4294967296) : (a * 4294967296 + b) ^^^ (c * 4294967296 + d) = (a ^^^ c) * 4294967296 + (b ^^^ d) := by
  refine Nat.eq_of_testBit_eq fun k => ?_
  have e : ∀ x y : Nat, y < 4294967296 → (x * 4294967296 + y).testBit k = if k < 32 then y.testBit k else x.testBit (k - 32) := fun x y hy => by
    have := Nat.testBit_two_pow_mul_add x (i := 32) (b := y) hy k
    rw [show (2 : Nat) ^ 32 = 4294967296 from rfl, Nat.mul_comm] at this
    exact this
  rw [Nat.testBit_xor, e _ _ hb, e _ _ hd, e _ _ (ci_xor hb hd)]
  split <;> rw [Nat.testBit_xor]
theorem bl_big_div {T x : Nat} (hx : x < 18446744073709551616) : (T * 18446744073709551616 + x) / 18446744073709551616 = T := by omega
theorem bl_big_mod {T x : Nat} (hx : x < 18446744073709551616) : (T * 18446744073709551616 + x) % 18446744073709551616 = x := by omega
theorem bl_pack_lt {l r : Nat} (hl : l < 4294967296) (hr : r < 4294967296) : l * 4294967296 + r < 18446744073709551616 := by omega
theorem bl_runE_succ (S n i X : Nat) : blRunE S (n + 1) i X = blRunE S n (i + 2) (blStepE S i X) := by
  delta blRunE
  rfl
theorem BlRep.step {S : Nat} {sw : Nat → Nat} (hs : ∀ i, sw i = blG S (i % 4)) {i l r : Nat} {t : List Nat} {T : Nat} (hl : l < 4294967296) (hr : r < 4294967296) (h : BlRep t T) :
    blStepE S i (T * 18446744073709551616 + (l * 4294967296 + r)) = blPut (blPut T i (ciEnc t (l ^^^ sw i) (r ^^^ sw (i + 1))).1) (i + 1) (ciEnc t (l ^^^ sw i) (r ^^^ sw (i + 1))).2 * 18446744073709551616 + ((ciEnc t (l ^^^ sw i) (r ^^^ sw (i + 1))).1 * 4294967296 + (ciEnc t (l ^^^ sw i) (r ^^^ sw (i + 1))).2) := by
  have s1 : sw i < 4294967296 := by rw [hs]; exact bl_g_lt _ _
  have s2 : sw (i + 1) < 4294967296 := by rw [hs]; exact bl_g_lt _ _
  have e := ciEnc_lt h.ciok (ci_xor hl s1) (ci_xor hr s2)
  unfold blStepE blPut2
  rw [bl_big_div (bl_pack_lt hl hr), bl_big_mod (bl_pack_lt hl hr), ← hs, ← hs, bl_xor_pack hr s2, h.enc (ci_xor hl s1) (ci_xor hr s2), bl_pack_div e.2, bl_pack_mod e.2]
theorem BlRep.run {S : Nat} (sw : Nat → Nat) (hs : ∀ i, sw i = blG S (i % 4)) (n : Nat) : ∀ i l r t T, i + 2 * n ≤ 1042 → l < 4294967296 → r < 4294967296 → BlRep t T → BlRep (ciChain sw n i l r t) (blRunE S n i (T * 18446744073709551616 + (l * 4294967296 + r)) / 18446744073709551616) := by
  induction n with
  | zero =>
    intro i l r t T _ hl hr h
    show BlRep t ((T * 18446744073709551616 + (l * 4294967296 + r)) / 18446744073709551616)
    rw [bl_big_div (bl_pack_lt hl hr)]; exact h
  | succ n ih =>
    intro i l r t T hn hl hr h
    have s1 : sw i < 4294967296 := by rw [hs]; exact bl_g_lt _ _
    have s2 : sw (i + 1) < 4294967296 := by rw [hs]; exact bl_g_lt _ _
    have e := ciEnc_lt h.ciok (ci_xor hl s1) (ci_xor hr s2)
    rw [bl_runE_succ, ciChain_succ, BlRep.step hs hl hr h]
    exact ih (i + 2) _ _ _ _ (by omega) e.1 e.2 ((h.set (by omega) e.1).set (by omega) e.2)
theorem BlRep.expand {t : List Nat} {T K S : Nat} (h : BlRep t T) (sw kw : Nat → Nat) (hk : ∀ i, i < 18 → kw i = blG K i) (h18 : ∀ i, 18 ≤ i → i < 1042 → blG K i = 0) (hs : ∀ i, sw i = blG S (i % 4)) : BlRep (ciExpand t sw kw) (blExpand T K S) := by
  have q := BlRep.run sw hs 521 0 0 0 _ _ (by omega) (by omega) (by omega) (h.key kw hk h18)
  rw [show (T ^^^ K) * 18446744073709551616 + (0 * 4294967296 + 0) = (T ^^^ K) * 18446744073709551616 by omega] at q
  exact q
/-- the document's plain table: pi's words -/
def ciPw (i : Nat) : Nat := pi_LL / 2 ^ (32 * (1041 - i)) % 4294967296
theorem ciPi_ex : ∃ l : List Nat, l = (List.range 1042).map ciPw := ⟨_, rfl⟩
noncomputable def ciPi : List Nat := Classical.choose ciPi_ex
theorem ciPi_def : ciPi = (List.range 1042).map ciPw := Classical.choose_spec ciPi_ex
def ciPk : Nat → Nat → Nat
  | 0, a => a
  | n + 1, a => ciPk n (a * 4294967296 + ciPw n)
def ciT0 : Nat := ciPk 1042 0
set_option maxRecDepth 100000 in
theorem ciT0_chk : ∀ i, i < 1042 → ciPw i = blG ciT0 i := by decide +kernel
theorem ciPi_len : ciPi.length = 1042 := by rw [ciPi_def]; rw [List.length_map, List.length_range]
theorem ciPi_at (i : Nat) (h : i < 1042) : ciW ciPi i = ciPw i := by
  rw [ciPi_def]
  unfold ciW
  rw [List.getD_eq_getElem?_getD, List.getElem?_map, List.getElem?_range h]; rfl
theorem ciPi_rep : BlRep ciPi ciT0 := ⟨ciPi_len, fun i h => by rw [ciPi_at i h, ciT0_chk i h]⟩
theorem ciPi_ok : ciOk ciPi := ciPi_rep.ciok
theorem ciWord_zero (s : ByteArray) (h : ∀ j, ciB s j = 0) (i : Nat) : ciWord s i = 0 := by
  unfold ciWord
  simp only [ciWj, h]
theorem ciWord_empty (i : Nat) : ciWord ciE i = 0 := ciWord_zero _ (fun j => by unfold ciB; exact if_pos rfl) i
def ciZ8 : ByteArray := strOfNums (List.replicate 8 0)
theorem ciZ8_size : ciZ8.size = 8 := by decide
theorem ciZ8_word (i : Nat) : ciWord ciZ8 i = 0 := ciWord_zero _ (fun j => by
  unfold ciB
  rw [if_neg (by rw [ciZ8_size]; omega), show ciZ8.data.toList = List.replicate 8 (0 : UInt8) from rfl, List.getD_eq_getElem?_getD, List.getElem?_replicate]
  split <;> rfl) i
theorem ciG_zero (i : Nat) : blG 0 i = 0 := by unfold blG; rw [Nat.zero_shiftRight]
set_option maxRecDepth 100000 in
theorem ciAw_chk : blEnc (blExpand ciT0 0 0) 0 = 1324980037 * 4294967296 + 1637408120 := by decide +kernel
theorem ci_awake : (ciEnc (ciExpand ciPi (ciWord ciE) (ciWord ciZ8)) 0 0).1 = 1324980037 ∧ (ciEnc (ciExpand ciPi (ciWord ciE) (ciWord ciZ8)) 0 0).2 = 1637408120 := by
  have h := BlRep.expand ciPi_rep (K := 0) (S := 0) (ciWord ciE) (ciWord ciZ8) (fun i _ => by rw [ciZ8_word, ciG_zero]) (fun i _ _ => ciG_zero i) (fun i => by rw [ciWord_empty, ciG_zero])
  have e := h.enc (l := 0) (r := 0) (by omega) (by omega)
  have lt := ciEnc_lt h.ciok (l := 0) (r := 0) (by omega) (by omega)
  rw [show 0 * 4294967296 + 0 = 0 from rfl, ciAw_chk] at e
  omega
theorem ci_info5 : (Try.prog.info? 5).map (fun i => (i.zero, i.size, i.bytes)) = some (some (.int .u8 0), 1, 1) := by kernel_rfl
noncomputable def pestlelaw10_awake.f (k : Nat) : Option Bool := (pi_Words.f k 0 1042).bind fun b => (if b = (ciI ciPi, 0) then some true else none)
theorem pestlelaw10_awake.mono : ∀ k, LeO (pestlelaw10_awake.f k) (pestlelaw10_awake.f (k + 1)) := by
  intro k
  unfold pestlelaw10_awake.f
  exact LeO.bind (pi_Words.mono _ _ _) (fun _ => LeO.refl _)
theorem pestlelaw10_awake.pi {k : Nat} {r : Bool} (h : pestlelaw10_awake.f k = some r) : r = true ∧ pi_Words.f k 0 1042 = some (ciI ciPi, 0) := by
  unfold pestlelaw10_awake.f at h
  replace h := Option.bind_eq_some_iff.mp h
  obtain ⟨b, hb, h⟩ := h
  by_cases q : b = (ciI ciPi, 0)
  · rw [if_pos q] at h
    exact ⟨(Option.some.inj h).symm, by rw [hb, q]⟩
  · rw [if_neg q] at h; cases h
theorem ci_enc0 (g : Nat) (w : World) (hc : Ci 70 w g (ciExpand ciPi (ciWord ciE) (ciWord ciZ8))) (ho : ciOk (ciExpand ciPi (ciWord ciE) (ciWord ciZ8))) :
    Calls Try.prog 23 #[.pointer (some ⟨g, 0, none⟩), .int .u32 0, .int .u32 0] w fun e w' => e = .returned (.tuple #[.int .u32 1324980037, .int .u32 1637408120]) ∧ Below w.heap.size w w' :=
  (cipher_Cipher_Encrypt.calls _ g 0 0 w hc ho (by omega) (by omega)).mono fun e w' ⟨h1, h2⟩ => ⟨by rw [h1, ci_awake.1, ci_awake.2]; rfl, h2⟩
theorem ciExpand_pi (s k : ByteArray) : ciOk (ciExpand ciPi (ciWord s) (ciWord k)) := ciExpand_ok ciPi_ok (ciWord_lt s) (ciWord_lt k)
set_option maxHeartbeats 8000000 in
set_option maxRecDepth 100000 in
theorem pestlelaw10_awake.calls (k : Nat) (r : Bool) (w : World) (h : pestlelaw10_awake.f k = some r) :
    Calls Try.prog 16 #[] w fun e w' => e = .returned (.bool r) ∧ Below w.heap.size w w' := by
  obtain ⟨rfl, hpi⟩ := pestlelaw10_awake.pi h
  have HP := Aside0.mk hpi
  have HB := Aside0.mk (Below.refl w.heap.size w)
  obtain ⟨y108, hy108⟩ : ∃ y_ : List Int, y_ = (List.replicate 8 0) := ⟨_, rfl⟩
  have Ny108 := Aside0.mk hy108
  have ZZ := Aside0.mk (show strOfNums y108 = ciZ8 by rw [hy108]; rfl)
  clear hy108 h hpi
  go_enter Try.func16, Try.ntmps16
  go_wp2_with (first | ((with_reducible refine gate_dst (N := 6) rfl ?_); refine Kd.R_make (Kd.int .u8) _ 5 rfl (N := 6) rfl 65 _ _ rfl 8 rfl rfl Try.underlying65 (.int .u8 0) 1 ci_info5 rfl (by decide) (by omega) 0 (ok := fun _ => True) (okp := fun _ => True) rfl (fun _ hk => hk) trivial (by omega) (by omega) (Below.refl _ _) (Nat.le_refl _) ?_; intro v109 w6 ho7 hb hg_ hnew_; clear hg_ hnew_; (first | rw [← Ny108.out] at ho7 | (simp only [Int.reduceToNat] at ho7; rw [← Ny108.out] at ho7)); have n1_ := Aside0.mk (below_step HB.out hb); clear HB; have HB := n1_; clear n1_ hb; have hcv8 := own_string (P := Try.prog) Try.underlying65 Try.underlying5 Try.underlying9 (Kd.own_of_R ho7); rw [ZZ.out] at hcv8; clear ho7) | (go_at_call 27; refine (cipher_New.calls k ciPi ciPi_ok HP.out ciZ8 _ (by rw [ciZ8_size]; omega) (by rw [ciZ8_size]; omega)).mono ?_; rintro e wn ⟨g, hg, rfl, hc, hb⟩; have n1_ := Aside0.mk (below_step HB.out hb); have HC := Aside0.mk hc; clear HB hg hc hb hcv8; have HB := n1_; clear n1_) | (go_at_call 23; refine (ci_enc0 g _ HC.out (ciExpand_pi _ _)).mono ?_; rintro e wn ⟨rfl, hb⟩; have n1_ := Aside0.mk (below_step HB.out hb); clear HB hb; have HB := n1_; clear n1_))
  go_ret
  exact ⟨rfl, HB.out⟩

/-! ### words_Left32: function 44 -/
def words_Left32.f (a0 : Int) (a1 : Int) : Option (Int) := if 0 ≤ (Int.tmod (IntKind.u64.wrap (a1)) 32) then (if 0 ≤ (IntKind.u64.wrap (32 - (Int.tmod (IntKind.u64.wrap (a1)) 32))) then (some (Go.bits .or .u32 (shl .u32 a0 (Int.tmod (IntKind.u64.wrap (a1)) 32)) (shr .u32 a0 (IntKind.u64.wrap (32 - (Int.tmod (IntKind.u64.wrap (a1)) 32)))))) else (none)) else (none)
set_option maxHeartbeats 8000000 in
set_option maxRecDepth 100000 in
theorem words_Left32.calls (a0 : Int) (a1 : Int) (r : Int) (w : World) (h : words_Left32.f a0 a1 = some r) :
  Calls Try.prog 44 #[.int .u32 a0, .int .i64 a1] w fun e w' => e = .returned (.int .u32 r) ∧ Drawn0 w w' := by
 have H : (if 0 ≤ (Int.tmod (IntKind.u64.wrap (a1)) 32) then (if 0 ≤ (IntKind.u64.wrap (32 - (Int.tmod (IntKind.u64.wrap (a1)) 32))) then (some (Go.bits .or .u32 (shl .u32 a0 (Int.tmod (IntKind.u64.wrap (a1)) 32)) (shr .u32 a0 (IntKind.u64.wrap (32 - (Int.tmod (IntKind.u64.wrap (a1)) 32)))))) else (none)) else (none)) = some r := h
 clear h
 obtain ⟨ji3, hji3⟩ : ∃ j_ : Int, (Int.tmod (IntKind.u64.wrap (a1)) 32) = j_ := ⟨_, rfl⟩
 replace H : (if 0 ≤ (ji3) then (if 0 ≤ (IntKind.u64.wrap (32 - (ji3))) then (some (Go.bits .or .u32 (shl .u32 a0 (ji3)) (shr .u32 a0 (IntKind.u64.wrap (32 - (ji3)))))) else (none)) else (none)) = some r := by first | (rw [hji3] at H; exact H) | (simp only [hji3] at H ⊢; exact H)
 by_cases c4 : 0 ≤ (ji3)
 ·rw [if_pos c4] at H
  have c4b0 := eq_true c4
  have c4b1 : decide (0 ≤ (ji3)) = true := decide_eq_true c4
  clear c4
  obtain ⟨ji5, hji5⟩ : ∃ j_ : Int, (shl .u32 a0 (ji3)) = j_ := ⟨_, rfl⟩
  replace H : (if 0 ≤ (IntKind.u64.wrap (32 - (ji3))) then (some (Go.bits .or .u32 (ji5) (shr .u32 a0 (IntKind.u64.wrap (32 - (ji3)))))) else (none)) = some r := by first | (rw [hji5] at H; exact H) | (simp only [hji5] at H ⊢; exact H)
  have hji5_ : (IntKind.u32.wrap (a0 * 2 ^ min (ji3).toNat 32)) = ji5 := hji5
  have hji5z : (ji3) ≤ 32 → (IntKind.u32.wrap (a0 * 2 ^ (ji3).toNat)) = ji5 := shl_small hji5
  obtain ⟨ji6, hji6⟩ : ∃ j_ : Int, (IntKind.u64.wrap (32 - (ji3))) = j_ := ⟨_, rfl⟩
  replace H : (if 0 ≤ (ji6) then (some (Go.bits .or .u32 (ji5) (shr .u32 a0 (ji6)))) else (none)) = some r := by first | (rw [hji6] at H; exact H) | (simp only [hji6] at H ⊢; exact H)
  by_cases c7 : 0 ≤ (ji6)
  ·rw [if_pos c7] at H
   have c7b0 := eq_true c7
   have c7b1 : decide (0 ≤ (ji6)) = true := decide_eq_true c7
   clear c7
   obtain ⟨ji8, hji8⟩ : ∃ j_ : Int, (shr .u32 a0 (ji6)) = j_ := ⟨_, rfl⟩
   replace H : (some (Go.bits .or .u32 (ji5) (ji8))) = some r := by first | (rw [hji8] at H; exact H) | (simp only [hji8] at H ⊢; exact H)
   have hji8_ : (a0 / 2 ^ min (ji6).toNat 32) = ji8 := hji8
   have hji8z : (ji6) ≤ 32 → (a0 / 2 ^ (ji6).toNat) = ji8 := shr_small hji8
   obtain rfl := Option.some.inj H
   go_enter Try.func44, Try.ntmps44
   go_wp2
   go_ret
   exact ⟨by first | rfl | (simp; done) | (simp only [← hji3, ← hji5, ← hji6, ← hji8] <;> (first | rfl | simp)) | (simp [*]; done), by repeat (first | exact Drawn0.refl _ | apply Drawn0.step)⟩
  ·rw [if_neg c7] at H
   exact absurd H (by simp)
 ·rw [if_neg c4] at H
  exact absurd H (by simp)

/-! ### cipher_Cipher_Sum: function 18 -/
theorem ci_index_part {P : Program} (w : World) (t e : TypeId) (n sz : Nat) (d : TypeDesc) (cs : Array Value) (k : IntKind) (i : Nat) (h : P.underlying t = some (.array n e)) (hd : P.underlying e = some d) (hna : (match d with | .struct _ | .array _ _ => true | _ => false) = true) (hs : (P.info? e).map (·.size) = some sz) (hi : i < n) :
    (Instr.index t (.agg cs) (.int k (i : Int))).run P w = .ok (.agg (cs.extract (i * sz) (i * sz + sz))) w := by
  have hagg : (isAgg e).run P w = .ok true w := by
    unfold isAgg
    rw [Sem.run_bind, run_underlying hd w]
    cases d <;> simp_all
  cases hq : P.info? e with
  | none => simp [hq] at hs
  | some j =>
    have hj : j.size = sz := by simpa [hq] using hs
    simp [Instr.index, asIntOf, Sem.run_bind, run_underlying h w, sizeOf, typeInfo, hq, hj, part, hagg]
    intro hle
    omega
theorem ci_load_part {P : Program} {ops : Array Oper} {rest : List Oper} {o : Oper} {a : Act} {w : World} {Q : Exit → Act → World → Prop} (hgd : o.guard = none) (ty : TypeId) (x : Operand) (ho : o.op = .load ty x)
    (g off : Nat) (hx : a.eval x = .pointer (some ⟨g, off, none⟩)) (cs : List Value) (d : TypeDesc) (hc : ∀ j v, cs[j]? = some v → w.cell? ⟨g, off + j, none⟩ = some v)
    (hu : P.underlying ty = some d) (hd : (match d with | .struct _ | .array _ _ => true | _ => false) = true) (hi : (P.info? ty).map (·.size) = some cs.length)
    (h : wpList P ops Q rest (a.put o.dst (.agg cs.toArray)) w) : wpList P ops Q (o :: rest) a w := by
  refine wpList_plain hgd fun _ hK => ?_
  have hl : (loadCells ⟨g, off, none⟩ cs.length).run P w = .ok cs.toArray w :=
    run_loadCells_list (P := P) w ⟨g, off, none⟩ cs (fun j v hv => by
      have hadd : (⟨g, off, none⟩ : Addr).add j = ⟨g, off + j, none⟩ := by unfold Addr.add; split <;> simp_all
      rw [hadd]
      exact hc j v hv)
  have hrun : (loadVar ty ⟨g, off, none⟩).run P w = .ok (.agg cs.toArray) w := by
    cases hq : P.info? ty with
    | none => simp [hq] at hi
    | some i =>
      have hs : i.size = cs.length := by simpa [hq] using hi
      have hagg : (isAgg ty).run P w = .ok true w := by
        unfold isAgg
        rw [Sem.run_bind, run_underlying hu w]
        cases d <;> simp_all
      simp [loadVar, Sem.run_bind, hagg, sizeOf, typeInfo, hq, hs, hl]
  unfold Oper.wp execOp
  simp only [ho, hx, Instr.loadAt, Instr.sureAddr, Sem.run_bind, Sem.run_pure, Result.andThen_ok, hrun]
  exact hK _ _ h
def ciLeft (x i : Nat) : Int := (words_Left32.f (x : Int) (i : Int)).getD 0
theorem ciLeft_some (x i : Nat) : words_Left32.f (x : Int) (i : Int) = some (ciLeft x i) := by
  unfold ciLeft words_Left32.f
  have h1 : 0 ≤ Int.tmod (IntKind.u64.wrap (i : Int)) 32 := by
    rw [IntKind.wrap_u64]
    exact Int.tmod_nonneg _ (by omega)
  have h2 : ∀ y : Int, 0 ≤ IntKind.u64.wrap y := fun y => by rw [IntKind.wrap_u64]; omega
  rw [if_pos h1, if_pos (h2 _)]
  rfl
/-- what the words from the i-th on add to a sum -/
def ciSumR (t : List Nat) : Nat → Nat → Int → Int
  | 0, _, s => s
  | n + 1, i, s => ciSumR t n (i + 1) ((s + ciLeft (ciW t i) i) % 4294967296)
def ciSum (t : List Nat) : Int := ciSumR t 1042 0 0
theorem ciSumR_succ (t : List Nat) (n i : Nat) (s : Int) : ciSumR t (n + 1) i s = ciSumR t n (i + 1) ((s + ciLeft (ciW t i) i) % 4294967296) := rfl
theorem ciV_at {t : List Nat} (h : t.length = 1042) {m n j : Nat} (hm : m + n ≤ 1042) (hj : j < n) : (ciV t m n).toArray[j]? = some (.int .u32 ((ciW t (m + j) : Nat) : Int)) := by
  have hl := ciV_len h hm
  rw [List.getElem?_toArray, List.getElem?_eq_getElem (by omega)]
  have e := (ciV_get (List.getElem?_eq_getElem (show j < (ciV t m n).length by omega)) h).2
  rw [e]
theorem ciV_part (t : List Nat) (h : t.length = 1042) (k : Nat) (hk : k < 4) : (ciV t 18 1024).toArray.extract (k * 256) (k * 256 + 256) = (ciV t (18 + k * 256) 256).toArray := by
  unfold ciV
  rw [List.extract_toArray, List.extract_eq_take_drop]
  congr 1
  rw [← List.map_drop, ← List.map_take, List.drop_take, List.drop_drop, List.take_take]
  congr 2
  omega
theorem ci_cells {T : TypeId} {w : World} {g : Nat} {t : List Nat} (h : Ci T w g t) (ho : t.length = 1042) (m n : Nat) : ∀ j v, (ciV t m n)[j]? = some v → w.cell? ⟨g, m + j, none⟩ = some v := fun j v hv => by
  obtain ⟨h1, rfl⟩ := ciV_get hv ho
  exact (blk_cell h (m + j)).trans (ciA_get t (m + j) (by omega))
set_option maxHeartbeats 8000000 in
set_option maxRecDepth 100000 in
theorem cipher_Cipher_Sum.nil (w : World) : Calls Try.prog 18 #[.pointer none] w fun e w' => e = .returned (.int .u32 0) ∧ Below w.heap.size w w' := by
  go_enter Try.func18, Try.ntmps18
  go_wp2
  go_ret
  exact ⟨rfl, Below.refl _ _⟩
set_option maxHeartbeats 8000000 in
set_option maxRecDepth 100000 in
theorem cipher_Cipher_Sum.calls (g : Nat) (t : List Nat) (w : World) (hc : Ci 70 w g t) (ho : ciOk t) :
    Calls Try.prog 18 #[.pointer (some ⟨g, 0, none⟩)] w fun e w' => e = .returned (.int .u32 (ciSum t)) ∧ Below w.heap.size w w' := by
  have HC := Aside0.mk hc
  have HO := Aside0.mk ho
  have HB := Aside0.mk (Below.refl w.heap.size w)
  have HG := Aside0.mk hc.lt
  have H1 := ci_cells hc ho.1 0 18
  replace H1 := Aside0.mk H1
  clear hc ho
  go_enter Try.func18, Try.ntmps18
  go_wp2_with ((with_reducible refine gate_dst (N := 15) rfl ?_); refine ci_load_part rfl 66 (.tmp 14) rfl g 0 rfl (ciV t 0 18) _ H1.out Try.underlying66 rfl (by rw [ciV_len HO.out.1 (by omega)]; kernel_rfl) ?_)
  obtain ⟨A1, hA1⟩ : ∃ A1, (ciV t 0 18).toArray = A1 := ⟨_, rfl⟩
  rw [hA1]
  have KX : ∀ (n : Nat) (W : World), n < 18 → (Instr.index 66 (.agg A1) (.int .i64 (n : Int))).run Try.prog W = .ok (.int .u32 ((ciW t n : Nat) : Int)) W := fun n W hn => run_index_agg W 66 23 18 _ A1 .i64 n _ Try.underlying66 Try.underlying23 rfl (by kernel_rfl) hn (by rw [← hA1, ciV_at HO.out.1 (by omega) hn, Nat.zero_add])
  replace KX := Aside0.mk KX
  clear H1 hA1
  go_loopw [16, 3] (fun v16 v3 wz => ∃ (n : Nat) (s : Int), n ≤ 18 ∧ v16 = .int .i64 (n : Int) ∧ v3 = .int .u32 s ∧ Aside0 (ciSumR t (1042 - n) n s = ciSum t) ∧ Aside0 (Ci 70 wz g t) ∧ Aside0 (Below w.heap.size w wz)) (fun v16 _ _ => 18 - (intOf v16).toNat)
  case atStart => exact ⟨0, 0, by omega, rfl, rfl, ⟨rfl⟩, HC, HB⟩
  case round =>
    clear HC HB
    obtain ⟨n, s, hn, rfl, rfl, E, HC, HB⟩ := hrel
    by_cases hlt : n < 18
    · have p1 : (n : Int) < 18 := by omega
      have kx : ∀ W : World, (Instr.index 66 (.agg A1) (.int .i64 (n : Int))).run Try.prog W = .ok (.int .u32 ((ciW t n : Nat) : Int)) W := fun W => KX.out n W hlt
      have hE := E.out
      rw [show 1042 - n = (1041 - n) + 1 by omega, ciSumR_succ, show 1041 - n = 1042 - (n + 1) by omega] at hE
      replace E := Aside0.mk hE
      clear hE
      go_wp2_with (go_at_call 44; refine (words_Left32.calls _ _ _ _ (ciLeft_some (ciW t n) n)).mono ?_; rintro e wn ⟨rfl, hd⟩; have n0_ := Aside0.mk (below_step HB.out (below_of_drawn hd)); have n1_ := Aside0.mk (HC.out.next (below_of_drawn hd)); clear HB HC hd; have HB := n0_; have HC := n1_; clear n0_ n1_)
      exact ⟨⟨n + 1, _, by omega, by go_num, rfl, E, HC, HB⟩, by simp [intOf]; omega⟩
    · obtain rfl : n = 18 := by omega
      clear KX hlt hn
      have H2 := Aside0.mk (ci_cells HC.out HO.out.1 18 1024)
      go_wp2_with ((with_reducible refine gate_dst (N := 29) rfl ?_); refine ci_load_part rfl 68 (.tmp 28) rfl g 18 rfl (ciV t 18 1024) _ H2.out Try.underlying68 rfl (by rw [ciV_len HO.out.1 (by omega)]; kernel_rfl) ?_)
      obtain ⟨A2, hA2⟩ : ∃ A2, (ciV t 18 1024).toArray = A2 := ⟨_, rfl⟩
      rw [hA2]
      have KY : ∀ (k : Nat) (W : World), k < 4 → (Instr.index 68 (.agg A2) (.int .i64 (k : Int))).run Try.prog W = .ok (.agg (ciV t (18 + k * 256) 256).toArray) W := fun k W hk => by
        rw [ci_index_part W 68 67 4 256 _ A2 .i64 k Try.underlying68 Try.underlying67 rfl (by kernel_rfl) hk, ← hA2, ciV_part t HO.out.1 k hk]
      replace KY := Aside0.mk KY
      clear H2 hA2
      go_loopw [30, 3] (fun v30 v3 wz => ∃ (k : Nat) (s : Int), k ≤ 4 ∧ v30 = .int .i64 (k : Int) ∧ v3 = .int .u32 s ∧ Aside0 (ciSumR t (1042 - (18 + k * 256)) (18 + k * 256) s = ciSum t) ∧ Aside0 (Ci 70 wz g t) ∧ Aside0 (Below w.heap.size w wz)) (fun v30 _ _ => 4 - (intOf v30).toNat)
      case atStart => exact ⟨0, s, by omega, rfl, rfl, E, HC, HB⟩
      case round =>
        clear HC HB E
        obtain ⟨k, s, hk, rfl, rfl, E, HC, HB⟩ := hrel
        by_cases hlt : k < 4
        case neg =>
          obtain rfl : k = 4 := by omega
          go_wp2
          go_ret
          exact ⟨congrArg (fun z => Ending.returned (Value.int .u32 z)) E.out, HB.out⟩
        have p1 : (k : Int) < 4 := by omega
        have ky : ∀ W : World, (Instr.index 68 (.agg A2) (.int .i64 (k : Int))).run Try.prog W = .ok (.agg (ciV t (18 + k * 256) 256).toArray) W := fun W => KY.out k W hlt
        have KL := Aside0.mk hlt
        obtain ⟨A3, hA3⟩ : ∃ A3, (ciV t (18 + k * 256) 256).toArray = A3 := ⟨_, rfl⟩
        rw [hA3] at ky
        have S3 := Aside0.mk (show A3.size = 256 by rw [← hA3, List.size_toArray, ciV_len HO.out.1 (by omega)])
        have O3 := Aside0.mk (show A3.all (·.oneCell') = true by rw [← hA3, List.all_toArray, List.all_eq_true]; exact ciV_one _ _ _)
        have KZ : ∀ (i : Nat) (W : World), i < 256 → (Instr.index 67 (.agg A3) (.int .i64 (i : Int))).run Try.prog W = .ok (.int .u32 ((ciW t (18 + k * 256 + i) : Nat) : Int)) W := fun i W hi => run_index_agg W 67 23 256 _ A3 .i64 i _ Try.underlying67 Try.underlying23 rfl (by kernel_rfl) hi (by rw [← hA3, ciV_at HO.out.1 (by omega) hi])
        replace KZ := Aside0.mk KZ
        clear hlt hk hA3
        go_wp2_with (first | ((with_reducible refine gate_dst (N := 7) rfl ?_); refine box_event ?hg (N := 7) ?hd (cs := ciA (List.replicate 256 0)) (t := 67) ?hr ?_; (case hd => rfl); (case hg => rfl); (case hr => kernel_rfl); intro gb hg wn hbox hb; have n0_ := Aside0.mk (below_step HB.out hb); have n1_ := Aside0.mk (HC.out.next hb); have BX := Aside0.mk hbox; have LB := Aside0.mk (show g < gb by rw [hg]; exact HC.out.lt); have LW := Aside0.mk (show w.heap.size ≤ gb by rw [hg]; exact HB.out.size); clear HB HC hbox hb hg; have HB := n0_; have HC := n1_; clear n0_ n1_) | (refine wpList_store_row rfl 67 (.tmp 7) (.tmp 33) rfl gb A3 rfl rfl 67 _ BX.out (by rw [S3.out]; kernel_rfl) (by rw [S3.out]; rfl) O3.out ?_; have n0_ := Aside0.mk (show Below w.heap.size w _ from below_setRow HB.out LW.out A3); have n1_ := Aside0.mk ((setRow_other _ gb g A3 (by have := LB.out; omega)).trans HC.out); have n2_ := Aside0.mk (setRow_heap _ gb _ A3 67 (0, 0) BX.out); clear HB HC BX; have HB := n0_; have HC := n1_; have BX := n2_; clear n0_ n1_ n2_) | ((with_reducible refine gate_dst (N := 34) rfl ?_); refine wpList_load_row rfl 67 (.tmp 7) rfl gb rfl 67 A3 (0, 0) _ BX.out Try.underlying67 rfl (by rw [S3.out]; kernel_rfl) ?_))
        clear BX LB LW S3 O3 ky
        generalize World.setRow _ _ _ = wq at HB HC ⊢
        go_loopw [35, 3] (fun v35 v3 wz => ∃ (i : Nat) (s : Int), i ≤ 256 ∧ v35 = .int .i64 (i : Int) ∧ v3 = .int .u32 s ∧ Aside0 (ciSumR t (1042 - (18 + k * 256 + i)) (18 + k * 256 + i) s = ciSum t) ∧ Aside0 (Ci 70 wz g t) ∧ Aside0 (Below w.heap.size w wz)) (fun v35 _ _ => 256 - (intOf v35).toNat)
        case atStart => exact ⟨0, s, by omega, rfl, rfl, E, HC, HB⟩
        case round =>
          clear HC HB E
          obtain ⟨i, s, hi, rfl, rfl, E, HC, HB⟩ := hrel
          by_cases hlt : i < 256
          case neg =>
            obtain rfl : i = 256 := by omega
            clear hlt hi
            go_wp2
            refine ⟨⟨k + 1, s, by have := KL.out; omega, by go_num, rfl, ⟨?_⟩, HC, HB⟩, by simp [intOf]; have := KL.out; omega⟩
            rw [show 18 + (k + 1) * 256 = 18 + k * 256 + 256 by omega]
            exact E.out
          have q1 : (i : Int) < 256 := by omega
          have kz : ∀ W : World, (Instr.index 67 (.agg A3) (.int .i64 (i : Int))).run Try.prog W = .ok (.int .u32 ((ciW t (18 + k * 256 + i) : Nat) : Int)) W := fun W => KZ.out i W hlt
          have hE := E.out
          have kl := KL.out
          rw [show 1042 - (18 + k * 256 + i) = (1041 - (18 + k * 256 + i)) + 1 by omega, ciSumR_succ, show 1041 - (18 + k * 256 + i) = 1042 - (18 + k * 256 + (i + 1)) by omega] at hE
          replace E := Aside0.mk hE
          have LF := Aside0.mk (show words_Left32.f ((ciW t (18 + k * 256 + i) : Nat) : Int) (18 + 256 * (k : Int) + (i : Int)) = some (ciLeft (ciW t (18 + k * 256 + i)) (18 + k * 256 + i)) by
            rw [← ciLeft_some]; congr 1; omega)
          have v1 : IntKind.i64.wrap (256 * (k : Int)) = 256 * (k : Int) := by rw [IntKind.wrap_i64]; omega
          have v2 : IntKind.i64.wrap (18 + 256 * (k : Int)) = 18 + 256 * (k : Int) := by rw [IntKind.wrap_i64]; omega
          have v3 : IntKind.i64.wrap (18 + 256 * (k : Int) + (i : Int)) = 18 + 256 * (k : Int) + (i : Int) := by rw [IntKind.wrap_i64]; omega
          clear hE kl
          go_wp2_with (go_at_call 44; refine (words_Left32.calls _ _ _ _ LF.out).mono ?_; rintro e wn ⟨rfl, hd⟩; have n0_ := Aside0.mk (below_step HB.out (below_of_drawn hd)); have n1_ := Aside0.mk (HC.out.next (below_of_drawn hd)); clear HB HC hd; have HB := n0_; have HC := n1_; clear n0_ n1_)
          exact ⟨⟨i + 1, _, by omega, by go_num, rfl, E, HC, HB⟩, by simp [intOf]; omega⟩

end Go.Proofs.Ytimgndceiibaeaa.Pall
