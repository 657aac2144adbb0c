-- PRINTED by print.py (a twelfth state) out of the translation. Not trusted: Lean checks it.
import Derived.Test.YtimgndceiibaeaaPallx0
import Derived.Test.YtimgndceiibaeaaPallx1
import Derived.Test.YtimgndceiibaeaaPallx2
import Derived.Test.YtimgndceiibaeaaPallx3
import Derived.Test.YtimgndceiibaeaaPallx5
import Derived.Test.YtimgndceiibaeaaPallx6
import Derived.Test.YtimgndceiibaeaaPallx7
namespace Go.Proofs.Ytimgndceiibaeaa.Pall
open Go.RowKit Go.Proofs.YtimgndceiibaeaaW.PrintWords Go.Proofs.YtimgndceiibaeaaW.PrintLast Go.Proofs.YtimgndceiibaeaaW.PrintMore
attribute [local go_sem] max2_int min2_int max_two min_two max_three min_three max_four min_four   -- for this text's walks alone
set_option linter.unusedVariables false
set_option linter.unusedSimpArgs false

/-! ### cipher_Blow: function 999901 -/
/-- a word of a table that is one number -/
def blG (T i : Nat) : Nat := (T >>> (32 * i)) % 4294967296
def blPut (T i v : Nat) : Nat := T ^^^ ((blG T i ^^^ v) <<< (32 * i))
def blFn (T x : Nat) : Nat := ((((blG T (18 + x / 16777216) + blG T (274 + x / 65536 % 256)) % 4294967296) ^^^ blG T (530 + x / 256 % 256)) + blG T (786 + x % 256)) % 4294967296
/-- one round: both words in one number -/
def blRnd (T i s : Nat) : Nat := ((s % 4294967296) ^^^ blFn T ((s / 4294967296) ^^^ blG T i)) * 4294967296 + ((s / 4294967296) ^^^ blG T i)
def blRnds (T : Nat) : Nat → Nat → Nat → Nat
  | 0, _, s => s
  | n + 1, i, s => blRnds T n (i + 1) (blRnd T i s)
def blFin (T s : Nat) : Nat := ((s % 4294967296) ^^^ blG T 17) * 4294967296 + ((s / 4294967296) ^^^ blG T 16)
def blEnc (T s : Nat) : Nat := blFin T (blRnds T 16 0 s)
/-- the state: the table above two words -/
def blPut2 (T i s : Nat) : Nat := blPut (blPut T i (s / 4294967296)) (i + 1) (s % 4294967296) * 18446744073709551616 + s
def blStepE (S i X : Nat) : Nat := blPut2 (X / 18446744073709551616) i (blEnc (X / 18446744073709551616) ((X % 18446744073709551616) ^^^ (blG S (i % 4) * 4294967296 + blG S ((i + 1) % 4))))
def blRunE (S : Nat) : Nat → Nat → Nat → Nat
  | 0, _, X => X
  | n + 1, i, X => blRunE S n (i + 2) (blStepE S i X)
/-- a key's 18 words K are blPut in; then the chain, with the salt's four words -/
def blExpand (T K S : Nat) : Nat := blRunE S 521 0 ((T ^^^ K) * 18446744073709551616) / 18446744073709551616
theorem bl_g_bit (T i k : Nat) : (blG T i).testBit k = (decide (k < 32) && T.testBit (32 * i + k)) := by
  unfold blG
  rw [show (4294967296 : Nat) = 2 ^ 32 from rfl, Nat.testBit_mod_two_pow, Nat.testBit_shiftRight]
theorem bl_g_lt (T i : Nat) : blG T i < 4294967296 := Nat.mod_lt _ (by omega)
theorem bl_bit_high {v k : Nat} (h : v < 4294967296) (hk : 32 ≤ k) : v.testBit k = false :=
  Nat.testBit_lt_two_pow (Nat.lt_of_lt_of_le h (by rw [show (4294967296 : Nat) = 2 ^ 32 from rfl]; exact Nat.pow_le_pow_right (by omega) hk))
theorem bl_g_put_same (T i v : Nat) (hv : v < 4294967296) : blG (blPut T i v) i = v := by
  refine Nat.eq_of_testBit_eq fun k => ?_
  rw [bl_g_bit]
  unfold blPut
  rw [Nat.testBit_xor, Nat.testBit_shiftLeft]
  by_cases hk : k < 32
  · rw [decide_eq_true hk, decide_eq_true (show 32 * i + k ≥ 32 * i by omega), show 32 * i + k - 32 * i = k by omega, Nat.testBit_xor, bl_g_bit, decide_eq_true hk]
    cases T.testBit (32 * i + k) <;> cases v.testBit k <;> rfl
  · rw [decide_eq_false hk, bl_bit_high hv (by omega)]; rfl
theorem bl_g_put_other (T i j v : Nat) (hv : v < 4294967296) (h : j ≠ i) : blG (blPut T i v) j = blG T j := by
  refine Nat.eq_of_testBit_eq fun k => ?_
  rw [bl_g_bit, bl_g_bit]
  unfold blPut
  rw [Nat.testBit_xor, Nat.testBit_shiftLeft]
  by_cases hk : k < 32
  · rw [decide_eq_true hk, Bool.true_and, Bool.true_and]
    by_cases hc : 32 * j + k ≥ 32 * i
    · rw [decide_eq_true hc, bl_bit_high (Nat.xor_lt_two_pow (n := 32) (bl_g_lt T i) hv) (by omega)]; simp
    · rw [decide_eq_false hc]; simp
  · rw [decide_eq_false hk]; simp
theorem bl_g_xor (T K i : Nat) : blG (T ^^^ K) i = blG T i ^^^ blG K i := by
  refine Nat.eq_of_testBit_eq fun k => ?_
  rw [bl_g_bit, Nat.testBit_xor, Nat.testBit_xor, bl_g_bit, bl_g_bit]
  cases decide (k < 32) <;> simp
/-! ### both -/
def BlRep (t : List Nat) (T : Nat) : Prop := t.length = 1042 ∧ ∀ i, i < 1042 → ciW t i = blG T i
theorem BlRep.ciok {t : List Nat} {T : Nat} (h : BlRep t T) : ciOk t := by
  refine ⟨h.1, fun i => ?_⟩
  by_cases hi : i < 1042
  · rw [h.2 i hi]; exact bl_g_lt _ _
  · unfold ciW
    rw [List.getD_eq_getElem?_getD, List.getElem?_eq_none (by rw [h.1]; omega)]; decide
theorem BlRep.set {t : List Nat} {T : Nat} (h : BlRep t T) {i v : Nat} (hi : i < 1042) (hv : v < 4294967296) : BlRep (t.set i v) (blPut T i v) := by
  refine ⟨by rw [List.length_set, h.1], fun j hj => ?_⟩
  rw [ciW_set (by rw [h.1]; exact hi)]
  by_cases e : j = i
  · subst e; rw [if_pos rfl, bl_g_put_same _ _ _ hv]
  · rw [if_neg e, bl_g_put_other _ _ _ _ hv e, h.2 j hj]
theorem BlRep.f {t : List Nat} {T : Nat} (h : BlRep t T) {x : Nat} (hx : x < 4294967296) : ciF t x = blFn T x := by
  unfold ciF blFn
  rw [h.2 _ (by omega), h.2 _ (by omega), h.2 _ (by omega), h.2 _ (by omega)]
theorem bl_pack_mod {l r : Nat} (hr : r < 4294967296) : (l * 4294967296 + r) % 4294967296 = r := by omega
theorem bl_pack_div {l r : Nat} (hr : r < 4294967296) : (l * 4294967296 + r) / 4294967296 = l := by omega
theorem bl_rnds_succ (T n i s : Nat) : blRnds T (n + 1) i s = blRnds T n (i + 1) (blRnd T i s) := rfl
theorem BlRep.rnds {t : List Nat} {T : Nat} (h : BlRep t T) (n : Nat) : ∀ i l r, i + n ≤ 16 → l < 4294967296 → r < 4294967296 → blRnds T n i (l * 4294967296 + r) = (ciEncR t n i l r).1 * 4294967296 + (ciEncR t n i l r).2 := by
  induction n with
  | zero => intro i l r _ _ _; rfl
  | succ n ih =>
    intro i l r hn hl hr
    have hx := ci_xor hl (h.ciok.2 i)
    have q := ih (i + 1) (r ^^^ ciF t (l ^^^ ciW t i)) (l ^^^ ciW t i) (by omega) (ci_xor hr (ciF_lt _ _)) hx
    rw [bl_rnds_succ, ciEncR_succ, ← q]
    unfold blRnd
    rw [bl_pack_mod hr, bl_pack_div hr, ← h.2 i (by omega), ← h.f hx]
theorem BlRep.enc {t : List Nat} {T : Nat} (h : BlRep t T) {l r : Nat} (hl : l < 4294967296) (hr : r < 4294967296) : blEnc T (l * 4294967296 + r) = (ciEnc t l r).1 * 4294967296 + (ciEnc t l r).2 := by
  unfold blEnc blFin ciEnc
  rw [h.rnds 16 0 l r (by omega) hl hr]
  have b := ciEncR_lt h.ciok 16 0 l r hl hr
  generalize ciEncR t 16 0 l r = p at b
  obtain ⟨a, c⟩ := p
  simp only at b
  have e1 : (a * 4294967296 + c) % 4294967296 = c := by omega
  have e2 : (a * 4294967296 + c) / 4294967296 = a := by omega
  rw [e1, e2, ← h.2 17 (by omega), ← h.2 16 (by omega)]
theorem BlRep.key {K : Nat} (kw : Nat → Nat) (hk : ∀ i, i < 18 → kw i = blG K i) (h18 : ∀ i, 18 ≤ i → i < 1042 → blG K i = 0) {t : List Nat} {T : Nat} (h : BlRep t T) : BlRep (ciKey kw 18 0 t) (T ^^^ K) := by
  have gen : ∀ n i t', i + n = 18 → t'.length = 1042 → (∀ j, j < 1042 → ciW t' j = if j < i then blG T j ^^^ blG K j else blG T j) → BlRep (ciKey kw n i t') (T ^^^ K) := by
    intro n
    induction n with
    | zero =>
      intro i t' hn hl ht
      refine ⟨hl, fun j hj => ?_⟩
      show ciW t' j = _
      rw [ht j hj, bl_g_xor]
      split
      · rfl
      · rw [h18 j (by omega) hj, Nat.xor_zero]
    | succ n ih =>
      intro i t' hn hl ht
      refine ih (i + 1) _ (by omega) (by rw [List.length_set, hl]) fun j hj => ?_
      rw [ciW_set (by omega)]
      by_cases e : j = i
      · subst e
        rw [if_pos rfl, if_pos (by omega), ht j hj, if_neg (by omega), hk j (by omega)]
      · rw [if_neg e, ht j hj]
        by_cases q : j < i
        · rw [if_pos q, if_pos (by omega)]
        · rw [if_neg q, if_neg (by omega)]
  exact gen 18 0 t rfl h.1 fun j hj => by rw [if_neg (by omega), h.2 j hj]
theorem bl_xor_pack {a b c d : Nat} (hb : b < 4294967296) (hd : d < 4294967296) : (a * 4294967296 + b) ^^^ (c * 4294967296 + d) = (a ^^^ c) * 4294967296 + (b ^^^ d) := by
  refine Nat.eq_of_testBit_eq fun k => ?_
  have e : ∀ x y : Nat, y < 4294967296 → (x * 4294967296 + y).testBit k = if k < 32 then y.testBit k else x.testBit (k - 32) := fun x y hy => by
    have := Nat.testBit_two_pow_mul_add x (i := 32) (b := y) hy k
    rw [show (2 : Nat) ^ 32 = 4294967296 from rfl, Nat.mul_comm] at this
    exact this
  rw [Nat.testBit_xor, e _ _ hb, e _ _ hd, e _ _ (ci_xor hb hd)]
  split <;> rw [Nat.testBit_xor]
theorem bl_big_div {T x : Nat} (hx : x < 18446744073709551616) : (T * 18446744073709551616 + x) / 18446744073709551616 = T := by omega
theorem bl_big_mod {T x : Nat} (hx : x < 18446744073709551616) : (T * 18446744073709551616 + x) % 18446744073709551616 = x := by omega
theorem bl_pack_lt {l r : Nat} (hl : l < 4294967296) (hr : r < 4294967296) : l * 4294967296 + r < 18446744073709551616 := by omega
theorem bl_runE_succ (S n i X : Nat) : blRunE S (n + 1) i X = blRunE S n (i + 2) (blStepE S i X) := by
  delta blRunE
  rfl
theorem BlRep.step {S : Nat} {sw : Nat → Nat} (hs : ∀ i, sw i = blG S (i % 4)) {i l r : Nat} {t : List Nat} {T : Nat} (hl : l < 4294967296) (hr : r < 4294967296) (h : BlRep t T) :
    blStepE S i (T * 18446744073709551616 + (l * 4294967296 + r)) = blPut (blPut T i (ciEnc t (l ^^^ sw i) (r ^^^ sw (i + 1))).1) (i + 1) (ciEnc t (l ^^^ sw i) (r ^^^ sw (i + 1))).2 * 18446744073709551616 + ((ciEnc t (l ^^^ sw i) (r ^^^ sw (i + 1))).1 * 4294967296 + (ciEnc t (l ^^^ sw i) (r ^^^ sw (i + 1))).2) := by
  have s1 : sw i < 4294967296 := by rw [hs]; exact bl_g_lt _ _
  have s2 : sw (i + 1) < 4294967296 := by rw [hs]; exact bl_g_lt _ _
  have e := ciEnc_lt h.ciok (ci_xor hl s1) (ci_xor hr s2)
  unfold blStepE blPut2
  rw [bl_big_div (bl_pack_lt hl hr), bl_big_mod (bl_pack_lt hl hr), ← hs, ← hs, bl_xor_pack hr s2, h.enc (ci_xor hl s1) (ci_xor hr s2), bl_pack_div e.2, bl_pack_mod e.2]
theorem BlRep.run {S : Nat} (sw : Nat → Nat) (hs : ∀ i, sw i = blG S (i % 4)) (n : Nat) : ∀ i l r t T, i + 2 * n ≤ 1042 → l < 4294967296 → r < 4294967296 → BlRep t T → BlRep (ciChain sw n i l r t) (blRunE S n i (T * 18446744073709551616 + (l * 4294967296 + r)) / 18446744073709551616) := by
  induction n with
  | zero =>
    intro i l r t T _ hl hr h
    show BlRep t ((T * 18446744073709551616 + (l * 4294967296 + r)) / 18446744073709551616)
    rw [bl_big_div (bl_pack_lt hl hr)]; exact h
  | succ n ih =>
    intro i l r t T hn hl hr h
    have s1 : sw i < 4294967296 := by rw [hs]; exact bl_g_lt _ _
    have s2 : sw (i + 1) < 4294967296 := by rw [hs]; exact bl_g_lt _ _
    have e := ciEnc_lt h.ciok (ci_xor hl s1) (ci_xor hr s2)
    rw [bl_runE_succ, ciChain_succ, BlRep.step hs hl hr h]
    exact ih (i + 2) _ _ _ _ (by omega) e.1 e.2 ((h.set (by omega) e.1).set (by omega) e.2)
theorem BlRep.expand {t : List Nat} {T K S : Nat} (h : BlRep t T) (sw kw : Nat → Nat) (hk : ∀ i, i < 18 → kw i = blG K i) (h18 : ∀ i, 18 ≤ i → i < 1042 → blG K i = 0) (hs : ∀ i, sw i = blG S (i % 4)) : BlRep (ciExpand t sw kw) (blExpand T K S) := by
  have q := BlRep.run sw hs 521 0 0 0 _ _ (by omega) (by omega) (by omega) (h.key kw hk h18)
  rw [show (T ^^^ K) * 18446744073709551616 + (0 * 4294967296 + 0) = (T ^^^ K) * 18446744073709551616 by omega] at q
  exact q
/-- the document's plain table: pi's words -/
def ciPw (i : Nat) : Nat := pi_LL / 2 ^ (32 * (1041 - i)) % 4294967296
theorem ciPi_ex : ∃ l : List Nat, l = (List.range 1042).map ciPw := ⟨_, rfl⟩
noncomputable def ciPi : List Nat := Classical.choose ciPi_ex
theorem ciPi_def : ciPi = (List.range 1042).map ciPw := Classical.choose_spec ciPi_ex
def ciPk : Nat → Nat → Nat
  | 0, a => a
  | n + 1, a => ciPk n (a * 4294967296 + ciPw n)
def ciT0 : Nat := ciPk 1042 0
set_option maxRecDepth 100000 in
theorem ciT0_chk : ∀ i, i < 1042 → ciPw i = blG ciT0 i := by decide +kernel
theorem ciPi_len : ciPi.length = 1042 := by rw [ciPi_def]; rw [List.length_map, List.length_range]
theorem ciPi_at (i : Nat) (h : i < 1042) : ciW ciPi i = ciPw i := by
  rw [ciPi_def]
  unfold ciW
  rw [List.getD_eq_getElem?_getD, List.getElem?_map, List.getElem?_range h]; rfl
theorem ciPi_rep : BlRep ciPi ciT0 := ⟨ciPi_len, fun i h => by rw [ciPi_at i h, ciT0_chk i h]⟩
theorem ciPi_ok : ciOk ciPi := ciPi_rep.ciok
theorem ciWord_zero (s : ByteArray) (h : ∀ j, ciB s j = 0) (i : Nat) : ciWord s i = 0 := by
  unfold ciWord
  simp only [ciWj, h]
theorem ciWord_empty (i : Nat) : ciWord ciE i = 0 := ciWord_zero _ (fun j => by unfold ciB; exact if_pos rfl) i
theorem ciG_zero (i : Nat) : blG 0 i = 0 := by unfold blG; rw [Nat.zero_shiftRight]
theorem ciExpand_pi (s k : ByteArray) : ciOk (ciExpand ciPi (ciWord s) (ciWord k)) := ciExpand_ok ciPi_ok (ciWord_lt s) (ciWord_lt k)
theorem cipher_Blow.calls : True := trivial

/-! ### pestlelaw11_EksSetups: function 8 -/
noncomputable def ciT11 (salt key : ByteArray) : List Nat := ciSet salt key 16 (ciExpand ciPi (ciWord salt) (ciWord key))
noncomputable def pestlelaw11_EksSetups.good (k : Nat) (a1 a2 : ByteArray) (l r : Nat) : Option Bool := (pestlelaw10_Plain.f k).bind fun p => (pestleref11_Setup.f k p 16 a1 a2).bind fun t => (pestleref10_Encrypt.f k t (l : Int) (r : Int)).bind fun x => (pestleref10_Sum.f k t).bind fun s => (if pi_Words.f k 0 1042 = some (ciI ciPi, 0) ∧ (x.1, x.2) = (((ciEnc (ciT11 a1 a2) l r).1 : Int), ((ciEnc (ciT11 a1 a2) l r).2 : Int)) ∧ s = ciSum (ciT11 a1 a2) then some true else none)
def pestlelaw11_EksSetups.bad (a1 a2 : ByteArray) : Prop := a1.size ≠ 16 ∨ a2.size = 0 ∨ 72 < a2.size
instance (a1 a2 : ByteArray) : Decidable (pestlelaw11_EksSetups.bad a1 a2) := inferInstanceAs (Decidable (_ ∨ _))
noncomputable def pestlelaw11_EksSetups.f (k : Nat) (a0 : Int) (a1 a2 : ByteArray) (a3 a4 : Int) : Option Bool := if a0 < 4 ∨ 31 < a0 then (if eks_Rounds.f a0 = some (0, 2) then some true else none) else (if pestlelaw11_EksSetups.bad a1 a2 then some true else (if a0 = 4 then (if (0 ≤ a3 ∧ a3 < 4294967296) ∧ 0 ≤ a4 ∧ a4 < 4294967296 then pestlelaw11_EksSetups.good k a1 a2 a3.toNat a4.toNat else none) else some true))
theorem pestlelaw11_EksSetups.yes {k : Nat} {a0 : Int} {a1 a2 : ByteArray} {a3 a4 : Int} {r : Bool} (h : pestlelaw11_EksSetups.f k a0 a1 a2 a3 a4 = some r) : r = true := by
  unfold pestlelaw11_EksSetups.f at h
  split at h
  · split at h
    · exact (Option.some.inj h).symm
    · cases h
  split at h
  · exact (Option.some.inj h).symm
  split at h
  · split at h
    · unfold pestlelaw11_EksSetups.good at h
      replace h := Option.bind_eq_some_iff.mp h
      obtain ⟨_, _, h⟩ := h
      replace h := Option.bind_eq_some_iff.mp h
      obtain ⟨_, _, h⟩ := h
      replace h := Option.bind_eq_some_iff.mp h
      obtain ⟨_, _, h⟩ := h
      replace h := Option.bind_eq_some_iff.mp h
      obtain ⟨_, _, h⟩ := h
      split at h
      · exact (Option.some.inj h).symm
      · cases h
    · cases h
  · exact (Option.some.inj h).symm
set_option maxHeartbeats 8000000 in
set_option maxRecDepth 100000 in
theorem pestlelaw11_EksSetups.calls (k : Nat) (a0 : Int) (a1 : ByteArray) (a2 : ByteArray) (a3 : Int) (a4 : Int) (r : Bool) (w : World) (h : pestlelaw11_EksSetups.f k a0 a1 a2 a3 a4 = some r) :
    Calls Try.prog 8 #[.int .i64 a0, .string a1, .string a2, .int .u32 a3, .int .u32 a4] w fun e w' => e = .returned (.bool r) ∧ Below w.heap.size w w' := by
  obtain rfl := pestlelaw11_EksSetups.yes h
  have A0 := Aside0.mk (show pestlelaw11_awake.f k = some true from rfl)
  have HB := Aside0.mk (Below.refl w.heap.size w)
  unfold pestlelaw11_EksSetups.f at h
  by_cases hc : a0 < 4 ∨ 31 < a0
  · rw [if_pos hc] at h
    by_cases q : eks_Rounds.f a0 = some (0, 2)
    case neg => rw [if_neg q] at h; cases h
    have HR := Aside0.mk q
    clear h q
    by_cases h4 : a0 < 4
    · have e1 : decide (a0 < 4) = true := decide_eq_true h4
      clear hc h4
      go_enter Try.func8, Try.ntmps8
      go_wp2_with (first | (go_at_call 31; with_reducible refine (pestlelaw11_awake.calls k true _ A0.out).mono ?_; rintro e wn ⟨rfl, hb⟩; have n0_ := Aside0.mk (below_step HB.out hb); clear HB hb; have HB := n0_; clear n0_) | (go_at_call 32; with_reducible refine (eks_Rounds.calls _ _ _ _ HR.out).mono ?_; rintro e wn ⟨rfl, hd⟩; have n0_ := Aside0.mk (below_step HB.out (below_of_drawn hd)); clear HB hd; have HB := n0_; clear n0_) | (go_at_call 33; with_reducible refine (eks_Setup.cost a0 0 2 a1 a2 _ HR.out (by decide)).mono ?_; rintro e wn ⟨rfl, hb⟩; have n0_ := Aside0.mk (below_step HB.out hb); clear HB hb; have HB := n0_; clear n0_))
      go_ret
      exact ⟨rfl, HB.out⟩
    · have e1 : decide (a0 < 4) = false := decide_eq_false h4
      have e2 : decide (31 < a0) = true := decide_eq_true (by omega)
      clear hc h4
      go_enter Try.func8, Try.ntmps8
      go_wp2_with (first | (go_at_call 31; with_reducible refine (pestlelaw11_awake.calls k true _ A0.out).mono ?_; rintro e wn ⟨rfl, hb⟩; have n0_ := Aside0.mk (below_step HB.out hb); clear HB hb; have HB := n0_; clear n0_) | (go_at_call 32; with_reducible refine (eks_Rounds.calls _ _ _ _ HR.out).mono ?_; rintro e wn ⟨rfl, hd⟩; have n0_ := Aside0.mk (below_step HB.out (below_of_drawn hd)); clear HB hd; have HB := n0_; clear n0_) | (go_at_call 33; with_reducible refine (eks_Setup.cost a0 0 2 a1 a2 _ HR.out (by decide)).mono ?_; rintro e wn ⟨rfl, hb⟩; have n0_ := Aside0.mk (below_step HB.out hb); clear HB hb; have HB := n0_; clear n0_))
      go_ret
      exact ⟨rfl, HB.out⟩
  rw [if_neg hc] at h
  obtain ⟨c, rfl⟩ : ∃ c : Nat, a0 = c := ⟨a0.toNat, by omega⟩
  have HR := Aside0.mk (eks_in c (by omega) (by omega))
  have e1 : decide ((c : Int) < 4) = false := decide_eq_false (by omega)
  have e1n : decide (c < 4) = false := decide_eq_false (by omega)
  have e2 : decide (31 < (c : Int)) = false := decide_eq_false (by omega)
  have e2n : decide (31 < c) = false := decide_eq_false (by omega)
  have hsh : ((2 : Int) ^ c != wrap64 (2 ^ min (IntKind.u64.wrap (c : Int)).toNat 64)) = false := by
    have l : 2 ^ c ≤ 2 ^ 31 := Nat.pow_le_pow_right (by omega) (by omega)
    rw [IntKind.wrap_u64, show ((c : Int) % 18446744073709551616).toNat = c by omega, Nat.min_eq_left (by omega), bne_eq_false_iff_eq, show (2 : Int) ^ c = ((2 ^ c : Nat) : Int) from (Int.natCast_pow 2 c).symm]
    generalize 2 ^ c = z at l
    unfold wrap64
    omega
  by_cases hs : a1.size = 16
  case neg =>
    have HS := Aside0.mk hs
    have s1 : ((a1.size : Int) == 16) = false := beq_eq_false_iff_ne.2 (by omega)
    have s2 : ((a1.size : Int) != 16) = true := bne_iff_ne.2 (by omega)
    have s3 : (a1.size == 16) = false := beq_eq_false_iff_ne.2 hs
    have s4 : (a1.size != 16) = true := bne_iff_ne.2 hs
    clear h hc hs
    go_enter Try.func8, Try.ntmps8
    go_wp2_with (first | (go_at_call 31; with_reducible refine (pestlelaw11_awake.calls k true _ A0.out).mono ?_; rintro e wn ⟨rfl, hb⟩; have n0_ := Aside0.mk (below_step HB.out hb); clear HB hb; have HB := n0_; clear n0_) | (go_at_call 32; with_reducible refine (eks_Rounds.calls _ _ _ _ HR.out).mono ?_; rintro e wn ⟨rfl, hd⟩; have n0_ := Aside0.mk (below_step HB.out (below_of_drawn hd)); clear HB hd; have HB := n0_; clear n0_) | (go_at_call 33; with_reducible refine (eks_Setup.salt (c : Int) _ a1 a2 _ HR.out HS.out).mono ?_; rintro e wn ⟨rfl, hb⟩; have n0_ := Aside0.mk (below_step HB.out hb); clear HB hb; have HB := n0_; clear n0_))
    go_ret
    exact ⟨rfl, HB.out⟩
  have HS := Aside0.mk hs
  have s1 : ((a1.size : Int) == 16) = true := beq_iff_eq.2 (by omega)
  have s2 : ((a1.size : Int) != 16) = false := bne_eq_false_iff_eq.2 (by omega)
  have s3 : (a1.size == 16) = true := beq_iff_eq.2 hs
  have s4 : (a1.size != 16) = false := bne_eq_false_iff_eq.2 hs
  have k1 := (ci_empty (s := a2)).1
  have k2 := (ci_empty (s := a2)).2
  by_cases hk : a2.size = 0 ∨ 72 < a2.size
  · have HK := Aside0.mk hk
    by_cases hz : a2.size = 0
    · rw [decide_eq_true hz] at k1 k2
      clear h hc hs hk hz
      go_enter Try.func8, Try.ntmps8
      go_wp2_with (first | (go_at_call 31; with_reducible refine (pestlelaw11_awake.calls k true _ A0.out).mono ?_; rintro e wn ⟨rfl, hb⟩; have n0_ := Aside0.mk (below_step HB.out hb); clear HB hb; have HB := n0_; clear n0_) | (go_at_call 32; with_reducible refine (eks_Rounds.calls _ _ _ _ HR.out).mono ?_; rintro e wn ⟨rfl, hd⟩; have n0_ := Aside0.mk (below_step HB.out (below_of_drawn hd)); clear HB hd; have HB := n0_; clear n0_) | (go_at_call 33; with_reducible refine (eks_Setup.key (c : Int) _ a1 a2 _ HR.out HS.out HK.out).mono ?_; rintro e wn ⟨rfl, hb⟩; have n0_ := Aside0.mk (below_step HB.out hb); clear HB hb; have HB := n0_; clear n0_))
      go_ret
      exact ⟨rfl, HB.out⟩
    · have k3 : decide ((72 : Int) < (a2.size : Int)) = true := decide_eq_true (by omega)
      have k4 : decide (72 < a2.size) = true := decide_eq_true (by omega)
      rw [decide_eq_false hz] at k1 k2
      clear h hc hs hk hz
      go_enter Try.func8, Try.ntmps8
      go_wp2_with (first | (go_at_call 31; with_reducible refine (pestlelaw11_awake.calls k true _ A0.out).mono ?_; rintro e wn ⟨rfl, hb⟩; have n0_ := Aside0.mk (below_step HB.out hb); clear HB hb; have HB := n0_; clear n0_) | (go_at_call 32; with_reducible refine (eks_Rounds.calls _ _ _ _ HR.out).mono ?_; rintro e wn ⟨rfl, hd⟩; have n0_ := Aside0.mk (below_step HB.out (below_of_drawn hd)); clear HB hd; have HB := n0_; clear n0_) | (go_at_call 33; with_reducible refine (eks_Setup.key (c : Int) _ a1 a2 _ HR.out HS.out HK.out).mono ?_; rintro e wn ⟨rfl, hb⟩; have n0_ := Aside0.mk (below_step HB.out hb); clear HB hb; have HB := n0_; clear n0_))
      go_ret
      exact ⟨rfl, HB.out⟩
  have k3 : decide ((72 : Int) < (a2.size : Int)) = false := decide_eq_false (by omega)
  have k4 : decide (72 < a2.size) = false := decide_eq_false (by omega)
  rw [decide_eq_false (show ¬ a2.size = 0 by omega)] at k1 k2
  rw [if_neg (show ¬ pestlelaw11_EksSetups.bad a1 a2 by unfold pestlelaw11_EksSetups.bad; omega)] at h
  by_cases h4 : c = 4
  case neg =>
    have f1 : decide (4 < (c : Int)) = true := decide_eq_true (by omega)
    have f2 : decide (4 < c) = true := decide_eq_true (by omega)
    clear h hc hs hk h4
    go_enter Try.func8, Try.ntmps8
    go_wp2_with (first | (go_at_call 31; with_reducible refine (pestlelaw11_awake.calls k true _ A0.out).mono ?_; rintro e wn ⟨rfl, hb⟩; have n0_ := Aside0.mk (below_step HB.out hb); clear HB hb; have HB := n0_; clear n0_) | (go_at_call 32; with_reducible refine (eks_Rounds.calls _ _ _ _ HR.out).mono ?_; rintro e wn ⟨rfl, hd⟩; have n0_ := Aside0.mk (below_step HB.out (below_of_drawn hd)); clear HB hd; have HB := n0_; clear n0_))
    go_ret
    exact ⟨rfl, HB.out⟩
  subst h4
  rw [if_pos (show ((4 : Nat) : Int) = 4 from rfl)] at h
  by_cases hr : (0 ≤ a3 ∧ a3 < 4294967296) ∧ 0 ≤ a4 ∧ a4 < 4294967296
  case neg => rw [if_neg hr] at h; cases h
  rw [if_pos hr] at h
  obtain ⟨⟨h1, h2⟩, h3, h4⟩ := hr
  obtain ⟨l, rfl⟩ : ∃ n : Nat, a3 = n := ⟨a3.toNat, by omega⟩
  obtain ⟨rr, rfl⟩ : ∃ n : Nat, a4 = n := ⟨a4.toNat, by omega⟩
  rw [Int.toNat_natCast, Int.toNat_natCast] at h
  have L1 := Aside0.mk (show l < 4294967296 by omega)
  have L2 := Aside0.mk (show rr < 4294967296 by omega)
  have HK := Aside0.mk hk
  unfold pestlelaw11_EksSetups.good at h
  replace h := Option.bind_eq_some_iff.mp h
  obtain ⟨p, A1, h⟩ := h
  replace h := Option.bind_eq_some_iff.mp h
  obtain ⟨t, A2, h⟩ := h
  replace h := Option.bind_eq_some_iff.mp h
  obtain ⟨⟨x1, x2⟩, A3, h⟩ := h
  replace h := Option.bind_eq_some_iff.mp h
  obtain ⟨s, A4, h⟩ := h
  have OT := Aside0.mk (ciSet_ok a1 a2 16 _ (ciExpand_pi a1 a2))
  obtain ⟨T, hT⟩ : ∃ T, ciSet a1 a2 16 (ciExpand ciPi (ciWord a1) (ciWord a2)) = T := ⟨_, rfl⟩
  rw [show ciT11 a1 a2 = T from hT] at h
  rw [hT] at OT
  by_cases q : pi_Words.f k 0 1042 = some (ciI ciPi, 0) ∧ (x1, x2) = (((ciEnc T l rr).1 : Int), ((ciEnc T l rr).2 : Int)) ∧ s = ciSum T
  case neg => rw [if_neg q] at h; cases h
  obtain ⟨hp, q1, rfl⟩ := q
  simp only [Prod.mk.injEq] at q1
  obtain ⟨rfl, rfl⟩ := q1
  have HP := Aside0.mk hp
  replace A1 := Aside0.mk A1
  replace A2 := Aside0.mk A2
  replace A3 := Aside0.mk A3
  replace A4 := Aside0.mk A4
  replace hT := Aside0.mk hT
  have HR4 := Aside0.mk (show eks_Rounds.f 4 = some (((16 : Nat) : Int), 0) from HR.out)
  have HR5 := Aside0.mk eks_four
  have f1 : decide (4 < ((4 : Nat) : Int)) = false := by decide
  have hsh4 : ((16 : Int) != wrap64 (2 ^ min (IntKind.u64.wrap 4).toNat 64)) = false := hsh
  clear h hc hs hk h1 h2 h3 h4 hp HR e1 e1n e2 e2n
  go_enter Try.func8, Try.ntmps8
  go_wp2_with (first | (go_at_call 31; with_reducible refine (pestlelaw11_awake.calls k true _ A0.out).mono ?_; rintro e wn ⟨rfl, hb⟩; have n0_ := Aside0.mk (below_step HB.out hb); clear HB hb; have HB := n0_; clear n0_) | (go_at_call 32; with_reducible refine (eks_Rounds.calls 4 16 0 _ HR5.out).mono ?_; rintro e wn ⟨rfl, hd⟩; have n0_ := Aside0.mk (below_step HB.out (below_of_drawn hd)); clear HB hd; have HB := n0_; clear n0_) | (go_at_call 33; with_reducible refine (eks_Setup.calls k ciPi ciPi_ok HP.out 4 16 a1 a2 _ HR4.out (by omega) HS.out HK.out).mono ?_; rintro e wn ⟨g, hg, rfl, hc, hb⟩; rw [hT.out] at hc; have HC := Aside0.mk hc; have n0_ := Aside0.mk (below_step HB.out hb); clear HB; have HB := n0_; clear n0_; clear hg hc hb) | (go_at_call 20; with_reducible refine (pestlelaw10_Plain.calls k p _ A1.out).mono ?_; rintro e wn ⟨v0_, rfl, hR, hb⟩; have n0_ := Aside0.mk (below_step HB.out hb); have n1_ := Aside0.mk (HC.out.next hb); obtain ⟨Ad, cd, rfl⟩ := Kd.R_slice hR; have CP := Aside0.mk (Kd.R_reads' hR).2.2; have KP := Aside0.mk (Kd.R_reads' hR).2.1; clear HB HC; have HB := n0_; have HC := n1_; clear n0_ n1_) | (go_at_call 34; with_reducible refine (pestleref11_Setup.calls k _ _ p 16 a1 a2 t _ CP.out KP.out A2.out).mono ?_; rintro e wn ⟨v0_, rfl, hR, hb⟩; have n0_ := Aside0.mk (below_step HB.out hb); have n1_ := Aside0.mk (HC.out.next hb); obtain ⟨Ad, cd, rfl⟩ := Kd.R_slice hR; have CT := Aside0.mk (Kd.R_reads' hR).2.2; have KT := Aside0.mk (Kd.R_reads' hR).2.1; clear HB HC; have HB := n0_; have HC := n1_; clear n0_ n1_) | (go_at_call 23; with_reducible refine (cipher_Cipher_Encrypt.calls T g l rr _ HC.out OT.out L1.out L2.out).mono ?_; rintro e wn ⟨rfl, hb⟩; have n0_ := Aside0.mk (below_step HB.out hb); have n1_ := Aside0.mk (HC.out.next hb); have n2_ := Aside0.mk (Kd.C_below CT.out hb); clear HB HC CT; have HB := n0_; have HC := n1_; have CT := n2_; clear n0_ n1_ n2_) | (go_at_call 24; with_reducible refine (pestleref10_Encrypt.calls k _ _ t _ _ _ _ _ CT.out KT.out A3.out).mono ?_; rintro e wn ⟨rfl, hd⟩; have n0_ := Aside0.mk (below_step HB.out (below_of_drawn hd)); have n1_ := Aside0.mk (HC.out.next (below_of_drawn hd)); have n2_ := Aside0.mk (Kd.C_below CT.out (below_of_drawn hd)); clear HB HC CT; have HB := n0_; have HC := n1_; have CT := n2_; clear n0_ n1_ n2_) | (go_at_call 18; with_reducible refine (cipher_Cipher_Sum.calls g T _ HC.out OT.out).mono ?_; rintro e wn ⟨rfl, hb⟩; have n0_ := Aside0.mk (below_step HB.out hb); have n1_ := Aside0.mk (HC.out.next hb); have n2_ := Aside0.mk (Kd.C_below CT.out hb); clear HB HC CT; have HB := n0_; have HC := n1_; have CT := n2_; clear n0_ n1_ n2_) | (go_at_call 19; with_reducible refine (pestleref10_Sum.calls k _ _ t _ _ CT.out KT.out A4.out).mono ?_; rintro e wn ⟨rfl, hd⟩; have n0_ := Aside0.mk (below_step HB.out (below_of_drawn hd)); have n1_ := Aside0.mk (HC.out.next (below_of_drawn hd)); have n2_ := Aside0.mk (Kd.C_below CT.out (below_of_drawn hd)); clear HB HC CT; have HB := n0_; have HC := n1_; have CT := n2_; clear n0_ n1_ n2_))
  go_ret
  exact ⟨rfl, HB.out⟩

end Go.Proofs.Ytimgndceiibaeaa.Pall
