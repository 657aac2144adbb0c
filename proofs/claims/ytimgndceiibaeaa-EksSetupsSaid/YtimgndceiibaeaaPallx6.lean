-- PRINTED by print.py (a twelfth state) out of the translation. Not trusted: Lean checks it.
import Derived.Test.YtimgndceiibaeaaPallx0
import Derived.Test.YtimgndceiibaeaaPallx2
import Derived.Test.YtimgndceiibaeaaPallx3
import Derived.Test.YtimgndceiibaeaaPallx5
namespace Go.Proofs.Ytimgndceiibaeaa.Pall
open Go.RowKit Go.Proofs.YtimgndceiibaeaaW.PrintWords Go.Proofs.YtimgndceiibaeaaW.PrintLast Go.Proofs.YtimgndceiibaeaaW.PrintMore
attribute [local go_sem] max2_int min2_int max_two min_two max_three min_three max_four min_four   -- for this text's walks alone
set_option linter.unusedVariables false
set_option linter.unusedSimpArgs false

/-! ### eks_Setup: function 33 -/
/-- so many rounds: the key, and the salt -/
def ciSet (salt key : ByteArray) : Nat → List Nat → List Nat
  | 0, t => t
  | n + 1, t => ciSet salt key n (ciExpand (ciExpand t (ciWord (⟨#[]⟩ : ByteArray)) (ciWord key)) (ciWord (⟨#[]⟩ : ByteArray)) (ciWord salt))
theorem ciSet_succ (salt key : ByteArray) (n : Nat) (t : List Nat) : ciSet salt key (n + 1) t = ciSet salt key n (ciExpand (ciExpand t (ciWord (⟨#[]⟩ : ByteArray)) (ciWord key)) (ciWord (⟨#[]⟩ : ByteArray)) (ciWord salt)) := by
  delta ciSet
  rfl
theorem ciSet_ok (salt key : ByteArray) : ∀ n t, ciOk t → ciOk (ciSet salt key n t)
  | 0, _, h => h
  | n + 1, t, h => by
    rw [ciSet_succ]
    exact ciSet_ok salt key n _ (ciExpand_ok (ciExpand_ok h (ciWord_lt _) (ciWord_lt _)) (ciWord_lt _) (ciWord_lt _))
set_option maxHeartbeats 8000000 in
set_option maxRecDepth 100000 in
theorem eks_Setup.cost (cost m e0 : Int) (salt key : ByteArray) (w : World) (hr : eks_Rounds.f cost = some (m, e0)) (h0 : e0 ≠ 0) :
    Calls Try.prog 33 #[.int .i64 cost, .string salt, .string key] w fun e w' => e = .returned (.tuple #[.pointer none, .int .i64 e0]) ∧ Below w.heap.size w w' := by
  have HR := Aside0.mk hr
  have HB := Aside0.mk (Below.refl w.heap.size w)
  have e1 : (e0 == 0) = false := beq_eq_false_iff_ne.2 h0
  have e2 : (e0 != 0) = true := bne_iff_ne.2 h0
  clear hr h0
  go_enter Try.func33, Try.ntmps33
  go_wp2_with (go_at_call 32; with_reducible refine (eks_Rounds.calls cost m e0 _ HR.out).mono ?_; rintro e wn ⟨rfl, hd⟩; have n0_ := Aside0.mk (below_step HB.out (below_of_drawn hd)); clear HB hd; have HB := n0_; clear n0_)
  go_ret2
  exact ⟨rfl, HB.out⟩
set_option maxHeartbeats 8000000 in
set_option maxRecDepth 100000 in
theorem eks_Setup.salt (cost m : Int) (salt key : ByteArray) (w : World) (hr : eks_Rounds.f cost = some (m, 0)) (h0 : salt.size ≠ 16) :
    Calls Try.prog 33 #[.int .i64 cost, .string salt, .string key] w fun e w' => e = .returned (.tuple #[.pointer none, .int .i64 9]) ∧ Below w.heap.size w w' := by
  have HR := Aside0.mk hr
  have HB := Aside0.mk (Below.refl w.heap.size w)
  have e1 : ((salt.size : Int) == 16) = false := beq_eq_false_iff_ne.2 (by omega)
  have e2 : ((salt.size : Int) != 16) = true := bne_iff_ne.2 (by omega)
  have e3 : (salt.size == 16) = false := beq_eq_false_iff_ne.2 h0
  have e4 : (salt.size != 16) = true := bne_iff_ne.2 h0
  clear hr h0
  go_enter Try.func33, Try.ntmps33
  go_wp2_with (go_at_call 32; with_reducible refine (eks_Rounds.calls cost m 0 _ HR.out).mono ?_; rintro e wn ⟨rfl, hd⟩; have n0_ := Aside0.mk (below_step HB.out (below_of_drawn hd)); clear HB hd; have HB := n0_; clear n0_)
  go_ret2
  exact ⟨rfl, HB.out⟩
set_option maxHeartbeats 8000000 in
set_option maxRecDepth 100000 in
theorem eks_Setup.key (cost m : Int) (salt key : ByteArray) (w : World) (hr : eks_Rounds.f cost = some (m, 0)) (hs : salt.size = 16) (h0 : key.size = 0 ∨ 72 < key.size) :
    Calls Try.prog 33 #[.int .i64 cost, .string salt, .string key] w fun e w' => e = .returned (.tuple #[.pointer none, .int .i64 3]) ∧ Below w.heap.size w w' := by
  have HR := Aside0.mk hr
  have HB := Aside0.mk (Below.refl w.heap.size w)
  have e1 : ((salt.size : Int) == 16) = true := beq_iff_eq.2 (by omega)
  have e2 : ((salt.size : Int) != 16) = false := bne_eq_false_iff_eq.2 (by omega)
  have e3 : (salt.size == 16) = true := beq_iff_eq.2 hs
  have e4 : (salt.size != 16) = false := bne_eq_false_iff_eq.2 hs
  have e5 := (ci_empty (s := key)).1
  have e6 := (ci_empty (s := key)).2
  by_cases hz : key.size = 0
  · rw [decide_eq_true hz] at e5 e6
    clear hr hs h0 hz
    go_enter Try.func33, Try.ntmps33
    go_wp2_with (go_at_call 32; with_reducible refine (eks_Rounds.calls cost m 0 _ HR.out).mono ?_; rintro e wn ⟨rfl, hd⟩; have n0_ := Aside0.mk (below_step HB.out (below_of_drawn hd)); clear HB hd; have HB := n0_; clear n0_)
    go_ret2
    exact ⟨rfl, HB.out⟩
  · have e7 : decide ((72 : Int) < (key.size : Int)) = true := decide_eq_true (by omega)
    have e8 : decide (72 < key.size) = true := decide_eq_true (by omega)
    rw [decide_eq_false hz] at e5 e6
    clear hr hs h0 hz
    go_enter Try.func33, Try.ntmps33
    go_wp2_with (go_at_call 32; with_reducible refine (eks_Rounds.calls cost m 0 _ HR.out).mono ?_; rintro e wn ⟨rfl, hd⟩; have n0_ := Aside0.mk (below_step HB.out (below_of_drawn hd)); clear HB hd; have HB := n0_; clear n0_)
    go_ret2
    exact ⟨rfl, HB.out⟩
set_option maxHeartbeats 8000000 in
set_option maxRecDepth 100000 in
theorem eks_Setup.calls (k : Nat) (P : List Nat) (hP : ciOk P) (hpi : pi_Words.f k 0 1042 = some (ciI P, 0)) (cost : Int) (m : Nat) (salt key : ByteArray) (w : World) (hr : eks_Rounds.f cost = some ((m : Int), 0)) (hm : m ≤ 4294967296) (hs : salt.size = 16) (h0 : ¬ (key.size = 0 ∨ 72 < key.size)) :
    Calls Try.prog 33 #[.int .i64 cost, .string salt, .string key] w fun e w' => ∃ g, w.heap.size ≤ g ∧ e = .returned (.tuple #[.pointer (some ⟨g, 0, none⟩), .int .i64 0]) ∧ Ci 70 w' g (ciSet salt key m (ciExpand P (ciWord salt) (ciWord key))) ∧ Below w.heap.size w w' := by
  have HR := Aside0.mk hr
  have HP := Aside0.mk hpi
  have HM := Aside0.mk hm
  have OP := Aside0.mk hP
  have OPL := Aside0.mk hP.1
  have HB := Aside0.mk (Below.refl w.heap.size w)
  have HS := Aside0.mk (show salt.size ≤ 9223372036854775807 by omega)
  have HK := Aside0.mk (show key.size ≤ 9223372036854775807 by omega)
  have HE := Aside0.mk (show (⟨#[]⟩ : ByteArray).size ≤ 9223372036854775807 by decide)
  have OT := Aside0.mk (ciExpand_ok hP (ciWord_lt salt) (ciWord_lt key))
  have e1 : ((salt.size : Int) == 16) = true := beq_iff_eq.2 (by omega)
  have e2 : ((salt.size : Int) != 16) = false := bne_eq_false_iff_eq.2 (by omega)
  have e3 : (salt.size == 16) = true := beq_iff_eq.2 hs
  have e4 : (salt.size != 16) = false := bne_eq_false_iff_eq.2 hs
  have e5 := (ci_empty (s := key)).1
  have e6 := (ci_empty (s := key)).2
  rw [decide_eq_false (show ¬ key.size = 0 by omega)] at e5 e6
  have e7 : decide ((72 : Int) < (key.size : Int)) = false := decide_eq_false (by omega)
  have e8 : decide (72 < key.size) = false := decide_eq_false (by omega)
  obtain ⟨T, hT⟩ : ∃ T, ciExpand P (ciWord salt) (ciWord key) = T := ⟨_, rfl⟩
  rw [hT] at OT ⊢
  replace hT := Aside0.mk hT
  clear hr hpi hm hP hs h0
  go_enter Try.func33, Try.ntmps33
  go_wp2_with (first | (go_at_call 32; with_reducible refine (eks_Rounds.calls cost (m : Int) 0 _ HR.out).mono ?_; rintro e wn ⟨rfl, hd⟩; have n0_ := Aside0.mk (below_step HB.out (below_of_drawn hd)); clear HB hd; have HB := n0_; clear n0_) | (go_at_call 17; with_reducible refine (cipher_Plain.calls k P OPL.out HP.out _).mono ?_; rintro e wn ⟨g, hg, rfl, hc, hb⟩; have HC := Aside0.mk hc; have HG := Aside0.mk (Nat.le_trans HB.out.size hg); have n0_ := Aside0.mk (below_step HB.out hb); clear HB; have HB := n0_; clear n0_; clear hg hc hb) | (go_at_call 21; with_reducible refine (cipher_Cipher_Expand.calls salt key HS.out HK.out g _ _ HC.out OP.out).mono ?_; rintro e wn ⟨rfl, hc, hb⟩; have n0_ := Aside0.mk (But.below HB.out hb HG.out HB.out.size); clear HB HC hb; have HB := n0_; rw [hT.out] at hc; have HC := Aside0.mk hc; clear n0_ hc))
  clear e1 e2 e3 e4 e5 e6 e7 e8
  have HT0 := Aside0.mk (show ciSet salt key m T = ciSet salt key m T from rfl)
  go_loopw [37] (fun v37 wz => ∃ (n : Nat) (t : List Nat), n ≤ m ∧ v37 = .int .i64 (n : Int) ∧ Aside0 (ciOk t) ∧ Aside0 (ciSet salt key (m - n) t = ciSet salt key m T) ∧ Aside0 (Ci 70 wz g t) ∧ Aside0 (Below w.heap.size w wz)) (fun v37 _ => m - (intOf v37).toNat)
  case atStart => exact ⟨0, T, by omega, rfl, OT, ⟨rfl⟩, HC, HB⟩
  case round =>
    clear HC HB HT0
    obtain ⟨n, t, hn, rfl, OU, E, HC, HB⟩ := hrel
    by_cases hlt : n < m
    · have p1 : decide ((n : Int) < (m : Int)) = true := decide_eq_true (by omega)
      have p2 : decide (n < m) = true := decide_eq_true hlt
      have hE := E.out
      rw [show m - n = (m - (n + 1)) + 1 by omega, ciSet_succ] at hE
      replace E := Aside0.mk hE
      have OV := Aside0.mk (ciExpand_ok OU.out (ciWord_lt (⟨#[]⟩ : ByteArray)) (ciWord_lt key))
      have OW := Aside0.mk (ciExpand_ok OV.out (ciWord_lt (⟨#[]⟩ : ByteArray)) (ciWord_lt salt))
      have hadd : IntKind.i64.wrap ((n : Int) + 1) = (n : Int) + 1 := by
        have := HM.out
        rw [IntKind.wrap_i64]; omega
      obtain ⟨u, hu⟩ : ∃ u, ciExpand t (ciWord (⟨#[]⟩ : ByteArray)) (ciWord key) = u := ⟨_, rfl⟩
      rw [hu] at OV OW E
      obtain ⟨v, hv⟩ : ∃ v, ciExpand u (ciWord (⟨#[]⟩ : ByteArray)) (ciWord salt) = v := ⟨_, rfl⟩
      rw [hv] at OW E
      replace hu := Aside0.mk hu
      replace hv := Aside0.mk hv
      have LT := Aside0.mk hlt
      clear hE hlt
      go_wp2_with (first | (go_at_call 21; with_reducible refine (cipher_Cipher_Expand.calls ⟨#[]⟩ key HE.out HK.out g _ _ HC.out OU.out).mono ?_; rintro e wn ⟨rfl, hc, hb⟩; have n0_ := Aside0.mk (But.below HB.out hb HG.out HB.out.size); clear HB HC hb; have HB := n0_; rw [hu.out] at hc; have HC := Aside0.mk hc; clear n0_ hc) | (go_at_call 21; with_reducible refine (cipher_Cipher_Expand.calls ⟨#[]⟩ salt HE.out HS.out g _ _ HC.out OV.out).mono ?_; rintro e wn ⟨rfl, hc, hb⟩; have n0_ := Aside0.mk (But.below HB.out hb HG.out HB.out.size); clear HB HC hb; have HB := n0_; rw [hv.out] at hc; have HC := Aside0.mk hc; clear n0_ hc))
      exact ⟨⟨n + 1, v, by have := LT.out; omega, by rfl, OW, E, HC, HB⟩, by simp [intOf]; have := LT.out; omega⟩
    · obtain rfl : n = m := by omega
      have p1 : decide ((n : Int) < (n : Int)) = false := decide_eq_false (by omega)
      have p2 : decide (n < n) = false := decide_eq_false (by omega)
      have n0_ := Aside0.mk (show Ci 70 wr g (ciSet salt key n T) by have q := E.out; rw [Nat.sub_self] at q; have q2 : t = ciSet salt key n T := q; rw [← q2]; exact HC.out)
      clear HC hlt
      go_wp2
      go_ret2
      exact ⟨g, HG.out, rfl, n0_.out, HB.out⟩

/-! ### pestlelaw11_awake: function 31 -/
theorem eks_four : eks_Rounds.f 4 = some (16, 0) := by decide +kernel
theorem eks_in : ∀ c : Nat, c < 32 → 4 ≤ c → eks_Rounds.f (c : Int) = some (((2 ^ c : Nat) : Int), 0) := by decide +kernel
def pestlelaw11_awake.f (k : Nat) : Option Bool := some true
theorem pestlelaw11_awake.mono : ∀ k, LeO (pestlelaw11_awake.f k) (pestlelaw11_awake.f (k + 1)) := fun _ => LeO.refl _
set_option maxHeartbeats 8000000 in
set_option maxRecDepth 100000 in
theorem pestlelaw11_awake.calls (k : Nat) (r : Bool) (w : World) (h : pestlelaw11_awake.f k = some r) :
    Calls Try.prog 31 #[] w fun e w' => e = .returned (.bool r) ∧ Below w.heap.size w w' := by
  obtain rfl := Option.some.inj h
  clear h
  have HB := Aside0.mk (Below.refl w.heap.size w)
  have HR := Aside0.mk eks_four
  have HS := Aside0.mk (show (⟨#[49, 50, 51, 52, 53, 54, 55, 56, 57, 48, 49, 50, 51, 52, 53]⟩ : ByteArray).size ≠ 16 by decide)
  go_enter Try.func31, Try.ntmps31
  go_wp2_with (first | (go_at_call 32; with_reducible refine (eks_Rounds.calls 4 16 0 _ HR.out).mono ?_; rintro e wn ⟨rfl, hd⟩; have n0_ := Aside0.mk (below_step HB.out (below_of_drawn hd)); clear HB hd; have HB := n0_; clear n0_) | (go_at_call 33; with_reducible refine (eks_Setup.salt 4 16 ⟨#[49, 50, 51, 52, 53, 54, 55, 56, 57, 48, 49, 50, 51, 52, 53]⟩ ⟨#[97]⟩ _ HR.out HS.out).mono ?_; rintro e wn ⟨rfl, hb⟩; have n0_ := Aside0.mk (below_step HB.out hb); clear HB hb; have HB := n0_; clear n0_))
  go_ret
  exact ⟨rfl, HB.out⟩

/-! ### pestleref10_word: function 48 -/
def pestleref10_word.l0 : Nat → ByteArray → Int → Int → Int → Option (Int)
 | 0, _, _, _, _ => none
 | k + 1, x0, x1, x5, x6 => if x6 < 4 then (if (x0.size : Int) > 0 then (if (x0.size : Int) = 0 then (none) else (if 0 ≤ (Int.tmod (wrap64 ((wrap64 (4 * x1)) + x6)) (x0.size : Int)) then (if (Int.tmod (wrap64 ((wrap64 (4 * x1)) + x6)) (x0.size : Int)) < (x0.size : Int) then (pestleref10_word.l0 k x0 x1 ((((x5 * 256) % 4294967296) + ((bt x0 (Int.tmod (wrap64 ((wrap64 (4 * x1)) + x6)) (x0.size : Int))) % 4294967296)) % 4294967296) (wrap64 (x6 + 1))) else (none)) else (none))) else (pestleref10_word.l0 k x0 x1 ((x5 * 256) % 4294967296) (wrap64 (x6 + 1)))) else (some x5)
def pestleref10_word.f (k : Nat) (a0 : ByteArray) (a1 : Int) : Option (Int) := pestleref10_word.l0 k a0 a1 0 0
theorem pestleref10_word.mono_l : ∀ k, (∀ y0 y1 y2 y3, LeO (pestleref10_word.l0 k y0 y1 y2 y3) (pestleref10_word.l0 (k + 1) y0 y1 y2 y3))
 | 0 => fun _ _ _ _ r h => by simp [pestleref10_word.l0] at h
 | k + 1 => by
  have ih0 := pestleref10_word.mono_l k
  ·intro y0 y1 y2 y3
   unfold pestleref10_word.l0
   repeat' first
   | (with_reducible exact ih0 _ _ _ _)
   | (with_reducible exact LeO.refl _)
   | (with_reducible exact LeO.none _)
   | (with_reducible refine LeO.ite ?_ ?_)
   | (with_reducible refine LeO.bind ?_ (fun _ => ?_))
   | exact ih0 _ _ _ _
   | exact LeO.none _
   | refine LeO.ite ?_ ?_
   | refine LeO.bind ?_ (fun _ => ?_)
theorem pestleref10_word.mono : ∀ a0 a1 k, LeO (pestleref10_word.f k a0 a1) (pestleref10_word.f (k + 1) a0 a1) := by
 intro a0 a1 k
 have ih0 := pestleref10_word.mono_l k
 unfold pestleref10_word.f
 repeat' first
   | (with_reducible exact ih0 _ _ _ _)
   | (with_reducible exact LeO.refl _)
   | (with_reducible exact LeO.none _)
   | (with_reducible refine LeO.ite ?_ ?_)
   | (with_reducible refine LeO.bind ?_ (fun _ => ?_))
   | exact ih0 _ _ _ _
   | exact LeO.none _
   | refine LeO.ite ?_ ?_
   | refine LeO.bind ?_ (fun _ => ?_)
set_option maxHeartbeats 8000000 in
set_option maxRecDepth 100000 in
theorem pestleref10_word.calls (k : Nat) (a0 : ByteArray) (a1 : Int) (r : Int) (w : World) (h : pestleref10_word.f k a0 a1 = some r) :
  Calls Try.prog 48 #[.string a0, .int .i64 a1] w fun e w' => e = .returned (.int .u32 r) ∧ Drawn0 w w' := by
 have H : (pestleref10_word.l0 k a0 a1 0 0) = some r := h
 clear h
 have H' := Aside0.mk H
 clear H
 go_enter Try.func48, Try.ntmps48
 go_wp2
 go_loopg [5, 6] k (fun kq v5 v6 w' => ∃ (x5_1 : Int) (x6_1 : Int), v5 = .int .u32 x5_1 ∧ v6 = .int .i64 x6_1 ∧ Aside0 (pestleref10_word.l0 kq a0 a1 x5_1 x6_1 = some r) ∧ Aside0 (kq ≤ k) ∧ Drawn0 w w')
 case atStart => exact ⟨(0), (0), (by first | rfl | (simp; done) | (simp [*]; done)), (by first | rfl | (simp; done) | (simp [*]; done)), H', ⟨Nat.le_refl _⟩, by repeat (first | exact Drawn0.refl _ | apply Drawn0.step)⟩
 case round =>
  clear H'
  try clear p2
  obtain ⟨x5_1, x6_1, rfl, rfl, HA, HK1, ⟨m1, rfl⟩⟩ := hrel
  cases gk with
  | zero => exact absurd HA.out (by simp [pestleref10_word.l0])
  | succ k1 =>
   have H := HA.out
   clear HA
   simp only [pestleref10_word.l0] at H
   by_cases c3 : x6_1 < 4
   ·rw [if_pos c3] at H
    have c3b0 : decide (x6_1 < 4) = true := decide_eq_true c3
    clear c3
    by_cases c4 : (a0.size : Int) > 0
    ·rw [if_pos c4] at H
     have c4b0 : decide (0 < (a0.size : Int)) = true := decide_eq_true c4
     have c4b1 : decide (0 < a0.size) = true := decide_eq_true (by omega)
     clear c4
     by_cases c5 : (a0.size : Int) = 0
     ·rw [if_pos c5] at H
      exact absurd H (by simp)
     ·rw [if_neg c5] at H
      have c5b0 : ((a0.size : Int) == 0) = false := beq_eq_false_iff_ne.mpr c5
      have c5b1 : ((a0.size : Int) != 0) = true := bne_iff_ne.mpr c5
      obtain ⟨ji6, hji6⟩ : ∃ j_ : Int, (Int.tmod (wrap64 ((wrap64 (4 * a1)) + x6_1)) (a0.size : Int)) = j_ := ⟨_, rfl⟩
      replace H : (if 0 ≤ (ji6) then (if (ji6) < (a0.size : Int) then (pestleref10_word.l0 k1 a0 a1 ((((x5_1 * 256) % 4294967296) + ((bt a0 (ji6)) % 4294967296)) % 4294967296) (wrap64 (x6_1 + 1))) else (none)) else (none)) = some r := by first | (rw [hji6] at H; exact H) | (simp only [hji6] at H ⊢; exact H)
      by_cases c7 : 0 ≤ (ji6)
      ·rw [if_pos c7] at H
       have c7b0 : decide (0 ≤ (ji6)) = true := decide_eq_true c7
       clear c7
       by_cases c8 : (ji6) < (a0.size : Int)
       ·rw [if_pos c8] at H
        have c8b0 : decide ((ji6) < (a0.size : Int)) = true := decide_eq_true c8
        clear c8
        have H' := Aside0.mk H
        clear H
        have p9 : 0 ≤ ((ji6) : Int) := of_decide_eq_true (by first | (with_reducible assumption) | assumption)
        have q9 : (ji6) < (a0.size : Int) := of_decide_eq_true (by first | (with_reducible assumption) | assumption)
        have hx9 := bt_at a0 (ji6)
        replace p9 := eq_true p9
        replace q9 := eq_true q9
        go_wp2
        go_roundg k1
        case measure => have := HK1.out; omega
        case rel => exact ⟨((((x5_1 * 256) % 4294967296) + ((bt a0 (ji6)) % 4294967296)) % 4294967296), (wrap64 (x6_1 + 1)), (by first | rfl | (simp; done) | (simp only [← hji6] <;> (first | rfl | simp)) | (simp [*]; done)), (by first | rfl | (simp; done) | (simp [*]; done)), H', ⟨by have := HK1.out; omega⟩, by repeat (first | exact Drawn0.refl _ | apply Drawn0.step)⟩
       ·rw [if_neg c8] at H
        exact absurd H (by simp)
      ·rw [if_neg c7] at H
       exact absurd H (by simp)
    ·rw [if_neg c4] at H
     have c4b0 : decide (0 < (a0.size : Int)) = false := decide_eq_false c4
     have c4b1 : decide (0 < a0.size) = false := decide_eq_false (by omega)
     clear c4
     have H' := Aside0.mk H
     clear H
     go_wp2
     go_roundg k1
     case measure => have := HK1.out; omega
     case rel => exact ⟨((x5_1 * 256) % 4294967296), (wrap64 (x6_1 + 1)), (by first | rfl | (simp; done) | (simp [*]; done)), (by first | rfl | (simp; done) | (simp [*]; done)), H', ⟨by have := HK1.out; omega⟩, by repeat (first | exact Drawn0.refl _ | apply Drawn0.step)⟩
   ·rw [if_neg c3] at H
    have c3b0 : decide (x6_1 < 4) = false := decide_eq_false c3
    clear c3
    obtain rfl := Option.some.inj H
    go_wp2
    go_ret
    exact ⟨by first | rfl | (simp; done) | (simp [*]; done) | (simp [show ∀ l_ : List UInt8, (l_ != []) = !l_.isEmpty from fun l_ => by cases l_ <;> rfl]; done), by repeat (first | exact Drawn0.refl _ | apply Drawn0.step)⟩

end Go.Proofs.Ytimgndceiibaeaa.Pall
