-- PRINTED by print.py (a twelfth state) out of the translation. Not trusted: Lean checks it.
import Derived.Test.YtimgndceiibaeaaPallx0
import Derived.Test.YtimgndceiibaeaaPallx2
namespace Go.Proofs.Ytimgndceiibaeaa.Pall
open Go.RowKit Go.Proofs.YtimgndceiibaeaaW.PrintWords Go.Proofs.YtimgndceiibaeaaW.PrintLast Go.Proofs.YtimgndceiibaeaaW.PrintMore
attribute [local go_sem] max2_int min2_int max_two min_two max_three min_three max_four min_four   -- for this text's walks alone
set_option linter.unusedVariables false
set_option linter.unusedSimpArgs false

/-! ### cipher_Cipher_Encrypt: function 23 -/
set_option maxHeartbeats 8000000 in
set_option maxRecDepth 100000 in
theorem cipher_Cipher_Encrypt.nil (l r : Int) (w : World) :
    Calls Try.prog 23 #[.pointer none, .int .u32 l, .int .u32 r] w fun e w' => e = .returned (.tuple #[.int .u32 0, .int .u32 0]) ∧ Below w.heap.size w w' := by
  go_enter Try.func23, Try.ntmps23
  go_wp2
  go_ret2
  exact ⟨rfl, Below.refl _ _⟩
theorem ciEncR_succ (t : List Nat) (n i l r : Nat) : ciEncR t (n + 1) i l r = ciEncR t n (i + 1) (r ^^^ ciF t (l ^^^ ciW t i)) (l ^^^ ciW t i) := rfl
set_option maxHeartbeats 8000000 in
set_option maxRecDepth 100000 in
theorem cipher_Cipher_Encrypt.calls (t : List Nat) (g l r : Nat) (w : World) (hc : Ci 70 w g t) (ho : ciOk t) (hl : l < 4294967296) (hr : r < 4294967296) :
    Calls Try.prog 23 #[.pointer (some ⟨g, 0, none⟩), .int .u32 l, .int .u32 r] w fun e w' => e = .returned (.tuple #[.int .u32 ((ciEnc t l r).1 : Nat), .int .u32 ((ciEnc t l r).2 : Nat)]) ∧ Below w.heap.size w w' := by
  have HC := Aside0.mk hc
  have HO := Aside0.mk ho
  have HL := Aside0.mk hl
  have HR := Aside0.mk hr
  have HB := Aside0.mk (Below.refl w.heap.size w)
  have GL := Aside0.mk hc.lt
  clear hc ho hl hr
  go_enter Try.func23, Try.ntmps23
  go_wp2
  go_loopw [11, 1, 2] (fun v11 v1 v2 wz => ∃ n x y : Nat, n ≤ 16 ∧ v11 = .int .i64 (n : Int) ∧ v1 = .int .u32 (x : Int) ∧ v2 = .int .u32 (y : Int) ∧ Aside0 (x < 4294967296) ∧ Aside0 (y < 4294967296) ∧ Aside0 (ciEncR t (16 - n) n x y = ciEncR t 16 0 l r) ∧ Aside0 (Ci 70 wz g t) ∧ Aside0 (Below w.heap.size w wz)) (fun v11 _ _ _ => 16 - (intOf v11).toNat)
  case atStart => exact ⟨0, l, r, by omega, rfl, rfl, rfl, HL, HR, ⟨rfl⟩, HC, HB⟩
  case round =>
    clear HC HB HL HR
    obtain ⟨n, x, y, hn, rfl, rfl, rfl, HX, HY, E, HC, HB⟩ := hrel
    by_cases hlt : n < 16
    · have p1 : (n : Int) < 18 := by omega
      have hcell := HC.out.cell HO.out n (by omega)
      have hx1 := ci_bxor x (ciW t n) HX.out (HO.out.2 _)
      have HM := Aside0.mk (ci_xor HX.out (HO.out.2 n))
      have hE := E.out
      obtain ⟨d, hd⟩ : ∃ d, 16 - n = d + 1 := ⟨15 - n, by omega⟩
      rw [hd, ciEncR_succ] at hE
      have hd2 : 16 - (n + 1) = d := by omega
      obtain ⟨m, hm⟩ : ∃ m, x ^^^ ciW t n = m := ⟨_, rfl⟩
      rw [hm] at hx1 HM hE
      have hx2 := ci_bxor y (ciF t m) HY.out (ciF_lt t m)
      have HZ := Aside0.mk (ci_xor HY.out (ciF_lt t m))
      replace E := Aside0.mk hE
      replace hd := Aside0.mk hd
      replace hd2 := Aside0.mk hd2
      clear hm hE
      go_wp2_with (go_at_call 49; refine (cipher_Cipher_f.calls t g m _ HC.out HO.out HM.out).mono ?_; rintro e wn ⟨rfl, hdr⟩; have n0_ := Aside0.mk (below_step HB.out (below_of_drawn hdr)); have n1_ := Aside0.mk (HC.out.next (below_of_drawn hdr)); clear HB HC hcell; have HB := n0_; have HC := n1_; clear n0_ n1_ hdr)
      refine ⟨⟨n + 1, _, m, by omega, by go_num, rfl, rfl, HZ, HM, ⟨?_⟩, HC, HB⟩, by simp [intOf]; omega⟩
      rw [hd2.out]; exact E.out
    · obtain rfl : n = 16 := by omega
      have h17 := HC.out.cell HO.out 17 (by omega)
      have h16 := HC.out.cell HO.out 16 (by omega)
      have hx1 := ci_bxor y (ciW t 17) HY.out (HO.out.2 _)
      have hx2 := ci_bxor x (ciW t 16) HX.out (HO.out.2 _)
      have hE : (x, y) = ciEncR t 16 0 l r := E.out
      have e1 : (ciEnc t l r).1 = y ^^^ ciW t 17 := by unfold ciEnc; rw [← hE]
      have e2 : (ciEnc t l r).2 = x ^^^ ciW t 16 := by unfold ciEnc; rw [← hE]
      replace e1 := Aside0.mk e1
      replace e2 := Aside0.mk e2
      clear hE
      go_wp2
      go_quiet (fail)
      go_wp2
      go_ret2
      refine ⟨?_, pw_below_drewN HB.out _⟩
      rw [e1.out, e2.out]
      rfl

/-! ### pestleref10_f: function 50 -/
def pestleref10_f.f (l0 : List Int) (a1 : Int) : Option (Int) := if 0 ≤ (18 + ((Int.tdiv a1 16777216) % 4294967296)) then (if (18 + ((Int.tdiv a1 16777216) % 4294967296)) < (l0.length : Int) then (if 0 ≤ (274 + (((Int.tdiv a1 65536) % 4294967296) % 256)) then (if (274 + (((Int.tdiv a1 65536) % 4294967296) % 256)) < (l0.length : Int) then (if 0 ≤ (530 + (((Int.tdiv a1 256) % 4294967296) % 256)) then (if (530 + (((Int.tdiv a1 256) % 4294967296) % 256)) < (l0.length : Int) then (if 0 ≤ (wrap64 (786 + (wrap64 (Int.tmod a1 256)))) then (if (wrap64 (786 + (wrap64 (Int.tmod a1 256)))) < (l0.length : Int) then (some (((Go.bits .xor .u32 (((rd l0 (18 + ((Int.tdiv a1 16777216) % 4294967296))) + (rd l0 (274 + (((Int.tdiv a1 65536) % 4294967296) % 256)))) % 4294967296) (rd l0 (530 + (((Int.tdiv a1 256) % 4294967296) % 256)))) + (rd l0 (wrap64 (786 + (wrap64 (Int.tmod a1 256)))))) % 4294967296)) else (none)) else (none)) else (none)) else (none)) else (none)) else (none)) else (none)) else (none)
set_option maxHeartbeats 8000000 in
set_option maxRecDepth 100000 in
theorem pestleref10_f.calls (A0 : Option Addr) (c0 : Nat) (l0 : List Int) (a1 : Int) (r : Int) (w : World) (hr0 : Kd.C (Kd.int .u32) w A0 l0.length l0) (hc0 : l0.length ≤ c0) (h : pestleref10_f.f l0 a1 = some r) :
  Calls Try.prog 50 #[.slice A0 l0.length c0, .int .u32 a1] w fun e w' => e = .returned (.int .u32 r) ∧ Drawn0 w w' := by
 have HR0 := Aside0.mk hr0
 have HC0 := Aside0.mk hc0
 clear hr0 hc0
 have H : (if 0 ≤ (18 + ((Int.tdiv a1 16777216) % 4294967296)) then (if (18 + ((Int.tdiv a1 16777216) % 4294967296)) < (l0.length : Int) then (if 0 ≤ (274 + (((Int.tdiv a1 65536) % 4294967296) % 256)) then (if (274 + (((Int.tdiv a1 65536) % 4294967296) % 256)) < (l0.length : Int) then (if 0 ≤ (530 + (((Int.tdiv a1 256) % 4294967296) % 256)) then (if (530 + (((Int.tdiv a1 256) % 4294967296) % 256)) < (l0.length : Int) then (if 0 ≤ (wrap64 (786 + (wrap64 (Int.tmod a1 256)))) then (if (wrap64 (786 + (wrap64 (Int.tmod a1 256)))) < (l0.length : Int) then (some (((Go.bits .xor .u32 (((rd l0 (18 + ((Int.tdiv a1 16777216) % 4294967296))) + (rd l0 (274 + (((Int.tdiv a1 65536) % 4294967296) % 256)))) % 4294967296) (rd l0 (530 + (((Int.tdiv a1 256) % 4294967296) % 256)))) + (rd l0 (wrap64 (786 + (wrap64 (Int.tmod a1 256)))))) % 4294967296)) else (none)) else (none)) else (none)) else (none)) else (none)) else (none)) else (none)) else (none)) = some r := h
 clear h
 obtain ⟨ji3, hji3⟩ : ∃ j_ : Int, (18 + ((Int.tdiv a1 16777216) % 4294967296)) = j_ := ⟨_, rfl⟩
 replace H : (if 0 ≤ (ji3) then (if (ji3) < (l0.length : Int) then (if 0 ≤ (274 + (((Int.tdiv a1 65536) % 4294967296) % 256)) then (if (274 + (((Int.tdiv a1 65536) % 4294967296) % 256)) < (l0.length : Int) then (if 0 ≤ (530 + (((Int.tdiv a1 256) % 4294967296) % 256)) then (if (530 + (((Int.tdiv a1 256) % 4294967296) % 256)) < (l0.length : Int) then (if 0 ≤ (wrap64 (786 + (wrap64 (Int.tmod a1 256)))) then (if (wrap64 (786 + (wrap64 (Int.tmod a1 256)))) < (l0.length : Int) then (some (((Go.bits .xor .u32 (((rd l0 (ji3)) + (rd l0 (274 + (((Int.tdiv a1 65536) % 4294967296) % 256)))) % 4294967296) (rd l0 (530 + (((Int.tdiv a1 256) % 4294967296) % 256)))) + (rd l0 (wrap64 (786 + (wrap64 (Int.tmod a1 256)))))) % 4294967296)) else (none)) else (none)) else (none)) else (none)) else (none)) else (none)) else (none)) else (none)) = some r := by first | (rw [hji3] at H; exact H) | (simp only [hji3] at H ⊢; exact H)
 by_cases c4 : 0 ≤ (ji3)
 ·rw [if_pos c4] at H
  have c4b0 : decide (0 ≤ (ji3)) = true := decide_eq_true c4
  clear c4
  by_cases c5 : (ji3) < (l0.length : Int)
  ·rw [if_pos c5] at H
   have c5b0 : decide ((ji3) < (l0.length : Int)) = true := decide_eq_true c5
   clear c5
   obtain ⟨ji6, hji6⟩ : ∃ j_ : Int, (274 + (((Int.tdiv a1 65536) % 4294967296) % 256)) = j_ := ⟨_, rfl⟩
   replace H : (if 0 ≤ (ji6) then (if (ji6) < (l0.length : Int) then (if 0 ≤ (530 + (((Int.tdiv a1 256) % 4294967296) % 256)) then (if (530 + (((Int.tdiv a1 256) % 4294967296) % 256)) < (l0.length : Int) then (if 0 ≤ (wrap64 (786 + (wrap64 (Int.tmod a1 256)))) then (if (wrap64 (786 + (wrap64 (Int.tmod a1 256)))) < (l0.length : Int) then (some (((Go.bits .xor .u32 (((rd l0 (ji3)) + (rd l0 (ji6))) % 4294967296) (rd l0 (530 + (((Int.tdiv a1 256) % 4294967296) % 256)))) + (rd l0 (wrap64 (786 + (wrap64 (Int.tmod a1 256)))))) % 4294967296)) else (none)) else (none)) else (none)) else (none)) else (none)) else (none)) = some r := by first | (rw [hji6] at H; exact H) | (simp only [hji6] at H ⊢; exact H)
   by_cases c7 : 0 ≤ (ji6)
   ·rw [if_pos c7] at H
    have c7b0 : decide (0 ≤ (ji6)) = true := decide_eq_true c7
    clear c7
    by_cases c8 : (ji6) < (l0.length : Int)
    ·rw [if_pos c8] at H
     have c8b0 : decide ((ji6) < (l0.length : Int)) = true := decide_eq_true c8
     clear c8
     obtain ⟨ji9, hji9⟩ : ∃ j_ : Int, (530 + (((Int.tdiv a1 256) % 4294967296) % 256)) = j_ := ⟨_, rfl⟩
     replace H : (if 0 ≤ (ji9) then (if (ji9) < (l0.length : Int) then (if 0 ≤ (wrap64 (786 + (wrap64 (Int.tmod a1 256)))) then (if (wrap64 (786 + (wrap64 (Int.tmod a1 256)))) < (l0.length : Int) then (some (((Go.bits .xor .u32 (((rd l0 (ji3)) + (rd l0 (ji6))) % 4294967296) (rd l0 (ji9))) + (rd l0 (wrap64 (786 + (wrap64 (Int.tmod a1 256)))))) % 4294967296)) else (none)) else (none)) else (none)) else (none)) = some r := by first | (rw [hji9] at H; exact H) | (simp only [hji9] at H ⊢; exact H)
     by_cases c10 : 0 ≤ (ji9)
     ·rw [if_pos c10] at H
      have c10b0 : decide (0 ≤ (ji9)) = true := decide_eq_true c10
      clear c10
      by_cases c11 : (ji9) < (l0.length : Int)
      ·rw [if_pos c11] at H
       have c11b0 : decide ((ji9) < (l0.length : Int)) = true := decide_eq_true c11
       clear c11
       obtain ⟨ji12, hji12⟩ : ∃ j_ : Int, (wrap64 (786 + (wrap64 (Int.tmod a1 256)))) = j_ := ⟨_, rfl⟩
       replace H : (if 0 ≤ (ji12) then (if (ji12) < (l0.length : Int) then (some (((Go.bits .xor .u32 (((rd l0 (ji3)) + (rd l0 (ji6))) % 4294967296) (rd l0 (ji9))) + (rd l0 (ji12))) % 4294967296)) else (none)) else (none)) = some r := by first | (rw [hji12] at H; exact H) | (simp only [hji12] at H ⊢; exact H)
       have hji12w : (IntKind.i64.wrap (786 + (wrap64 (Int.tmod a1 256)))) = ji12 := (i64_w _).trans hji12
       by_cases c13 : 0 ≤ (ji12)
       ·rw [if_pos c13] at H
        have c13b0 : decide (0 ≤ (ji12)) = true := decide_eq_true c13
        clear c13
        by_cases c14 : (ji12) < (l0.length : Int)
        ·rw [if_pos c14] at H
         have c14b0 : decide ((ji12) < (l0.length : Int)) = true := decide_eq_true c14
         clear c14
         obtain rfl := Option.some.inj H
         have p114 : 0 ≤ ((ji3) : Int) := of_decide_eq_true (by first | (with_reducible assumption) | assumption)
         have q114 : (ji3) < (l0.length : Int) := of_decide_eq_true (by first | (with_reducible assumption) | assumption)
         obtain ⟨ad114, e114, hx114_0⟩ := Kd.at_int HR0.out (ji3) p114 q114
         cases e114
         replace p114 := eq_true p114
         replace q114 := eq_true q114
         have p115 : 0 ≤ ((ji6) : Int) := of_decide_eq_true (by first | (with_reducible assumption) | assumption)
         have q115 : (ji6) < (l0.length : Int) := of_decide_eq_true (by first | (with_reducible assumption) | assumption)
         obtain ⟨ad115, e115, hx115_0⟩ := Kd.at_int HR0.out (ji6) p115 q115
         obtain rfl : ad114 = ad115 := (by injection e115)
         replace p115 := eq_true p115
         replace q115 := eq_true q115
         have p116 : 0 ≤ ((ji9) : Int) := of_decide_eq_true (by first | (with_reducible assumption) | assumption)
         have q116 : (ji9) < (l0.length : Int) := of_decide_eq_true (by first | (with_reducible assumption) | assumption)
         obtain ⟨ad116, e116, hx116_0⟩ := Kd.at_int HR0.out (ji9) p116 q116
         obtain rfl : ad114 = ad116 := (by injection e116)
         replace p116 := eq_true p116
         replace q116 := eq_true q116
         have p117 : 0 ≤ ((ji12) : Int) := of_decide_eq_true (by first | (with_reducible assumption) | assumption)
         have q117 : (ji12) < (l0.length : Int) := of_decide_eq_true (by first | (with_reducible assumption) | assumption)
         obtain ⟨ad117, e117, hx117_0⟩ := Kd.at_int HR0.out (ji12) p117 q117
         obtain rfl : ad114 = ad117 := (by injection e117)
         replace p117 := eq_true p117
         replace q117 := eq_true q117
         have hs_ji3 : 18 + a1.tdiv 16777216 % 4294967296 = ji3 := by first | exact hji3 | (rw [← hji3]; omega)
         have hw_ji3 : IntKind.i64.wrap (18 + a1.tdiv 16777216 % 4294967296) = ji3 := by rw [hs_ji3, IntKind.wrap_i64]; omega
         have hs_ji6 : 274 + a1.tdiv 65536 % 256 = ji6 := by first | exact hji6 | (rw [← hji6]; omega)
         have hw_ji6 : IntKind.i64.wrap (274 + a1.tdiv 65536 % 256) = ji6 := by rw [hs_ji6, IntKind.wrap_i64]; omega
         have hs_ji9 : 530 + a1.tdiv 256 % 256 = ji9 := by first | exact hji9 | (rw [← hji9]; omega)
         have hw_ji9 : IntKind.i64.wrap (530 + a1.tdiv 256 % 256) = ji9 := by rw [hs_ji9, IntKind.wrap_i64]; omega
         go_enter Try.func50, Try.ntmps50
         go_wp2
         repeat (go_quiet (fail); try go_wp2)
         go_ret
         exact ⟨by first | rfl | (simp; done) | (simp only [← hji3, ← hji6, ← hji9, ← hji12] <;> (first | rfl | simp)) | (simp [*]; done), by repeat (first | exact Drawn0.refl _ | apply Drawn0.step)⟩
        ·rw [if_neg c14] at H
         exact absurd H (by simp)
       ·rw [if_neg c13] at H
        exact absurd H (by simp)
      ·rw [if_neg c11] at H
       exact absurd H (by simp)
     ·rw [if_neg c10] at H
      exact absurd H (by simp)
    ·rw [if_neg c8] at H
     exact absurd H (by simp)
   ·rw [if_neg c7] at H
    exact absurd H (by simp)
  ·rw [if_neg c5] at H
   exact absurd H (by simp)
 ·rw [if_neg c4] at H
  exact absurd H (by simp)

/-! ### pestleref10_Encrypt: function 24 -/
def pestleref10_Encrypt.l0 : Nat → List Int → Int → Int → Int → Option (Int × Int)
 | 0, _, _, _, _ => none
 | k + 1, x0, x1, x2, x8 => if x8 < 16 then (if 0 ≤ x8 then (if x8 < (x0.length : Int) then ((pestleref10_f.f x0 (Go.bits .xor .u32 x1 (rd x0 x8))).bind fun t119 => (pestleref10_Encrypt.l0 k x0 (Go.bits .xor .u32 x2 t119) (Go.bits .xor .u32 x1 (rd x0 x8)) (wrap64 (x8 + 1)))) else (none)) else (none)) else (if 17 < (x0.length : Int) then (if 16 < (x0.length : Int) then (some (Go.bits .xor .u32 x2 (rd x0 17), Go.bits .xor .u32 x1 (rd x0 16))) else (none)) else (none))
def pestleref10_Encrypt.f (k : Nat) (l0 : List Int) (a1 : Int) (a2 : Int) : Option (Int × Int) := pestleref10_Encrypt.l0 k l0 a1 a2 0
theorem pestleref10_Encrypt.mono_l : ∀ k, (∀ y0 y1 y2 y3, LeO (pestleref10_Encrypt.l0 k y0 y1 y2 y3) (pestleref10_Encrypt.l0 (k + 1) y0 y1 y2 y3))
 | 0 => fun _ _ _ _ r h => by simp [pestleref10_Encrypt.l0] at h
 | k + 1 => by
  have ih0 := pestleref10_Encrypt.mono_l k
  ·intro y0 y1 y2 y3
   unfold pestleref10_Encrypt.l0
   repeat' first
   | (with_reducible exact ih0 _ _ _ _)
   | (with_reducible exact LeO.refl _)
   | (with_reducible exact LeO.none _)
   | (with_reducible refine LeO.ite ?_ ?_)
   | (with_reducible refine LeO.bind ?_ (fun _ => ?_))
   | exact ih0 _ _ _ _
   | exact LeO.none _
   | refine LeO.ite ?_ ?_
   | refine LeO.bind ?_ (fun _ => ?_)
theorem pestleref10_Encrypt.mono : ∀ a0 a1 a2 k, LeO (pestleref10_Encrypt.f k a0 a1 a2) (pestleref10_Encrypt.f (k + 1) a0 a1 a2) := by
 intro a0 a1 a2 k
 have ih0 := pestleref10_Encrypt.mono_l k
 unfold pestleref10_Encrypt.f
 repeat' first
   | (with_reducible exact ih0 _ _ _ _)
   | (with_reducible exact LeO.refl _)
   | (with_reducible exact LeO.none _)
   | (with_reducible refine LeO.ite ?_ ?_)
   | (with_reducible refine LeO.bind ?_ (fun _ => ?_))
   | exact ih0 _ _ _ _
   | exact LeO.none _
   | refine LeO.ite ?_ ?_
   | refine LeO.bind ?_ (fun _ => ?_)
set_option maxHeartbeats 8000000 in
set_option maxRecDepth 100000 in
theorem pestleref10_Encrypt.calls (k : Nat) (A0 : Option Addr) (c0 : Nat) (l0 : List Int) (a1 : Int) (a2 : Int) (r1 : Int) (r2 : Int) (w : World) (hr0 : Kd.C (Kd.int .u32) w A0 l0.length l0) (hc0 : l0.length ≤ c0) (h : pestleref10_Encrypt.f k l0 a1 a2 = some (r1, r2)) :
  Calls Try.prog 24 #[.slice A0 l0.length c0, .int .u32 a1, .int .u32 a2] w fun e w' => e = .returned (.tuple #[.int .u32 r1, .int .u32 r2]) ∧ Drawn0 w w' := by
 have HR0 := Aside0.mk hr0
 have HC0 := Aside0.mk hc0
 clear hr0 hc0
 have H : (pestleref10_Encrypt.l0 k l0 a1 a2 0) = some (r1, r2) := h
 clear h
 have H' := Aside0.mk H
 clear H
 go_enter Try.func24, Try.ntmps24
 go_wp2
 repeat (go_quiet (fail); try go_wp2)
 go_loopg [1, 2, 8] k (fun kq v1 v2 v8 w' => ∃ (x1_1 : Int) (x2_1 : Int) (x8_1 : Int), v1 = .int .u32 x1_1 ∧ v2 = .int .u32 x2_1 ∧ v8 = .int .i64 x8_1 ∧ Aside0 (pestleref10_Encrypt.l0 kq l0 x1_1 x2_1 x8_1 = some (r1, r2)) ∧ Aside0 (kq ≤ k) ∧ Drawn0 w w')
 case atStart => exact ⟨(a1), (a2), (0), (by first | rfl | (simp; done) | (simp [*]; done)), (by first | rfl | (simp; done) | (simp [*]; done)), (by first | rfl | (simp; done) | (simp [*]; done)), H', ⟨Nat.le_refl _⟩, by repeat (first | exact Drawn0.refl _ | apply Drawn0.step)⟩
 case round =>
  clear H'
  try clear c2
  try clear p2
  obtain ⟨x1_1, x2_1, x8_1, rfl, rfl, rfl, HA, HK1, ⟨m1, rfl⟩⟩ := hrel
  cases gk with
  | zero => exact absurd HA.out (by simp [pestleref10_Encrypt.l0])
  | succ k1 =>
   have H := HA.out
   clear HA
   simp only [pestleref10_Encrypt.l0] at H
   by_cases c4 : x8_1 < 16
   ·rw [if_pos c4] at H
    have c4b0 : decide (x8_1 < 16) = true := decide_eq_true c4
    clear c4
    by_cases c5 : 0 ≤ x8_1
    ·rw [if_pos c5] at H
     have c5b0 : decide (0 ≤ x8_1) = true := decide_eq_true c5
     clear c5
     by_cases c6 : x8_1 < (l0.length : Int)
     ·rw [if_pos c6] at H
      have c6b0 : decide (x8_1 < (l0.length : Int)) = true := decide_eq_true c6
      clear c6
      replace H := Option.bind_eq_some_iff.mp H
      obtain ⟨t119, A70, H⟩ := H
      replace H : (pestleref10_Encrypt.l0 k1 l0 (Go.bits .xor .u32 x2_1 t119) (Go.bits .xor .u32 x1_1 (rd l0 x8_1)) (wrap64 (x8_1 + 1))) = some (r1, r2) := H
      have A7 := Aside0.mk A70
      clear A70
      have H' := Aside0.mk H
      clear H
      have p118 : 0 ≤ (x8_1 : Int) := of_decide_eq_true (by first | (with_reducible assumption) | assumption)
      have q118 : x8_1 < (l0.length : Int) := of_decide_eq_true (by first | (with_reducible assumption) | assumption)
      obtain ⟨ad118, e118, hx118_0⟩ := Kd.at_int HR0.out x8_1 p118 q118
      cases e118
      replace p118 := eq_true p118
      replace q118 := eq_true q118
      go_wp2_with (first | (go_at_call 50; (with_reducible refine (pestleref10_f.calls _ _ l0 (Go.bits .xor .u32 x1_1 (rd l0 x8_1)) t119 _ ?side1 ?side2 A7.out).mono ?_); (case side1 => repeat (first | exact HR0.out | (with_reducible refine Kd.C_alloc ?_ _) | (with_reducible refine Kd.C_drewN ?_ _) | (with_reducible refine Kd.C_drew ?_))); (case side2 => exact HC0.out); rintro e w' ⟨rfl, ⟨nd, rfl⟩⟩; (try first | exact ⟨rfl, _, World.drewN_drewN _ _ _⟩ | exact ⟨rfl, _, Eq.trans (World.drewN_drewN _ _ _) (congrArg (World.drewN _) (Nat.add_assoc _ _ _))⟩)))
      repeat (go_quiet (first | (go_at_call 50; (with_reducible refine (pestleref10_f.calls _ _ l0 (Go.bits .xor .u32 x1_1 (rd l0 x8_1)) t119 _ ?side1 ?side2 A7.out).mono ?_); (case side1 => repeat (first | exact HR0.out | (with_reducible refine Kd.C_alloc ?_ _) | (with_reducible refine Kd.C_drewN ?_ _) | (with_reducible refine Kd.C_drew ?_))); (case side2 => exact HC0.out); rintro e w' ⟨rfl, ⟨nd, rfl⟩⟩; (try first | exact ⟨rfl, _, World.drewN_drewN _ _ _⟩ | exact ⟨rfl, _, Eq.trans (World.drewN_drewN _ _ _) (congrArg (World.drewN _) (Nat.add_assoc _ _ _))⟩))); try go_wp2_with (first | (go_at_call 50; (with_reducible refine (pestleref10_f.calls _ _ l0 (Go.bits .xor .u32 x1_1 (rd l0 x8_1)) t119 _ ?side1 ?side2 A7.out).mono ?_); (case side1 => repeat (first | exact HR0.out | (with_reducible refine Kd.C_alloc ?_ _) | (with_reducible refine Kd.C_drewN ?_ _) | (with_reducible refine Kd.C_drew ?_))); (case side2 => exact HC0.out); rintro e w' ⟨rfl, ⟨nd, rfl⟩⟩; (try first | exact ⟨rfl, _, World.drewN_drewN _ _ _⟩ | exact ⟨rfl, _, Eq.trans (World.drewN_drewN _ _ _) (congrArg (World.drewN _) (Nat.add_assoc _ _ _))⟩))))
      go_roundg k1
      case measure => have := HK1.out; omega
      case rel => exact ⟨(Go.bits .xor .u32 x2_1 t119), (Go.bits .xor .u32 x1_1 (rd l0 x8_1)), (wrap64 (x8_1 + 1)), (by first | rfl | (simp; done) | (simp [*]; done)), (by first | rfl | (simp; done) | (simp [*]; done)), (by first | rfl | (simp; done) | (simp [*]; done)), H', ⟨by have := HK1.out; omega⟩, by repeat (first | exact Drawn0.refl _ | apply Drawn0.step)⟩
     ·rw [if_neg c6] at H
      exact absurd H (by simp)
    ·rw [if_neg c5] at H
     exact absurd H (by simp)
   ·rw [if_neg c4] at H
    have c4b0 : decide (x8_1 < 16) = false := decide_eq_false c4
    clear c4
    by_cases c8 : 17 < (l0.length : Int)
    ·rw [if_pos c8] at H
     have c8b0 : decide (17 < (l0.length : Int)) = true := decide_eq_true c8
     have c8b1 : decide (17 < l0.length) = true := decide_eq_true (by omega)
     clear c8
     by_cases c9 : 16 < (l0.length : Int)
     ·rw [if_pos c9] at H
      have c9b0 : decide (16 < (l0.length : Int)) = true := decide_eq_true c9
      have c9b1 : decide (16 < l0.length) = true := decide_eq_true (by omega)
      clear c9
      simp only [Option.some.injEq, Prod.mk.injEq] at H
      obtain ⟨rfl, rfl⟩ := H
      have p120 : 0 ≤ (17 : Int) := (by omega)
      have q120 : 17 < (l0.length : Int) := of_decide_eq_true (by first | (with_reducible assumption) | assumption)
      obtain ⟨ad120, e120, hx120_0⟩ := Kd.at_int HR0.out 17 p120 q120
      cases e120
      (try simp only [show (17 : Int).toNat = 17 from rfl, Nat.reduceMul, Nat.reduceEqDiff, Go.Addr.add, ↓reduceIte] at hx120_0)
      have qi120 : (17 < l0.length) = True := eq_true (by omega)
      (try rw [show ((17 : Int)).toNat = 17 from rfl] at hx120_0)
      replace p120 := eq_true p120
      replace q120 := eq_true q120
      have p121 : 0 ≤ (16 : Int) := (by omega)
      have q121 : 16 < (l0.length : Int) := of_decide_eq_true (by first | (with_reducible assumption) | assumption)
      obtain ⟨ad121, e121, hx121_0⟩ := Kd.at_int HR0.out 16 p121 q121
      obtain rfl : ad120 = ad121 := (by injection e121)
      (try simp only [show (16 : Int).toNat = 16 from rfl, Nat.reduceMul, Nat.reduceEqDiff, Go.Addr.add, ↓reduceIte] at hx121_0)
      have qi121 : (16 < l0.length) = True := eq_true (by omega)
      (try rw [show ((16 : Int)).toNat = 16 from rfl] at hx121_0)
      replace p121 := eq_true p121
      replace q121 := eq_true q121
      go_wp2
      repeat (go_quiet (fail); try go_wp2)
      go_ret2
      exact ⟨by first | rfl | (simp; done) | (simp [*]; done) | (simp [show ∀ l_ : List UInt8, (l_ != []) = !l_.isEmpty from fun l_ => by cases l_ <;> rfl]; done), by repeat (first | exact Drawn0.refl _ | apply Drawn0.step)⟩
     ·rw [if_neg c9] at H
      exact absurd H (by simp)
    ·rw [if_neg c8] at H
     exact absurd H (by simp)

/-! ### size_Within: function 53 -/
def size_Within.f (a0 : Int) (a1 : Int) (a2 : Int) : Option (Bool) := if a0 ≥ a1 then (some (decide (a0 ≤ a2))) else (some false)
set_option maxHeartbeats 8000000 in
set_option maxRecDepth 100000 in
theorem size_Within.calls (a0 : Int) (a1 : Int) (a2 : Int) (r : Bool) (w : World) (h : size_Within.f a0 a1 a2 = some r) :
  Calls Try.prog 53 #[.int .i64 a0, .int .i64 a1, .int .i64 a2] w fun e w' => e = .returned (.bool r) ∧ Drawn0 w w' := by
 have H : (if a0 ≥ a1 then (some (decide (a0 ≤ a2))) else (some false)) = some r := h
 clear h
 by_cases c4 : a0 ≥ a1
 ·rw [if_pos c4] at H
  have c4b0 : decide (a1 ≤ a0) = true := decide_eq_true c4
  clear c4
  obtain rfl := Option.some.inj H
  go_enter Try.func53, Try.ntmps53
  go_wp2
  go_ret
  exact ⟨by first | rfl | (simp; done) | (simp [*]; done) | (simp [show ∀ l_ : List UInt8, (l_ != []) = !l_.isEmpty from fun l_ => by cases l_ <;> rfl]; done), by repeat (first | exact Drawn0.refl _ | apply Drawn0.step)⟩
 ·rw [if_neg c4] at H
  have c4b0 : decide (a1 ≤ a0) = false := decide_eq_false c4
  clear c4
  obtain rfl := Option.some.inj H
  go_enter Try.func53, Try.ntmps53
  go_wp2
  go_ret
  exact ⟨by first | rfl | (simp; done) | (simp [*]; done) | (simp [show ∀ l_ : List UInt8, (l_ != []) = !l_.isEmpty from fun l_ => by cases l_ <;> rfl]; done), by repeat (first | exact Drawn0.refl _ | apply Drawn0.step)⟩

/-! ### size_Power: function 54 -/
def size_Power.f (a0 : Int) : Option (Int × Int) := if a0 < 0 then (some (0, 1)) else (if a0 > 62 then (some (0, 10)) else (if 0 ≤ a0 then (some (shl .i64 1 a0, 0)) else (none)))
set_option maxHeartbeats 8000000 in
set_option maxRecDepth 100000 in
theorem size_Power.calls (a0 : Int) (r1 : Int) (r2 : Int) (w : World) (h : size_Power.f a0 = some (r1, r2)) :
  Calls Try.prog 54 #[.int .i64 a0] w fun e w' => e = .returned (.tuple #[.int .i64 r1, .int .i64 r2]) ∧ Drawn0 w w' := by
 have H : (if a0 < 0 then (some (0, 1)) else (if a0 > 62 then (some (0, 10)) else (if 0 ≤ a0 then (some (shl .i64 1 a0, 0)) else (none)))) = some (r1, r2) := h
 clear h
 by_cases c2 : a0 < 0
 ·rw [if_pos c2] at H
  have c2b0 : decide (a0 < 0) = true := decide_eq_true c2
  clear c2
  simp only [Option.some.injEq, Prod.mk.injEq] at H
  obtain ⟨rfl, rfl⟩ := H
  go_enter Try.func54, Try.ntmps54
  go_wp2
  go_ret2
  exact ⟨by first | rfl | (simp; done) | (simp [*]; done) | (simp [show ∀ l_ : List UInt8, (l_ != []) = !l_.isEmpty from fun l_ => by cases l_ <;> rfl]; done), by repeat (first | exact Drawn0.refl _ | apply Drawn0.step)⟩
 ·rw [if_neg c2] at H
  have c2b0 : decide (a0 < 0) = false := decide_eq_false c2
  clear c2
  by_cases c3 : a0 > 62
  ·rw [if_pos c3] at H
   have c3b0 : decide (62 < a0) = true := decide_eq_true c3
   clear c3
   simp only [Option.some.injEq, Prod.mk.injEq] at H
   obtain ⟨rfl, rfl⟩ := H
   go_enter Try.func54, Try.ntmps54
   go_wp2
   go_ret2
   exact ⟨by first | rfl | (simp; done) | (simp [*]; done) | (simp [show ∀ l_ : List UInt8, (l_ != []) = !l_.isEmpty from fun l_ => by cases l_ <;> rfl]; done), by repeat (first | exact Drawn0.refl _ | apply Drawn0.step)⟩
  ·rw [if_neg c3] at H
   have c3b0 : decide (62 < a0) = false := decide_eq_false c3
   clear c3
   by_cases c4 : 0 ≤ a0
   ·rw [if_pos c4] at H
    have c4b0 := eq_true c4
    have c4b1 : decide (0 ≤ a0) = true := decide_eq_true c4
    clear c4
    obtain ⟨ji5, hji5⟩ : ∃ j_ : Int, (shl .i64 1 a0) = j_ := ⟨_, rfl⟩
    replace H : (some (ji5, 0)) = some (r1, r2) := by first | (rw [hji5] at H; exact H) | (simp only [hji5] at H ⊢; exact H)
    have hji5_ : (IntKind.i64.wrap (1 * 2 ^ min a0.toNat 64)) = ji5 := hji5
    have hji5z : a0 ≤ 64 → (IntKind.i64.wrap (1 * 2 ^ a0.toNat)) = ji5 := shl_small hji5
    have hji5u : (IntKind.i64.wrap (2 ^ min a0.toNat 64)) = ji5 := by have h_ := hji5_; rw [Int.one_mul] at h_; exact h_
    have hji5v : a0 ≤ 64 → (IntKind.i64.wrap (2 ^ a0.toNat)) = ji5 := fun hle_ => by have h_ := hji5z hle_; rw [Int.one_mul] at h_; exact h_
    have hji5y : (wrap64 (1 * 2 ^ min a0.toNat 64)) = ji5 := (i64_w _).symm.trans hji5_
    have hji5x : a0 ≤ 64 → (wrap64 (1 * 2 ^ a0.toNat)) = ji5 := fun h_ => (i64_w _).symm.trans (hji5z h_)
    simp only [Option.some.injEq, Prod.mk.injEq] at H
    obtain ⟨rfl, rfl⟩ := H
    go_enter Try.func54, Try.ntmps54
    go_wp2
    go_ret2
    exact ⟨by first | rfl | (simp; done) | (simp only [← hji5] <;> (first | rfl | simp)) | (simp [*]; done), by repeat (first | exact Drawn0.refl _ | apply Drawn0.step)⟩
   ·rw [if_neg c4] at H
    exact absurd H (by simp)

/-! ### eks_Rounds: function 32 -/
def eks_Rounds.f (a0 : Int) : Option (Int × Int) := (size_Within.f a0 4 31).bind fun t122 => (if t122 = true then ((size_Power.f a0).bind fun bt123 => (some (bt123.1, bt123.2))) else (some (0, 2)))
set_option maxHeartbeats 8000000 in
set_option maxRecDepth 100000 in
theorem eks_Rounds.calls (a0 : Int) (r1 : Int) (r2 : Int) (w : World) (h : eks_Rounds.f a0 = some (r1, r2)) :
  Calls Try.prog 32 #[.int .i64 a0] w fun e w' => e = .returned (.tuple #[.int .i64 r1, .int .i64 r2]) ∧ Drawn0 w w' := by
 have H : ((size_Within.f a0 4 31).bind fun t122 => (if t122 = true then ((size_Power.f a0).bind fun bt123 => (some (bt123.1, bt123.2))) else (some (0, 2)))) = some (r1, r2) := h
 clear h
 replace H := Option.bind_eq_some_iff.mp H
 obtain ⟨t122, A20, H⟩ := H
 replace H : (if t122 = true then ((size_Power.f a0).bind fun bt123 => (some (bt123.1, bt123.2))) else (some (0, 2))) = some (r1, r2) := H
 have A2 := Aside0.mk A20
 clear A20
 by_cases c3 : t122 = true
 ·subst c3
  have H1 : ((size_Power.f a0).bind fun bt123 => (some (bt123.1, bt123.2))) = some (r1, r2) := by rw [if_pos rfl] at H; exact H
  clear H
  have H := H1
  clear H1
  replace H := Option.bind_eq_some_iff.mp H
  obtain ⟨⟨t123, t124⟩, A40, H⟩ := H
  replace H : (some (t123, t124)) = some (r1, r2) := H
  have A4 := Aside0.mk A40
  clear A40
  simp only [Option.some.injEq, Prod.mk.injEq] at H
  obtain ⟨rfl, rfl⟩ := H
  go_enter Try.func32, Try.ntmps32
  go_wp2_with (first | ((with_reducible refine gate_callee (f := 53) rfl ?_); refine goesL_ (some 5) rfl rfl Try.func53 (by kernel_rfl) rfl #[.int .i64 a0, .int .i64 4, .int .i64 31] rfl (by (try simp only [List.map_toArray, List.map_cons, List.map_nil]); first | done | rfl | (simp only [List.length_drop, List.length_take]; rfl)) ?_; (with_reducible refine (size_Within.calls a0 4 31 true _ A2.out).mono ?_); rintro e w' ⟨rfl, ⟨nd, rfl⟩⟩; refine ⟨_, rfl, ?_⟩) | ((with_reducible refine gate_callee (f := 54) rfl ?_); refine goesL_ (some 8) rfl rfl Try.func54 (by kernel_rfl) rfl #[.int .i64 a0] rfl (by (try simp only [List.map_toArray, List.map_cons, List.map_nil]); first | done | rfl | (simp only [List.length_drop, List.length_take]; rfl)) ?_; (with_reducible refine (size_Power.calls a0 t123 t124 _ A4.out).mono ?_); rintro e w' ⟨rfl, ⟨nd, rfl⟩⟩; refine ⟨_, rfl, ?_⟩))
  go_ret2
  exact ⟨by first | rfl | (simp; done) | (simp [*]; done) | (simp [show ∀ l_ : List UInt8, (l_ != []) = !l_.isEmpty from fun l_ => by cases l_ <;> rfl]; done), by repeat (first | exact Drawn0.refl _ | apply Drawn0.step)⟩
 ·replace c3 := Bool.eq_false_iff.mpr c3
  subst c3
  have H1 : (some (0, 2)) = some (r1, r2) := by rw [if_neg (show ¬ (false = true) by decide)] at H; exact H
  clear H
  have H := H1
  clear H1
  simp only [Option.some.injEq, Prod.mk.injEq] at H
  obtain ⟨rfl, rfl⟩ := H
  go_enter Try.func32, Try.ntmps32
  go_wp2_with (first | ((with_reducible refine gate_callee (f := 53) rfl ?_); refine goesL_ (some 5) rfl rfl Try.func53 (by kernel_rfl) rfl #[.int .i64 a0, .int .i64 4, .int .i64 31] rfl (by (try simp only [List.map_toArray, List.map_cons, List.map_nil]); first | done | rfl | (simp only [List.length_drop, List.length_take]; rfl)) ?_; (with_reducible refine (size_Within.calls a0 4 31 false _ A2.out).mono ?_); rintro e w' ⟨rfl, ⟨nd, rfl⟩⟩; refine ⟨_, rfl, ?_⟩))
  go_ret2
  exact ⟨by first | rfl | (simp; done) | (simp [*]; done) | (simp [show ∀ l_ : List UInt8, (l_ != []) = !l_.isEmpty from fun l_ => by cases l_ <;> rfl]; done), by repeat (first | exact Drawn0.refl _ | apply Drawn0.step)⟩

/-! ### cipher_Plain: function 17 -/
theorem ci_copy {ops : Array Oper} {rest : List Oper} {o : Oper} {a : Act} {Q : Exit → Act → World → Prop} {w : World} {gb m n : Nat} {t : List Nat} (hgd : o.guard = none) (d s : Operand)
    (ho : o.op = .call { callee := .builtin .copy, args := #[d, s], argTypes := #[29, 29] }) (dC sl sc : Nat) (sad : Addr) (hd : a.eval d = .slice (some ⟨gb, m, none⟩) n dC) (hs : a.eval s = .slice (some sad) sl sc) (hsl : n ≤ sl)
    (HC : Ci 70 w gb (ciMix t m)) (HT : t.length = 1042) (hmn : m + n ≤ 1042) (hsrc : ∀ j v, (ciV t m n)[j]? = some v → w.cell? (sad.add j) = some v)
    (h : ∀ w', Ci 70 w' gb (ciMix t (m + n)) → But gb w w' → wpList Try.prog ops Q rest (a.put o.dst (goInt n)) w') : wpList Try.prog ops Q (o :: rest) a w := by
  have hl := ciV_len HT hmn
  refine wpList_copy_own hgd d s 29 29 ho 23 Try.underlying29 (by kernel_rfl) gb m n dC sad sl sc hd hs (ciA (ciMix t m)) 70 HC (ciV t m n) (by rw [hl]; exact (Nat.min_eq_right hsl).symm) hsrc (by rw [hl, ciA_size, ciMix_len HT (by omega)]; exact hmn) (ciV_one t m n) ?_
  rw [hl, ciMix_put HT hmn]
  refine h _ (setRow_heap _ _ _ _ _ _ HC) ⟨rfl, rfl, rfl, by simp [World.setRow], fun k _ hk => setRow_other _ _ _ _ hk⟩
set_option maxHeartbeats 8000000 in
set_option maxRecDepth 100000 in
theorem cipher_Plain.calls (k : Nat) (t : List Nat) (ht : t.length = 1042) (h : pi_Words.f k 0 1042 = some (ciI t, 0)) (w : World) :
    Calls Try.prog 17 #[] w fun e w' => ∃ g, w.heap.size ≤ g ∧ e = .returned (.pointer (some ⟨g, 0, none⟩)) ∧ Ci 70 w' g t ∧ Below w.heap.size w w' := by
  have H := Aside0.mk h
  have HT := Aside0.mk ht
  clear h ht
  go_enter Try.func17, Try.ntmps17
  obtain ⟨Z, hZ⟩ : ∃ Z, ciA (List.replicate 1042 0) = Z := ⟨_, rfl⟩
  have hz : ∀ W : World, (zeroValue 70).run Try.prog W = .ok (.agg Z) W := fun W => by rw [← hZ]; kernel_rfl
  have hz2 : ¬ Z = #[] := fun q => by
    have := congrArg Array.size q
    rw [← hZ, ciA_size, List.length_replicate] at this
    exact absurd this (by decide)
  replace hZ := Aside0.mk hZ
  go_wp2_with (first | ((with_reducible refine gate_dst (N := 6) rfl ?_); refine box_event ?hg (N := 6) ?hd (cs := Z) (t := 70) ?hr ?_; (case hd => rfl); (case hg => rfl); (case hr => rfl); intro gb hg w1 hbox hb; have HB := Aside0.mk (show Below w.heap.size w w1 from hb); have BK := Aside0.mk hbox; have GE := Aside0.mk (show w.heap.size ≤ gb by rw [hg]; exact Nat.le_refl _); clear hb hbox hg hz hz2) | (go_at_call 15; refine (pi_Words.calls k 0 1042 (ciI t) 0 _ H.out).mono ?_; rintro e wn ⟨v0_, rfl, hR, hb⟩; have n0_ := Aside0.mk (below_step HB.out hb); have n1_ := Aside0.mk ((hb.block gb (blk_lt BK.out)).trans BK.out); have HR := Aside0.mk hR; clear hb HB BK hR; have HB := n0_; have BK := n1_; clear n0_ n1_))
  have n0_ := Aside0.mk (Kd.R_types HR.out BK.out (t := 70) (fun q hq => by have hq' : q ∈ [23] := hq; rw [List.mem_singleton] at hq'; rw [hq']; decide))
  clear HR
  obtain ⟨ad, c, rfl⟩ := Kd.R_slice1 n0_.out (by rw [ciI_len, HT.out]; omega)
  have HR := n0_
  clear n0_
  rw [ciI_len, HT.out] at HR ⊢
  have hcap : 1042 ≤ c := (Kd.R_reads' HR.out).2.1
  have hcapI : (1042 : Int) ≤ (c : Int) := by omega
  have hc18 : (18 : Int) ≤ (c : Int) := by omega
  have hc18n : 18 ≤ c := by omega
  replace BK := Aside0.mk (show Ci 70 wn gb (ciMix t 0) by rw [ciMix_start]; unfold Ci; rw [hZ.out]; exact BK.out)
  clear hZ
  go_still_tail 6, (by kernel_rfl)
  change wpList _ _ _ _ _ wn.drew
  have n0_ := Aside0.mk (show Ci 70 wn.drew gb (ciMix t 0) from BK.out)
  have n1_ := Aside0.mk (HB.out.drew)
  have n2_ := Aside0.mk (Kd.R_step HR.out (w1 := wn.drew) (fun _ _ _ => rfl))
  clear BK HB HR
  generalize wn.drew = w2 at n0_ n1_ n2_
  have BK := n0_
  have HB := n1_
  have HR := n2_
  clear n0_ n1_ n2_
  refine ci_copy rfl (.tmp 14) (.tmp 16) rfl 18 18 c ad rfl rfl (Nat.le_refl _) BK.out HT.out (by omega) (fun j v hv => by have q := ci_src (Kd.R_reads' HR.out).2.2 (ciI_len t |>.trans HT.out) HT.out 0 18 j v hv; rwa [ci_add0] at q) ?_
  intro w3 hc3 hk3
  have n0_ := Aside0.mk hc3
  have n1_ := Aside0.mk (But.below HB.out hk3 GE.out (by have := HB.out.size; exact this))
  have n2_ := Aside0.mk (Kd.R_step HR.out (w1 := w3) (fun k hk hl => hk3.block k hl hk.2))
  clear BK HB HR hc3 hk3
  have BK := n0_
  have HB := n1_
  have HR := n2_
  clear n0_ n1_ n2_
  go_wp2
  go_loopw [18] (fun v18 wz => ∃ n : Nat, n ≤ 4 ∧ v18 = .int .i64 (n : Int) ∧ Aside0 (Ci 70 wz gb (ciMix t (18 + n * 256))) ∧ Aside0 (Below w.heap.size w wz) ∧ Aside0 (Kd.R (Kd.int .u32) 23 wz w1.heap.size (fun k => True ∧ k ≠ gb) (.slice (some ad) 1042 c) (ciI t))) (fun v18 _ => 4 - (intOf v18).toNat)
  case atStart => exact ⟨0, by omega, rfl, BK, HB, HR⟩
  case round =>
    clear BK HB HR
    obtain ⟨n, hn, rfl, BK, HB, HR⟩ := hrel
    by_cases hlt : n < 4
    · have p1 : (n : Int) < 4 := by omega
      have w1_ : IntKind.i64.wrap (256 * (n : Int)) = 256 * (n : Int) := by rw [IntKind.wrap_i64]; omega
      have w2_ : IntKind.i64.wrap (18 + 256 * (n : Int)) = 18 + 256 * (n : Int) := by rw [IntKind.wrap_i64]; omega
      have p2 : (18 + 256 * (n : Int)) ≤ (c : Int) := by omega
      have p3 : (18 + 256 * (n : Int)) ≤ 1042 := by omega
      have p4 : 0 ≤ (18 + 256 * (n : Int)) := by omega
      go_wp2
      go_still_tail 11, (by kernel_rfl)
      change wpList _ _ _ _ _ wr.drew
      have n0_ := Aside0.mk (show Ci 70 wr.drew gb (ciMix t (18 + n * 256)) from BK.out)
      have n1_ := Aside0.mk (HB.out.drew)
      have n2_ := Aside0.mk (Kd.R_step HR.out (w1 := wr.drew) (fun _ _ _ => rfl))
      clear BK HB HR
      generalize wr.drew = w4 at n0_ n1_ n2_
      have BK := n0_
      have HB := n1_
      have HR := n2_
      clear n0_ n1_ n2_
      refine ci_copy (m := 18 + n * 256) (n := 256) rfl (.tmp 26) (.tmp 31) rfl 256 (1042 - (18 + 256 * (n : Int)).toNat) (c - (18 + 256 * (n : Int)).toNat) (ad.add (18 + 256 * (n : Int)).toNat) rfl ?_ (by omega) BK.out HT.out (by omega) (fun j v hv => ?_) ?_
      · show Value.slice (if c = (18 + 256 * (n : Int)).toNat then some ad else some (ad.add (18 + 256 * (n : Int)).toNat)) _ _ = _
        rw [if_neg (by omega)]
      · rw [show (18 + 256 * (n : Int)).toNat = 18 + n * 256 by omega]
        exact ci_src (Kd.R_reads' HR.out).2.2 (ciI_len t |>.trans HT.out) HT.out (18 + n * 256) 256 j v hv
      intro w5 hc5 hk5
      have n0_ := Aside0.mk hc5
      have n1_ := Aside0.mk (But.below HB.out hk5 GE.out (by have := HB.out.size; exact this))
      have n2_ := Aside0.mk (Kd.R_step HR.out (w1 := w5) (fun k hk hl => hk5.block k hl hk.2))
      clear BK HB HR hc5 hk5
      have BK := n0_
      have HB := n1_
      have HR := n2_
      clear n0_ n1_ n2_
      go_wp2
      refine ⟨⟨n + 1, by omega, by go_num, ⟨?_⟩, HB, HR⟩, by simp [intOf]; omega⟩
      rw [show 18 + (n + 1) * 256 = 18 + n * 256 + 256 by omega]
      exact BK.out
    · obtain rfl : n = 4 := by omega
      have n0_ := Aside0.mk (show Ci 70 wr gb t by have q := BK.out; rwa [show 18 + 4 * 256 = 1042 from rfl, ciMix_end HT.out] at q)
      clear BK
      go_wp2
      go_ret
      exact ⟨gb, GE.out, rfl, n0_.out, HB.out⟩

end Go.Proofs.Ytimgndceiibaeaa.Pall
