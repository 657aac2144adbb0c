-- PRINTED by print.py (a twelfth state) out of the translation. Not trusted: Lean checks it.
import Derived.Test.YtimgndceiibaeaaPallx0
namespace Go.Proofs.Ytimgndceiibaeaa.Pall
open Go.RowKit Go.Proofs.YtimgndceiibaeaaW.PrintWords Go.Proofs.YtimgndceiibaeaaW.PrintLast Go.Proofs.YtimgndceiibaeaaW.PrintMore
attribute [local go_sem] max2_int min2_int max_two min_two max_three min_three max_four min_four   -- for this text's walks alone
set_option linter.unusedVariables false
set_option linter.unusedSimpArgs false

/-! ### pestleref10_f: function 50 -/
def pestleref10_f.f (l0 : List Int) (a1 : Int) : Option (Int) := if 0 ≤ (18 + ((Int.tdiv a1 16777216) % 4294967296)) then (if (18 + ((Int.tdiv a1 16777216) % 4294967296)) < (l0.length : Int) then (if 0 ≤ (274 + (((Int.tdiv a1 65536) % 4294967296) % 256)) then (if (274 + (((Int.tdiv a1 65536) % 4294967296) % 256)) < (l0.length : Int) then (if 0 ≤ (530 + (((Int.tdiv a1 256) % 4294967296) % 256)) then (if (530 + (((Int.tdiv a1 256) % 4294967296) % 256)) < (l0.length : Int) then (if 0 ≤ (wrap64 (786 + (wrap64 (Int.tmod a1 256)))) then (if (wrap64 (786 + (wrap64 (Int.tmod a1 256)))) < (l0.length : Int) then (some (((Go.bits .xor .u32 (((rd l0 (18 + ((Int.tdiv a1 16777216) % 4294967296))) + (rd l0 (274 + (((Int.tdiv a1 65536) % 4294967296) % 256)))) % 4294967296) (rd l0 (530 + (((Int.tdiv a1 256) % 4294967296) % 256)))) + (rd l0 (wrap64 (786 + (wrap64 (Int.tmod a1 256)))))) % 4294967296)) else (none)) else (none)) else (none)) else (none)) else (none)) else (none)) else (none)) else (none)
set_option maxHeartbeats 8000000 in
set_option maxRecDepth 100000 in
theorem pestleref10_f.calls (A0 : Option Addr) (c0 : Nat) (l0 : List Int) (a1 : Int) (r : Int) (w : World) (hr0 : Kd.C (Kd.int .u32) w A0 l0.length l0) (hc0 : l0.length ≤ c0) (h : pestleref10_f.f l0 a1 = some r) :
  Calls Try.prog 50 #[.slice A0 l0.length c0, .int .u32 a1] w fun e w' => e = .returned (.int .u32 r) ∧ Drawn0 w w' := by
 have HR0 := Aside0.mk hr0
 have HC0 := Aside0.mk hc0
 clear hr0 hc0
 have H : (if 0 ≤ (18 + ((Int.tdiv a1 16777216) % 4294967296)) then (if (18 + ((Int.tdiv a1 16777216) % 4294967296)) < (l0.length : Int) then (if 0 ≤ (274 + (((Int.tdiv a1 65536) % 4294967296) % 256)) then (if (274 + (((Int.tdiv a1 65536) % 4294967296) % 256)) < (l0.length : Int) then (if 0 ≤ (530 + (((Int.tdiv a1 256) % 4294967296) % 256)) then (if (530 + (((Int.tdiv a1 256) % 4294967296) % 256)) < (l0.length : Int) then (if 0 ≤ (wrap64 (786 + (wrap64 (Int.tmod a1 256)))) then (if (wrap64 (786 + (wrap64 (Int.tmod a1 256)))) < (l0.length : Int) then (some (((Go.bits .xor .u32 (((rd l0 (18 + ((Int.tdiv a1 16777216) % 4294967296))) + (rd l0 (274 + (((Int.tdiv a1 65536) % 4294967296) % 256)))) % 4294967296) (rd l0 (530 + (((Int.tdiv a1 256) % 4294967296) % 256)))) + (rd l0 (wrap64 (786 + (wrap64 (Int.tmod a1 256)))))) % 4294967296)) else (none)) else (none)) else (none)) else (none)) else (none)) else (none)) else (none)) else (none)) = some r := h
 clear h
 obtain ⟨ji3, hji3⟩ : ∃ j_ : Int, (18 + ((Int.tdiv a1 16777216) % 4294967296)) = j_ := ⟨_, rfl⟩
 replace H : (if 0 ≤ (ji3) then (if (ji3) < (l0.length : Int) then (if 0 ≤ (274 + (((Int.tdiv a1 65536) % 4294967296) % 256)) then (if (274 + (((Int.tdiv a1 65536) % 4294967296) % 256)) < (l0.length : Int) then (if 0 ≤ (530 + (((Int.tdiv a1 256) % 4294967296) % 256)) then (if (530 + (((Int.tdiv a1 256) % 4294967296) % 256)) < (l0.length : Int) then (if 0 ≤ (wrap64 (786 + (wrap64 (Int.tmod a1 256)))) then (if (wrap64 (786 + (wrap64 (Int.tmod a1 256)))) < (l0.length : Int) then (some (((Go.bits .xor .u32 (((rd l0 (ji3)) + (rd l0 (274 + (((Int.tdiv a1 65536) % 4294967296) % 256)))) % 4294967296) (rd l0 (530 + (((Int.tdiv a1 256) % 4294967296) % 256)))) + (rd l0 (wrap64 (786 + (wrap64 (Int.tmod a1 256)))))) % 4294967296)) else (none)) else (none)) else (none)) else (none)) else (none)) else (none)) else (none)) else (none)) = some r := by first | (rw [hji3] at H; exact H) | (simp only [hji3] at H ⊢; exact H)
 by_cases c4 : 0 ≤ (ji3)
 ·rw [if_pos c4] at H
  have c4b0 : decide (0 ≤ (ji3)) = true := decide_eq_true c4
  clear c4
  by_cases c5 : (ji3) < (l0.length : Int)
  ·rw [if_pos c5] at H
   have c5b0 : decide ((ji3) < (l0.length : Int)) = true := decide_eq_true c5
   clear c5
   obtain ⟨ji6, hji6⟩ : ∃ j_ : Int, (274 + (((Int.tdiv a1 65536) % 4294967296) % 256)) = j_ := ⟨_, rfl⟩
   replace H : (if 0 ≤ (ji6) then (if (ji6) < (l0.length : Int) then (if 0 ≤ (530 + (((Int.tdiv a1 256) % 4294967296) % 256)) then (if (530 + (((Int.tdiv a1 256) % 4294967296) % 256)) < (l0.length : Int) then (if 0 ≤ (wrap64 (786 + (wrap64 (Int.tmod a1 256)))) then (if (wrap64 (786 + (wrap64 (Int.tmod a1 256)))) < (l0.length : Int) then (some (((Go.bits .xor .u32 (((rd l0 (ji3)) + (rd l0 (ji6))) % 4294967296) (rd l0 (530 + (((Int.tdiv a1 256) % 4294967296) % 256)))) + (rd l0 (wrap64 (786 + (wrap64 (Int.tmod a1 256)))))) % 4294967296)) else (none)) else (none)) else (none)) else (none)) else (none)) else (none)) = some r := by first | (rw [hji6] at H; exact H) | (simp only [hji6] at H ⊢; exact H)
   by_cases c7 : 0 ≤ (ji6)
   ·rw [if_pos c7] at H
    have c7b0 : decide (0 ≤ (ji6)) = true := decide_eq_true c7
    clear c7
    by_cases c8 : (ji6) < (l0.length : Int)
    ·rw [if_pos c8] at H
     have c8b0 : decide ((ji6) < (l0.length : Int)) = true := decide_eq_true c8
     clear c8
     obtain ⟨ji9, hji9⟩ : ∃ j_ : Int, (530 + (((Int.tdiv a1 256) % 4294967296) % 256)) = j_ := ⟨_, rfl⟩
     replace H : (if 0 ≤ (ji9) then (if (ji9) < (l0.length : Int) then (if 0 ≤ (wrap64 (786 + (wrap64 (Int.tmod a1 256)))) then (if (wrap64 (786 + (wrap64 (Int.tmod a1 256)))) < (l0.length : Int) then (some (((Go.bits .xor .u32 (((rd l0 (ji3)) + (rd l0 (ji6))) % 4294967296) (rd l0 (ji9))) + (rd l0 (wrap64 (786 + (wrap64 (Int.tmod a1 256)))))) % 4294967296)) else (none)) else (none)) else (none)) else (none)) = some r := by first | (rw [hji9] at H; exact H) | (simp only [hji9] at H ⊢; exact H)
     by_cases c10 : 0 ≤ (ji9)
     ·rw [if_pos c10] at H
      have c10b0 : decide (0 ≤ (ji9)) = true := decide_eq_true c10
      clear c10
      by_cases c11 : (ji9) < (l0.length : Int)
      ·rw [if_pos c11] at H
       have c11b0 : decide ((ji9) < (l0.length : Int)) = true := decide_eq_true c11
       clear c11
       obtain ⟨ji12, hji12⟩ : ∃ j_ : Int, (wrap64 (786 + (wrap64 (Int.tmod a1 256)))) = j_ := ⟨_, rfl⟩
       replace H : (if 0 ≤ (ji12) then (if (ji12) < (l0.length : Int) then (some (((Go.bits .xor .u32 (((rd l0 (ji3)) + (rd l0 (ji6))) % 4294967296) (rd l0 (ji9))) + (rd l0 (ji12))) % 4294967296)) else (none)) else (none)) = some r := by first | (rw [hji12] at H; exact H) | (simp only [hji12] at H ⊢; exact H)
       have hji12w : (IntKind.i64.wrap (786 + (wrap64 (Int.tmod a1 256)))) = ji12 := (i64_w _).trans hji12
       by_cases c13 : 0 ≤ (ji12)
       ·rw [if_pos c13] at H
        have c13b0 : decide (0 ≤ (ji12)) = true := decide_eq_true c13
        clear c13
        by_cases c14 : (ji12) < (l0.length : Int)
        ·rw [if_pos c14] at H
         have c14b0 : decide ((ji12) < (l0.length : Int)) = true := decide_eq_true c14
         clear c14
         obtain rfl := Option.some.inj H
         have p112 : 0 ≤ ((ji3) : Int) := of_decide_eq_true (by first | (with_reducible assumption) | assumption)
         have q112 : (ji3) < (l0.length : Int) := of_decide_eq_true (by first | (with_reducible assumption) | assumption)
         obtain ⟨ad112, e112, hx112_0⟩ := Kd.at_int HR0.out (ji3) p112 q112
         cases e112
         replace p112 := eq_true p112
         replace q112 := eq_true q112
         have p113 : 0 ≤ ((ji6) : Int) := of_decide_eq_true (by first | (with_reducible assumption) | assumption)
         have q113 : (ji6) < (l0.length : Int) := of_decide_eq_true (by first | (with_reducible assumption) | assumption)
         obtain ⟨ad113, e113, hx113_0⟩ := Kd.at_int HR0.out (ji6) p113 q113
         obtain rfl : ad112 = ad113 := (by injection e113)
         replace p113 := eq_true p113
         replace q113 := eq_true q113
         have p114 : 0 ≤ ((ji9) : Int) := of_decide_eq_true (by first | (with_reducible assumption) | assumption)
         have q114 : (ji9) < (l0.length : Int) := of_decide_eq_true (by first | (with_reducible assumption) | assumption)
         obtain ⟨ad114, e114, hx114_0⟩ := Kd.at_int HR0.out (ji9) p114 q114
         obtain rfl : ad112 = ad114 := (by injection e114)
         replace p114 := eq_true p114
         replace q114 := eq_true q114
         have p115 : 0 ≤ ((ji12) : Int) := of_decide_eq_true (by first | (with_reducible assumption) | assumption)
         have q115 : (ji12) < (l0.length : Int) := of_decide_eq_true (by first | (with_reducible assumption) | assumption)
         obtain ⟨ad115, e115, hx115_0⟩ := Kd.at_int HR0.out (ji12) p115 q115
         obtain rfl : ad112 = ad115 := (by injection e115)
         replace p115 := eq_true p115
         replace q115 := eq_true q115
         have hs_ji3 : 18 + a1.tdiv 16777216 % 4294967296 = ji3 := by first | exact hji3 | (rw [← hji3]; omega)
         have hw_ji3 : IntKind.i64.wrap (18 + a1.tdiv 16777216 % 4294967296) = ji3 := by rw [hs_ji3, IntKind.wrap_i64]; omega
         have hs_ji6 : 274 + a1.tdiv 65536 % 256 = ji6 := by first | exact hji6 | (rw [← hji6]; omega)
         have hw_ji6 : IntKind.i64.wrap (274 + a1.tdiv 65536 % 256) = ji6 := by rw [hs_ji6, IntKind.wrap_i64]; omega
         have hs_ji9 : 530 + a1.tdiv 256 % 256 = ji9 := by first | exact hji9 | (rw [← hji9]; omega)
         have hw_ji9 : IntKind.i64.wrap (530 + a1.tdiv 256 % 256) = ji9 := by rw [hs_ji9, IntKind.wrap_i64]; omega
         go_enter Try.func50, Try.ntmps50
         go_wp2
         repeat (go_quiet (fail); try go_wp2)
         go_ret
         exact ⟨by first | rfl | (simp; done) | (simp only [← hji3, ← hji6, ← hji9, ← hji12] <;> (first | rfl | simp)) | (simp [*]; done), by repeat (first | exact Drawn0.refl _ | apply Drawn0.step)⟩
        ·rw [if_neg c14] at H
         exact absurd H (by simp)
       ·rw [if_neg c13] at H
        exact absurd H (by simp)
      ·rw [if_neg c11] at H
       exact absurd H (by simp)
     ·rw [if_neg c10] at H
      exact absurd H (by simp)
    ·rw [if_neg c8] at H
     exact absurd H (by simp)
   ·rw [if_neg c7] at H
    exact absurd H (by simp)
  ·rw [if_neg c5] at H
   exact absurd H (by simp)
 ·rw [if_neg c4] at H
  exact absurd H (by simp)

/-! ### pestleref10_Encrypt: function 24 -/
def pestleref10_Encrypt.l0 : Nat → List Int → Int → Int → Int → Option (Int × Int)
 | 0, _, _, _, _ => none
 | k + 1, x0, x1, x2, x8 => if x8 < 16 then (if 0 ≤ x8 then (if x8 < (x0.length : Int) then ((pestleref10_f.f x0 (Go.bits .xor .u32 x1 (rd x0 x8))).bind fun t117 => (pestleref10_Encrypt.l0 k x0 (Go.bits .xor .u32 x2 t117) (Go.bits .xor .u32 x1 (rd x0 x8)) (wrap64 (x8 + 1)))) else (none)) else (none)) else (if 17 < (x0.length : Int) then (if 16 < (x0.length : Int) then (some (Go.bits .xor .u32 x2 (rd x0 17), Go.bits .xor .u32 x1 (rd x0 16))) else (none)) else (none))
def pestleref10_Encrypt.f (k : Nat) (l0 : List Int) (a1 : Int) (a2 : Int) : Option (Int × Int) := pestleref10_Encrypt.l0 k l0 a1 a2 0
theorem pestleref10_Encrypt.mono_l : ∀ k, (∀ y0 y1 y2 y3, LeO (pestleref10_Encrypt.l0 k y0 y1 y2 y3) (pestleref10_Encrypt.l0 (k + 1) y0 y1 y2 y3))
 | 0 => fun _ _ _ _ r h => by simp [pestleref10_Encrypt.l0] at h
 | k + 1 => by
  have ih0 := pestleref10_Encrypt.mono_l k
  ·intro y0 y1 y2 y3
   unfold pestleref10_Encrypt.l0
   repeat' first
   | (with_reducible exact ih0 _ _ _ _)
   | (with_reducible exact LeO.refl _)
   | (with_reducible exact LeO.none _)
   | (with_reducible refine LeO.ite ?_ ?_)
   | (with_reducible refine LeO.bind ?_ (fun _ => ?_))
   | exact ih0 _ _ _ _
   | exact LeO.none _
   | refine LeO.ite ?_ ?_
   | refine LeO.bind ?_ (fun _ => ?_)
theorem pestleref10_Encrypt.mono : ∀ a0 a1 a2 k, LeO (pestleref10_Encrypt.f k a0 a1 a2) (pestleref10_Encrypt.f (k + 1) a0 a1 a2) := by
 intro a0 a1 a2 k
 have ih0 := pestleref10_Encrypt.mono_l k
 unfold pestleref10_Encrypt.f
 repeat' first
   | (with_reducible exact ih0 _ _ _ _)
   | (with_reducible exact LeO.refl _)
   | (with_reducible exact LeO.none _)
   | (with_reducible refine LeO.ite ?_ ?_)
   | (with_reducible refine LeO.bind ?_ (fun _ => ?_))
   | exact ih0 _ _ _ _
   | exact LeO.none _
   | refine LeO.ite ?_ ?_
   | refine LeO.bind ?_ (fun _ => ?_)
set_option maxHeartbeats 8000000 in
set_option maxRecDepth 100000 in
theorem pestleref10_Encrypt.calls (k : Nat) (A0 : Option Addr) (c0 : Nat) (l0 : List Int) (a1 : Int) (a2 : Int) (r1 : Int) (r2 : Int) (w : World) (hr0 : Kd.C (Kd.int .u32) w A0 l0.length l0) (hc0 : l0.length ≤ c0) (h : pestleref10_Encrypt.f k l0 a1 a2 = some (r1, r2)) :
  Calls Try.prog 24 #[.slice A0 l0.length c0, .int .u32 a1, .int .u32 a2] w fun e w' => e = .returned (.tuple #[.int .u32 r1, .int .u32 r2]) ∧ Drawn0 w w' := by
 have HR0 := Aside0.mk hr0
 have HC0 := Aside0.mk hc0
 clear hr0 hc0
 have H : (pestleref10_Encrypt.l0 k l0 a1 a2 0) = some (r1, r2) := h
 clear h
 have H' := Aside0.mk H
 clear H
 go_enter Try.func24, Try.ntmps24
 go_wp2
 repeat (go_quiet (fail); try go_wp2)
 go_loopg [1, 2, 8] k (fun kq v1 v2 v8 w' => ∃ (x1_1 : Int) (x2_1 : Int) (x8_1 : Int), v1 = .int .u32 x1_1 ∧ v2 = .int .u32 x2_1 ∧ v8 = .int .i64 x8_1 ∧ Aside0 (pestleref10_Encrypt.l0 kq l0 x1_1 x2_1 x8_1 = some (r1, r2)) ∧ Aside0 (kq ≤ k) ∧ Drawn0 w w')
 case atStart => exact ⟨(a1), (a2), (0), (by first | rfl | (simp; done) | (simp [*]; done)), (by first | rfl | (simp; done) | (simp [*]; done)), (by first | rfl | (simp; done) | (simp [*]; done)), H', ⟨Nat.le_refl _⟩, by repeat (first | exact Drawn0.refl _ | apply Drawn0.step)⟩
 case round =>
  clear H'
  try clear c2
  try clear p2
  obtain ⟨x1_1, x2_1, x8_1, rfl, rfl, rfl, HA, HK1, ⟨m1, rfl⟩⟩ := hrel
  cases gk with
  | zero => exact absurd HA.out (by simp [pestleref10_Encrypt.l0])
  | succ k1 =>
   have H := HA.out
   clear HA
   simp only [pestleref10_Encrypt.l0] at H
   by_cases c4 : x8_1 < 16
   ·rw [if_pos c4] at H
    have c4b0 : decide (x8_1 < 16) = true := decide_eq_true c4
    clear c4
    by_cases c5 : 0 ≤ x8_1
    ·rw [if_pos c5] at H
     have c5b0 : decide (0 ≤ x8_1) = true := decide_eq_true c5
     clear c5
     by_cases c6 : x8_1 < (l0.length : Int)
     ·rw [if_pos c6] at H
      have c6b0 : decide (x8_1 < (l0.length : Int)) = true := decide_eq_true c6
      clear c6
      replace H := Option.bind_eq_some_iff.mp H
      obtain ⟨t117, A70, H⟩ := H
      replace H : (pestleref10_Encrypt.l0 k1 l0 (Go.bits .xor .u32 x2_1 t117) (Go.bits .xor .u32 x1_1 (rd l0 x8_1)) (wrap64 (x8_1 + 1))) = some (r1, r2) := H
      have A7 := Aside0.mk A70
      clear A70
      have H' := Aside0.mk H
      clear H
      have p116 : 0 ≤ (x8_1 : Int) := of_decide_eq_true (by first | (with_reducible assumption) | assumption)
      have q116 : x8_1 < (l0.length : Int) := of_decide_eq_true (by first | (with_reducible assumption) | assumption)
      obtain ⟨ad116, e116, hx116_0⟩ := Kd.at_int HR0.out x8_1 p116 q116
      cases e116
      replace p116 := eq_true p116
      replace q116 := eq_true q116
      go_wp2_with (first | (go_at_call 50; (with_reducible refine (pestleref10_f.calls _ _ l0 (Go.bits .xor .u32 x1_1 (rd l0 x8_1)) t117 _ ?side1 ?side2 A7.out).mono ?_); (case side1 => repeat (first | exact HR0.out | (with_reducible refine Kd.C_alloc ?_ _) | (with_reducible refine Kd.C_drewN ?_ _) | (with_reducible refine Kd.C_drew ?_))); (case side2 => exact HC0.out); rintro e w' ⟨rfl, ⟨nd, rfl⟩⟩; (try first | exact ⟨rfl, _, World.drewN_drewN _ _ _⟩ | exact ⟨rfl, _, Eq.trans (World.drewN_drewN _ _ _) (congrArg (World.drewN _) (Nat.add_assoc _ _ _))⟩)))
      repeat (go_quiet (first | (go_at_call 50; (with_reducible refine (pestleref10_f.calls _ _ l0 (Go.bits .xor .u32 x1_1 (rd l0 x8_1)) t117 _ ?side1 ?side2 A7.out).mono ?_); (case side1 => repeat (first | exact HR0.out | (with_reducible refine Kd.C_alloc ?_ _) | (with_reducible refine Kd.C_drewN ?_ _) | (with_reducible refine Kd.C_drew ?_))); (case side2 => exact HC0.out); rintro e w' ⟨rfl, ⟨nd, rfl⟩⟩; (try first | exact ⟨rfl, _, World.drewN_drewN _ _ _⟩ | exact ⟨rfl, _, Eq.trans (World.drewN_drewN _ _ _) (congrArg (World.drewN _) (Nat.add_assoc _ _ _))⟩))); try go_wp2_with (first | (go_at_call 50; (with_reducible refine (pestleref10_f.calls _ _ l0 (Go.bits .xor .u32 x1_1 (rd l0 x8_1)) t117 _ ?side1 ?side2 A7.out).mono ?_); (case side1 => repeat (first | exact HR0.out | (with_reducible refine Kd.C_alloc ?_ _) | (with_reducible refine Kd.C_drewN ?_ _) | (with_reducible refine Kd.C_drew ?_))); (case side2 => exact HC0.out); rintro e w' ⟨rfl, ⟨nd, rfl⟩⟩; (try first | exact ⟨rfl, _, World.drewN_drewN _ _ _⟩ | exact ⟨rfl, _, Eq.trans (World.drewN_drewN _ _ _) (congrArg (World.drewN _) (Nat.add_assoc _ _ _))⟩))))
      go_roundg k1
      case measure => have := HK1.out; omega
      case rel => exact ⟨(Go.bits .xor .u32 x2_1 t117), (Go.bits .xor .u32 x1_1 (rd l0 x8_1)), (wrap64 (x8_1 + 1)), (by first | rfl | (simp; done) | (simp [*]; done)), (by first | rfl | (simp; done) | (simp [*]; done)), (by first | rfl | (simp; done) | (simp [*]; done)), H', ⟨by have := HK1.out; omega⟩, by repeat (first | exact Drawn0.refl _ | apply Drawn0.step)⟩
     ·rw [if_neg c6] at H
      exact absurd H (by simp)
    ·rw [if_neg c5] at H
     exact absurd H (by simp)
   ·rw [if_neg c4] at H
    have c4b0 : decide (x8_1 < 16) = false := decide_eq_false c4
    clear c4
    by_cases c8 : 17 < (l0.length : Int)
    ·rw [if_pos c8] at H
     have c8b0 : decide (17 < (l0.length : Int)) = true := decide_eq_true c8
     have c8b1 : decide (17 < l0.length) = true := decide_eq_true (by omega)
     clear c8
     by_cases c9 : 16 < (l0.length : Int)
     ·rw [if_pos c9] at H
      have c9b0 : decide (16 < (l0.length : Int)) = true := decide_eq_true c9
      have c9b1 : decide (16 < l0.length) = true := decide_eq_true (by omega)
      clear c9
      simp only [Option.some.injEq, Prod.mk.injEq] at H
      obtain ⟨rfl, rfl⟩ := H
      have p118 : 0 ≤ (17 : Int) := (by omega)
      have q118 : 17 < (l0.length : Int) := of_decide_eq_true (by first | (with_reducible assumption) | assumption)
      obtain ⟨ad118, e118, hx118_0⟩ := Kd.at_int HR0.out 17 p118 q118
      cases e118
      (try simp only [show (17 : Int).toNat = 17 from rfl, Nat.reduceMul, Nat.reduceEqDiff, Go.Addr.add, ↓reduceIte] at hx118_0)
      have qi118 : (17 < l0.length) = True := eq_true (by omega)
      (try rw [show ((17 : Int)).toNat = 17 from rfl] at hx118_0)
      replace p118 := eq_true p118
      replace q118 := eq_true q118
      have p119 : 0 ≤ (16 : Int) := (by omega)
      have q119 : 16 < (l0.length : Int) := of_decide_eq_true (by first | (with_reducible assumption) | assumption)
      obtain ⟨ad119, e119, hx119_0⟩ := Kd.at_int HR0.out 16 p119 q119
      obtain rfl : ad118 = ad119 := (by injection e119)
      (try simp only [show (16 : Int).toNat = 16 from rfl, Nat.reduceMul, Nat.reduceEqDiff, Go.Addr.add, ↓reduceIte] at hx119_0)
      have qi119 : (16 < l0.length) = True := eq_true (by omega)
      (try rw [show ((16 : Int)).toNat = 16 from rfl] at hx119_0)
      replace p119 := eq_true p119
      replace q119 := eq_true q119
      go_wp2
      repeat (go_quiet (fail); try go_wp2)
      go_ret2
      exact ⟨by first | rfl | (simp; done) | (simp [*]; done) | (simp [show ∀ l_ : List UInt8, (l_ != []) = !l_.isEmpty from fun l_ => by cases l_ <;> rfl]; done), by repeat (first | exact Drawn0.refl _ | apply Drawn0.step)⟩
     ·rw [if_neg c9] at H
      exact absurd H (by simp)
    ·rw [if_neg c8] at H
     exact absurd H (by simp)

/-! ### pestleref10_word: function 48 -/
def pestleref10_word.l0 : Nat → ByteArray → Int → Int → Int → Option (Int)
 | 0, _, _, _, _ => none
 | k + 1, x0, x1, x5, x6 => if x6 < 4 then (if (x0.size : Int) > 0 then (if (x0.size : Int) = 0 then (none) else (if 0 ≤ (Int.tmod (wrap64 ((wrap64 (4 * x1)) + x6)) (x0.size : Int)) then (if (Int.tmod (wrap64 ((wrap64 (4 * x1)) + x6)) (x0.size : Int)) < (x0.size : Int) then (pestleref10_word.l0 k x0 x1 ((((x5 * 256) % 4294967296) + ((bt x0 (Int.tmod (wrap64 ((wrap64 (4 * x1)) + x6)) (x0.size : Int))) % 4294967296)) % 4294967296) (wrap64 (x6 + 1))) else (none)) else (none))) else (pestleref10_word.l0 k x0 x1 ((x5 * 256) % 4294967296) (wrap64 (x6 + 1)))) else (some x5)
def pestleref10_word.f (k : Nat) (a0 : ByteArray) (a1 : Int) : Option (Int) := pestleref10_word.l0 k a0 a1 0 0
theorem pestleref10_word.mono_l : ∀ k, (∀ y0 y1 y2 y3, LeO (pestleref10_word.l0 k y0 y1 y2 y3) (pestleref10_word.l0 (k + 1) y0 y1 y2 y3))
 | 0 => fun _ _ _ _ r h => by simp [pestleref10_word.l0] at h
 | k + 1 => by
  have ih0 := pestleref10_word.mono_l k
  ·intro y0 y1 y2 y3
   unfold pestleref10_word.l0
   repeat' first
   | (with_reducible exact ih0 _ _ _ _)
   | (with_reducible exact LeO.refl _)
   | (with_reducible exact LeO.none _)
   | (with_reducible refine LeO.ite ?_ ?_)
   | (with_reducible refine LeO.bind ?_ (fun _ => ?_))
   | exact ih0 _ _ _ _
   | exact LeO.none _
   | refine LeO.ite ?_ ?_
   | refine LeO.bind ?_ (fun _ => ?_)
theorem pestleref10_word.mono : ∀ a0 a1 k, LeO (pestleref10_word.f k a0 a1) (pestleref10_word.f (k + 1) a0 a1) := by
 intro a0 a1 k
 have ih0 := pestleref10_word.mono_l k
 unfold pestleref10_word.f
 repeat' first
   | (with_reducible exact ih0 _ _ _ _)
   | (with_reducible exact LeO.refl _)
   | (with_reducible exact LeO.none _)
   | (with_reducible refine LeO.ite ?_ ?_)
   | (with_reducible refine LeO.bind ?_ (fun _ => ?_))
   | exact ih0 _ _ _ _
   | exact LeO.none _
   | refine LeO.ite ?_ ?_
   | refine LeO.bind ?_ (fun _ => ?_)
set_option maxHeartbeats 8000000 in
set_option maxRecDepth 100000 in
theorem pestleref10_word.calls (k : Nat) (a0 : ByteArray) (a1 : Int) (r : Int) (w : World) (h : pestleref10_word.f k a0 a1 = some r) :
  Calls Try.prog 48 #[.string a0, .int .i64 a1] w fun e w' => e = .returned (.int .u32 r) ∧ Drawn0 w w' := by
 have H : (pestleref10_word.l0 k a0 a1 0 0) = some r := h
 clear h
 have H' := Aside0.mk H
 clear H
 go_enter Try.func48, Try.ntmps48
 go_wp2
 go_loopg [5, 6] k (fun kq v5 v6 w' => ∃ (x5_1 : Int) (x6_1 : Int), v5 = .int .u32 x5_1 ∧ v6 = .int .i64 x6_1 ∧ Aside0 (pestleref10_word.l0 kq a0 a1 x5_1 x6_1 = some r) ∧ Aside0 (kq ≤ k) ∧ Drawn0 w w')
 case atStart => exact ⟨(0), (0), (by first | rfl | (simp; done) | (simp [*]; done)), (by first | rfl | (simp; done) | (simp [*]; done)), H', ⟨Nat.le_refl _⟩, by repeat (first | exact Drawn0.refl _ | apply Drawn0.step)⟩
 case round =>
  clear H'
  try clear p2
  obtain ⟨x5_1, x6_1, rfl, rfl, HA, HK1, ⟨m1, rfl⟩⟩ := hrel
  cases gk with
  | zero => exact absurd HA.out (by simp [pestleref10_word.l0])
  | succ k1 =>
   have H := HA.out
   clear HA
   simp only [pestleref10_word.l0] at H
   by_cases c3 : x6_1 < 4
   ·rw [if_pos c3] at H
    have c3b0 : decide (x6_1 < 4) = true := decide_eq_true c3
    clear c3
    by_cases c4 : (a0.size : Int) > 0
    ·rw [if_pos c4] at H
     have c4b0 : decide (0 < (a0.size : Int)) = true := decide_eq_true c4
     have c4b1 : decide (0 < a0.size) = true := decide_eq_true (by omega)
     clear c4
     by_cases c5 : (a0.size : Int) = 0
     ·rw [if_pos c5] at H
      exact absurd H (by simp)
     ·rw [if_neg c5] at H
      have c5b0 : ((a0.size : Int) == 0) = false := beq_eq_false_iff_ne.mpr c5
      have c5b1 : ((a0.size : Int) != 0) = true := bne_iff_ne.mpr c5
      obtain ⟨ji6, hji6⟩ : ∃ j_ : Int, (Int.tmod (wrap64 ((wrap64 (4 * a1)) + x6_1)) (a0.size : Int)) = j_ := ⟨_, rfl⟩
      replace H : (if 0 ≤ (ji6) then (if (ji6) < (a0.size : Int) then (pestleref10_word.l0 k1 a0 a1 ((((x5_1 * 256) % 4294967296) + ((bt a0 (ji6)) % 4294967296)) % 4294967296) (wrap64 (x6_1 + 1))) else (none)) else (none)) = some r := by first | (rw [hji6] at H; exact H) | (simp only [hji6] at H ⊢; exact H)
      by_cases c7 : 0 ≤ (ji6)
      ·rw [if_pos c7] at H
       have c7b0 : decide (0 ≤ (ji6)) = true := decide_eq_true c7
       clear c7
       by_cases c8 : (ji6) < (a0.size : Int)
       ·rw [if_pos c8] at H
        have c8b0 : decide ((ji6) < (a0.size : Int)) = true := decide_eq_true c8
        clear c8
        have H' := Aside0.mk H
        clear H
        have p9 : 0 ≤ ((ji6) : Int) := of_decide_eq_true (by first | (with_reducible assumption) | assumption)
        have q9 : (ji6) < (a0.size : Int) := of_decide_eq_true (by first | (with_reducible assumption) | assumption)
        have hx9 := bt_at a0 (ji6)
        replace p9 := eq_true p9
        replace q9 := eq_true q9
        go_wp2
        go_roundg k1
        case measure => have := HK1.out; omega
        case rel => exact ⟨((((x5_1 * 256) % 4294967296) + ((bt a0 (ji6)) % 4294967296)) % 4294967296), (wrap64 (x6_1 + 1)), (by first | rfl | (simp; done) | (simp only [← hji6] <;> (first | rfl | simp)) | (simp [*]; done)), (by first | rfl | (simp; done) | (simp [*]; done)), H', ⟨by have := HK1.out; omega⟩, by repeat (first | exact Drawn0.refl _ | apply Drawn0.step)⟩
       ·rw [if_neg c8] at H
        exact absurd H (by simp)
      ·rw [if_neg c7] at H
       exact absurd H (by simp)
    ·rw [if_neg c4] at H
     have c4b0 : decide (0 < (a0.size : Int)) = false := decide_eq_false c4
     have c4b1 : decide (0 < a0.size) = false := decide_eq_false (by omega)
     clear c4
     have H' := Aside0.mk H
     clear H
     go_wp2
     go_roundg k1
     case measure => have := HK1.out; omega
     case rel => exact ⟨((x5_1 * 256) % 4294967296), (wrap64 (x6_1 + 1)), (by first | rfl | (simp; done) | (simp [*]; done)), (by first | rfl | (simp; done) | (simp [*]; done)), H', ⟨by have := HK1.out; omega⟩, by repeat (first | exact Drawn0.refl _ | apply Drawn0.step)⟩
   ·rw [if_neg c3] at H
    have c3b0 : decide (x6_1 < 4) = false := decide_eq_false c3
    clear c3
    obtain rfl := Option.some.inj H
    go_wp2
    go_ret
    exact ⟨by first | rfl | (simp; done) | (simp [*]; done) | (simp [show ∀ l_ : List UInt8, (l_ != []) = !l_.isEmpty from fun l_ => by cases l_ <;> rfl]; done), by repeat (first | exact Drawn0.refl _ | apply Drawn0.step)⟩

end Go.Proofs.Ytimgndceiibaeaa.Pall
