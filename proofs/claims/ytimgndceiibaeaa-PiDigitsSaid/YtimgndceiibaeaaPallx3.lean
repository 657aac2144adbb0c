-- PRINTED by print.py (a twelfth state) out of the translation. Not trusted: Lean checks it.
import Derived.Test.YtimgndceiibaeaaPallx0
import Derived.Test.YtimgndceiibaeaaPallx2
namespace Go.Proofs.Ytimgndceiibaeaa.Pall
open Go.RowKit Go.Proofs.YtimgndceiibaeaaW.PrintWords Go.Proofs.YtimgndceiibaeaaW.PrintLast Go.Proofs.YtimgndceiibaeaaW.PrintMore
attribute [local go_sem] max2_int min2_int max_two min_two max_three min_three max_four min_four   -- for this text's walks alone
set_option linter.unusedVariables false
set_option linter.unusedSimpArgs false

/-! ### pi_series: function 51 -/
mutual
def pi_series.l0 : Nat → Int → Int → Int → Int → Option (Int)
  | 0, _, _, _, _ => none
  | k + 1, x0, x1, x5, x6 => if x6 ≤ x0 then ((pi_power.f k (wrap64 (x0 - x6)) (IntKind.u64.wrap ((IntKind.u64.wrap (8 * (IntKind.u64.wrap (x6)))) + x1))).bind fun t111 => (if (IntKind.u64.wrap ((IntKind.u64.wrap (8 * (IntKind.u64.wrap (x6)))) + x1)) = 0 then (none) else ((bits_Div64.f k (Int.tmod t111 (IntKind.u64.wrap ((IntKind.u64.wrap (8 * (IntKind.u64.wrap (x6)))) + x1))) 0 (IntKind.u64.wrap ((IntKind.u64.wrap (8 * (IntKind.u64.wrap (x6)))) + x1))).bind fun bt112 => (pi_series.l0 k x0 x1 (IntKind.u64.wrap (x5 + bt112.1)) (wrap64 (x6 + 1)))))) else (pi_series.l1 k x1 x5 (wrap64 (x0 + 1)) 60)
def pi_series.l1 : Nat → Int → Int → Int → Int → Option (Int)
  | 0, _, _, _, _ => none
  | k + 1, x1, x5, x10, x11 => if x11 < 64 then (if 0 ≤ x11 then (if (IntKind.u64.wrap ((IntKind.u64.wrap (8 * (IntKind.u64.wrap (x10)))) + x1)) = 0 then (none) else (pi_series.l1 k x1 (IntKind.u64.wrap (x5 + (IntKind.u64.wrap ((shl .u64 1 x11) / (IntKind.u64.wrap ((IntKind.u64.wrap (8 * (IntKind.u64.wrap (x10)))) + x1)))))) (wrap64 (x10 + 1)) (IntKind.u64.wrap (x11 - 4)))) else (none)) else (some x5)
end
def pi_series.f (k : Nat) (a0 : Int) (a1 : Int) : Option (Int) := pi_series.l0 k a0 a1 0 0
theorem pi_series.mono_l : ∀ k, (∀ y0 y1 y2 y3, LeO (pi_series.l0 k y0 y1 y2 y3) (pi_series.l0 (k + 1) y0 y1 y2 y3)) ∧ (∀ y0 y1 y2 y3, LeO (pi_series.l1 k y0 y1 y2 y3) (pi_series.l1 (k + 1) y0 y1 y2 y3))
  | 0 => ⟨fun _ _ _ _ r h => by simp [pi_series.l0] at h, fun _ _ _ _ r h => by simp [pi_series.l1] at h⟩
  | k + 1 => by
    obtain ⟨ih0, ih1⟩ := pi_series.mono_l k
    refine ⟨?_, ?_⟩
    · intro y0 y1 y2 y3
      unfold pi_series.l0
      repeat' first
      | (with_reducible exact ih0 _ _ _ _)
      | (with_reducible exact ih1 _ _ _ _)
      | (with_reducible exact bits_Div64.mono _ _ _ _)
      | (with_reducible exact pi_power.mono _ _ _)
      | (with_reducible exact LeO.refl _)
      | (with_reducible exact LeO.none _)
      | (with_reducible refine LeO.ite ?_ ?_)
      | (with_reducible refine LeO.bind ?_ (fun _ => ?_))
      | exact ih0 _ _ _ _
      | exact ih1 _ _ _ _
      | exact bits_Div64.mono _ _ _ _
      | exact pi_power.mono _ _ _
      | exact LeO.none _
      | refine LeO.ite ?_ ?_
      | refine LeO.bind ?_ (fun _ => ?_)
    · intro y0 y1 y2 y3
      unfold pi_series.l1
      repeat' first
      | (with_reducible exact ih0 _ _ _ _)
      | (with_reducible exact ih1 _ _ _ _)
      | (with_reducible exact bits_Div64.mono _ _ _ _)
      | (with_reducible exact pi_power.mono _ _ _)
      | (with_reducible exact LeO.refl _)
      | (with_reducible exact LeO.none _)
      | (with_reducible refine LeO.ite ?_ ?_)
      | (with_reducible refine LeO.bind ?_ (fun _ => ?_))
      | exact ih0 _ _ _ _
      | exact ih1 _ _ _ _
      | exact bits_Div64.mono _ _ _ _
      | exact pi_power.mono _ _ _
      | exact LeO.none _
      | refine LeO.ite ?_ ?_
      | refine LeO.bind ?_ (fun _ => ?_)
theorem pi_series.mono : ∀ a0 a1 k, LeO (pi_series.f k a0 a1) (pi_series.f (k + 1) a0 a1) := by
  intro a0 a1 k
  obtain ⟨ih0, ih1⟩ := pi_series.mono_l k
  unfold pi_series.f
  repeat' first
      | (with_reducible exact ih0 _ _ _ _)
      | (with_reducible exact ih1 _ _ _ _)
      | (with_reducible exact bits_Div64.mono _ _ _ _)
      | (with_reducible exact pi_power.mono _ _ _)
      | (with_reducible exact LeO.refl _)
      | (with_reducible exact LeO.none _)
      | (with_reducible refine LeO.ite ?_ ?_)
      | (with_reducible refine LeO.bind ?_ (fun _ => ?_))
      | exact ih0 _ _ _ _
      | exact ih1 _ _ _ _
      | exact bits_Div64.mono _ _ _ _
      | exact pi_power.mono _ _ _
      | exact LeO.none _
      | refine LeO.ite ?_ ?_
      | refine LeO.bind ?_ (fun _ => ?_)
set_option maxHeartbeats 8000000 in
set_option maxRecDepth 100000 in
theorem pi_series.calls (k : Nat) (a0 : Int) (a1 : Int) (r : Int) (w : World) (h : pi_series.f k a0 a1 = some r) :
    Calls Try.prog 51 #[.int .i64 a0, .int .u64 a1] w fun e w' => e = .returned (.int .u64 r) ∧ Drawn0 w w' := by
  have H : (pi_series.l0 k a0 a1 0 0) = some r := h
  clear h
  have H' := Aside0.mk H
  clear H
  go_enter Try.func51, Try.ntmps51
  go_wp2
  go_loopg [5, 6] k (fun kq v5 v6 w' => ∃ (x5_1 : Int) (x6_1 : Int), v5 = .int .u64 x5_1 ∧ v6 = .int .i64 x6_1 ∧ Aside0 (pi_series.l0 kq a0 a1 x5_1 x6_1 = some r) ∧ Aside0 (kq ≤ k) ∧ Drawn0 w w')
  case atStart => exact ⟨(0), (0), (by first | rfl | (simp; done) | (simp [*]; done)), (by first | rfl | (simp; done) | (simp [*]; done)), H', ⟨Nat.le_refl _⟩, by repeat (first | exact Drawn0.refl _ | apply Drawn0.step)⟩
  case round =>
    clear H'
    try clear p2
    obtain ⟨x5_1, x6_1, rfl, rfl, HA, HK1, ⟨m1, rfl⟩⟩ := hrel
    cases gk with
    | zero => exact absurd HA.out (by simp [pi_series.l0])
    | succ k1 =>
      have H := HA.out
      clear HA
      simp only [pi_series.l0] at H
      by_cases c3 : x6_1 ≤ a0
      · rw [if_pos c3] at H
        have c3b0 : decide (x6_1 ≤ a0) = true := decide_eq_true c3
        clear c3
        replace H := Option.bind_eq_some_iff.mp H
        obtain ⟨t111, A40, H⟩ := H
        replace H : (if (IntKind.u64.wrap ((IntKind.u64.wrap (8 * (IntKind.u64.wrap (x6_1)))) + a1)) = 0 then (none) else ((bits_Div64.f k1 (Int.tmod t111 (IntKind.u64.wrap ((IntKind.u64.wrap (8 * (IntKind.u64.wrap (x6_1)))) + a1))) 0 (IntKind.u64.wrap ((IntKind.u64.wrap (8 * (IntKind.u64.wrap (x6_1)))) + a1))).bind fun bt112 => (pi_series.l0 k1 a0 a1 (IntKind.u64.wrap (x5_1 + bt112.1)) (wrap64 (x6_1 + 1))))) = some r := H
        have A4 := Aside0.mk A40
        clear A40
        by_cases c5 : (IntKind.u64.wrap ((IntKind.u64.wrap (8 * (IntKind.u64.wrap (x6_1)))) + a1)) = 0
        · rw [if_pos c5] at H
          exact absurd H (by simp)
        · rw [if_neg c5] at H
          have c5b0 : ((IntKind.u64.wrap ((IntKind.u64.wrap (8 * (IntKind.u64.wrap (x6_1)))) + a1)) == 0) = false := beq_eq_false_iff_ne.mpr c5
          have c5b1 : ((IntKind.u64.wrap ((IntKind.u64.wrap (8 * (IntKind.u64.wrap (x6_1)))) + a1)) != 0) = true := bne_iff_ne.mpr c5
          replace H := Option.bind_eq_some_iff.mp H
          obtain ⟨⟨t112, t113⟩, A60, H⟩ := H
          replace H : (pi_series.l0 k1 a0 a1 (IntKind.u64.wrap (x5_1 + t112)) (wrap64 (x6_1 + 1))) = some r := H
          have A6 := Aside0.mk A60
          clear A60
          have H' := Aside0.mk H
          clear H
          go_wp2_with (first | ((with_reducible refine gate_callee (f := 63) rfl ?_); refine goesL_ (some 27) rfl rfl Try.func63 (by kernel_rfl) rfl #[.int .i64 (wrap64 (a0 - x6_1)), .int .u64 (IntKind.u64.wrap ((IntKind.u64.wrap (8 * (IntKind.u64.wrap (x6_1)))) + a1))] rfl (by (try simp only [List.map_toArray, List.map_cons, List.map_nil]); first | done | rfl | (simp only [List.length_drop, List.length_take]; rfl)) ?_; (with_reducible refine (pi_power.calls k1 (wrap64 (a0 - x6_1)) (IntKind.u64.wrap ((IntKind.u64.wrap (8 * (IntKind.u64.wrap (x6_1)))) + a1)) t111 _ A4.out).mono ?_); rintro e w' ⟨rfl, ⟨nd, rfl⟩⟩; refine ⟨_, rfl, ?_⟩) | ((with_reducible refine gate_callee (f := 62) rfl ?_); refine goesL_ (some 31) rfl rfl Try.func62 (by kernel_rfl) rfl #[.int .u64 (Int.tmod t111 (IntKind.u64.wrap ((IntKind.u64.wrap (8 * (IntKind.u64.wrap (x6_1)))) + a1))), .int .u64 0, .int .u64 (IntKind.u64.wrap ((IntKind.u64.wrap (8 * (IntKind.u64.wrap (x6_1)))) + a1))] rfl (by (try simp only [List.map_toArray, List.map_cons, List.map_nil]); first | done | rfl | (simp only [List.length_drop, List.length_take]; rfl)) ?_; (with_reducible refine (bits_Div64.calls k1 (Int.tmod t111 (IntKind.u64.wrap ((IntKind.u64.wrap (8 * (IntKind.u64.wrap (x6_1)))) + a1))) 0 (IntKind.u64.wrap ((IntKind.u64.wrap (8 * (IntKind.u64.wrap (x6_1)))) + a1)) t112 t113 _ A6.out).mono ?_); rintro e w' ⟨rfl, ⟨nd, rfl⟩⟩; refine ⟨_, rfl, ?_⟩))
          go_roundg k1
          case measure => have := HK1.out; omega
          case rel => exact ⟨(IntKind.u64.wrap (x5_1 + t112)), (wrap64 (x6_1 + 1)), (by first | rfl | (simp; done) | (simp [*]; done)), (by first | rfl | (simp; done) | (simp [*]; done)), H', ⟨by have := HK1.out; omega⟩, by repeat (first | exact Drawn0.refl _ | apply Drawn0.step)⟩
      · rw [if_neg c3] at H
        have c3b0 : decide (x6_1 ≤ a0) = false := decide_eq_false c3
        clear c3
        have H' := Aside0.mk H
        clear H
        go_wp2
        go_loopg [5, 10, 11] k1 (fun kq v5 v10 v11 w' => ∃ (x5_2 : Int) (x10_2 : Int) (x11_2 : Int), v5 = .int .u64 x5_2 ∧ v10 = .int .i64 x10_2 ∧ v11 = .int .u64 x11_2 ∧ Aside0 (pi_series.l1 kq a1 x5_2 x10_2 x11_2 = some r) ∧ Aside0 (kq ≤ k1) ∧ Drawn0 w w')
        case atStart => exact ⟨(x5_1), (wrap64 (a0 + 1)), (60), (by first | rfl | (simp; done) | (simp [*]; done)), (by first | rfl | (simp; done) | (simp [*]; done)), (by first | rfl | (simp; done) | (simp [*]; done)), H', ⟨Nat.le_refl _⟩, by repeat (first | exact Drawn0.refl _ | apply Drawn0.step)⟩
        case round =>
          clear H'
          try clear p2
          try clear c3
          try clear c3b0
          try clear c5
          try clear c5b0
          try clear c5b1
          try clear c6
          try clear p6
          try clear p2
          obtain ⟨x5_2, x10_2, x11_2, rfl, rfl, rfl, HA, HK2, ⟨m2, rfl⟩⟩ := hrel
          cases gk with
          | zero => exact absurd HA.out (by simp [pi_series.l1])
          | succ k2 =>
            have H := HA.out
            clear HA
            simp only [pi_series.l1] at H
            by_cases c7 : x11_2 < 64
            · rw [if_pos c7] at H
              have c7b0 : decide (x11_2 < 64) = true := decide_eq_true c7
              clear c7
              by_cases c8 : 0 ≤ x11_2
              · rw [if_pos c8] at H
                have c8b0 := eq_true c8
                have c8b1 : decide (0 ≤ x11_2) = true := decide_eq_true c8
                clear c8
                obtain ⟨ji9, hji9⟩ : ∃ j_ : Int, (shl .u64 1 x11_2) = j_ := ⟨_, rfl⟩
                replace H : (if (IntKind.u64.wrap ((IntKind.u64.wrap (8 * (IntKind.u64.wrap (x10_2)))) + a1)) = 0 then (none) else (pi_series.l1 k2 a1 (IntKind.u64.wrap (x5_2 + (IntKind.u64.wrap ((ji9) / (IntKind.u64.wrap ((IntKind.u64.wrap (8 * (IntKind.u64.wrap (x10_2)))) + a1)))))) (wrap64 (x10_2 + 1)) (IntKind.u64.wrap (x11_2 - 4)))) = some r := by first | (rw [hji9] at H; exact H) | (simp only [hji9] at H ⊢; exact H)
                have hji9_ : (IntKind.u64.wrap (1 * 2 ^ min x11_2.toNat 64)) = ji9 := hji9
                have hjin9 : 0 ≤ ji9 := by
                  rw [← hji9_, IntKind.wrap_u64]; omega
                have hjit9 : ∀ y_ : Int, Int.tdiv ji9 y_ = ji9 / y_ := fun y_ => Int.tdiv_eq_ediv_of_nonneg hjin9
                have hji9z : x11_2 ≤ 64 → (IntKind.u64.wrap (1 * 2 ^ x11_2.toNat)) = ji9 := shl_small hji9
                have hji9u : (IntKind.u64.wrap (2 ^ min x11_2.toNat 64)) = ji9 := by have h_ := hji9_; rw [Int.one_mul] at h_; exact h_
                have hji9v : x11_2 ≤ 64 → (IntKind.u64.wrap (2 ^ x11_2.toNat)) = ji9 := fun hle_ => by have h_ := hji9z hle_; rw [Int.one_mul] at h_; exact h_
                by_cases c10 : (IntKind.u64.wrap ((IntKind.u64.wrap (8 * (IntKind.u64.wrap (x10_2)))) + a1)) = 0
                · rw [if_pos c10] at H
                  exact absurd H (by simp)
                · rw [if_neg c10] at H
                  have c10b0 : ((IntKind.u64.wrap ((IntKind.u64.wrap (8 * (IntKind.u64.wrap (x10_2)))) + a1)) == 0) = false := beq_eq_false_iff_ne.mpr c10
                  have c10b1 : ((IntKind.u64.wrap ((IntKind.u64.wrap (8 * (IntKind.u64.wrap (x10_2)))) + a1)) != 0) = true := bne_iff_ne.mpr c10
                  have H' := Aside0.mk H
                  clear H
                  go_wp2
                  go_roundg k2
                  case measure => have := HK1.out; have := HK2.out; omega
                  case rel => exact ⟨(IntKind.u64.wrap (x5_2 + (IntKind.u64.wrap ((ji9) / (IntKind.u64.wrap ((IntKind.u64.wrap (8 * (IntKind.u64.wrap (x10_2)))) + a1)))))), (wrap64 (x10_2 + 1)), (IntKind.u64.wrap (x11_2 - 4)), (by first | rfl | (simp; done) | (simp only [hjit9]; done) | (rw [hji9]; simp only [hjit9]; done) | (simp only [← hji9] <;> (first | rfl | simp)) | (simp [*]; done)), (by first | rfl | (simp; done) | (simp [*]; done)), (by first | rfl | (simp; done) | (simp [*]; done)), H', ⟨by have := HK1.out; have := HK2.out; omega⟩, by repeat (first | exact Drawn0.refl _ | apply Drawn0.step)⟩
              · rw [if_neg c8] at H
                exact absurd H (by simp)
            · rw [if_neg c7] at H
              have c7b0 : decide (x11_2 < 64) = false := decide_eq_false c7
              clear c7
              obtain rfl := Option.some.inj H
              go_wp2
              go_ret
              exact ⟨by first | rfl | (simp; done) | (simp [*]; done) | (simp [show ∀ l_ : List UInt8, (l_ != []) = !l_.isEmpty from fun l_ => by cases l_ <;> rfl]; done), by repeat (first | exact Drawn0.refl _ | apply Drawn0.step)⟩

/-! ### pi_Reckon: function 25 -/
def pi_Reckon.j0 : Nat → Int → Bool → Option (Int × Int)
  | 0, _, _ => none
  | k + 1, x0, x10 => if x10 = true then (some (0, 11)) else ((pi_series.f k x0 1).bind fun t114 => ((pi_series.f k x0 4).bind fun t115 => ((pi_series.f k x0 5).bind fun t116 => ((pi_series.f k x0 6).bind fun t117 => (some (wrap64 ((IntKind.u64.wrap ((IntKind.u64.wrap ((IntKind.u64.wrap ((IntKind.u64.wrap (4 * t114)) - (IntKind.u64.wrap (2 * t115)))) - t116)) - t117)) / 1152921504606846976), 0))))))
def pi_Reckon.f (k : Nat) (a0 : Int) : Option (Int × Int) := if a0 < 0 then (pi_Reckon.j0 k a0 true) else (pi_Reckon.j0 k a0 (decide (a0 ≥ 8336)))
theorem pi_Reckon.mono_l : ∀ k, (∀ y0 y1, LeO (pi_Reckon.j0 k y0 y1) (pi_Reckon.j0 (k + 1) y0 y1))
  | 0 => fun _ _ r h => by simp [pi_Reckon.j0] at h
  | k + 1 => by
    have ih0 := pi_Reckon.mono_l k
    · intro y0 y1
      unfold pi_Reckon.j0
      repeat' first
      | (with_reducible exact ih0 _ _)
      | (with_reducible exact pi_series.mono _ _ _)
      | (with_reducible exact LeO.refl _)
      | (with_reducible exact LeO.none _)
      | (with_reducible refine LeO.ite ?_ ?_)
      | (with_reducible refine LeO.bind ?_ (fun _ => ?_))
      | exact ih0 _ _
      | exact pi_series.mono _ _ _
      | exact LeO.none _
      | refine LeO.ite ?_ ?_
      | refine LeO.bind ?_ (fun _ => ?_)
theorem pi_Reckon.mono : ∀ a0 k, LeO (pi_Reckon.f k a0) (pi_Reckon.f (k + 1) a0) := by
  intro a0 k
  have ih0 := pi_Reckon.mono_l k
  unfold pi_Reckon.f
  repeat' first
      | (with_reducible exact ih0 _ _)
      | (with_reducible exact pi_series.mono _ _ _)
      | (with_reducible exact LeO.refl _)
      | (with_reducible exact LeO.none _)
      | (with_reducible refine LeO.ite ?_ ?_)
      | (with_reducible refine LeO.bind ?_ (fun _ => ?_))
      | exact ih0 _ _
      | exact pi_series.mono _ _ _
      | exact LeO.none _
      | refine LeO.ite ?_ ?_
      | refine LeO.bind ?_ (fun _ => ?_)
set_option maxHeartbeats 8000000 in
set_option maxRecDepth 100000 in
theorem pi_Reckon.calls (k : Nat) (a0 : Int) (r1 : Int) (r2 : Int) (w : World) (h : pi_Reckon.f k a0 = some (r1, r2)) :
    Calls Try.prog 25 #[.int .i64 a0] w fun e w' => e = .returned (.tuple #[.int .i64 r1, .int .i64 r2]) ∧ Drawn0 w w' := by
  have H : (if a0 < 0 then (pi_Reckon.j0 k a0 true) else (pi_Reckon.j0 k a0 (decide (a0 ≥ 8336)))) = some (r1, r2) := h
  clear h
  have HC2 := Aside0.mk H
  clear H
  go_enter Try.func25, Try.ntmps25
  go_upto_region 1 with (fail)
  go_cut [10] (fun v10 wc => ∃ (kq : Nat) (x10_1 : Bool), v10 = .bool x10_1 ∧ Aside0 (pi_Reckon.j0 kq a0 x10_1 = some (r1, r2)) ∧ Aside0 (kq ≤ k) ∧ Drawn0 w wc)
  case first =>
    have H := HC2.out
    clear HC2
    by_cases c3 : a0 < 0
    · rw [if_pos c3] at H
      have c3b0 : decide (a0 < 0) = true := decide_eq_true c3
      clear c3
      (first | rw [c3b0] | (simp only [i64_w, i32_w]; rw [c3b0]) | skip)
      have H' := Aside0.mk H
      clear H
      go_wp2
      go_meet
      case rel => exact ⟨_, (true), (by first | rfl | (simp; done) | (simp [*]; done)), H', ⟨by first | omega | exact Nat.le_refl _⟩, by repeat (first | exact Drawn0.refl _ | apply Drawn0.step)⟩
    · rw [if_neg c3] at H
      have c3b0 : decide (a0 < 0) = false := decide_eq_false c3
      clear c3
      (first | rw [c3b0] | (simp only [i64_w, i32_w]; rw [c3b0]) | skip)
      have H' := Aside0.mk H
      clear H
      go_wp2
      go_meet
      case rel => exact ⟨_, (decide (a0 ≥ 8336)), (by first | rfl | (simp; done) | (simp [*]; done)), H', ⟨by first | omega | exact Nat.le_refl _⟩, by repeat (first | exact Drawn0.refl _ | apply Drawn0.step)⟩
  case rest =>
    clear HC2
    try clear c2
    try clear p2
    try clear c3
    try clear c3b0
    obtain ⟨kq, x10_1, rfl, HA, HJ1, ⟨mc1, rfl⟩⟩ := hcut
    cases kq with
    | zero => exact absurd HA.out (by simp [pi_Reckon.j0])
    | succ kj1 =>
      have H := HA.out
      clear HA
      simp only [pi_Reckon.j0] at H
      by_cases c4 : x10_1 = true
      · subst c4
        have H1 : (some (0, 11)) = some (r1, r2) := by rw [if_pos rfl] at H; exact H
        clear H
        have H := H1
        clear H1
        simp only [Option.some.injEq, Prod.mk.injEq] at H
        obtain ⟨rfl, rfl⟩ := H
        go_wp2
        go_ret2
        exact ⟨by first | rfl | (simp; done) | (simp [*]; done) | (simp [show ∀ l_ : List UInt8, (l_ != []) = !l_.isEmpty from fun l_ => by cases l_ <;> rfl]; done), by repeat (first | exact Drawn0.refl _ | apply Drawn0.step)⟩
      · replace c4 := Bool.eq_false_iff.mpr c4
        subst c4
        have H1 : ((pi_series.f kj1 a0 1).bind fun t114 => ((pi_series.f kj1 a0 4).bind fun t115 => ((pi_series.f kj1 a0 5).bind fun t116 => ((pi_series.f kj1 a0 6).bind fun t117 => (some (wrap64 ((IntKind.u64.wrap ((IntKind.u64.wrap ((IntKind.u64.wrap ((IntKind.u64.wrap (4 * t114)) - (IntKind.u64.wrap (2 * t115)))) - t116)) - t117)) / 1152921504606846976), 0)))))) = some (r1, r2) := by rw [if_neg (show ¬ (false = true) by decide)] at H; exact H
        clear H
        have H := H1
        clear H1
        replace H := Option.bind_eq_some_iff.mp H
        obtain ⟨t114, A50, H⟩ := H
        replace H : ((pi_series.f kj1 a0 4).bind fun t115 => ((pi_series.f kj1 a0 5).bind fun t116 => ((pi_series.f kj1 a0 6).bind fun t117 => (some (wrap64 ((IntKind.u64.wrap ((IntKind.u64.wrap ((IntKind.u64.wrap ((IntKind.u64.wrap (4 * t114)) - (IntKind.u64.wrap (2 * t115)))) - t116)) - t117)) / 1152921504606846976), 0))))) = some (r1, r2) := H
        have A5 := Aside0.mk A50
        clear A50
        replace H := Option.bind_eq_some_iff.mp H
        obtain ⟨t115, A60, H⟩ := H
        replace H : ((pi_series.f kj1 a0 5).bind fun t116 => ((pi_series.f kj1 a0 6).bind fun t117 => (some (wrap64 ((IntKind.u64.wrap ((IntKind.u64.wrap ((IntKind.u64.wrap ((IntKind.u64.wrap (4 * t114)) - (IntKind.u64.wrap (2 * t115)))) - t116)) - t117)) / 1152921504606846976), 0)))) = some (r1, r2) := H
        have A6 := Aside0.mk A60
        clear A60
        replace H := Option.bind_eq_some_iff.mp H
        obtain ⟨t116, A70, H⟩ := H
        replace H : ((pi_series.f kj1 a0 6).bind fun t117 => (some (wrap64 ((IntKind.u64.wrap ((IntKind.u64.wrap ((IntKind.u64.wrap ((IntKind.u64.wrap (4 * t114)) - (IntKind.u64.wrap (2 * t115)))) - t116)) - t117)) / 1152921504606846976), 0))) = some (r1, r2) := H
        have A7 := Aside0.mk A70
        clear A70
        replace H := Option.bind_eq_some_iff.mp H
        obtain ⟨t117, A80, H⟩ := H
        replace H : (some (wrap64 ((IntKind.u64.wrap ((IntKind.u64.wrap ((IntKind.u64.wrap ((IntKind.u64.wrap (4 * t114)) - (IntKind.u64.wrap (2 * t115)))) - t116)) - t117)) / 1152921504606846976), 0)) = some (r1, r2) := H
        have A8 := Aside0.mk A80
        clear A80
        simp only [Option.some.injEq, Prod.mk.injEq] at H
        obtain ⟨rfl, rfl⟩ := H
        go_wp2_with (first | ((with_reducible refine gate_callee (f := 51) rfl ?_); refine goesL_ (some 12) rfl rfl Try.func51 (by kernel_rfl) rfl #[.int .i64 a0, .int .u64 1] rfl (by (try simp only [List.map_toArray, List.map_cons, List.map_nil]); first | done | rfl | (simp only [List.length_drop, List.length_take]; rfl)) ?_; (with_reducible refine (pi_series.calls kj1 a0 1 t114 _ A5.out).mono ?_); rintro e w' ⟨rfl, ⟨nd, rfl⟩⟩; refine ⟨_, rfl, ?_⟩) | ((with_reducible refine gate_callee (f := 51) rfl ?_); refine goesL_ (some 15) rfl rfl Try.func51 (by kernel_rfl) rfl #[.int .i64 a0, .int .u64 4] rfl (by (try simp only [List.map_toArray, List.map_cons, List.map_nil]); first | done | rfl | (simp only [List.length_drop, List.length_take]; rfl)) ?_; (with_reducible refine (pi_series.calls kj1 a0 4 t115 _ A6.out).mono ?_); rintro e w' ⟨rfl, ⟨nd, rfl⟩⟩; refine ⟨_, rfl, ?_⟩) | ((with_reducible refine gate_callee (f := 51) rfl ?_); refine goesL_ (some 19) rfl rfl Try.func51 (by kernel_rfl) rfl #[.int .i64 a0, .int .u64 5] rfl (by (try simp only [List.map_toArray, List.map_cons, List.map_nil]); first | done | rfl | (simp only [List.length_drop, List.length_take]; rfl)) ?_; (with_reducible refine (pi_series.calls kj1 a0 5 t116 _ A7.out).mono ?_); rintro e w' ⟨rfl, ⟨nd, rfl⟩⟩; refine ⟨_, rfl, ?_⟩) | ((with_reducible refine gate_callee (f := 51) rfl ?_); refine goesL_ (some 22) rfl rfl Try.func51 (by kernel_rfl) rfl #[.int .i64 a0, .int .u64 6] rfl (by (try simp only [List.map_toArray, List.map_cons, List.map_nil]); first | done | rfl | (simp only [List.length_drop, List.length_take]; rfl)) ?_; (with_reducible refine (pi_series.calls kj1 a0 6 t117 _ A8.out).mono ?_); rintro e w' ⟨rfl, ⟨nd, rfl⟩⟩; refine ⟨_, rfl, ?_⟩))
        go_ret2
        exact ⟨by first | rfl | (simp; done) | (simp [*]; done) | (simp [show ∀ l_ : List UInt8, (l_ != []) = !l_.isEmpty from fun l_ => by cases l_ <;> rfl]; done), by repeat (first | exact Drawn0.refl _ | apply Drawn0.step)⟩

/-! ### pestleref09_part: function 64 -/
def pestleref09_part.l0 : Nat → Int → Int → Int → Int → Option (Int)
  | 0, _, _, _, _ => none
  | k + 1, x0, x1, x5, x6 => if x6 < 60 then (if (IntKind.u64.wrap (2 * x0)) ≥ x1 then (pestleref09_part.l0 k (IntKind.u64.wrap ((IntKind.u64.wrap (2 * x0)) - x1)) x1 (IntKind.u64.wrap ((IntKind.u64.wrap (2 * x5)) + 1)) (wrap64 (x6 + 1))) else (pestleref09_part.l0 k (IntKind.u64.wrap (2 * x0)) x1 (IntKind.u64.wrap (2 * x5)) (wrap64 (x6 + 1)))) else (some x5)
def pestleref09_part.f (k : Nat) (a0 : Int) (a1 : Int) : Option (Int) := pestleref09_part.l0 k a0 a1 0 0
theorem pestleref09_part.mono_l : ∀ k, (∀ y0 y1 y2 y3, LeO (pestleref09_part.l0 k y0 y1 y2 y3) (pestleref09_part.l0 (k + 1) y0 y1 y2 y3))
  | 0 => fun _ _ _ _ r h => by simp [pestleref09_part.l0] at h
  | k + 1 => by
    have ih0 := pestleref09_part.mono_l k
    · intro y0 y1 y2 y3
      unfold pestleref09_part.l0
      repeat' first
      | (with_reducible exact ih0 _ _ _ _)
      | (with_reducible exact LeO.refl _)
      | (with_reducible exact LeO.none _)
      | (with_reducible refine LeO.ite ?_ ?_)
      | (with_reducible refine LeO.bind ?_ (fun _ => ?_))
      | exact ih0 _ _ _ _
      | exact LeO.none _
      | refine LeO.ite ?_ ?_
      | refine LeO.bind ?_ (fun _ => ?_)
theorem pestleref09_part.mono : ∀ a0 a1 k, LeO (pestleref09_part.f k a0 a1) (pestleref09_part.f (k + 1) a0 a1) := by
  intro a0 a1 k
  have ih0 := pestleref09_part.mono_l k
  unfold pestleref09_part.f
  repeat' first
      | (with_reducible exact ih0 _ _ _ _)
      | (with_reducible exact LeO.refl _)
      | (with_reducible exact LeO.none _)
      | (with_reducible refine LeO.ite ?_ ?_)
      | (with_reducible refine LeO.bind ?_ (fun _ => ?_))
      | exact ih0 _ _ _ _
      | exact LeO.none _
      | refine LeO.ite ?_ ?_
      | refine LeO.bind ?_ (fun _ => ?_)
set_option maxHeartbeats 8000000 in
set_option maxRecDepth 100000 in
theorem pestleref09_part.calls (k : Nat) (a0 : Int) (a1 : Int) (r : Int) (w : World) (h : pestleref09_part.f k a0 a1 = some r) :
    Calls Try.prog 64 #[.int .u64 a0, .int .u64 a1] w fun e w' => e = .returned (.int .u64 r) ∧ Drawn0 w w' := by
  have H : (pestleref09_part.l0 k a0 a1 0 0) = some r := h
  clear h
  have H' := Aside0.mk H
  clear H
  go_enter Try.func64, Try.ntmps64
  go_wp2
  go_loopg [0, 5, 6] k (fun kq v0 v5 v6 w' => ∃ (x0_1 : Int) (x5_1 : Int) (x6_1 : Int), v0 = .int .u64 x0_1 ∧ v5 = .int .u64 x5_1 ∧ v6 = .int .i64 x6_1 ∧ Aside0 (pestleref09_part.l0 kq x0_1 a1 x5_1 x6_1 = some r) ∧ Aside0 (kq ≤ k) ∧ Drawn0 w w')
  case atStart => exact ⟨(a0), (0), (0), (by first | rfl | (simp; done) | (simp [*]; done)), (by first | rfl | (simp; done) | (simp [*]; done)), (by first | rfl | (simp; done) | (simp [*]; done)), H', ⟨Nat.le_refl _⟩, by repeat (first | exact Drawn0.refl _ | apply Drawn0.step)⟩
  case round =>
    clear H'
    try clear p2
    obtain ⟨x0_1, x5_1, x6_1, rfl, rfl, rfl, HA, HK1, ⟨m1, rfl⟩⟩ := hrel
    cases gk with
    | zero => exact absurd HA.out (by simp [pestleref09_part.l0])
    | succ k1 =>
      have H := HA.out
      clear HA
      simp only [pestleref09_part.l0] at H
      by_cases c3 : x6_1 < 60
      · rw [if_pos c3] at H
        have c3b0 : decide (x6_1 < 60) = true := decide_eq_true c3
        clear c3
        by_cases c4 : (IntKind.u64.wrap (2 * x0_1)) ≥ a1
        · rw [if_pos c4] at H
          have c4b0 : decide (a1 ≤ (IntKind.u64.wrap (2 * x0_1))) = true := decide_eq_true c4
          clear c4
          have H' := Aside0.mk H
          clear H
          go_wp2
          go_roundg k1
          case measure => have := HK1.out; omega
          case rel => exact ⟨(IntKind.u64.wrap ((IntKind.u64.wrap (2 * x0_1)) - a1)), (IntKind.u64.wrap ((IntKind.u64.wrap (2 * x5_1)) + 1)), (wrap64 (x6_1 + 1)), (by first | rfl | (simp; done) | (simp [*]; done)), (by first | rfl | (simp; done) | (simp [*]; done)), (by first | rfl | (simp; done) | (simp [*]; done)), H', ⟨by have := HK1.out; omega⟩, by repeat (first | exact Drawn0.refl _ | apply Drawn0.step)⟩
        · rw [if_neg c4] at H
          have c4b0 : decide (a1 ≤ (IntKind.u64.wrap (2 * x0_1))) = false := decide_eq_false c4
          clear c4
          have H' := Aside0.mk H
          clear H
          go_wp2
          go_roundg k1
          case measure => have := HK1.out; omega
          case rel => exact ⟨(IntKind.u64.wrap (2 * x0_1)), (IntKind.u64.wrap (2 * x5_1)), (wrap64 (x6_1 + 1)), (by first | rfl | (simp; done) | (simp [*]; done)), (by first | rfl | (simp; done) | (simp [*]; done)), (by first | rfl | (simp; done) | (simp [*]; done)), H', ⟨by have := HK1.out; omega⟩, by repeat (first | exact Drawn0.refl _ | apply Drawn0.step)⟩
      · rw [if_neg c3] at H
        have c3b0 : decide (x6_1 < 60) = false := decide_eq_false c3
        clear c3
        obtain rfl := Option.some.inj H
        go_wp2
        go_ret
        exact ⟨by first | rfl | (simp; done) | (simp [*]; done) | (simp [show ∀ l_ : List UInt8, (l_ != []) = !l_.isEmpty from fun l_ => by cases l_ <;> rfl]; done), by repeat (first | exact Drawn0.refl _ | apply Drawn0.step)⟩

/-! ### pestleref09_power: function 65 -/
def pestleref09_power.l0 : Nat → Int → Int → Int → Int → Option (Int)
  | 0, _, _, _, _ => none
  | k + 1, x0, x1, x5, x6 => if x0 > 0 then (if (Int.tmod x0 2) = 1 then (if x1 = 0 then (none) else (pestleref09_power.l0 k (wrap64 (Int.tdiv x0 2)) x1 (Int.tmod (IntKind.u64.wrap (x5 * x6)) x1) (Int.tmod (IntKind.u64.wrap (x6 * x6)) x1))) else (if x1 = 0 then (none) else (pestleref09_power.l0 k (wrap64 (Int.tdiv x0 2)) x1 x5 (Int.tmod (IntKind.u64.wrap (x6 * x6)) x1)))) else (some x5)
def pestleref09_power.f (k : Nat) (a0 : Int) (a1 : Int) : Option (Int) := if a1 = 0 then (none) else (pestleref09_power.l0 k a0 a1 ((1 : Int) % a1) ((16 : Int) % a1))
theorem pestleref09_power.mono_l : ∀ k, (∀ y0 y1 y2 y3, LeO (pestleref09_power.l0 k y0 y1 y2 y3) (pestleref09_power.l0 (k + 1) y0 y1 y2 y3))
  | 0 => fun _ _ _ _ r h => by simp [pestleref09_power.l0] at h
  | k + 1 => by
    have ih0 := pestleref09_power.mono_l k
    · intro y0 y1 y2 y3
      unfold pestleref09_power.l0
      repeat' first
      | (with_reducible exact ih0 _ _ _ _)
      | (with_reducible exact LeO.refl _)
      | (with_reducible exact LeO.none _)
      | (with_reducible refine LeO.ite ?_ ?_)
      | (with_reducible refine LeO.bind ?_ (fun _ => ?_))
      | exact ih0 _ _ _ _
      | exact LeO.none _
      | refine LeO.ite ?_ ?_
      | refine LeO.bind ?_ (fun _ => ?_)
theorem pestleref09_power.mono : ∀ a0 a1 k, LeO (pestleref09_power.f k a0 a1) (pestleref09_power.f (k + 1) a0 a1) := by
  intro a0 a1 k
  have ih0 := pestleref09_power.mono_l k
  unfold pestleref09_power.f
  repeat' first
      | (with_reducible exact ih0 _ _ _ _)
      | (with_reducible exact LeO.refl _)
      | (with_reducible exact LeO.none _)
      | (with_reducible refine LeO.ite ?_ ?_)
      | (with_reducible refine LeO.bind ?_ (fun _ => ?_))
      | exact ih0 _ _ _ _
      | exact LeO.none _
      | refine LeO.ite ?_ ?_
      | refine LeO.bind ?_ (fun _ => ?_)
set_option maxHeartbeats 8000000 in
set_option maxRecDepth 100000 in
theorem pestleref09_power.calls (k : Nat) (a0 : Int) (a1 : Int) (r : Int) (w : World) (h : pestleref09_power.f k a0 a1 = some r) :
    Calls Try.prog 65 #[.int .i64 a0, .int .u64 a1] w fun e w' => e = .returned (.int .u64 r) ∧ Drawn0 w w' := by
  have H : (if a1 = 0 then (none) else (pestleref09_power.l0 k a0 a1 ((1 : Int) % a1) ((16 : Int) % a1))) = some r := h
  clear h
  by_cases c3 : a1 = 0
  · rw [if_pos c3] at H
    exact absurd H (by simp)
  · rw [if_neg c3] at H
    have c3b0 : (a1 == 0) = false := beq_eq_false_iff_ne.mpr c3
    have c3b1 : (a1 != 0) = true := bne_iff_ne.mpr c3
    have H' := Aside0.mk H
    clear H
    go_enter Try.func65, Try.ntmps65
    go_wp2
    go_loopg [0, 5, 6] k (fun kq v0 v5 v6 w' => ∃ (x0_1 : Int) (x5_1 : Int) (x6_1 : Int), v0 = .int .i64 x0_1 ∧ v5 = .int .u64 x5_1 ∧ v6 = .int .u64 x6_1 ∧ Aside0 (pestleref09_power.l0 kq x0_1 a1 x5_1 x6_1 = some r) ∧ Aside0 (kq ≤ k) ∧ Drawn0 w w')
    case atStart => exact ⟨(a0), ((1 : Int) % a1), ((16 : Int) % a1), (by first | rfl | (simp; done) | (simp [*]; done)), (by first | rfl | (simp; done) | (simp [*]; done)), (by first | rfl | (simp; done) | (simp [*]; done)), H', ⟨Nat.le_refl _⟩, by repeat (first | exact Drawn0.refl _ | apply Drawn0.step)⟩
    case round =>
      clear H'
      try clear p2
      try clear c3
      try clear c3b0
      try clear c3b1
      obtain ⟨x0_1, x5_1, x6_1, rfl, rfl, rfl, HA, HK1, ⟨m1, rfl⟩⟩ := hrel
      cases gk with
      | zero => exact absurd HA.out (by simp [pestleref09_power.l0])
      | succ k1 =>
        have H := HA.out
        clear HA
        simp only [pestleref09_power.l0] at H
        by_cases c4 : x0_1 > 0
        · rw [if_pos c4] at H
          have c4b0 : decide (0 < x0_1) = true := decide_eq_true c4
          clear c4
          by_cases c5 : (Int.tmod x0_1 2) = 1
          · rw [if_pos c5] at H
            have c5b0 : ((Int.tmod x0_1 2) == 1) = true := beq_iff_eq.mpr c5
            have c5b1 : ((Int.tmod x0_1 2) != 1) = false := bne_eq_false_iff_eq.mpr c5
            clear c5
            by_cases c6 : a1 = 0
            · rw [if_pos c6] at H
              exact absurd H (by simp)
            · rw [if_neg c6] at H
              have c6b0 : (a1 == 0) = false := beq_eq_false_iff_ne.mpr c6
              have c6b1 : (a1 != 0) = true := bne_iff_ne.mpr c6
              have H' := Aside0.mk H
              clear H
              go_wp2
              go_roundg k1
              case measure => have := HK1.out; omega
              case rel => exact ⟨(wrap64 (Int.tdiv x0_1 2)), (Int.tmod (IntKind.u64.wrap (x5_1 * x6_1)) a1), (Int.tmod (IntKind.u64.wrap (x6_1 * x6_1)) a1), (by first | rfl | (simp; done) | (simp [*]; done)), (by first | rfl | (simp; done) | (simp [*]; done)), (by first | rfl | (simp; done) | (simp [*]; done)), H', ⟨by have := HK1.out; omega⟩, by repeat (first | exact Drawn0.refl _ | apply Drawn0.step)⟩
          · rw [if_neg c5] at H
            have c5b0 : ((Int.tmod x0_1 2) == 1) = false := beq_eq_false_iff_ne.mpr c5
            have c5b1 : ((Int.tmod x0_1 2) != 1) = true := bne_iff_ne.mpr c5
            by_cases c7 : a1 = 0
            · rw [if_pos c7] at H
              exact absurd H (by simp)
            · rw [if_neg c7] at H
              have c7b0 : (a1 == 0) = false := beq_eq_false_iff_ne.mpr c7
              have c7b1 : (a1 != 0) = true := bne_iff_ne.mpr c7
              have H' := Aside0.mk H
              clear H
              go_wp2
              go_roundg k1
              case measure => have := HK1.out; omega
              case rel => exact ⟨(wrap64 (Int.tdiv x0_1 2)), (x5_1), (Int.tmod (IntKind.u64.wrap (x6_1 * x6_1)) a1), (by first | rfl | (simp; done) | (simp [*]; done)), (by first | rfl | (simp; done) | (simp [*]; done)), (by first | rfl | (simp; done) | (simp [*]; done)), H', ⟨by have := HK1.out; omega⟩, by repeat (first | exact Drawn0.refl _ | apply Drawn0.step)⟩
        · rw [if_neg c4] at H
          have c4b0 : decide (0 < x0_1) = false := decide_eq_false c4
          clear c4
          obtain rfl := Option.some.inj H
          go_wp2
          go_ret
          exact ⟨by first | rfl | (simp; done) | (simp [*]; done) | (simp [show ∀ l_ : List UInt8, (l_ != []) = !l_.isEmpty from fun l_ => by cases l_ <;> rfl]; done), by repeat (first | exact Drawn0.refl _ | apply Drawn0.step)⟩

/-! ### pestleref09_series: function 52 -/
mutual
def pestleref09_series.l0 : Nat → Int → Int → Int → Int → Option (Int)
  | 0, _, _, _, _ => none
  | k + 1, x0, x1, x5, x6 => if x6 ≤ x0 then ((pestleref09_power.f k (wrap64 (x0 - x6)) (IntKind.u64.wrap (wrap64 ((wrap64 (8 * x6)) + x1)))).bind fun t118 => ((pestleref09_part.f k t118 (IntKind.u64.wrap (wrap64 ((wrap64 (8 * x6)) + x1)))).bind fun t119 => (pestleref09_series.l0 k x0 x1 (Int.tmod (IntKind.u64.wrap (x5 + t119)) 1152921504606846976) (wrap64 (x6 + 1))))) else (pestleref09_series.l1 k x1 x5 72057594037927936 (wrap64 (x0 + 1)))
def pestleref09_series.l1 : Nat → Int → Int → Int → Int → Option (Int)
  | 0, _, _, _, _ => none
  | k + 1, x1, x5, x8, x9 => if x8 > 0 then (if (IntKind.u64.wrap (wrap64 ((wrap64 (8 * x9)) + x1))) = 0 then (none) else (pestleref09_series.l1 k x1 (Int.tmod (IntKind.u64.wrap (x5 + (IntKind.u64.wrap (Int.tdiv x8 (IntKind.u64.wrap (wrap64 ((wrap64 (8 * x9)) + x1))))))) 1152921504606846976) (IntKind.u64.wrap (Int.tdiv x8 16)) (wrap64 (x9 + 1)))) else (some x5)
end
def pestleref09_series.f (k : Nat) (a0 : Int) (a1 : Int) : Option (Int) := pestleref09_series.l0 k a0 a1 0 0
theorem pestleref09_series.mono_l : ∀ k, (∀ y0 y1 y2 y3, LeO (pestleref09_series.l0 k y0 y1 y2 y3) (pestleref09_series.l0 (k + 1) y0 y1 y2 y3)) ∧ (∀ y0 y1 y2 y3, LeO (pestleref09_series.l1 k y0 y1 y2 y3) (pestleref09_series.l1 (k + 1) y0 y1 y2 y3))
  | 0 => ⟨fun _ _ _ _ r h => by simp [pestleref09_series.l0] at h, fun _ _ _ _ r h => by simp [pestleref09_series.l1] at h⟩
  | k + 1 => by
    obtain ⟨ih0, ih1⟩ := pestleref09_series.mono_l k
    refine ⟨?_, ?_⟩
    · intro y0 y1 y2 y3
      unfold pestleref09_series.l0
      repeat' first
      | (with_reducible exact ih0 _ _ _ _)
      | (with_reducible exact ih1 _ _ _ _)
      | (with_reducible exact pestleref09_part.mono _ _ _)
      | (with_reducible exact pestleref09_power.mono _ _ _)
      | (with_reducible exact LeO.refl _)
      | (with_reducible exact LeO.none _)
      | (with_reducible refine LeO.ite ?_ ?_)
      | (with_reducible refine LeO.bind ?_ (fun _ => ?_))
      | exact ih0 _ _ _ _
      | exact ih1 _ _ _ _
      | exact pestleref09_part.mono _ _ _
      | exact pestleref09_power.mono _ _ _
      | exact LeO.none _
      | refine LeO.ite ?_ ?_
      | refine LeO.bind ?_ (fun _ => ?_)
    · intro y0 y1 y2 y3
      unfold pestleref09_series.l1
      repeat' first
      | (with_reducible exact ih0 _ _ _ _)
      | (with_reducible exact ih1 _ _ _ _)
      | (with_reducible exact pestleref09_part.mono _ _ _)
      | (with_reducible exact pestleref09_power.mono _ _ _)
      | (with_reducible exact LeO.refl _)
      | (with_reducible exact LeO.none _)
      | (with_reducible refine LeO.ite ?_ ?_)
      | (with_reducible refine LeO.bind ?_ (fun _ => ?_))
      | exact ih0 _ _ _ _
      | exact ih1 _ _ _ _
      | exact pestleref09_part.mono _ _ _
      | exact pestleref09_power.mono _ _ _
      | exact LeO.none _
      | refine LeO.ite ?_ ?_
      | refine LeO.bind ?_ (fun _ => ?_)
theorem pestleref09_series.mono : ∀ a0 a1 k, LeO (pestleref09_series.f k a0 a1) (pestleref09_series.f (k + 1) a0 a1) := by
  intro a0 a1 k
  obtain ⟨ih0, ih1⟩ := pestleref09_series.mono_l k
  unfold pestleref09_series.f
  repeat' first
      | (with_reducible exact ih0 _ _ _ _)
      | (with_reducible exact ih1 _ _ _ _)
      | (with_reducible exact pestleref09_part.mono _ _ _)
      | (with_reducible exact pestleref09_power.mono _ _ _)
      | (with_reducible exact LeO.refl _)
      | (with_reducible exact LeO.none _)
      | (with_reducible refine LeO.ite ?_ ?_)
      | (with_reducible refine LeO.bind ?_ (fun _ => ?_))
      | exact ih0 _ _ _ _
      | exact ih1 _ _ _ _
      | exact pestleref09_part.mono _ _ _
      | exact pestleref09_power.mono _ _ _
      | exact LeO.none _
      | refine LeO.ite ?_ ?_
      | refine LeO.bind ?_ (fun _ => ?_)
set_option maxHeartbeats 8000000 in
set_option maxRecDepth 100000 in
theorem pestleref09_series.calls (k : Nat) (a0 : Int) (a1 : Int) (r : Int) (w : World) (h : pestleref09_series.f k a0 a1 = some r) :
    Calls Try.prog 52 #[.int .i64 a0, .int .i64 a1] w fun e w' => e = .returned (.int .u64 r) ∧ Drawn0 w w' := by
  have H : (pestleref09_series.l0 k a0 a1 0 0) = some r := h
  clear h
  have H' := Aside0.mk H
  clear H
  go_enter Try.func52, Try.ntmps52
  go_wp2
  go_loopg [5, 6] k (fun kq v5 v6 w' => ∃ (x5_1 : Int) (x6_1 : Int), v5 = .int .u64 x5_1 ∧ v6 = .int .i64 x6_1 ∧ Aside0 (pestleref09_series.l0 kq a0 a1 x5_1 x6_1 = some r) ∧ Aside0 (kq ≤ k) ∧ Drawn0 w w')
  case atStart => exact ⟨(0), (0), (by first | rfl | (simp; done) | (simp [*]; done)), (by first | rfl | (simp; done) | (simp [*]; done)), H', ⟨Nat.le_refl _⟩, by repeat (first | exact Drawn0.refl _ | apply Drawn0.step)⟩
  case round =>
    clear H'
    try clear p2
    obtain ⟨x5_1, x6_1, rfl, rfl, HA, HK1, ⟨m1, rfl⟩⟩ := hrel
    cases gk with
    | zero => exact absurd HA.out (by simp [pestleref09_series.l0])
    | succ k1 =>
      have H := HA.out
      clear HA
      simp only [pestleref09_series.l0] at H
      by_cases c3 : x6_1 ≤ a0
      · rw [if_pos c3] at H
        have c3b0 : decide (x6_1 ≤ a0) = true := decide_eq_true c3
        clear c3
        replace H := Option.bind_eq_some_iff.mp H
        obtain ⟨t118, A40, H⟩ := H
        replace H : ((pestleref09_part.f k1 t118 (IntKind.u64.wrap (wrap64 ((wrap64 (8 * x6_1)) + a1)))).bind fun t119 => (pestleref09_series.l0 k1 a0 a1 (Int.tmod (IntKind.u64.wrap (x5_1 + t119)) 1152921504606846976) (wrap64 (x6_1 + 1)))) = some r := H
        have A4 := Aside0.mk A40
        clear A40
        replace H := Option.bind_eq_some_iff.mp H
        obtain ⟨t119, A50, H⟩ := H
        replace H : (pestleref09_series.l0 k1 a0 a1 (Int.tmod (IntKind.u64.wrap (x5_1 + t119)) 1152921504606846976) (wrap64 (x6_1 + 1))) = some r := H
        have A5 := Aside0.mk A50
        clear A50
        have H' := Aside0.mk H
        clear H
        go_wp2_with (first | ((with_reducible refine gate_callee (f := 65) rfl ?_); refine goesL_ (some 25) rfl rfl Try.func65 (by kernel_rfl) rfl #[.int .i64 (wrap64 (a0 - x6_1)), .int .u64 (IntKind.u64.wrap (wrap64 ((wrap64 (8 * x6_1)) + a1)))] rfl (by (try simp only [List.map_toArray, List.map_cons, List.map_nil]); first | done | rfl | (simp only [List.length_drop, List.length_take]; rfl)) ?_; (with_reducible refine (pestleref09_power.calls k1 (wrap64 (a0 - x6_1)) (IntKind.u64.wrap (wrap64 ((wrap64 (8 * x6_1)) + a1))) t118 _ A4.out).mono ?_); rintro e w' ⟨rfl, ⟨nd, rfl⟩⟩; refine ⟨_, rfl, ?_⟩) | ((with_reducible refine gate_callee (f := 64) rfl ?_); refine goesL_ (some 27) rfl rfl Try.func64 (by kernel_rfl) rfl #[.int .u64 t118, .int .u64 (IntKind.u64.wrap (wrap64 ((wrap64 (8 * x6_1)) + a1)))] rfl (by (try simp only [List.map_toArray, List.map_cons, List.map_nil]); first | done | rfl | (simp only [List.length_drop, List.length_take]; rfl)) ?_; (with_reducible refine (pestleref09_part.calls k1 t118 (IntKind.u64.wrap (wrap64 ((wrap64 (8 * x6_1)) + a1))) t119 _ A5.out).mono ?_); rintro e w' ⟨rfl, ⟨nd, rfl⟩⟩; refine ⟨_, rfl, ?_⟩))
        go_roundg k1
        case measure => have := HK1.out; omega
        case rel => exact ⟨(Int.tmod (IntKind.u64.wrap (x5_1 + t119)) 1152921504606846976), (wrap64 (x6_1 + 1)), (by first | rfl | (simp; done) | (simp [*]; done)), (by first | rfl | (simp; done) | (simp [*]; done)), H', ⟨by have := HK1.out; omega⟩, by repeat (first | exact Drawn0.refl _ | apply Drawn0.step)⟩
      · rw [if_neg c3] at H
        have c3b0 : decide (x6_1 ≤ a0) = false := decide_eq_false c3
        clear c3
        have H' := Aside0.mk H
        clear H
        go_wp2
        go_loopg [5, 8, 9] k1 (fun kq v5 v8 v9 w' => ∃ (x5_2 : Int) (x8_2 : Int) (x9_2 : Int), v5 = .int .u64 x5_2 ∧ v8 = .int .u64 x8_2 ∧ v9 = .int .i64 x9_2 ∧ Aside0 (pestleref09_series.l1 kq a1 x5_2 x8_2 x9_2 = some r) ∧ Aside0 (kq ≤ k1) ∧ Drawn0 w w')
        case atStart => exact ⟨(x5_1), (72057594037927936), (wrap64 (a0 + 1)), (by first | rfl | (simp; done) | (simp [*]; done)), (by first | rfl | (simp; done) | (simp [*]; done)), (by first | rfl | (simp; done) | (simp [*]; done)), H', ⟨Nat.le_refl _⟩, by repeat (first | exact Drawn0.refl _ | apply Drawn0.step)⟩
        case round =>
          clear H'
          try clear p2
          try clear c3
          try clear c3b0
          try clear c5
          try clear p2
          obtain ⟨x5_2, x8_2, x9_2, rfl, rfl, rfl, HA, HK2, ⟨m2, rfl⟩⟩ := hrel
          cases gk with
          | zero => exact absurd HA.out (by simp [pestleref09_series.l1])
          | succ k2 =>
            have H := HA.out
            clear HA
            simp only [pestleref09_series.l1] at H
            by_cases c6 : x8_2 > 0
            · rw [if_pos c6] at H
              have c6b0 : decide (0 < x8_2) = true := decide_eq_true c6
              clear c6
              by_cases c7 : (IntKind.u64.wrap (wrap64 ((wrap64 (8 * x9_2)) + a1))) = 0
              · rw [if_pos c7] at H
                exact absurd H (by simp)
              · rw [if_neg c7] at H
                have c7b0 : ((IntKind.u64.wrap (wrap64 ((wrap64 (8 * x9_2)) + a1))) == 0) = false := beq_eq_false_iff_ne.mpr c7
                have c7b1 : ((IntKind.u64.wrap (wrap64 ((wrap64 (8 * x9_2)) + a1))) != 0) = true := bne_iff_ne.mpr c7
                have H' := Aside0.mk H
                clear H
                go_wp2
                go_roundg k2
                case measure => have := HK1.out; have := HK2.out; omega
                case rel => exact ⟨(Int.tmod (IntKind.u64.wrap (x5_2 + (IntKind.u64.wrap (Int.tdiv x8_2 (IntKind.u64.wrap (wrap64 ((wrap64 (8 * x9_2)) + a1))))))) 1152921504606846976), (IntKind.u64.wrap (Int.tdiv x8_2 16)), (wrap64 (x9_2 + 1)), (by first | rfl | (simp; done) | (simp [*]; done)), (by first | rfl | (simp; done) | (simp [*]; done)), (by first | rfl | (simp; done) | (simp [*]; done)), H', ⟨by have := HK1.out; have := HK2.out; omega⟩, by repeat (first | exact Drawn0.refl _ | apply Drawn0.step)⟩
            · rw [if_neg c6] at H
              have c6b0 : decide (0 < x8_2) = false := decide_eq_false c6
              clear c6
              obtain rfl := Option.some.inj H
              go_wp2
              go_ret
              exact ⟨by first | rfl | (simp; done) | (simp [*]; done) | (simp [show ∀ l_ : List UInt8, (l_ != []) = !l_.isEmpty from fun l_ => by cases l_ <;> rfl]; done), by repeat (first | exact Drawn0.refl _ | apply Drawn0.step)⟩

/-! ### pestleref09_Digit: function 26 -/
def pestleref09_Digit.f (k : Nat) (a0 : Int) : Option (Int) := (pestleref09_series.f k a0 1).bind fun t120 => ((pestleref09_series.f k a0 4).bind fun t121 => ((pestleref09_series.f k a0 5).bind fun t122 => ((pestleref09_series.f k a0 6).bind fun t123 => (some (wrap64 (IntKind.u64.wrap (Int.tdiv (Int.tmod (IntKind.u64.wrap ((IntKind.u64.wrap ((IntKind.u64.wrap ((IntKind.u64.wrap ((IntKind.u64.wrap ((IntKind.u64.wrap (4 * t120)) + (IntKind.u64.wrap (2 * (IntKind.u64.wrap (1152921504606846976 - t121)))))) + 1152921504606846976)) - t122)) + 1152921504606846976)) - t123)) 1152921504606846976) 72057594037927936)))))))
theorem pestleref09_Digit.mono : ∀ a0 k, LeO (pestleref09_Digit.f k a0) (pestleref09_Digit.f (k + 1) a0) := by
  intro a0 k
  unfold pestleref09_Digit.f
  repeat' first
      | (with_reducible exact pestleref09_series.mono _ _ _)
      | (with_reducible exact LeO.refl _)
      | (with_reducible exact LeO.none _)
      | (with_reducible refine LeO.ite ?_ ?_)
      | (with_reducible refine LeO.bind ?_ (fun _ => ?_))
      | exact pestleref09_series.mono _ _ _
      | exact LeO.none _
      | refine LeO.ite ?_ ?_
      | refine LeO.bind ?_ (fun _ => ?_)
set_option maxHeartbeats 8000000 in
set_option maxRecDepth 100000 in
theorem pestleref09_Digit.calls (k : Nat) (a0 : Int) (r : Int) (w : World) (h : pestleref09_Digit.f k a0 = some r) :
    Calls Try.prog 26 #[.int .i64 a0] w fun e w' => e = .returned (.int .i64 r) ∧ Drawn0 w w' := by
  have H : ((pestleref09_series.f k a0 1).bind fun t120 => ((pestleref09_series.f k a0 4).bind fun t121 => ((pestleref09_series.f k a0 5).bind fun t122 => ((pestleref09_series.f k a0 6).bind fun t123 => (some (wrap64 (IntKind.u64.wrap (Int.tdiv (Int.tmod (IntKind.u64.wrap ((IntKind.u64.wrap ((IntKind.u64.wrap ((IntKind.u64.wrap ((IntKind.u64.wrap ((IntKind.u64.wrap (4 * t120)) + (IntKind.u64.wrap (2 * (IntKind.u64.wrap (1152921504606846976 - t121)))))) + 1152921504606846976)) - t122)) + 1152921504606846976)) - t123)) 1152921504606846976) 72057594037927936)))))))) = some r := h
  clear h
  replace H := Option.bind_eq_some_iff.mp H
  obtain ⟨t120, A20, H⟩ := H
  replace H : ((pestleref09_series.f k a0 4).bind fun t121 => ((pestleref09_series.f k a0 5).bind fun t122 => ((pestleref09_series.f k a0 6).bind fun t123 => (some (wrap64 (IntKind.u64.wrap (Int.tdiv (Int.tmod (IntKind.u64.wrap ((IntKind.u64.wrap ((IntKind.u64.wrap ((IntKind.u64.wrap ((IntKind.u64.wrap ((IntKind.u64.wrap (4 * t120)) + (IntKind.u64.wrap (2 * (IntKind.u64.wrap (1152921504606846976 - t121)))))) + 1152921504606846976)) - t122)) + 1152921504606846976)) - t123)) 1152921504606846976) 72057594037927936))))))) = some r := H
  have A2 := Aside0.mk A20
  clear A20
  replace H := Option.bind_eq_some_iff.mp H
  obtain ⟨t121, A30, H⟩ := H
  replace H : ((pestleref09_series.f k a0 5).bind fun t122 => ((pestleref09_series.f k a0 6).bind fun t123 => (some (wrap64 (IntKind.u64.wrap (Int.tdiv (Int.tmod (IntKind.u64.wrap ((IntKind.u64.wrap ((IntKind.u64.wrap ((IntKind.u64.wrap ((IntKind.u64.wrap ((IntKind.u64.wrap (4 * t120)) + (IntKind.u64.wrap (2 * (IntKind.u64.wrap (1152921504606846976 - t121)))))) + 1152921504606846976)) - t122)) + 1152921504606846976)) - t123)) 1152921504606846976) 72057594037927936)))))) = some r := H
  have A3 := Aside0.mk A30
  clear A30
  replace H := Option.bind_eq_some_iff.mp H
  obtain ⟨t122, A40, H⟩ := H
  replace H : ((pestleref09_series.f k a0 6).bind fun t123 => (some (wrap64 (IntKind.u64.wrap (Int.tdiv (Int.tmod (IntKind.u64.wrap ((IntKind.u64.wrap ((IntKind.u64.wrap ((IntKind.u64.wrap ((IntKind.u64.wrap ((IntKind.u64.wrap (4 * t120)) + (IntKind.u64.wrap (2 * (IntKind.u64.wrap (1152921504606846976 - t121)))))) + 1152921504606846976)) - t122)) + 1152921504606846976)) - t123)) 1152921504606846976) 72057594037927936))))) = some r := H
  have A4 := Aside0.mk A40
  clear A40
  replace H := Option.bind_eq_some_iff.mp H
  obtain ⟨t123, A50, H⟩ := H
  replace H : (some (wrap64 (IntKind.u64.wrap (Int.tdiv (Int.tmod (IntKind.u64.wrap ((IntKind.u64.wrap ((IntKind.u64.wrap ((IntKind.u64.wrap ((IntKind.u64.wrap ((IntKind.u64.wrap (4 * t120)) + (IntKind.u64.wrap (2 * (IntKind.u64.wrap (1152921504606846976 - t121)))))) + 1152921504606846976)) - t122)) + 1152921504606846976)) - t123)) 1152921504606846976) 72057594037927936)))) = some r := H
  have A5 := Aside0.mk A50
  clear A50
  obtain rfl := Option.some.inj H
  go_enter Try.func26, Try.ntmps26
  go_wp2_with (first | ((with_reducible refine gate_callee (f := 52) rfl ?_); refine goesL_ (some 5) rfl rfl Try.func52 (by kernel_rfl) rfl #[.int .i64 a0, .int .i64 1] rfl (by (try simp only [List.map_toArray, List.map_cons, List.map_nil]); first | done | rfl | (simp only [List.length_drop, List.length_take]; rfl)) ?_; (with_reducible refine (pestleref09_series.calls k a0 1 t120 _ A2.out).mono ?_); rintro e w' ⟨rfl, ⟨nd, rfl⟩⟩; refine ⟨_, rfl, ?_⟩) | ((with_reducible refine gate_callee (f := 52) rfl ?_); refine goesL_ (some 8) rfl rfl Try.func52 (by kernel_rfl) rfl #[.int .i64 a0, .int .i64 4] rfl (by (try simp only [List.map_toArray, List.map_cons, List.map_nil]); first | done | rfl | (simp only [List.length_drop, List.length_take]; rfl)) ?_; (with_reducible refine (pestleref09_series.calls k a0 4 t121 _ A3.out).mono ?_); rintro e w' ⟨rfl, ⟨nd, rfl⟩⟩; refine ⟨_, rfl, ?_⟩) | ((with_reducible refine gate_callee (f := 52) rfl ?_); refine goesL_ (some 14) rfl rfl Try.func52 (by kernel_rfl) rfl #[.int .i64 a0, .int .i64 5] rfl (by (try simp only [List.map_toArray, List.map_cons, List.map_nil]); first | done | rfl | (simp only [List.length_drop, List.length_take]; rfl)) ?_; (with_reducible refine (pestleref09_series.calls k a0 5 t122 _ A4.out).mono ?_); rintro e w' ⟨rfl, ⟨nd, rfl⟩⟩; refine ⟨_, rfl, ?_⟩) | ((with_reducible refine gate_callee (f := 52) rfl ?_); refine goesL_ (some 18) rfl rfl Try.func52 (by kernel_rfl) rfl #[.int .i64 a0, .int .i64 6] rfl (by (try simp only [List.map_toArray, List.map_cons, List.map_nil]); first | done | rfl | (simp only [List.length_drop, List.length_take]; rfl)) ?_; (with_reducible refine (pestleref09_series.calls k a0 6 t123 _ A5.out).mono ?_); rintro e w' ⟨rfl, ⟨nd, rfl⟩⟩; refine ⟨_, rfl, ?_⟩))
  go_ret
  exact ⟨by first | rfl | (simp; done) | (simp [*]; done) | (simp [show ∀ l_ : List UInt8, (l_ != []) = !l_.isEmpty from fun l_ => by cases l_ <;> rfl]; done), by repeat (first | exact Drawn0.refl _ | apply Drawn0.step)⟩

end Go.Proofs.Ytimgndceiibaeaa.Pall
