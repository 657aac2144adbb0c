-- PRINTED by print.py (a twelfth state) out of the translation. Not trusted: Lean checks it.
import Derived.Test.YtimgndceiibaeaaPallx0
import Derived.Test.YtimgndceiibaeaaPallx2
namespace Go.Proofs.Ytimgndceiibaeaa.Pall
open Go.RowKit Go.Proofs.YtimgndceiibaeaaW.PrintWords Go.Proofs.YtimgndceiibaeaaW.PrintLast Go.Proofs.YtimgndceiibaeaaW.PrintMore
attribute [local go_sem] max2_int min2_int max_two min_two max_three min_three max_four min_four   -- for this text's walks alone
set_option linter.unusedVariables false
set_option linter.unusedSimpArgs false

/-! ### pestleref01_Left: function 45 -/
mutual
def pestleref01_Left.j0 : Nat → Int → Int → Option (Int)
 | 0, _, _ => none
 | k + 1, x0, x5 => pestleref01_Left.l0 k x0 x5 0
def pestleref01_Left.l0 : Nat → Int → Int → Int → Option (Int)
 | 0, _, _, _ => none
 | k + 1, x0, x5, x6 => if x6 < x5 then (pestleref01_Left.l0 k ((((x0 * 2) % 4294967296) + ((Int.tdiv x0 2147483648) % 4294967296)) % 4294967296) x5 (wrap64 (x6 + 1))) else (some x0)
end
def pestleref01_Left.f (k : Nat) (a0 : Int) (a1 : Int) : Option (Int) := if (Int.tmod a1 32) < 0 then (pestleref01_Left.j0 k a0 (wrap64 ((Int.tmod a1 32) + 32))) else (pestleref01_Left.j0 k a0 (Int.tmod a1 32))
theorem pestleref01_Left.mono_l : ∀ k, (∀ y0 y1, LeO (pestleref01_Left.j0 k y0 y1) (pestleref01_Left.j0 (k + 1) y0 y1)) ∧ (∀ y0 y1 y2, LeO (pestleref01_Left.l0 k y0 y1 y2) (pestleref01_Left.l0 (k + 1) y0 y1 y2))
 | 0 => ⟨fun _ _ r h => by simp [pestleref01_Left.j0] at h, fun _ _ _ r h => by simp [pestleref01_Left.l0] at h⟩
 | k + 1 => by
  obtain ⟨ih0, ih1⟩ := pestleref01_Left.mono_l k
  refine ⟨?_, ?_⟩
  ·intro y0 y1
   unfold pestleref01_Left.j0
   repeat' first
   | (with_reducible exact ih0 _ _)
   | (with_reducible exact ih1 _ _ _)
   | (with_reducible exact LeO.refl _)
   | (with_reducible exact LeO.none _)
   | (with_reducible refine LeO.ite ?_ ?_)
   | (with_reducible refine LeO.bind ?_ (fun _ => ?_))
   | exact ih0 _ _
   | exact ih1 _ _ _
   | exact LeO.none _
   | refine LeO.ite ?_ ?_
   | refine LeO.bind ?_ (fun _ => ?_)
  ·intro y0 y1 y2
   unfold pestleref01_Left.l0
   repeat' first
   | (with_reducible exact ih0 _ _)
   | (with_reducible exact ih1 _ _ _)
   | (with_reducible exact LeO.refl _)
   | (with_reducible exact LeO.none _)
   | (with_reducible refine LeO.ite ?_ ?_)
   | (with_reducible refine LeO.bind ?_ (fun _ => ?_))
   | exact ih0 _ _
   | exact ih1 _ _ _
   | exact LeO.none _
   | refine LeO.ite ?_ ?_
   | refine LeO.bind ?_ (fun _ => ?_)
theorem pestleref01_Left.mono : ∀ a0 a1 k, LeO (pestleref01_Left.f k a0 a1) (pestleref01_Left.f (k + 1) a0 a1) := by
 intro a0 a1 k
 obtain ⟨ih0, ih1⟩ := pestleref01_Left.mono_l k
 unfold pestleref01_Left.f
 repeat' first
   | (with_reducible exact ih0 _ _)
   | (with_reducible exact ih1 _ _ _)
   | (with_reducible exact LeO.refl _)
   | (with_reducible exact LeO.none _)
   | (with_reducible refine LeO.ite ?_ ?_)
   | (with_reducible refine LeO.bind ?_ (fun _ => ?_))
   | exact ih0 _ _
   | exact ih1 _ _ _
   | exact LeO.none _
   | refine LeO.ite ?_ ?_
   | refine LeO.bind ?_ (fun _ => ?_)
set_option maxHeartbeats 8000000 in
set_option maxRecDepth 100000 in
theorem pestleref01_Left.calls (k : Nat) (a0 : Int) (a1 : Int) (r : Int) (w : World) (h : pestleref01_Left.f k a0 a1 = some r) :
  Calls Try.prog 45 #[.int .u32 a0, .int .i64 a1] w fun e w' => e = .returned (.int .u32 r) ∧ Drawn0 w w' := by
 have H : (if (Int.tmod a1 32) < 0 then (pestleref01_Left.j0 k a0 (wrap64 ((Int.tmod a1 32) + 32))) else (pestleref01_Left.j0 k a0 (Int.tmod a1 32))) = some r := h
 clear h
 have HC3 := Aside0.mk H
 clear H
 go_enter Try.func45, Try.ntmps45
 go_upto_if 10 with (fail)
 go_cut [5] (fun v5 wc => ∃ (kq : Nat) (x5_2 : Int), v5 = .int .i64 x5_2 ∧ Aside0 (pestleref01_Left.j0 kq a0 x5_2 = some r) ∧ Aside0 (kq ≤ k) ∧ Drawn0 w wc)
 case first =>
  have H := HC3.out
  clear HC3
  by_cases c4 : (Int.tmod a1 32) < 0
  ·rw [if_pos c4] at H
   have c4b0 : decide ((Int.tmod a1 32) < 0) = true := decide_eq_true c4
   clear c4
   (first | rw [c4b0] | (simp only [i64_w, i32_w]; rw [c4b0]) | skip)
   have H' := Aside0.mk H
   clear H
   go_wp2
   go_meet
   case rel => exact ⟨_, (wrap64 ((Int.tmod a1 32) + 32)), (by first | rfl | (simp; done) | (simp [*]; done)), H', ⟨by first | omega | exact Nat.le_refl _⟩, by repeat (first | exact Drawn0.refl _ | apply Drawn0.step)⟩
  ·rw [if_neg c4] at H
   have c4b0 : decide ((Int.tmod a1 32) < 0) = false := decide_eq_false c4
   clear c4
   (first | rw [c4b0] | (simp only [i64_w, i32_w]; rw [c4b0]) | skip)
   have H' := Aside0.mk H
   clear H
   go_wp2
   go_meet
   case rel => exact ⟨_, (Int.tmod a1 32), (by first | rfl | (simp; done) | (simp [*]; done)), H', ⟨by first | omega | exact Nat.le_refl _⟩, by repeat (first | exact Drawn0.refl _ | apply Drawn0.step)⟩
 case rest =>
  clear HC3
  try clear p2
  try clear c4
  try clear c4b0
  obtain ⟨kq, x5_2, rfl, HA, HJ2, ⟨mc2, rfl⟩⟩ := hcut
  cases kq with
  | zero => exact absurd HA.out (by simp [pestleref01_Left.j0])
  | succ kj2 =>
   have H := HA.out
   clear HA
   simp only [pestleref01_Left.j0] at H
   have H' := Aside0.mk H
   clear H
   go_wp2
   go_loopg [0, 6] kj2 (fun kq v0 v6 w' => ∃ (x0_2 : Int) (x6_2 : Int), v0 = .int .u32 x0_2 ∧ v6 = .int .i64 x6_2 ∧ Aside0 (pestleref01_Left.l0 kq x0_2 x5_2 x6_2 = some r) ∧ Aside0 (kq ≤ kj2) ∧ Drawn0 w w')
   case atStart => exact ⟨(a0), (0), (by first | rfl | (simp; done) | (simp [*]; done)), (by first | rfl | (simp; done) | (simp [*]; done)), H', ⟨Nat.le_refl _⟩, by repeat (first | exact Drawn0.refl _ | apply Drawn0.step)⟩
   case round =>
    clear H'
    try clear c2
    try clear p2
    try clear c4
    try clear c4b0
    try clear p2
    obtain ⟨x0_2, x6_2, rfl, rfl, HA, HK2, ⟨m2, rfl⟩⟩ := hrel
    cases gk with
    | zero => exact absurd HA.out (by simp [pestleref01_Left.l0])
    | succ k2 =>
     have H := HA.out
     clear HA
     simp only [pestleref01_Left.l0] at H
     by_cases c5 : x6_2 < x5_2
     ·rw [if_pos c5] at H
      have c5b0 : decide (x6_2 < x5_2) = true := decide_eq_true c5
      clear c5
      have H' := Aside0.mk H
      clear H
      go_wp2
      go_roundg k2
      case measure => have := HJ2.out; have := HK2.out; omega
      case rel => exact ⟨((((x0_2 * 2) % 4294967296) + ((Int.tdiv x0_2 2147483648) % 4294967296)) % 4294967296), (wrap64 (x6_2 + 1)), (by first | rfl | (simp; done) | (simp [*]; done)), (by first | rfl | (simp; done) | (simp [*]; done)), H', ⟨by have := HJ2.out; have := HK2.out; omega⟩, by repeat (first | exact Drawn0.refl _ | apply Drawn0.step)⟩
     ·rw [if_neg c5] at H
      have c5b0 : decide (x6_2 < x5_2) = false := decide_eq_false c5
      clear c5
      obtain rfl := Option.some.inj H
      go_wp2
      go_ret
      exact ⟨by first | rfl | (simp; done) | (simp [*]; done) | (simp [show ∀ l_ : List UInt8, (l_ != []) = !l_.isEmpty from fun l_ => by cases l_ <;> rfl]; done), by repeat (first | exact Drawn0.refl _ | apply Drawn0.step)⟩

/-! ### pestleref10_Sum: function 19 -/
def pestleref10_Sum.l0 : Nat → List Int → Int → Int → Option (Int)
 | 0, _, _, _ => none
 | k + 1, x0, x3, x4 => if x4 < (x0.length : Int) then (if 0 ≤ x4 then ((pestleref01_Left.f k (rd x0 x4) (Int.tmod x4 32)).bind fun t109 => (pestleref10_Sum.l0 k x0 ((x3 + t109) % 4294967296) (wrap64 (x4 + 1)))) else (none)) else (some x3)
def pestleref10_Sum.f (k : Nat) (l0 : List Int) : Option (Int) := pestleref10_Sum.l0 k l0 0 0
theorem pestleref10_Sum.mono_l : ∀ k, (∀ y0 y1 y2, LeO (pestleref10_Sum.l0 k y0 y1 y2) (pestleref10_Sum.l0 (k + 1) y0 y1 y2))
 | 0 => fun _ _ _ r h => by simp [pestleref10_Sum.l0] at h
 | k + 1 => by
  have ih0 := pestleref10_Sum.mono_l k
  ·intro y0 y1 y2
   unfold pestleref10_Sum.l0
   repeat' first
   | (with_reducible exact ih0 _ _ _)
   | (with_reducible exact pestleref01_Left.mono _ _ _)
   | (with_reducible exact LeO.refl _)
   | (with_reducible exact LeO.none _)
   | (with_reducible refine LeO.ite ?_ ?_)
   | (with_reducible refine LeO.bind ?_ (fun _ => ?_))
   | exact ih0 _ _ _
   | exact pestleref01_Left.mono _ _ _
   | exact LeO.none _
   | refine LeO.ite ?_ ?_
   | refine LeO.bind ?_ (fun _ => ?_)
theorem pestleref10_Sum.mono : ∀ a0 k, LeO (pestleref10_Sum.f k a0) (pestleref10_Sum.f (k + 1) a0) := by
 intro a0 k
 have ih0 := pestleref10_Sum.mono_l k
 unfold pestleref10_Sum.f
 repeat' first
   | (with_reducible exact ih0 _ _ _)
   | (with_reducible exact pestleref01_Left.mono _ _ _)
   | (with_reducible exact LeO.refl _)
   | (with_reducible exact LeO.none _)
   | (with_reducible refine LeO.ite ?_ ?_)
   | (with_reducible refine LeO.bind ?_ (fun _ => ?_))
   | exact ih0 _ _ _
   | exact pestleref01_Left.mono _ _ _
   | exact LeO.none _
   | refine LeO.ite ?_ ?_
   | refine LeO.bind ?_ (fun _ => ?_)
set_option maxHeartbeats 8000000 in
set_option maxRecDepth 100000 in
theorem pestleref10_Sum.calls (k : Nat) (A0 : Option Addr) (c0 : Nat) (l0 : List Int) (r : Int) (w : World) (hr0 : Kd.C (Kd.int .u32) w A0 l0.length l0) (hc0 : l0.length ≤ c0) (h : pestleref10_Sum.f k l0 = some r) :
  Calls Try.prog 19 #[.slice A0 l0.length c0] w fun e w' => e = .returned (.int .u32 r) ∧ Drawn0 w w' := by
 have HR0 := Aside0.mk hr0
 have HC0 := Aside0.mk hc0
 clear hr0 hc0
 have H : (pestleref10_Sum.l0 k l0 0 0) = some r := h
 clear h
 have H' := Aside0.mk H
 clear H
 go_enter Try.func19, Try.ntmps19
 go_wp2
 go_loopg [3, 4] k (fun kq v3 v4 w' => ∃ (x3_1 : Int) (x4_1 : Int), v3 = .int .u32 x3_1 ∧ v4 = .int .i64 x4_1 ∧ Aside0 (pestleref10_Sum.l0 kq l0 x3_1 x4_1 = some r) ∧ Aside0 (kq ≤ k) ∧ Drawn0 w w')
 case atStart => exact ⟨(0), (0), (by first | rfl | (simp; done) | (simp [*]; done)), (by first | rfl | (simp; done) | (simp [*]; done)), H', ⟨Nat.le_refl _⟩, by repeat (first | exact Drawn0.refl _ | apply Drawn0.step)⟩
 case round =>
  clear H'
  try clear c1
  obtain ⟨x3_1, x4_1, rfl, rfl, HA, HK1, ⟨m1, rfl⟩⟩ := hrel
  cases gk with
  | zero => exact absurd HA.out (by simp [pestleref10_Sum.l0])
  | succ k1 =>
   have H := HA.out
   clear HA
   simp only [pestleref10_Sum.l0] at H
   by_cases c2 : x4_1 < (l0.length : Int)
   ·rw [if_pos c2] at H
    have c2b0 : decide (x4_1 < (l0.length : Int)) = true := decide_eq_true c2
    clear c2
    by_cases c3 : 0 ≤ x4_1
    ·rw [if_pos c3] at H
     have c3b0 : decide (0 ≤ x4_1) = true := decide_eq_true c3
     clear c3
     replace H := Option.bind_eq_some_iff.mp H
     obtain ⟨t109, A40, H⟩ := H
     replace H : (pestleref10_Sum.l0 k1 l0 ((x3_1 + t109) % 4294967296) (wrap64 (x4_1 + 1))) = some r := H
     have A4 := Aside0.mk A40
     clear A40
     have H' := Aside0.mk H
     clear H
     have p108 : 0 ≤ (x4_1 : Int) := of_decide_eq_true (by first | (with_reducible assumption) | assumption)
     have q108 : x4_1 < (l0.length : Int) := of_decide_eq_true (by first | (with_reducible assumption) | assumption)
     obtain ⟨ad108, e108, hx108_0⟩ := Kd.at_int HR0.out x4_1 p108 q108
     cases e108
     replace p108 := eq_true p108
     replace q108 := eq_true q108
     go_wp2_with (first | ((with_reducible refine gate_callee (f := 45) rfl ?_); refine goesL_ (some 18) rfl rfl Try.func45 (by kernel_rfl) rfl #[.int .u32 (rd l0 x4_1), .int .i64 (Int.tmod x4_1 32)] rfl (by (try simp only [List.map_toArray, List.map_cons, List.map_nil]); first | done | rfl | (simp only [List.length_drop, List.length_take]; rfl)) ?_; (with_reducible refine (pestleref01_Left.calls k1 (rd l0 x4_1) (Int.tmod x4_1 32) t109 _ A4.out).mono ?_); rintro e w' ⟨rfl, ⟨nd, rfl⟩⟩; refine ⟨_, rfl, ?_⟩))
     go_roundg k1
     case measure => have := HK1.out; omega
     case rel => exact ⟨((x3_1 + t109) % 4294967296), (wrap64 (x4_1 + 1)), (by first | rfl | (simp; done) | (simp [*]; done)), (by first | rfl | (simp; done) | (simp [*]; done)), H', ⟨by have := HK1.out; omega⟩, by repeat (first | exact Drawn0.refl _ | apply Drawn0.step)⟩
    ·rw [if_neg c3] at H
     exact absurd H (by simp)
   ·rw [if_neg c2] at H
    have c2b0 : decide (x4_1 < (l0.length : Int)) = false := decide_eq_false c2
    clear c2
    obtain rfl := Option.some.inj H
    go_wp2
    go_ret
    exact ⟨by first | rfl | (simp; done) | (simp [*]; done) | (simp [show ∀ l_ : List UInt8, (l_ != []) = !l_.isEmpty from fun l_ => by cases l_ <;> rfl]; done), by repeat (first | exact Drawn0.refl _ | apply Drawn0.step)⟩

/-! ### pestlelaw10_Plain: function 20 -/
def pestlelaw10_Plain.f (k : Nat)  : Option (List Int) := (pi_Words.f k 0 1042).bind fun bt110 => (some bt110.1)
theorem pestlelaw10_Plain.mono : ∀ k, LeO (pestlelaw10_Plain.f k ) (pestlelaw10_Plain.f (k + 1) ) := by
 intro  k
 unfold pestlelaw10_Plain.f
 repeat' first
   | (with_reducible exact pi_Words.mono _ _ _)
   | (with_reducible exact LeO.refl _)
   | (with_reducible exact LeO.none _)
   | (with_reducible refine LeO.ite ?_ ?_)
   | (with_reducible refine LeO.bind ?_ (fun _ => ?_))
   | exact pi_Words.mono _ _ _
   | exact LeO.none _
   | refine LeO.ite ?_ ?_
   | refine LeO.bind ?_ (fun _ => ?_)
set_option maxHeartbeats 8000000 in
set_option maxRecDepth 100000 in
theorem pestlelaw10_Plain.calls (k : Nat)  (r : List Int) (w : World) (h : pestlelaw10_Plain.f k  = some r) :
  Calls Try.prog 20 #[] w fun e w' => ∃ v0_ : Value, e = .returned (v0_) ∧ Kd.R (Kd.int .u32) 23 w' w.heap.size (fun _ => True) v0_ r ∧ Below w.heap.size w w' := by
 have HB := Aside0.mk (Below.refl w.heap.size w)
 have H : ((pi_Words.f k 0 1042).bind fun bt110 => (some bt110.1)) = some r := h
 clear h
 replace H := Option.bind_eq_some_iff.mp H
 obtain ⟨⟨t110, t111⟩, A10, H⟩ := H
 replace H : (some t110) = some r := H
 have A1 := Aside0.mk A10
 clear A10
 obtain rfl := Option.some.inj H
 go_enter Try.func20, Try.ntmps20
 go_wp2_with (first | ((with_reducible refine gate_callee (f := 15) rfl ?_); refine goesL_ (some 4) rfl rfl Try.func15 (by kernel_rfl) rfl #[.int .i64 0, .int .i64 1042] rfl (by (try simp only [List.map_toArray, List.map_cons, List.map_nil]); first | done | rfl | (simp only [List.length_drop, List.length_take]; rfl)) ?_; (with_reducible refine (pi_Words.calls k 0 1042 t110 t111 _ A1.out).mono ?_); rintro e w2 ⟨v112, rfl, ho0, hb⟩; refine ⟨_, rfl, ?_⟩; have n0_ := Aside0.mk (Kd.R_lower ho0 (below_size (by repeat (first | (with_reducible first | exact HB.out | apply below_alloc | apply pw_below_drewN | apply below_drew1) | exact HB.out)))); have n1_ := Aside0.mk (below_step (by repeat (first | (with_reducible first | exact HB.out | apply below_alloc | apply pw_below_drewN | apply below_drew1) | exact HB.out)) hb); clear HB; have HO113 := n0_; have HB := n1_; clear n0_ n1_; (try clear hb); (try clear hb2); (try clear hk); (try clear hi); (try clear ho0)))
 go_ret
 exact ⟨_, by first | rfl | (simp [errW_none, errW_some] <;> rfl) | (simp [*, errW_none, errW_some] <;> rfl), by (with_reducible repeat (first | apply Kd.R_alloc | apply Kd.R_drewN | apply Kd.R_drew)); exact HO113.out, by repeat (first | (with_reducible first | exact HB.out | apply below_alloc | apply pw_below_drewN | apply below_drew1) | exact HB.out)⟩

/-! ### pestleref10_f: function 50 -/
def pestleref10_f.f (l0 : List Int) (a1 : Int) : Option (Int) := if 0 ≤ (18 + ((Int.tdiv a1 16777216) % 4294967296)) then (if (18 + ((Int.tdiv a1 16777216) % 4294967296)) < (l0.length : Int) then (if 0 ≤ (274 + (((Int.tdiv a1 65536) % 4294967296) % 256)) then (if (274 + (((Int.tdiv a1 65536) % 4294967296) % 256)) < (l0.length : Int) then (if 0 ≤ (530 + (((Int.tdiv a1 256) % 4294967296) % 256)) then (if (530 + (((Int.tdiv a1 256) % 4294967296) % 256)) < (l0.length : Int) then (if 0 ≤ (wrap64 (786 + (wrap64 (Int.tmod a1 256)))) then (if (wrap64 (786 + (wrap64 (Int.tmod a1 256)))) < (l0.length : Int) then (some (((Go.bits .xor .u32 (((rd l0 (18 + ((Int.tdiv a1 16777216) % 4294967296))) + (rd l0 (274 + (((Int.tdiv a1 65536) % 4294967296) % 256)))) % 4294967296) (rd l0 (530 + (((Int.tdiv a1 256) % 4294967296) % 256)))) + (rd l0 (wrap64 (786 + (wrap64 (Int.tmod a1 256)))))) % 4294967296)) else (none)) else (none)) else (none)) else (none)) else (none)) else (none)) else (none)) else (none)
set_option maxHeartbeats 8000000 in
set_option maxRecDepth 100000 in
theorem pestleref10_f.calls (A0 : Option Addr) (c0 : Nat) (l0 : List Int) (a1 : Int) (r : Int) (w : World) (hr0 : Kd.C (Kd.int .u32) w A0 l0.length l0) (hc0 : l0.length ≤ c0) (h : pestleref10_f.f l0 a1 = some r) :
  Calls Try.prog 50 #[.slice A0 l0.length c0, .int .u32 a1] w fun e w' => e = .returned (.int .u32 r) ∧ Drawn0 w w' := by
 have HR0 := Aside0.mk hr0
 have HC0 := Aside0.mk hc0
 clear hr0 hc0
 have H : (if 0 ≤ (18 + ((Int.tdiv a1 16777216) % 4294967296)) then (if (18 + ((Int.tdiv a1 16777216) % 4294967296)) < (l0.length : Int) then (if 0 ≤ (274 + (((Int.tdiv a1 65536) % 4294967296) % 256)) then (if (274 + (((Int.tdiv a1 65536) % 4294967296) % 256)) < (l0.length : Int) then (if 0 ≤ (530 + (((Int.tdiv a1 256) % 4294967296) % 256)) then (if (530 + (((Int.tdiv a1 256) % 4294967296) % 256)) < (l0.length : Int) then (if 0 ≤ (wrap64 (786 + (wrap64 (Int.tmod a1 256)))) then (if (wrap64 (786 + (wrap64 (Int.tmod a1 256)))) < (l0.length : Int) then (some (((Go.bits .xor .u32 (((rd l0 (18 + ((Int.tdiv a1 16777216) % 4294967296))) + (rd l0 (274 + (((Int.tdiv a1 65536) % 4294967296) % 256)))) % 4294967296) (rd l0 (530 + (((Int.tdiv a1 256) % 4294967296) % 256)))) + (rd l0 (wrap64 (786 + (wrap64 (Int.tmod a1 256)))))) % 4294967296)) else (none)) else (none)) else (none)) else (none)) else (none)) else (none)) else (none)) else (none)) = some r := h
 clear h
 obtain ⟨ji3, hji3⟩ : ∃ j_ : Int, (18 + ((Int.tdiv a1 16777216) % 4294967296)) = j_ := ⟨_, rfl⟩
 replace H : (if 0 ≤ (ji3) then (if (ji3) < (l0.length : Int) then (if 0 ≤ (274 + (((Int.tdiv a1 65536) % 4294967296) % 256)) then (if (274 + (((Int.tdiv a1 65536) % 4294967296) % 256)) < (l0.length : Int) then (if 0 ≤ (530 + (((Int.tdiv a1 256) % 4294967296) % 256)) then (if (530 + (((Int.tdiv a1 256) % 4294967296) % 256)) < (l0.length : Int) then (if 0 ≤ (wrap64 (786 + (wrap64 (Int.tmod a1 256)))) then (if (wrap64 (786 + (wrap64 (Int.tmod a1 256)))) < (l0.length : Int) then (some (((Go.bits .xor .u32 (((rd l0 (ji3)) + (rd l0 (274 + (((Int.tdiv a1 65536) % 4294967296) % 256)))) % 4294967296) (rd l0 (530 + (((Int.tdiv a1 256) % 4294967296) % 256)))) + (rd l0 (wrap64 (786 + (wrap64 (Int.tmod a1 256)))))) % 4294967296)) else (none)) else (none)) else (none)) else (none)) else (none)) else (none)) else (none)) else (none)) = some r := by first | (rw [hji3] at H; exact H) | (simp only [hji3] at H ⊢; exact H)
 by_cases c4 : 0 ≤ (ji3)
 ·rw [if_pos c4] at H
  have c4b0 : decide (0 ≤ (ji3)) = true := decide_eq_true c4
  clear c4
  by_cases c5 : (ji3) < (l0.length : Int)
  ·rw [if_pos c5] at H
   have c5b0 : decide ((ji3) < (l0.length : Int)) = true := decide_eq_true c5
   clear c5
   obtain ⟨ji6, hji6⟩ : ∃ j_ : Int, (274 + (((Int.tdiv a1 65536) % 4294967296) % 256)) = j_ := ⟨_, rfl⟩
   replace H : (if 0 ≤ (ji6) then (if (ji6) < (l0.length : Int) then (if 0 ≤ (530 + (((Int.tdiv a1 256) % 4294967296) % 256)) then (if (530 + (((Int.tdiv a1 256) % 4294967296) % 256)) < (l0.length : Int) then (if 0 ≤ (wrap64 (786 + (wrap64 (Int.tmod a1 256)))) then (if (wrap64 (786 + (wrap64 (Int.tmod a1 256)))) < (l0.length : Int) then (some (((Go.bits .xor .u32 (((rd l0 (ji3)) + (rd l0 (ji6))) % 4294967296) (rd l0 (530 + (((Int.tdiv a1 256) % 4294967296) % 256)))) + (rd l0 (wrap64 (786 + (wrap64 (Int.tmod a1 256)))))) % 4294967296)) else (none)) else (none)) else (none)) else (none)) else (none)) else (none)) = some r := by first | (rw [hji6] at H; exact H) | (simp only [hji6] at H ⊢; exact H)
   by_cases c7 : 0 ≤ (ji6)
   ·rw [if_pos c7] at H
    have c7b0 : decide (0 ≤ (ji6)) = true := decide_eq_true c7
    clear c7
    by_cases c8 : (ji6) < (l0.length : Int)
    ·rw [if_pos c8] at H
     have c8b0 : decide ((ji6) < (l0.length : Int)) = true := decide_eq_true c8
     clear c8
     obtain ⟨ji9, hji9⟩ : ∃ j_ : Int, (530 + (((Int.tdiv a1 256) % 4294967296) % 256)) = j_ := ⟨_, rfl⟩
     replace H : (if 0 ≤ (ji9) then (if (ji9) < (l0.length : Int) then (if 0 ≤ (wrap64 (786 + (wrap64 (Int.tmod a1 256)))) then (if (wrap64 (786 + (wrap64 (Int.tmod a1 256)))) < (l0.length : Int) then (some (((Go.bits .xor .u32 (((rd l0 (ji3)) + (rd l0 (ji6))) % 4294967296) (rd l0 (ji9))) + (rd l0 (wrap64 (786 + (wrap64 (Int.tmod a1 256)))))) % 4294967296)) else (none)) else (none)) else (none)) else (none)) = some r := by first | (rw [hji9] at H; exact H) | (simp only [hji9] at H ⊢; exact H)
     by_cases c10 : 0 ≤ (ji9)
     ·rw [if_pos c10] at H
      have c10b0 : decide (0 ≤ (ji9)) = true := decide_eq_true c10
      clear c10
      by_cases c11 : (ji9) < (l0.length : Int)
      ·rw [if_pos c11] at H
       have c11b0 : decide ((ji9) < (l0.length : Int)) = true := decide_eq_true c11
       clear c11
       obtain ⟨ji12, hji12⟩ : ∃ j_ : Int, (wrap64 (786 + (wrap64 (Int.tmod a1 256)))) = j_ := ⟨_, rfl⟩
       replace H : (if 0 ≤ (ji12) then (if (ji12) < (l0.length : Int) then (some (((Go.bits .xor .u32 (((rd l0 (ji3)) + (rd l0 (ji6))) % 4294967296) (rd l0 (ji9))) + (rd l0 (ji12))) % 4294967296)) else (none)) else (none)) = some r := by first | (rw [hji12] at H; exact H) | (simp only [hji12] at H ⊢; exact H)
       have hji12w : (IntKind.i64.wrap (786 + (wrap64 (Int.tmod a1 256)))) = ji12 := (i64_w _).trans hji12
       by_cases c13 : 0 ≤ (ji12)
       ·rw [if_pos c13] at H
        have c13b0 : decide (0 ≤ (ji12)) = true := decide_eq_true c13
        clear c13
        by_cases c14 : (ji12) < (l0.length : Int)
        ·rw [if_pos c14] at H
         have c14b0 : decide ((ji12) < (l0.length : Int)) = true := decide_eq_true c14
         clear c14
         obtain rfl := Option.some.inj H
         have p114 : 0 ≤ ((ji3) : Int) := of_decide_eq_true (by first | (with_reducible assumption) | assumption)
         have q114 : (ji3) < (l0.length : Int) := of_decide_eq_true (by first | (with_reducible assumption) | assumption)
         obtain ⟨ad114, e114, hx114_0⟩ := Kd.at_int HR0.out (ji3) p114 q114
         cases e114
         replace p114 := eq_true p114
         replace q114 := eq_true q114
         have p115 : 0 ≤ ((ji6) : Int) := of_decide_eq_true (by first | (with_reducible assumption) | assumption)
         have q115 : (ji6) < (l0.length : Int) := of_decide_eq_true (by first | (with_reducible assumption) | assumption)
         obtain ⟨ad115, e115, hx115_0⟩ := Kd.at_int HR0.out (ji6) p115 q115
         obtain rfl : ad114 = ad115 := (by injection e115)
         replace p115 := eq_true p115
         replace q115 := eq_true q115
         have p116 : 0 ≤ ((ji9) : Int) := of_decide_eq_true (by first | (with_reducible assumption) | assumption)
         have q116 : (ji9) < (l0.length : Int) := of_decide_eq_true (by first | (with_reducible assumption) | assumption)
         obtain ⟨ad116, e116, hx116_0⟩ := Kd.at_int HR0.out (ji9) p116 q116
         obtain rfl : ad114 = ad116 := (by injection e116)
         replace p116 := eq_true p116
         replace q116 := eq_true q116
         have p117 : 0 ≤ ((ji12) : Int) := of_decide_eq_true (by first | (with_reducible assumption) | assumption)
         have q117 : (ji12) < (l0.length : Int) := of_decide_eq_true (by first | (with_reducible assumption) | assumption)
         obtain ⟨ad117, e117, hx117_0⟩ := Kd.at_int HR0.out (ji12) p117 q117
         obtain rfl : ad114 = ad117 := (by injection e117)
         replace p117 := eq_true p117
         replace q117 := eq_true q117
         have hs_ji3 : 18 + a1.tdiv 16777216 % 4294967296 = ji3 := by first | exact hji3 | (rw [← hji3]; omega)
         have hw_ji3 : IntKind.i64.wrap (18 + a1.tdiv 16777216 % 4294967296) = ji3 := by rw [hs_ji3, IntKind.wrap_i64]; omega
         have hs_ji6 : 274 + a1.tdiv 65536 % 256 = ji6 := by first | exact hji6 | (rw [← hji6]; omega)
         have hw_ji6 : IntKind.i64.wrap (274 + a1.tdiv 65536 % 256) = ji6 := by rw [hs_ji6, IntKind.wrap_i64]; omega
         have hs_ji9 : 530 + a1.tdiv 256 % 256 = ji9 := by first | exact hji9 | (rw [← hji9]; omega)
         have hw_ji9 : IntKind.i64.wrap (530 + a1.tdiv 256 % 256) = ji9 := by rw [hs_ji9, IntKind.wrap_i64]; omega
         go_enter Try.func50, Try.ntmps50
         go_wp2
         repeat (go_quiet (fail); try go_wp2)
         go_ret
         exact ⟨by first | rfl | (simp; done) | (simp only [← hji3, ← hji6, ← hji9, ← hji12] <;> (first | rfl | simp)) | (simp [*]; done), by repeat (first | exact Drawn0.refl _ | apply Drawn0.step)⟩
        ·rw [if_neg c14] at H
         exact absurd H (by simp)
       ·rw [if_neg c13] at H
        exact absurd H (by simp)
      ·rw [if_neg c11] at H
       exact absurd H (by simp)
     ·rw [if_neg c10] at H
      exact absurd H (by simp)
    ·rw [if_neg c8] at H
     exact absurd H (by simp)
   ·rw [if_neg c7] at H
    exact absurd H (by simp)
  ·rw [if_neg c5] at H
   exact absurd H (by simp)
 ·rw [if_neg c4] at H
  exact absurd H (by simp)

/-! ### pestleref10_Encrypt: function 24 -/
def pestleref10_Encrypt.l0 : Nat → List Int → Int → Int → Int → Option (Int × Int)
 | 0, _, _, _, _ => none
 | k + 1, x0, x1, x2, x8 => if x8 < 16 then (if 0 ≤ x8 then (if x8 < (x0.length : Int) then ((pestleref10_f.f x0 (Go.bits .xor .u32 x1 (rd x0 x8))).bind fun t119 => (pestleref10_Encrypt.l0 k x0 (Go.bits .xor .u32 x2 t119) (Go.bits .xor .u32 x1 (rd x0 x8)) (wrap64 (x8 + 1)))) else (none)) else (none)) else (if 17 < (x0.length : Int) then (if 16 < (x0.length : Int) then (some (Go.bits .xor .u32 x2 (rd x0 17), Go.bits .xor .u32 x1 (rd x0 16))) else (none)) else (none))
def pestleref10_Encrypt.f (k : Nat) (l0 : List Int) (a1 : Int) (a2 : Int) : Option (Int × Int) := pestleref10_Encrypt.l0 k l0 a1 a2 0
theorem pestleref10_Encrypt.mono_l : ∀ k, (∀ y0 y1 y2 y3, LeO (pestleref10_Encrypt.l0 k y0 y1 y2 y3) (pestleref10_Encrypt.l0 (k + 1) y0 y1 y2 y3))
 | 0 => fun _ _ _ _ r h => by simp [pestleref10_Encrypt.l0] at h
 | k + 1 => by
  have ih0 := pestleref10_Encrypt.mono_l k
  ·intro y0 y1 y2 y3
   unfold pestleref10_Encrypt.l0
   repeat' first
   | (with_reducible exact ih0 _ _ _ _)
   | (with_reducible exact LeO.refl _)
   | (with_reducible exact LeO.none _)
   | (with_reducible refine LeO.ite ?_ ?_)
   | (with_reducible refine LeO.bind ?_ (fun _ => ?_))
   | exact ih0 _ _ _ _
   | exact LeO.none _
   | refine LeO.ite ?_ ?_
   | refine LeO.bind ?_ (fun _ => ?_)
theorem pestleref10_Encrypt.mono : ∀ a0 a1 a2 k, LeO (pestleref10_Encrypt.f k a0 a1 a2) (pestleref10_Encrypt.f (k + 1) a0 a1 a2) := by
 intro a0 a1 a2 k
 have ih0 := pestleref10_Encrypt.mono_l k
 unfold pestleref10_Encrypt.f
 repeat' first
   | (with_reducible exact ih0 _ _ _ _)
   | (with_reducible exact LeO.refl _)
   | (with_reducible exact LeO.none _)
   | (with_reducible refine LeO.ite ?_ ?_)
   | (with_reducible refine LeO.bind ?_ (fun _ => ?_))
   | exact ih0 _ _ _ _
   | exact LeO.none _
   | refine LeO.ite ?_ ?_
   | refine LeO.bind ?_ (fun _ => ?_)
set_option maxHeartbeats 8000000 in
set_option maxRecDepth 100000 in
theorem pestleref10_Encrypt.calls (k : Nat) (A0 : Option Addr) (c0 : Nat) (l0 : List Int) (a1 : Int) (a2 : Int) (r1 : Int) (r2 : Int) (w : World) (hr0 : Kd.C (Kd.int .u32) w A0 l0.length l0) (hc0 : l0.length ≤ c0) (h : pestleref10_Encrypt.f k l0 a1 a2 = some (r1, r2)) :
  Calls Try.prog 24 #[.slice A0 l0.length c0, .int .u32 a1, .int .u32 a2] w fun e w' => e = .returned (.tuple #[.int .u32 r1, .int .u32 r2]) ∧ Drawn0 w w' := by
 have HR0 := Aside0.mk hr0
 have HC0 := Aside0.mk hc0
 clear hr0 hc0
 have H : (pestleref10_Encrypt.l0 k l0 a1 a2 0) = some (r1, r2) := h
 clear h
 have H' := Aside0.mk H
 clear H
 go_enter Try.func24, Try.ntmps24
 go_wp2
 repeat (go_quiet (fail); try go_wp2)
 go_loopg [1, 2, 8] k (fun kq v1 v2 v8 w' => ∃ (x1_1 : Int) (x2_1 : Int) (x8_1 : Int), v1 = .int .u32 x1_1 ∧ v2 = .int .u32 x2_1 ∧ v8 = .int .i64 x8_1 ∧ Aside0 (pestleref10_Encrypt.l0 kq l0 x1_1 x2_1 x8_1 = some (r1, r2)) ∧ Aside0 (kq ≤ k) ∧ Drawn0 w w')
 case atStart => exact ⟨(a1), (a2), (0), (by first | rfl | (simp; done) | (simp [*]; done)), (by first | rfl | (simp; done) | (simp [*]; done)), (by first | rfl | (simp; done) | (simp [*]; done)), H', ⟨Nat.le_refl _⟩, by repeat (first | exact Drawn0.refl _ | apply Drawn0.step)⟩
 case round =>
  clear H'
  try clear c2
  try clear p2
  obtain ⟨x1_1, x2_1, x8_1, rfl, rfl, rfl, HA, HK1, ⟨m1, rfl⟩⟩ := hrel
  cases gk with
  | zero => exact absurd HA.out (by simp [pestleref10_Encrypt.l0])
  | succ k1 =>
   have H := HA.out
   clear HA
   simp only [pestleref10_Encrypt.l0] at H
   by_cases c4 : x8_1 < 16
   ·rw [if_pos c4] at H
    have c4b0 : decide (x8_1 < 16) = true := decide_eq_true c4
    clear c4
    by_cases c5 : 0 ≤ x8_1
    ·rw [if_pos c5] at H
     have c5b0 : decide (0 ≤ x8_1) = true := decide_eq_true c5
     clear c5
     by_cases c6 : x8_1 < (l0.length : Int)
     ·rw [if_pos c6] at H
      have c6b0 : decide (x8_1 < (l0.length : Int)) = true := decide_eq_true c6
      clear c6
      replace H := Option.bind_eq_some_iff.mp H
      obtain ⟨t119, A70, H⟩ := H
      replace H : (pestleref10_Encrypt.l0 k1 l0 (Go.bits .xor .u32 x2_1 t119) (Go.bits .xor .u32 x1_1 (rd l0 x8_1)) (wrap64 (x8_1 + 1))) = some (r1, r2) := H
      have A7 := Aside0.mk A70
      clear A70
      have H' := Aside0.mk H
      clear H
      have p118 : 0 ≤ (x8_1 : Int) := of_decide_eq_true (by first | (with_reducible assumption) | assumption)
      have q118 : x8_1 < (l0.length : Int) := of_decide_eq_true (by first | (with_reducible assumption) | assumption)
      obtain ⟨ad118, e118, hx118_0⟩ := Kd.at_int HR0.out x8_1 p118 q118
      cases e118
      replace p118 := eq_true p118
      replace q118 := eq_true q118
      go_wp2_with (first | (go_at_call 50; (with_reducible refine (pestleref10_f.calls _ _ l0 (Go.bits .xor .u32 x1_1 (rd l0 x8_1)) t119 _ ?side1 ?side2 A7.out).mono ?_); (case side1 => repeat (first | exact HR0.out | (with_reducible refine Kd.C_alloc ?_ _) | (with_reducible refine Kd.C_drewN ?_ _) | (with_reducible refine Kd.C_drew ?_))); (case side2 => exact HC0.out); rintro e w' ⟨rfl, ⟨nd, rfl⟩⟩; (try first | exact ⟨rfl, _, World.drewN_drewN _ _ _⟩ | exact ⟨rfl, _, Eq.trans (World.drewN_drewN _ _ _) (congrArg (World.drewN _) (Nat.add_assoc _ _ _))⟩)))
      repeat (go_quiet (first | (go_at_call 50; (with_reducible refine (pestleref10_f.calls _ _ l0 (Go.bits .xor .u32 x1_1 (rd l0 x8_1)) t119 _ ?side1 ?side2 A7.out).mono ?_); (case side1 => repeat (first | exact HR0.out | (with_reducible refine Kd.C_alloc ?_ _) | (with_reducible refine Kd.C_drewN ?_ _) | (with_reducible refine Kd.C_drew ?_))); (case side2 => exact HC0.out); rintro e w' ⟨rfl, ⟨nd, rfl⟩⟩; (try first | exact ⟨rfl, _, World.drewN_drewN _ _ _⟩ | exact ⟨rfl, _, Eq.trans (World.drewN_drewN _ _ _) (congrArg (World.drewN _) (Nat.add_assoc _ _ _))⟩))); try go_wp2_with (first | (go_at_call 50; (with_reducible refine (pestleref10_f.calls _ _ l0 (Go.bits .xor .u32 x1_1 (rd l0 x8_1)) t119 _ ?side1 ?side2 A7.out).mono ?_); (case side1 => repeat (first | exact HR0.out | (with_reducible refine Kd.C_alloc ?_ _) | (with_reducible refine Kd.C_drewN ?_ _) | (with_reducible refine Kd.C_drew ?_))); (case side2 => exact HC0.out); rintro e w' ⟨rfl, ⟨nd, rfl⟩⟩; (try first | exact ⟨rfl, _, World.drewN_drewN _ _ _⟩ | exact ⟨rfl, _, Eq.trans (World.drewN_drewN _ _ _) (congrArg (World.drewN _) (Nat.add_assoc _ _ _))⟩))))
      go_roundg k1
      case measure => have := HK1.out; omega
      case rel => exact ⟨(Go.bits .xor .u32 x2_1 t119), (Go.bits .xor .u32 x1_1 (rd l0 x8_1)), (wrap64 (x8_1 + 1)), (by first | rfl | (simp; done) | (simp [*]; done)), (by first | rfl | (simp; done) | (simp [*]; done)), (by first | rfl | (simp; done) | (simp [*]; done)), H', ⟨by have := HK1.out; omega⟩, by repeat (first | exact Drawn0.refl _ | apply Drawn0.step)⟩
     ·rw [if_neg c6] at H
      exact absurd H (by simp)
    ·rw [if_neg c5] at H
     exact absurd H (by simp)
   ·rw [if_neg c4] at H
    have c4b0 : decide (x8_1 < 16) = false := decide_eq_false c4
    clear c4
    by_cases c8 : 17 < (l0.length : Int)
    ·rw [if_pos c8] at H
     have c8b0 : decide (17 < (l0.length : Int)) = true := decide_eq_true c8
     have c8b1 : decide (17 < l0.length) = true := decide_eq_true (by omega)
     clear c8
     by_cases c9 : 16 < (l0.length : Int)
     ·rw [if_pos c9] at H
      have c9b0 : decide (16 < (l0.length : Int)) = true := decide_eq_true c9
      have c9b1 : decide (16 < l0.length) = true := decide_eq_true (by omega)
      clear c9
      simp only [Option.some.injEq, Prod.mk.injEq] at H
      obtain ⟨rfl, rfl⟩ := H
      have p120 : 0 ≤ (17 : Int) := (by omega)
      have q120 : 17 < (l0.length : Int) := of_decide_eq_true (by first | (with_reducible assumption) | assumption)
      obtain ⟨ad120, e120, hx120_0⟩ := Kd.at_int HR0.out 17 p120 q120
      cases e120
      (try simp only [show (17 : Int).toNat = 17 from rfl, Nat.reduceMul, Nat.reduceEqDiff, Go.Addr.add, ↓reduceIte] at hx120_0)
      have qi120 : (17 < l0.length) = True := eq_true (by omega)
      (try rw [show ((17 : Int)).toNat = 17 from rfl] at hx120_0)
      replace p120 := eq_true p120
      replace q120 := eq_true q120
      have p121 : 0 ≤ (16 : Int) := (by omega)
      have q121 : 16 < (l0.length : Int) := of_decide_eq_true (by first | (with_reducible assumption) | assumption)
      obtain ⟨ad121, e121, hx121_0⟩ := Kd.at_int HR0.out 16 p121 q121
      obtain rfl : ad120 = ad121 := (by injection e121)
      (try simp only [show (16 : Int).toNat = 16 from rfl, Nat.reduceMul, Nat.reduceEqDiff, Go.Addr.add, ↓reduceIte] at hx121_0)
      have qi121 : (16 < l0.length) = True := eq_true (by omega)
      (try rw [show ((16 : Int)).toNat = 16 from rfl] at hx121_0)
      replace p121 := eq_true p121
      replace q121 := eq_true q121
      go_wp2
      repeat (go_quiet (fail); try go_wp2)
      go_ret2
      exact ⟨by first | rfl | (simp; done) | (simp [*]; done) | (simp [show ∀ l_ : List UInt8, (l_ != []) = !l_.isEmpty from fun l_ => by cases l_ <;> rfl]; done), by repeat (first | exact Drawn0.refl _ | apply Drawn0.step)⟩
     ·rw [if_neg c9] at H
      exact absurd H (by simp)
    ·rw [if_neg c8] at H
     exact absurd H (by simp)

end Go.Proofs.Ytimgndceiibaeaa.Pall
