-- PRINTED by print.py (a twelfth state) out of the translation. Not trusted: Lean checks it.
import Derived.Test.YtimgndceiibaeaaPallx0
import Derived.Test.YtimgndceiibaeaaPallx1
import Derived.Test.YtimgndceiibaeaaPallx5
import Derived.Test.YtimgndceiibaeaaPallx6
import Derived.Test.YtimgndceiibaeaaPallx7
namespace Go.Proofs.Ytimgndceiibaeaa.Pall
open Go.RowKit Go.Proofs.YtimgndceiibaeaaW.PrintWords Go.Proofs.YtimgndceiibaeaaW.PrintLast Go.Proofs.YtimgndceiibaeaaW.PrintMore
attribute [local go_sem] max2_int min2_int max_two min_two max_three min_three max_four min_four   -- for this text's walks alone
set_option linter.unusedVariables false
set_option linter.unusedSimpArgs false

/-! ### cipher_Cipher_Decrypt: function 28 -/
set_option maxHeartbeats 8000000 in
set_option maxRecDepth 100000 in
theorem cipher_Cipher_Decrypt.nil (l r : Int) (w : World) :
    Calls Try.prog 28 #[.pointer none, .int .u32 l, .int .u32 r] w fun e w' => e = .returned (.tuple #[.int .u32 0, .int .u32 0]) ∧ Below w.heap.size w w' := by
  go_enter Try.func28, Try.ntmps28
  go_wp2
  go_ret2
  exact ⟨rfl, Below.refl _ _⟩
theorem ciDecR_succ (t : List Nat) (n l r : Nat) : ciDecR t (n + 1) l r = ciDecR t n (r ^^^ ciF t (l ^^^ ciW t (n + 2))) (l ^^^ ciW t (n + 2)) := rfl
set_option maxHeartbeats 8000000 in
set_option maxRecDepth 100000 in
theorem cipher_Cipher_Decrypt.calls (t : List Nat) (g l r : Nat) (w : World) (hc : Ci 70 w g t) (ho : ciOk t) (hl : l < 4294967296) (hr : r < 4294967296) :
    Calls Try.prog 28 #[.pointer (some ⟨g, 0, none⟩), .int .u32 l, .int .u32 r] w fun e w' => e = .returned (.tuple #[.int .u32 ((ciDec t l r).1 : Nat), .int .u32 ((ciDec t l r).2 : Nat)]) ∧ Below w.heap.size w w' := by
  have HC := Aside0.mk hc
  have HO := Aside0.mk ho
  have HL := Aside0.mk hl
  have HR := Aside0.mk hr
  have HB := Aside0.mk (Below.refl w.heap.size w)
  have GL := Aside0.mk hc.lt
  clear hc ho hl hr
  go_enter Try.func28, Try.ntmps28
  go_wp2
  go_loopw [8, 1, 2] (fun v8 v1 v2 wz => ∃ n x y : Nat, 1 ≤ n ∧ n ≤ 17 ∧ v8 = .int .i64 (n : Int) ∧ v1 = .int .u32 (x : Int) ∧ v2 = .int .u32 (y : Int) ∧ Aside0 (x < 4294967296) ∧ Aside0 (y < 4294967296) ∧ Aside0 (ciDecR t (n - 1) x y = ciDecR t 16 l r) ∧ Aside0 (Ci 70 wz g t) ∧ Aside0 (Below w.heap.size w wz)) (fun v8 _ _ _ => (intOf v8).toNat)
  case atStart => exact ⟨17, l, r, by omega, by omega, rfl, rfl, rfl, HL, HR, ⟨rfl⟩, HC, HB⟩
  case round =>
    clear HC HB HL HR
    obtain ⟨n, x, y, hn1, hn, rfl, rfl, rfl, HX, HY, E, HC, HB⟩ := hrel
    by_cases hlt : 1 < n
    · obtain ⟨d, rfl⟩ : ∃ d, n = d + 2 := ⟨n - 2, by omega⟩
      have p0 : decide ((1 : Int) < ((d + 2 : Nat) : Int)) = true := decide_eq_true (by omega)
      have p1 : ((d + 2 : Nat) : Int) < 18 := by omega
      have hcell := HC.out.cell HO.out (d + 2) (by omega)
      have hx1 := ci_bxor x (ciW t (d + 2)) HX.out (HO.out.2 _)
      have HM := Aside0.mk (ci_xor HX.out (HO.out.2 (d + 2)))
      have hE := E.out
      rw [show d + 2 - 1 = d + 1 from rfl, ciDecR_succ] at hE
      obtain ⟨m, hm⟩ : ∃ m, x ^^^ ciW t (d + 2) = m := ⟨_, rfl⟩
      rw [hm] at hx1 HM hE
      have hx2 := ci_bxor y (ciF t m) HY.out (ciF_lt t m)
      have HZ := Aside0.mk (ci_xor HY.out (ciF_lt t m))
      replace E := Aside0.mk hE
      clear hm hE hlt
      have hsub : IntKind.i64.wrap (((d + 2 : Nat) : Int) - 1) = ((d + 1 : Nat) : Int) := by rw [IntKind.wrap_i64]; omega
      go_wp2_with (go_at_call 49; refine (cipher_Cipher_f.calls t g m _ HC.out HO.out HM.out).mono ?_; rintro e wn ⟨rfl, hdr⟩; have n0_ := Aside0.mk (below_step HB.out (below_of_drawn hdr)); have n1_ := Aside0.mk (HC.out.next (below_of_drawn hdr)); clear HB HC hcell; have HB := n0_; have HC := n1_; clear n0_ n1_ hdr)
      refine ⟨⟨d + 1, _, m, by omega, by omega, ?_, rfl, rfl, HZ, HM, E, HC, HB⟩, by simp [intOf]; omega⟩
      first | rfl | go_num | (simp; omega)
    · obtain rfl : n = 1 := by omega
      have h17 := HC.out.cell HO.out 0 (by omega)
      have h16 := HC.out.cell HO.out 1 (by omega)
      have hx1 := ci_bxor y (ciW t 0) HY.out (HO.out.2 _)
      have hx2 := ci_bxor x (ciW t 1) HX.out (HO.out.2 _)
      have hE : (x, y) = ciDecR t 16 l r := E.out
      have e1 : (ciDec t l r).1 = y ^^^ ciW t 0 := by unfold ciDec; rw [← hE]
      have e2 : (ciDec t l r).2 = x ^^^ ciW t 1 := by unfold ciDec; rw [← hE]
      replace e1 := Aside0.mk e1
      replace e2 := Aside0.mk e2
      clear hE
      go_wp2
      go_quiet (fail)
      go_wp2
      go_ret2
      refine ⟨?_, pw_below_drewN HB.out _⟩
      rw [e1.out, e2.out]
      rfl

/-! ### pestleref10_Decrypt: function 29 -/
def pestleref10_Decrypt.l0 : Nat → List Int → Int → Int → Int → Option (Int × Int)
 | 0, _, _, _, _ => none
 | k + 1, x0, x1, x2, x8 => if x8 > 1 then (if 0 ≤ x8 then (if x8 < (x0.length : Int) then ((pestleref10_f.f x0 (Go.bits .xor .u32 x1 (rd x0 x8))).bind fun t137 => (pestleref10_Decrypt.l0 k x0 (Go.bits .xor .u32 x2 t137) (Go.bits .xor .u32 x1 (rd x0 x8)) (wrap64 (x8 - 1)))) else (none)) else (none)) else (if 0 < (x0.length : Int) then (if 1 < (x0.length : Int) then (some (Go.bits .xor .u32 x2 (rd x0 0), Go.bits .xor .u32 x1 (rd x0 1))) else (none)) else (none))
def pestleref10_Decrypt.f (k : Nat) (l0 : List Int) (a1 : Int) (a2 : Int) : Option (Int × Int) := pestleref10_Decrypt.l0 k l0 a1 a2 17
theorem pestleref10_Decrypt.mono_l : ∀ k, (∀ y0 y1 y2 y3, LeO (pestleref10_Decrypt.l0 k y0 y1 y2 y3) (pestleref10_Decrypt.l0 (k + 1) y0 y1 y2 y3))
 | 0 => fun _ _ _ _ r h => by simp [pestleref10_Decrypt.l0] at h
 | k + 1 => by
  have ih0 := pestleref10_Decrypt.mono_l k
  ·intro y0 y1 y2 y3
   unfold pestleref10_Decrypt.l0
   repeat' first
   | (with_reducible exact ih0 _ _ _ _)
   | (with_reducible exact LeO.refl _)
   | (with_reducible exact LeO.none _)
   | (with_reducible refine LeO.ite ?_ ?_)
   | (with_reducible refine LeO.bind ?_ (fun _ => ?_))
   | exact ih0 _ _ _ _
   | exact LeO.none _
   | refine LeO.ite ?_ ?_
   | refine LeO.bind ?_ (fun _ => ?_)
theorem pestleref10_Decrypt.mono : ∀ a0 a1 a2 k, LeO (pestleref10_Decrypt.f k a0 a1 a2) (pestleref10_Decrypt.f (k + 1) a0 a1 a2) := by
 intro a0 a1 a2 k
 have ih0 := pestleref10_Decrypt.mono_l k
 unfold pestleref10_Decrypt.f
 repeat' first
   | (with_reducible exact ih0 _ _ _ _)
   | (with_reducible exact LeO.refl _)
   | (with_reducible exact LeO.none _)
   | (with_reducible refine LeO.ite ?_ ?_)
   | (with_reducible refine LeO.bind ?_ (fun _ => ?_))
   | exact ih0 _ _ _ _
   | exact LeO.none _
   | refine LeO.ite ?_ ?_
   | refine LeO.bind ?_ (fun _ => ?_)
set_option maxHeartbeats 8000000 in
set_option maxRecDepth 100000 in
theorem pestleref10_Decrypt.calls (k : Nat) (A0 : Option Addr) (c0 : Nat) (l0 : List Int) (a1 : Int) (a2 : Int) (r1 : Int) (r2 : Int) (w : World) (hr0 : Kd.C (Kd.int .u32) w A0 l0.length l0) (hc0 : l0.length ≤ c0) (h : pestleref10_Decrypt.f k l0 a1 a2 = some (r1, r2)) :
  Calls Try.prog 29 #[.slice A0 l0.length c0, .int .u32 a1, .int .u32 a2] w fun e w' => e = .returned (.tuple #[.int .u32 r1, .int .u32 r2]) ∧ Drawn0 w w' := by
 have HR0 := Aside0.mk hr0
 have HC0 := Aside0.mk hc0
 clear hr0 hc0
 have H : (pestleref10_Decrypt.l0 k l0 a1 a2 17) = some (r1, r2) := h
 clear h
 have H' := Aside0.mk H
 clear H
 go_enter Try.func29, Try.ntmps29
 go_wp2
 repeat (go_quiet (fail); try go_wp2)
 go_loopg [1, 2, 8] k (fun kq v1 v2 v8 w' => ∃ (x1_1 : Int) (x2_1 : Int) (x8_1 : Int), v1 = .int .u32 x1_1 ∧ v2 = .int .u32 x2_1 ∧ v8 = .int .i64 x8_1 ∧ Aside0 (pestleref10_Decrypt.l0 kq l0 x1_1 x2_1 x8_1 = some (r1, r2)) ∧ Aside0 (kq ≤ k) ∧ Drawn0 w w')
 case atStart => exact ⟨(a1), (a2), (17), (by first | rfl | (simp; done) | (simp [*]; done)), (by first | rfl | (simp; done) | (simp [*]; done)), (by first | rfl | (simp; done) | (simp [*]; done)), H', ⟨Nat.le_refl _⟩, by repeat (first | exact Drawn0.refl _ | apply Drawn0.step)⟩
 case round =>
  clear H'
  try clear c2
  try clear p2
  obtain ⟨x1_1, x2_1, x8_1, rfl, rfl, rfl, HA, HK1, ⟨m1, rfl⟩⟩ := hrel
  cases gk with
  | zero => exact absurd HA.out (by simp [pestleref10_Decrypt.l0])
  | succ k1 =>
   have H := HA.out
   clear HA
   simp only [pestleref10_Decrypt.l0] at H
   by_cases c4 : x8_1 > 1
   ·rw [if_pos c4] at H
    have c4b0 : decide (1 < x8_1) = true := decide_eq_true c4
    clear c4
    by_cases c5 : 0 ≤ x8_1
    ·rw [if_pos c5] at H
     have c5b0 : decide (0 ≤ x8_1) = true := decide_eq_true c5
     clear c5
     by_cases c6 : x8_1 < (l0.length : Int)
     ·rw [if_pos c6] at H
      have c6b0 : decide (x8_1 < (l0.length : Int)) = true := decide_eq_true c6
      clear c6
      replace H := Option.bind_eq_some_iff.mp H
      obtain ⟨t137, A70, H⟩ := H
      replace H : (pestleref10_Decrypt.l0 k1 l0 (Go.bits .xor .u32 x2_1 t137) (Go.bits .xor .u32 x1_1 (rd l0 x8_1)) (wrap64 (x8_1 - 1))) = some (r1, r2) := H
      have A7 := Aside0.mk A70
      clear A70
      have H' := Aside0.mk H
      clear H
      have p136 : 0 ≤ (x8_1 : Int) := of_decide_eq_true (by first | (with_reducible assumption) | assumption)
      have q136 : x8_1 < (l0.length : Int) := of_decide_eq_true (by first | (with_reducible assumption) | assumption)
      obtain ⟨ad136, e136, hx136_0⟩ := Kd.at_int HR0.out x8_1 p136 q136
      cases e136
      replace p136 := eq_true p136
      replace q136 := eq_true q136
      go_wp2_with (first | (go_at_call 50; (with_reducible refine (pestleref10_f.calls _ _ l0 (Go.bits .xor .u32 x1_1 (rd l0 x8_1)) t137 _ ?side1 ?side2 A7.out).mono ?_); (case side1 => repeat (first | exact HR0.out | (with_reducible refine Kd.C_alloc ?_ _) | (with_reducible refine Kd.C_drewN ?_ _) | (with_reducible refine Kd.C_drew ?_))); (case side2 => exact HC0.out); rintro e w' ⟨rfl, ⟨nd, rfl⟩⟩; (try first | exact ⟨rfl, _, World.drewN_drewN _ _ _⟩ | exact ⟨rfl, _, Eq.trans (World.drewN_drewN _ _ _) (congrArg (World.drewN _) (Nat.add_assoc _ _ _))⟩)))
      repeat (go_quiet (first | (go_at_call 50; (with_reducible refine (pestleref10_f.calls _ _ l0 (Go.bits .xor .u32 x1_1 (rd l0 x8_1)) t137 _ ?side1 ?side2 A7.out).mono ?_); (case side1 => repeat (first | exact HR0.out | (with_reducible refine Kd.C_alloc ?_ _) | (with_reducible refine Kd.C_drewN ?_ _) | (with_reducible refine Kd.C_drew ?_))); (case side2 => exact HC0.out); rintro e w' ⟨rfl, ⟨nd, rfl⟩⟩; (try first | exact ⟨rfl, _, World.drewN_drewN _ _ _⟩ | exact ⟨rfl, _, Eq.trans (World.drewN_drewN _ _ _) (congrArg (World.drewN _) (Nat.add_assoc _ _ _))⟩))); try go_wp2_with (first | (go_at_call 50; (with_reducible refine (pestleref10_f.calls _ _ l0 (Go.bits .xor .u32 x1_1 (rd l0 x8_1)) t137 _ ?side1 ?side2 A7.out).mono ?_); (case side1 => repeat (first | exact HR0.out | (with_reducible refine Kd.C_alloc ?_ _) | (with_reducible refine Kd.C_drewN ?_ _) | (with_reducible refine Kd.C_drew ?_))); (case side2 => exact HC0.out); rintro e w' ⟨rfl, ⟨nd, rfl⟩⟩; (try first | exact ⟨rfl, _, World.drewN_drewN _ _ _⟩ | exact ⟨rfl, _, Eq.trans (World.drewN_drewN _ _ _) (congrArg (World.drewN _) (Nat.add_assoc _ _ _))⟩))))
      go_roundg k1
      case measure => have := HK1.out; omega
      case rel => exact ⟨(Go.bits .xor .u32 x2_1 t137), (Go.bits .xor .u32 x1_1 (rd l0 x8_1)), (wrap64 (x8_1 - 1)), (by first | rfl | (simp; done) | (simp [*]; done)), (by first | rfl | (simp; done) | (simp [*]; done)), (by first | rfl | (simp; done) | (simp [*]; done)), H', ⟨by have := HK1.out; omega⟩, by repeat (first | exact Drawn0.refl _ | apply Drawn0.step)⟩
     ·rw [if_neg c6] at H
      exact absurd H (by simp)
    ·rw [if_neg c5] at H
     exact absurd H (by simp)
   ·rw [if_neg c4] at H
    have c4b0 : decide (1 < x8_1) = false := decide_eq_false c4
    clear c4
    by_cases c8 : 0 < (l0.length : Int)
    ·rw [if_pos c8] at H
     have c8b0 : decide (0 < (l0.length : Int)) = true := decide_eq_true c8
     have c8b1 : decide (0 < l0.length) = true := decide_eq_true (by omega)
     clear c8
     by_cases c9 : 1 < (l0.length : Int)
     ·rw [if_pos c9] at H
      have c9b0 : decide (1 < (l0.length : Int)) = true := decide_eq_true c9
      have c9b1 : decide (1 < l0.length) = true := decide_eq_true (by omega)
      clear c9
      simp only [Option.some.injEq, Prod.mk.injEq] at H
      obtain ⟨rfl, rfl⟩ := H
      have p138 : 0 ≤ (0 : Int) := (by omega)
      have q138 : 0 < (l0.length : Int) := of_decide_eq_true (by first | (with_reducible assumption) | assumption)
      obtain ⟨ad138, e138, hx138_0⟩ := Kd.at_int HR0.out 0 p138 q138
      cases e138
      have qi138 : (0 < l0.length) = True := eq_true (by omega)
      (try rw [show ((0 : Int)).toNat = 0 from rfl] at hx138_0)
      (try rw [Addr.add_zero'] at hx138_0)
      replace p138 := eq_true p138
      replace q138 := eq_true q138
      have p139 : 0 ≤ (1 : Int) := (by omega)
      have q139 : 1 < (l0.length : Int) := of_decide_eq_true (by first | (with_reducible assumption) | assumption)
      obtain ⟨ad139, e139, hx139_0⟩ := Kd.at_int HR0.out 1 p139 q139
      obtain rfl : ad138 = ad139 := (by injection e139)
      (try simp only [show (1 : Int).toNat = 1 from rfl, Nat.reduceMul, Nat.reduceEqDiff, Go.Addr.add, ↓reduceIte] at hx139_0)
      have qi139 : (1 < l0.length) = True := eq_true (by omega)
      (try rw [show ((1 : Int)).toNat = 1 from rfl] at hx139_0)
      replace p139 := eq_true p139
      replace q139 := eq_true q139
      go_wp2
      repeat (go_quiet (fail); try go_wp2)
      go_ret2
      exact ⟨by first | rfl | (simp; done) | (simp [*]; done) | (simp [show ∀ l_ : List UInt8, (l_ != []) = !l_.isEmpty from fun l_ => by cases l_ <;> rfl]; done), by repeat (first | exact Drawn0.refl _ | apply Drawn0.step)⟩
     ·rw [if_neg c9] at H
      exact absurd H (by simp)
    ·rw [if_neg c8] at H
     exact absurd H (by simp)

/-! ### pestlelaw10_CipherKeys: function 6 -/
noncomputable def ciTk (key : ByteArray) : List Nat := ciExpand ciPi (ciWord ciE) (ciWord key)
def ciP (p : Nat × Nat) : Int × Int := ((p.1 : Int), (p.2 : Int))
noncomputable def pestlelaw10_CipherKeys.good (k : Nat) (key : ByteArray) (l r : Nat) : Option Bool := (pestlelaw10_Plain.f k).bind fun p => (pestleref10_Expand.f k p ⟨#[]⟩ key).bind fun t => (pestleref10_Encrypt.f k t (l : Int) (r : Int)).bind fun x => (pestleref10_Decrypt.f k t (l : Int) (r : Int)).bind fun u => (pestleref10_Sum.f k t).bind fun s => (if x = ciP (ciEnc (ciTk key) l r) ∧ u = ciP (ciDec (ciTk key) l r) ∧ s = ciSum (ciTk key) then some true else none)
noncomputable def pestlelaw10_CipherKeys.f (k : Nat) (a0 : ByteArray) (a1 a2 : Int) : Option Bool := (pestlelaw10_awake.f k).bind fun _ => (if a0.size = 0 ∨ 72 < a0.size then some true else (if (0 ≤ a1 ∧ a1 < 4294967296) ∧ 0 ≤ a2 ∧ a2 < 4294967296 then pestlelaw10_CipherKeys.good k a0 a1.toNat a2.toNat else none))
theorem pestlelaw10_CipherKeys.mono : ∀ a0 a1 a2 k, LeO (pestlelaw10_CipherKeys.f k a0 a1 a2) (pestlelaw10_CipherKeys.f (k + 1) a0 a1 a2) := by
  intro a0 a1 a2 k
  unfold pestlelaw10_CipherKeys.f pestlelaw10_CipherKeys.good
  exact LeO.bind (pestlelaw10_awake.mono _) (fun _ => LeO.ite (LeO.refl _) (LeO.ite (LeO.bind (pestlelaw10_Plain.mono _) (fun _ => LeO.bind (pestleref10_Expand.mono _ _ _ _) (fun _ => LeO.bind (pestleref10_Encrypt.mono _ _ _ _) (fun _ => LeO.bind (pestleref10_Decrypt.mono _ _ _ _) (fun _ => LeO.bind (pestleref10_Sum.mono _ _) (fun _ => LeO.refl _)))))) (LeO.refl _)))
set_option maxHeartbeats 8000000 in
set_option maxRecDepth 100000 in
theorem pestlelaw10_CipherKeys.calls (k : Nat) (a0 : ByteArray) (a1 : Int) (a2 : Int) (r : Bool) (w : World) (h : pestlelaw10_CipherKeys.f k a0 a1 a2 = some r) :
    Calls Try.prog 6 #[.string a0, .int .u32 a1, .int .u32 a2] w fun e w' => e = .returned (.bool r) ∧ Below w.heap.size w w' := by
  unfold pestlelaw10_CipherKeys.f at h
  replace h := Option.bind_eq_some_iff.mp h
  obtain ⟨b, A0, h⟩ := h
  obtain ⟨rfl, hpi⟩ := pestlelaw10_awake.pi A0
  replace A0 := Aside0.mk A0
  have HP := Aside0.mk hpi
  clear hpi
  have HB := Aside0.mk (Below.refl w.heap.size w)
  by_cases hbad : a0.size = 0 ∨ 72 < a0.size
  · rw [if_pos hbad] at h
    obtain rfl := Option.some.inj h
    have HBD := Aside0.mk hbad
    by_cases h0 : a0.size = 0
    · have e1 := (ci_empty (s := a0)).1
      have e2 := (ci_empty (s := a0)).2
      rw [decide_eq_true h0] at e1 e2
      clear h hbad h0
      go_enter Try.func6, Try.ntmps6
      go_wp2_with (first | (go_at_call 16; refine (pestlelaw10_awake.calls k true _ A0.out).mono ?_; rintro e wn ⟨rfl, hb⟩; have n0_ := Aside0.mk (below_step HB.out hb); clear HB hb; have HB := n0_; clear n0_) | (go_at_call 27; refine (cipher_New.bad a0 _ HBD.out).mono ?_; rintro e wn ⟨rfl, hb⟩; have n0_ := Aside0.mk (below_step HB.out hb); clear HB; have HB := n0_; clear n0_))
      go_ret
      exact ⟨rfl, HB.out⟩
    · have e1 := (ci_empty (s := a0)).1
      have e2 := (ci_empty (s := a0)).2
      have e3 : decide ((72 : Int) < (a0.size : Int)) = true := decide_eq_true (by omega)
      have e4 : decide (72 < a0.size) = true := decide_eq_true (by omega)
      rw [decide_eq_false h0] at e1 e2
      clear h hbad h0
      go_enter Try.func6, Try.ntmps6
      go_wp2_with (first | (go_at_call 16; refine (pestlelaw10_awake.calls k true _ A0.out).mono ?_; rintro e wn ⟨rfl, hb⟩; have n0_ := Aside0.mk (below_step HB.out hb); clear HB hb; have HB := n0_; clear n0_) | (go_at_call 27; refine (cipher_New.bad a0 _ HBD.out).mono ?_; rintro e wn ⟨rfl, hb⟩; have n0_ := Aside0.mk (below_step HB.out hb); clear HB; have HB := n0_; clear n0_))
      go_ret
      exact ⟨rfl, HB.out⟩
  rw [if_neg hbad] at h
  by_cases hr : (0 ≤ a1 ∧ a1 < 4294967296) ∧ 0 ≤ a2 ∧ a2 < 4294967296
  case neg => rw [if_neg hr] at h; cases h
  rw [if_pos hr] at h
  obtain ⟨⟨h1, h2⟩, h3, h4⟩ := hr
  obtain ⟨l, rfl⟩ : ∃ n : Nat, a1 = n := ⟨a1.toNat, by omega⟩
  obtain ⟨rr, rfl⟩ : ∃ n : Nat, a2 = n := ⟨a2.toNat, by omega⟩
  rw [Int.toNat_natCast, Int.toNat_natCast] at h
  unfold pestlelaw10_CipherKeys.good at h
  replace h := Option.bind_eq_some_iff.mp h
  obtain ⟨p, A1, h⟩ := h
  replace h := Option.bind_eq_some_iff.mp h
  obtain ⟨t, A2, h⟩ := h
  replace h := Option.bind_eq_some_iff.mp h
  obtain ⟨⟨x1, x2⟩, A3, h⟩ := h
  replace h := Option.bind_eq_some_iff.mp h
  obtain ⟨⟨u1, u2⟩, A4, h⟩ := h
  replace h := Option.bind_eq_some_iff.mp h
  obtain ⟨s, A5, h⟩ := h
  have HT := Aside0.mk (ciExpand_pi ciE a0)
  obtain ⟨T, hT⟩ : ∃ T, ciTk a0 = T := ⟨_, rfl⟩
  rw [hT] at h
  rw [show ciExpand ciPi (ciWord ciE) (ciWord a0) = T from hT] at HT
  by_cases q : (x1, x2) = ciP (ciEnc T l rr) ∧ (u1, u2) = ciP (ciDec T l rr) ∧ s = ciSum T
  case neg => rw [if_neg q] at h; cases h
  rw [if_pos q] at h
  obtain rfl := Option.some.inj h
  obtain ⟨q1, q2, rfl⟩ := q
  simp only [ciP, Prod.mk.injEq] at q1 q2
  obtain ⟨rfl, rfl⟩ := q1
  obtain ⟨rfl, rfl⟩ := q2
  replace A1 := Aside0.mk A1
  replace A2 := Aside0.mk A2
  replace A3 := Aside0.mk A3
  replace A4 := Aside0.mk A4
  replace A5 := Aside0.mk A5
  replace hT := Aside0.mk hT
  have L1 := Aside0.mk (show l < 4294967296 by omega)
  have L2 := Aside0.mk (show rr < 4294967296 by omega)
  have N0 := Aside0.mk (show ¬ a0.size = 0 by omega)
  have N1 := Aside0.mk (show a0.size ≤ 72 by omega)
  have e1 := (ci_empty (s := a0)).1
  have e2 := (ci_empty (s := a0)).2
  have e3 : decide ((72 : Int) < (a0.size : Int)) = false := decide_eq_false (by omega)
  have e4 : decide (72 < a0.size) = false := decide_eq_false (by omega)
  rw [decide_eq_false N0.out] at e1 e2
  clear h h1 h2 h3 h4 hbad
  go_enter Try.func6, Try.ntmps6
  go_wp2_with (first | (go_at_call 16; refine (pestlelaw10_awake.calls k true _ A0.out).mono ?_; rintro e wn ⟨rfl, hb⟩; have n0_ := Aside0.mk (below_step HB.out hb); clear HB hb; have HB := n0_; clear n0_) | (go_at_call 27; refine (cipher_New.calls k ciPi ciPi_ok HP.out a0 _ N0.out N1.out).mono ?_; rintro e wn ⟨g, hg, rfl, hc, hb⟩; rw [show ciExpand ciPi (ciWord ciE) (ciWord a0) = T from hT.out] at hc; have HC := Aside0.mk hc; have n0_ := Aside0.mk (below_step HB.out hb); clear HB; have HB := n0_; clear n0_; clear hg hc hb) | (go_at_call 20; refine (pestlelaw10_Plain.calls k p _ A1.out).mono ?_; rintro e wn ⟨v0_, rfl, hR, hb⟩; have n0_ := Aside0.mk (below_step HB.out hb); have n1_ := Aside0.mk (HC.out.next hb); obtain ⟨Ad, cd, rfl⟩ := Kd.R_slice hR; have CP := Aside0.mk (Kd.R_reads' hR).2.2; have KP := Aside0.mk (Kd.R_reads' hR).2.1; clear HB HC; have HB := n0_; have HC := n1_; clear n0_ n1_) | (go_at_call 22; refine (pestleref10_Expand.calls k _ _ p ⟨#[]⟩ a0 t _ CP.out KP.out A2.out).mono ?_; rintro e wn ⟨v0_, rfl, hR, hb⟩; have n0_ := Aside0.mk (below_step HB.out hb); have n1_ := Aside0.mk (HC.out.next hb); obtain ⟨Ad, cd, rfl⟩ := Kd.R_slice hR; have CT := Aside0.mk (Kd.R_reads' hR).2.2; have KT := Aside0.mk (Kd.R_reads' hR).2.1; clear HB HC; have HB := n0_; have HC := n1_; clear n0_ n1_) | (go_at_call 23; refine (cipher_Cipher_Encrypt.calls T g l rr _ HC.out HT.out L1.out L2.out).mono ?_; rintro e wn ⟨rfl, hb⟩; have n0_ := Aside0.mk (below_step HB.out hb); have n1_ := Aside0.mk (HC.out.next hb); have n2_ := Aside0.mk (Kd.C_below CT.out hb); clear HB HC CT; have HB := n0_; have HC := n1_; have CT := n2_; clear n0_ n1_ n2_) | (go_at_call 24; refine (pestleref10_Encrypt.calls k _ _ t _ _ _ _ _ CT.out KT.out A3.out).mono ?_; rintro e wn ⟨rfl, hd⟩; have n0_ := Aside0.mk (below_step HB.out (below_of_drawn hd)); have n1_ := Aside0.mk (HC.out.next (below_of_drawn hd)); have n2_ := Aside0.mk (Kd.C_below CT.out (below_of_drawn hd)); clear HB HC CT; have HB := n0_; have HC := n1_; have CT := n2_; clear n0_ n1_ n2_) | (go_at_call 28; refine (cipher_Cipher_Decrypt.calls T g l rr _ HC.out HT.out L1.out L2.out).mono ?_; rintro e wn ⟨rfl, hb⟩; have n0_ := Aside0.mk (below_step HB.out hb); have n1_ := Aside0.mk (HC.out.next hb); have n2_ := Aside0.mk (Kd.C_below CT.out hb); clear HB HC CT; have HB := n0_; have HC := n1_; have CT := n2_; clear n0_ n1_ n2_) | (go_at_call 29; refine (pestleref10_Decrypt.calls k _ _ t _ _ _ _ _ CT.out KT.out A4.out).mono ?_; rintro e wn ⟨rfl, hd⟩; have n0_ := Aside0.mk (below_step HB.out (below_of_drawn hd)); have n1_ := Aside0.mk (HC.out.next (below_of_drawn hd)); have n2_ := Aside0.mk (Kd.C_below CT.out (below_of_drawn hd)); clear HB HC CT; have HB := n0_; have HC := n1_; have CT := n2_; clear n0_ n1_ n2_) | (go_at_call 18; refine (cipher_Cipher_Sum.calls g T _ HC.out HT.out).mono ?_; rintro e wn ⟨rfl, hb⟩; have n0_ := Aside0.mk (below_step HB.out hb); have n1_ := Aside0.mk (HC.out.next hb); have n2_ := Aside0.mk (Kd.C_below CT.out hb); clear HB HC CT; have HB := n0_; have HC := n1_; have CT := n2_; clear n0_ n1_ n2_) | (go_at_call 19; refine (pestleref10_Sum.calls k _ _ t _ _ CT.out KT.out A5.out).mono ?_; rintro e wn ⟨rfl, hd⟩; have n0_ := Aside0.mk (below_step HB.out (below_of_drawn hd)); have n1_ := Aside0.mk (HC.out.next (below_of_drawn hd)); have n2_ := Aside0.mk (Kd.C_below CT.out (below_of_drawn hd)); clear HB HC CT; have HB := n0_; have HC := n1_; have CT := n2_; clear n0_ n1_ n2_))
  go_ret
  exact ⟨rfl, HB.out⟩

end Go.Proofs.Ytimgndceiibaeaa.Pall
