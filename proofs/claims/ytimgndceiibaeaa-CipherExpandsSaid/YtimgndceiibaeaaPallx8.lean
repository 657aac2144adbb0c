-- PRINTED by print.py (a twelfth state) out of the translation. Not trusted: Lean checks it.
import Derived.Test.YtimgndceiibaeaaPallx0
import Derived.Test.YtimgndceiibaeaaPallx1
import Derived.Test.YtimgndceiibaeaaPallx2
import Derived.Test.YtimgndceiibaeaaPallx4
import Derived.Test.YtimgndceiibaeaaPallx5
import Derived.Test.YtimgndceiibaeaaPallx6
import Derived.Test.YtimgndceiibaeaaPallx7
namespace Go.Proofs.Ytimgndceiibaeaa.Pall
open Go.RowKit Go.Proofs.YtimgndceiibaeaaW.PrintWords Go.Proofs.YtimgndceiibaeaaW.PrintLast Go.Proofs.YtimgndceiibaeaaW.PrintMore
attribute [local go_sem] max2_int min2_int max_two min_two max_three min_three max_four min_four   -- for this text's walks alone
set_option linter.unusedVariables false
set_option linter.unusedSimpArgs false

/-! ### pestlelaw10_CipherExpands: function 4 -/
noncomputable def ciT1 (a b : ByteArray) : List Nat := ciExpand ciPi (ciWord a) (ciWord b)
noncomputable def ciT2 (a b : ByteArray) : List Nat := ciExpand (ciT1 a b) (ciWord b) (ciWord a)
noncomputable def pestlelaw10_CipherExpands.good (k : Nat) (a0 a1 : ByteArray) (l r : Nat) : Option Bool := (pestlelaw10_Plain.f k).bind fun p => (pestleref10_Sum.f k p).bind fun s0 => (pestleref10_Expand.f k p a0 a1).bind fun t1 => (pestleref10_Expand.f k t1 a1 a0).bind fun t => (pestleref10_Encrypt.f k t (l : Int) (r : Int)).bind fun x => (pestleref10_Sum.f k t).bind fun s => (if s0 = ciSum ciPi ∧ (x.1, x.2) = (((ciEnc (ciT2 a0 a1) l r).1 : Int), ((ciEnc (ciT2 a0 a1) l r).2 : Int)) ∧ s = ciSum (ciT2 a0 a1) then some true else none)
noncomputable def pestlelaw10_CipherExpands.f (k : Nat) (a0 a1 : ByteArray) (a2 a3 : Int) : Option Bool := (pestlelaw10_awake.f k).bind fun _ => (if 200 < a0.size ∨ 200 < a1.size then some true else (if (0 ≤ a2 ∧ a2 < 4294967296) ∧ 0 ≤ a3 ∧ a3 < 4294967296 then pestlelaw10_CipherExpands.good k a0 a1 a2.toNat a3.toNat else none))
theorem pestlelaw10_CipherExpands.mono : ∀ a0 a1 a2 a3 k, LeO (pestlelaw10_CipherExpands.f k a0 a1 a2 a3) (pestlelaw10_CipherExpands.f (k + 1) a0 a1 a2 a3) := by
  intro a0 a1 a2 a3 k
  unfold pestlelaw10_CipherExpands.f pestlelaw10_CipherExpands.good
  exact LeO.bind (pestlelaw10_awake.mono _) (fun _ => LeO.ite (LeO.refl _) (LeO.ite (LeO.bind (pestlelaw10_Plain.mono _) (fun _ => LeO.bind (pestleref10_Sum.mono _ _) (fun _ => LeO.bind (pestleref10_Expand.mono _ _ _ _) (fun _ => LeO.bind (pestleref10_Expand.mono _ _ _ _) (fun _ => LeO.bind (pestleref10_Encrypt.mono _ _ _ _) (fun _ => LeO.bind (pestleref10_Sum.mono _ _) (fun _ => LeO.refl _))))))) (LeO.refl _)))
set_option maxHeartbeats 8000000 in
set_option maxRecDepth 100000 in
theorem pestlelaw10_CipherExpands.calls (k : Nat) (a0 : ByteArray) (a1 : ByteArray) (a2 : Int) (a3 : Int) (r : Bool) (w : World) (h : pestlelaw10_CipherExpands.f k a0 a1 a2 a3 = some r) :
    Calls Try.prog 4 #[.string a0, .string a1, .int .u32 a2, .int .u32 a3] w fun e w' => e = .returned (.bool r) ∧ Below w.heap.size w w' := by
  unfold pestlelaw10_CipherExpands.f at h
  replace h := Option.bind_eq_some_iff.mp h
  obtain ⟨b, A0, h⟩ := h
  obtain ⟨rfl, hpi⟩ := pestlelaw10_awake.pi A0
  replace A0 := Aside0.mk A0
  have HP := Aside0.mk hpi
  clear hpi
  have HB := Aside0.mk (Below.refl w.heap.size w)
  by_cases hbig : 200 < a0.size ∨ 200 < a1.size
  · rw [if_pos hbig] at h
    obtain rfl := Option.some.inj h
    by_cases h0 : 200 < a0.size
    · have e1 : decide ((200 : Int) < (a0.size : Int)) = true := decide_eq_true (by omega)
      have e2 : decide (200 < a0.size) = true := decide_eq_true h0
      clear h hbig h0
      go_enter Try.func4, Try.ntmps4
      go_wp2_with (first | (go_at_call 16; with_reducible refine (pestlelaw10_awake.calls k true _ A0.out).mono ?_; rintro e wn ⟨rfl, hb⟩; have n0_ := Aside0.mk (below_step HB.out hb); clear HB hb; have HB := n0_; clear n0_))
      go_ret
      exact ⟨rfl, HB.out⟩
    · have h1 : 200 < a1.size := by omega
      have e1 : decide ((200 : Int) < (a0.size : Int)) = false := decide_eq_false (by omega)
      have e2 : decide (200 < a0.size) = false := decide_eq_false h0
      have e3 : decide ((200 : Int) < (a1.size : Int)) = true := decide_eq_true (by omega)
      have e4 : decide (200 < a1.size) = true := decide_eq_true h1
      clear h hbig h0 h1
      go_enter Try.func4, Try.ntmps4
      go_wp2_with (first | (go_at_call 16; with_reducible refine (pestlelaw10_awake.calls k true _ A0.out).mono ?_; rintro e wn ⟨rfl, hb⟩; have n0_ := Aside0.mk (below_step HB.out hb); clear HB hb; have HB := n0_; clear n0_))
      go_ret
      exact ⟨rfl, HB.out⟩
  rw [if_neg hbig] at h
  by_cases hr : (0 ≤ a2 ∧ a2 < 4294967296) ∧ 0 ≤ a3 ∧ a3 < 4294967296
  case neg => rw [if_neg hr] at h; cases h
  rw [if_pos hr] at h
  obtain ⟨⟨h1, h2⟩, h3, h4⟩ := hr
  obtain ⟨l, rfl⟩ : ∃ n : Nat, a2 = n := ⟨a2.toNat, by omega⟩
  obtain ⟨rr, rfl⟩ : ∃ n : Nat, a3 = n := ⟨a3.toNat, by omega⟩
  (try rw [Int.toNat_natCast, Int.toNat_natCast] at h)
  have L1 := Aside0.mk (show l < 4294967296 by omega)
  have L2 := Aside0.mk (show rr < 4294967296 by omega)
  have S1 := Aside0.mk (show a0.size ≤ 9223372036854775807 by omega)
  have S2 := Aside0.mk (show a1.size ≤ 9223372036854775807 by omega)
  have e1 : decide ((200 : Int) < (a0.size : Int)) = false := decide_eq_false (by omega)
  have e2 : decide (200 < a0.size) = false := decide_eq_false (by omega)
  have e3 : decide ((200 : Int) < (a1.size : Int)) = false := decide_eq_false (by omega)
  have e4 : decide (200 < a1.size) = false := decide_eq_false (by omega)
  have OP := Aside0.mk ciPi_ok
  obtain ⟨P, hPe⟩ : ∃ P, ciPi = P := ⟨_, rfl⟩
  rw [hPe] at OP HP
  have OPL := Aside0.mk OP.out.1
  have OT1 := Aside0.mk (ciExpand_ok OP.out (ciWord_lt a0) (ciWord_lt a1))
  unfold pestlelaw10_CipherExpands.good at h
  replace h := Option.bind_eq_some_iff.mp h
  obtain ⟨p, A1, h⟩ := h
  replace h := Option.bind_eq_some_iff.mp h
  obtain ⟨s0, A2, h⟩ := h
  replace h := Option.bind_eq_some_iff.mp h
  obtain ⟨t1, A3, h⟩ := h
  replace h := Option.bind_eq_some_iff.mp h
  obtain ⟨t, A4, h⟩ := h
  replace h := Option.bind_eq_some_iff.mp h
  obtain ⟨⟨x1, x2⟩, A5, h⟩ := h
  replace h := Option.bind_eq_some_iff.mp h
  obtain ⟨s, A6, h⟩ := h
  have OT2 := Aside0.mk (ciExpand_ok OT1.out (ciWord_lt a1) (ciWord_lt a0))
  obtain ⟨T1, hT1⟩ : ∃ T1, ciExpand P (ciWord a0) (ciWord a1) = T1 := ⟨_, rfl⟩
  rw [hT1] at OT1 OT2
  obtain ⟨T, hT⟩ : ∃ T, ciExpand T1 (ciWord a1) (ciWord a0) = T := ⟨_, rfl⟩
  rw [hT] at OT2
  rw [show ciT2 a0 a1 = T by unfold ciT2 ciT1; rw [hPe, hT1, hT], hPe] at h
  by_cases q : s0 = ciSum P ∧ (x1, x2) = (((ciEnc T l rr).1 : Int), ((ciEnc T l rr).2 : Int)) ∧ s = ciSum T
  case neg => rw [if_neg q] at h; cases h
  rw [if_pos q] at h
  obtain rfl := Option.some.inj h
  obtain ⟨rfl, q1, rfl⟩ := q
  simp only [Prod.mk.injEq] at q1
  obtain ⟨rfl, rfl⟩ := q1
  replace A1 := Aside0.mk A1
  replace A2 := Aside0.mk A2
  replace A3 := Aside0.mk A3
  replace A4 := Aside0.mk A4
  replace A5 := Aside0.mk A5
  replace A6 := Aside0.mk A6
  replace hT := Aside0.mk hT
  replace hT1 := Aside0.mk hT1
  clear h h1 h2 h3 h4 hbig hPe
  go_enter Try.func4, Try.ntmps4
  go_wp2_with (first | (go_at_call 16; with_reducible refine (pestlelaw10_awake.calls k true _ A0.out).mono ?_; rintro e wn ⟨rfl, hb⟩; have n0_ := Aside0.mk (below_step HB.out hb); clear HB hb; have HB := n0_; clear n0_) | (go_at_call 17; with_reducible refine (cipher_Plain.calls k P OPL.out HP.out _).mono ?_; rintro e wn ⟨g, hg, rfl, hc, hb⟩; have HC := Aside0.mk hc; have HG := Aside0.mk (Nat.le_trans HB.out.size hg); have n0_ := Aside0.mk (below_step HB.out hb); clear HB; have HB := n0_; clear n0_; clear hg hc hb) | (go_at_call 18; with_reducible refine (cipher_Cipher_Sum.calls g P _ HC.out OP.out).mono ?_; rintro e wn ⟨rfl, hb⟩; have n0_ := Aside0.mk (below_step HB.out hb); have n1_ := Aside0.mk (HC.out.next hb); clear HB HC; have HB := n0_; have HC := n1_; clear n0_ n1_) | (go_at_call 18; with_reducible refine (cipher_Cipher_Sum.calls g T _ HC.out OT2.out).mono ?_; rintro e wn ⟨rfl, hb⟩; have n0_ := Aside0.mk (below_step HB.out hb); have n1_ := Aside0.mk (HC.out.next hb); have n2_ := Aside0.mk (Kd.C_below CT.out hb); clear HB HC CT; have HB := n0_; have HC := n1_; have CT := n2_; clear n0_ n1_ n2_) | (go_at_call 20; with_reducible refine (pestlelaw10_Plain.calls k p _ A1.out).mono ?_; rintro e wn ⟨v0_, rfl, hR, hb⟩; have n0_ := Aside0.mk (below_step HB.out hb); have n1_ := Aside0.mk (HC.out.next hb); obtain ⟨Ad, cd, rfl⟩ := Kd.R_slice hR; have CP := Aside0.mk (Kd.R_reads' hR).2.2; have KP := Aside0.mk (Kd.R_reads' hR).2.1; clear HB HC; have HB := n0_; have HC := n1_; clear n0_ n1_) | (go_at_call 19; with_reducible refine (pestleref10_Sum.calls k _ _ p _ _ CP.out KP.out A2.out).mono ?_; rintro e wn ⟨rfl, hd⟩; have n0_ := Aside0.mk (below_step HB.out (below_of_drawn hd)); have n1_ := Aside0.mk (HC.out.next (below_of_drawn hd)); clear HB HC; have HB := n0_; have HC := n1_; clear n0_ n1_) | (go_at_call 21; with_reducible refine (cipher_Cipher_Expand.calls a0 a1 S1.out S2.out g _ _ HC.out OP.out).mono ?_; rintro e wn ⟨rfl, hc, hb⟩; have n0_ := Aside0.mk (But.below HB.out hb HG.out HB.out.size); clear HB HC hb; have HB := n0_; rw [hT1.out] at hc; have HC := Aside0.mk hc; clear n0_ hc) | (go_at_call 21; with_reducible refine (cipher_Cipher_Expand.calls a1 a0 S2.out S1.out g _ _ HC.out OT1.out).mono ?_; rintro e wn ⟨rfl, hc, hb⟩; have n0_ := Aside0.mk (But.below HB.out hb HG.out HB.out.size); clear HB HC hb; have HB := n0_; rw [hT.out] at hc; have HC := Aside0.mk hc; clear n0_ hc) | (go_at_call 22; with_reducible refine (pestleref10_Expand.calls k _ _ p a0 a1 t1 _ CP.out KP.out A3.out).mono ?_; rintro e wn ⟨v0_, rfl, hR, hb⟩; have n0_ := Aside0.mk (below_step HB.out hb); have n1_ := Aside0.mk (HC.out.next hb); obtain ⟨Ad, cd, rfl⟩ := Kd.R_slice hR; have CQ := Aside0.mk (Kd.R_reads' hR).2.2; have KQ := Aside0.mk (Kd.R_reads' hR).2.1; clear HB HC; have HB := n0_; have HC := n1_; clear n0_ n1_) | (go_at_call 22; with_reducible refine (pestleref10_Expand.calls k _ _ t1 a1 a0 t _ CQ.out KQ.out A4.out).mono ?_; rintro e wn ⟨v0_, rfl, hR, hb⟩; have n0_ := Aside0.mk (below_step HB.out hb); have n1_ := Aside0.mk (HC.out.next hb); obtain ⟨Ad, cd, rfl⟩ := Kd.R_slice hR; have CT := Aside0.mk (Kd.R_reads' hR).2.2; have KT := Aside0.mk (Kd.R_reads' hR).2.1; clear HB HC; have HB := n0_; have HC := n1_; clear n0_ n1_) | (go_at_call 23; with_reducible refine (cipher_Cipher_Encrypt.calls T g l rr _ HC.out OT2.out L1.out L2.out).mono ?_; rintro e wn ⟨rfl, hb⟩; have n0_ := Aside0.mk (below_step HB.out hb); have n1_ := Aside0.mk (HC.out.next hb); have n2_ := Aside0.mk (Kd.C_below CT.out hb); clear HB HC CT; have HB := n0_; have HC := n1_; have CT := n2_; clear n0_ n1_ n2_) | (go_at_call 24; with_reducible refine (pestleref10_Encrypt.calls k _ _ t _ _ _ _ _ CT.out KT.out A5.out).mono ?_; rintro e wn ⟨rfl, hd⟩; have n0_ := Aside0.mk (below_step HB.out (below_of_drawn hd)); have n1_ := Aside0.mk (HC.out.next (below_of_drawn hd)); have n2_ := Aside0.mk (Kd.C_below CT.out (below_of_drawn hd)); clear HB HC CT; have HB := n0_; have HC := n1_; have CT := n2_; clear n0_ n1_ n2_) | (go_at_call 19; with_reducible refine (pestleref10_Sum.calls k _ _ t _ _ CT.out KT.out A6.out).mono ?_; rintro e wn ⟨rfl, hd⟩; have n0_ := Aside0.mk (below_step HB.out (below_of_drawn hd)); have n1_ := Aside0.mk (HC.out.next (below_of_drawn hd)); have n2_ := Aside0.mk (Kd.C_below CT.out (below_of_drawn hd)); clear HB HC CT; have HB := n0_; have HC := n1_; have CT := n2_; clear n0_ n1_ n2_))
  go_ret
  exact ⟨rfl, HB.out⟩

/-! ### cipher_Cipher_Decrypt: function 28 -/
set_option maxHeartbeats 8000000 in
set_option maxRecDepth 100000 in
theorem cipher_Cipher_Decrypt.nil (l r : Int) (w : World) :
    Calls Try.prog 28 #[.pointer none, .int .u32 l, .int .u32 r] w fun e w' => e = .returned (.tuple #[.int .u32 0, .int .u32 0]) ∧ Below w.heap.size w w' := by
  go_enter Try.func28, Try.ntmps28
  go_wp2
  go_ret2
  exact ⟨rfl, Below.refl _ _⟩
theorem ciDecR_succ (t : List Nat) (n l r : Nat) : ciDecR t (n + 1) l r = ciDecR t n (r ^^^ ciF t (l ^^^ ciW t (n + 2))) (l ^^^ ciW t (n + 2)) := rfl
set_option maxHeartbeats 8000000 in
set_option maxRecDepth 100000 in
theorem cipher_Cipher_Decrypt.calls (t : List Nat) (g l r : Nat) (w : World) (hc : Ci 70 w g t) (ho : ciOk t) (hl : l < 4294967296) (hr : r < 4294967296) :
    Calls Try.prog 28 #[.pointer (some ⟨g, 0, none⟩), .int .u32 l, .int .u32 r] w fun e w' => e = .returned (.tuple #[.int .u32 ((ciDec t l r).1 : Nat), .int .u32 ((ciDec t l r).2 : Nat)]) ∧ Below w.heap.size w w' := by
  have HC := Aside0.mk hc
  have HO := Aside0.mk ho
  have HL := Aside0.mk hl
  have HR := Aside0.mk hr
  have HB := Aside0.mk (Below.refl w.heap.size w)
  have GL := Aside0.mk hc.lt
  clear hc ho hl hr
  go_enter Try.func28, Try.ntmps28
  go_wp2
  go_loopw [8, 1, 2] (fun v8 v1 v2 wz => ∃ n x y : Nat, 1 ≤ n ∧ n ≤ 17 ∧ v8 = .int .i64 (n : Int) ∧ v1 = .int .u32 (x : Int) ∧ v2 = .int .u32 (y : Int) ∧ Aside0 (x < 4294967296) ∧ Aside0 (y < 4294967296) ∧ Aside0 (ciDecR t (n - 1) x y = ciDecR t 16 l r) ∧ Aside0 (Ci 70 wz g t) ∧ Aside0 (Below w.heap.size w wz)) (fun v8 _ _ _ => (intOf v8).toNat)
  case atStart => exact ⟨17, l, r, by omega, by omega, rfl, rfl, rfl, HL, HR, ⟨rfl⟩, HC, HB⟩
  case round =>
    clear HC HB HL HR
    obtain ⟨n, x, y, hn1, hn, rfl, rfl, rfl, HX, HY, E, HC, HB⟩ := hrel
    by_cases hlt : 1 < n
    · obtain ⟨d, rfl⟩ : ∃ d, n = d + 2 := ⟨n - 2, by omega⟩
      have p0 : decide ((1 : Int) < ((d + 2 : Nat) : Int)) = true := decide_eq_true (by omega)
      have p1 : ((d + 2 : Nat) : Int) < 18 := by omega
      have hcell := HC.out.cell HO.out (d + 2) (by omega)
      have hx1 := ci_bxor x (ciW t (d + 2)) HX.out (HO.out.2 _)
      have HM := Aside0.mk (ci_xor HX.out (HO.out.2 (d + 2)))
      have hE := E.out
      rw [show d + 2 - 1 = d + 1 from rfl, ciDecR_succ] at hE
      obtain ⟨m, hm⟩ : ∃ m, x ^^^ ciW t (d + 2) = m := ⟨_, rfl⟩
      rw [hm] at hx1 HM hE
      have hx2 := ci_bxor y (ciF t m) HY.out (ciF_lt t m)
      have HZ := Aside0.mk (ci_xor HY.out (ciF_lt t m))
      replace E := Aside0.mk hE
      clear hm hE hlt
      have hsub : IntKind.i64.wrap (((d + 2 : Nat) : Int) - 1) = ((d + 1 : Nat) : Int) := by rw [IntKind.wrap_i64]; omega
      go_wp2_with (go_at_call 49; refine (cipher_Cipher_f.calls t g m _ HC.out HO.out HM.out).mono ?_; rintro e wn ⟨rfl, hdr⟩; have n0_ := Aside0.mk (below_step HB.out (below_of_drawn hdr)); have n1_ := Aside0.mk (HC.out.next (below_of_drawn hdr)); clear HB HC hcell; have HB := n0_; have HC := n1_; clear n0_ n1_ hdr)
      refine ⟨⟨d + 1, _, m, by omega, by omega, ?_, rfl, rfl, HZ, HM, E, HC, HB⟩, by simp [intOf]; omega⟩
      first | rfl | go_num | (simp; omega)
    · obtain rfl : n = 1 := by omega
      have h17 := HC.out.cell HO.out 0 (by omega)
      have h16 := HC.out.cell HO.out 1 (by omega)
      have hx1 := ci_bxor y (ciW t 0) HY.out (HO.out.2 _)
      have hx2 := ci_bxor x (ciW t 1) HX.out (HO.out.2 _)
      have hE : (x, y) = ciDecR t 16 l r := E.out
      have e1 : (ciDec t l r).1 = y ^^^ ciW t 0 := by unfold ciDec; rw [← hE]
      have e2 : (ciDec t l r).2 = x ^^^ ciW t 1 := by unfold ciDec; rw [← hE]
      replace e1 := Aside0.mk e1
      replace e2 := Aside0.mk e2
      clear hE
      go_wp2
      go_quiet (fail)
      go_wp2
      go_ret2
      refine ⟨?_, pw_below_drewN HB.out _⟩
      rw [e1.out, e2.out]
      rfl

/-! ### cipher_Cipher_Clone: function 30 -/
set_option maxHeartbeats 8000000 in
set_option maxRecDepth 100000 in
theorem cipher_Cipher_Clone.nil (w : World) : Calls Try.prog 30 #[.pointer none] w fun e w' => e = .returned (.pointer none) ∧ Below w.heap.size w w' := by
  go_enter Try.func30, Try.ntmps30
  go_wp2
  go_ret
  exact ⟨rfl, Below.refl _ _⟩
set_option maxHeartbeats 8000000 in
set_option maxRecDepth 100000 in
theorem cipher_Cipher_Clone.calls (g : Nat) (t : List Nat) (w : World) (hc : Ci 70 w g t) (ho : ciOk t) :
    Calls Try.prog 30 #[.pointer (some ⟨g, 0, none⟩)] w fun e w' => ∃ g2, w.heap.size ≤ g2 ∧ e = .returned (.pointer (some ⟨g2, 0, none⟩)) ∧ Ci 70 w' g2 t ∧ Below w.heap.size w w' := by
  have HC := Aside0.mk hc
  have HB := Aside0.mk (Below.refl w.heap.size w)
  obtain ⟨A, hA⟩ : ∃ A, ciA t = A := ⟨_, rfl⟩
  have S3 := Aside0.mk (show A.size = 1042 by rw [← hA, ciA_size]; exact ho.1)
  have O3 := Aside0.mk (show A.all (·.oneCell') = true by
    rw [← hA]
    unfold ciA
    rw [List.all_toArray, List.all_eq_true]
    intro v hv
    obtain ⟨x, _, rfl⟩ := List.mem_map.mp hv
    rfl)
  have HA := Aside0.mk hA
  have HC2 := Aside0.mk (show w.heap[g]? = some (.cells A 70 (0, 0)) by rw [← hA]; exact hc)
  obtain ⟨Z, hZ⟩ : ∃ Z, ciA (List.replicate 1042 0) = Z := ⟨_, rfl⟩
  have ZS := Aside0.mk (show Z.size = 1042 by rw [← hZ, ciA_size, List.length_replicate])
  have hz : ∀ W : World, (zeroValue 70).run Try.prog W = .ok (.agg Z) W := fun W => by rw [← hZ]; kernel_rfl
  replace hZ := Aside0.mk hZ
  clear hc ho hA
  go_enter Try.func30, Try.ntmps30
  go_wp2_with (first | ((with_reducible refine gate_dst (N := 8) rfl ?_); refine wpList_load_row rfl 70 (.tmp 7) rfl g rfl 70 A (0, 0) _ HC2.out Try.underlying70 rfl (by rw [S3.out]; kernel_rfl) ?_) | ((with_reducible refine gate_dst (N := 3) rfl ?_); refine box_event ?hg (N := 3) ?hd (cs := Z) (t := 70) ?hr ?_; (case hd => rfl); (case hg => rfl); (case hr => (rw [← hZ.out]; kernel_rfl)); intro gb hg wn hbox hb; have n0_ := Aside0.mk (below_step HB.out hb); have BX := Aside0.mk hbox; have LW := Aside0.mk (show w.heap.size ≤ gb by rw [hg]; exact HB.out.size); clear HB hbox hb hg hz; have HB := n0_; clear n0_) | (refine wpList_store_row rfl 70 (.tmp 3) (.tmp 8) rfl gb A rfl rfl 70 _ BX.out (by rw [S3.out]; kernel_rfl) (by rw [S3.out, ZS.out]) O3.out ?_; have n0_ := Aside0.mk (show Below w.heap.size w _ from below_setRow HB.out LW.out A); have n2_ := Aside0.mk (setRow_heap _ gb _ A 70 (0, 0) BX.out); clear HB BX; have HB := n0_; have BX := n2_; clear n0_ n2_))
  go_ret
  refine ⟨_, LW.out, rfl, ?_, HB.out⟩
  unfold Ci
  rw [HA.out]
  exact BX.out

/-! ### pestlelaw10_CipherBack: function 7 -/
theorem ci_xx (a b : Nat) : (a ^^^ b) ^^^ b = a := by rw [Nat.xor_assoc, Nat.xor_self, Nat.xor_zero]
/-- one round more, behind the others -/
theorem ciEncR_snoc (t : List Nat) : ∀ n i l r, ciEncR t (n + 1) i l r = ((ciEncR t n i l r).2 ^^^ ciF t ((ciEncR t n i l r).1 ^^^ ciW t (i + n)), (ciEncR t n i l r).1 ^^^ ciW t (i + n))
  | 0, i, l, r => rfl
  | n + 1, i, l, r => by
    have h := ciEncR_snoc t n (i + 1) (r ^^^ ciF t (l ^^^ ciW t i)) (l ^^^ ciW t i)
    rw [ciEncR_succ t (n + 1) i, h, ciEncR_succ t n i, show i + 1 + n = i + (n + 1) by omega]
theorem ciDec_run (t : List Nat) (l r : Nat) : ∀ n, ciDecR t n ((ciEncR t n 0 l r).2 ^^^ ciW t (n + 1)) ((ciEncR t n 0 l r).1 ^^^ ciW t n) = (r ^^^ ciW t 1, l ^^^ ciW t 0)
  | 0 => rfl
  | n + 1 => by
    have ih := ciDec_run t l r n
    have s := ciEncR_snoc t n 0 l r
    rw [Nat.zero_add] at s
    rw [ciDecR_succ, s]
    generalize ciEncR t n 0 l r = p at ih
    obtain ⟨a, b⟩ := p
    show ciDecR t n ((b ^^^ ciF t (a ^^^ ciW t n)) ^^^ ciW t (n + 1) ^^^ ciF t ((a ^^^ ciW t n) ^^^ ciW t (n + 1 + 1) ^^^ ciW t (n + 2))) ((a ^^^ ciW t n) ^^^ ciW t (n + 1 + 1) ^^^ ciW t (n + 2)) = _
    rw [show n + 1 + 1 = n + 2 from rfl, ci_xx, Nat.xor_assoc b, Nat.xor_comm (ciF t (a ^^^ ciW t n)) (ciW t (n + 1)), ← Nat.xor_assoc b, ci_xx]
    exact ih
theorem ciDec_enc (t : List Nat) (l r : Nat) : ciDec t (ciEnc t l r).1 (ciEnc t l r).2 = (l, r) := by
  have h := ciDec_run t l r 16
  unfold ciDec ciEnc
  rw [h, ci_xx, ci_xx]
theorem ciEnc_run (t : List Nat) : ∀ n l r, ciEncR t n 0 ((ciDecR t n l r).2 ^^^ ciW t 0) ((ciDecR t n l r).1 ^^^ ciW t 1) = (r ^^^ ciW t n, l ^^^ ciW t (n + 1))
  | 0, _, _ => rfl
  | n + 1, l, r => by
    have ih := ciEnc_run t n (r ^^^ ciF t (l ^^^ ciW t (n + 2))) (l ^^^ ciW t (n + 2))
    rw [ciEncR_snoc, ciDecR_succ, ih, Nat.zero_add]
    show ((r ^^^ ciF t (l ^^^ ciW t (n + 2))) ^^^ ciW t (n + 1) ^^^ ciF t (((l ^^^ ciW t (n + 2)) ^^^ ciW t n) ^^^ ciW t n), ((l ^^^ ciW t (n + 2)) ^^^ ciW t n) ^^^ ciW t n) = _
    rw [ci_xx, Nat.xor_assoc r, Nat.xor_comm (ciF t (l ^^^ ciW t (n + 2))) (ciW t (n + 1)), ← Nat.xor_assoc r, ci_xx]
theorem ciEnc_dec (t : List Nat) (l r : Nat) : ciEnc t (ciDec t l r).1 (ciDec t l r).2 = (l, r) := by
  have h := ciEnc_run t 16 l r
  unfold ciDec ciEnc
  rw [h, ci_xx, ci_xx]
noncomputable def pestlelaw10_CipherBack.f (k : Nat) (a0 a1 : ByteArray) (a2 a3 : Int) : Option Bool := (pestlelaw10_awake.f k).bind fun _ => (if 200 < a0.size ∨ 200 < a1.size then some true else (if (0 ≤ a2 ∧ a2 < 4294967296) ∧ 0 ≤ a3 ∧ a3 < 4294967296 then some true else none))
theorem pestlelaw10_CipherBack.mono : ∀ a0 a1 a2 a3 k, LeO (pestlelaw10_CipherBack.f k a0 a1 a2 a3) (pestlelaw10_CipherBack.f (k + 1) a0 a1 a2 a3) := by
  intro a0 a1 a2 a3 k
  unfold pestlelaw10_CipherBack.f
  exact LeO.bind (pestlelaw10_awake.mono _) (fun _ => LeO.refl _)
set_option maxHeartbeats 8000000 in
set_option maxRecDepth 100000 in
theorem pestlelaw10_CipherBack.calls (k : Nat) (a0 : ByteArray) (a1 : ByteArray) (a2 : Int) (a3 : Int) (r : Bool) (w : World) (h : pestlelaw10_CipherBack.f k a0 a1 a2 a3 = some r) :
    Calls Try.prog 7 #[.string a0, .string a1, .int .u32 a2, .int .u32 a3] w fun e w' => e = .returned (.bool r) ∧ Below w.heap.size w w' := by
  unfold pestlelaw10_CipherBack.f at h
  replace h := Option.bind_eq_some_iff.mp h
  obtain ⟨b, A0, h⟩ := h
  obtain ⟨rfl, hpi⟩ := pestlelaw10_awake.pi A0
  replace A0 := Aside0.mk A0
  have HP := Aside0.mk hpi
  clear hpi
  have HB := Aside0.mk (Below.refl w.heap.size w)
  have ho1 : bits .or .u32 0 0 = 0 := by decide
  by_cases hbig : 200 < a0.size ∨ 200 < a1.size
  · rw [if_pos hbig] at h
    obtain rfl := Option.some.inj h
    by_cases h0 : 200 < a0.size
    · have e1 : decide ((200 : Int) < (a0.size : Int)) = true := decide_eq_true (by omega)
      have e2 : decide (200 < a0.size) = true := decide_eq_true h0
      clear h hbig h0
      go_enter Try.func7, Try.ntmps7
      go_wp2_with (first | (go_at_call 16; with_reducible refine (pestlelaw10_awake.calls k true _ A0.out).mono ?_; rintro e wn ⟨rfl, hb⟩; have n0_ := Aside0.mk (below_step HB.out hb); clear HB hb; have HB := n0_; clear n0_) | (go_at_call 23; with_reducible refine (cipher_Cipher_Encrypt.nil _ _ _).mono ?_; rintro e wn ⟨rfl, hb⟩; have n0_ := Aside0.mk (below_step HB.out hb); clear HB; have HB := n0_; clear n0_) | (go_at_call 28; with_reducible refine (cipher_Cipher_Decrypt.nil _ _ _).mono ?_; rintro e wn ⟨rfl, hb⟩; have n0_ := Aside0.mk (below_step HB.out hb); clear HB; have HB := n0_; clear n0_) | (go_at_call 18; with_reducible refine (cipher_Cipher_Sum.nil _).mono ?_; rintro e wn ⟨rfl, hb⟩; have n0_ := Aside0.mk (below_step HB.out hb); clear HB; have HB := n0_; clear n0_) | (go_at_call 30; with_reducible refine (cipher_Cipher_Clone.nil _).mono ?_; rintro e wn ⟨rfl, hb⟩; have n0_ := Aside0.mk (below_step HB.out hb); clear HB; have HB := n0_; clear n0_) | (go_at_call 21; with_reducible refine (cipher_Cipher_Expand.nil a0 a1 _).mono ?_; rintro e wn ⟨rfl, hb⟩; have n0_ := Aside0.mk (below_step HB.out hb); clear HB; have HB := n0_; clear n0_))
      go_ret
      exact ⟨rfl, HB.out⟩
    · have h1 : 200 < a1.size := by omega
      have e1 : decide ((200 : Int) < (a0.size : Int)) = false := decide_eq_false (by omega)
      have e2 : decide (200 < a0.size) = false := decide_eq_false h0
      have e3 : decide ((200 : Int) < (a1.size : Int)) = true := decide_eq_true (by omega)
      have e4 : decide (200 < a1.size) = true := decide_eq_true h1
      clear h hbig h0 h1
      go_enter Try.func7, Try.ntmps7
      go_wp2_with (first | (go_at_call 16; with_reducible refine (pestlelaw10_awake.calls k true _ A0.out).mono ?_; rintro e wn ⟨rfl, hb⟩; have n0_ := Aside0.mk (below_step HB.out hb); clear HB hb; have HB := n0_; clear n0_) | (go_at_call 23; with_reducible refine (cipher_Cipher_Encrypt.nil _ _ _).mono ?_; rintro e wn ⟨rfl, hb⟩; have n0_ := Aside0.mk (below_step HB.out hb); clear HB; have HB := n0_; clear n0_) | (go_at_call 28; with_reducible refine (cipher_Cipher_Decrypt.nil _ _ _).mono ?_; rintro e wn ⟨rfl, hb⟩; have n0_ := Aside0.mk (below_step HB.out hb); clear HB; have HB := n0_; clear n0_) | (go_at_call 18; with_reducible refine (cipher_Cipher_Sum.nil _).mono ?_; rintro e wn ⟨rfl, hb⟩; have n0_ := Aside0.mk (below_step HB.out hb); clear HB; have HB := n0_; clear n0_) | (go_at_call 30; with_reducible refine (cipher_Cipher_Clone.nil _).mono ?_; rintro e wn ⟨rfl, hb⟩; have n0_ := Aside0.mk (below_step HB.out hb); clear HB; have HB := n0_; clear n0_) | (go_at_call 21; with_reducible refine (cipher_Cipher_Expand.nil a0 a1 _).mono ?_; rintro e wn ⟨rfl, hb⟩; have n0_ := Aside0.mk (below_step HB.out hb); clear HB; have HB := n0_; clear n0_))
      go_ret
      exact ⟨rfl, HB.out⟩
  rw [if_neg hbig] at h
  by_cases hr : (0 ≤ a2 ∧ a2 < 4294967296) ∧ 0 ≤ a3 ∧ a3 < 4294967296
  case neg => rw [if_neg hr] at h; cases h
  rw [if_pos hr] at h
  obtain ⟨⟨h1, h2⟩, h3, h4⟩ := hr
  obtain ⟨l, rfl⟩ : ∃ n : Nat, a2 = n := ⟨a2.toNat, by omega⟩
  obtain ⟨rr, rfl⟩ : ∃ n : Nat, a3 = n := ⟨a3.toNat, by omega⟩
  (try rw [Int.toNat_natCast, Int.toNat_natCast] at h)
  have L1 := Aside0.mk (show l < 4294967296 by omega)
  have L2 := Aside0.mk (show rr < 4294967296 by omega)
  have S1 := Aside0.mk (show a0.size ≤ 9223372036854775807 by omega)
  have S2 := Aside0.mk (show a1.size ≤ 9223372036854775807 by omega)
  have e1 : decide ((200 : Int) < (a0.size : Int)) = false := decide_eq_false (by omega)
  have e2 : decide (200 < a0.size) = false := decide_eq_false (by omega)
  have e3 : decide ((200 : Int) < (a1.size : Int)) = false := decide_eq_false (by omega)
  have e4 : decide (200 < a1.size) = false := decide_eq_false (by omega)
  have OP := Aside0.mk ciPi_ok
  obtain ⟨P, hPe⟩ : ∃ P, ciPi = P := ⟨_, rfl⟩
  rw [hPe] at OP HP
  have OPL := Aside0.mk OP.out.1
  have OT1 := Aside0.mk (ciExpand_ok OP.out (ciWord_lt a0) (ciWord_lt a1))
  obtain rfl := Option.some.inj h
  obtain ⟨T, hT⟩ : ∃ T, ciExpand P (ciWord a0) (ciWord a1) = T := ⟨_, rfl⟩
  rw [hT] at OT1
  replace hT := Aside0.mk hT
  clear hPe
  have Q1 := ciEnc_lt OT1.out L1.out L2.out
  have Q2 := ciDec_lt OT1.out L1.out L2.out
  have D1 := ciDec_enc T l rr
  have D2 := ciEnc_dec T l rr
  obtain ⟨c1, hc1⟩ : ∃ c1, (ciEnc T l rr).1 = c1 := ⟨_, rfl⟩
  obtain ⟨c2, hc2⟩ : ∃ c2, (ciEnc T l rr).2 = c2 := ⟨_, rfl⟩
  obtain ⟨d1, hd1⟩ : ∃ d1, (ciDec T l rr).1 = d1 := ⟨_, rfl⟩
  obtain ⟨d2, hd2⟩ : ∃ d2, (ciDec T l rr).2 = d2 := ⟨_, rfl⟩
  rw [hc1, hc2] at Q1 D1
  rw [hd1, hd2] at Q2 D2
  have K1 := Aside0.mk (show (ciDec T c1 c2).1 = l ∧ (ciDec T c1 c2).2 = rr by rw [D1]; exact ⟨rfl, rfl⟩)
  have K2 := Aside0.mk (show (ciEnc T d1 d2).1 = l ∧ (ciEnc T d1 d2).2 = rr by rw [D2]; exact ⟨rfl, rfl⟩)
  replace Q1 := Aside0.mk Q1
  replace Q2 := Aside0.mk Q2
  replace hc1 := Aside0.mk hc1
  replace hc2 := Aside0.mk hc2
  replace hd1 := Aside0.mk hd1
  replace hd2 := Aside0.mk hd2
  clear h h1 h2 h3 h4 hbig D1 D2
  go_enter Try.func7, Try.ntmps7
  go_wp2_with (first | (go_at_call 16; with_reducible refine (pestlelaw10_awake.calls k true _ A0.out).mono ?_; rintro e wn ⟨rfl, hb⟩; have n0_ := Aside0.mk (below_step HB.out hb); clear HB hb; have HB := n0_; clear n0_) | (go_at_call 23; with_reducible refine (cipher_Cipher_Encrypt.nil _ _ _).mono ?_; rintro e wn ⟨rfl, hb⟩; have n0_ := Aside0.mk (below_step HB.out hb); clear HB; have HB := n0_; clear n0_) | (go_at_call 28; with_reducible refine (cipher_Cipher_Decrypt.nil _ _ _).mono ?_; rintro e wn ⟨rfl, hb⟩; have n0_ := Aside0.mk (below_step HB.out hb); clear HB; have HB := n0_; clear n0_) | (go_at_call 18; with_reducible refine (cipher_Cipher_Sum.nil _).mono ?_; rintro e wn ⟨rfl, hb⟩; have n0_ := Aside0.mk (below_step HB.out hb); clear HB; have HB := n0_; clear n0_) | (go_at_call 30; with_reducible refine (cipher_Cipher_Clone.nil _).mono ?_; rintro e wn ⟨rfl, hb⟩; have n0_ := Aside0.mk (below_step HB.out hb); clear HB; have HB := n0_; clear n0_) | (go_at_call 21; with_reducible refine (cipher_Cipher_Expand.nil a0 a1 _).mono ?_; rintro e wn ⟨rfl, hb⟩; have n0_ := Aside0.mk (below_step HB.out hb); clear HB; have HB := n0_; clear n0_) | (go_at_call 17; with_reducible refine (cipher_Plain.calls k P OPL.out HP.out _).mono ?_; rintro e wn ⟨g, hg, rfl, hc, hb⟩; have HC := Aside0.mk hc; have HG := Aside0.mk (Nat.le_trans HB.out.size hg); have n0_ := Aside0.mk (below_step HB.out hb); clear HB; have HB := n0_; clear n0_; clear hg hc hb) | (go_at_call 21; with_reducible refine (cipher_Cipher_Expand.calls a0 a1 S1.out S2.out g _ _ HC.out OP.out).mono ?_; rintro e wn ⟨rfl, hc, hb⟩; have n0_ := Aside0.mk (But.below HB.out hb HG.out HB.out.size); clear HB HC hb; have HB := n0_; rw [hT.out] at hc; have HC := Aside0.mk hc; clear n0_ hc) | (go_at_call 18; with_reducible refine (cipher_Cipher_Sum.calls g T _ HC.out OT1.out).mono ?_; rintro e wn ⟨rfl, hb⟩; have n0_ := Aside0.mk (below_step HB.out hb); have n1_ := Aside0.mk (HC.out.next hb); clear HB HC; have HB := n0_; have HC := n1_; clear n0_ n1_) | (go_at_call 30; with_reducible refine (cipher_Cipher_Clone.calls g T _ HC.out OT1.out).mono ?_; rintro e wn ⟨g2, hg2, rfl, hc2, hb⟩; have HD := Aside0.mk hc2; have HG2 := Aside0.mk (show w.heap.size ≤ g2 from Nat.le_trans HB.out.size hg2); have HN := Aside0.mk (show g ≠ g2 from fun q => by have := HC.out.lt; omega); have n0_ := Aside0.mk (below_step HB.out hb); have n1_ := Aside0.mk (HC.out.next hb); clear HB HC; have HB := n0_; have HC := n1_; clear n0_ n1_; clear hg2 hc2 hb) | (go_at_call 21; with_reducible refine (cipher_Cipher_Expand.calls (⟨#[97]⟩ : ByteArray) (⟨#[98]⟩ : ByteArray) (by decide) (by decide) g2 T _ HD.out OT1.out).mono ?_; rintro e wn ⟨rfl, hc, hb⟩; have n0_ := Aside0.mk (But.below HB.out hb HG2.out HB.out.size); have n1_ := Aside0.mk (But.ci HC.out hb HN.out); clear HB HC HD hb hc; have HB := n0_; have HC := n1_; clear n0_ n1_) | (go_at_call 23; with_reducible refine (cipher_Cipher_Encrypt.calls T g l rr _ HC.out OT1.out L1.out L2.out).mono ?_; rintro e wn ⟨rfl, hb⟩; rw [hc1.out, hc2.out]; have n0_ := Aside0.mk (below_step HB.out hb); have n1_ := Aside0.mk (HC.out.next hb); clear HB HC; have HB := n0_; have HC := n1_; clear n0_ n1_; clear hb) | (go_at_call 23; with_reducible refine (cipher_Cipher_Encrypt.calls T g d1 d2 _ HC.out OT1.out Q2.out.1 Q2.out.2).mono ?_; rintro e wn ⟨rfl, hb⟩; rw [K2.out.1, K2.out.2]; have n0_ := Aside0.mk (below_step HB.out hb); have n1_ := Aside0.mk (HC.out.next hb); clear HB HC; have HB := n0_; have HC := n1_; clear n0_ n1_; clear hb) | (go_at_call 28; with_reducible refine (cipher_Cipher_Decrypt.calls T g l rr _ HC.out OT1.out L1.out L2.out).mono ?_; rintro e wn ⟨rfl, hb⟩; rw [hd1.out, hd2.out]; have n0_ := Aside0.mk (below_step HB.out hb); have n1_ := Aside0.mk (HC.out.next hb); clear HB HC; have HB := n0_; have HC := n1_; clear n0_ n1_; clear hb) | (go_at_call 28; with_reducible refine (cipher_Cipher_Decrypt.calls T g c1 c2 _ HC.out OT1.out Q1.out.1 Q1.out.2).mono ?_; rintro e wn ⟨rfl, hb⟩; rw [K1.out.1, K1.out.2]; have n0_ := Aside0.mk (below_step HB.out hb); have n1_ := Aside0.mk (HC.out.next hb); clear HB HC; have HB := n0_; have HC := n1_; clear n0_ n1_; clear hb))
  go_ret
  exact ⟨rfl, HB.out⟩

end Go.Proofs.Ytimgndceiibaeaa.Pall
