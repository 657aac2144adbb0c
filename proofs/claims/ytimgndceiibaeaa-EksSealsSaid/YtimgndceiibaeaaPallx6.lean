-- PRINTED by print.py (a twelfth state) out of the translation. Not trusted: Lean checks it.
import Derived.Test.YtimgndceiibaeaaPallx0
import Derived.Test.YtimgndceiibaeaaPallx1
import Derived.Test.YtimgndceiibaeaaPallx3
import Derived.Test.YtimgndceiibaeaaPallx5
namespace Go.Proofs.Ytimgndceiibaeaa.Pall
open Go.RowKit Go.Proofs.YtimgndceiibaeaaW.PrintWords Go.Proofs.YtimgndceiibaeaaW.PrintLast Go.Proofs.YtimgndceiibaeaaW.PrintMore
attribute [local go_sem] max2_int min2_int max_two min_two max_three min_three max_four min_four   -- for this text's walks alone
set_option linter.unusedVariables false
set_option linter.unusedSimpArgs false

/-! ### cipher_New: function 27 -/
set_option maxHeartbeats 8000000 in
set_option maxRecDepth 100000 in
theorem cipher_New.bad (key : ByteArray) (w : World) (h : key.size = 0 ∨ 72 < key.size) : Calls Try.prog 27 #[.string key] w fun e w' => e = .returned (.tuple #[.pointer none, .int .i64 1]) ∧ Below w.heap.size w w' := by
  by_cases h0 : key.size = 0
  · have e1 := (ci_empty (s := key)).1
    have e2 := (ci_empty (s := key)).2
    rw [decide_eq_true h0] at e1 e2
    go_enter Try.func27, Try.ntmps27
    go_wp2
    go_ret2
    exact ⟨rfl, Below.refl _ _⟩
  · have e1 := (ci_empty (s := key)).1
    have e2 := (ci_empty (s := key)).2
    have e3 : decide ((72 : Int) < (key.size : Int)) = true := decide_eq_true (by omega)
    have e4 : decide (72 < key.size) = true := decide_eq_true (by omega)
    rw [decide_eq_false h0] at e1 e2
    go_enter Try.func27, Try.ntmps27
    go_wp2
    go_ret2
    exact ⟨rfl, Below.refl _ _⟩
set_option maxHeartbeats 8000000 in
set_option maxRecDepth 100000 in
theorem cipher_New.calls (k : Nat) (t : List Nat) (ho : ciOk t) (hpi : pi_Words.f k 0 1042 = some (ciI t, 0)) (key : ByteArray) (w : World) (h0 : ¬ key.size = 0) (h72 : key.size ≤ 72) :
    Calls Try.prog 27 #[.string key] w fun e w' => ∃ g, w.heap.size ≤ g ∧ e = .returned (.tuple #[.pointer (some ⟨g, 0, none⟩), .int .i64 0]) ∧ Ci 70 w' g (ciExpand t (ciWord ciE) (ciWord key)) ∧ Below w.heap.size w w' := by
  have HO := Aside0.mk ho
  have HP := Aside0.mk hpi
  have HZ := Aside0.mk h72
  have e1 := (ci_empty (s := key)).1
  have e2 := (ci_empty (s := key)).2
  have e3 : decide ((72 : Int) < (key.size : Int)) = false := decide_eq_false (by omega)
  have e4 : decide (72 < key.size) = false := decide_eq_false (by omega)
  rw [decide_eq_false h0] at e1 e2
  clear ho hpi h72 h0
  go_enter Try.func27, Try.ntmps27
  go_wp2_with (first | (go_at_call 17; refine (cipher_Plain.calls k t HO.out.1 HP.out _).mono ?_; rintro e wn ⟨g, hg, rfl, hc, hb⟩; have HC := Aside0.mk hc; have HG := Aside0.mk hg; have HB := Aside0.mk hb; clear hc hg hb) | (go_at_call 21; refine (cipher_Cipher_Expand.calls ciE key (by decide) (by have := HZ.out; omega) g t _ HC.out HO.out).mono ?_; rintro e wn2 ⟨rfl, hc, hb⟩; have n0_ := Aside0.mk hc; have n1_ := Aside0.mk (But.below HB.out hb HG.out HB.out.size); clear HC HB hc hb; have HC := n0_; have HB := n1_; clear n0_ n1_))
  go_ret2
  exact ⟨g, HG.out, rfl, HC.out, HB.out⟩

/-! ### size_Within: function 53 -/
def size_Within.f (a0 : Int) (a1 : Int) (a2 : Int) : Option (Bool) := if a0 ≥ a1 then (some (decide (a0 ≤ a2))) else (some false)
set_option maxHeartbeats 8000000 in
set_option maxRecDepth 100000 in
theorem size_Within.calls (a0 : Int) (a1 : Int) (a2 : Int) (r : Bool) (w : World) (h : size_Within.f a0 a1 a2 = some r) :
  Calls Try.prog 53 #[.int .i64 a0, .int .i64 a1, .int .i64 a2] w fun e w' => e = .returned (.bool r) ∧ Drawn0 w w' := by
 have H : (if a0 ≥ a1 then (some (decide (a0 ≤ a2))) else (some false)) = some r := h
 clear h
 by_cases c4 : a0 ≥ a1
 ·rw [if_pos c4] at H
  have c4b0 : decide (a1 ≤ a0) = true := decide_eq_true c4
  clear c4
  obtain rfl := Option.some.inj H
  go_enter Try.func53, Try.ntmps53
  go_wp2
  go_ret
  exact ⟨by first | rfl | (simp; done) | (simp [*]; done) | (simp [show ∀ l_ : List UInt8, (l_ != []) = !l_.isEmpty from fun l_ => by cases l_ <;> rfl]; done), by repeat (first | exact Drawn0.refl _ | apply Drawn0.step)⟩
 ·rw [if_neg c4] at H
  have c4b0 : decide (a1 ≤ a0) = false := decide_eq_false c4
  clear c4
  obtain rfl := Option.some.inj H
  go_enter Try.func53, Try.ntmps53
  go_wp2
  go_ret
  exact ⟨by first | rfl | (simp; done) | (simp [*]; done) | (simp [show ∀ l_ : List UInt8, (l_ != []) = !l_.isEmpty from fun l_ => by cases l_ <;> rfl]; done), by repeat (first | exact Drawn0.refl _ | apply Drawn0.step)⟩

/-! ### size_Power: function 54 -/
def size_Power.f (a0 : Int) : Option (Int × Int) := if a0 < 0 then (some (0, 1)) else (if a0 > 62 then (some (0, 10)) else (if 0 ≤ a0 then (some (shl .i64 1 a0, 0)) else (none)))
set_option maxHeartbeats 8000000 in
set_option maxRecDepth 100000 in
theorem size_Power.calls (a0 : Int) (r1 : Int) (r2 : Int) (w : World) (h : size_Power.f a0 = some (r1, r2)) :
  Calls Try.prog 54 #[.int .i64 a0] w fun e w' => e = .returned (.tuple #[.int .i64 r1, .int .i64 r2]) ∧ Drawn0 w w' := by
 have H : (if a0 < 0 then (some (0, 1)) else (if a0 > 62 then (some (0, 10)) else (if 0 ≤ a0 then (some (shl .i64 1 a0, 0)) else (none)))) = some (r1, r2) := h
 clear h
 by_cases c2 : a0 < 0
 ·rw [if_pos c2] at H
  have c2b0 : decide (a0 < 0) = true := decide_eq_true c2
  clear c2
  simp only [Option.some.injEq, Prod.mk.injEq] at H
  obtain ⟨rfl, rfl⟩ := H
  go_enter Try.func54, Try.ntmps54
  go_wp2
  go_ret2
  exact ⟨by first | rfl | (simp; done) | (simp [*]; done) | (simp [show ∀ l_ : List UInt8, (l_ != []) = !l_.isEmpty from fun l_ => by cases l_ <;> rfl]; done), by repeat (first | exact Drawn0.refl _ | apply Drawn0.step)⟩
 ·rw [if_neg c2] at H
  have c2b0 : decide (a0 < 0) = false := decide_eq_false c2
  clear c2
  by_cases c3 : a0 > 62
  ·rw [if_pos c3] at H
   have c3b0 : decide (62 < a0) = true := decide_eq_true c3
   clear c3
   simp only [Option.some.injEq, Prod.mk.injEq] at H
   obtain ⟨rfl, rfl⟩ := H
   go_enter Try.func54, Try.ntmps54
   go_wp2
   go_ret2
   exact ⟨by first | rfl | (simp; done) | (simp [*]; done) | (simp [show ∀ l_ : List UInt8, (l_ != []) = !l_.isEmpty from fun l_ => by cases l_ <;> rfl]; done), by repeat (first | exact Drawn0.refl _ | apply Drawn0.step)⟩
  ·rw [if_neg c3] at H
   have c3b0 : decide (62 < a0) = false := decide_eq_false c3
   clear c3
   by_cases c4 : 0 ≤ a0
   ·rw [if_pos c4] at H
    have c4b0 := eq_true c4
    have c4b1 : decide (0 ≤ a0) = true := decide_eq_true c4
    clear c4
    obtain ⟨ji5, hji5⟩ : ∃ j_ : Int, (shl .i64 1 a0) = j_ := ⟨_, rfl⟩
    replace H : (some (ji5, 0)) = some (r1, r2) := by first | (rw [hji5] at H; exact H) | (simp only [hji5] at H ⊢; exact H)
    have hji5_ : (IntKind.i64.wrap (1 * 2 ^ min a0.toNat 64)) = ji5 := hji5
    have hji5z : a0 ≤ 64 → (IntKind.i64.wrap (1 * 2 ^ a0.toNat)) = ji5 := shl_small hji5
    have hji5u : (IntKind.i64.wrap (2 ^ min a0.toNat 64)) = ji5 := by have h_ := hji5_; rw [Int.one_mul] at h_; exact h_
    have hji5v : a0 ≤ 64 → (IntKind.i64.wrap (2 ^ a0.toNat)) = ji5 := fun hle_ => by have h_ := hji5z hle_; rw [Int.one_mul] at h_; exact h_
    have hji5y : (wrap64 (1 * 2 ^ min a0.toNat 64)) = ji5 := (i64_w _).symm.trans hji5_
    have hji5x : a0 ≤ 64 → (wrap64 (1 * 2 ^ a0.toNat)) = ji5 := fun h_ => (i64_w _).symm.trans (hji5z h_)
    simp only [Option.some.injEq, Prod.mk.injEq] at H
    obtain ⟨rfl, rfl⟩ := H
    go_enter Try.func54, Try.ntmps54
    go_wp2
    go_ret2
    exact ⟨by first | rfl | (simp; done) | (simp only [← hji5] <;> (first | rfl | simp)) | (simp [*]; done), by repeat (first | exact Drawn0.refl _ | apply Drawn0.step)⟩
   ·rw [if_neg c4] at H
    exact absurd H (by simp)

/-! ### eks_Rounds: function 32 -/
def eks_Rounds.f (a0 : Int) : Option (Int × Int) := (size_Within.f a0 4 31).bind fun t134 => (if t134 = true then ((size_Power.f a0).bind fun bt135 => (some (bt135.1, bt135.2))) else (some (0, 2)))
set_option maxHeartbeats 8000000 in
set_option maxRecDepth 100000 in
theorem eks_Rounds.calls (a0 : Int) (r1 : Int) (r2 : Int) (w : World) (h : eks_Rounds.f a0 = some (r1, r2)) :
  Calls Try.prog 32 #[.int .i64 a0] w fun e w' => e = .returned (.tuple #[.int .i64 r1, .int .i64 r2]) ∧ Drawn0 w w' := by
 have H : ((size_Within.f a0 4 31).bind fun t134 => (if t134 = true then ((size_Power.f a0).bind fun bt135 => (some (bt135.1, bt135.2))) else (some (0, 2)))) = some (r1, r2) := h
 clear h
 replace H := Option.bind_eq_some_iff.mp H
 obtain ⟨t134, A20, H⟩ := H
 replace H : (if t134 = true then ((size_Power.f a0).bind fun bt135 => (some (bt135.1, bt135.2))) else (some (0, 2))) = some (r1, r2) := H
 have A2 := Aside0.mk A20
 clear A20
 by_cases c3 : t134 = true
 ·subst c3
  have H1 : ((size_Power.f a0).bind fun bt135 => (some (bt135.1, bt135.2))) = some (r1, r2) := by rw [if_pos rfl] at H; exact H
  clear H
  have H := H1
  clear H1
  replace H := Option.bind_eq_some_iff.mp H
  obtain ⟨⟨t135, t136⟩, A40, H⟩ := H
  replace H : (some (t135, t136)) = some (r1, r2) := H
  have A4 := Aside0.mk A40
  clear A40
  simp only [Option.some.injEq, Prod.mk.injEq] at H
  obtain ⟨rfl, rfl⟩ := H
  go_enter Try.func32, Try.ntmps32
  go_wp2_with (first | ((with_reducible refine gate_callee (f := 53) rfl ?_); refine goesL_ (some 5) rfl rfl Try.func53 (by kernel_rfl) rfl #[.int .i64 a0, .int .i64 4, .int .i64 31] rfl (by (try simp only [List.map_toArray, List.map_cons, List.map_nil]); first | done | rfl | (simp only [List.length_drop, List.length_take]; rfl)) ?_; (with_reducible refine (size_Within.calls a0 4 31 true _ A2.out).mono ?_); rintro e w' ⟨rfl, ⟨nd, rfl⟩⟩; refine ⟨_, rfl, ?_⟩) | ((with_reducible refine gate_callee (f := 54) rfl ?_); refine goesL_ (some 8) rfl rfl Try.func54 (by kernel_rfl) rfl #[.int .i64 a0] rfl (by (try simp only [List.map_toArray, List.map_cons, List.map_nil]); first | done | rfl | (simp only [List.length_drop, List.length_take]; rfl)) ?_; (with_reducible refine (size_Power.calls a0 t135 t136 _ A4.out).mono ?_); rintro e w' ⟨rfl, ⟨nd, rfl⟩⟩; refine ⟨_, rfl, ?_⟩))
  go_ret2
  exact ⟨by first | rfl | (simp; done) | (simp [*]; done) | (simp [show ∀ l_ : List UInt8, (l_ != []) = !l_.isEmpty from fun l_ => by cases l_ <;> rfl]; done), by repeat (first | exact Drawn0.refl _ | apply Drawn0.step)⟩
 ·replace c3 := Bool.eq_false_iff.mpr c3
  subst c3
  have H1 : (some (0, 2)) = some (r1, r2) := by rw [if_neg (show ¬ (false = true) by decide)] at H; exact H
  clear H
  have H := H1
  clear H1
  simp only [Option.some.injEq, Prod.mk.injEq] at H
  obtain ⟨rfl, rfl⟩ := H
  go_enter Try.func32, Try.ntmps32
  go_wp2_with (first | ((with_reducible refine gate_callee (f := 53) rfl ?_); refine goesL_ (some 5) rfl rfl Try.func53 (by kernel_rfl) rfl #[.int .i64 a0, .int .i64 4, .int .i64 31] rfl (by (try simp only [List.map_toArray, List.map_cons, List.map_nil]); first | done | rfl | (simp only [List.length_drop, List.length_take]; rfl)) ?_; (with_reducible refine (size_Within.calls a0 4 31 false _ A2.out).mono ?_); rintro e w' ⟨rfl, ⟨nd, rfl⟩⟩; refine ⟨_, rfl, ?_⟩))
  go_ret2
  exact ⟨by first | rfl | (simp; done) | (simp [*]; done) | (simp [show ∀ l_ : List UInt8, (l_ != []) = !l_.isEmpty from fun l_ => by cases l_ <;> rfl]; done), by repeat (first | exact Drawn0.refl _ | apply Drawn0.step)⟩

/-! ### eks_Setup: function 33 -/
/-- so many rounds: the key, and the salt -/
def ciSet (salt key : ByteArray) : Nat → List Nat → List Nat
  | 0, t => t
  | n + 1, t => ciSet salt key n (ciExpand (ciExpand t (ciWord (⟨#[]⟩ : ByteArray)) (ciWord key)) (ciWord (⟨#[]⟩ : ByteArray)) (ciWord salt))
theorem ciSet_succ (salt key : ByteArray) (n : Nat) (t : List Nat) : ciSet salt key (n + 1) t = ciSet salt key n (ciExpand (ciExpand t (ciWord (⟨#[]⟩ : ByteArray)) (ciWord key)) (ciWord (⟨#[]⟩ : ByteArray)) (ciWord salt)) := by
  delta ciSet
  rfl
theorem ciSet_ok (salt key : ByteArray) : ∀ n t, ciOk t → ciOk (ciSet salt key n t)
  | 0, _, h => h
  | n + 1, t, h => by
    rw [ciSet_succ]
    exact ciSet_ok salt key n _ (ciExpand_ok (ciExpand_ok h (ciWord_lt _) (ciWord_lt _)) (ciWord_lt _) (ciWord_lt _))
set_option maxHeartbeats 8000000 in
set_option maxRecDepth 100000 in
theorem eks_Setup.cost (cost m e0 : Int) (salt key : ByteArray) (w : World) (hr : eks_Rounds.f cost = some (m, e0)) (h0 : e0 ≠ 0) :
    Calls Try.prog 33 #[.int .i64 cost, .string salt, .string key] w fun e w' => e = .returned (.tuple #[.pointer none, .int .i64 e0]) ∧ Below w.heap.size w w' := by
  have HR := Aside0.mk hr
  have HB := Aside0.mk (Below.refl w.heap.size w)
  have e1 : (e0 == 0) = false := beq_eq_false_iff_ne.2 h0
  have e2 : (e0 != 0) = true := bne_iff_ne.2 h0
  clear hr h0
  go_enter Try.func33, Try.ntmps33
  go_wp2_with (go_at_call 32; with_reducible refine (eks_Rounds.calls cost m e0 _ HR.out).mono ?_; rintro e wn ⟨rfl, hd⟩; have n0_ := Aside0.mk (below_step HB.out (below_of_drawn hd)); clear HB hd; have HB := n0_; clear n0_)
  go_ret2
  exact ⟨rfl, HB.out⟩
set_option maxHeartbeats 8000000 in
set_option maxRecDepth 100000 in
theorem eks_Setup.salt (cost m : Int) (salt key : ByteArray) (w : World) (hr : eks_Rounds.f cost = some (m, 0)) (h0 : salt.size ≠ 16) :
    Calls Try.prog 33 #[.int .i64 cost, .string salt, .string key] w fun e w' => e = .returned (.tuple #[.pointer none, .int .i64 9]) ∧ Below w.heap.size w w' := by
  have HR := Aside0.mk hr
  have HB := Aside0.mk (Below.refl w.heap.size w)
  have e1 : ((salt.size : Int) == 16) = false := beq_eq_false_iff_ne.2 (by omega)
  have e2 : ((salt.size : Int) != 16) = true := bne_iff_ne.2 (by omega)
  have e3 : (salt.size == 16) = false := beq_eq_false_iff_ne.2 h0
  have e4 : (salt.size != 16) = true := bne_iff_ne.2 h0
  clear hr h0
  go_enter Try.func33, Try.ntmps33
  go_wp2_with (go_at_call 32; with_reducible refine (eks_Rounds.calls cost m 0 _ HR.out).mono ?_; rintro e wn ⟨rfl, hd⟩; have n0_ := Aside0.mk (below_step HB.out (below_of_drawn hd)); clear HB hd; have HB := n0_; clear n0_)
  go_ret2
  exact ⟨rfl, HB.out⟩
set_option maxHeartbeats 8000000 in
set_option maxRecDepth 100000 in
theorem eks_Setup.key (cost m : Int) (salt key : ByteArray) (w : World) (hr : eks_Rounds.f cost = some (m, 0)) (hs : salt.size = 16) (h0 : key.size = 0 ∨ 72 < key.size) :
    Calls Try.prog 33 #[.int .i64 cost, .string salt, .string key] w fun e w' => e = .returned (.tuple #[.pointer none, .int .i64 3]) ∧ Below w.heap.size w w' := by
  have HR := Aside0.mk hr
  have HB := Aside0.mk (Below.refl w.heap.size w)
  have e1 : ((salt.size : Int) == 16) = true := beq_iff_eq.2 (by omega)
  have e2 : ((salt.size : Int) != 16) = false := bne_eq_false_iff_eq.2 (by omega)
  have e3 : (salt.size == 16) = true := beq_iff_eq.2 hs
  have e4 : (salt.size != 16) = false := bne_eq_false_iff_eq.2 hs
  have e5 := (ci_empty (s := key)).1
  have e6 := (ci_empty (s := key)).2
  by_cases hz : key.size = 0
  · rw [decide_eq_true hz] at e5 e6
    clear hr hs h0 hz
    go_enter Try.func33, Try.ntmps33
    go_wp2_with (go_at_call 32; with_reducible refine (eks_Rounds.calls cost m 0 _ HR.out).mono ?_; rintro e wn ⟨rfl, hd⟩; have n0_ := Aside0.mk (below_step HB.out (below_of_drawn hd)); clear HB hd; have HB := n0_; clear n0_)
    go_ret2
    exact ⟨rfl, HB.out⟩
  · have e7 : decide ((72 : Int) < (key.size : Int)) = true := decide_eq_true (by omega)
    have e8 : decide (72 < key.size) = true := decide_eq_true (by omega)
    rw [decide_eq_false hz] at e5 e6
    clear hr hs h0 hz
    go_enter Try.func33, Try.ntmps33
    go_wp2_with (go_at_call 32; with_reducible refine (eks_Rounds.calls cost m 0 _ HR.out).mono ?_; rintro e wn ⟨rfl, hd⟩; have n0_ := Aside0.mk (below_step HB.out (below_of_drawn hd)); clear HB hd; have HB := n0_; clear n0_)
    go_ret2
    exact ⟨rfl, HB.out⟩
set_option maxHeartbeats 8000000 in
set_option maxRecDepth 100000 in
theorem eks_Setup.calls (k : Nat) (P : List Nat) (hP : ciOk P) (hpi : pi_Words.f k 0 1042 = some (ciI P, 0)) (cost : Int) (m : Nat) (salt key : ByteArray) (w : World) (hr : eks_Rounds.f cost = some ((m : Int), 0)) (hm : m ≤ 4294967296) (hs : salt.size = 16) (h0 : ¬ (key.size = 0 ∨ 72 < key.size)) :
    Calls Try.prog 33 #[.int .i64 cost, .string salt, .string key] w fun e w' => ∃ g, w.heap.size ≤ g ∧ e = .returned (.tuple #[.pointer (some ⟨g, 0, none⟩), .int .i64 0]) ∧ Ci 70 w' g (ciSet salt key m (ciExpand P (ciWord salt) (ciWord key))) ∧ Below w.heap.size w w' := by
  have HR := Aside0.mk hr
  have HP := Aside0.mk hpi
  have HM := Aside0.mk hm
  have OP := Aside0.mk hP
  have OPL := Aside0.mk hP.1
  have HB := Aside0.mk (Below.refl w.heap.size w)
  have HS := Aside0.mk (show salt.size ≤ 9223372036854775807 by omega)
  have HK := Aside0.mk (show key.size ≤ 9223372036854775807 by omega)
  have HE := Aside0.mk (show (⟨#[]⟩ : ByteArray).size ≤ 9223372036854775807 by decide)
  have OT := Aside0.mk (ciExpand_ok hP (ciWord_lt salt) (ciWord_lt key))
  have e1 : ((salt.size : Int) == 16) = true := beq_iff_eq.2 (by omega)
  have e2 : ((salt.size : Int) != 16) = false := bne_eq_false_iff_eq.2 (by omega)
  have e3 : (salt.size == 16) = true := beq_iff_eq.2 hs
  have e4 : (salt.size != 16) = false := bne_eq_false_iff_eq.2 hs
  have e5 := (ci_empty (s := key)).1
  have e6 := (ci_empty (s := key)).2
  rw [decide_eq_false (show ¬ key.size = 0 by omega)] at e5 e6
  have e7 : decide ((72 : Int) < (key.size : Int)) = false := decide_eq_false (by omega)
  have e8 : decide (72 < key.size) = false := decide_eq_false (by omega)
  obtain ⟨T, hT⟩ : ∃ T, ciExpand P (ciWord salt) (ciWord key) = T := ⟨_, rfl⟩
  rw [hT] at OT ⊢
  replace hT := Aside0.mk hT
  clear hr hpi hm hP hs h0
  go_enter Try.func33, Try.ntmps33
  go_wp2_with (first | (go_at_call 32; with_reducible refine (eks_Rounds.calls cost (m : Int) 0 _ HR.out).mono ?_; rintro e wn ⟨rfl, hd⟩; have n0_ := Aside0.mk (below_step HB.out (below_of_drawn hd)); clear HB hd; have HB := n0_; clear n0_) | (go_at_call 17; with_reducible refine (cipher_Plain.calls k P OPL.out HP.out _).mono ?_; rintro e wn ⟨g, hg, rfl, hc, hb⟩; have HC := Aside0.mk hc; have HG := Aside0.mk (Nat.le_trans HB.out.size hg); have n0_ := Aside0.mk (below_step HB.out hb); clear HB; have HB := n0_; clear n0_; clear hg hc hb) | (go_at_call 21; with_reducible refine (cipher_Cipher_Expand.calls salt key HS.out HK.out g _ _ HC.out OP.out).mono ?_; rintro e wn ⟨rfl, hc, hb⟩; have n0_ := Aside0.mk (But.below HB.out hb HG.out HB.out.size); clear HB HC hb; have HB := n0_; rw [hT.out] at hc; have HC := Aside0.mk hc; clear n0_ hc))
  clear e1 e2 e3 e4 e5 e6 e7 e8
  have HT0 := Aside0.mk (show ciSet salt key m T = ciSet salt key m T from rfl)
  go_loopw [37] (fun v37 wz => ∃ (n : Nat) (t : List Nat), n ≤ m ∧ v37 = .int .i64 (n : Int) ∧ Aside0 (ciOk t) ∧ Aside0 (ciSet salt key (m - n) t = ciSet salt key m T) ∧ Aside0 (Ci 70 wz g t) ∧ Aside0 (Below w.heap.size w wz)) (fun v37 _ => m - (intOf v37).toNat)
  case atStart => exact ⟨0, T, by omega, rfl, OT, ⟨rfl⟩, HC, HB⟩
  case round =>
    clear HC HB HT0
    obtain ⟨n, t, hn, rfl, OU, E, HC, HB⟩ := hrel
    by_cases hlt : n < m
    · have p1 : decide ((n : Int) < (m : Int)) = true := decide_eq_true (by omega)
      have p2 : decide (n < m) = true := decide_eq_true hlt
      have hE := E.out
      rw [show m - n = (m - (n + 1)) + 1 by omega, ciSet_succ] at hE
      replace E := Aside0.mk hE
      have OV := Aside0.mk (ciExpand_ok OU.out (ciWord_lt (⟨#[]⟩ : ByteArray)) (ciWord_lt key))
      have OW := Aside0.mk (ciExpand_ok OV.out (ciWord_lt (⟨#[]⟩ : ByteArray)) (ciWord_lt salt))
      have hadd : IntKind.i64.wrap ((n : Int) + 1) = (n : Int) + 1 := by
        have := HM.out
        rw [IntKind.wrap_i64]; omega
      obtain ⟨u, hu⟩ : ∃ u, ciExpand t (ciWord (⟨#[]⟩ : ByteArray)) (ciWord key) = u := ⟨_, rfl⟩
      rw [hu] at OV OW E
      obtain ⟨v, hv⟩ : ∃ v, ciExpand u (ciWord (⟨#[]⟩ : ByteArray)) (ciWord salt) = v := ⟨_, rfl⟩
      rw [hv] at OW E
      replace hu := Aside0.mk hu
      replace hv := Aside0.mk hv
      have LT := Aside0.mk hlt
      clear hE hlt
      go_wp2_with (first | (go_at_call 21; with_reducible refine (cipher_Cipher_Expand.calls ⟨#[]⟩ key HE.out HK.out g _ _ HC.out OU.out).mono ?_; rintro e wn ⟨rfl, hc, hb⟩; have n0_ := Aside0.mk (But.below HB.out hb HG.out HB.out.size); clear HB HC hb; have HB := n0_; rw [hu.out] at hc; have HC := Aside0.mk hc; clear n0_ hc) | (go_at_call 21; with_reducible refine (cipher_Cipher_Expand.calls ⟨#[]⟩ salt HE.out HS.out g _ _ HC.out OV.out).mono ?_; rintro e wn ⟨rfl, hc, hb⟩; have n0_ := Aside0.mk (But.below HB.out hb HG.out HB.out.size); clear HB HC hb; have HB := n0_; rw [hv.out] at hc; have HC := Aside0.mk hc; clear n0_ hc))
      exact ⟨⟨n + 1, v, by have := LT.out; omega, by rfl, OW, E, HC, HB⟩, by simp [intOf]; have := LT.out; omega⟩
    · obtain rfl : n = m := by omega
      have p1 : decide ((n : Int) < (n : Int)) = false := decide_eq_false (by omega)
      have p2 : decide (n < n) = false := decide_eq_false (by omega)
      have n0_ := Aside0.mk (show Ci 70 wr g (ciSet salt key n T) by have q := E.out; rw [Nat.sub_self] at q; have q2 : t = ciSet salt key n T := q; rw [← q2]; exact HC.out)
      clear HC hlt
      go_wp2
      go_ret2
      exact ⟨g, HG.out, rfl, n0_.out, HB.out⟩

/-! ### pestlelaw11_awake: function 31 -/
theorem eks_four : eks_Rounds.f 4 = some (16, 0) := by decide +kernel
theorem eks_in : ∀ c : Nat, c < 32 → 4 ≤ c → eks_Rounds.f (c : Int) = some (((2 ^ c : Nat) : Int), 0) := by decide +kernel
def pestlelaw11_awake.f (k : Nat) : Option Bool := some true
theorem pestlelaw11_awake.mono : ∀ k, LeO (pestlelaw11_awake.f k) (pestlelaw11_awake.f (k + 1)) := fun _ => LeO.refl _
set_option maxHeartbeats 8000000 in
set_option maxRecDepth 100000 in
theorem pestlelaw11_awake.calls (k : Nat) (r : Bool) (w : World) (h : pestlelaw11_awake.f k = some r) :
    Calls Try.prog 31 #[] w fun e w' => e = .returned (.bool r) ∧ Below w.heap.size w w' := by
  obtain rfl := Option.some.inj h
  clear h
  have HB := Aside0.mk (Below.refl w.heap.size w)
  have HR := Aside0.mk eks_four
  have HS := Aside0.mk (show (⟨#[49, 50, 51, 52, 53, 54, 55, 56, 57, 48, 49, 50, 51, 52, 53]⟩ : ByteArray).size ≠ 16 by decide)
  go_enter Try.func31, Try.ntmps31
  go_wp2_with (first | (go_at_call 32; with_reducible refine (eks_Rounds.calls 4 16 0 _ HR.out).mono ?_; rintro e wn ⟨rfl, hd⟩; have n0_ := Aside0.mk (below_step HB.out (below_of_drawn hd)); clear HB hd; have HB := n0_; clear n0_) | (go_at_call 33; with_reducible refine (eks_Setup.salt 4 16 ⟨#[49, 50, 51, 52, 53, 54, 55, 56, 57, 48, 49, 50, 51, 52, 53]⟩ ⟨#[97]⟩ _ HR.out HS.out).mono ?_; rintro e wn ⟨rfl, hb⟩; have n0_ := Aside0.mk (below_step HB.out hb); clear HB hb; have HB := n0_; clear n0_))
  go_ret
  exact ⟨rfl, HB.out⟩

end Go.Proofs.Ytimgndceiibaeaa.Pall
