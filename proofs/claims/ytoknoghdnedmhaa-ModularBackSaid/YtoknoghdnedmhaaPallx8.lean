-- PRINTED by print.py (a twelfth state) out of the translation. Not trusted: Lean checks it.
import Derived.Test.YtoknoghdnedmhaaPallx0
import Derived.Test.YtoknoghdnedmhaaPallx7
namespace Go.Proofs.Ytoknoghdnedmhaa.Pall
open Go.RowKit Go.Proofs.YtoknoghdnedmhaaW.PrintWords Go.Proofs.YtoknoghdnedmhaaW.PrintLast Go.Proofs.YtoknoghdnedmhaaW.PrintMore
attribute [local go_sem] max2_int min2_int max_two min_two max_three min_three max_four min_four   -- for this text's walks alone
set_option linter.unusedVariables false
set_option linter.unusedSimpArgs false

/-! ### pestleref17_Join: function 79 -/
def pestleref17_Join.j0 : Nat → ByteArray → ByteArray → Bool → Option (ByteArray × Int)
 | 0, _, _, _ => none
 | k + 1, x0, x1, x13 => if x13 = true then (some ((⟨#[]⟩ : ByteArray), 9)) else ((pestleref15_Crypt.f).bind fun t141 => ((pestleref15_Encode.f k t141 x0).bind fun t142 => ((pestleref15_Crypt.f).bind fun t143 => ((pestleref15_Encode.f k t143 x1).bind fun t144 => (if t142.size + t144.size ≤ 9223372036854775807 then (some (t142 ++ t144, 0)) else (none))))))
def pestleref17_Join.f (k : Nat) (a0 : ByteArray) (a1 : ByteArray) : Option (ByteArray × Int) := if (a0.size : Int) = 16 then (pestleref17_Join.j0 k a0 a1 ((a1.size : Int) != 23)) else (pestleref17_Join.j0 k a0 a1 true)
theorem pestleref17_Join.mono_l : ∀ k, (∀ y0 y1 y2, LeO (pestleref17_Join.j0 k y0 y1 y2) (pestleref17_Join.j0 (k + 1) y0 y1 y2))
 | 0 => fun _ _ _ r h => by simp [pestleref17_Join.j0] at h
 | k + 1 => by
  have ih0 := pestleref17_Join.mono_l k
  ·intro y0 y1 y2
   unfold pestleref17_Join.j0
   repeat' first
   | (with_reducible exact ih0 _ _ _)
   | (with_reducible exact pestleref15_Encode.mono _ _ _)
   | (with_reducible exact LeO.refl _)
   | (with_reducible exact LeO.none _)
   | (with_reducible refine LeO.ite ?_ ?_)
   | (with_reducible refine LeO.bind ?_ (fun _ => ?_))
   | exact ih0 _ _ _
   | exact pestleref15_Encode.mono _ _ _
   | exact LeO.none _
   | refine LeO.ite ?_ ?_
   | refine LeO.bind ?_ (fun _ => ?_)
theorem pestleref17_Join.mono : ∀ a0 a1 k, LeO (pestleref17_Join.f k a0 a1) (pestleref17_Join.f (k + 1) a0 a1) := by
 intro a0 a1 k
 have ih0 := pestleref17_Join.mono_l k
 unfold pestleref17_Join.f
 repeat' first
   | (with_reducible exact ih0 _ _ _)
   | (with_reducible exact pestleref15_Encode.mono _ _ _)
   | (with_reducible exact LeO.refl _)
   | (with_reducible exact LeO.none _)
   | (with_reducible refine LeO.ite ?_ ?_)
   | (with_reducible refine LeO.bind ?_ (fun _ => ?_))
   | exact ih0 _ _ _
   | exact pestleref15_Encode.mono _ _ _
   | exact LeO.none _
   | refine LeO.ite ?_ ?_
   | refine LeO.bind ?_ (fun _ => ?_)
set_option maxHeartbeats 8000000 in
set_option maxRecDepth 100000 in
theorem pestleref17_Join.calls (k : Nat) (a0 : ByteArray) (a1 : ByteArray) (r1 : ByteArray) (r2 : Int) (w : World) (h : pestleref17_Join.f k a0 a1 = some (r1, r2)) :
  Calls Try.prog 79 #[.string a0, .string a1] w fun e w' => e = .returned (.tuple #[.string r1, .int .i64 r2]) ∧ Below w.heap.size w w' := by
 have HB := Aside0.mk (Below.refl w.heap.size w)
 have H : (if (a0.size : Int) = 16 then (pestleref17_Join.j0 k a0 a1 ((a1.size : Int) != 23)) else (pestleref17_Join.j0 k a0 a1 true)) = some (r1, r2) := h
 clear h
 have HC3 := Aside0.mk H
 clear H
 go_enter Try.func79, Try.ntmps79
 go_upto_region 1 with (fail)
 go_cut [13] (fun v13 wc => ∃ (kq : Nat) (x13_2 : Bool), v13 = .bool x13_2 ∧ Aside0 (pestleref17_Join.j0 kq a0 a1 x13_2 = some (r1, r2)) ∧ Aside0 (kq ≤ k) ∧ Aside0 (Below w.heap.size w wc))
 case first =>
  have H := HC3.out
  clear HC3
  by_cases c4 : (a0.size : Int) = 16
  ·rw [if_pos c4] at H
   have c4b0 : ((a0.size : Int) == 16) = true := beq_iff_eq.mpr c4
   have c4b1 : ((a0.size : Int) != 16) = false := bne_eq_false_iff_eq.mpr c4
   clear c4
   (first | rw [c4b0] | (simp only [i64_w, i32_w]; rw [c4b0]) | skip)
   have H' := Aside0.mk H
   clear H
   go_wp2
   go_meet
   case rel => exact ⟨_, (((a1.size : Int) != 23)), (by first | rfl | (simp; done) | (simp [*]; done)), H', ⟨by first | omega | exact Nat.le_refl _⟩, ⟨by repeat (first | (with_reducible first | exact HB.out | apply below_alloc | apply pw_below_drewN | apply below_drew1) | exact HB.out)⟩⟩
  ·rw [if_neg c4] at H
   have c4b0 : ((a0.size : Int) == 16) = false := beq_eq_false_iff_ne.mpr c4
   have c4b1 : ((a0.size : Int) != 16) = true := bne_iff_ne.mpr c4
   (first | rw [c4b0] | (simp only [i64_w, i32_w]; rw [c4b0]) | skip)
   have H' := Aside0.mk H
   clear H
   go_wp2
   go_meet
   case rel => exact ⟨_, (true), (by first | rfl | (simp; done) | (simp [*]; done)), H', ⟨by first | omega | exact Nat.le_refl _⟩, ⟨by repeat (first | (with_reducible first | exact HB.out | apply below_alloc | apply pw_below_drewN | apply below_drew1) | exact HB.out)⟩⟩
 case rest =>
  clear HC3
  try clear p2
  try clear c4
  try clear c4b0
  try clear c4b1
  obtain ⟨kq, x13_2, rfl, HA, HJ2, HB⟩ := hcut
  cases kq with
  | zero => exact absurd HA.out (by simp [pestleref17_Join.j0])
  | succ kj2 =>
   have H := HA.out
   clear HA
   simp only [pestleref17_Join.j0] at H
   by_cases c5 : x13_2 = true
   ·subst c5
    have H1 : (some ((⟨#[]⟩ : ByteArray), 9)) = some (r1, r2) := by rw [if_pos rfl] at H; exact H
    clear H
    have H := H1
    clear H1
    simp only [Option.some.injEq, Prod.mk.injEq] at H
    obtain ⟨rfl, rfl⟩ := H
    go_wp2
    go_ret2
    exact ⟨by first | rfl | (simp [errW_none, errW_some] <;> rfl) | (simp [*, errW_none, errW_some] <;> rfl), by repeat (first | (with_reducible first | exact HB.out | apply below_alloc | apply pw_below_drewN | apply below_drew1) | exact HB.out)⟩
   ·replace c5 := Bool.eq_false_iff.mpr c5
    subst c5
    have H1 : ((pestleref15_Crypt.f).bind fun t141 => ((pestleref15_Encode.f kj2 t141 a0).bind fun t142 => ((pestleref15_Crypt.f).bind fun t143 => ((pestleref15_Encode.f kj2 t143 a1).bind fun t144 => (if t142.size + t144.size ≤ 9223372036854775807 then (some (t142 ++ t144, 0)) else (none)))))) = some (r1, r2) := by rw [if_neg (show ¬ (false = true) by decide)] at H; exact H
    clear H
    have H := H1
    clear H1
    replace H := Option.bind_eq_some_iff.mp H
    obtain ⟨t141, A60, H⟩ := H
    replace H : ((pestleref15_Encode.f kj2 t141 a0).bind fun t142 => ((pestleref15_Crypt.f).bind fun t143 => ((pestleref15_Encode.f kj2 t143 a1).bind fun t144 => (if t142.size + t144.size ≤ 9223372036854775807 then (some (t142 ++ t144, 0)) else (none))))) = some (r1, r2) := H
    have A6 := Aside0.mk A60
    clear A60
    replace H := Option.bind_eq_some_iff.mp H
    obtain ⟨t142, A70, H⟩ := H
    replace H : ((pestleref15_Crypt.f).bind fun t143 => ((pestleref15_Encode.f kj2 t143 a1).bind fun t144 => (if t142.size + t144.size ≤ 9223372036854775807 then (some (t142 ++ t144, 0)) else (none)))) = some (r1, r2) := H
    have A7 := Aside0.mk A70
    clear A70
    replace H := Option.bind_eq_some_iff.mp H
    obtain ⟨t143, A80, H⟩ := H
    replace H : ((pestleref15_Encode.f kj2 t143 a1).bind fun t144 => (if t142.size + t144.size ≤ 9223372036854775807 then (some (t142 ++ t144, 0)) else (none))) = some (r1, r2) := H
    have A8 := Aside0.mk A80
    clear A80
    replace H := Option.bind_eq_some_iff.mp H
    obtain ⟨t144, A90, H⟩ := H
    replace H : (if t142.size + t144.size ≤ 9223372036854775807 then (some (t142 ++ t144, 0)) else (none)) = some (r1, r2) := H
    have A9 := Aside0.mk A90
    clear A90
    by_cases c10 : t142.size + t144.size ≤ 9223372036854775807
    ·rw [if_pos c10] at H
     have c10b0 := eq_true c10
     have c10b1 : decide (t142.size + t144.size ≤ 9223372036854775807) = true := decide_eq_true c10
     try have c10b2 : (9223372036854775807 < t142.size + t144.size) = False := eq_false (Nat.not_lt.2 c10)
     simp only [Option.some.injEq, Prod.mk.injEq] at H
     obtain ⟨rfl, rfl⟩ := H
     go_wp2_with (first | ((with_reducible refine gate_callee (f := 91) rfl ?_); refine goesL_ (some 14) rfl rfl Try.func91 (by kernel_rfl) rfl #[] rfl (by (try simp only [List.map_toArray, List.map_cons, List.map_nil]); first | done | rfl | (simp only [List.length_drop, List.length_take]; rfl)) ?_; (with_reducible refine (pestleref15_Crypt.calls  t141 _ A6.out).mono ?_); rintro e w' ⟨rfl, ⟨nd, rfl⟩⟩; refine ⟨_, rfl, ?_⟩) | ((with_reducible refine gate_callee (f := 95) rfl ?_); refine goesL_ (some 16) rfl rfl Try.func95 (by kernel_rfl) rfl #[.string t141, .string a0] rfl (by (try simp only [List.map_toArray, List.map_cons, List.map_nil]); first | done | rfl | (simp only [List.length_drop, List.length_take]; rfl)) ?_; (with_reducible refine (pestleref15_Encode.calls kj2 t141 a0 t142 _ A7.out).mono ?_); rintro e w11 ⟨rfl, hb⟩; refine ⟨_, rfl, ?_⟩; have n0_ := Aside0.mk (below_step (by repeat (first | (with_reducible first | exact HB.out | apply below_alloc | apply pw_below_drewN | apply below_drew1) | exact HB.out)) hb); clear HB; have HB := n0_; clear n0_; (try clear hb); (try clear hb2); (try clear hk); (try clear hi)) | ((with_reducible refine gate_callee (f := 91) rfl ?_); refine goesL_ (some 17) rfl rfl Try.func91 (by kernel_rfl) rfl #[] rfl (by (try simp only [List.map_toArray, List.map_cons, List.map_nil]); first | done | rfl | (simp only [List.length_drop, List.length_take]; rfl)) ?_; (with_reducible refine (pestleref15_Crypt.calls  t143 _ A8.out).mono ?_); rintro e w' ⟨rfl, ⟨nd, rfl⟩⟩; refine ⟨_, rfl, ?_⟩) | ((with_reducible refine gate_callee (f := 95) rfl ?_); refine goesL_ (some 19) rfl rfl Try.func95 (by kernel_rfl) rfl #[.string t143, .string a1] rfl (by (try simp only [List.map_toArray, List.map_cons, List.map_nil]); first | done | rfl | (simp only [List.length_drop, List.length_take]; rfl)) ?_; (with_reducible refine (pestleref15_Encode.calls kj2 t143 a1 t144 _ A9.out).mono ?_); rintro e w12 ⟨rfl, hb⟩; refine ⟨_, rfl, ?_⟩; have n0_ := Aside0.mk (below_step (by repeat (first | (with_reducible first | exact HB.out | apply below_alloc | apply pw_below_drewN | apply below_drew1) | exact HB.out)) hb); clear HB; have HB := n0_; clear n0_; (try clear hb); (try clear hb2); (try clear hk); (try clear hi)))
     go_ret2
     exact ⟨by first | rfl | (simp [errW_none, errW_some] <;> rfl) | (simp [*, errW_none, errW_some] <;> rfl), by repeat (first | (with_reducible first | exact HB.out | apply below_alloc | apply pw_below_drewN | apply below_drew1) | exact HB.out)⟩
    ·rw [if_neg c10] at H
     exact absurd H (by simp)

/-! ### pestleref43_Encode: function 46 -/
def pestleref43_Encode.f (k : Nat) (a0_0 : Int) (a0_1 : Int) (a0_2 : ByteArray) (a0_3 : ByteArray) : Option (ByteArray) := (pestleref18_Text.f k a0_1).bind fun t146 => (if a0_1 < 10 then (if 1 + t146.size ≤ 9223372036854775807 then ((pestleref17_Join.f k a0_2 a0_3).bind fun bt147 => (if a0_0 = 98 then (if 2 + 1 ≤ 9223372036854775807 then (if (((⟨#[36, 50]⟩ : ByteArray) ++ (⟨#[98]⟩ : ByteArray)) ++ (⟨#[36]⟩ : ByteArray)).size + ((⟨#[48]⟩ : ByteArray) ++ t146).size ≤ 9223372036854775807 then (if ((((⟨#[36, 50]⟩ : ByteArray) ++ (⟨#[98]⟩ : ByteArray)) ++ (⟨#[36]⟩ : ByteArray)) ++ ((⟨#[48]⟩ : ByteArray) ++ t146)).size + 1 ≤ 9223372036854775807 then (if (((((⟨#[36, 50]⟩ : ByteArray) ++ (⟨#[98]⟩ : ByteArray)) ++ (⟨#[36]⟩ : ByteArray)) ++ ((⟨#[48]⟩ : ByteArray) ++ t146)) ++ (⟨#[36]⟩ : ByteArray)).size + bt147.1.size ≤ 9223372036854775807 then (some ((((((⟨#[36, 50]⟩ : ByteArray) ++ (⟨#[98]⟩ : ByteArray)) ++ (⟨#[36]⟩ : ByteArray)) ++ ((⟨#[48]⟩ : ByteArray) ++ t146)) ++ (⟨#[36]⟩ : ByteArray)) ++ bt147.1)) else (none)) else (none)) else (none)) else (none)) else (if 2 + 1 ≤ 9223372036854775807 then (if (((⟨#[36, 50]⟩ : ByteArray) ++ (⟨#[97]⟩ : ByteArray)) ++ (⟨#[36]⟩ : ByteArray)).size + ((⟨#[48]⟩ : ByteArray) ++ t146).size ≤ 9223372036854775807 then (if ((((⟨#[36, 50]⟩ : ByteArray) ++ (⟨#[97]⟩ : ByteArray)) ++ (⟨#[36]⟩ : ByteArray)) ++ ((⟨#[48]⟩ : ByteArray) ++ t146)).size + 1 ≤ 9223372036854775807 then (if (((((⟨#[36, 50]⟩ : ByteArray) ++ (⟨#[97]⟩ : ByteArray)) ++ (⟨#[36]⟩ : ByteArray)) ++ ((⟨#[48]⟩ : ByteArray) ++ t146)) ++ (⟨#[36]⟩ : ByteArray)).size + bt147.1.size ≤ 9223372036854775807 then (some ((((((⟨#[36, 50]⟩ : ByteArray) ++ (⟨#[97]⟩ : ByteArray)) ++ (⟨#[36]⟩ : ByteArray)) ++ ((⟨#[48]⟩ : ByteArray) ++ t146)) ++ (⟨#[36]⟩ : ByteArray)) ++ bt147.1)) else (none)) else (none)) else (none)) else (none)))) else (none)) else ((pestleref17_Join.f k a0_2 a0_3).bind fun bt149 => (if a0_0 = 98 then (if 2 + 1 ≤ 9223372036854775807 then (if (((⟨#[36, 50]⟩ : ByteArray) ++ (⟨#[98]⟩ : ByteArray)) ++ (⟨#[36]⟩ : ByteArray)).size + t146.size ≤ 9223372036854775807 then (if ((((⟨#[36, 50]⟩ : ByteArray) ++ (⟨#[98]⟩ : ByteArray)) ++ (⟨#[36]⟩ : ByteArray)) ++ t146).size + 1 ≤ 9223372036854775807 then (if (((((⟨#[36, 50]⟩ : ByteArray) ++ (⟨#[98]⟩ : ByteArray)) ++ (⟨#[36]⟩ : ByteArray)) ++ t146) ++ (⟨#[36]⟩ : ByteArray)).size + bt149.1.size ≤ 9223372036854775807 then (some ((((((⟨#[36, 50]⟩ : ByteArray) ++ (⟨#[98]⟩ : ByteArray)) ++ (⟨#[36]⟩ : ByteArray)) ++ t146) ++ (⟨#[36]⟩ : ByteArray)) ++ bt149.1)) else (none)) else (none)) else (none)) else (none)) else (if 2 + 1 ≤ 9223372036854775807 then (if (((⟨#[36, 50]⟩ : ByteArray) ++ (⟨#[97]⟩ : ByteArray)) ++ (⟨#[36]⟩ : ByteArray)).size + t146.size ≤ 9223372036854775807 then (if ((((⟨#[36, 50]⟩ : ByteArray) ++ (⟨#[97]⟩ : ByteArray)) ++ (⟨#[36]⟩ : ByteArray)) ++ t146).size + 1 ≤ 9223372036854775807 then (if (((((⟨#[36, 50]⟩ : ByteArray) ++ (⟨#[97]⟩ : ByteArray)) ++ (⟨#[36]⟩ : ByteArray)) ++ t146) ++ (⟨#[36]⟩ : ByteArray)).size + bt149.1.size ≤ 9223372036854775807 then (some ((((((⟨#[36, 50]⟩ : ByteArray) ++ (⟨#[97]⟩ : ByteArray)) ++ (⟨#[36]⟩ : ByteArray)) ++ t146) ++ (⟨#[36]⟩ : ByteArray)) ++ bt149.1)) else (none)) else (none)) else (none)) else (none)))))
theorem pestleref43_Encode.mono : ∀ a0 a1 a2 a3 k, LeO (pestleref43_Encode.f k a0 a1 a2 a3) (pestleref43_Encode.f (k + 1) a0 a1 a2 a3) := by
 intro a0 a1 a2 a3 k
 unfold pestleref43_Encode.f
 repeat' first
   | (with_reducible exact pestleref17_Join.mono _ _ _)
   | (with_reducible exact pestleref18_Text.mono _ _)
   | (with_reducible exact LeO.refl _)
   | (with_reducible exact LeO.none _)
   | (with_reducible refine LeO.ite ?_ ?_)
   | (with_reducible refine LeO.bind ?_ (fun _ => ?_))
   | exact pestleref17_Join.mono _ _ _
   | exact pestleref18_Text.mono _ _
   | exact LeO.none _
   | refine LeO.ite ?_ ?_
   | refine LeO.bind ?_ (fun _ => ?_)
set_option maxHeartbeats 8000000 in
set_option maxRecDepth 100000 in
theorem pestleref43_Encode.calls (k : Nat) (a0_0 : Int) (a0_1 : Int) (a0_2 : ByteArray) (a0_3 : ByteArray) (r : ByteArray) (w : World) (h : pestleref43_Encode.f k a0_0 a0_1 a0_2 a0_3 = some r) :
  Calls Try.prog 46 #[.agg #[.int .u8 a0_0, .int .i64 a0_1, .string a0_2, .string a0_3]] w fun e w' => e = .returned (.string r) ∧ Below w.heap.size w w' := by
 have hu45 := Try.underlying45
 have HB := Aside0.mk (Below.refl w.heap.size w)
 have H : ((pestleref18_Text.f k a0_1).bind fun t146 => (if a0_1 < 10 then (if 1 + t146.size ≤ 9223372036854775807 then ((pestleref17_Join.f k a0_2 a0_3).bind fun bt147 => (if a0_0 = 98 then (if 2 + 1 ≤ 9223372036854775807 then (if (((⟨#[36, 50]⟩ : ByteArray) ++ (⟨#[98]⟩ : ByteArray)) ++ (⟨#[36]⟩ : ByteArray)).size + ((⟨#[48]⟩ : ByteArray) ++ t146).size ≤ 9223372036854775807 then (if ((((⟨#[36, 50]⟩ : ByteArray) ++ (⟨#[98]⟩ : ByteArray)) ++ (⟨#[36]⟩ : ByteArray)) ++ ((⟨#[48]⟩ : ByteArray) ++ t146)).size + 1 ≤ 9223372036854775807 then (if (((((⟨#[36, 50]⟩ : ByteArray) ++ (⟨#[98]⟩ : ByteArray)) ++ (⟨#[36]⟩ : ByteArray)) ++ ((⟨#[48]⟩ : ByteArray) ++ t146)) ++ (⟨#[36]⟩ : ByteArray)).size + bt147.1.size ≤ 9223372036854775807 then (some ((((((⟨#[36, 50]⟩ : ByteArray) ++ (⟨#[98]⟩ : ByteArray)) ++ (⟨#[36]⟩ : ByteArray)) ++ ((⟨#[48]⟩ : ByteArray) ++ t146)) ++ (⟨#[36]⟩ : ByteArray)) ++ bt147.1)) else (none)) else (none)) else (none)) else (none)) else (if 2 + 1 ≤ 9223372036854775807 then (if (((⟨#[36, 50]⟩ : ByteArray) ++ (⟨#[97]⟩ : ByteArray)) ++ (⟨#[36]⟩ : ByteArray)).size + ((⟨#[48]⟩ : ByteArray) ++ t146).size ≤ 9223372036854775807 then (if ((((⟨#[36, 50]⟩ : ByteArray) ++ (⟨#[97]⟩ : ByteArray)) ++ (⟨#[36]⟩ : ByteArray)) ++ ((⟨#[48]⟩ : ByteArray) ++ t146)).size + 1 ≤ 9223372036854775807 then (if (((((⟨#[36, 50]⟩ : ByteArray) ++ (⟨#[97]⟩ : ByteArray)) ++ (⟨#[36]⟩ : ByteArray)) ++ ((⟨#[48]⟩ : ByteArray) ++ t146)) ++ (⟨#[36]⟩ : ByteArray)).size + bt147.1.size ≤ 9223372036854775807 then (some ((((((⟨#[36, 50]⟩ : ByteArray) ++ (⟨#[97]⟩ : ByteArray)) ++ (⟨#[36]⟩ : ByteArray)) ++ ((⟨#[48]⟩ : ByteArray) ++ t146)) ++ (⟨#[36]⟩ : ByteArray)) ++ bt147.1)) else (none)) else (none)) else (none)) else (none)))) else (none)) else ((pestleref17_Join.f k a0_2 a0_3).bind fun bt149 => (if a0_0 = 98 then (if 2 + 1 ≤ 9223372036854775807 then (if (((⟨#[36, 50]⟩ : ByteArray) ++ (⟨#[98]⟩ : ByteArray)) ++ (⟨#[36]⟩ : ByteArray)).size + t146.size ≤ 9223372036854775807 then (if ((((⟨#[36, 50]⟩ : ByteArray) ++ (⟨#[98]⟩ : ByteArray)) ++ (⟨#[36]⟩ : ByteArray)) ++ t146).size + 1 ≤ 9223372036854775807 then (if (((((⟨#[36, 50]⟩ : ByteArray) ++ (⟨#[98]⟩ : ByteArray)) ++ (⟨#[36]⟩ : ByteArray)) ++ t146) ++ (⟨#[36]⟩ : ByteArray)).size + bt149.1.size ≤ 9223372036854775807 then (some ((((((⟨#[36, 50]⟩ : ByteArray) ++ (⟨#[98]⟩ : ByteArray)) ++ (⟨#[36]⟩ : ByteArray)) ++ t146) ++ (⟨#[36]⟩ : ByteArray)) ++ bt149.1)) else (none)) else (none)) else (none)) else (none)) else (if 2 + 1 ≤ 9223372036854775807 then (if (((⟨#[36, 50]⟩ : ByteArray) ++ (⟨#[97]⟩ : ByteArray)) ++ (⟨#[36]⟩ : ByteArray)).size + t146.size ≤ 9223372036854775807 then (if ((((⟨#[36, 50]⟩ : ByteArray) ++ (⟨#[97]⟩ : ByteArray)) ++ (⟨#[36]⟩ : ByteArray)) ++ t146).size + 1 ≤ 9223372036854775807 then (if (((((⟨#[36, 50]⟩ : ByteArray) ++ (⟨#[97]⟩ : ByteArray)) ++ (⟨#[36]⟩ : ByteArray)) ++ t146) ++ (⟨#[36]⟩ : ByteArray)).size + bt149.1.size ≤ 9223372036854775807 then (some ((((((⟨#[36, 50]⟩ : ByteArray) ++ (⟨#[97]⟩ : ByteArray)) ++ (⟨#[36]⟩ : ByteArray)) ++ t146) ++ (⟨#[36]⟩ : ByteArray)) ++ bt149.1)) else (none)) else (none)) else (none)) else (none)))))) = some r := h
 clear h
 replace H := Option.bind_eq_some_iff.mp H
 obtain ⟨t146, A20, H⟩ := H
 replace H : (if a0_1 < 10 then (if 1 + t146.size ≤ 9223372036854775807 then ((pestleref17_Join.f k a0_2 a0_3).bind fun bt147 => (if a0_0 = 98 then (if 2 + 1 ≤ 9223372036854775807 then (if (((⟨#[36, 50]⟩ : ByteArray) ++ (⟨#[98]⟩ : ByteArray)) ++ (⟨#[36]⟩ : ByteArray)).size + ((⟨#[48]⟩ : ByteArray) ++ t146).size ≤ 9223372036854775807 then (if ((((⟨#[36, 50]⟩ : ByteArray) ++ (⟨#[98]⟩ : ByteArray)) ++ (⟨#[36]⟩ : ByteArray)) ++ ((⟨#[48]⟩ : ByteArray) ++ t146)).size + 1 ≤ 9223372036854775807 then (if (((((⟨#[36, 50]⟩ : ByteArray) ++ (⟨#[98]⟩ : ByteArray)) ++ (⟨#[36]⟩ : ByteArray)) ++ ((⟨#[48]⟩ : ByteArray) ++ t146)) ++ (⟨#[36]⟩ : ByteArray)).size + bt147.1.size ≤ 9223372036854775807 then (some ((((((⟨#[36, 50]⟩ : ByteArray) ++ (⟨#[98]⟩ : ByteArray)) ++ (⟨#[36]⟩ : ByteArray)) ++ ((⟨#[48]⟩ : ByteArray) ++ t146)) ++ (⟨#[36]⟩ : ByteArray)) ++ bt147.1)) else (none)) else (none)) else (none)) else (none)) else (if 2 + 1 ≤ 9223372036854775807 then (if (((⟨#[36, 50]⟩ : ByteArray) ++ (⟨#[97]⟩ : ByteArray)) ++ (⟨#[36]⟩ : ByteArray)).size + ((⟨#[48]⟩ : ByteArray) ++ t146).size ≤ 9223372036854775807 then (if ((((⟨#[36, 50]⟩ : ByteArray) ++ (⟨#[97]⟩ : ByteArray)) ++ (⟨#[36]⟩ : ByteArray)) ++ ((⟨#[48]⟩ : ByteArray) ++ t146)).size + 1 ≤ 9223372036854775807 then (if (((((⟨#[36, 50]⟩ : ByteArray) ++ (⟨#[97]⟩ : ByteArray)) ++ (⟨#[36]⟩ : ByteArray)) ++ ((⟨#[48]⟩ : ByteArray) ++ t146)) ++ (⟨#[36]⟩ : ByteArray)).size + bt147.1.size ≤ 9223372036854775807 then (some ((((((⟨#[36, 50]⟩ : ByteArray) ++ (⟨#[97]⟩ : ByteArray)) ++ (⟨#[36]⟩ : ByteArray)) ++ ((⟨#[48]⟩ : ByteArray) ++ t146)) ++ (⟨#[36]⟩ : ByteArray)) ++ bt147.1)) else (none)) else (none)) else (none)) else (none)))) else (none)) else ((pestleref17_Join.f k a0_2 a0_3).bind fun bt149 => (if a0_0 = 98 then (if 2 + 1 ≤ 9223372036854775807 then (if (((⟨#[36, 50]⟩ : ByteArray) ++ (⟨#[98]⟩ : ByteArray)) ++ (⟨#[36]⟩ : ByteArray)).size + t146.size ≤ 9223372036854775807 then (if ((((⟨#[36, 50]⟩ : ByteArray) ++ (⟨#[98]⟩ : ByteArray)) ++ (⟨#[36]⟩ : ByteArray)) ++ t146).size + 1 ≤ 9223372036854775807 then (if (((((⟨#[36, 50]⟩ : ByteArray) ++ (⟨#[98]⟩ : ByteArray)) ++ (⟨#[36]⟩ : ByteArray)) ++ t146) ++ (⟨#[36]⟩ : ByteArray)).size + bt149.1.size ≤ 9223372036854775807 then (some ((((((⟨#[36, 50]⟩ : ByteArray) ++ (⟨#[98]⟩ : ByteArray)) ++ (⟨#[36]⟩ : ByteArray)) ++ t146) ++ (⟨#[36]⟩ : ByteArray)) ++ bt149.1)) else (none)) else (none)) else (none)) else (none)) else (if 2 + 1 ≤ 9223372036854775807 then (if (((⟨#[36, 50]⟩ : ByteArray) ++ (⟨#[97]⟩ : ByteArray)) ++ (⟨#[36]⟩ : ByteArray)).size + t146.size ≤ 9223372036854775807 then (if ((((⟨#[36, 50]⟩ : ByteArray) ++ (⟨#[97]⟩ : ByteArray)) ++ (⟨#[36]⟩ : ByteArray)) ++ t146).size + 1 ≤ 9223372036854775807 then (if (((((⟨#[36, 50]⟩ : ByteArray) ++ (⟨#[97]⟩ : ByteArray)) ++ (⟨#[36]⟩ : ByteArray)) ++ t146) ++ (⟨#[36]⟩ : ByteArray)).size + bt149.1.size ≤ 9223372036854775807 then (some ((((((⟨#[36, 50]⟩ : ByteArray) ++ (⟨#[97]⟩ : ByteArray)) ++ (⟨#[36]⟩ : ByteArray)) ++ t146) ++ (⟨#[36]⟩ : ByteArray)) ++ bt149.1)) else (none)) else (none)) else (none)) else (none))))) = some r := H
 have A2 := Aside0.mk A20
 clear A20
 by_cases c3 : a0_1 < 10
 ·rw [if_pos c3] at H
  have c3b0 : decide (a0_1 < 10) = true := decide_eq_true c3
  clear c3
  by_cases c4 : 1 + t146.size ≤ 9223372036854775807
  ·rw [if_pos c4] at H
   have c4b0 := eq_true c4
   have c4b1 : decide (1 + t146.size ≤ 9223372036854775807) = true := decide_eq_true c4
   try have c4b2 : (9223372036854775807 < 1 + t146.size) = False := eq_false (Nat.not_lt.2 c4)
   replace H := Option.bind_eq_some_iff.mp H
   obtain ⟨⟨t147, t148⟩, A50, H⟩ := H
   replace H : (if a0_0 = 98 then (if 2 + 1 ≤ 9223372036854775807 then (if (((⟨#[36, 50]⟩ : ByteArray) ++ (⟨#[98]⟩ : ByteArray)) ++ (⟨#[36]⟩ : ByteArray)).size + ((⟨#[48]⟩ : ByteArray) ++ t146).size ≤ 9223372036854775807 then (if ((((⟨#[36, 50]⟩ : ByteArray) ++ (⟨#[98]⟩ : ByteArray)) ++ (⟨#[36]⟩ : ByteArray)) ++ ((⟨#[48]⟩ : ByteArray) ++ t146)).size + 1 ≤ 9223372036854775807 then (if (((((⟨#[36, 50]⟩ : ByteArray) ++ (⟨#[98]⟩ : ByteArray)) ++ (⟨#[36]⟩ : ByteArray)) ++ ((⟨#[48]⟩ : ByteArray) ++ t146)) ++ (⟨#[36]⟩ : ByteArray)).size + t147.size ≤ 9223372036854775807 then (some ((((((⟨#[36, 50]⟩ : ByteArray) ++ (⟨#[98]⟩ : ByteArray)) ++ (⟨#[36]⟩ : ByteArray)) ++ ((⟨#[48]⟩ : ByteArray) ++ t146)) ++ (⟨#[36]⟩ : ByteArray)) ++ t147)) else (none)) else (none)) else (none)) else (none)) else (if 2 + 1 ≤ 9223372036854775807 then (if (((⟨#[36, 50]⟩ : ByteArray) ++ (⟨#[97]⟩ : ByteArray)) ++ (⟨#[36]⟩ : ByteArray)).size + ((⟨#[48]⟩ : ByteArray) ++ t146).size ≤ 9223372036854775807 then (if ((((⟨#[36, 50]⟩ : ByteArray) ++ (⟨#[97]⟩ : ByteArray)) ++ (⟨#[36]⟩ : ByteArray)) ++ ((⟨#[48]⟩ : ByteArray) ++ t146)).size + 1 ≤ 9223372036854775807 then (if (((((⟨#[36, 50]⟩ : ByteArray) ++ (⟨#[97]⟩ : ByteArray)) ++ (⟨#[36]⟩ : ByteArray)) ++ ((⟨#[48]⟩ : ByteArray) ++ t146)) ++ (⟨#[36]⟩ : ByteArray)).size + t147.size ≤ 9223372036854775807 then (some ((((((⟨#[36, 50]⟩ : ByteArray) ++ (⟨#[97]⟩ : ByteArray)) ++ (⟨#[36]⟩ : ByteArray)) ++ ((⟨#[48]⟩ : ByteArray) ++ t146)) ++ (⟨#[36]⟩ : ByteArray)) ++ t147)) else (none)) else (none)) else (none)) else (none))) = some r := H
   have A5 := Aside0.mk A50
   clear A50
   by_cases c6 : a0_0 = 98
   ·rw [if_pos c6] at H
    have c6b0 : (a0_0 == 98) = true := beq_iff_eq.mpr c6
    have c6b1 : (a0_0 != 98) = false := bne_eq_false_iff_eq.mpr c6
    clear c6
    by_cases c7 : 2 + 1 ≤ 9223372036854775807
    ·rw [if_pos c7] at H
     have c7b0 := eq_true c7
     have c7b1 : decide (2 + 1 ≤ 9223372036854775807) = true := decide_eq_true c7
     try have c7b2 : (9223372036854775807 < 2 + 1) = False := eq_false (Nat.not_lt.2 c7)
     by_cases c8 : (((⟨#[36, 50]⟩ : ByteArray) ++ (⟨#[98]⟩ : ByteArray)) ++ (⟨#[36]⟩ : ByteArray)).size + ((⟨#[48]⟩ : ByteArray) ++ t146).size ≤ 9223372036854775807
     ·rw [if_pos c8] at H
      have c8b0 := eq_true c8
      have c8b1 : decide ((((⟨#[36, 50]⟩ : ByteArray) ++ (⟨#[98]⟩ : ByteArray)) ++ (⟨#[36]⟩ : ByteArray)).size + ((⟨#[48]⟩ : ByteArray) ++ t146).size ≤ 9223372036854775807) = true := decide_eq_true c8
      try have c8b2 : (9223372036854775807 < (((⟨#[36, 50]⟩ : ByteArray) ++ (⟨#[98]⟩ : ByteArray)) ++ (⟨#[36]⟩ : ByteArray)).size + ((⟨#[48]⟩ : ByteArray) ++ t146).size) = False := eq_false (Nat.not_lt.2 c8)
      have c8b3 := c8b0
      simp only [ByteArray.size_append, show (⟨#[36, 50]⟩ : ByteArray).size = 2 from rfl, show (⟨#[98]⟩ : ByteArray).size = 1 from rfl, show (⟨#[36]⟩ : ByteArray).size = 1 from rfl, show (⟨#[48]⟩ : ByteArray).size = 1 from rfl] at c8b3
      have c8b5 := c8b2
      simp only [ByteArray.size_append, show (⟨#[36, 50]⟩ : ByteArray).size = 2 from rfl, show (⟨#[98]⟩ : ByteArray).size = 1 from rfl, show (⟨#[36]⟩ : ByteArray).size = 1 from rfl, show (⟨#[48]⟩ : ByteArray).size = 1 from rfl] at c8b5
      by_cases c9 : ((((⟨#[36, 50]⟩ : ByteArray) ++ (⟨#[98]⟩ : ByteArray)) ++ (⟨#[36]⟩ : ByteArray)) ++ ((⟨#[48]⟩ : ByteArray) ++ t146)).size + 1 ≤ 9223372036854775807
      ·rw [if_pos c9] at H
       have c9b0 := eq_true c9
       have c9b1 : decide (((((⟨#[36, 50]⟩ : ByteArray) ++ (⟨#[98]⟩ : ByteArray)) ++ (⟨#[36]⟩ : ByteArray)) ++ ((⟨#[48]⟩ : ByteArray) ++ t146)).size + 1 ≤ 9223372036854775807) = true := decide_eq_true c9
       try have c9b2 : (9223372036854775807 < ((((⟨#[36, 50]⟩ : ByteArray) ++ (⟨#[98]⟩ : ByteArray)) ++ (⟨#[36]⟩ : ByteArray)) ++ ((⟨#[48]⟩ : ByteArray) ++ t146)).size + 1) = False := eq_false (Nat.not_lt.2 c9)
       have c9b3 := c9b0
       simp only [ByteArray.size_append, show (⟨#[36, 50]⟩ : ByteArray).size = 2 from rfl, show (⟨#[98]⟩ : ByteArray).size = 1 from rfl, show (⟨#[36]⟩ : ByteArray).size = 1 from rfl, show (⟨#[48]⟩ : ByteArray).size = 1 from rfl] at c9b3
       have c9b5 := c9b2
       simp only [ByteArray.size_append, show (⟨#[36, 50]⟩ : ByteArray).size = 2 from rfl, show (⟨#[98]⟩ : ByteArray).size = 1 from rfl, show (⟨#[36]⟩ : ByteArray).size = 1 from rfl, show (⟨#[48]⟩ : ByteArray).size = 1 from rfl] at c9b5
       by_cases c10 : (((((⟨#[36, 50]⟩ : ByteArray) ++ (⟨#[98]⟩ : ByteArray)) ++ (⟨#[36]⟩ : ByteArray)) ++ ((⟨#[48]⟩ : ByteArray) ++ t146)) ++ (⟨#[36]⟩ : ByteArray)).size + t147.size ≤ 9223372036854775807
       ·rw [if_pos c10] at H
        have c10b0 := eq_true c10
        have c10b1 : decide ((((((⟨#[36, 50]⟩ : ByteArray) ++ (⟨#[98]⟩ : ByteArray)) ++ (⟨#[36]⟩ : ByteArray)) ++ ((⟨#[48]⟩ : ByteArray) ++ t146)) ++ (⟨#[36]⟩ : ByteArray)).size + t147.size ≤ 9223372036854775807) = true := decide_eq_true c10
        try have c10b2 : (9223372036854775807 < (((((⟨#[36, 50]⟩ : ByteArray) ++ (⟨#[98]⟩ : ByteArray)) ++ (⟨#[36]⟩ : ByteArray)) ++ ((⟨#[48]⟩ : ByteArray) ++ t146)) ++ (⟨#[36]⟩ : ByteArray)).size + t147.size) = False := eq_false (Nat.not_lt.2 c10)
        have c10b3 := c10b0
        simp only [ByteArray.size_append, show (⟨#[36, 50]⟩ : ByteArray).size = 2 from rfl, show (⟨#[98]⟩ : ByteArray).size = 1 from rfl, show (⟨#[36]⟩ : ByteArray).size = 1 from rfl, show (⟨#[48]⟩ : ByteArray).size = 1 from rfl] at c10b3
        have c10b5 := c10b2
        simp only [ByteArray.size_append, show (⟨#[36, 50]⟩ : ByteArray).size = 2 from rfl, show (⟨#[98]⟩ : ByteArray).size = 1 from rfl, show (⟨#[36]⟩ : ByteArray).size = 1 from rfl, show (⟨#[48]⟩ : ByteArray).size = 1 from rfl] at c10b5
        obtain rfl := Option.some.inj H
        go_enter Try.func46, Try.ntmps46
        go_wp2_with (first | ((with_reducible refine gate_dst (N := 1) rfl ?_); refine box_event ?hg (N := 1) ?hd (cs := #[.int .u8 a0_0, .int .i64 a0_1, .string a0_2, .string a0_3]) (t := 45) ?hr ?_; (case hd => rfl); (case hg => rfl); (case hr => first | (go_simp; done) | (go_simp; rfl)); intro gb145 hg w11 hbox hb; have n0_ := Aside0.mk (below_step (by repeat (first | (with_reducible first | exact HB.out | apply below_alloc | apply pw_below_drewN | apply below_drew1) | exact HB.out)) hb); have n1_ := Aside0.mk (hbox); have n2_ := Aside0.mk ((by rw [hg]; exact (below_size (by repeat (first | (with_reducible first | exact HB.out | apply below_alloc | apply pw_below_drewN | apply below_drew1) | exact HB.out))) : w.heap.size ≤ gb145)); have n3_ := Aside0.mk ((by rw [hg]; exact (below_size (by repeat (first | (with_reducible first | exact HB.out | apply below_alloc | apply pw_below_drewN | apply below_drew1) | exact HB.out))) : w.heap.size ≤ gb145)); clear HB; have HB := n0_; have BK145 := n1_; have GW145 := n2_; have GE145 := n3_; clear n0_ n1_ n2_ n3_; clear hb hbox hg; have hcz12_0 : w11.cell? ⟨gb145, 0, none⟩ = some (.int .u8 a0_0) := (blk_cell BK145.out 0).trans rfl; have hcz12_1 : w11.cell? ⟨gb145, 1, none⟩ = some (.int .i64 a0_1) := (blk_cell BK145.out 1).trans rfl; have hcz12_2 : w11.cell? ⟨gb145, 2, none⟩ = some (.string a0_2) := (blk_cell BK145.out 2).trans rfl; have hcz12_3 : w11.cell? ⟨gb145, 3, none⟩ = some (.string a0_3) := (blk_cell BK145.out 3).trans rfl; have hfz12_0 := blk_frozen BK145.out 0; have hfz12_1 := blk_frozen BK145.out 1; have hfz12_2 := blk_frozen BK145.out 2; have hfz12_3 := blk_frozen BK145.out 3) | ((with_reducible refine gate_callee (f := 75) rfl ?_); refine goesL_ (some 9) rfl rfl Try.func75 (by kernel_rfl) rfl #[.int .i64 a0_1] rfl (by (try simp only [List.map_toArray, List.map_cons, List.map_nil]); first | done | rfl | (simp only [List.length_drop, List.length_take]; rfl)) ?_; (with_reducible refine (pestleref18_Text.calls k a0_1 t146 _ A2.out).mono ?_); rintro e w' ⟨rfl, ⟨nd, rfl⟩⟩; refine ⟨_, rfl, ?_⟩) | ((with_reducible refine gate_callee (f := 79) rfl ?_); refine goesL_ (some 20) rfl rfl Try.func79 (by kernel_rfl) rfl #[.string a0_2, .string a0_3] rfl (by (try simp only [List.map_toArray, List.map_cons, List.map_nil]); first | done | rfl | (simp only [List.length_drop, List.length_take]; rfl)) ?_; (with_reducible refine (pestleref17_Join.calls k a0_2 a0_3 t147 t148 _ A5.out).mono ?_); rintro e w13 ⟨rfl, hb⟩; refine ⟨_, rfl, ?_⟩; have n0_ := Aside0.mk (blk_below (g := gb145) (o := .cells #[.int .u8 a0_0, .int .i64 a0_1, .string a0_2, .string a0_3] 45 (0, 0)) (by (with_reducible repeat (first | refine blk_drewN ?_ _ | refine blk_drew ?_ | refine blk_alloc ?_ _)); exact BK145.out) hb); have n1_ := Aside0.mk (below_step (by repeat (first | (with_reducible first | exact HB.out | apply below_alloc | apply pw_below_drewN | apply below_drew1 | refine below_set ?_ GE145.out) | exact HB.out)) hb); clear BK145; clear HB; have BK145 := n0_; have HB := n1_; clear n0_ n1_; (try clear hb); (try clear hb2); (try clear hk); (try clear hi); have hcz14_0 : w13.cell? ⟨gb145, 0, none⟩ = some (.int .u8 a0_0) := (blk_cell BK145.out 0).trans rfl; have hcz14_1 : w13.cell? ⟨gb145, 1, none⟩ = some (.int .i64 a0_1) := (blk_cell BK145.out 1).trans rfl; have hcz14_2 : w13.cell? ⟨gb145, 2, none⟩ = some (.string a0_2) := (blk_cell BK145.out 2).trans rfl; have hcz14_3 : w13.cell? ⟨gb145, 3, none⟩ = some (.string a0_3) := (blk_cell BK145.out 3).trans rfl; have hfz14_0 := blk_frozen BK145.out 0; have hfz14_1 := blk_frozen BK145.out 1; have hfz14_2 := blk_frozen BK145.out 2; have hfz14_3 := blk_frozen BK145.out 3))
        go_ret
        exact ⟨by first | rfl | (simp [errW_none, errW_some] <;> rfl) | (simp [*, errW_none, errW_some] <;> rfl), by repeat (first | (with_reducible first | exact HB.out | apply below_alloc | apply pw_below_drewN | apply below_drew1 | refine below_set ?_ GE145.out) | exact HB.out)⟩
       ·rw [if_neg c10] at H
        exact absurd H (by simp)
      ·rw [if_neg c9] at H
       exact absurd H (by simp)
     ·rw [if_neg c8] at H
      exact absurd H (by simp)
    ·rw [if_neg c7] at H
     exact absurd H (by simp)
   ·rw [if_neg c6] at H
    have c6b0 : (a0_0 == 98) = false := beq_eq_false_iff_ne.mpr c6
    have c6b1 : (a0_0 != 98) = true := bne_iff_ne.mpr c6
    by_cases c15 : 2 + 1 ≤ 9223372036854775807
    ·rw [if_pos c15] at H
     have c15b0 := eq_true c15
     have c15b1 : decide (2 + 1 ≤ 9223372036854775807) = true := decide_eq_true c15
     try have c15b2 : (9223372036854775807 < 2 + 1) = False := eq_false (Nat.not_lt.2 c15)
     by_cases c16 : (((⟨#[36, 50]⟩ : ByteArray) ++ (⟨#[97]⟩ : ByteArray)) ++ (⟨#[36]⟩ : ByteArray)).size + ((⟨#[48]⟩ : ByteArray) ++ t146).size ≤ 9223372036854775807
     ·rw [if_pos c16] at H
      have c16b0 := eq_true c16
      have c16b1 : decide ((((⟨#[36, 50]⟩ : ByteArray) ++ (⟨#[97]⟩ : ByteArray)) ++ (⟨#[36]⟩ : ByteArray)).size + ((⟨#[48]⟩ : ByteArray) ++ t146).size ≤ 9223372036854775807) = true := decide_eq_true c16
      try have c16b2 : (9223372036854775807 < (((⟨#[36, 50]⟩ : ByteArray) ++ (⟨#[97]⟩ : ByteArray)) ++ (⟨#[36]⟩ : ByteArray)).size + ((⟨#[48]⟩ : ByteArray) ++ t146).size) = False := eq_false (Nat.not_lt.2 c16)
      have c16b3 := c16b0
      simp only [ByteArray.size_append, show (⟨#[36, 50]⟩ : ByteArray).size = 2 from rfl, show (⟨#[97]⟩ : ByteArray).size = 1 from rfl, show (⟨#[36]⟩ : ByteArray).size = 1 from rfl, show (⟨#[48]⟩ : ByteArray).size = 1 from rfl] at c16b3
      have c16b5 := c16b2
      simp only [ByteArray.size_append, show (⟨#[36, 50]⟩ : ByteArray).size = 2 from rfl, show (⟨#[97]⟩ : ByteArray).size = 1 from rfl, show (⟨#[36]⟩ : ByteArray).size = 1 from rfl, show (⟨#[48]⟩ : ByteArray).size = 1 from rfl] at c16b5
      by_cases c17 : ((((⟨#[36, 50]⟩ : ByteArray) ++ (⟨#[97]⟩ : ByteArray)) ++ (⟨#[36]⟩ : ByteArray)) ++ ((⟨#[48]⟩ : ByteArray) ++ t146)).size + 1 ≤ 9223372036854775807
      ·rw [if_pos c17] at H
       have c17b0 := eq_true c17
       have c17b1 : decide (((((⟨#[36, 50]⟩ : ByteArray) ++ (⟨#[97]⟩ : ByteArray)) ++ (⟨#[36]⟩ : ByteArray)) ++ ((⟨#[48]⟩ : ByteArray) ++ t146)).size + 1 ≤ 9223372036854775807) = true := decide_eq_true c17
       try have c17b2 : (9223372036854775807 < ((((⟨#[36, 50]⟩ : ByteArray) ++ (⟨#[97]⟩ : ByteArray)) ++ (⟨#[36]⟩ : ByteArray)) ++ ((⟨#[48]⟩ : ByteArray) ++ t146)).size + 1) = False := eq_false (Nat.not_lt.2 c17)
       have c17b3 := c17b0
       simp only [ByteArray.size_append, show (⟨#[36, 50]⟩ : ByteArray).size = 2 from rfl, show (⟨#[97]⟩ : ByteArray).size = 1 from rfl, show (⟨#[36]⟩ : ByteArray).size = 1 from rfl, show (⟨#[48]⟩ : ByteArray).size = 1 from rfl] at c17b3
       have c17b5 := c17b2
       simp only [ByteArray.size_append, show (⟨#[36, 50]⟩ : ByteArray).size = 2 from rfl, show (⟨#[97]⟩ : ByteArray).size = 1 from rfl, show (⟨#[36]⟩ : ByteArray).size = 1 from rfl, show (⟨#[48]⟩ : ByteArray).size = 1 from rfl] at c17b5
       by_cases c18 : (((((⟨#[36, 50]⟩ : ByteArray) ++ (⟨#[97]⟩ : ByteArray)) ++ (⟨#[36]⟩ : ByteArray)) ++ ((⟨#[48]⟩ : ByteArray) ++ t146)) ++ (⟨#[36]⟩ : ByteArray)).size + t147.size ≤ 9223372036854775807
       ·rw [if_pos c18] at H
        have c18b0 := eq_true c18
        have c18b1 : decide ((((((⟨#[36, 50]⟩ : ByteArray) ++ (⟨#[97]⟩ : ByteArray)) ++ (⟨#[36]⟩ : ByteArray)) ++ ((⟨#[48]⟩ : ByteArray) ++ t146)) ++ (⟨#[36]⟩ : ByteArray)).size + t147.size ≤ 9223372036854775807) = true := decide_eq_true c18
        try have c18b2 : (9223372036854775807 < (((((⟨#[36, 50]⟩ : ByteArray) ++ (⟨#[97]⟩ : ByteArray)) ++ (⟨#[36]⟩ : ByteArray)) ++ ((⟨#[48]⟩ : ByteArray) ++ t146)) ++ (⟨#[36]⟩ : ByteArray)).size + t147.size) = False := eq_false (Nat.not_lt.2 c18)
        have c18b3 := c18b0
        simp only [ByteArray.size_append, show (⟨#[36, 50]⟩ : ByteArray).size = 2 from rfl, show (⟨#[97]⟩ : ByteArray).size = 1 from rfl, show (⟨#[36]⟩ : ByteArray).size = 1 from rfl, show (⟨#[48]⟩ : ByteArray).size = 1 from rfl] at c18b3
        have c18b5 := c18b2
        simp only [ByteArray.size_append, show (⟨#[36, 50]⟩ : ByteArray).size = 2 from rfl, show (⟨#[97]⟩ : ByteArray).size = 1 from rfl, show (⟨#[36]⟩ : ByteArray).size = 1 from rfl, show (⟨#[48]⟩ : ByteArray).size = 1 from rfl] at c18b5
        obtain rfl := Option.some.inj H
        go_enter Try.func46, Try.ntmps46
        go_wp2_with (first | ((with_reducible refine gate_dst (N := 1) rfl ?_); refine box_event ?hg (N := 1) ?hd (cs := #[.int .u8 a0_0, .int .i64 a0_1, .string a0_2, .string a0_3]) (t := 45) ?hr ?_; (case hd => rfl); (case hg => rfl); (case hr => first | (go_simp; done) | (go_simp; rfl)); intro gb145 hg w19 hbox hb; have n0_ := Aside0.mk (below_step (by repeat (first | (with_reducible first | exact HB.out | apply below_alloc | apply pw_below_drewN | apply below_drew1) | exact HB.out)) hb); have n1_ := Aside0.mk (hbox); have n2_ := Aside0.mk ((by rw [hg]; exact (below_size (by repeat (first | (with_reducible first | exact HB.out | apply below_alloc | apply pw_below_drewN | apply below_drew1) | exact HB.out))) : w.heap.size ≤ gb145)); have n3_ := Aside0.mk ((by rw [hg]; exact (below_size (by repeat (first | (with_reducible first | exact HB.out | apply below_alloc | apply pw_below_drewN | apply below_drew1) | exact HB.out))) : w.heap.size ≤ gb145)); clear HB; have HB := n0_; have BK145 := n1_; have GW145 := n2_; have GE145 := n3_; clear n0_ n1_ n2_ n3_; clear hb hbox hg; have hcz20_0 : w19.cell? ⟨gb145, 0, none⟩ = some (.int .u8 a0_0) := (blk_cell BK145.out 0).trans rfl; have hcz20_1 : w19.cell? ⟨gb145, 1, none⟩ = some (.int .i64 a0_1) := (blk_cell BK145.out 1).trans rfl; have hcz20_2 : w19.cell? ⟨gb145, 2, none⟩ = some (.string a0_2) := (blk_cell BK145.out 2).trans rfl; have hcz20_3 : w19.cell? ⟨gb145, 3, none⟩ = some (.string a0_3) := (blk_cell BK145.out 3).trans rfl; have hfz20_0 := blk_frozen BK145.out 0; have hfz20_1 := blk_frozen BK145.out 1; have hfz20_2 := blk_frozen BK145.out 2; have hfz20_3 := blk_frozen BK145.out 3) | ((with_reducible refine gate_callee (f := 75) rfl ?_); refine goesL_ (some 9) rfl rfl Try.func75 (by kernel_rfl) rfl #[.int .i64 a0_1] rfl (by (try simp only [List.map_toArray, List.map_cons, List.map_nil]); first | done | rfl | (simp only [List.length_drop, List.length_take]; rfl)) ?_; (with_reducible refine (pestleref18_Text.calls k a0_1 t146 _ A2.out).mono ?_); rintro e w' ⟨rfl, ⟨nd, rfl⟩⟩; refine ⟨_, rfl, ?_⟩) | ((with_reducible refine gate_callee (f := 79) rfl ?_); refine goesL_ (some 20) rfl rfl Try.func79 (by kernel_rfl) rfl #[.string a0_2, .string a0_3] rfl (by (try simp only [List.map_toArray, List.map_cons, List.map_nil]); first | done | rfl | (simp only [List.length_drop, List.length_take]; rfl)) ?_; (with_reducible refine (pestleref17_Join.calls k a0_2 a0_3 t147 t148 _ A5.out).mono ?_); rintro e w21 ⟨rfl, hb⟩; refine ⟨_, rfl, ?_⟩; have n0_ := Aside0.mk (blk_below (g := gb145) (o := .cells #[.int .u8 a0_0, .int .i64 a0_1, .string a0_2, .string a0_3] 45 (0, 0)) (by (with_reducible repeat (first | refine blk_drewN ?_ _ | refine blk_drew ?_ | refine blk_alloc ?_ _)); exact BK145.out) hb); have n1_ := Aside0.mk (below_step (by repeat (first | (with_reducible first | exact HB.out | apply below_alloc | apply pw_below_drewN | apply below_drew1 | refine below_set ?_ GE145.out) | exact HB.out)) hb); clear BK145; clear HB; have BK145 := n0_; have HB := n1_; clear n0_ n1_; (try clear hb); (try clear hb2); (try clear hk); (try clear hi); have hcz22_0 : w21.cell? ⟨gb145, 0, none⟩ = some (.int .u8 a0_0) := (blk_cell BK145.out 0).trans rfl; have hcz22_1 : w21.cell? ⟨gb145, 1, none⟩ = some (.int .i64 a0_1) := (blk_cell BK145.out 1).trans rfl; have hcz22_2 : w21.cell? ⟨gb145, 2, none⟩ = some (.string a0_2) := (blk_cell BK145.out 2).trans rfl; have hcz22_3 : w21.cell? ⟨gb145, 3, none⟩ = some (.string a0_3) := (blk_cell BK145.out 3).trans rfl; have hfz22_0 := blk_frozen BK145.out 0; have hfz22_1 := blk_frozen BK145.out 1; have hfz22_2 := blk_frozen BK145.out 2; have hfz22_3 := blk_frozen BK145.out 3))
        go_ret
        exact ⟨by first | rfl | (simp [errW_none, errW_some] <;> rfl) | (simp [*, errW_none, errW_some] <;> rfl), by repeat (first | (with_reducible first | exact HB.out | apply below_alloc | apply pw_below_drewN | apply below_drew1 | refine below_set ?_ GE145.out) | exact HB.out)⟩
       ·rw [if_neg c18] at H
        exact absurd H (by simp)
      ·rw [if_neg c17] at H
       exact absurd H (by simp)
     ·rw [if_neg c16] at H
      exact absurd H (by simp)
    ·rw [if_neg c15] at H
     exact absurd H (by simp)
  ·rw [if_neg c4] at H
   exact absurd H (by simp)
 ·rw [if_neg c3] at H
  have c3b0 : decide (a0_1 < 10) = false := decide_eq_false c3
  clear c3
  replace H := Option.bind_eq_some_iff.mp H
  obtain ⟨⟨t149, t150⟩, A230, H⟩ := H
  replace H : (if a0_0 = 98 then (if 2 + 1 ≤ 9223372036854775807 then (if (((⟨#[36, 50]⟩ : ByteArray) ++ (⟨#[98]⟩ : ByteArray)) ++ (⟨#[36]⟩ : ByteArray)).size + t146.size ≤ 9223372036854775807 then (if ((((⟨#[36, 50]⟩ : ByteArray) ++ (⟨#[98]⟩ : ByteArray)) ++ (⟨#[36]⟩ : ByteArray)) ++ t146).size + 1 ≤ 9223372036854775807 then (if (((((⟨#[36, 50]⟩ : ByteArray) ++ (⟨#[98]⟩ : ByteArray)) ++ (⟨#[36]⟩ : ByteArray)) ++ t146) ++ (⟨#[36]⟩ : ByteArray)).size + t149.size ≤ 9223372036854775807 then (some ((((((⟨#[36, 50]⟩ : ByteArray) ++ (⟨#[98]⟩ : ByteArray)) ++ (⟨#[36]⟩ : ByteArray)) ++ t146) ++ (⟨#[36]⟩ : ByteArray)) ++ t149)) else (none)) else (none)) else (none)) else (none)) else (if 2 + 1 ≤ 9223372036854775807 then (if (((⟨#[36, 50]⟩ : ByteArray) ++ (⟨#[97]⟩ : ByteArray)) ++ (⟨#[36]⟩ : ByteArray)).size + t146.size ≤ 9223372036854775807 then (if ((((⟨#[36, 50]⟩ : ByteArray) ++ (⟨#[97]⟩ : ByteArray)) ++ (⟨#[36]⟩ : ByteArray)) ++ t146).size + 1 ≤ 9223372036854775807 then (if (((((⟨#[36, 50]⟩ : ByteArray) ++ (⟨#[97]⟩ : ByteArray)) ++ (⟨#[36]⟩ : ByteArray)) ++ t146) ++ (⟨#[36]⟩ : ByteArray)).size + t149.size ≤ 9223372036854775807 then (some ((((((⟨#[36, 50]⟩ : ByteArray) ++ (⟨#[97]⟩ : ByteArray)) ++ (⟨#[36]⟩ : ByteArray)) ++ t146) ++ (⟨#[36]⟩ : ByteArray)) ++ t149)) else (none)) else (none)) else (none)) else (none))) = some r := H
  have A23 := Aside0.mk A230
  clear A230
  by_cases c24 : a0_0 = 98
  ·rw [if_pos c24] at H
   have c24b0 : (a0_0 == 98) = true := beq_iff_eq.mpr c24
   have c24b1 : (a0_0 != 98) = false := bne_eq_false_iff_eq.mpr c24
   clear c24
   by_cases c25 : 2 + 1 ≤ 9223372036854775807
   ·rw [if_pos c25] at H
    have c25b0 := eq_true c25
    have c25b1 : decide (2 + 1 ≤ 9223372036854775807) = true := decide_eq_true c25
    try have c25b2 : (9223372036854775807 < 2 + 1) = False := eq_false (Nat.not_lt.2 c25)
    by_cases c26 : (((⟨#[36, 50]⟩ : ByteArray) ++ (⟨#[98]⟩ : ByteArray)) ++ (⟨#[36]⟩ : ByteArray)).size + t146.size ≤ 9223372036854775807
    ·rw [if_pos c26] at H
     have c26b0 := eq_true c26
     have c26b1 : decide ((((⟨#[36, 50]⟩ : ByteArray) ++ (⟨#[98]⟩ : ByteArray)) ++ (⟨#[36]⟩ : ByteArray)).size + t146.size ≤ 9223372036854775807) = true := decide_eq_true c26
     try have c26b2 : (9223372036854775807 < (((⟨#[36, 50]⟩ : ByteArray) ++ (⟨#[98]⟩ : ByteArray)) ++ (⟨#[36]⟩ : ByteArray)).size + t146.size) = False := eq_false (Nat.not_lt.2 c26)
     have c26b3 := c26b0
     simp only [ByteArray.size_append, show (⟨#[36, 50]⟩ : ByteArray).size = 2 from rfl, show (⟨#[98]⟩ : ByteArray).size = 1 from rfl, show (⟨#[36]⟩ : ByteArray).size = 1 from rfl] at c26b3
     have c26b5 := c26b2
     simp only [ByteArray.size_append, show (⟨#[36, 50]⟩ : ByteArray).size = 2 from rfl, show (⟨#[98]⟩ : ByteArray).size = 1 from rfl, show (⟨#[36]⟩ : ByteArray).size = 1 from rfl] at c26b5
     by_cases c27 : ((((⟨#[36, 50]⟩ : ByteArray) ++ (⟨#[98]⟩ : ByteArray)) ++ (⟨#[36]⟩ : ByteArray)) ++ t146).size + 1 ≤ 9223372036854775807
     ·rw [if_pos c27] at H
      have c27b0 := eq_true c27
      have c27b1 : decide (((((⟨#[36, 50]⟩ : ByteArray) ++ (⟨#[98]⟩ : ByteArray)) ++ (⟨#[36]⟩ : ByteArray)) ++ t146).size + 1 ≤ 9223372036854775807) = true := decide_eq_true c27
      try have c27b2 : (9223372036854775807 < ((((⟨#[36, 50]⟩ : ByteArray) ++ (⟨#[98]⟩ : ByteArray)) ++ (⟨#[36]⟩ : ByteArray)) ++ t146).size + 1) = False := eq_false (Nat.not_lt.2 c27)
      have c27b3 := c27b0
      simp only [ByteArray.size_append, show (⟨#[36, 50]⟩ : ByteArray).size = 2 from rfl, show (⟨#[98]⟩ : ByteArray).size = 1 from rfl, show (⟨#[36]⟩ : ByteArray).size = 1 from rfl] at c27b3
      have c27b5 := c27b2
      simp only [ByteArray.size_append, show (⟨#[36, 50]⟩ : ByteArray).size = 2 from rfl, show (⟨#[98]⟩ : ByteArray).size = 1 from rfl, show (⟨#[36]⟩ : ByteArray).size = 1 from rfl] at c27b5
      by_cases c28 : (((((⟨#[36, 50]⟩ : ByteArray) ++ (⟨#[98]⟩ : ByteArray)) ++ (⟨#[36]⟩ : ByteArray)) ++ t146) ++ (⟨#[36]⟩ : ByteArray)).size + t149.size ≤ 9223372036854775807
      ·rw [if_pos c28] at H
       have c28b0 := eq_true c28
       have c28b1 : decide ((((((⟨#[36, 50]⟩ : ByteArray) ++ (⟨#[98]⟩ : ByteArray)) ++ (⟨#[36]⟩ : ByteArray)) ++ t146) ++ (⟨#[36]⟩ : ByteArray)).size + t149.size ≤ 9223372036854775807) = true := decide_eq_true c28
       try have c28b2 : (9223372036854775807 < (((((⟨#[36, 50]⟩ : ByteArray) ++ (⟨#[98]⟩ : ByteArray)) ++ (⟨#[36]⟩ : ByteArray)) ++ t146) ++ (⟨#[36]⟩ : ByteArray)).size + t149.size) = False := eq_false (Nat.not_lt.2 c28)
       have c28b3 := c28b0
       simp only [ByteArray.size_append, show (⟨#[36, 50]⟩ : ByteArray).size = 2 from rfl, show (⟨#[98]⟩ : ByteArray).size = 1 from rfl, show (⟨#[36]⟩ : ByteArray).size = 1 from rfl] at c28b3
       have c28b5 := c28b2
       simp only [ByteArray.size_append, show (⟨#[36, 50]⟩ : ByteArray).size = 2 from rfl, show (⟨#[98]⟩ : ByteArray).size = 1 from rfl, show (⟨#[36]⟩ : ByteArray).size = 1 from rfl] at c28b5
       obtain rfl := Option.some.inj H
       go_enter Try.func46, Try.ntmps46
       go_wp2_with (first | ((with_reducible refine gate_dst (N := 1) rfl ?_); refine box_event ?hg (N := 1) ?hd (cs := #[.int .u8 a0_0, .int .i64 a0_1, .string a0_2, .string a0_3]) (t := 45) ?hr ?_; (case hd => rfl); (case hg => rfl); (case hr => first | (go_simp; done) | (go_simp; rfl)); intro gb145 hg w29 hbox hb; have n0_ := Aside0.mk (below_step (by repeat (first | (with_reducible first | exact HB.out | apply below_alloc | apply pw_below_drewN | apply below_drew1) | exact HB.out)) hb); have n1_ := Aside0.mk (hbox); have n2_ := Aside0.mk ((by rw [hg]; exact (below_size (by repeat (first | (with_reducible first | exact HB.out | apply below_alloc | apply pw_below_drewN | apply below_drew1) | exact HB.out))) : w.heap.size ≤ gb145)); have n3_ := Aside0.mk ((by rw [hg]; exact (below_size (by repeat (first | (with_reducible first | exact HB.out | apply below_alloc | apply pw_below_drewN | apply below_drew1) | exact HB.out))) : w.heap.size ≤ gb145)); clear HB; have HB := n0_; have BK145 := n1_; have GW145 := n2_; have GE145 := n3_; clear n0_ n1_ n2_ n3_; clear hb hbox hg; have hcz30_0 : w29.cell? ⟨gb145, 0, none⟩ = some (.int .u8 a0_0) := (blk_cell BK145.out 0).trans rfl; have hcz30_1 : w29.cell? ⟨gb145, 1, none⟩ = some (.int .i64 a0_1) := (blk_cell BK145.out 1).trans rfl; have hcz30_2 : w29.cell? ⟨gb145, 2, none⟩ = some (.string a0_2) := (blk_cell BK145.out 2).trans rfl; have hcz30_3 : w29.cell? ⟨gb145, 3, none⟩ = some (.string a0_3) := (blk_cell BK145.out 3).trans rfl; have hfz30_0 := blk_frozen BK145.out 0; have hfz30_1 := blk_frozen BK145.out 1; have hfz30_2 := blk_frozen BK145.out 2; have hfz30_3 := blk_frozen BK145.out 3) | ((with_reducible refine gate_callee (f := 75) rfl ?_); refine goesL_ (some 9) rfl rfl Try.func75 (by kernel_rfl) rfl #[.int .i64 a0_1] rfl (by (try simp only [List.map_toArray, List.map_cons, List.map_nil]); first | done | rfl | (simp only [List.length_drop, List.length_take]; rfl)) ?_; (with_reducible refine (pestleref18_Text.calls k a0_1 t146 _ A2.out).mono ?_); rintro e w' ⟨rfl, ⟨nd, rfl⟩⟩; refine ⟨_, rfl, ?_⟩) | ((with_reducible refine gate_callee (f := 79) rfl ?_); refine goesL_ (some 20) rfl rfl Try.func79 (by kernel_rfl) rfl #[.string a0_2, .string a0_3] rfl (by (try simp only [List.map_toArray, List.map_cons, List.map_nil]); first | done | rfl | (simp only [List.length_drop, List.length_take]; rfl)) ?_; (with_reducible refine (pestleref17_Join.calls k a0_2 a0_3 t149 t150 _ A23.out).mono ?_); rintro e w31 ⟨rfl, hb⟩; refine ⟨_, rfl, ?_⟩; have n0_ := Aside0.mk (blk_below (g := gb145) (o := .cells #[.int .u8 a0_0, .int .i64 a0_1, .string a0_2, .string a0_3] 45 (0, 0)) (by (with_reducible repeat (first | refine blk_drewN ?_ _ | refine blk_drew ?_ | refine blk_alloc ?_ _)); exact BK145.out) hb); have n1_ := Aside0.mk (below_step (by repeat (first | (with_reducible first | exact HB.out | apply below_alloc | apply pw_below_drewN | apply below_drew1 | refine below_set ?_ GE145.out) | exact HB.out)) hb); clear BK145; clear HB; have BK145 := n0_; have HB := n1_; clear n0_ n1_; (try clear hb); (try clear hb2); (try clear hk); (try clear hi); have hcz32_0 : w31.cell? ⟨gb145, 0, none⟩ = some (.int .u8 a0_0) := (blk_cell BK145.out 0).trans rfl; have hcz32_1 : w31.cell? ⟨gb145, 1, none⟩ = some (.int .i64 a0_1) := (blk_cell BK145.out 1).trans rfl; have hcz32_2 : w31.cell? ⟨gb145, 2, none⟩ = some (.string a0_2) := (blk_cell BK145.out 2).trans rfl; have hcz32_3 : w31.cell? ⟨gb145, 3, none⟩ = some (.string a0_3) := (blk_cell BK145.out 3).trans rfl; have hfz32_0 := blk_frozen BK145.out 0; have hfz32_1 := blk_frozen BK145.out 1; have hfz32_2 := blk_frozen BK145.out 2; have hfz32_3 := blk_frozen BK145.out 3))
       go_ret
       exact ⟨by first | rfl | (simp [errW_none, errW_some] <;> rfl) | (simp [*, errW_none, errW_some] <;> rfl), by repeat (first | (with_reducible first | exact HB.out | apply below_alloc | apply pw_below_drewN | apply below_drew1 | refine below_set ?_ GE145.out) | exact HB.out)⟩
      ·rw [if_neg c28] at H
       exact absurd H (by simp)
     ·rw [if_neg c27] at H
      exact absurd H (by simp)
    ·rw [if_neg c26] at H
     exact absurd H (by simp)
   ·rw [if_neg c25] at H
    exact absurd H (by simp)
  ·rw [if_neg c24] at H
   have c24b0 : (a0_0 == 98) = false := beq_eq_false_iff_ne.mpr c24
   have c24b1 : (a0_0 != 98) = true := bne_iff_ne.mpr c24
   by_cases c33 : 2 + 1 ≤ 9223372036854775807
   ·rw [if_pos c33] at H
    have c33b0 := eq_true c33
    have c33b1 : decide (2 + 1 ≤ 9223372036854775807) = true := decide_eq_true c33
    try have c33b2 : (9223372036854775807 < 2 + 1) = False := eq_false (Nat.not_lt.2 c33)
    by_cases c34 : (((⟨#[36, 50]⟩ : ByteArray) ++ (⟨#[97]⟩ : ByteArray)) ++ (⟨#[36]⟩ : ByteArray)).size + t146.size ≤ 9223372036854775807
    ·rw [if_pos c34] at H
     have c34b0 := eq_true c34
     have c34b1 : decide ((((⟨#[36, 50]⟩ : ByteArray) ++ (⟨#[97]⟩ : ByteArray)) ++ (⟨#[36]⟩ : ByteArray)).size + t146.size ≤ 9223372036854775807) = true := decide_eq_true c34
     try have c34b2 : (9223372036854775807 < (((⟨#[36, 50]⟩ : ByteArray) ++ (⟨#[97]⟩ : ByteArray)) ++ (⟨#[36]⟩ : ByteArray)).size + t146.size) = False := eq_false (Nat.not_lt.2 c34)
     have c34b3 := c34b0
     simp only [ByteArray.size_append, show (⟨#[36, 50]⟩ : ByteArray).size = 2 from rfl, show (⟨#[97]⟩ : ByteArray).size = 1 from rfl, show (⟨#[36]⟩ : ByteArray).size = 1 from rfl] at c34b3
     have c34b5 := c34b2
     simp only [ByteArray.size_append, show (⟨#[36, 50]⟩ : ByteArray).size = 2 from rfl, show (⟨#[97]⟩ : ByteArray).size = 1 from rfl, show (⟨#[36]⟩ : ByteArray).size = 1 from rfl] at c34b5
     by_cases c35 : ((((⟨#[36, 50]⟩ : ByteArray) ++ (⟨#[97]⟩ : ByteArray)) ++ (⟨#[36]⟩ : ByteArray)) ++ t146).size + 1 ≤ 9223372036854775807
     ·rw [if_pos c35] at H
      have c35b0 := eq_true c35
      have c35b1 : decide (((((⟨#[36, 50]⟩ : ByteArray) ++ (⟨#[97]⟩ : ByteArray)) ++ (⟨#[36]⟩ : ByteArray)) ++ t146).size + 1 ≤ 9223372036854775807) = true := decide_eq_true c35
      try have c35b2 : (9223372036854775807 < ((((⟨#[36, 50]⟩ : ByteArray) ++ (⟨#[97]⟩ : ByteArray)) ++ (⟨#[36]⟩ : ByteArray)) ++ t146).size + 1) = False := eq_false (Nat.not_lt.2 c35)
      have c35b3 := c35b0
      simp only [ByteArray.size_append, show (⟨#[36, 50]⟩ : ByteArray).size = 2 from rfl, show (⟨#[97]⟩ : ByteArray).size = 1 from rfl, show (⟨#[36]⟩ : ByteArray).size = 1 from rfl] at c35b3
      have c35b5 := c35b2
      simp only [ByteArray.size_append, show (⟨#[36, 50]⟩ : ByteArray).size = 2 from rfl, show (⟨#[97]⟩ : ByteArray).size = 1 from rfl, show (⟨#[36]⟩ : ByteArray).size = 1 from rfl] at c35b5
      by_cases c36 : (((((⟨#[36, 50]⟩ : ByteArray) ++ (⟨#[97]⟩ : ByteArray)) ++ (⟨#[36]⟩ : ByteArray)) ++ t146) ++ (⟨#[36]⟩ : ByteArray)).size + t149.size ≤ 9223372036854775807
      ·rw [if_pos c36] at H
       have c36b0 := eq_true c36
       have c36b1 : decide ((((((⟨#[36, 50]⟩ : ByteArray) ++ (⟨#[97]⟩ : ByteArray)) ++ (⟨#[36]⟩ : ByteArray)) ++ t146) ++ (⟨#[36]⟩ : ByteArray)).size + t149.size ≤ 9223372036854775807) = true := decide_eq_true c36
       try have c36b2 : (9223372036854775807 < (((((⟨#[36, 50]⟩ : ByteArray) ++ (⟨#[97]⟩ : ByteArray)) ++ (⟨#[36]⟩ : ByteArray)) ++ t146) ++ (⟨#[36]⟩ : ByteArray)).size + t149.size) = False := eq_false (Nat.not_lt.2 c36)
       have c36b3 := c36b0
       simp only [ByteArray.size_append, show (⟨#[36, 50]⟩ : ByteArray).size = 2 from rfl, show (⟨#[97]⟩ : ByteArray).size = 1 from rfl, show (⟨#[36]⟩ : ByteArray).size = 1 from rfl] at c36b3
       have c36b5 := c36b2
       simp only [ByteArray.size_append, show (⟨#[36, 50]⟩ : ByteArray).size = 2 from rfl, show (⟨#[97]⟩ : ByteArray).size = 1 from rfl, show (⟨#[36]⟩ : ByteArray).size = 1 from rfl] at c36b5
       obtain rfl := Option.some.inj H
       go_enter Try.func46, Try.ntmps46
       go_wp2_with (first | ((with_reducible refine gate_dst (N := 1) rfl ?_); refine box_event ?hg (N := 1) ?hd (cs := #[.int .u8 a0_0, .int .i64 a0_1, .string a0_2, .string a0_3]) (t := 45) ?hr ?_; (case hd => rfl); (case hg => rfl); (case hr => first | (go_simp; done) | (go_simp; rfl)); intro gb145 hg w37 hbox hb; have n0_ := Aside0.mk (below_step (by repeat (first | (with_reducible first | exact HB.out | apply below_alloc | apply pw_below_drewN | apply below_drew1) | exact HB.out)) hb); have n1_ := Aside0.mk (hbox); have n2_ := Aside0.mk ((by rw [hg]; exact (below_size (by repeat (first | (with_reducible first | exact HB.out | apply below_alloc | apply pw_below_drewN | apply below_drew1) | exact HB.out))) : w.heap.size ≤ gb145)); have n3_ := Aside0.mk ((by rw [hg]; exact (below_size (by repeat (first | (with_reducible first | exact HB.out | apply below_alloc | apply pw_below_drewN | apply below_drew1) | exact HB.out))) : w.heap.size ≤ gb145)); clear HB; have HB := n0_; have BK145 := n1_; have GW145 := n2_; have GE145 := n3_; clear n0_ n1_ n2_ n3_; clear hb hbox hg; have hcz38_0 : w37.cell? ⟨gb145, 0, none⟩ = some (.int .u8 a0_0) := (blk_cell BK145.out 0).trans rfl; have hcz38_1 : w37.cell? ⟨gb145, 1, none⟩ = some (.int .i64 a0_1) := (blk_cell BK145.out 1).trans rfl; have hcz38_2 : w37.cell? ⟨gb145, 2, none⟩ = some (.string a0_2) := (blk_cell BK145.out 2).trans rfl; have hcz38_3 : w37.cell? ⟨gb145, 3, none⟩ = some (.string a0_3) := (blk_cell BK145.out 3).trans rfl; have hfz38_0 := blk_frozen BK145.out 0; have hfz38_1 := blk_frozen BK145.out 1; have hfz38_2 := blk_frozen BK145.out 2; have hfz38_3 := blk_frozen BK145.out 3) | ((with_reducible refine gate_callee (f := 75) rfl ?_); refine goesL_ (some 9) rfl rfl Try.func75 (by kernel_rfl) rfl #[.int .i64 a0_1] rfl (by (try simp only [List.map_toArray, List.map_cons, List.map_nil]); first | done | rfl | (simp only [List.length_drop, List.length_take]; rfl)) ?_; (with_reducible refine (pestleref18_Text.calls k a0_1 t146 _ A2.out).mono ?_); rintro e w' ⟨rfl, ⟨nd, rfl⟩⟩; refine ⟨_, rfl, ?_⟩) | ((with_reducible refine gate_callee (f := 79) rfl ?_); refine goesL_ (some 20) rfl rfl Try.func79 (by kernel_rfl) rfl #[.string a0_2, .string a0_3] rfl (by (try simp only [List.map_toArray, List.map_cons, List.map_nil]); first | done | rfl | (simp only [List.length_drop, List.length_take]; rfl)) ?_; (with_reducible refine (pestleref17_Join.calls k a0_2 a0_3 t149 t150 _ A23.out).mono ?_); rintro e w39 ⟨rfl, hb⟩; refine ⟨_, rfl, ?_⟩; have n0_ := Aside0.mk (blk_below (g := gb145) (o := .cells #[.int .u8 a0_0, .int .i64 a0_1, .string a0_2, .string a0_3] 45 (0, 0)) (by (with_reducible repeat (first | refine blk_drewN ?_ _ | refine blk_drew ?_ | refine blk_alloc ?_ _)); exact BK145.out) hb); have n1_ := Aside0.mk (below_step (by repeat (first | (with_reducible first | exact HB.out | apply below_alloc | apply pw_below_drewN | apply below_drew1 | refine below_set ?_ GE145.out) | exact HB.out)) hb); clear BK145; clear HB; have BK145 := n0_; have HB := n1_; clear n0_ n1_; (try clear hb); (try clear hb2); (try clear hk); (try clear hi); have hcz40_0 : w39.cell? ⟨gb145, 0, none⟩ = some (.int .u8 a0_0) := (blk_cell BK145.out 0).trans rfl; have hcz40_1 : w39.cell? ⟨gb145, 1, none⟩ = some (.int .i64 a0_1) := (blk_cell BK145.out 1).trans rfl; have hcz40_2 : w39.cell? ⟨gb145, 2, none⟩ = some (.string a0_2) := (blk_cell BK145.out 2).trans rfl; have hcz40_3 : w39.cell? ⟨gb145, 3, none⟩ = some (.string a0_3) := (blk_cell BK145.out 3).trans rfl; have hfz40_0 := blk_frozen BK145.out 0; have hfz40_1 := blk_frozen BK145.out 1; have hfz40_2 := blk_frozen BK145.out 2; have hfz40_3 := blk_frozen BK145.out 3))
       go_ret
       exact ⟨by first | rfl | (simp [errW_none, errW_some] <;> rfl) | (simp [*, errW_none, errW_some] <;> rfl), by repeat (first | (with_reducible first | exact HB.out | apply below_alloc | apply pw_below_drewN | apply below_drew1 | refine below_set ?_ GE145.out) | exact HB.out)⟩
      ·rw [if_neg c36] at H
       exact absurd H (by simp)
     ·rw [if_neg c35] at H
      exact absurd H (by simp)
    ·rw [if_neg c34] at H
     exact absurd H (by simp)
   ·rw [if_neg c33] at H
    exact absurd H (by simp)

end Go.Proofs.Ytoknoghdnedmhaa.Pall
