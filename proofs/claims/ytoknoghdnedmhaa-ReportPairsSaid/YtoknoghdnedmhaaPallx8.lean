-- PRINTED by print.py (a twelfth state) out of the translation. Not trusted: Lean checks it.
import Derived.Test.YtoknoghdnedmhaaPallx0
import Derived.Test.YtoknoghdnedmhaaPallx4
import Derived.Test.YtoknoghdnedmhaaPallx6
import Derived.Test.YtoknoghdnedmhaaPallx7
namespace Go.Proofs.Ytoknoghdnedmhaa.Pall
open Go.RowKit Go.Proofs.YtoknoghdnedmhaaW.PrintWords Go.Proofs.YtoknoghdnedmhaaW.PrintLast Go.Proofs.YtoknoghdnedmhaaW.PrintMore
attribute [local go_sem] max2_int min2_int max_two min_two max_three min_three max_four min_four   -- for this text's walks alone
set_option linter.unusedVariables false
set_option linter.unusedSimpArgs false

/-! ### pestleref54_Pairs: function 41 -/
def pestleref54_Pairs.l0 : Nat → List (S49) → List (S51) → ByteArray → Int → Option (ByteArray)
  | 0, _, _, _, _ => none
  | k + 1, x0, x1, x5, x6 => if x6 < (x0.length : Int) then (if 0 ≤ x6 then ((pestleref53_Line.f k ((rd_T49 x0 x6).f0) ((rd_T49 x0 x6).f1) ((rd_T49 x0 x6).f2)).bind fun bt214 => (if bt214.2 = 0 then (if x5.size + bt214.1.size ≤ 9223372036854775807 then (if (x5 ++ bt214.1).size + 4 ≤ 9223372036854775807 then (if x6 < (x1.length : Int) then ((pestleref54_Reply.f k ((rd_T49 x0 x6).f0) ((rd_T49 x0 x6).f1) ((rd_T49 x0 x6).f2) ((rd_T51 x1 x6).f0) ((rd_T51 x1 x6).f1) ((rd_T51 x1 x6).f2) ((rd_T51 x1 x6).f3)).bind fun t218 => (if ((x5 ++ bt214.1) ++ (⟨#[32, 45, 62, 32]⟩ : ByteArray)).size + t218.size ≤ 9223372036854775807 then (if (((x5 ++ bt214.1) ++ (⟨#[32, 45, 62, 32]⟩ : ByteArray)) ++ t218).size + 1 ≤ 9223372036854775807 then (pestleref54_Pairs.l0 k x0 x1 ((((x5 ++ bt214.1) ++ (⟨#[32, 45, 62, 32]⟩ : ByteArray)) ++ t218) ++ (⟨#[10]⟩ : ByteArray)) (wrap64 (x6 + 1))) else (none)) else (none))) else (none)) else (none)) else (none)) else ((pestleref54_Name.f bt214.2).bind fun t219 => (if 2 + t219.size ≤ 9223372036854775807 then (if x5.size + ((⟨#[63, 32]⟩ : ByteArray) ++ t219).size ≤ 9223372036854775807 then (if (x5 ++ ((⟨#[63, 32]⟩ : ByteArray) ++ t219)).size + 4 ≤ 9223372036854775807 then (if x6 < (x1.length : Int) then ((pestleref54_Reply.f k ((rd_T49 x0 x6).f0) ((rd_T49 x0 x6).f1) ((rd_T49 x0 x6).f2) ((rd_T51 x1 x6).f0) ((rd_T51 x1 x6).f1) ((rd_T51 x1 x6).f2) ((rd_T51 x1 x6).f3)).bind fun t222 => (if ((x5 ++ ((⟨#[63, 32]⟩ : ByteArray) ++ t219)) ++ (⟨#[32, 45, 62, 32]⟩ : ByteArray)).size + t222.size ≤ 9223372036854775807 then (if (((x5 ++ ((⟨#[63, 32]⟩ : ByteArray) ++ t219)) ++ (⟨#[32, 45, 62, 32]⟩ : ByteArray)) ++ t222).size + 1 ≤ 9223372036854775807 then (pestleref54_Pairs.l0 k x0 x1 ((((x5 ++ ((⟨#[63, 32]⟩ : ByteArray) ++ t219)) ++ (⟨#[32, 45, 62, 32]⟩ : ByteArray)) ++ t222) ++ (⟨#[10]⟩ : ByteArray)) (wrap64 (x6 + 1))) else (none)) else (none))) else (none)) else (none)) else (none)) else (none))))) else (none)) else (some x5)
def pestleref54_Pairs.f (k : Nat) (l0 : List (S49)) (l1 : List (S51)) : Option (ByteArray) := pestleref54_Pairs.l0 k l0 l1 (⟨#[]⟩ : ByteArray) 0
theorem pestleref54_Pairs.mono_l : ∀ k, (∀ y0 y1 y2 y3, LeO (pestleref54_Pairs.l0 k y0 y1 y2 y3) (pestleref54_Pairs.l0 (k + 1) y0 y1 y2 y3))
  | 0 => fun _ _ _ _ r h => by simp [pestleref54_Pairs.l0] at h
  | k + 1 => by
    have ih0 := pestleref54_Pairs.mono_l k
    · intro y0 y1 y2 y3
      unfold pestleref54_Pairs.l0
      repeat' first
      | (with_reducible exact ih0 _ _ _ _)
      | (with_reducible exact pestleref53_Line.mono _ _ _ _)
      | (with_reducible exact pestleref54_Reply.mono _ _ _ _ _ _ _ _)
      | (with_reducible exact LeO.refl _)
      | (with_reducible exact LeO.none _)
      | (with_reducible refine LeO.ite ?_ ?_)
      | (with_reducible refine LeO.bind ?_ (fun _ => ?_))
      | exact ih0 _ _ _ _
      | exact pestleref53_Line.mono _ _ _ _
      | exact pestleref54_Reply.mono _ _ _ _ _ _ _ _
      | exact LeO.none _
      | refine LeO.ite ?_ ?_
      | refine LeO.bind ?_ (fun _ => ?_)
theorem pestleref54_Pairs.mono : ∀ a0 a1 k, LeO (pestleref54_Pairs.f k a0 a1) (pestleref54_Pairs.f (k + 1) a0 a1) := by
  intro a0 a1 k
  have ih0 := pestleref54_Pairs.mono_l k
  unfold pestleref54_Pairs.f
  repeat' first
      | (with_reducible exact ih0 _ _ _ _)
      | (with_reducible exact pestleref53_Line.mono _ _ _ _)
      | (with_reducible exact pestleref54_Reply.mono _ _ _ _ _ _ _ _)
      | (with_reducible exact LeO.refl _)
      | (with_reducible exact LeO.none _)
      | (with_reducible refine LeO.ite ?_ ?_)
      | (with_reducible refine LeO.bind ?_ (fun _ => ?_))
      | exact ih0 _ _ _ _
      | exact pestleref53_Line.mono _ _ _ _
      | exact pestleref54_Reply.mono _ _ _ _ _ _ _ _
      | exact LeO.none _
      | refine LeO.ite ?_ ?_
      | refine LeO.bind ?_ (fun _ => ?_)
def pestleref54_Pairs.T8 : Bool × List (List Nat × List Nat) := (true, [([], []), ([], []), ([0, 1], [0, 1]), ([2], [2]), ([], []), ([], []), ([4, 5], [4, 5]), ([6], [6]), ([], []), ([], []), ([8, 9], [8, 9]), ([10], [10]), ([7, 11], [7, 11]), ([3, 12], [3, 12]), ([13], [13]), ([14, 12, 0, 1, 2, 3, 4, 5, 6, 7, 8, 9, 10, 11, 12, 13, 14], [0, 14])])
def pestleref54_Pairs.B8 : List Nat := [0, 0, 3, 7, 0, 0, 48, 112, 0, 0, 768, 1792, 4080, 8191, 16383, 32767]
theorem pestleref54_Pairs.tab8 : rtab .any (opsOf Try.f41 8) = pestleref54_Pairs.T8 := by kernel_rfl
theorem pestleref54_Pairs.bits8 : waitsOk pestleref54_Pairs.T8.2 pestleref54_Pairs.B8 = true := by kernel_rfl
set_option maxHeartbeats 8000000 in
set_option maxRecDepth 100000 in
theorem pestleref54_Pairs.calls (k : Nat) (A0 : Option Addr) (c0 : Nat) (l0 : List (S49)) (A1 : Option Addr) (c1 : Nat) (l1 : List (S51)) (r : ByteArray) (w : World) (hr0 : Kd.C k49 w A0 l0.length l0) (hc0 : l0.length ≤ c0) (hr1 : Kd.C k51 w A1 l1.length l1) (hc1 : l1.length ≤ c1) (h : pestleref54_Pairs.f k l0 l1 = some r) :
    Calls Try.prog 41 #[.slice A0 l0.length c0, .slice A1 l1.length c1] w fun e w' => e = .returned (.string r) ∧ Below w.heap.size w w' := by
  have hu49 := Try.underlying49
  have hu51 := Try.underlying51
  have HR0 := Aside0.mk hr0
  have HC0 := Aside0.mk hc0
  clear hr0 hc0
  have HR1 := Aside0.mk hr1
  have HC1 := Aside0.mk hc1
  clear hr1 hc1
  have HB := Aside0.mk (Below.refl w.heap.size w)
  have H : (pestleref54_Pairs.l0 k l0 l1 (⟨#[]⟩ : ByteArray) 0) = some r := h
  clear h
  have H' := Aside0.mk H
  clear H
  go_enter Try.func41, Try.ntmps41
  go_wp2
  go_loopg [5, 6] k (fun kq v5 v6 w' => ∃ (x5_1 : ByteArray) (x6_1 : Int), v5 = .string x5_1 ∧ v6 = .int .i64 x6_1 ∧ Aside0 (pestleref54_Pairs.l0 kq l0 l1 x5_1 x6_1 = some r) ∧ Aside0 (kq ≤ k) ∧ Aside0 (Below w.heap.size w w'))
  case atStart => exact ⟨((⟨#[]⟩ : ByteArray)), (0), (by first | rfl | (simp; done) | (simp [*]; done)), (by first | rfl | (simp; done) | (simp [*]; done)), H', ⟨Nat.le_refl _⟩, ⟨by repeat (first | (with_reducible first | exact HB.out | apply below_alloc | apply pw_below_drewN | apply below_drew1) | exact HB.out)⟩⟩
  case round =>
    clear H'
    try clear c1
    try clear p2
    obtain ⟨x5_1, x6_1, rfl, rfl, HA, HK1, HB⟩ := hrel
    cases gk with
    | zero => exact absurd HA.out (by simp [pestleref54_Pairs.l0])
    | succ k1 =>
      have H := HA.out
      clear HA
      simp only [pestleref54_Pairs.l0] at H
      by_cases c3 : x6_1 < (l0.length : Int)
      · rw [if_pos c3] at H
        have c3b0 : decide (x6_1 < (l0.length : Int)) = true := decide_eq_true c3
        clear c3
        by_cases c4 : 0 ≤ x6_1
        · rw [if_pos c4] at H
          have c4b0 : decide (0 ≤ x6_1) = true := decide_eq_true c4
          clear c4
          replace H := Option.bind_eq_some_iff.mp H
          obtain ⟨⟨t214, t215⟩, A50, H⟩ := H
          replace H : (if t215 = 0 then (if x5_1.size + t214.size ≤ 9223372036854775807 then (if (x5_1 ++ t214).size + 4 ≤ 9223372036854775807 then (if x6_1 < (l1.length : Int) then ((pestleref54_Reply.f k1 ((rd_T49 l0 x6_1).f0) ((rd_T49 l0 x6_1).f1) ((rd_T49 l0 x6_1).f2) ((rd_T51 l1 x6_1).f0) ((rd_T51 l1 x6_1).f1) ((rd_T51 l1 x6_1).f2) ((rd_T51 l1 x6_1).f3)).bind fun t218 => (if ((x5_1 ++ t214) ++ (⟨#[32, 45, 62, 32]⟩ : ByteArray)).size + t218.size ≤ 9223372036854775807 then (if (((x5_1 ++ t214) ++ (⟨#[32, 45, 62, 32]⟩ : ByteArray)) ++ t218).size + 1 ≤ 9223372036854775807 then (pestleref54_Pairs.l0 k1 l0 l1 ((((x5_1 ++ t214) ++ (⟨#[32, 45, 62, 32]⟩ : ByteArray)) ++ t218) ++ (⟨#[10]⟩ : ByteArray)) (wrap64 (x6_1 + 1))) else (none)) else (none))) else (none)) else (none)) else (none)) else ((pestleref54_Name.f t215).bind fun t219 => (if 2 + t219.size ≤ 9223372036854775807 then (if x5_1.size + ((⟨#[63, 32]⟩ : ByteArray) ++ t219).size ≤ 9223372036854775807 then (if (x5_1 ++ ((⟨#[63, 32]⟩ : ByteArray) ++ t219)).size + 4 ≤ 9223372036854775807 then (if x6_1 < (l1.length : Int) then ((pestleref54_Reply.f k1 ((rd_T49 l0 x6_1).f0) ((rd_T49 l0 x6_1).f1) ((rd_T49 l0 x6_1).f2) ((rd_T51 l1 x6_1).f0) ((rd_T51 l1 x6_1).f1) ((rd_T51 l1 x6_1).f2) ((rd_T51 l1 x6_1).f3)).bind fun t222 => (if ((x5_1 ++ ((⟨#[63, 32]⟩ : ByteArray) ++ t219)) ++ (⟨#[32, 45, 62, 32]⟩ : ByteArray)).size + t222.size ≤ 9223372036854775807 then (if (((x5_1 ++ ((⟨#[63, 32]⟩ : ByteArray) ++ t219)) ++ (⟨#[32, 45, 62, 32]⟩ : ByteArray)) ++ t222).size + 1 ≤ 9223372036854775807 then (pestleref54_Pairs.l0 k1 l0 l1 ((((x5_1 ++ ((⟨#[63, 32]⟩ : ByteArray) ++ t219)) ++ (⟨#[32, 45, 62, 32]⟩ : ByteArray)) ++ t222) ++ (⟨#[10]⟩ : ByteArray)) (wrap64 (x6_1 + 1))) else (none)) else (none))) else (none)) else (none)) else (none)) else (none)))) = some r := H
          have A5 := Aside0.mk A50
          clear A50
          by_cases c6 : t215 = 0
          · rw [if_pos c6] at H
            have c6b0 : (t215 == 0) = true := beq_iff_eq.mpr c6
            have c6b1 : (t215 != 0) = false := bne_eq_false_iff_eq.mpr c6
            clear c6
            by_cases c7 : x5_1.size + t214.size ≤ 9223372036854775807
            · rw [if_pos c7] at H
              have c7b0 := eq_true c7
              have c7b1 : decide (x5_1.size + t214.size ≤ 9223372036854775807) = true := decide_eq_true c7
              try have c7b2 : (9223372036854775807 < x5_1.size + t214.size) = False := eq_false (Nat.not_lt.2 c7)
              by_cases c8 : (x5_1 ++ t214).size + 4 ≤ 9223372036854775807
              · rw [if_pos c8] at H
                have c8b0 := eq_true c8
                have c8b1 : decide ((x5_1 ++ t214).size + 4 ≤ 9223372036854775807) = true := decide_eq_true c8
                try have c8b2 : (9223372036854775807 < (x5_1 ++ t214).size + 4) = False := eq_false (Nat.not_lt.2 c8)
                have c8b3 := c8b0
                simp only [ByteArray.size_append] at c8b3
                have c8b5 := c8b2
                simp only [ByteArray.size_append] at c8b5
                by_cases c9 : x6_1 < (l1.length : Int)
                · rw [if_pos c9] at H
                  have c9b0 : decide (x6_1 < (l1.length : Int)) = true := decide_eq_true c9
                  clear c9
                  replace H := Option.bind_eq_some_iff.mp H
                  obtain ⟨t218, A100, H⟩ := H
                  replace H : (if ((x5_1 ++ t214) ++ (⟨#[32, 45, 62, 32]⟩ : ByteArray)).size + t218.size ≤ 9223372036854775807 then (if (((x5_1 ++ t214) ++ (⟨#[32, 45, 62, 32]⟩ : ByteArray)) ++ t218).size + 1 ≤ 9223372036854775807 then (pestleref54_Pairs.l0 k1 l0 l1 ((((x5_1 ++ t214) ++ (⟨#[32, 45, 62, 32]⟩ : ByteArray)) ++ t218) ++ (⟨#[10]⟩ : ByteArray)) (wrap64 (x6_1 + 1))) else (none)) else (none)) = some r := H
                  have A10 := Aside0.mk A100
                  clear A100
                  by_cases c11 : ((x5_1 ++ t214) ++ (⟨#[32, 45, 62, 32]⟩ : ByteArray)).size + t218.size ≤ 9223372036854775807
                  · rw [if_pos c11] at H
                    have c11b0 := eq_true c11
                    have c11b1 : decide (((x5_1 ++ t214) ++ (⟨#[32, 45, 62, 32]⟩ : ByteArray)).size + t218.size ≤ 9223372036854775807) = true := decide_eq_true c11
                    try have c11b2 : (9223372036854775807 < ((x5_1 ++ t214) ++ (⟨#[32, 45, 62, 32]⟩ : ByteArray)).size + t218.size) = False := eq_false (Nat.not_lt.2 c11)
                    have c11b3 := c11b0
                    simp only [ByteArray.size_append, show (⟨#[32, 45, 62, 32]⟩ : ByteArray).size = 4 from rfl] at c11b3
                    have c11b5 := c11b2
                    simp only [ByteArray.size_append, show (⟨#[32, 45, 62, 32]⟩ : ByteArray).size = 4 from rfl] at c11b5
                    by_cases c12 : (((x5_1 ++ t214) ++ (⟨#[32, 45, 62, 32]⟩ : ByteArray)) ++ t218).size + 1 ≤ 9223372036854775807
                    · rw [if_pos c12] at H
                      have c12b0 := eq_true c12
                      have c12b1 : decide ((((x5_1 ++ t214) ++ (⟨#[32, 45, 62, 32]⟩ : ByteArray)) ++ t218).size + 1 ≤ 9223372036854775807) = true := decide_eq_true c12
                      try have c12b2 : (9223372036854775807 < (((x5_1 ++ t214) ++ (⟨#[32, 45, 62, 32]⟩ : ByteArray)) ++ t218).size + 1) = False := eq_false (Nat.not_lt.2 c12)
                      have c12b3 := c12b0
                      simp only [ByteArray.size_append, show (⟨#[32, 45, 62, 32]⟩ : ByteArray).size = 4 from rfl] at c12b3
                      have c12b5 := c12b2
                      simp only [ByteArray.size_append, show (⟨#[32, 45, 62, 32]⟩ : ByteArray).size = 4 from rfl] at c12b5
                      have H' := Aside0.mk H
                      clear H
                      have p213 : 0 ≤ (x6_1 : Int) := of_decide_eq_true (by first | (with_reducible assumption) | assumption)
                      have q213 : x6_1 < (l0.length : Int) := of_decide_eq_true (by first | (with_reducible assumption) | assumption)
                      obtain ⟨ad213, e213, hx213_0, hx213_1, hx213_2⟩ := at_T49 HR0.out x6_1 p213 q213
                      cases e213
                      replace hx213_0 := (HB.out.cell (World.block_lt_of_cell? w _ hx213_0)).trans hx213_0
                      replace hx213_1 := (HB.out.cell (World.block_lt_of_cell? w _ hx213_1)).trans hx213_1
                      replace hx213_2 := (HB.out.cell (World.block_lt_of_cell? w _ hx213_2)).trans hx213_2
                      replace p213 := eq_true p213
                      replace q213 := eq_true q213
                      try go_wp2_with (first | ((with_reducible refine gate_callee (f := 58) rfl ?_); refine goesL_ (some 20) rfl rfl Try.func58 (by kernel_rfl) rfl #[.agg #[.int .i64 ((rd_T49 l0 x6_1).f0), .string ((rd_T49 l0 x6_1).f1), .string ((rd_T49 l0 x6_1).f2)]] rfl (by (try simp only [List.map_toArray, List.map_cons, List.map_nil]); first | done | rfl | (simp only [List.length_drop, List.length_take]; rfl)) ?_; (with_reducible refine (pestleref53_Line.calls k1 ((rd_T49 l0 x6_1).f0) ((rd_T49 l0 x6_1).f1) ((rd_T49 l0 x6_1).f2) t214 t215 _ A5.out).mono ?_); rintro e w13 ⟨rfl, hb⟩; refine ⟨_, rfl, ?_⟩; have n0_ := Aside0.mk (below_step (by repeat (first | (with_reducible first | exact HB.out | apply below_alloc | apply pw_below_drewN | apply below_drew1) | exact HB.out)) hb); clear HB; have HB := n0_; clear n0_; (try clear hb); (try clear hb2); (try clear hk); (try clear hi)))
                      have n0_ := Aside0.mk (below_drew1 HB.out)
                      clear HB
                      have HB := n0_
                      clear n0_
                      have p216 : 0 ≤ (x6_1 : Int) := of_decide_eq_true (by first | (with_reducible assumption) | assumption)
                      have q216 : x6_1 < (l0.length : Int) := of_decide_eq_true (by first | (with_reducible assumption) | assumption)
                      obtain ⟨ad216, e216, hx216_0, hx216_1, hx216_2⟩ := at_T49 HR0.out x6_1 p216 q216
                      have hw216_2 := hx216_2
                      have hw216_1 := hx216_1
                      have hw216_0 := hx216_0
                      obtain rfl : ad213 = ad216 := (by injection e216)
                      replace hx216_0 := (HB.out.cell (World.block_lt_of_cell? w _ hx216_0)).trans hx216_0
                      replace hx216_1 := (HB.out.cell (World.block_lt_of_cell? w _ hx216_1)).trans hx216_1
                      replace hx216_2 := (HB.out.cell (World.block_lt_of_cell? w _ hx216_2)).trans hx216_2
                      replace p216 := eq_true p216
                      replace q216 := eq_true q216
                      have p217 : 0 ≤ (x6_1 : Int) := of_decide_eq_true (by first | (with_reducible assumption) | assumption)
                      have q217 : x6_1 < (l1.length : Int) := of_decide_eq_true (by first | (with_reducible assumption) | assumption)
                      obtain ⟨ad217, e217, hx217_0, hx217_1, hx217_2, hx217_3⟩ := at_T51 HR1.out x6_1 p217 q217
                      have hw217_3 := hx217_3
                      have hw217_2 := hx217_2
                      have hw217_1 := hx217_1
                      have hw217_0 := hx217_0
                      cases e217
                      replace hx217_0 := (HB.out.cell (World.block_lt_of_cell? w _ hx217_0)).trans hx217_0
                      replace hx217_1 := (HB.out.cell (World.block_lt_of_cell? w _ hx217_1)).trans hx217_1
                      replace hx217_2 := (HB.out.cell (World.block_lt_of_cell? w _ hx217_2)).trans hx217_2
                      replace hx217_3 := (HB.out.cell (World.block_lt_of_cell? w _ hx217_3)).trans hx217_3
                      replace p217 := eq_true p217
                      replace q217 := eq_true q217
                      refine start_ (n := 16) (S := fun w' => w'.cell? (ad213.add ((x6_1).toNat * 3)) = some (.int .i64 ((rd_T49 l0 x6_1).f0)) ∧ w'.cell? ⟨(ad213.add ((x6_1).toNat * 3)).block, (ad213.add ((x6_1).toNat * 3)).off + 1, none⟩ = some (.string ((rd_T49 l0 x6_1).f1)) ∧ w'.cell? ⟨(ad213.add ((x6_1).toNat * 3)).block, (ad213.add ((x6_1).toNat * 3)).off + 2, none⟩ = some (.string ((rd_T49 l0 x6_1).f2)) ∧ w'.cell? (ad217.add ((x6_1).toNat * 4)) = some (.int .i64 ((rd_T51 l1 x6_1).f0)) ∧ w'.cell? ⟨(ad217.add ((x6_1).toNat * 4)).block, (ad217.add ((x6_1).toNat * 4)).off + 1, none⟩ = some (.string ((rd_T51 l1 x6_1).f1)) ∧ w'.cell? ⟨(ad217.add ((x6_1).toNat * 4)).block, (ad217.add ((x6_1).toNat * 4)).off + 2, none⟩ = some (.bool ((rd_T51 l1 x6_1).f2)) ∧ w'.cell? ⟨(ad217.add ((x6_1).toNat * 4)).block, (ad217.add ((x6_1).toNat * 4)).off + 3, none⟩ = some (.int .i64 ((rd_T51 l1 x6_1).f3))) (ds := []) #[false, false, false, false, false, false, false, false, false, false, false, false, false, false, false, false] (by kernel_rfl) rfl rfl ⟨((HB.out.cell (World.block_lt_of_cell? w _ hw216_0)).trans hw216_0), ((HB.out.cell (World.block_lt_of_cell? w _ hw216_1)).trans hw216_1), ((HB.out.cell (World.block_lt_of_cell? w _ hw216_2)).trans hw216_2), ((HB.out.cell (World.block_lt_of_cell? w _ hw217_0)).trans hw217_0), ((HB.out.cell (World.block_lt_of_cell? w _ hw217_1)).trans hw217_1), ((HB.out.cell (World.block_lt_of_cell? w _ hw217_2)).trans hw217_2), ((HB.out.cell (World.block_lt_of_cell? w _ hw217_3)).trans hw217_3)⟩ (fun hHeld => ?_); refine with_tabW pestleref54_Pairs.tab8 pestleref54_Pairs.bits8 (fun HT_ HW_ => ?_)
                      generalize w13.drew = w14 at HB hx216_0 hx216_1 hx216_2 hx217_0 hx217_1 hx217_2 hx217_3 hHeld ⊢
                      refine pure_ (i := 0) (N := some 28) (v := ?_) (a' := ?_) #[true, false, false, false, false, false, false, false, false, false, false, false, false, false, false, false] rfl rfl (any_of HT_.out (by kernel_rfl)) (fun _ _ _ h => h) (Or.inl ⟨by rfl, ?_⟩) ?_ ?_
                      rotate_left
                      · intro w'
                        go_simp
                        with_reducible rfl
                      rotate_left
                      · simp only [Act.put, List.setIfInBounds_toArray, List.set_cons_zero, List.set_cons_succ, i64_w, i32_w]
                        rfl
                      refine pure_ (i := 1) (N := some 29) (v := ?_) (a' := ?_) #[true, true, false, false, false, false, false, false, false, false, false, false, false, false, false, false] rfl rfl (any_of HT_.out (by kernel_rfl)) (fun _ _ _ h => h) (Or.inl ⟨by rfl, ?_⟩) ?_ ?_
                      rotate_left
                      · intro w'
                        go_simp
                        with_reducible rfl
                      rotate_left
                      · simp only [Act.put, List.setIfInBounds_toArray, List.set_cons_zero, List.set_cons_succ, i64_w, i32_w]
                        rfl
                      refine pure_ (i := 2) (N := some 30) (v := ?_) (a' := ?_) #[true, true, true, false, false, false, false, false, false, false, false, false, false, false, false, false] rfl rfl (any_of HT_.out (by kernel_rfl)) (fun _ _ _ h => h) (Or.inl ⟨by rfl, ?_⟩) ?_ ?_
                      rotate_left
                      · intro w'
                        go_simp
                        with_reducible rfl
                      rotate_left
                      · simp only [Act.put, List.setIfInBounds_toArray, List.set_cons_zero, List.set_cons_succ, i64_w, i32_w]
                        rfl
                      refine pure_ (i := 3) (N := some 31) (v := ?_) (a' := ?_) #[true, true, true, true, false, false, false, false, false, false, false, false, false, false, false, false] rfl rfl (any_of HT_.out (by kernel_rfl)) (fun _ _ _ h => h) (Or.inl ⟨by rfl, ?_⟩) ?_ ?_
                      rotate_left
                      · intro w'
                        go_simp
                        with_reducible rfl
                      rotate_left
                      · simp only [Act.put, List.setIfInBounds_toArray, List.set_cons_zero, List.set_cons_succ, i64_w, i32_w]
                        rfl
                      refine pure_ (i := 4) (N := some 32) (v := ?_) (a' := ?_) #[true, true, true, true, true, false, false, false, false, false, false, false, false, false, false, false] rfl rfl (any_of HT_.out (by kernel_rfl)) (fun _ _ _ h => h) (Or.inl ⟨by rfl, ?_⟩) ?_ ?_
                      rotate_left
                      · intro w'
                        go_simp
                        with_reducible rfl
                      rotate_left
                      · simp only [Act.put, List.setIfInBounds_toArray, List.set_cons_zero, List.set_cons_succ, i64_w, i32_w]
                        rfl
                      refine pure_ (i := 5) (N := some 33) (v := ?_) (a' := ?_) #[true, true, true, true, true, true, false, false, false, false, false, false, false, false, false, false] rfl rfl (any_of HT_.out (by kernel_rfl)) (fun _ _ _ h => h) (Or.inl ⟨by rfl, ?_⟩) ?_ ?_
                      rotate_left
                      · intro w'
                        go_simp
                        with_reducible rfl
                      rotate_left
                      · simp only [Act.put, List.setIfInBounds_toArray, List.set_cons_zero, List.set_cons_succ, i64_w, i32_w]
                        rfl
                      refine pure_ (i := 6) (N := some 34) (v := ?_) (a' := ?_) #[true, true, true, true, true, true, true, false, false, false, false, false, false, false, false, false] rfl rfl (any_of HT_.out (by kernel_rfl)) (fun _ _ _ h => h) (Or.inl ⟨by rfl, ?_⟩) ?_ ?_
                      rotate_left
                      · intro w'
                        go_simp
                        with_reducible rfl
                      rotate_left
                      · simp only [Act.put, List.setIfInBounds_toArray, List.set_cons_zero, List.set_cons_succ, i64_w, i32_w]
                        rfl
                      refine pure_ (i := 8) (N := some 36) (v := ?_) (a' := ?_) #[true, true, true, true, true, true, true, false, true, false, false, false, false, false, false, false] rfl rfl (any_of HT_.out (by kernel_rfl)) (fun _ _ _ h => h) (Or.inl ⟨by rfl, ?_⟩) ?_ ?_
                      rotate_left
                      · intro w'
                        go_simp
                        with_reducible rfl
                      rotate_left
                      · simp only [Act.put, List.setIfInBounds_toArray, List.set_cons_zero, List.set_cons_succ, i64_w, i32_w]
                        rfl
                      refine pure_ (i := 9) (N := some 37) (v := ?_) (a' := ?_) #[true, true, true, true, true, true, true, false, true, true, false, false, false, false, false, false] rfl rfl (any_of HT_.out (by kernel_rfl)) (fun _ _ _ h => h) (Or.inl ⟨by rfl, ?_⟩) ?_ ?_
                      rotate_left
                      · intro w'
                        go_simp
                        with_reducible rfl
                      rotate_left
                      · simp only [Act.put, List.setIfInBounds_toArray, List.set_cons_zero, List.set_cons_succ, i64_w, i32_w]
                        rfl
                      refine pure_ (i := 10) (N := some 38) (v := ?_) (a' := ?_) #[true, true, true, true, true, true, true, false, true, true, true, false, false, false, false, false] rfl rfl (any_of HT_.out (by kernel_rfl)) (fun _ _ _ h => h) (Or.inl ⟨by rfl, ?_⟩) ?_ ?_
                      rotate_left
                      · intro w'
                        go_simp
                        with_reducible rfl
                      rotate_left
                      · simp only [Act.put, List.setIfInBounds_toArray, List.set_cons_zero, List.set_cons_succ, i64_w, i32_w]
                        rfl
                      refine take_ (i := 7) (N := some 35) (v := ?_) (a' := ?_) #[true, true, true, true, true, true, true, true, true, true, true, false, false, false, false, false] rfl rfl (take_ofW HT_.out HW_.out (by kernel_rfl)) (fun _ _ _ h => h) (Or.inl ⟨by rfl, ?_⟩) hHeld ?_ ?_
                      rotate_left
                      · rintro w' ⟨s0, s1, s2, s3, s4, s5, s6⟩
                        go_simp
                        with_reducible rfl
                      rotate_left
                      · simp only [Act.put, List.setIfInBounds_toArray, List.set_cons_zero, List.set_cons_succ, i64_w, i32_w]
                        rfl
                      refine take_ (i := 11) (N := some 39) (v := ?_) (a' := ?_) #[true, true, true, true, true, true, true, true, true, true, true, true, false, false, false, false] rfl rfl (take_ofW HT_.out HW_.out (by kernel_rfl)) (fun _ _ _ h => h) (Or.inl ⟨by rfl, ?_⟩) hHeld ?_ ?_
                      rotate_left
                      · rintro w' ⟨s0, s1, s2, s3, s4, s5, s6⟩
                        go_simp
                        with_reducible rfl
                      rotate_left
                      · simp only [Act.put, List.setIfInBounds_toArray, List.set_cons_zero, List.set_cons_succ, i64_w, i32_w]
                        rfl
                      refine one_ (i := 12) (N := some 40) #[true, true, true, true, true, true, true, true, true, true, true, true, true, false, false, false] rfl rfl (one_of HT_.out (by kernel_rfl)) (by decide) (fun K hK => ?_)
                      refine goes_ Try.func29 (by kernel_rfl) rfl #[.agg #[.int .i64 ((rd_T49 l0 x6_1).f0), .string ((rd_T49 l0 x6_1).f1), .string ((rd_T49 l0 x6_1).f2)], .agg #[.int .i64 ((rd_T51 l1 x6_1).f0), .string ((rd_T51 l1 x6_1).f1), .bool ((rd_T51 l1 x6_1).f2), .int .i64 ((rd_T51 l1 x6_1).f3)]] (by rfl) rfl rfl (by (try simp only [List.map_toArray, List.map_cons, List.map_nil]); first | done | rfl | (simp only [List.length_drop, List.length_take]; rfl)) ?_
                      with_reducible refine (pestleref54_Reply.calls k1 ((rd_T49 l0 x6_1).f0) ((rd_T49 l0 x6_1).f1) ((rd_T49 l0 x6_1).f2) ((rd_T51 l1 x6_1).f0) ((rd_T51 l1 x6_1).f1) ((rd_T51 l1 x6_1).f2) ((rd_T51 l1 x6_1).f3) t218 _ A10.out).mono ?_
                      rintro e w15 ⟨rfl, hb⟩
                      refine ⟨_, rfl, ?_⟩
                      have n0_ := Aside0.mk (below_step (by repeat (first | (with_reducible first | exact HB.out | apply below_alloc | apply pw_below_drewN | apply below_drew1) | exact HB.out)) hb)
                      clear HB
                      have HB := n0_
                      clear n0_
                      (try clear hb)
                      (try clear hb2)
                      (try clear hk)
                      (try clear hi)
                      refine hK.out _ _ ⟨((HB.out.cell (World.block_lt_of_cell? w _ hw216_0)).trans hw216_0), ((HB.out.cell (World.block_lt_of_cell? w _ hw216_1)).trans hw216_1), ((HB.out.cell (World.block_lt_of_cell? w _ hw216_2)).trans hw216_2), ((HB.out.cell (World.block_lt_of_cell? w _ hw217_0)).trans hw217_0), ((HB.out.cell (World.block_lt_of_cell? w _ hw217_1)).trans hw217_1), ((HB.out.cell (World.block_lt_of_cell? w _ hw217_2)).trans hw217_2), ((HB.out.cell (World.block_lt_of_cell? w _ hw217_3)).trans hw217_3)⟩ (fun hHeld => ?_)
                      clear hK K
                      refine norm_ (a' := ?_) ?_ ?_
                      rotate_left
                      · show Act.put _ (some 40) _ = _
                        simp only [Act.put, List.setIfInBounds_toArray, List.set_cons_zero, List.set_cons_succ, i64_w, i32_w]
                        rfl
                      refine pure_ (i := 13) (N := some 41) (v := ?_) (a' := ?_) #[true, true, true, true, true, true, true, true, true, true, true, true, true, true, false, false] rfl rfl (any_of HT_.out (by kernel_rfl)) (fun _ _ _ h => h) (Or.inl ⟨by rfl, ?_⟩) ?_ ?_
                      rotate_left
                      · intro w'
                        go_simp
                        with_reducible rfl
                      rotate_left
                      · simp only [Act.put, List.setIfInBounds_toArray, List.set_cons_zero, List.set_cons_succ, i64_w, i32_w]
                        rfl
                      refine pure_ (i := 14) (N := some 42) (v := ?_) (a' := ?_) #[true, true, true, true, true, true, true, true, true, true, true, true, true, true, true, false] rfl rfl (any_of HT_.out (by kernel_rfl)) (fun _ _ _ h => h) (Or.inl ⟨by rfl, ?_⟩) ?_ ?_
                      rotate_left
                      · intro w'
                        go_simp
                        with_reducible rfl
                      rotate_left
                      · simp only [Act.put, List.setIfInBounds_toArray, List.set_cons_zero, List.set_cons_succ, i64_w, i32_w]
                        rfl
                      refine pure_ (i := 15) (N := some 5) (v := ?_) (a' := ?_) #[true, true, true, true, true, true, true, true, true, true, true, true, true, true, true, true] rfl rfl (any_of HT_.out (by kernel_rfl)) (fun _ _ _ h => h) (Or.inl ⟨by rfl, ?_⟩) ?_ ?_
                      rotate_left
                      · intro w'
                        go_simp
                        with_reducible rfl
                      rotate_left
                      · simp only [Act.put, List.setIfInBounds_toArray, List.set_cons_zero, List.set_cons_succ, i64_w, i32_w]
                        rfl
                      refine done_ (done_of HT_.out (by kernel_rfl)) ?_
                      try go_wp2
                      go_roundg k1
                      case measure => have := HK1.out; omega
                      case rel => exact ⟨((((x5_1 ++ t214) ++ (⟨#[32, 45, 62, 32]⟩ : ByteArray)) ++ t218) ++ (⟨#[10]⟩ : ByteArray)), (wrap64 (x6_1 + 1)), (by first | rfl | (simp; done) | (simp [*]; done)), (by first | rfl | (simp; done) | (simp [*]; done)), H', ⟨by have := HK1.out; omega⟩, ⟨by repeat (first | (with_reducible first | exact HB.out | apply below_alloc | apply pw_below_drewN | apply below_drew1) | exact HB.out)⟩⟩
                    · rw [if_neg c12] at H
                      exact absurd H (by simp)
                  · rw [if_neg c11] at H
                    exact absurd H (by simp)
                · rw [if_neg c9] at H
                  exact absurd H (by simp)
              · rw [if_neg c8] at H
                exact absurd H (by simp)
            · rw [if_neg c7] at H
              exact absurd H (by simp)
          · rw [if_neg c6] at H
            have c6b0 : (t215 == 0) = false := beq_eq_false_iff_ne.mpr c6
            have c6b1 : (t215 != 0) = true := bne_iff_ne.mpr c6
            replace H := Option.bind_eq_some_iff.mp H
            obtain ⟨t219, A160, H⟩ := H
            replace H : (if 2 + t219.size ≤ 9223372036854775807 then (if x5_1.size + ((⟨#[63, 32]⟩ : ByteArray) ++ t219).size ≤ 9223372036854775807 then (if (x5_1 ++ ((⟨#[63, 32]⟩ : ByteArray) ++ t219)).size + 4 ≤ 9223372036854775807 then (if x6_1 < (l1.length : Int) then ((pestleref54_Reply.f k1 ((rd_T49 l0 x6_1).f0) ((rd_T49 l0 x6_1).f1) ((rd_T49 l0 x6_1).f2) ((rd_T51 l1 x6_1).f0) ((rd_T51 l1 x6_1).f1) ((rd_T51 l1 x6_1).f2) ((rd_T51 l1 x6_1).f3)).bind fun t222 => (if ((x5_1 ++ ((⟨#[63, 32]⟩ : ByteArray) ++ t219)) ++ (⟨#[32, 45, 62, 32]⟩ : ByteArray)).size + t222.size ≤ 9223372036854775807 then (if (((x5_1 ++ ((⟨#[63, 32]⟩ : ByteArray) ++ t219)) ++ (⟨#[32, 45, 62, 32]⟩ : ByteArray)) ++ t222).size + 1 ≤ 9223372036854775807 then (pestleref54_Pairs.l0 k1 l0 l1 ((((x5_1 ++ ((⟨#[63, 32]⟩ : ByteArray) ++ t219)) ++ (⟨#[32, 45, 62, 32]⟩ : ByteArray)) ++ t222) ++ (⟨#[10]⟩ : ByteArray)) (wrap64 (x6_1 + 1))) else (none)) else (none))) else (none)) else (none)) else (none)) else (none)) = some r := H
            have A16 := Aside0.mk A160
            clear A160
            by_cases c17 : 2 + t219.size ≤ 9223372036854775807
            · rw [if_pos c17] at H
              have c17b0 := eq_true c17
              have c17b1 : decide (2 + t219.size ≤ 9223372036854775807) = true := decide_eq_true c17
              try have c17b2 : (9223372036854775807 < 2 + t219.size) = False := eq_false (Nat.not_lt.2 c17)
              by_cases c18 : x5_1.size + ((⟨#[63, 32]⟩ : ByteArray) ++ t219).size ≤ 9223372036854775807
              · rw [if_pos c18] at H
                have c18b0 := eq_true c18
                have c18b1 : decide (x5_1.size + ((⟨#[63, 32]⟩ : ByteArray) ++ t219).size ≤ 9223372036854775807) = true := decide_eq_true c18
                try have c18b2 : (9223372036854775807 < x5_1.size + ((⟨#[63, 32]⟩ : ByteArray) ++ t219).size) = False := eq_false (Nat.not_lt.2 c18)
                have c18b3 := c18b0
                simp only [ByteArray.size_append, show (⟨#[63, 32]⟩ : ByteArray).size = 2 from rfl] at c18b3
                have c18b5 := c18b2
                simp only [ByteArray.size_append, show (⟨#[63, 32]⟩ : ByteArray).size = 2 from rfl] at c18b5
                by_cases c19 : (x5_1 ++ ((⟨#[63, 32]⟩ : ByteArray) ++ t219)).size + 4 ≤ 9223372036854775807
                · rw [if_pos c19] at H
                  have c19b0 := eq_true c19
                  have c19b1 : decide ((x5_1 ++ ((⟨#[63, 32]⟩ : ByteArray) ++ t219)).size + 4 ≤ 9223372036854775807) = true := decide_eq_true c19
                  try have c19b2 : (9223372036854775807 < (x5_1 ++ ((⟨#[63, 32]⟩ : ByteArray) ++ t219)).size + 4) = False := eq_false (Nat.not_lt.2 c19)
                  have c19b3 := c19b0
                  simp only [ByteArray.size_append, show (⟨#[63, 32]⟩ : ByteArray).size = 2 from rfl] at c19b3
                  have c19b5 := c19b2
                  simp only [ByteArray.size_append, show (⟨#[63, 32]⟩ : ByteArray).size = 2 from rfl] at c19b5
                  by_cases c20 : x6_1 < (l1.length : Int)
                  · rw [if_pos c20] at H
                    have c20b0 : decide (x6_1 < (l1.length : Int)) = true := decide_eq_true c20
                    clear c20
                    replace H := Option.bind_eq_some_iff.mp H
                    obtain ⟨t222, A210, H⟩ := H
                    replace H : (if ((x5_1 ++ ((⟨#[63, 32]⟩ : ByteArray) ++ t219)) ++ (⟨#[32, 45, 62, 32]⟩ : ByteArray)).size + t222.size ≤ 9223372036854775807 then (if (((x5_1 ++ ((⟨#[63, 32]⟩ : ByteArray) ++ t219)) ++ (⟨#[32, 45, 62, 32]⟩ : ByteArray)) ++ t222).size + 1 ≤ 9223372036854775807 then (pestleref54_Pairs.l0 k1 l0 l1 ((((x5_1 ++ ((⟨#[63, 32]⟩ : ByteArray) ++ t219)) ++ (⟨#[32, 45, 62, 32]⟩ : ByteArray)) ++ t222) ++ (⟨#[10]⟩ : ByteArray)) (wrap64 (x6_1 + 1))) else (none)) else (none)) = some r := H
                    have A21 := Aside0.mk A210
                    clear A210
                    by_cases c22 : ((x5_1 ++ ((⟨#[63, 32]⟩ : ByteArray) ++ t219)) ++ (⟨#[32, 45, 62, 32]⟩ : ByteArray)).size + t222.size ≤ 9223372036854775807
                    · rw [if_pos c22] at H
                      have c22b0 := eq_true c22
                      have c22b1 : decide (((x5_1 ++ ((⟨#[63, 32]⟩ : ByteArray) ++ t219)) ++ (⟨#[32, 45, 62, 32]⟩ : ByteArray)).size + t222.size ≤ 9223372036854775807) = true := decide_eq_true c22
                      try have c22b2 : (9223372036854775807 < ((x5_1 ++ ((⟨#[63, 32]⟩ : ByteArray) ++ t219)) ++ (⟨#[32, 45, 62, 32]⟩ : ByteArray)).size + t222.size) = False := eq_false (Nat.not_lt.2 c22)
                      have c22b3 := c22b0
                      simp only [ByteArray.size_append, show (⟨#[63, 32]⟩ : ByteArray).size = 2 from rfl, show (⟨#[32, 45, 62, 32]⟩ : ByteArray).size = 4 from rfl] at c22b3
                      have c22b5 := c22b2
                      simp only [ByteArray.size_append, show (⟨#[63, 32]⟩ : ByteArray).size = 2 from rfl, show (⟨#[32, 45, 62, 32]⟩ : ByteArray).size = 4 from rfl] at c22b5
                      by_cases c23 : (((x5_1 ++ ((⟨#[63, 32]⟩ : ByteArray) ++ t219)) ++ (⟨#[32, 45, 62, 32]⟩ : ByteArray)) ++ t222).size + 1 ≤ 9223372036854775807
                      · rw [if_pos c23] at H
                        have c23b0 := eq_true c23
                        have c23b1 : decide ((((x5_1 ++ ((⟨#[63, 32]⟩ : ByteArray) ++ t219)) ++ (⟨#[32, 45, 62, 32]⟩ : ByteArray)) ++ t222).size + 1 ≤ 9223372036854775807) = true := decide_eq_true c23
                        try have c23b2 : (9223372036854775807 < (((x5_1 ++ ((⟨#[63, 32]⟩ : ByteArray) ++ t219)) ++ (⟨#[32, 45, 62, 32]⟩ : ByteArray)) ++ t222).size + 1) = False := eq_false (Nat.not_lt.2 c23)
                        have c23b3 := c23b0
                        simp only [ByteArray.size_append, show (⟨#[63, 32]⟩ : ByteArray).size = 2 from rfl, show (⟨#[32, 45, 62, 32]⟩ : ByteArray).size = 4 from rfl] at c23b3
                        have c23b5 := c23b2
                        simp only [ByteArray.size_append, show (⟨#[63, 32]⟩ : ByteArray).size = 2 from rfl, show (⟨#[32, 45, 62, 32]⟩ : ByteArray).size = 4 from rfl] at c23b5
                        have H' := Aside0.mk H
                        clear H
                        have p213 : 0 ≤ (x6_1 : Int) := of_decide_eq_true (by first | (with_reducible assumption) | assumption)
                        have q213 : x6_1 < (l0.length : Int) := of_decide_eq_true (by first | (with_reducible assumption) | assumption)
                        obtain ⟨ad213, e213, hx213_0, hx213_1, hx213_2⟩ := at_T49 HR0.out x6_1 p213 q213
                        cases e213
                        replace hx213_0 := (HB.out.cell (World.block_lt_of_cell? w _ hx213_0)).trans hx213_0
                        replace hx213_1 := (HB.out.cell (World.block_lt_of_cell? w _ hx213_1)).trans hx213_1
                        replace hx213_2 := (HB.out.cell (World.block_lt_of_cell? w _ hx213_2)).trans hx213_2
                        replace p213 := eq_true p213
                        replace q213 := eq_true q213
                        try go_wp2_with (first | ((with_reducible refine gate_callee (f := 58) rfl ?_); refine goesL_ (some 20) rfl rfl Try.func58 (by kernel_rfl) rfl #[.agg #[.int .i64 ((rd_T49 l0 x6_1).f0), .string ((rd_T49 l0 x6_1).f1), .string ((rd_T49 l0 x6_1).f2)]] rfl (by (try simp only [List.map_toArray, List.map_cons, List.map_nil]); first | done | rfl | (simp only [List.length_drop, List.length_take]; rfl)) ?_; (with_reducible refine (pestleref53_Line.calls k1 ((rd_T49 l0 x6_1).f0) ((rd_T49 l0 x6_1).f1) ((rd_T49 l0 x6_1).f2) t214 t215 _ A5.out).mono ?_); rintro e w24 ⟨rfl, hb⟩; refine ⟨_, rfl, ?_⟩; have n0_ := Aside0.mk (below_step (by repeat (first | (with_reducible first | exact HB.out | apply below_alloc | apply pw_below_drewN | apply below_drew1) | exact HB.out)) hb); clear HB; have HB := n0_; clear n0_; (try clear hb); (try clear hb2); (try clear hk); (try clear hi)) | ((with_reducible refine gate_callee (f := 33) rfl ?_); refine goesL_ (some 26) rfl rfl Try.func33 (by kernel_rfl) rfl #[.int .i64 t215] rfl (by (try simp only [List.map_toArray, List.map_cons, List.map_nil]); first | done | rfl | (simp only [List.length_drop, List.length_take]; rfl)) ?_; (with_reducible refine (pestleref54_Name.calls t215 t219 _ A16.out).mono ?_); rintro e w25 ⟨rfl, hb⟩; refine ⟨_, rfl, ?_⟩; have n0_ := Aside0.mk (below_step (by repeat (first | (with_reducible first | exact HB.out | apply below_alloc | apply pw_below_drewN | apply below_drew1) | exact HB.out)) hb); clear HB; have HB := n0_; clear n0_; (try clear hb); (try clear hb2); (try clear hk); (try clear hi)))
                        have n0_ := Aside0.mk (below_drew1 HB.out)
                        clear HB
                        have HB := n0_
                        clear n0_
                        have p220 : 0 ≤ (x6_1 : Int) := of_decide_eq_true (by first | (with_reducible assumption) | assumption)
                        have q220 : x6_1 < (l0.length : Int) := of_decide_eq_true (by first | (with_reducible assumption) | assumption)
                        obtain ⟨ad220, e220, hx220_0, hx220_1, hx220_2⟩ := at_T49 HR0.out x6_1 p220 q220
                        have hw220_2 := hx220_2
                        have hw220_1 := hx220_1
                        have hw220_0 := hx220_0
                        obtain rfl : ad213 = ad220 := (by injection e220)
                        replace hx220_0 := (HB.out.cell (World.block_lt_of_cell? w _ hx220_0)).trans hx220_0
                        replace hx220_1 := (HB.out.cell (World.block_lt_of_cell? w _ hx220_1)).trans hx220_1
                        replace hx220_2 := (HB.out.cell (World.block_lt_of_cell? w _ hx220_2)).trans hx220_2
                        replace p220 := eq_true p220
                        replace q220 := eq_true q220
                        have p221 : 0 ≤ (x6_1 : Int) := of_decide_eq_true (by first | (with_reducible assumption) | assumption)
                        have q221 : x6_1 < (l1.length : Int) := of_decide_eq_true (by first | (with_reducible assumption) | assumption)
                        obtain ⟨ad221, e221, hx221_0, hx221_1, hx221_2, hx221_3⟩ := at_T51 HR1.out x6_1 p221 q221
                        have hw221_3 := hx221_3
                        have hw221_2 := hx221_2
                        have hw221_1 := hx221_1
                        have hw221_0 := hx221_0
                        cases e221
                        replace hx221_0 := (HB.out.cell (World.block_lt_of_cell? w _ hx221_0)).trans hx221_0
                        replace hx221_1 := (HB.out.cell (World.block_lt_of_cell? w _ hx221_1)).trans hx221_1
                        replace hx221_2 := (HB.out.cell (World.block_lt_of_cell? w _ hx221_2)).trans hx221_2
                        replace hx221_3 := (HB.out.cell (World.block_lt_of_cell? w _ hx221_3)).trans hx221_3
                        replace p221 := eq_true p221
                        replace q221 := eq_true q221
                        refine start_ (n := 16) (S := fun w' => w'.cell? (ad213.add ((x6_1).toNat * 3)) = some (.int .i64 ((rd_T49 l0 x6_1).f0)) ∧ w'.cell? ⟨(ad213.add ((x6_1).toNat * 3)).block, (ad213.add ((x6_1).toNat * 3)).off + 1, none⟩ = some (.string ((rd_T49 l0 x6_1).f1)) ∧ w'.cell? ⟨(ad213.add ((x6_1).toNat * 3)).block, (ad213.add ((x6_1).toNat * 3)).off + 2, none⟩ = some (.string ((rd_T49 l0 x6_1).f2)) ∧ w'.cell? (ad221.add ((x6_1).toNat * 4)) = some (.int .i64 ((rd_T51 l1 x6_1).f0)) ∧ w'.cell? ⟨(ad221.add ((x6_1).toNat * 4)).block, (ad221.add ((x6_1).toNat * 4)).off + 1, none⟩ = some (.string ((rd_T51 l1 x6_1).f1)) ∧ w'.cell? ⟨(ad221.add ((x6_1).toNat * 4)).block, (ad221.add ((x6_1).toNat * 4)).off + 2, none⟩ = some (.bool ((rd_T51 l1 x6_1).f2)) ∧ w'.cell? ⟨(ad221.add ((x6_1).toNat * 4)).block, (ad221.add ((x6_1).toNat * 4)).off + 3, none⟩ = some (.int .i64 ((rd_T51 l1 x6_1).f3))) (ds := []) #[false, false, false, false, false, false, false, false, false, false, false, false, false, false, false, false] (by kernel_rfl) rfl rfl ⟨((HB.out.cell (World.block_lt_of_cell? w _ hw220_0)).trans hw220_0), ((HB.out.cell (World.block_lt_of_cell? w _ hw220_1)).trans hw220_1), ((HB.out.cell (World.block_lt_of_cell? w _ hw220_2)).trans hw220_2), ((HB.out.cell (World.block_lt_of_cell? w _ hw221_0)).trans hw221_0), ((HB.out.cell (World.block_lt_of_cell? w _ hw221_1)).trans hw221_1), ((HB.out.cell (World.block_lt_of_cell? w _ hw221_2)).trans hw221_2), ((HB.out.cell (World.block_lt_of_cell? w _ hw221_3)).trans hw221_3)⟩ (fun hHeld => ?_); refine with_tabW pestleref54_Pairs.tab8 pestleref54_Pairs.bits8 (fun HT_ HW_ => ?_)
                        generalize w25.drew = w26 at HB hx220_0 hx220_1 hx220_2 hx221_0 hx221_1 hx221_2 hx221_3 hHeld ⊢
                        refine pure_ (i := 0) (N := some 28) (v := ?_) (a' := ?_) #[true, false, false, false, false, false, false, false, false, false, false, false, false, false, false, false] rfl rfl (any_of HT_.out (by kernel_rfl)) (fun _ _ _ h => h) (Or.inl ⟨by rfl, ?_⟩) ?_ ?_
                        rotate_left
                        · intro w'
                          go_simp
                          with_reducible rfl
                        rotate_left
                        · simp only [Act.put, List.setIfInBounds_toArray, List.set_cons_zero, List.set_cons_succ, i64_w, i32_w]
                          rfl
                        refine pure_ (i := 1) (N := some 29) (v := ?_) (a' := ?_) #[true, true, false, false, false, false, false, false, false, false, false, false, false, false, false, false] rfl rfl (any_of HT_.out (by kernel_rfl)) (fun _ _ _ h => h) (Or.inl ⟨by rfl, ?_⟩) ?_ ?_
                        rotate_left
                        · intro w'
                          go_simp
                          with_reducible rfl
                        rotate_left
                        · simp only [Act.put, List.setIfInBounds_toArray, List.set_cons_zero, List.set_cons_succ, i64_w, i32_w]
                          rfl
                        refine pure_ (i := 2) (N := some 30) (v := ?_) (a' := ?_) #[true, true, true, false, false, false, false, false, false, false, false, false, false, false, false, false] rfl rfl (any_of HT_.out (by kernel_rfl)) (fun _ _ _ h => h) (Or.inl ⟨by rfl, ?_⟩) ?_ ?_
                        rotate_left
                        · intro w'
                          go_simp
                          with_reducible rfl
                        rotate_left
                        · simp only [Act.put, List.setIfInBounds_toArray, List.set_cons_zero, List.set_cons_succ, i64_w, i32_w]
                          rfl
                        refine pure_ (i := 3) (N := some 31) (v := ?_) (a' := ?_) #[true, true, true, true, false, false, false, false, false, false, false, false, false, false, false, false] rfl rfl (any_of HT_.out (by kernel_rfl)) (fun _ _ _ h => h) (Or.inl ⟨by rfl, ?_⟩) ?_ ?_
                        rotate_left
                        · intro w'
                          go_simp
                          with_reducible rfl
                        rotate_left
                        · simp only [Act.put, List.setIfInBounds_toArray, List.set_cons_zero, List.set_cons_succ, i64_w, i32_w]
                          rfl
                        refine pure_ (i := 4) (N := some 32) (v := ?_) (a' := ?_) #[true, true, true, true, true, false, false, false, false, false, false, false, false, false, false, false] rfl rfl (any_of HT_.out (by kernel_rfl)) (fun _ _ _ h => h) (Or.inl ⟨by rfl, ?_⟩) ?_ ?_
                        rotate_left
                        · intro w'
                          go_simp
                          with_reducible rfl
                        rotate_left
                        · simp only [Act.put, List.setIfInBounds_toArray, List.set_cons_zero, List.set_cons_succ, i64_w, i32_w]
                          rfl
                        refine pure_ (i := 5) (N := some 33) (v := ?_) (a' := ?_) #[true, true, true, true, true, true, false, false, false, false, false, false, false, false, false, false] rfl rfl (any_of HT_.out (by kernel_rfl)) (fun _ _ _ h => h) (Or.inl ⟨by rfl, ?_⟩) ?_ ?_
                        rotate_left
                        · intro w'
                          go_simp
                          with_reducible rfl
                        rotate_left
                        · simp only [Act.put, List.setIfInBounds_toArray, List.set_cons_zero, List.set_cons_succ, i64_w, i32_w]
                          rfl
                        refine pure_ (i := 6) (N := some 34) (v := ?_) (a' := ?_) #[true, true, true, true, true, true, true, false, false, false, false, false, false, false, false, false] rfl rfl (any_of HT_.out (by kernel_rfl)) (fun _ _ _ h => h) (Or.inl ⟨by rfl, ?_⟩) ?_ ?_
                        rotate_left
                        · intro w'
                          go_simp
                          with_reducible rfl
                        rotate_left
                        · simp only [Act.put, List.setIfInBounds_toArray, List.set_cons_zero, List.set_cons_succ, i64_w, i32_w]
                          rfl
                        refine pure_ (i := 8) (N := some 36) (v := ?_) (a' := ?_) #[true, true, true, true, true, true, true, false, true, false, false, false, false, false, false, false] rfl rfl (any_of HT_.out (by kernel_rfl)) (fun _ _ _ h => h) (Or.inl ⟨by rfl, ?_⟩) ?_ ?_
                        rotate_left
                        · intro w'
                          go_simp
                          with_reducible rfl
                        rotate_left
                        · simp only [Act.put, List.setIfInBounds_toArray, List.set_cons_zero, List.set_cons_succ, i64_w, i32_w]
                          rfl
                        refine pure_ (i := 9) (N := some 37) (v := ?_) (a' := ?_) #[true, true, true, true, true, true, true, false, true, true, false, false, false, false, false, false] rfl rfl (any_of HT_.out (by kernel_rfl)) (fun _ _ _ h => h) (Or.inl ⟨by rfl, ?_⟩) ?_ ?_
                        rotate_left
                        · intro w'
                          go_simp
                          with_reducible rfl
                        rotate_left
                        · simp only [Act.put, List.setIfInBounds_toArray, List.set_cons_zero, List.set_cons_succ, i64_w, i32_w]
                          rfl
                        refine pure_ (i := 10) (N := some 38) (v := ?_) (a' := ?_) #[true, true, true, true, true, true, true, false, true, true, true, false, false, false, false, false] rfl rfl (any_of HT_.out (by kernel_rfl)) (fun _ _ _ h => h) (Or.inl ⟨by rfl, ?_⟩) ?_ ?_
                        rotate_left
                        · intro w'
                          go_simp
                          with_reducible rfl
                        rotate_left
                        · simp only [Act.put, List.setIfInBounds_toArray, List.set_cons_zero, List.set_cons_succ, i64_w, i32_w]
                          rfl
                        refine take_ (i := 7) (N := some 35) (v := ?_) (a' := ?_) #[true, true, true, true, true, true, true, true, true, true, true, false, false, false, false, false] rfl rfl (take_ofW HT_.out HW_.out (by kernel_rfl)) (fun _ _ _ h => h) (Or.inl ⟨by rfl, ?_⟩) hHeld ?_ ?_
                        rotate_left
                        · rintro w' ⟨s0, s1, s2, s3, s4, s5, s6⟩
                          go_simp
                          with_reducible rfl
                        rotate_left
                        · simp only [Act.put, List.setIfInBounds_toArray, List.set_cons_zero, List.set_cons_succ, i64_w, i32_w]
                          rfl
                        refine take_ (i := 11) (N := some 39) (v := ?_) (a' := ?_) #[true, true, true, true, true, true, true, true, true, true, true, true, false, false, false, false] rfl rfl (take_ofW HT_.out HW_.out (by kernel_rfl)) (fun _ _ _ h => h) (Or.inl ⟨by rfl, ?_⟩) hHeld ?_ ?_
                        rotate_left
                        · rintro w' ⟨s0, s1, s2, s3, s4, s5, s6⟩
                          go_simp
                          with_reducible rfl
                        rotate_left
                        · simp only [Act.put, List.setIfInBounds_toArray, List.set_cons_zero, List.set_cons_succ, i64_w, i32_w]
                          rfl
                        refine one_ (i := 12) (N := some 40) #[true, true, true, true, true, true, true, true, true, true, true, true, true, false, false, false] rfl rfl (one_of HT_.out (by kernel_rfl)) (by decide) (fun K hK => ?_)
                        refine goes_ Try.func29 (by kernel_rfl) rfl #[.agg #[.int .i64 ((rd_T49 l0 x6_1).f0), .string ((rd_T49 l0 x6_1).f1), .string ((rd_T49 l0 x6_1).f2)], .agg #[.int .i64 ((rd_T51 l1 x6_1).f0), .string ((rd_T51 l1 x6_1).f1), .bool ((rd_T51 l1 x6_1).f2), .int .i64 ((rd_T51 l1 x6_1).f3)]] (by rfl) rfl rfl (by (try simp only [List.map_toArray, List.map_cons, List.map_nil]); first | done | rfl | (simp only [List.length_drop, List.length_take]; rfl)) ?_
                        with_reducible refine (pestleref54_Reply.calls k1 ((rd_T49 l0 x6_1).f0) ((rd_T49 l0 x6_1).f1) ((rd_T49 l0 x6_1).f2) ((rd_T51 l1 x6_1).f0) ((rd_T51 l1 x6_1).f1) ((rd_T51 l1 x6_1).f2) ((rd_T51 l1 x6_1).f3) t222 _ A21.out).mono ?_
                        rintro e w27 ⟨rfl, hb⟩
                        refine ⟨_, rfl, ?_⟩
                        have n0_ := Aside0.mk (below_step (by repeat (first | (with_reducible first | exact HB.out | apply below_alloc | apply pw_below_drewN | apply below_drew1) | exact HB.out)) hb)
                        clear HB
                        have HB := n0_
                        clear n0_
                        (try clear hb)
                        (try clear hb2)
                        (try clear hk)
                        (try clear hi)
                        refine hK.out _ _ ⟨((HB.out.cell (World.block_lt_of_cell? w _ hw220_0)).trans hw220_0), ((HB.out.cell (World.block_lt_of_cell? w _ hw220_1)).trans hw220_1), ((HB.out.cell (World.block_lt_of_cell? w _ hw220_2)).trans hw220_2), ((HB.out.cell (World.block_lt_of_cell? w _ hw221_0)).trans hw221_0), ((HB.out.cell (World.block_lt_of_cell? w _ hw221_1)).trans hw221_1), ((HB.out.cell (World.block_lt_of_cell? w _ hw221_2)).trans hw221_2), ((HB.out.cell (World.block_lt_of_cell? w _ hw221_3)).trans hw221_3)⟩ (fun hHeld => ?_)
                        clear hK K
                        refine norm_ (a' := ?_) ?_ ?_
                        rotate_left
                        · show Act.put _ (some 40) _ = _
                          simp only [Act.put, List.setIfInBounds_toArray, List.set_cons_zero, List.set_cons_succ, i64_w, i32_w]
                          rfl
                        refine pure_ (i := 13) (N := some 41) (v := ?_) (a' := ?_) #[true, true, true, true, true, true, true, true, true, true, true, true, true, true, false, false] rfl rfl (any_of HT_.out (by kernel_rfl)) (fun _ _ _ h => h) (Or.inl ⟨by rfl, ?_⟩) ?_ ?_
                        rotate_left
                        · intro w'
                          go_simp
                          with_reducible rfl
                        rotate_left
                        · simp only [Act.put, List.setIfInBounds_toArray, List.set_cons_zero, List.set_cons_succ, i64_w, i32_w]
                          rfl
                        refine pure_ (i := 14) (N := some 42) (v := ?_) (a' := ?_) #[true, true, true, true, true, true, true, true, true, true, true, true, true, true, true, false] rfl rfl (any_of HT_.out (by kernel_rfl)) (fun _ _ _ h => h) (Or.inl ⟨by rfl, ?_⟩) ?_ ?_
                        rotate_left
                        · intro w'
                          go_simp
                          with_reducible rfl
                        rotate_left
                        · simp only [Act.put, List.setIfInBounds_toArray, List.set_cons_zero, List.set_cons_succ, i64_w, i32_w]
                          rfl
                        refine pure_ (i := 15) (N := some 5) (v := ?_) (a' := ?_) #[true, true, true, true, true, true, true, true, true, true, true, true, true, true, true, true] rfl rfl (any_of HT_.out (by kernel_rfl)) (fun _ _ _ h => h) (Or.inl ⟨by rfl, ?_⟩) ?_ ?_
                        rotate_left
                        · intro w'
                          go_simp
                          with_reducible rfl
                        rotate_left
                        · simp only [Act.put, List.setIfInBounds_toArray, List.set_cons_zero, List.set_cons_succ, i64_w, i32_w]
                          rfl
                        refine done_ (done_of HT_.out (by kernel_rfl)) ?_
                        try go_wp2
                        go_roundg k1
                        case measure => have := HK1.out; omega
                        case rel => exact ⟨((((x5_1 ++ ((⟨#[63, 32]⟩ : ByteArray) ++ t219)) ++ (⟨#[32, 45, 62, 32]⟩ : ByteArray)) ++ t222) ++ (⟨#[10]⟩ : ByteArray)), (wrap64 (x6_1 + 1)), (by first | rfl | (simp; done) | (simp [*]; done)), (by first | rfl | (simp; done) | (simp [*]; done)), H', ⟨by have := HK1.out; omega⟩, ⟨by repeat (first | (with_reducible first | exact HB.out | apply below_alloc | apply pw_below_drewN | apply below_drew1) | exact HB.out)⟩⟩
                      · rw [if_neg c23] at H
                        exact absurd H (by simp)
                    · rw [if_neg c22] at H
                      exact absurd H (by simp)
                  · rw [if_neg c20] at H
                    exact absurd H (by simp)
                · rw [if_neg c19] at H
                  exact absurd H (by simp)
              · rw [if_neg c18] at H
                exact absurd H (by simp)
            · rw [if_neg c17] at H
              exact absurd H (by simp)
        · rw [if_neg c4] at H
          exact absurd H (by simp)
      · rw [if_neg c3] at H
        have c3b0 : decide (x6_1 < (l0.length : Int)) = false := decide_eq_false c3
        clear c3
        obtain rfl := Option.some.inj H
        go_wp2
        go_ret
        exact ⟨by first | rfl | (simp [errW_none, errW_some] <;> rfl) | (simp [*, errW_none, errW_some] <;> rfl), by repeat (first | (with_reducible first | exact HB.out | apply below_alloc | apply pw_below_drewN | apply below_drew1) | exact HB.out)⟩

end Go.Proofs.Ytoknoghdnedmhaa.Pall
