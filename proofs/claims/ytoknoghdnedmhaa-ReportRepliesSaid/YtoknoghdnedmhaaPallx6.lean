-- PRINTED by print.py (a twelfth state) out of the translation. Not trusted: Lean checks it.
import Derived.Test.YtoknoghdnedmhaaPallx0
import Derived.Test.YtoknoghdnedmhaaPallx3
import Derived.Test.YtoknoghdnedmhaaPallx5
namespace Go.Proofs.Ytoknoghdnedmhaa.Pall
open Go.RowKit Go.Proofs.YtoknoghdnedmhaaW.PrintWords Go.Proofs.YtoknoghdnedmhaaW.PrintLast Go.Proofs.YtoknoghdnedmhaaW.PrintMore
attribute [local go_sem] max2_int min2_int max_two min_two max_three min_three max_four min_four   -- for this text's walks alone
set_option linter.unusedVariables false
set_option linter.unusedSimpArgs false

/-! ### pestleref54_Params: function 31 -/
def pestleref54_Params.f (k : Nat) (a0_0 : Int) (a0_1 : Int) (a0_2 : Int) (a0_3 : Int) (a0_4 : Int) : Option (ByteArray) := (pestleref44_Id.f a0_0).bind fun t216 => (if t216.toList = ([] : List UInt8) then (some (⟨#[63]⟩ : ByteArray)) else (if t216.size + 6 ≤ 9223372036854775807 then ((pestleref54_num.f k a0_1).bind fun t217 => (if (t216 ++ (⟨#[32, 116, 105, 109, 101, 32]⟩ : ByteArray)).size + t217.size ≤ 9223372036854775807 then (if ((t216 ++ (⟨#[32, 116, 105, 109, 101, 32]⟩ : ByteArray)) ++ t217).size + 8 ≤ 9223372036854775807 then ((pestleref54_num.f k a0_2).bind fun t218 => (if (((t216 ++ (⟨#[32, 116, 105, 109, 101, 32]⟩ : ByteArray)) ++ t217) ++ (⟨#[32, 109, 101, 109, 111, 114, 121, 32]⟩ : ByteArray)).size + t218.size ≤ 9223372036854775807 then (if ((((t216 ++ (⟨#[32, 116, 105, 109, 101, 32]⟩ : ByteArray)) ++ t217) ++ (⟨#[32, 109, 101, 109, 111, 114, 121, 32]⟩ : ByteArray)) ++ t218).size + 7 ≤ 9223372036854775807 then ((pestleref54_num.f k a0_3).bind fun t219 => (if (((((t216 ++ (⟨#[32, 116, 105, 109, 101, 32]⟩ : ByteArray)) ++ t217) ++ (⟨#[32, 109, 101, 109, 111, 114, 121, 32]⟩ : ByteArray)) ++ t218) ++ (⟨#[32, 108, 97, 110, 101, 115, 32]⟩ : ByteArray)).size + t219.size ≤ 9223372036854775807 then (if ((((((t216 ++ (⟨#[32, 116, 105, 109, 101, 32]⟩ : ByteArray)) ++ t217) ++ (⟨#[32, 109, 101, 109, 111, 114, 121, 32]⟩ : ByteArray)) ++ t218) ++ (⟨#[32, 108, 97, 110, 101, 115, 32]⟩ : ByteArray)) ++ t219).size + 6 ≤ 9223372036854775807 then ((pestleref54_num.f k a0_4).bind fun t220 => (if (((((((t216 ++ (⟨#[32, 116, 105, 109, 101, 32]⟩ : ByteArray)) ++ t217) ++ (⟨#[32, 109, 101, 109, 111, 114, 121, 32]⟩ : ByteArray)) ++ t218) ++ (⟨#[32, 108, 97, 110, 101, 115, 32]⟩ : ByteArray)) ++ t219) ++ (⟨#[32, 115, 105, 122, 101, 32]⟩ : ByteArray)).size + t220.size ≤ 9223372036854775807 then (some ((((((((t216 ++ (⟨#[32, 116, 105, 109, 101, 32]⟩ : ByteArray)) ++ t217) ++ (⟨#[32, 109, 101, 109, 111, 114, 121, 32]⟩ : ByteArray)) ++ t218) ++ (⟨#[32, 108, 97, 110, 101, 115, 32]⟩ : ByteArray)) ++ t219) ++ (⟨#[32, 115, 105, 122, 101, 32]⟩ : ByteArray)) ++ t220)) else (none))) else (none)) else (none))) else (none)) else (none))) else (none)) else (none))) else (none)))
theorem pestleref54_Params.mono : ∀ a0 a1 a2 a3 a4 k, LeO (pestleref54_Params.f k a0 a1 a2 a3 a4) (pestleref54_Params.f (k + 1) a0 a1 a2 a3 a4) := by
  intro a0 a1 a2 a3 a4 k
  unfold pestleref54_Params.f
  repeat' first
      | (with_reducible exact pestleref54_num.mono _ _)
      | (with_reducible exact LeO.refl _)
      | (with_reducible exact LeO.none _)
      | (with_reducible refine LeO.ite ?_ ?_)
      | (with_reducible refine LeO.bind ?_ (fun _ => ?_))
      | exact pestleref54_num.mono _ _
      | exact LeO.none _
      | refine LeO.ite ?_ ?_
      | refine LeO.bind ?_ (fun _ => ?_)
def pestleref54_Params.T4 : Bool × List (List Nat × List Nat) := (true, [([], []), ([0], [0]), ([], []), ([2], [2]), ([3], [3]), ([1, 4], [1, 4]), ([5], [5]), ([], []), ([7], [7]), ([8, 4], [8]), ([6, 9], [6, 9]), ([10], [10]), ([], []), ([12], [12]), ([13, 9], [13]), ([11, 14], [11, 14]), ([15], [15]), ([], []), ([17], [17]), ([18, 14], [18]), ([16, 19], [16, 19]), ([20, 19, 0, 1, 2, 3, 4, 5, 6, 7, 8, 9, 10, 11, 12, 13, 14, 15, 16, 17, 18, 19, 20], [20])])
def pestleref54_Params.B4 : List Nat := [0, 1, 0, 4, 12, 31, 63, 0, 128, 412, 1023, 2047, 0, 4096, 13212, 32767, 65535, 0, 131072, 422812, 1048575, 2097151]
theorem pestleref54_Params.tab4 : rtab .any (opsOf Try.f31 4) = pestleref54_Params.T4 := by kernel_rfl
theorem pestleref54_Params.bits4 : waitsOk pestleref54_Params.T4.2 pestleref54_Params.B4 = true := by kernel_rfl
set_option maxHeartbeats 8000000 in
set_option maxRecDepth 100000 in
theorem pestleref54_Params.calls (k : Nat) (a0_0 : Int) (a0_1 : Int) (a0_2 : Int) (a0_3 : Int) (a0_4 : Int) (r : ByteArray) (w : World) (h : pestleref54_Params.f k a0_0 a0_1 a0_2 a0_3 a0_4 = some r) :
    Calls Try.prog 31 #[.agg #[.int .i64 a0_0, .int .i64 a0_1, .int .i64 a0_2, .int .i64 a0_3, .int .i64 a0_4]] w fun e w' => e = .returned (.string r) ∧ Below w.heap.size w w' := by
  have hu53 := Try.underlying53
  have HB := Aside0.mk (Below.refl w.heap.size w)
  have H : ((pestleref44_Id.f a0_0).bind fun t216 => (if t216.toList = ([] : List UInt8) then (some (⟨#[63]⟩ : ByteArray)) else (if t216.size + 6 ≤ 9223372036854775807 then ((pestleref54_num.f k a0_1).bind fun t217 => (if (t216 ++ (⟨#[32, 116, 105, 109, 101, 32]⟩ : ByteArray)).size + t217.size ≤ 9223372036854775807 then (if ((t216 ++ (⟨#[32, 116, 105, 109, 101, 32]⟩ : ByteArray)) ++ t217).size + 8 ≤ 9223372036854775807 then ((pestleref54_num.f k a0_2).bind fun t218 => (if (((t216 ++ (⟨#[32, 116, 105, 109, 101, 32]⟩ : ByteArray)) ++ t217) ++ (⟨#[32, 109, 101, 109, 111, 114, 121, 32]⟩ : ByteArray)).size + t218.size ≤ 9223372036854775807 then (if ((((t216 ++ (⟨#[32, 116, 105, 109, 101, 32]⟩ : ByteArray)) ++ t217) ++ (⟨#[32, 109, 101, 109, 111, 114, 121, 32]⟩ : ByteArray)) ++ t218).size + 7 ≤ 9223372036854775807 then ((pestleref54_num.f k a0_3).bind fun t219 => (if (((((t216 ++ (⟨#[32, 116, 105, 109, 101, 32]⟩ : ByteArray)) ++ t217) ++ (⟨#[32, 109, 101, 109, 111, 114, 121, 32]⟩ : ByteArray)) ++ t218) ++ (⟨#[32, 108, 97, 110, 101, 115, 32]⟩ : ByteArray)).size + t219.size ≤ 9223372036854775807 then (if ((((((t216 ++ (⟨#[32, 116, 105, 109, 101, 32]⟩ : ByteArray)) ++ t217) ++ (⟨#[32, 109, 101, 109, 111, 114, 121, 32]⟩ : ByteArray)) ++ t218) ++ (⟨#[32, 108, 97, 110, 101, 115, 32]⟩ : ByteArray)) ++ t219).size + 6 ≤ 9223372036854775807 then ((pestleref54_num.f k a0_4).bind fun t220 => (if (((((((t216 ++ (⟨#[32, 116, 105, 109, 101, 32]⟩ : ByteArray)) ++ t217) ++ (⟨#[32, 109, 101, 109, 111, 114, 121, 32]⟩ : ByteArray)) ++ t218) ++ (⟨#[32, 108, 97, 110, 101, 115, 32]⟩ : ByteArray)) ++ t219) ++ (⟨#[32, 115, 105, 122, 101, 32]⟩ : ByteArray)).size + t220.size ≤ 9223372036854775807 then (some ((((((((t216 ++ (⟨#[32, 116, 105, 109, 101, 32]⟩ : ByteArray)) ++ t217) ++ (⟨#[32, 109, 101, 109, 111, 114, 121, 32]⟩ : ByteArray)) ++ t218) ++ (⟨#[32, 108, 97, 110, 101, 115, 32]⟩ : ByteArray)) ++ t219) ++ (⟨#[32, 115, 105, 122, 101, 32]⟩ : ByteArray)) ++ t220)) else (none))) else (none)) else (none))) else (none)) else (none))) else (none)) else (none))) else (none)))) = some r := h
  clear h
  replace H := Option.bind_eq_some_iff.mp H
  obtain ⟨t216, A20, H⟩ := H
  replace H : (if t216.toList = ([] : List UInt8) then (some (⟨#[63]⟩ : ByteArray)) else (if t216.size + 6 ≤ 9223372036854775807 then ((pestleref54_num.f k a0_1).bind fun t217 => (if (t216 ++ (⟨#[32, 116, 105, 109, 101, 32]⟩ : ByteArray)).size + t217.size ≤ 9223372036854775807 then (if ((t216 ++ (⟨#[32, 116, 105, 109, 101, 32]⟩ : ByteArray)) ++ t217).size + 8 ≤ 9223372036854775807 then ((pestleref54_num.f k a0_2).bind fun t218 => (if (((t216 ++ (⟨#[32, 116, 105, 109, 101, 32]⟩ : ByteArray)) ++ t217) ++ (⟨#[32, 109, 101, 109, 111, 114, 121, 32]⟩ : ByteArray)).size + t218.size ≤ 9223372036854775807 then (if ((((t216 ++ (⟨#[32, 116, 105, 109, 101, 32]⟩ : ByteArray)) ++ t217) ++ (⟨#[32, 109, 101, 109, 111, 114, 121, 32]⟩ : ByteArray)) ++ t218).size + 7 ≤ 9223372036854775807 then ((pestleref54_num.f k a0_3).bind fun t219 => (if (((((t216 ++ (⟨#[32, 116, 105, 109, 101, 32]⟩ : ByteArray)) ++ t217) ++ (⟨#[32, 109, 101, 109, 111, 114, 121, 32]⟩ : ByteArray)) ++ t218) ++ (⟨#[32, 108, 97, 110, 101, 115, 32]⟩ : ByteArray)).size + t219.size ≤ 9223372036854775807 then (if ((((((t216 ++ (⟨#[32, 116, 105, 109, 101, 32]⟩ : ByteArray)) ++ t217) ++ (⟨#[32, 109, 101, 109, 111, 114, 121, 32]⟩ : ByteArray)) ++ t218) ++ (⟨#[32, 108, 97, 110, 101, 115, 32]⟩ : ByteArray)) ++ t219).size + 6 ≤ 9223372036854775807 then ((pestleref54_num.f k a0_4).bind fun t220 => (if (((((((t216 ++ (⟨#[32, 116, 105, 109, 101, 32]⟩ : ByteArray)) ++ t217) ++ (⟨#[32, 109, 101, 109, 111, 114, 121, 32]⟩ : ByteArray)) ++ t218) ++ (⟨#[32, 108, 97, 110, 101, 115, 32]⟩ : ByteArray)) ++ t219) ++ (⟨#[32, 115, 105, 122, 101, 32]⟩ : ByteArray)).size + t220.size ≤ 9223372036854775807 then (some ((((((((t216 ++ (⟨#[32, 116, 105, 109, 101, 32]⟩ : ByteArray)) ++ t217) ++ (⟨#[32, 109, 101, 109, 111, 114, 121, 32]⟩ : ByteArray)) ++ t218) ++ (⟨#[32, 108, 97, 110, 101, 115, 32]⟩ : ByteArray)) ++ t219) ++ (⟨#[32, 115, 105, 122, 101, 32]⟩ : ByteArray)) ++ t220)) else (none))) else (none)) else (none))) else (none)) else (none))) else (none)) else (none))) else (none))) = some r := H
  have A2 := Aside0.mk A20
  clear A20
  by_cases c3 : t216.toList = ([] : List UInt8)
  · rw [if_pos c3] at H
    have c3b0 : (t216.toList == ([] : List UInt8)) = true := beq_iff_eq.mpr c3
    have c3b1 : (t216.toList != ([] : List UInt8)) = false := bne_eq_false_iff_eq.mpr c3
    clear c3
    obtain rfl := Option.some.inj H
    go_enter Try.func31, Try.ntmps31
    go_wp2_with (first | ((with_reducible refine gate_dst (N := 1) rfl ?_); refine box_event ?hg (N := 1) ?hd (cs := #[.int .i64 a0_0, .int .i64 a0_1, .int .i64 a0_2, .int .i64 a0_3, .int .i64 a0_4]) (t := 53) ?hr ?_; (case hd => rfl); (case hg => rfl); (case hr => first | (go_simp; done) | (go_simp; rfl)); intro gb215 hg w4 hbox hb; have n0_ := Aside0.mk (below_step (by repeat (first | (with_reducible first | exact HB.out | apply below_alloc | apply pw_below_drewN | apply below_drew1) | exact HB.out)) hb); have n1_ := Aside0.mk (hbox); have n2_ := Aside0.mk ((by rw [hg]; exact (below_size (by repeat (first | (with_reducible first | exact HB.out | apply below_alloc | apply pw_below_drewN | apply below_drew1) | exact HB.out))) : w.heap.size ≤ gb215)); have n3_ := Aside0.mk ((by rw [hg]; exact (below_size (by repeat (first | (with_reducible first | exact HB.out | apply below_alloc | apply pw_below_drewN | apply below_drew1) | exact HB.out))) : w.heap.size ≤ gb215)); clear HB; have HB := n0_; have BK215 := n1_; have GW215 := n2_; have GE215 := n3_; clear n0_ n1_ n2_ n3_; clear hb hbox hg; have hcz5_0 : w4.cell? ⟨gb215, 0, none⟩ = some (.int .i64 a0_0) := (blk_cell BK215.out 0).trans rfl; have hcz5_1 : w4.cell? ⟨gb215, 1, none⟩ = some (.int .i64 a0_1) := (blk_cell BK215.out 1).trans rfl; have hcz5_2 : w4.cell? ⟨gb215, 2, none⟩ = some (.int .i64 a0_2) := (blk_cell BK215.out 2).trans rfl; have hcz5_3 : w4.cell? ⟨gb215, 3, none⟩ = some (.int .i64 a0_3) := (blk_cell BK215.out 3).trans rfl; have hcz5_4 : w4.cell? ⟨gb215, 4, none⟩ = some (.int .i64 a0_4) := (blk_cell BK215.out 4).trans rfl; have hfz5_0 := blk_frozen BK215.out 0; have hfz5_1 := blk_frozen BK215.out 1; have hfz5_2 := blk_frozen BK215.out 2; have hfz5_3 := blk_frozen BK215.out 3; have hfz5_4 := blk_frozen BK215.out 4) | ((with_reducible refine gate_callee (f := 72) rfl ?_); refine goesL_ (some 6) rfl rfl Try.func72 (by kernel_rfl) rfl #[.int .i64 a0_0] rfl (by (try simp only [List.map_toArray, List.map_cons, List.map_nil]); first | done | rfl | (simp only [List.length_drop, List.length_take]; rfl)) ?_; (with_reducible refine (pestleref44_Id.calls a0_0 t216 _ A2.out).mono ?_); rintro e w6 ⟨rfl, hb⟩; refine ⟨_, rfl, ?_⟩; have n0_ := Aside0.mk (blk_below (g := gb215) (o := .cells #[.int .i64 a0_0, .int .i64 a0_1, .int .i64 a0_2, .int .i64 a0_3, .int .i64 a0_4] 53 (0, 0)) (by (with_reducible repeat (first | refine blk_drewN ?_ _ | refine blk_drew ?_ | refine blk_alloc ?_ _)); exact BK215.out) hb); have n1_ := Aside0.mk (below_step (by repeat (first | (with_reducible first | exact HB.out | apply below_alloc | apply pw_below_drewN | apply below_drew1 | refine below_set ?_ GE215.out) | exact HB.out)) hb); clear BK215; clear HB; have BK215 := n0_; have HB := n1_; clear n0_ n1_; (try clear hb); (try clear hb2); (try clear hk); (try clear hi)))
    go_ret
    exact ⟨by first | rfl | (simp [errW_none, errW_some] <;> rfl) | (simp [*, errW_none, errW_some] <;> rfl), by repeat (first | (with_reducible first | exact HB.out | apply below_alloc | apply pw_below_drewN | apply below_drew1 | refine below_set ?_ GE215.out) | exact HB.out)⟩
  · rw [if_neg c3] at H
    have c3b0 : (t216.toList == ([] : List UInt8)) = false := beq_eq_false_iff_ne.mpr c3
    have c3b1 : (t216.toList != ([] : List UInt8)) = true := bne_iff_ne.mpr c3
    by_cases c7 : t216.size + 6 ≤ 9223372036854775807
    · rw [if_pos c7] at H
      have c7b0 := eq_true c7
      have c7b1 : decide (t216.size + 6 ≤ 9223372036854775807) = true := decide_eq_true c7
      try have c7b2 : (9223372036854775807 < t216.size + 6) = False := eq_false (Nat.not_lt.2 c7)
      replace H := Option.bind_eq_some_iff.mp H
      obtain ⟨t217, A80, H⟩ := H
      replace H : (if (t216 ++ (⟨#[32, 116, 105, 109, 101, 32]⟩ : ByteArray)).size + t217.size ≤ 9223372036854775807 then (if ((t216 ++ (⟨#[32, 116, 105, 109, 101, 32]⟩ : ByteArray)) ++ t217).size + 8 ≤ 9223372036854775807 then ((pestleref54_num.f k a0_2).bind fun t218 => (if (((t216 ++ (⟨#[32, 116, 105, 109, 101, 32]⟩ : ByteArray)) ++ t217) ++ (⟨#[32, 109, 101, 109, 111, 114, 121, 32]⟩ : ByteArray)).size + t218.size ≤ 9223372036854775807 then (if ((((t216 ++ (⟨#[32, 116, 105, 109, 101, 32]⟩ : ByteArray)) ++ t217) ++ (⟨#[32, 109, 101, 109, 111, 114, 121, 32]⟩ : ByteArray)) ++ t218).size + 7 ≤ 9223372036854775807 then ((pestleref54_num.f k a0_3).bind fun t219 => (if (((((t216 ++ (⟨#[32, 116, 105, 109, 101, 32]⟩ : ByteArray)) ++ t217) ++ (⟨#[32, 109, 101, 109, 111, 114, 121, 32]⟩ : ByteArray)) ++ t218) ++ (⟨#[32, 108, 97, 110, 101, 115, 32]⟩ : ByteArray)).size + t219.size ≤ 9223372036854775807 then (if ((((((t216 ++ (⟨#[32, 116, 105, 109, 101, 32]⟩ : ByteArray)) ++ t217) ++ (⟨#[32, 109, 101, 109, 111, 114, 121, 32]⟩ : ByteArray)) ++ t218) ++ (⟨#[32, 108, 97, 110, 101, 115, 32]⟩ : ByteArray)) ++ t219).size + 6 ≤ 9223372036854775807 then ((pestleref54_num.f k a0_4).bind fun t220 => (if (((((((t216 ++ (⟨#[32, 116, 105, 109, 101, 32]⟩ : ByteArray)) ++ t217) ++ (⟨#[32, 109, 101, 109, 111, 114, 121, 32]⟩ : ByteArray)) ++ t218) ++ (⟨#[32, 108, 97, 110, 101, 115, 32]⟩ : ByteArray)) ++ t219) ++ (⟨#[32, 115, 105, 122, 101, 32]⟩ : ByteArray)).size + t220.size ≤ 9223372036854775807 then (some ((((((((t216 ++ (⟨#[32, 116, 105, 109, 101, 32]⟩ : ByteArray)) ++ t217) ++ (⟨#[32, 109, 101, 109, 111, 114, 121, 32]⟩ : ByteArray)) ++ t218) ++ (⟨#[32, 108, 97, 110, 101, 115, 32]⟩ : ByteArray)) ++ t219) ++ (⟨#[32, 115, 105, 122, 101, 32]⟩ : ByteArray)) ++ t220)) else (none))) else (none)) else (none))) else (none)) else (none))) else (none)) else (none)) = some r := H
      have A8 := Aside0.mk A80
      clear A80
      by_cases c9 : (t216 ++ (⟨#[32, 116, 105, 109, 101, 32]⟩ : ByteArray)).size + t217.size ≤ 9223372036854775807
      · rw [if_pos c9] at H
        have c9b0 := eq_true c9
        have c9b1 : decide ((t216 ++ (⟨#[32, 116, 105, 109, 101, 32]⟩ : ByteArray)).size + t217.size ≤ 9223372036854775807) = true := decide_eq_true c9
        try have c9b2 : (9223372036854775807 < (t216 ++ (⟨#[32, 116, 105, 109, 101, 32]⟩ : ByteArray)).size + t217.size) = False := eq_false (Nat.not_lt.2 c9)
        have c9b3 := c9b0
        simp only [ByteArray.size_append, show (⟨#[32, 116, 105, 109, 101, 32]⟩ : ByteArray).size = 6 from rfl] at c9b3
        have c9b5 := c9b2
        simp only [ByteArray.size_append, show (⟨#[32, 116, 105, 109, 101, 32]⟩ : ByteArray).size = 6 from rfl] at c9b5
        by_cases c10 : ((t216 ++ (⟨#[32, 116, 105, 109, 101, 32]⟩ : ByteArray)) ++ t217).size + 8 ≤ 9223372036854775807
        · rw [if_pos c10] at H
          have c10b0 := eq_true c10
          have c10b1 : decide (((t216 ++ (⟨#[32, 116, 105, 109, 101, 32]⟩ : ByteArray)) ++ t217).size + 8 ≤ 9223372036854775807) = true := decide_eq_true c10
          try have c10b2 : (9223372036854775807 < ((t216 ++ (⟨#[32, 116, 105, 109, 101, 32]⟩ : ByteArray)) ++ t217).size + 8) = False := eq_false (Nat.not_lt.2 c10)
          have c10b3 := c10b0
          simp only [ByteArray.size_append, show (⟨#[32, 116, 105, 109, 101, 32]⟩ : ByteArray).size = 6 from rfl] at c10b3
          have c10b5 := c10b2
          simp only [ByteArray.size_append, show (⟨#[32, 116, 105, 109, 101, 32]⟩ : ByteArray).size = 6 from rfl] at c10b5
          replace H := Option.bind_eq_some_iff.mp H
          obtain ⟨t218, A110, H⟩ := H
          replace H : (if (((t216 ++ (⟨#[32, 116, 105, 109, 101, 32]⟩ : ByteArray)) ++ t217) ++ (⟨#[32, 109, 101, 109, 111, 114, 121, 32]⟩ : ByteArray)).size + t218.size ≤ 9223372036854775807 then (if ((((t216 ++ (⟨#[32, 116, 105, 109, 101, 32]⟩ : ByteArray)) ++ t217) ++ (⟨#[32, 109, 101, 109, 111, 114, 121, 32]⟩ : ByteArray)) ++ t218).size + 7 ≤ 9223372036854775807 then ((pestleref54_num.f k a0_3).bind fun t219 => (if (((((t216 ++ (⟨#[32, 116, 105, 109, 101, 32]⟩ : ByteArray)) ++ t217) ++ (⟨#[32, 109, 101, 109, 111, 114, 121, 32]⟩ : ByteArray)) ++ t218) ++ (⟨#[32, 108, 97, 110, 101, 115, 32]⟩ : ByteArray)).size + t219.size ≤ 9223372036854775807 then (if ((((((t216 ++ (⟨#[32, 116, 105, 109, 101, 32]⟩ : ByteArray)) ++ t217) ++ (⟨#[32, 109, 101, 109, 111, 114, 121, 32]⟩ : ByteArray)) ++ t218) ++ (⟨#[32, 108, 97, 110, 101, 115, 32]⟩ : ByteArray)) ++ t219).size + 6 ≤ 9223372036854775807 then ((pestleref54_num.f k a0_4).bind fun t220 => (if (((((((t216 ++ (⟨#[32, 116, 105, 109, 101, 32]⟩ : ByteArray)) ++ t217) ++ (⟨#[32, 109, 101, 109, 111, 114, 121, 32]⟩ : ByteArray)) ++ t218) ++ (⟨#[32, 108, 97, 110, 101, 115, 32]⟩ : ByteArray)) ++ t219) ++ (⟨#[32, 115, 105, 122, 101, 32]⟩ : ByteArray)).size + t220.size ≤ 9223372036854775807 then (some ((((((((t216 ++ (⟨#[32, 116, 105, 109, 101, 32]⟩ : ByteArray)) ++ t217) ++ (⟨#[32, 109, 101, 109, 111, 114, 121, 32]⟩ : ByteArray)) ++ t218) ++ (⟨#[32, 108, 97, 110, 101, 115, 32]⟩ : ByteArray)) ++ t219) ++ (⟨#[32, 115, 105, 122, 101, 32]⟩ : ByteArray)) ++ t220)) else (none))) else (none)) else (none))) else (none)) else (none)) = some r := H
          have A11 := Aside0.mk A110
          clear A110
          by_cases c12 : (((t216 ++ (⟨#[32, 116, 105, 109, 101, 32]⟩ : ByteArray)) ++ t217) ++ (⟨#[32, 109, 101, 109, 111, 114, 121, 32]⟩ : ByteArray)).size + t218.size ≤ 9223372036854775807
          · rw [if_pos c12] at H
            have c12b0 := eq_true c12
            have c12b1 : decide ((((t216 ++ (⟨#[32, 116, 105, 109, 101, 32]⟩ : ByteArray)) ++ t217) ++ (⟨#[32, 109, 101, 109, 111, 114, 121, 32]⟩ : ByteArray)).size + t218.size ≤ 9223372036854775807) = true := decide_eq_true c12
            try have c12b2 : (9223372036854775807 < (((t216 ++ (⟨#[32, 116, 105, 109, 101, 32]⟩ : ByteArray)) ++ t217) ++ (⟨#[32, 109, 101, 109, 111, 114, 121, 32]⟩ : ByteArray)).size + t218.size) = False := eq_false (Nat.not_lt.2 c12)
            have c12b3 := c12b0
            simp only [ByteArray.size_append, show (⟨#[32, 116, 105, 109, 101, 32]⟩ : ByteArray).size = 6 from rfl, show (⟨#[32, 109, 101, 109, 111, 114, 121, 32]⟩ : ByteArray).size = 8 from rfl] at c12b3
            have c12b5 := c12b2
            simp only [ByteArray.size_append, show (⟨#[32, 116, 105, 109, 101, 32]⟩ : ByteArray).size = 6 from rfl, show (⟨#[32, 109, 101, 109, 111, 114, 121, 32]⟩ : ByteArray).size = 8 from rfl] at c12b5
            by_cases c13 : ((((t216 ++ (⟨#[32, 116, 105, 109, 101, 32]⟩ : ByteArray)) ++ t217) ++ (⟨#[32, 109, 101, 109, 111, 114, 121, 32]⟩ : ByteArray)) ++ t218).size + 7 ≤ 9223372036854775807
            · rw [if_pos c13] at H
              have c13b0 := eq_true c13
              have c13b1 : decide (((((t216 ++ (⟨#[32, 116, 105, 109, 101, 32]⟩ : ByteArray)) ++ t217) ++ (⟨#[32, 109, 101, 109, 111, 114, 121, 32]⟩ : ByteArray)) ++ t218).size + 7 ≤ 9223372036854775807) = true := decide_eq_true c13
              try have c13b2 : (9223372036854775807 < ((((t216 ++ (⟨#[32, 116, 105, 109, 101, 32]⟩ : ByteArray)) ++ t217) ++ (⟨#[32, 109, 101, 109, 111, 114, 121, 32]⟩ : ByteArray)) ++ t218).size + 7) = False := eq_false (Nat.not_lt.2 c13)
              have c13b3 := c13b0
              simp only [ByteArray.size_append, show (⟨#[32, 116, 105, 109, 101, 32]⟩ : ByteArray).size = 6 from rfl, show (⟨#[32, 109, 101, 109, 111, 114, 121, 32]⟩ : ByteArray).size = 8 from rfl] at c13b3
              have c13b5 := c13b2
              simp only [ByteArray.size_append, show (⟨#[32, 116, 105, 109, 101, 32]⟩ : ByteArray).size = 6 from rfl, show (⟨#[32, 109, 101, 109, 111, 114, 121, 32]⟩ : ByteArray).size = 8 from rfl] at c13b5
              replace H := Option.bind_eq_some_iff.mp H
              obtain ⟨t219, A140, H⟩ := H
              replace H : (if (((((t216 ++ (⟨#[32, 116, 105, 109, 101, 32]⟩ : ByteArray)) ++ t217) ++ (⟨#[32, 109, 101, 109, 111, 114, 121, 32]⟩ : ByteArray)) ++ t218) ++ (⟨#[32, 108, 97, 110, 101, 115, 32]⟩ : ByteArray)).size + t219.size ≤ 9223372036854775807 then (if ((((((t216 ++ (⟨#[32, 116, 105, 109, 101, 32]⟩ : ByteArray)) ++ t217) ++ (⟨#[32, 109, 101, 109, 111, 114, 121, 32]⟩ : ByteArray)) ++ t218) ++ (⟨#[32, 108, 97, 110, 101, 115, 32]⟩ : ByteArray)) ++ t219).size + 6 ≤ 9223372036854775807 then ((pestleref54_num.f k a0_4).bind fun t220 => (if (((((((t216 ++ (⟨#[32, 116, 105, 109, 101, 32]⟩ : ByteArray)) ++ t217) ++ (⟨#[32, 109, 101, 109, 111, 114, 121, 32]⟩ : ByteArray)) ++ t218) ++ (⟨#[32, 108, 97, 110, 101, 115, 32]⟩ : ByteArray)) ++ t219) ++ (⟨#[32, 115, 105, 122, 101, 32]⟩ : ByteArray)).size + t220.size ≤ 9223372036854775807 then (some ((((((((t216 ++ (⟨#[32, 116, 105, 109, 101, 32]⟩ : ByteArray)) ++ t217) ++ (⟨#[32, 109, 101, 109, 111, 114, 121, 32]⟩ : ByteArray)) ++ t218) ++ (⟨#[32, 108, 97, 110, 101, 115, 32]⟩ : ByteArray)) ++ t219) ++ (⟨#[32, 115, 105, 122, 101, 32]⟩ : ByteArray)) ++ t220)) else (none))) else (none)) else (none)) = some r := H
              have A14 := Aside0.mk A140
              clear A140
              by_cases c15 : (((((t216 ++ (⟨#[32, 116, 105, 109, 101, 32]⟩ : ByteArray)) ++ t217) ++ (⟨#[32, 109, 101, 109, 111, 114, 121, 32]⟩ : ByteArray)) ++ t218) ++ (⟨#[32, 108, 97, 110, 101, 115, 32]⟩ : ByteArray)).size + t219.size ≤ 9223372036854775807
              · rw [if_pos c15] at H
                have c15b0 := eq_true c15
                have c15b1 : decide ((((((t216 ++ (⟨#[32, 116, 105, 109, 101, 32]⟩ : ByteArray)) ++ t217) ++ (⟨#[32, 109, 101, 109, 111, 114, 121, 32]⟩ : ByteArray)) ++ t218) ++ (⟨#[32, 108, 97, 110, 101, 115, 32]⟩ : ByteArray)).size + t219.size ≤ 9223372036854775807) = true := decide_eq_true c15
                try have c15b2 : (9223372036854775807 < (((((t216 ++ (⟨#[32, 116, 105, 109, 101, 32]⟩ : ByteArray)) ++ t217) ++ (⟨#[32, 109, 101, 109, 111, 114, 121, 32]⟩ : ByteArray)) ++ t218) ++ (⟨#[32, 108, 97, 110, 101, 115, 32]⟩ : ByteArray)).size + t219.size) = False := eq_false (Nat.not_lt.2 c15)
                have c15b3 := c15b0
                simp only [ByteArray.size_append, show (⟨#[32, 116, 105, 109, 101, 32]⟩ : ByteArray).size = 6 from rfl, show (⟨#[32, 109, 101, 109, 111, 114, 121, 32]⟩ : ByteArray).size = 8 from rfl, show (⟨#[32, 108, 97, 110, 101, 115, 32]⟩ : ByteArray).size = 7 from rfl] at c15b3
                have c15b5 := c15b2
                simp only [ByteArray.size_append, show (⟨#[32, 116, 105, 109, 101, 32]⟩ : ByteArray).size = 6 from rfl, show (⟨#[32, 109, 101, 109, 111, 114, 121, 32]⟩ : ByteArray).size = 8 from rfl, show (⟨#[32, 108, 97, 110, 101, 115, 32]⟩ : ByteArray).size = 7 from rfl] at c15b5
                by_cases c16 : ((((((t216 ++ (⟨#[32, 116, 105, 109, 101, 32]⟩ : ByteArray)) ++ t217) ++ (⟨#[32, 109, 101, 109, 111, 114, 121, 32]⟩ : ByteArray)) ++ t218) ++ (⟨#[32, 108, 97, 110, 101, 115, 32]⟩ : ByteArray)) ++ t219).size + 6 ≤ 9223372036854775807
                · rw [if_pos c16] at H
                  have c16b0 := eq_true c16
                  have c16b1 : decide (((((((t216 ++ (⟨#[32, 116, 105, 109, 101, 32]⟩ : ByteArray)) ++ t217) ++ (⟨#[32, 109, 101, 109, 111, 114, 121, 32]⟩ : ByteArray)) ++ t218) ++ (⟨#[32, 108, 97, 110, 101, 115, 32]⟩ : ByteArray)) ++ t219).size + 6 ≤ 9223372036854775807) = true := decide_eq_true c16
                  try have c16b2 : (9223372036854775807 < ((((((t216 ++ (⟨#[32, 116, 105, 109, 101, 32]⟩ : ByteArray)) ++ t217) ++ (⟨#[32, 109, 101, 109, 111, 114, 121, 32]⟩ : ByteArray)) ++ t218) ++ (⟨#[32, 108, 97, 110, 101, 115, 32]⟩ : ByteArray)) ++ t219).size + 6) = False := eq_false (Nat.not_lt.2 c16)
                  have c16b3 := c16b0
                  simp only [ByteArray.size_append, show (⟨#[32, 116, 105, 109, 101, 32]⟩ : ByteArray).size = 6 from rfl, show (⟨#[32, 109, 101, 109, 111, 114, 121, 32]⟩ : ByteArray).size = 8 from rfl, show (⟨#[32, 108, 97, 110, 101, 115, 32]⟩ : ByteArray).size = 7 from rfl] at c16b3
                  have c16b5 := c16b2
                  simp only [ByteArray.size_append, show (⟨#[32, 116, 105, 109, 101, 32]⟩ : ByteArray).size = 6 from rfl, show (⟨#[32, 109, 101, 109, 111, 114, 121, 32]⟩ : ByteArray).size = 8 from rfl, show (⟨#[32, 108, 97, 110, 101, 115, 32]⟩ : ByteArray).size = 7 from rfl] at c16b5
                  replace H := Option.bind_eq_some_iff.mp H
                  obtain ⟨t220, A170, H⟩ := H
                  replace H : (if (((((((t216 ++ (⟨#[32, 116, 105, 109, 101, 32]⟩ : ByteArray)) ++ t217) ++ (⟨#[32, 109, 101, 109, 111, 114, 121, 32]⟩ : ByteArray)) ++ t218) ++ (⟨#[32, 108, 97, 110, 101, 115, 32]⟩ : ByteArray)) ++ t219) ++ (⟨#[32, 115, 105, 122, 101, 32]⟩ : ByteArray)).size + t220.size ≤ 9223372036854775807 then (some ((((((((t216 ++ (⟨#[32, 116, 105, 109, 101, 32]⟩ : ByteArray)) ++ t217) ++ (⟨#[32, 109, 101, 109, 111, 114, 121, 32]⟩ : ByteArray)) ++ t218) ++ (⟨#[32, 108, 97, 110, 101, 115, 32]⟩ : ByteArray)) ++ t219) ++ (⟨#[32, 115, 105, 122, 101, 32]⟩ : ByteArray)) ++ t220)) else (none)) = some r := H
                  have A17 := Aside0.mk A170
                  clear A170
                  by_cases c18 : (((((((t216 ++ (⟨#[32, 116, 105, 109, 101, 32]⟩ : ByteArray)) ++ t217) ++ (⟨#[32, 109, 101, 109, 111, 114, 121, 32]⟩ : ByteArray)) ++ t218) ++ (⟨#[32, 108, 97, 110, 101, 115, 32]⟩ : ByteArray)) ++ t219) ++ (⟨#[32, 115, 105, 122, 101, 32]⟩ : ByteArray)).size + t220.size ≤ 9223372036854775807
                  · rw [if_pos c18] at H
                    have c18b0 := eq_true c18
                    have c18b1 : decide ((((((((t216 ++ (⟨#[32, 116, 105, 109, 101, 32]⟩ : ByteArray)) ++ t217) ++ (⟨#[32, 109, 101, 109, 111, 114, 121, 32]⟩ : ByteArray)) ++ t218) ++ (⟨#[32, 108, 97, 110, 101, 115, 32]⟩ : ByteArray)) ++ t219) ++ (⟨#[32, 115, 105, 122, 101, 32]⟩ : ByteArray)).size + t220.size ≤ 9223372036854775807) = true := decide_eq_true c18
                    try have c18b2 : (9223372036854775807 < (((((((t216 ++ (⟨#[32, 116, 105, 109, 101, 32]⟩ : ByteArray)) ++ t217) ++ (⟨#[32, 109, 101, 109, 111, 114, 121, 32]⟩ : ByteArray)) ++ t218) ++ (⟨#[32, 108, 97, 110, 101, 115, 32]⟩ : ByteArray)) ++ t219) ++ (⟨#[32, 115, 105, 122, 101, 32]⟩ : ByteArray)).size + t220.size) = False := eq_false (Nat.not_lt.2 c18)
                    have c18b3 := c18b0
                    simp only [ByteArray.size_append, show (⟨#[32, 116, 105, 109, 101, 32]⟩ : ByteArray).size = 6 from rfl, show (⟨#[32, 109, 101, 109, 111, 114, 121, 32]⟩ : ByteArray).size = 8 from rfl, show (⟨#[32, 108, 97, 110, 101, 115, 32]⟩ : ByteArray).size = 7 from rfl, show (⟨#[32, 115, 105, 122, 101, 32]⟩ : ByteArray).size = 6 from rfl] at c18b3
                    have c18b5 := c18b2
                    simp only [ByteArray.size_append, show (⟨#[32, 116, 105, 109, 101, 32]⟩ : ByteArray).size = 6 from rfl, show (⟨#[32, 109, 101, 109, 111, 114, 121, 32]⟩ : ByteArray).size = 8 from rfl, show (⟨#[32, 108, 97, 110, 101, 115, 32]⟩ : ByteArray).size = 7 from rfl, show (⟨#[32, 115, 105, 122, 101, 32]⟩ : ByteArray).size = 6 from rfl] at c18b5
                    obtain rfl := Option.some.inj H
                    go_enter Try.func31, Try.ntmps31
                    try go_wp2_with (first | ((with_reducible refine gate_dst (N := 1) rfl ?_); refine box_event ?hg (N := 1) ?hd (cs := #[.int .i64 a0_0, .int .i64 a0_1, .int .i64 a0_2, .int .i64 a0_3, .int .i64 a0_4]) (t := 53) ?hr ?_; (case hd => rfl); (case hg => rfl); (case hr => first | (go_simp; done) | (go_simp; rfl)); intro gb215 hg w19 hbox hb; have n0_ := Aside0.mk (below_step (by repeat (first | (with_reducible first | exact HB.out | apply below_alloc | apply pw_below_drewN | apply below_drew1) | exact HB.out)) hb); have n1_ := Aside0.mk (hbox); have n2_ := Aside0.mk ((by rw [hg]; exact (below_size (by repeat (first | (with_reducible first | exact HB.out | apply below_alloc | apply pw_below_drewN | apply below_drew1) | exact HB.out))) : w.heap.size ≤ gb215)); have n3_ := Aside0.mk ((by rw [hg]; exact (below_size (by repeat (first | (with_reducible first | exact HB.out | apply below_alloc | apply pw_below_drewN | apply below_drew1) | exact HB.out))) : w.heap.size ≤ gb215)); clear HB; have HB := n0_; have BK215 := n1_; have GW215 := n2_; have GE215 := n3_; clear n0_ n1_ n2_ n3_; clear hb hbox hg; have hcz20_0 : w19.cell? ⟨gb215, 0, none⟩ = some (.int .i64 a0_0) := (blk_cell BK215.out 0).trans rfl; have hcz20_1 : w19.cell? ⟨gb215, 1, none⟩ = some (.int .i64 a0_1) := (blk_cell BK215.out 1).trans rfl; have hcz20_2 : w19.cell? ⟨gb215, 2, none⟩ = some (.int .i64 a0_2) := (blk_cell BK215.out 2).trans rfl; have hcz20_3 : w19.cell? ⟨gb215, 3, none⟩ = some (.int .i64 a0_3) := (blk_cell BK215.out 3).trans rfl; have hcz20_4 : w19.cell? ⟨gb215, 4, none⟩ = some (.int .i64 a0_4) := (blk_cell BK215.out 4).trans rfl; have hfz20_0 := blk_frozen BK215.out 0; have hfz20_1 := blk_frozen BK215.out 1; have hfz20_2 := blk_frozen BK215.out 2; have hfz20_3 := blk_frozen BK215.out 3; have hfz20_4 := blk_frozen BK215.out 4) | ((with_reducible refine gate_callee (f := 72) rfl ?_); refine goesL_ (some 6) rfl rfl Try.func72 (by kernel_rfl) rfl #[.int .i64 a0_0] rfl (by (try simp only [List.map_toArray, List.map_cons, List.map_nil]); first | done | rfl | (simp only [List.length_drop, List.length_take]; rfl)) ?_; (with_reducible refine (pestleref44_Id.calls a0_0 t216 _ A2.out).mono ?_); rintro e w21 ⟨rfl, hb⟩; refine ⟨_, rfl, ?_⟩; have n0_ := Aside0.mk (blk_below (g := gb215) (o := .cells #[.int .i64 a0_0, .int .i64 a0_1, .int .i64 a0_2, .int .i64 a0_3, .int .i64 a0_4] 53 (0, 0)) (by (with_reducible repeat (first | refine blk_drewN ?_ _ | refine blk_drew ?_ | refine blk_alloc ?_ _)); exact BK215.out) hb); have n1_ := Aside0.mk (below_step (by repeat (first | (with_reducible first | exact HB.out | apply below_alloc | apply pw_below_drewN | apply below_drew1 | refine below_set ?_ GE215.out) | exact HB.out)) hb); clear BK215; clear HB; have BK215 := n0_; have HB := n1_; clear n0_ n1_; (try clear hb); (try clear hb2); (try clear hk); (try clear hi)))
                    have n0_ := Aside0.mk (blk_drew BK215.out)
                    have n1_ := Aside0.mk (below_drew1 HB.out)
                    clear BK215
                    clear HB
                    have BK215 := n0_
                    have HB := n1_
                    clear n0_ n1_
                    refine start_ (n := 22) (S := fun w' => w'.cell? ⟨gb215, 0, none⟩ = some (.int .i64 a0_0) ∧ w'.cell? ⟨gb215, 1, none⟩ = some (.int .i64 a0_1) ∧ w'.cell? ⟨gb215, 2, none⟩ = some (.int .i64 a0_2) ∧ w'.cell? ⟨gb215, 3, none⟩ = some (.int .i64 a0_3) ∧ w'.cell? ⟨gb215, 4, none⟩ = some (.int .i64 a0_4)) (ds := []) #[false, false, false, false, false, false, false, false, false, false, false, false, false, false, false, false, false, false, false, false, false, false] (by kernel_rfl) rfl rfl ⟨(blk_cell BK215.out 0).trans rfl, (blk_cell BK215.out 1).trans rfl, (blk_cell BK215.out 2).trans rfl, (blk_cell BK215.out 3).trans rfl, (blk_cell BK215.out 4).trans rfl⟩ (fun hHeld => ?_); refine with_tabW pestleref54_Params.tab4 pestleref54_Params.bits4 (fun HT_ HW_ => ?_)
                    generalize w21.drew = w22 at BK215 HB hHeld ⊢
                    refine pure_ (i := 0) (N := some 9) (v := ?_) (a' := ?_) #[true, false, false, false, false, false, false, false, false, false, false, false, false, false, false, false, false, false, false, false, false, false] rfl rfl (any_of HT_.out (by kernel_rfl)) (fun _ _ _ h => h) (Or.inl ⟨by rfl, ?_⟩) ?_ ?_
                    rotate_left
                    · intro w'
                      go_simp
                      with_reducible rfl
                    rotate_left
                    · simp only [Act.put, List.setIfInBounds_toArray, List.set_cons_zero, List.set_cons_succ, i64_w, i32_w]
                      rfl
                    refine pure_ (i := 1) (N := some 10) (v := ?_) (a' := ?_) #[true, true, false, false, false, false, false, false, false, false, false, false, false, false, false, false, false, false, false, false, false, false] rfl rfl (any_of HT_.out (by kernel_rfl)) (fun _ _ _ h => h) (Or.inl ⟨by rfl, ?_⟩) ?_ ?_
                    rotate_left
                    · intro w'
                      go_simp
                      with_reducible rfl
                    rotate_left
                    · simp only [Act.put, List.setIfInBounds_toArray, List.set_cons_zero, List.set_cons_succ, i64_w, i32_w]
                      rfl
                    refine pure_ (i := 2) (N := some 11) (v := ?_) (a' := ?_) #[true, true, true, false, false, false, false, false, false, false, false, false, false, false, false, false, false, false, false, false, false, false] rfl rfl (any_of HT_.out (by kernel_rfl)) (fun _ _ _ h => h) (Or.inl ⟨by rfl, ?_⟩) ?_ ?_
                    rotate_left
                    · intro w'
                      go_simp
                      with_reducible rfl
                    rotate_left
                    · simp only [Act.put, List.setIfInBounds_toArray, List.set_cons_zero, List.set_cons_succ, i64_w, i32_w]
                      rfl
                    refine pure_ (i := 7) (N := some 16) (v := ?_) (a' := ?_) #[true, true, true, false, false, false, false, true, false, false, false, false, false, false, false, false, false, false, false, false, false, false] rfl rfl (any_of HT_.out (by kernel_rfl)) (fun _ _ _ h => h) (Or.inl ⟨by rfl, ?_⟩) ?_ ?_
                    rotate_left
                    · intro w'
                      go_simp
                      with_reducible rfl
                    rotate_left
                    · simp only [Act.put, List.setIfInBounds_toArray, List.set_cons_zero, List.set_cons_succ, i64_w, i32_w]
                      rfl
                    refine pure_ (i := 12) (N := some 21) (v := ?_) (a' := ?_) #[true, true, true, false, false, false, false, true, false, false, false, false, true, false, false, false, false, false, false, false, false, false] rfl rfl (any_of HT_.out (by kernel_rfl)) (fun _ _ _ h => h) (Or.inl ⟨by rfl, ?_⟩) ?_ ?_
                    rotate_left
                    · intro w'
                      go_simp
                      with_reducible rfl
                    rotate_left
                    · simp only [Act.put, List.setIfInBounds_toArray, List.set_cons_zero, List.set_cons_succ, i64_w, i32_w]
                      rfl
                    refine pure_ (i := 17) (N := some 26) (v := ?_) (a' := ?_) #[true, true, true, false, false, false, false, true, false, false, false, false, true, false, false, false, false, true, false, false, false, false] rfl rfl (any_of HT_.out (by kernel_rfl)) (fun _ _ _ h => h) (Or.inl ⟨by rfl, ?_⟩) ?_ ?_
                    rotate_left
                    · intro w'
                      go_simp
                      with_reducible rfl
                    rotate_left
                    · simp only [Act.put, List.setIfInBounds_toArray, List.set_cons_zero, List.set_cons_succ, i64_w, i32_w]
                      rfl
                    refine take_ (i := 3) (N := some 12) (v := ?_) (a' := ?_) #[true, true, true, true, false, false, false, true, false, false, false, false, true, false, false, false, false, true, false, false, false, false] rfl rfl (take_ofW HT_.out HW_.out (by kernel_rfl)) (fun _ _ _ h => h) (Or.inl ⟨by rfl, ?_⟩) hHeld ?_ ?_
                    rotate_left
                    · rintro w' ⟨s0, s1, s2, s3, s4⟩
                      go_simp
                      with_reducible rfl
                    rotate_left
                    · simp only [Act.put, List.setIfInBounds_toArray, List.set_cons_zero, List.set_cons_succ, i64_w, i32_w]
                      rfl
                    refine take_ (i := 8) (N := some 17) (v := ?_) (a' := ?_) #[true, true, true, true, false, false, false, true, true, false, false, false, true, false, false, false, false, true, false, false, false, false] rfl rfl (take_ofW HT_.out HW_.out (by kernel_rfl)) (fun _ _ _ h => h) (Or.inl ⟨by rfl, ?_⟩) hHeld ?_ ?_
                    rotate_left
                    · rintro w' ⟨s0, s1, s2, s3, s4⟩
                      go_simp
                      with_reducible rfl
                    rotate_left
                    · simp only [Act.put, List.setIfInBounds_toArray, List.set_cons_zero, List.set_cons_succ, i64_w, i32_w]
                      rfl
                    refine take_ (i := 13) (N := some 22) (v := ?_) (a' := ?_) #[true, true, true, true, false, false, false, true, true, false, false, false, true, true, false, false, false, true, false, false, false, false] rfl rfl (take_ofW HT_.out HW_.out (by kernel_rfl)) (fun _ _ _ h => h) (Or.inl ⟨by rfl, ?_⟩) hHeld ?_ ?_
                    rotate_left
                    · rintro w' ⟨s0, s1, s2, s3, s4⟩
                      go_simp
                      with_reducible rfl
                    rotate_left
                    · simp only [Act.put, List.setIfInBounds_toArray, List.set_cons_zero, List.set_cons_succ, i64_w, i32_w]
                      rfl
                    refine take_ (i := 18) (N := some 27) (v := ?_) (a' := ?_) #[true, true, true, true, false, false, false, true, true, false, false, false, true, true, false, false, false, true, true, false, false, false] rfl rfl (take_ofW HT_.out HW_.out (by kernel_rfl)) (fun _ _ _ h => h) (Or.inl ⟨by rfl, ?_⟩) hHeld ?_ ?_
                    rotate_left
                    · rintro w' ⟨s0, s1, s2, s3, s4⟩
                      go_simp
                      with_reducible rfl
                    rotate_left
                    · simp only [Act.put, List.setIfInBounds_toArray, List.set_cons_zero, List.set_cons_succ, i64_w, i32_w]
                      rfl
                    refine one_ (i := 4) (N := some 13) #[true, true, true, true, true, false, false, true, true, false, false, false, true, true, false, false, false, true, true, false, false, false] rfl rfl (one_of HT_.out (by kernel_rfl)) (by decide) (fun K hK => ?_)
                    refine goes_ Try.func69 (by kernel_rfl) rfl #[.int .i64 a0_1] (by rfl) rfl rfl (by (try simp only [List.map_toArray, List.map_cons, List.map_nil]); first | done | rfl | (simp only [List.length_drop, List.length_take]; rfl)) ?_
                    with_reducible refine (pestleref54_num.calls k a0_1 t217 _ A8.out).mono ?_
                    rintro e w23 ⟨rfl, hb⟩
                    refine ⟨_, rfl, ?_⟩
                    have n0_ := Aside0.mk (blk_below (g := gb215) (o := .cells #[.int .i64 a0_0, .int .i64 a0_1, .int .i64 a0_2, .int .i64 a0_3, .int .i64 a0_4] 53 (0, 0)) (by (with_reducible repeat (first | refine blk_drewN ?_ _ | refine blk_drew ?_ | refine blk_alloc ?_ _)); exact BK215.out) hb)
                    have n1_ := Aside0.mk (below_step (by repeat (first | (with_reducible first | exact HB.out | apply below_alloc | apply pw_below_drewN | apply below_drew1 | refine below_set ?_ GE215.out) | exact HB.out)) hb)
                    clear BK215
                    clear HB
                    have BK215 := n0_
                    have HB := n1_
                    clear n0_ n1_
                    (try clear hb)
                    (try clear hb2)
                    (try clear hk)
                    (try clear hi)
                    refine hK.out _ _ ⟨(blk_cell BK215.out 0).trans rfl, (blk_cell BK215.out 1).trans rfl, (blk_cell BK215.out 2).trans rfl, (blk_cell BK215.out 3).trans rfl, (blk_cell BK215.out 4).trans rfl⟩ (fun hHeld => ?_)
                    clear hK K
                    refine norm_ (a' := ?_) ?_ ?_
                    rotate_left
                    · show Act.put _ (some 13) _ = _
                      simp only [Act.put, List.setIfInBounds_toArray, List.set_cons_zero, List.set_cons_succ, i64_w, i32_w]
                      rfl
                    refine pure_ (i := 5) (N := some 14) (v := ?_) (a' := ?_) #[true, true, true, true, true, true, false, true, true, false, false, false, true, true, false, false, false, true, true, false, false, false] rfl rfl (any_of HT_.out (by kernel_rfl)) (fun _ _ _ h => h) (Or.inl ⟨by rfl, ?_⟩) ?_ ?_
                    rotate_left
                    · intro w'
                      go_simp
                      with_reducible rfl
                    rotate_left
                    · simp only [Act.put, List.setIfInBounds_toArray, List.set_cons_zero, List.set_cons_succ, i64_w, i32_w]
                      rfl
                    refine pure_ (i := 6) (N := some 15) (v := ?_) (a' := ?_) #[true, true, true, true, true, true, true, true, true, false, false, false, true, true, false, false, false, true, true, false, false, false] rfl rfl (any_of HT_.out (by kernel_rfl)) (fun _ _ _ h => h) (Or.inl ⟨by rfl, ?_⟩) ?_ ?_
                    rotate_left
                    · intro w'
                      go_simp
                      with_reducible rfl
                    rotate_left
                    · simp only [Act.put, List.setIfInBounds_toArray, List.set_cons_zero, List.set_cons_succ, i64_w, i32_w]
                      rfl
                    refine one_ (i := 9) (N := some 18) #[true, true, true, true, true, true, true, true, true, true, false, false, true, true, false, false, false, true, true, false, false, false] rfl rfl (one_of HT_.out (by kernel_rfl)) (by decide) (fun K hK => ?_)
                    refine goes_ Try.func69 (by kernel_rfl) rfl #[.int .i64 a0_2] (by rfl) rfl rfl (by (try simp only [List.map_toArray, List.map_cons, List.map_nil]); first | done | rfl | (simp only [List.length_drop, List.length_take]; rfl)) ?_
                    with_reducible refine (pestleref54_num.calls k a0_2 t218 _ A11.out).mono ?_
                    rintro e w24 ⟨rfl, hb⟩
                    refine ⟨_, rfl, ?_⟩
                    have n0_ := Aside0.mk (blk_below (g := gb215) (o := .cells #[.int .i64 a0_0, .int .i64 a0_1, .int .i64 a0_2, .int .i64 a0_3, .int .i64 a0_4] 53 (0, 0)) (by (with_reducible repeat (first | refine blk_drewN ?_ _ | refine blk_drew ?_ | refine blk_alloc ?_ _)); exact BK215.out) hb)
                    have n1_ := Aside0.mk (below_step (by repeat (first | (with_reducible first | exact HB.out | apply below_alloc | apply pw_below_drewN | apply below_drew1 | refine below_set ?_ GE215.out) | exact HB.out)) hb)
                    clear BK215
                    clear HB
                    have BK215 := n0_
                    have HB := n1_
                    clear n0_ n1_
                    (try clear hb)
                    (try clear hb2)
                    (try clear hk)
                    (try clear hi)
                    refine hK.out _ _ ⟨(blk_cell BK215.out 0).trans rfl, (blk_cell BK215.out 1).trans rfl, (blk_cell BK215.out 2).trans rfl, (blk_cell BK215.out 3).trans rfl, (blk_cell BK215.out 4).trans rfl⟩ (fun hHeld => ?_)
                    clear hK K
                    refine norm_ (a' := ?_) ?_ ?_
                    rotate_left
                    · show Act.put _ (some 18) _ = _
                      simp only [Act.put, List.setIfInBounds_toArray, List.set_cons_zero, List.set_cons_succ, i64_w, i32_w]
                      rfl
                    refine pure_ (i := 10) (N := some 19) (v := ?_) (a' := ?_) #[true, true, true, true, true, true, true, true, true, true, true, false, true, true, false, false, false, true, true, false, false, false] rfl rfl (any_of HT_.out (by kernel_rfl)) (fun _ _ _ h => h) (Or.inl ⟨by rfl, ?_⟩) ?_ ?_
                    rotate_left
                    · intro w'
                      go_simp
                      with_reducible rfl
                    rotate_left
                    · simp only [Act.put, List.setIfInBounds_toArray, List.set_cons_zero, List.set_cons_succ, i64_w, i32_w]
                      rfl
                    refine pure_ (i := 11) (N := some 20) (v := ?_) (a' := ?_) #[true, true, true, true, true, true, true, true, true, true, true, true, true, true, false, false, false, true, true, false, false, false] rfl rfl (any_of HT_.out (by kernel_rfl)) (fun _ _ _ h => h) (Or.inl ⟨by rfl, ?_⟩) ?_ ?_
                    rotate_left
                    · intro w'
                      go_simp
                      with_reducible rfl
                    rotate_left
                    · simp only [Act.put, List.setIfInBounds_toArray, List.set_cons_zero, List.set_cons_succ, i64_w, i32_w]
                      rfl
                    refine one_ (i := 14) (N := some 23) #[true, true, true, true, true, true, true, true, true, true, true, true, true, true, true, false, false, true, true, false, false, false] rfl rfl (one_of HT_.out (by kernel_rfl)) (by decide) (fun K hK => ?_)
                    refine goes_ Try.func69 (by kernel_rfl) rfl #[.int .i64 a0_3] (by rfl) rfl rfl (by (try simp only [List.map_toArray, List.map_cons, List.map_nil]); first | done | rfl | (simp only [List.length_drop, List.length_take]; rfl)) ?_
                    with_reducible refine (pestleref54_num.calls k a0_3 t219 _ A14.out).mono ?_
                    rintro e w25 ⟨rfl, hb⟩
                    refine ⟨_, rfl, ?_⟩
                    have n0_ := Aside0.mk (blk_below (g := gb215) (o := .cells #[.int .i64 a0_0, .int .i64 a0_1, .int .i64 a0_2, .int .i64 a0_3, .int .i64 a0_4] 53 (0, 0)) (by (with_reducible repeat (first | refine blk_drewN ?_ _ | refine blk_drew ?_ | refine blk_alloc ?_ _)); exact BK215.out) hb)
                    have n1_ := Aside0.mk (below_step (by repeat (first | (with_reducible first | exact HB.out | apply below_alloc | apply pw_below_drewN | apply below_drew1 | refine below_set ?_ GE215.out) | exact HB.out)) hb)
                    clear BK215
                    clear HB
                    have BK215 := n0_
                    have HB := n1_
                    clear n0_ n1_
                    (try clear hb)
                    (try clear hb2)
                    (try clear hk)
                    (try clear hi)
                    refine hK.out _ _ ⟨(blk_cell BK215.out 0).trans rfl, (blk_cell BK215.out 1).trans rfl, (blk_cell BK215.out 2).trans rfl, (blk_cell BK215.out 3).trans rfl, (blk_cell BK215.out 4).trans rfl⟩ (fun hHeld => ?_)
                    clear hK K
                    refine norm_ (a' := ?_) ?_ ?_
                    rotate_left
                    · show Act.put _ (some 23) _ = _
                      simp only [Act.put, List.setIfInBounds_toArray, List.set_cons_zero, List.set_cons_succ, i64_w, i32_w]
                      rfl
                    refine pure_ (i := 15) (N := some 24) (v := ?_) (a' := ?_) #[true, true, true, true, true, true, true, true, true, true, true, true, true, true, true, true, false, true, true, false, false, false] rfl rfl (any_of HT_.out (by kernel_rfl)) (fun _ _ _ h => h) (Or.inl ⟨by rfl, ?_⟩) ?_ ?_
                    rotate_left
                    · intro w'
                      go_simp
                      with_reducible rfl
                    rotate_left
                    · simp only [Act.put, List.setIfInBounds_toArray, List.set_cons_zero, List.set_cons_succ, i64_w, i32_w]
                      rfl
                    refine pure_ (i := 16) (N := some 25) (v := ?_) (a' := ?_) #[true, true, true, true, true, true, true, true, true, true, true, true, true, true, true, true, true, true, true, false, false, false] rfl rfl (any_of HT_.out (by kernel_rfl)) (fun _ _ _ h => h) (Or.inl ⟨by rfl, ?_⟩) ?_ ?_
                    rotate_left
                    · intro w'
                      go_simp
                      with_reducible rfl
                    rotate_left
                    · simp only [Act.put, List.setIfInBounds_toArray, List.set_cons_zero, List.set_cons_succ, i64_w, i32_w]
                      rfl
                    refine one_ (i := 19) (N := some 28) #[true, true, true, true, true, true, true, true, true, true, true, true, true, true, true, true, true, true, true, true, false, false] rfl rfl (one_of HT_.out (by kernel_rfl)) (by decide) (fun K hK => ?_)
                    refine goes_ Try.func69 (by kernel_rfl) rfl #[.int .i64 a0_4] (by rfl) rfl rfl (by (try simp only [List.map_toArray, List.map_cons, List.map_nil]); first | done | rfl | (simp only [List.length_drop, List.length_take]; rfl)) ?_
                    with_reducible refine (pestleref54_num.calls k a0_4 t220 _ A17.out).mono ?_
                    rintro e w26 ⟨rfl, hb⟩
                    refine ⟨_, rfl, ?_⟩
                    have n0_ := Aside0.mk (blk_below (g := gb215) (o := .cells #[.int .i64 a0_0, .int .i64 a0_1, .int .i64 a0_2, .int .i64 a0_3, .int .i64 a0_4] 53 (0, 0)) (by (with_reducible repeat (first | refine blk_drewN ?_ _ | refine blk_drew ?_ | refine blk_alloc ?_ _)); exact BK215.out) hb)
                    have n1_ := Aside0.mk (below_step (by repeat (first | (with_reducible first | exact HB.out | apply below_alloc | apply pw_below_drewN | apply below_drew1 | refine below_set ?_ GE215.out) | exact HB.out)) hb)
                    clear BK215
                    clear HB
                    have BK215 := n0_
                    have HB := n1_
                    clear n0_ n1_
                    (try clear hb)
                    (try clear hb2)
                    (try clear hk)
                    (try clear hi)
                    refine hK.out _ _ ⟨(blk_cell BK215.out 0).trans rfl, (blk_cell BK215.out 1).trans rfl, (blk_cell BK215.out 2).trans rfl, (blk_cell BK215.out 3).trans rfl, (blk_cell BK215.out 4).trans rfl⟩ (fun hHeld => ?_)
                    clear hK K
                    refine norm_ (a' := ?_) ?_ ?_
                    rotate_left
                    · show Act.put _ (some 28) _ = _
                      simp only [Act.put, List.setIfInBounds_toArray, List.set_cons_zero, List.set_cons_succ, i64_w, i32_w]
                      rfl
                    refine pure_ (i := 20) (N := some 29) (v := ?_) (a' := ?_) #[true, true, true, true, true, true, true, true, true, true, true, true, true, true, true, true, true, true, true, true, true, false] rfl rfl (any_of HT_.out (by kernel_rfl)) (fun _ _ _ h => h) (Or.inl ⟨by rfl, ?_⟩) ?_ ?_
                    rotate_left
                    · intro w'
                      go_simp
                      with_reducible rfl
                    rotate_left
                    · simp only [Act.put, List.setIfInBounds_toArray, List.set_cons_zero, List.set_cons_succ, i64_w, i32_w]
                      rfl
                    refine pure_ (i := 21) (N := some 2) (v := ?_) (a' := ?_) #[true, true, true, true, true, true, true, true, true, true, true, true, true, true, true, true, true, true, true, true, true, true] rfl rfl (any_of HT_.out (by kernel_rfl)) (fun _ _ _ h => h) (Or.inl ⟨by rfl, ?_⟩) ?_ ?_
                    rotate_left
                    · intro w'
                      go_simp
                      with_reducible rfl
                    rotate_left
                    · simp only [Act.put, List.setIfInBounds_toArray, List.set_cons_zero, List.set_cons_succ, i64_w, i32_w]
                      rfl
                    refine done_ (done_of HT_.out (by kernel_rfl)) ?_
                    try go_wp2
                    go_ret
                    exact ⟨by first | rfl | (simp [errW_none, errW_some] <;> rfl) | (simp [*, errW_none, errW_some] <;> rfl), by repeat (first | (with_reducible first | exact HB.out | apply below_alloc | apply pw_below_drewN | apply below_drew1 | refine below_set ?_ GE215.out) | exact HB.out)⟩
                  · rw [if_neg c18] at H
                    exact absurd H (by simp)
                · rw [if_neg c16] at H
                  exact absurd H (by simp)
              · rw [if_neg c15] at H
                exact absurd H (by simp)
            · rw [if_neg c13] at H
              exact absurd H (by simp)
          · rw [if_neg c12] at H
            exact absurd H (by simp)
        · rw [if_neg c10] at H
          exact absurd H (by simp)
      · rw [if_neg c9] at H
        exact absurd H (by simp)
    · rw [if_neg c7] at H
      exact absurd H (by simp)

end Go.Proofs.Ytoknoghdnedmhaa.Pall
