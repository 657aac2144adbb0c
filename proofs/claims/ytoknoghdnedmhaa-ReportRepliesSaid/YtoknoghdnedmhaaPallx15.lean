-- PRINTED by print.py (a twelfth state) out of the translation. Not trusted: Lean checks it.
import Derived.Test.YtoknoghdnedmhaaPallx0
import Derived.Test.YtoknoghdnedmhaaPallx4
import Derived.Test.YtoknoghdnedmhaaPallx12
import Derived.Test.YtoknoghdnedmhaaPallx14
namespace Go.Proofs.Ytoknoghdnedmhaa.Pall
open Go.RowKit Go.Proofs.YtoknoghdnedmhaaW.PrintWords Go.Proofs.YtoknoghdnedmhaaW.PrintLast Go.Proofs.YtoknoghdnedmhaaW.PrintMore
attribute [local go_sem] max2_int min2_int max_two min_two max_three min_three max_four min_four   -- for this text's walks alone
set_option linter.unusedVariables false
set_option linter.unusedSimpArgs false

/-! ### record_Name: function 71 -/
def record_Name.l0 : Nat → Int → List (S132) → Int → Int → Option (ByteArray × Int)
  | 0, _, _, _, _ => none
  | k + 1, x0, x8, x9, x10 => if x10 < x9 then (if 0 ≤ x10 then (if x10 < (x8.length : Int) then (if ((rd_T132 x8 x10).f0) = x0 then (some ((rd_T132 x8 x10).f1, 0)) else (record_Name.l0 k x0 x8 x9 (wrap64 (x10 + 1)))) else (none)) else (none)) else (some ((⟨#[]⟩ : ByteArray), 6))
def record_Name.f (k : Nat) (a0 : Int) : Option (ByteArray × Int) := if a0 = 5 then (some ((⟨#[98, 99, 114, 121, 112, 116]⟩ : ByteArray), 0)) else ((record_kinds.f).bind fun t370 => (record_Name.l0 k a0 t370 (t370.length : Int) 0))
theorem record_Name.mono_l : ∀ k, (∀ y0 y1 y2 y3, LeO (record_Name.l0 k y0 y1 y2 y3) (record_Name.l0 (k + 1) y0 y1 y2 y3))
  | 0 => fun _ _ _ _ r h => by simp [record_Name.l0] at h
  | k + 1 => by
    have ih0 := record_Name.mono_l k
    · intro y0 y1 y2 y3
      unfold record_Name.l0
      repeat' first
      | (with_reducible exact ih0 _ _ _ _)
      | (with_reducible exact LeO.refl _)
      | (with_reducible exact LeO.none _)
      | (with_reducible refine LeO.ite ?_ ?_)
      | (with_reducible refine LeO.bind ?_ (fun _ => ?_))
      | exact ih0 _ _ _ _
      | exact LeO.none _
      | refine LeO.ite ?_ ?_
      | refine LeO.bind ?_ (fun _ => ?_)
theorem record_Name.mono : ∀ a0 k, LeO (record_Name.f k a0) (record_Name.f (k + 1) a0) := by
  intro a0 k
  have ih0 := record_Name.mono_l k
  unfold record_Name.f
  repeat' first
      | (with_reducible exact ih0 _ _ _ _)
      | (with_reducible exact LeO.refl _)
      | (with_reducible exact LeO.none _)
      | (with_reducible refine LeO.ite ?_ ?_)
      | (with_reducible refine LeO.bind ?_ (fun _ => ?_))
      | exact ih0 _ _ _ _
      | exact LeO.none _
      | refine LeO.ite ?_ ?_
      | refine LeO.bind ?_ (fun _ => ?_)
set_option maxHeartbeats 8000000 in
set_option maxRecDepth 100000 in
theorem record_Name.calls (k : Nat) (a0 : Int) (r1 : ByteArray) (r2 : Int) (w : World) (h : record_Name.f k a0 = some (r1, r2)) :
    Calls Try.prog 71 #[.int .i64 a0] w fun e w' => e = .returned (.tuple #[.string r1, .int .i64 r2]) ∧ Below w.heap.size w w' := by
  have hu132 := Try.underlying132
  have HB := Aside0.mk (Below.refl w.heap.size w)
  have H : (if a0 = 5 then (some ((⟨#[98, 99, 114, 121, 112, 116]⟩ : ByteArray), 0)) else ((record_kinds.f).bind fun t370 => (record_Name.l0 k a0 t370 (t370.length : Int) 0))) = some (r1, r2) := h
  clear h
  by_cases c2 : a0 = 5
  · rw [if_pos c2] at H
    have c2b0 : (a0 == 5) = true := beq_iff_eq.mpr c2
    have c2b1 : (a0 != 5) = false := bne_eq_false_iff_eq.mpr c2
    clear c2
    simp only [Option.some.injEq, Prod.mk.injEq] at H
    obtain ⟨rfl, rfl⟩ := H
    go_enter Try.func71, Try.ntmps71
    go_wp2
    go_ret2
    exact ⟨by first | rfl | (simp [errW_none, errW_some] <;> rfl) | (simp [*, errW_none, errW_some] <;> rfl), by repeat (first | (with_reducible first | exact HB.out | apply below_alloc | apply pw_below_drewN | apply below_drew1) | exact HB.out)⟩
  · rw [if_neg c2] at H
    have c2b0 : (a0 == 5) = false := beq_eq_false_iff_ne.mpr c2
    have c2b1 : (a0 != 5) = true := bne_iff_ne.mpr c2
    replace H := Option.bind_eq_some_iff.mp H
    obtain ⟨t370, A30, H⟩ := H
    replace H : (record_Name.l0 k a0 t370 (t370.length : Int) 0) = some (r1, r2) := H
    have A3 := Aside0.mk A30
    clear A30
    have H' := Aside0.mk H
    clear H
    go_enter Try.func71, Try.ntmps71
    go_wp2_with (first | ((with_reducible refine gate_callee (f := 93) rfl ?_); refine goesL_ (some 8) rfl rfl Try.func93 (by kernel_rfl) rfl #[] rfl (by (try simp only [List.map_toArray, List.map_cons, List.map_nil]); first | done | rfl | (simp only [List.length_drop, List.length_take]; rfl)) ?_; (with_reducible refine (record_kinds.calls  t370 _ A3.out).mono ?_); rintro e w4 ⟨v371, rfl, ho0, hb⟩; refine ⟨_, rfl, ?_⟩; have n0_ := Aside0.mk (Kd.N_lower (Kd.N_mono (ok' := fun k_ => True) ho0 (fun k_ hk_ => trivial)) (below_size (by repeat (first | (with_reducible first | exact HB.out | apply below_alloc | apply pw_below_drewN | apply below_drew1) | exact HB.out)))); have n1_ := Aside0.mk (below_step (by repeat (first | (with_reducible first | exact HB.out | apply below_alloc | apply pw_below_drewN | apply below_drew1) | exact HB.out)) hb); clear HB; have HO372 := n0_; have HB := n1_; clear n0_ n1_; (try clear hb); (try clear hb2); (try clear hk); (try clear hi); (try clear ho0); obtain ⟨Ao5, co5, eo5⟩ := Kd.N_slice HO372.out; subst eo5))
    go_loopg [10] k (fun kq v10 w' => ∃ (x10_1 : Int), v10 = .int .i64 x10_1 ∧ Aside0 (record_Name.l0 kq a0 t370 (t370.length : Int) x10_1 = some (r1, r2)) ∧ Aside0 (kq ≤ k) ∧ Aside0 (Kd.N k132 132 w' w.heap.size (fun _ => True) (.slice Ao5 t370.length co5) t370) ∧ Aside0 (Below w.heap.size w w'))
    case atStart => exact ⟨(0), (by first | rfl | (simp; done) | (simp [*]; done)), H', ⟨Nat.le_refl _⟩, ⟨by (with_reducible repeat (first | apply Kd.N_alloc | apply Kd.N_drewN | apply Kd.N_drew)); exact HO372.out⟩, ⟨by repeat (first | (with_reducible first | exact HB.out | apply below_alloc | apply pw_below_drewN | apply below_drew1) | exact HB.out)⟩⟩
    case round =>
      clear H'
      try clear c2
      try clear c2b0
      try clear c2b1
      try clear p2
      obtain ⟨x10_1, rfl, HA, HK1, HO_8, HB⟩ := hrel
      cases gk with
      | zero => exact absurd HA.out (by simp [record_Name.l0])
      | succ k1 =>
        have H := HA.out
        clear HA
        simp only [record_Name.l0] at H
        by_cases c6 : x10_1 < (t370.length : Int)
        · rw [if_pos c6] at H
          have c6b0 : decide (x10_1 < (t370.length : Int)) = true := decide_eq_true c6
          clear c6
          by_cases c7 : 0 ≤ x10_1
          · rw [if_pos c7] at H
            have c7b0 : decide (0 ≤ x10_1) = true := decide_eq_true c7
            clear c7
            by_cases c8 : x10_1 < (t370.length : Int)
            · rw [if_pos c8] at H
              have c8b0 : decide (x10_1 < (t370.length : Int)) = true := decide_eq_true c8
              clear c8
              by_cases c9 : ((rd_T132 t370 x10_1).f0) = a0
              · rw [if_pos c9] at H
                have c9b0 : (((rd_T132 t370 x10_1).f0) == a0) = true := beq_iff_eq.mpr c9
                have c9b1 : (((rd_T132 t370 x10_1).f0) != a0) = false := bne_eq_false_iff_eq.mpr c9
                clear c9
                simp only [Option.some.injEq, Prod.mk.injEq] at H
                obtain ⟨rfl, rfl⟩ := H
                have p373 : 0 ≤ (x10_1 : Int) := of_decide_eq_true (by first | (with_reducible assumption) | assumption)
                have q373 : x10_1 < (t370.length : Int) := of_decide_eq_true (by first | (with_reducible assumption) | assumption)
                obtain ⟨ad373, A373_2, c373_2, e373, hx373_0, hx373_1, hx373_2, hl373_2, hi373_2⟩ := at_T132 (Kd.N_reads' HO_8.out).2.2 x10_1 p373 q373
                cases e373
                obtain ⟨ce373, hce373, hMe373, hcc373⟩ := Kd.N_get HO_8.out z132 x10_1 p373 (by first | exact q373 | exact of_decide_eq_true (by first | (with_reducible assumption) | assumption) | (have e_ := (Kd.N_reads' HO_8.out).1; omega))
                obtain ⟨ua373_2, uc373_2, rfl, ul373_2, ge373_2⟩ := k132_openF hMe373
                have hv373_2 := hcc373 2 _ rfl
                rw [add_field _ _ 2 (by omega)] at hv373_2
                replace hv373_2 := Option.some.inj (hv373_2.symm.trans hx373_2)
                injection hv373_2 with hva_ hvn_ hvc_
                rw [hva_] at ge373_2
                rw [hvc_] at ul373_2
                have HL373_2 := Aside0.mk (show Kd.V Kd.string 9 _ w.heap.size _ _ ((rd_T132 t370 x10_1).f2) from Kd.V_mk ul373_2 ge373_2)
                clear hva_ hvn_ hvc_ ge373_2 ul373_2
                clear hcc373 hce373
                have HR373_2 := Aside0.mk hi373_2
                have HC373_2 := Aside0.mk hl373_2
                clear hi373_2 hl373_2
                replace p373 := eq_true p373
                replace q373 := eq_true q373
                go_wp2_with (first | ((with_reducible refine gate_dst (N := 5) rfl ?_); refine box_event ?hg (N := 5) ?hd (cs := #[.int .i64 0, .string (⟨#[]⟩ : ByteArray), .slice none 0 0]) (t := 132) ?hr ?_; (case hd => rfl); (case hg => rfl); (case hr => first | (go_simp; done) | (go_simp; rfl)); intro gb374 hg w10 hbox hb; have n0_ := Aside0.mk (Kd.N_below (Kd.N_elderB (by (with_reducible repeat (first | apply Kd.N_alloc | apply Kd.N_drewN | apply Kd.N_drew)); exact HO_8.out) gb374 (Nat.le_of_eq hg.symm)) hb); have n1_ := Aside0.mk (Kd.V_below (Kd.V_elderB (by (with_reducible repeat (first | apply Kd.V_alloc | apply Kd.V_drewN | apply Kd.V_drew)); exact HL373_2.out) gb374 (Nat.le_of_eq hg.symm)) hb); have n2_ := Aside0.mk (Kd.C_below (by repeat (first | (with_reducible exact HR373_2.out) | (with_reducible refine Kd.C_alloc ?_ _) | (with_reducible refine Kd.C_drewN ?_ _) | (with_reducible refine Kd.C_drew ?_) | exact HR373_2.out)) hb); have n3_ := Aside0.mk (below_step (by repeat (first | (with_reducible first | exact HB.out | apply below_alloc | apply pw_below_drewN | apply below_drew1) | exact HB.out)) hb); have n4_ := Aside0.mk (hbox); have n5_ := Aside0.mk ((by rw [hg]; exact (below_size (by repeat (first | (with_reducible first | exact HB.out | apply below_alloc | apply pw_below_drewN | apply below_drew1) | exact HB.out))) : w.heap.size ≤ gb374)); have n6_ := Aside0.mk ((by rw [hg]; exact (below_size (by repeat (first | (with_reducible first | exact HB.out | apply below_alloc | apply pw_below_drewN | apply below_drew1) | exact HB.out))) : w.heap.size ≤ gb374)); clear HO_8; clear HL373_2; clear HR373_2; clear HB; have HO_8 := n0_; have HL373_2 := n1_; have HR373_2 := n2_; have HB := n3_; have BK374 := n4_; have GW374 := n5_; have GE374 := n6_; clear n0_ n1_ n2_ n3_ n4_ n5_ n6_; clear hb hbox hg; have hcz11_0 : w10.cell? ⟨gb374, 0, none⟩ = some (.int .i64 0) := (blk_cell BK374.out 0).trans rfl; have hcz11_1 : w10.cell? ⟨gb374, 1, none⟩ = some (.string (⟨#[]⟩ : ByteArray)) := (blk_cell BK374.out 1).trans rfl; have hcz11_2 : w10.cell? ⟨gb374, 2, none⟩ = some (.slice none 0 0) := (blk_cell BK374.out 2).trans rfl; have hfz11_0 := blk_frozen BK374.out 0; have hfz11_1 := blk_frozen BK374.out 1; have hfz11_2 := blk_frozen BK374.out 2))
                go_ret2
                exact ⟨by first | rfl | (simp [errW_none, errW_some] <;> rfl) | (simp [*, errW_none, errW_some] <;> rfl), by repeat (first | (with_reducible first | exact HB.out | apply below_alloc | apply pw_below_drewN | apply below_drew1 | refine below_set ?_ GE374.out) | exact HB.out)⟩
              · rw [if_neg c9] at H
                have c9b0 : (((rd_T132 t370 x10_1).f0) == a0) = false := beq_eq_false_iff_ne.mpr c9
                have c9b1 : (((rd_T132 t370 x10_1).f0) != a0) = true := bne_iff_ne.mpr c9
                have H' := Aside0.mk H
                clear H
                have p373 : 0 ≤ (x10_1 : Int) := of_decide_eq_true (by first | (with_reducible assumption) | assumption)
                have q373 : x10_1 < (t370.length : Int) := of_decide_eq_true (by first | (with_reducible assumption) | assumption)
                obtain ⟨ad373, A373_2, c373_2, e373, hx373_0, hx373_1, hx373_2, hl373_2, hi373_2⟩ := at_T132 (Kd.N_reads' HO_8.out).2.2 x10_1 p373 q373
                cases e373
                obtain ⟨ce373, hce373, hMe373, hcc373⟩ := Kd.N_get HO_8.out z132 x10_1 p373 (by first | exact q373 | exact of_decide_eq_true (by first | (with_reducible assumption) | assumption) | (have e_ := (Kd.N_reads' HO_8.out).1; omega))
                obtain ⟨ua373_2, uc373_2, rfl, ul373_2, ge373_2⟩ := k132_openF hMe373
                have hv373_2 := hcc373 2 _ rfl
                rw [add_field _ _ 2 (by omega)] at hv373_2
                replace hv373_2 := Option.some.inj (hv373_2.symm.trans hx373_2)
                injection hv373_2 with hva_ hvn_ hvc_
                rw [hva_] at ge373_2
                rw [hvc_] at ul373_2
                have HL373_2 := Aside0.mk (show Kd.V Kd.string 9 _ w.heap.size _ _ ((rd_T132 t370 x10_1).f2) from Kd.V_mk ul373_2 ge373_2)
                clear hva_ hvn_ hvc_ ge373_2 ul373_2
                clear hcc373 hce373
                have HR373_2 := Aside0.mk hi373_2
                have HC373_2 := Aside0.mk hl373_2
                clear hi373_2 hl373_2
                replace p373 := eq_true p373
                replace q373 := eq_true q373
                go_wp2_with (first | ((with_reducible refine gate_dst (N := 5) rfl ?_); refine box_event ?hg (N := 5) ?hd (cs := #[.int .i64 0, .string (⟨#[]⟩ : ByteArray), .slice none 0 0]) (t := 132) ?hr ?_; (case hd => rfl); (case hg => rfl); (case hr => first | (go_simp; done) | (go_simp; rfl)); intro gb374 hg w12 hbox hb; have n0_ := Aside0.mk (Kd.N_below (Kd.N_elderB (by (with_reducible repeat (first | apply Kd.N_alloc | apply Kd.N_drewN | apply Kd.N_drew)); exact HO_8.out) gb374 (Nat.le_of_eq hg.symm)) hb); have n1_ := Aside0.mk (Kd.V_below (Kd.V_elderB (by (with_reducible repeat (first | apply Kd.V_alloc | apply Kd.V_drewN | apply Kd.V_drew)); exact HL373_2.out) gb374 (Nat.le_of_eq hg.symm)) hb); have n2_ := Aside0.mk (Kd.C_below (by repeat (first | (with_reducible exact HR373_2.out) | (with_reducible refine Kd.C_alloc ?_ _) | (with_reducible refine Kd.C_drewN ?_ _) | (with_reducible refine Kd.C_drew ?_) | exact HR373_2.out)) hb); have n3_ := Aside0.mk (below_step (by repeat (first | (with_reducible first | exact HB.out | apply below_alloc | apply pw_below_drewN | apply below_drew1) | exact HB.out)) hb); have n4_ := Aside0.mk (hbox); have n5_ := Aside0.mk ((by rw [hg]; exact (below_size (by repeat (first | (with_reducible first | exact HB.out | apply below_alloc | apply pw_below_drewN | apply below_drew1) | exact HB.out))) : w.heap.size ≤ gb374)); have n6_ := Aside0.mk ((by rw [hg]; exact (below_size (by repeat (first | (with_reducible first | exact HB.out | apply below_alloc | apply pw_below_drewN | apply below_drew1) | exact HB.out))) : w.heap.size ≤ gb374)); clear HO_8; clear HL373_2; clear HR373_2; clear HB; have HO_8 := n0_; have HL373_2 := n1_; have HR373_2 := n2_; have HB := n3_; have BK374 := n4_; have GW374 := n5_; have GE374 := n6_; clear n0_ n1_ n2_ n3_ n4_ n5_ n6_; clear hb hbox hg; have hcz13_0 : w12.cell? ⟨gb374, 0, none⟩ = some (.int .i64 0) := (blk_cell BK374.out 0).trans rfl; have hcz13_1 : w12.cell? ⟨gb374, 1, none⟩ = some (.string (⟨#[]⟩ : ByteArray)) := (blk_cell BK374.out 1).trans rfl; have hcz13_2 : w12.cell? ⟨gb374, 2, none⟩ = some (.slice none 0 0) := (blk_cell BK374.out 2).trans rfl; have hfz13_0 := blk_frozen BK374.out 0; have hfz13_1 := blk_frozen BK374.out 1; have hfz13_2 := blk_frozen BK374.out 2))
                go_roundg k1
                case measure => have := HK1.out; omega
                case rel => exact ⟨(wrap64 (x10_1 + 1)), (by first | rfl | (simp; done) | (simp [*]; done)), H', ⟨by have := HK1.out; omega⟩, ⟨by (with_reducible repeat (first | apply Kd.N_alloc | apply Kd.N_drewN | apply Kd.N_drew)); exact Kd.N_mono (Kd.N_far (p := ⟨gb374, 2, none⟩) (Kd.N_far (p := ⟨gb374, 1, none⟩) (Kd.N_far (p := ⟨gb374, 0, none⟩) (Kd.N_mono HO_8.out (fun k_ hk => (⟨hk, hk.2⟩ : _ ∧ k_ ≠ gb374))) (fun _ hk => hk.2) (.int .i64 ((rd_T132 t370 x10_1).f0))) (fun _ hk => hk.2) (.string ((rd_T132 t370 x10_1).f1))) (fun _ hk => hk.2) (.slice A373_2 ((rd_T132 t370 x10_1).f2).length c373_2)) (fun _ hk => trivial)⟩, ⟨by repeat (first | (with_reducible first | exact HB.out | apply below_alloc | apply pw_below_drewN | apply below_drew1 | refine below_set ?_ GE374.out) | exact HB.out)⟩⟩
            · rw [if_neg c8] at H
              exact absurd H (by simp)
          · rw [if_neg c7] at H
            exact absurd H (by simp)
        · rw [if_neg c6] at H
          have c6b0 : decide (x10_1 < (t370.length : Int)) = false := decide_eq_false c6
          clear c6
          simp only [Option.some.injEq, Prod.mk.injEq] at H
          obtain ⟨rfl, rfl⟩ := H
          go_wp2
          go_ret2
          exact ⟨by first | rfl | (simp [errW_none, errW_some] <;> rfl) | (simp [*, errW_none, errW_some] <;> rfl), by repeat (first | (with_reducible first | exact HB.out | apply below_alloc | apply pw_below_drewN | apply below_drew1) | exact HB.out)⟩

/-! ### report_Params: function 30 -/
def report_Params.f (k : Nat) (a0_0 : Int) (a0_1 : Int) (a0_2 : Int) (a0_3 : Int) (a0_4 : Int) : Option (ByteArray) := (record_Name.f k a0_0).bind fun bt376 => (if bt376.2 = 0 then ((dec_List.f k (⟨#[]⟩ : ByteArray) (([a0_1] : List Int))).bind fun t381 => ((dec_List.f k (⟨#[]⟩ : ByteArray) (([a0_2] : List Int))).bind fun t385 => ((dec_List.f k (⟨#[]⟩ : ByteArray) (([a0_3] : List Int))).bind fun t389 => ((dec_List.f k (⟨#[]⟩ : ByteArray) (([a0_4] : List Int))).bind fun t393 => ((fields_Join.f k 32 (([bt376.1, (⟨#[116, 105, 109, 101]⟩ : ByteArray), t381, (⟨#[109, 101, 109, 111, 114, 121]⟩ : ByteArray), t385, (⟨#[108, 97, 110, 101, 115]⟩ : ByteArray), t389, (⟨#[115, 105, 122, 101]⟩ : ByteArray), t393] : List ByteArray))).bind fun t397 => (some t397)))))) else (some (⟨#[63]⟩ : ByteArray)))
theorem report_Params.mono : ∀ a0 a1 a2 a3 a4 k, LeO (report_Params.f k a0 a1 a2 a3 a4) (report_Params.f (k + 1) a0 a1 a2 a3 a4) := by
  intro a0 a1 a2 a3 a4 k
  unfold report_Params.f
  repeat' first
      | (with_reducible exact dec_List.mono _ _ _)
      | (with_reducible exact fields_Join.mono _ _ _)
      | (with_reducible exact record_Name.mono _ _)
      | (with_reducible exact LeO.refl _)
      | (with_reducible exact LeO.none _)
      | (with_reducible refine LeO.ite ?_ ?_)
      | (with_reducible refine LeO.bind ?_ (fun _ => ?_))
      | exact dec_List.mono _ _ _
      | exact fields_Join.mono _ _ _
      | exact record_Name.mono _ _
      | exact LeO.none _
      | refine LeO.ite ?_ ?_
      | refine LeO.bind ?_ (fun _ => ?_)
def report_Params.T4 : Bool × List (List Nat × List Nat) := (true, [([], []), ([], []), ([1], [1]), ([2], [2]), ([3], [3]), ([], []), ([5], [5]), ([6], [6]), ([7, 4], [7]), ([], []), ([9], [9]), ([10], [10]), ([11, 8], [11]), ([], []), ([13], [13]), ([14], [14]), ([15, 12], [15]), ([0, 4, 8, 12, 16], [0, 4, 8, 12, 16]), ([17, 16], [17]), ([18, 18, 0, 1, 2, 3, 4, 5, 6, 7, 8, 9, 10, 11, 12, 13, 14, 15, 16, 17, 18], [18])])
def report_Params.B4 : List Nat := [0, 0, 2, 6, 14, 0, 32, 96, 254, 0, 512, 1536, 4094, 0, 8192, 24576, 65534, 131071, 262143, 524287]
theorem report_Params.tab4 : rtab .any (opsOf Try.f30 4) = report_Params.T4 := by kernel_rfl
theorem report_Params.bits4 : waitsOk report_Params.T4.2 report_Params.B4 = true := by kernel_rfl
set_option maxHeartbeats 8000000 in
set_option maxRecDepth 100000 in
theorem report_Params.calls (k : Nat) (a0_0 : Int) (a0_1 : Int) (a0_2 : Int) (a0_3 : Int) (a0_4 : Int) (r : ByteArray) (w : World) (h : report_Params.f k a0_0 a0_1 a0_2 a0_3 a0_4 = some r) :
    Calls Try.prog 30 #[.agg #[.int .i64 a0_0, .int .i64 a0_1, .int .i64 a0_2, .int .i64 a0_3, .int .i64 a0_4]] w fun e w' => e = .returned (.string r) ∧ Below w.heap.size w w' := by
  have hu53 := Try.underlying53
  have HB := Aside0.mk (Below.refl w.heap.size w)
  have H : ((record_Name.f k a0_0).bind fun bt376 => (if bt376.2 = 0 then ((dec_List.f k (⟨#[]⟩ : ByteArray) (([a0_1] : List Int))).bind fun t381 => ((dec_List.f k (⟨#[]⟩ : ByteArray) (([a0_2] : List Int))).bind fun t385 => ((dec_List.f k (⟨#[]⟩ : ByteArray) (([a0_3] : List Int))).bind fun t389 => ((dec_List.f k (⟨#[]⟩ : ByteArray) (([a0_4] : List Int))).bind fun t393 => ((fields_Join.f k 32 (([bt376.1, (⟨#[116, 105, 109, 101]⟩ : ByteArray), t381, (⟨#[109, 101, 109, 111, 114, 121]⟩ : ByteArray), t385, (⟨#[108, 97, 110, 101, 115]⟩ : ByteArray), t389, (⟨#[115, 105, 122, 101]⟩ : ByteArray), t393] : List ByteArray))).bind fun t397 => (some t397)))))) else (some (⟨#[63]⟩ : ByteArray)))) = some r := h
  clear h
  replace H := Option.bind_eq_some_iff.mp H
  obtain ⟨⟨t376, t377⟩, A20, H⟩ := H
  replace H : (if t377 = 0 then ((dec_List.f k (⟨#[]⟩ : ByteArray) (([a0_1] : List Int))).bind fun t381 => ((dec_List.f k (⟨#[]⟩ : ByteArray) (([a0_2] : List Int))).bind fun t385 => ((dec_List.f k (⟨#[]⟩ : ByteArray) (([a0_3] : List Int))).bind fun t389 => ((dec_List.f k (⟨#[]⟩ : ByteArray) (([a0_4] : List Int))).bind fun t393 => ((fields_Join.f k 32 (([t376, (⟨#[116, 105, 109, 101]⟩ : ByteArray), t381, (⟨#[109, 101, 109, 111, 114, 121]⟩ : ByteArray), t385, (⟨#[108, 97, 110, 101, 115]⟩ : ByteArray), t389, (⟨#[115, 105, 122, 101]⟩ : ByteArray), t393] : List ByteArray))).bind fun t397 => (some t397)))))) else (some (⟨#[63]⟩ : ByteArray))) = some r := H
  have A2 := Aside0.mk A20
  clear A20
  by_cases c3 : t377 = 0
  · rw [if_pos c3] at H
    have c3b0 : (t377 == 0) = true := beq_iff_eq.mpr c3
    have c3b1 : (t377 != 0) = false := bne_eq_false_iff_eq.mpr c3
    clear c3
    obtain ⟨y378, hy378⟩ : ∃ y_ : List Int, y_ = (([a0_1] : List Int)) := ⟨_, rfl⟩
    replace H : ((dec_List.f k (⟨#[]⟩ : ByteArray) y378).bind fun t381 => ((dec_List.f k (⟨#[]⟩ : ByteArray) (([a0_2] : List Int))).bind fun t385 => ((dec_List.f k (⟨#[]⟩ : ByteArray) (([a0_3] : List Int))).bind fun t389 => ((dec_List.f k (⟨#[]⟩ : ByteArray) (([a0_4] : List Int))).bind fun t393 => ((fields_Join.f k 32 (([t376, (⟨#[116, 105, 109, 101]⟩ : ByteArray), t381, (⟨#[109, 101, 109, 111, 114, 121]⟩ : ByteArray), t385, (⟨#[108, 97, 110, 101, 115]⟩ : ByteArray), t389, (⟨#[115, 105, 122, 101]⟩ : ByteArray), t393] : List ByteArray))).bind fun t397 => (some t397)))))) = some r := by first | (rw [hy378]; with_reducible exact H) | (have H2_ := (Option.bind_some _ _).symm.trans H; rw [hy378]; with_reducible exact H2_) | (have H2_ := (Option.bind_some _ _).symm.trans H; with_reducible exact H2_) | with_reducible exact H | (rw [hy378]; exact H) | exact H
    have Ny378 := Aside0.mk hy378
    clear hy378
    replace H := Option.bind_eq_some_iff.mp H
    obtain ⟨t381, A40, H⟩ := H
    replace H : ((dec_List.f k (⟨#[]⟩ : ByteArray) (([a0_2] : List Int))).bind fun t385 => ((dec_List.f k (⟨#[]⟩ : ByteArray) (([a0_3] : List Int))).bind fun t389 => ((dec_List.f k (⟨#[]⟩ : ByteArray) (([a0_4] : List Int))).bind fun t393 => ((fields_Join.f k 32 (([t376, (⟨#[116, 105, 109, 101]⟩ : ByteArray), t381, (⟨#[109, 101, 109, 111, 114, 121]⟩ : ByteArray), t385, (⟨#[108, 97, 110, 101, 115]⟩ : ByteArray), t389, (⟨#[115, 105, 122, 101]⟩ : ByteArray), t393] : List ByteArray))).bind fun t397 => (some t397))))) = some r := H
    have A4 := Aside0.mk A40
    clear A40
    obtain ⟨y382, hy382⟩ : ∃ y_ : List Int, y_ = (([a0_2] : List Int)) := ⟨_, rfl⟩
    replace H : ((dec_List.f k (⟨#[]⟩ : ByteArray) y382).bind fun t385 => ((dec_List.f k (⟨#[]⟩ : ByteArray) (([a0_3] : List Int))).bind fun t389 => ((dec_List.f k (⟨#[]⟩ : ByteArray) (([a0_4] : List Int))).bind fun t393 => ((fields_Join.f k 32 (([t376, (⟨#[116, 105, 109, 101]⟩ : ByteArray), t381, (⟨#[109, 101, 109, 111, 114, 121]⟩ : ByteArray), t385, (⟨#[108, 97, 110, 101, 115]⟩ : ByteArray), t389, (⟨#[115, 105, 122, 101]⟩ : ByteArray), t393] : List ByteArray))).bind fun t397 => (some t397))))) = some r := by first | (rw [hy382]; with_reducible exact H) | (have H2_ := (Option.bind_some _ _).symm.trans H; rw [hy382]; with_reducible exact H2_) | (have H2_ := (Option.bind_some _ _).symm.trans H; with_reducible exact H2_) | with_reducible exact H | (rw [hy382]; exact H) | exact H
    have Ny382 := Aside0.mk hy382
    clear hy382
    replace H := Option.bind_eq_some_iff.mp H
    obtain ⟨t385, A50, H⟩ := H
    replace H : ((dec_List.f k (⟨#[]⟩ : ByteArray) (([a0_3] : List Int))).bind fun t389 => ((dec_List.f k (⟨#[]⟩ : ByteArray) (([a0_4] : List Int))).bind fun t393 => ((fields_Join.f k 32 (([t376, (⟨#[116, 105, 109, 101]⟩ : ByteArray), t381, (⟨#[109, 101, 109, 111, 114, 121]⟩ : ByteArray), t385, (⟨#[108, 97, 110, 101, 115]⟩ : ByteArray), t389, (⟨#[115, 105, 122, 101]⟩ : ByteArray), t393] : List ByteArray))).bind fun t397 => (some t397)))) = some r := H
    have A5 := Aside0.mk A50
    clear A50
    obtain ⟨y386, hy386⟩ : ∃ y_ : List Int, y_ = (([a0_3] : List Int)) := ⟨_, rfl⟩
    replace H : ((dec_List.f k (⟨#[]⟩ : ByteArray) y386).bind fun t389 => ((dec_List.f k (⟨#[]⟩ : ByteArray) (([a0_4] : List Int))).bind fun t393 => ((fields_Join.f k 32 (([t376, (⟨#[116, 105, 109, 101]⟩ : ByteArray), t381, (⟨#[109, 101, 109, 111, 114, 121]⟩ : ByteArray), t385, (⟨#[108, 97, 110, 101, 115]⟩ : ByteArray), t389, (⟨#[115, 105, 122, 101]⟩ : ByteArray), t393] : List ByteArray))).bind fun t397 => (some t397)))) = some r := by first | (rw [hy386]; with_reducible exact H) | (have H2_ := (Option.bind_some _ _).symm.trans H; rw [hy386]; with_reducible exact H2_) | (have H2_ := (Option.bind_some _ _).symm.trans H; with_reducible exact H2_) | with_reducible exact H | (rw [hy386]; exact H) | exact H
    have Ny386 := Aside0.mk hy386
    clear hy386
    replace H := Option.bind_eq_some_iff.mp H
    obtain ⟨t389, A60, H⟩ := H
    replace H : ((dec_List.f k (⟨#[]⟩ : ByteArray) (([a0_4] : List Int))).bind fun t393 => ((fields_Join.f k 32 (([t376, (⟨#[116, 105, 109, 101]⟩ : ByteArray), t381, (⟨#[109, 101, 109, 111, 114, 121]⟩ : ByteArray), t385, (⟨#[108, 97, 110, 101, 115]⟩ : ByteArray), t389, (⟨#[115, 105, 122, 101]⟩ : ByteArray), t393] : List ByteArray))).bind fun t397 => (some t397))) = some r := H
    have A6 := Aside0.mk A60
    clear A60
    obtain ⟨y390, hy390⟩ : ∃ y_ : List Int, y_ = (([a0_4] : List Int)) := ⟨_, rfl⟩
    replace H : ((dec_List.f k (⟨#[]⟩ : ByteArray) y390).bind fun t393 => ((fields_Join.f k 32 (([t376, (⟨#[116, 105, 109, 101]⟩ : ByteArray), t381, (⟨#[109, 101, 109, 111, 114, 121]⟩ : ByteArray), t385, (⟨#[108, 97, 110, 101, 115]⟩ : ByteArray), t389, (⟨#[115, 105, 122, 101]⟩ : ByteArray), t393] : List ByteArray))).bind fun t397 => (some t397))) = some r := by first | (rw [hy390]; with_reducible exact H) | (have H2_ := (Option.bind_some _ _).symm.trans H; rw [hy390]; with_reducible exact H2_) | (have H2_ := (Option.bind_some _ _).symm.trans H; with_reducible exact H2_) | with_reducible exact H | (rw [hy390]; exact H) | exact H
    have Ny390 := Aside0.mk hy390
    clear hy390
    replace H := Option.bind_eq_some_iff.mp H
    obtain ⟨t393, A70, H⟩ := H
    replace H : ((fields_Join.f k 32 (([t376, (⟨#[116, 105, 109, 101]⟩ : ByteArray), t381, (⟨#[109, 101, 109, 111, 114, 121]⟩ : ByteArray), t385, (⟨#[108, 97, 110, 101, 115]⟩ : ByteArray), t389, (⟨#[115, 105, 122, 101]⟩ : ByteArray), t393] : List ByteArray))).bind fun t397 => (some t397)) = some r := H
    have A7 := Aside0.mk A70
    clear A70
    obtain ⟨y394, hy394⟩ : ∃ y_ : List ByteArray, y_ = (([t376, (⟨#[116, 105, 109, 101]⟩ : ByteArray), t381, (⟨#[109, 101, 109, 111, 114, 121]⟩ : ByteArray), t385, (⟨#[108, 97, 110, 101, 115]⟩ : ByteArray), t389, (⟨#[115, 105, 122, 101]⟩ : ByteArray), t393] : List ByteArray)) := ⟨_, rfl⟩
    replace H : ((fields_Join.f k 32 y394).bind fun t397 => (some t397)) = some r := by first | (rw [hy394]; with_reducible exact H) | (have H2_ := (Option.bind_some _ _).symm.trans H; rw [hy394]; with_reducible exact H2_) | (have H2_ := (Option.bind_some _ _).symm.trans H; with_reducible exact H2_) | with_reducible exact H | (rw [hy394]; exact H) | exact H
    have Ny394 := Aside0.mk hy394
    clear hy394
    replace H := Option.bind_eq_some_iff.mp H
    obtain ⟨t397, A80, H⟩ := H
    replace H : (some t397) = some r := H
    have A8 := Aside0.mk A80
    clear A80
    obtain rfl := Option.some.inj H
    go_enter Try.func30, Try.ntmps30
    try go_wp2_with (first | ((with_reducible refine gate_dst (N := 1) rfl ?_); refine box_event ?hg (N := 1) ?hd (cs := #[.int .i64 a0_0, .int .i64 a0_1, .int .i64 a0_2, .int .i64 a0_3, .int .i64 a0_4]) (t := 53) ?hr ?_; (case hd => rfl); (case hg => rfl); (case hr => first | (go_simp; done) | (go_simp; rfl)); intro gb375 hg w9 hbox hb; have n0_ := Aside0.mk (below_step (by repeat (first | (with_reducible first | exact HB.out | apply below_alloc | apply pw_below_drewN | apply below_drew1) | exact HB.out)) hb); have n1_ := Aside0.mk (hbox); have n2_ := Aside0.mk ((by rw [hg]; exact (below_size (by repeat (first | (with_reducible first | exact HB.out | apply below_alloc | apply pw_below_drewN | apply below_drew1) | exact HB.out))) : w.heap.size ≤ gb375)); have n3_ := Aside0.mk ((by rw [hg]; exact (below_size (by repeat (first | (with_reducible first | exact HB.out | apply below_alloc | apply pw_below_drewN | apply below_drew1) | exact HB.out))) : w.heap.size ≤ gb375)); clear HB; have HB := n0_; have BK375 := n1_; have GW375 := n2_; have GE375 := n3_; clear n0_ n1_ n2_ n3_; clear hb hbox hg; have hcz10_0 : w9.cell? ⟨gb375, 0, none⟩ = some (.int .i64 a0_0) := (blk_cell BK375.out 0).trans rfl; have hcz10_1 : w9.cell? ⟨gb375, 1, none⟩ = some (.int .i64 a0_1) := (blk_cell BK375.out 1).trans rfl; have hcz10_2 : w9.cell? ⟨gb375, 2, none⟩ = some (.int .i64 a0_2) := (blk_cell BK375.out 2).trans rfl; have hcz10_3 : w9.cell? ⟨gb375, 3, none⟩ = some (.int .i64 a0_3) := (blk_cell BK375.out 3).trans rfl; have hcz10_4 : w9.cell? ⟨gb375, 4, none⟩ = some (.int .i64 a0_4) := (blk_cell BK375.out 4).trans rfl; have hfz10_0 := blk_frozen BK375.out 0; have hfz10_1 := blk_frozen BK375.out 1; have hfz10_2 := blk_frozen BK375.out 2; have hfz10_3 := blk_frozen BK375.out 3; have hfz10_4 := blk_frozen BK375.out 4) | ((with_reducible refine gate_callee (f := 71) rfl ?_); refine goesL_ (some 8) rfl rfl Try.func71 (by kernel_rfl) rfl #[.int .i64 a0_0] rfl (by (try simp only [List.map_toArray, List.map_cons, List.map_nil]); first | done | rfl | (simp only [List.length_drop, List.length_take]; rfl)) ?_; (with_reducible refine (record_Name.calls k a0_0 t376 t377 _ A2.out).mono ?_); rintro e w11 ⟨rfl, hb⟩; refine ⟨_, rfl, ?_⟩; have n0_ := Aside0.mk (blk_below (g := gb375) (o := .cells #[.int .i64 a0_0, .int .i64 a0_1, .int .i64 a0_2, .int .i64 a0_3, .int .i64 a0_4] 53 (0, 0)) (by (with_reducible repeat (first | refine blk_drewN ?_ _ | refine blk_drew ?_ | refine blk_alloc ?_ _)); exact BK375.out) hb); have n1_ := Aside0.mk (below_step (by repeat (first | (with_reducible first | exact HB.out | apply below_alloc | apply pw_below_drewN | apply below_drew1 | refine below_set ?_ GE375.out) | exact HB.out)) hb); clear BK375; clear HB; have BK375 := n0_; have HB := n1_; clear n0_ n1_; (try clear hb); (try clear hb2); (try clear hk); (try clear hi)))
    have n0_ := Aside0.mk (blk_drew BK375.out)
    have n1_ := Aside0.mk (below_drew1 HB.out)
    clear BK375
    clear HB
    have BK375 := n0_
    have HB := n1_
    clear n0_ n1_
    refine start_ (n := 20) (S := fun w' => True) (ds := []) #[false, false, false, false, false, false, false, false, false, false, false, false, false, false, false, false, false, false, false, false] (by kernel_rfl) rfl rfl trivial (fun hHeld => ?_); refine with_tabW report_Params.tab4 report_Params.bits4 (fun HT_ HW_ => ?_)
    generalize w11.drew = w12 at BK375 HB hHeld ⊢
    refine pure_ (i := 0) (N := some 13) (v := ?_) (a' := ?_) #[true, false, false, false, false, false, false, false, false, false, false, false, false, false, false, false, false, false, false, false] rfl rfl (any_of HT_.out (by kernel_rfl)) (fun _ _ _ h => h) (Or.inl ⟨by rfl, ?_⟩) ?_ ?_
    rotate_left
    · intro w'
      go_simp
      with_reducible rfl
    rotate_left
    · simp only [Act.put, List.setIfInBounds_toArray, List.set_cons_zero, List.set_cons_succ, i64_w, i32_w]
      rfl
    refine pure_ (i := 1) (N := some 14) (v := ?_) (a' := ?_) #[true, true, false, false, false, false, false, false, false, false, false, false, false, false, false, false, false, false, false, false] rfl rfl (any_of HT_.out (by kernel_rfl)) (fun _ _ _ h => h) (Or.inl ⟨by rfl, ?_⟩) ?_ ?_
    rotate_left
    · intro w'
      go_simp
      with_reducible rfl
    rotate_left
    · simp only [Act.put, List.setIfInBounds_toArray, List.set_cons_zero, List.set_cons_succ, i64_w, i32_w]
      rfl
    refine pure_ (i := 5) (N := some 18) (v := ?_) (a' := ?_) #[true, true, false, false, false, true, false, false, false, false, false, false, false, false, false, false, false, false, false, false] rfl rfl (any_of HT_.out (by kernel_rfl)) (fun _ _ _ h => h) (Or.inl ⟨by rfl, ?_⟩) ?_ ?_
    rotate_left
    · intro w'
      go_simp
      with_reducible rfl
    rotate_left
    · simp only [Act.put, List.setIfInBounds_toArray, List.set_cons_zero, List.set_cons_succ, i64_w, i32_w]
      rfl
    refine pure_ (i := 9) (N := some 22) (v := ?_) (a' := ?_) #[true, true, false, false, false, true, false, false, false, true, false, false, false, false, false, false, false, false, false, false] rfl rfl (any_of HT_.out (by kernel_rfl)) (fun _ _ _ h => h) (Or.inl ⟨by rfl, ?_⟩) ?_ ?_
    rotate_left
    · intro w'
      go_simp
      with_reducible rfl
    rotate_left
    · simp only [Act.put, List.setIfInBounds_toArray, List.set_cons_zero, List.set_cons_succ, i64_w, i32_w]
      rfl
    refine pure_ (i := 13) (N := some 26) (v := ?_) (a' := ?_) #[true, true, false, false, false, true, false, false, false, true, false, false, false, true, false, false, false, false, false, false] rfl rfl (any_of HT_.out (by kernel_rfl)) (fun _ _ _ h => h) (Or.inl ⟨by rfl, ?_⟩) ?_ ?_
    rotate_left
    · intro w'
      go_simp
      with_reducible rfl
    rotate_left
    · simp only [Act.put, List.setIfInBounds_toArray, List.set_cons_zero, List.set_cons_succ, i64_w, i32_w]
      rfl
    refine inv_at [2, 3, 4, 6, 7, 8, 10, 11, 12, 14, 15, 16, 17, 18, 19] (fun a0_ b a w' => ∃ (v379 : Value) (v383 : Value) (v387 : Value) (v391 : Value) (v395 : Value), a = putSel a0_ b [(2, 15, .int .i64 a0_1), (3, 16, v379), (4, 17, .string t381), (6, 19, .int .i64 a0_2), (7, 20, v383), (8, 21, .string t385), (10, 23, .int .i64 a0_3), (11, 24, v387), (12, 25, .string t389), (14, 27, .int .i64 a0_4), (15, 28, v391), (16, 29, .string t393), (17, 30, v395), (18, 31, .string t397), (19, 2, .string t397)] ∧ (w'.heap[gb375]? = some (.cells #[.int .i64 a0_0, .int .i64 a0_1, .int .i64 a0_2, .int .i64 a0_3, .int .i64 a0_4] 53 (0, 0))) ∧ (Below w.heap.size w w') ∧ (b 3 = true → Kd.R (Kd.int .i64) 3 w' w.heap.size (fun _ => True) v379 y378) ∧ (b 7 = true → Kd.R (Kd.int .i64) 3 w' w.heap.size (fun _ => True) v383 y382) ∧ (b 11 = true → Kd.R (Kd.int .i64) 3 w' w.heap.size (fun _ => True) v387 y386) ∧ (b 15 = true → Kd.R (Kd.int .i64) 3 w' w.heap.size (fun _ => True) v391 y390) ∧ (b 17 = true → Kd.R Kd.string 9 w' w.heap.size (fun _ => True) v395 y394)) HT_.out HW_.out (by kernel_rfl) (by kernel_rfl) ?_ ?_ ?_
    · exact ⟨.bool false, .bool false, .bool false, .bool false, .bool false, by simp only [putSel, Bool.false_eq_true, if_false], BK375.out, HB.out, fun h_ => absurd h_ (by decide), fun h_ => absurd h_ (by decide), fun h_ => absurd h_ (by decide), fun h_ => absurd h_ (by decide), fun h_ => absurd h_ (by decide)⟩
    · skip
      clear BK375 HB
      refine steps_cons ?_ ?_
      · rintro b a w' ⟨v379, v383, v387, v391, v395, ha, Q_BK375, Q_HB, Q_HO380, Q_HO384, Q_HO388, Q_HO392, Q_HO396⟩ hb_ hon hoff
        refine ⟨_, rfl, fun K hK => ?_⟩
        have e14 : a.tmps[14]? = some (.pointer (some ⟨gb375, 1, none⟩)) := by rw [ha]; exact (putSel_off rfl).trans rfl
        replace ha := Aside0.mk ha
        have BK375 := Aside0.mk Q_BK375
        have HB := Aside0.mk Q_HB
        have hc0_ : w'.cell? ⟨gb375, 0, none⟩ = some (.int .i64 a0_0) := (blk_cell BK375.out 0).trans rfl
        have hc1_ : w'.cell? ⟨gb375, 1, none⟩ = some (.int .i64 a0_1) := (blk_cell BK375.out 1).trans rfl
        have hc2_ : w'.cell? ⟨gb375, 2, none⟩ = some (.int .i64 a0_2) := (blk_cell BK375.out 2).trans rfl
        have hc3_ : w'.cell? ⟨gb375, 3, none⟩ = some (.int .i64 a0_3) := (blk_cell BK375.out 3).trans rfl
        have hc4_ : w'.cell? ⟨gb375, 4, none⟩ = some (.int .i64 a0_4) := (blk_cell BK375.out 4).trans rfl
        refine value_ (w1 := w') (v := .int .i64 a0_1) (by rfl) rfl ?_ ?_
        · go_simp
          (try simp only [i64_w])
          try rfl
        refine hK.out _ _ ⟨v379, v383, v387, v391, v395, (by rw [ha.out]; exact putSel_upk 0 hb_ rfl rfl rfl), Q_BK375, Q_HB, fun h0_ => absurd ((hoff 3 (by kernel_rfl)).symm.trans h0_) (by decide), Q_HO384, Q_HO388, Q_HO392, fun h0_ => absurd ((hoff 17 (by kernel_rfl)).symm.trans h0_) (by decide)⟩
      refine steps_cons ?_ ?_
      · rintro b a w' ⟨v379, v383, v387, v391, v395, ha, Q_BK375, Q_HB, Q_HO380, Q_HO384, Q_HO388, Q_HO392, Q_HO396⟩ hb_ hon hoff
        refine ⟨_, rfl, fun K hK => ?_⟩
        have e15 : a.tmps[15]? = some (.int .i64 a0_1) := by rw [ha]; exact putSel_on (e := (2, 15, .int .i64 a0_1)) 0 rfl rfl (hon 2 (by kernel_rfl)) rfl
        replace ha := Aside0.mk ha
        have BK375 := Aside0.mk Q_BK375
        have HB := Aside0.mk Q_HB
        refine Kd.R_lit_step (Kd.int .i64) _ 3 ?hg (N := 16) ?hd (xs := ([a0_1] : List Int)) (inner := [.int .i64 a0_1]) (ok := fun _ => True) (okp := fun _ => True) ?hr ?hp (fun _ hk => hk) trivial (Below.refl _ _) (Nat.le_refl _) (by simp) ?_; (case hd => rfl); (case hg => rfl); (case hr => first | (go_simp; done) | (go_simp; rfl)); (case hp => exact (Reps.one (show Kd.M (Kd.int .i64) _ _ _ a0_1 [.int .i64 a0_1] from rfl) (Reps.none _ _)))
        intro v379 w13 ho14 hb hg_ hnew_
        clear hg_ hnew_
        (first | rw [← Ny378.out] at ho14 | (simp only [Int.reduceToNat] at ho14; rw [← Ny378.out] at ho14))
        have n0_ := Aside0.mk (Kd.R_lower ho14 (below_size (by repeat (first | (with_reducible first | exact HB.out | apply below_alloc | apply pw_below_drewN | apply below_drew1 | refine below_set ?_ GE375.out) | exact HB.out))))
        have n1_ := Aside0.mk (blk_below (g := gb375) (o := .cells #[.int .i64 a0_0, .int .i64 a0_1, .int .i64 a0_2, .int .i64 a0_3, .int .i64 a0_4] 53 (0, 0)) (by (with_reducible repeat (first | refine blk_drewN ?_ _ | refine blk_drew ?_ | refine blk_alloc ?_ _)); exact BK375.out) hb)
        have n2_ := Aside0.mk (below_step (by repeat (first | (with_reducible first | exact HB.out | apply below_alloc | apply pw_below_drewN | apply below_drew1 | refine below_set ?_ GE375.out) | exact HB.out)) hb)
        have z_HO384 := fun (h0_ : b 7 = true) => (show Kd.R (Kd.int .i64) 3 w13 w.heap.size (fun _ => True) v383 y382 from by first | exact (Kd.R_elder' (by (with_reducible repeat (first | apply Kd.R_alloc | apply Kd.R_drewN | apply Kd.R_drew)); exact (Q_HO384 h0_)) (Kd.R_base ho14) hb) | exact Kd.R_mono (Kd.R_elder' (by (with_reducible repeat (first | apply Kd.R_alloc | apply Kd.R_drewN | apply Kd.R_drew)); exact (Q_HO384 h0_)) (Kd.R_base ho14) hb) (fun _ h_ => by first | trivial | exact h_ | exact h_.1))
        have z_HO388 := fun (h0_ : b 11 = true) => (show Kd.R (Kd.int .i64) 3 w13 w.heap.size (fun _ => True) v387 y386 from by first | exact (Kd.R_elder' (by (with_reducible repeat (first | apply Kd.R_alloc | apply Kd.R_drewN | apply Kd.R_drew)); exact (Q_HO388 h0_)) (Kd.R_base ho14) hb) | exact Kd.R_mono (Kd.R_elder' (by (with_reducible repeat (first | apply Kd.R_alloc | apply Kd.R_drewN | apply Kd.R_drew)); exact (Q_HO388 h0_)) (Kd.R_base ho14) hb) (fun _ h_ => by first | trivial | exact h_ | exact h_.1))
        have z_HO392 := fun (h0_ : b 15 = true) => (show Kd.R (Kd.int .i64) 3 w13 w.heap.size (fun _ => True) v391 y390 from by first | exact (Kd.R_elder' (by (with_reducible repeat (first | apply Kd.R_alloc | apply Kd.R_drewN | apply Kd.R_drew)); exact (Q_HO392 h0_)) (Kd.R_base ho14) hb) | exact Kd.R_mono (Kd.R_elder' (by (with_reducible repeat (first | apply Kd.R_alloc | apply Kd.R_drewN | apply Kd.R_drew)); exact (Q_HO392 h0_)) (Kd.R_base ho14) hb) (fun _ h_ => by first | trivial | exact h_ | exact h_.1))
        clear BK375
        clear HB
        have HO380 := n0_
        have BK375 := n1_
        have HB := n2_
        clear n0_ n1_ n2_
        clear hb ho14
        refine hK.out _ _ ⟨v379, v383, v387, v391, v395, (by rw [ha.out]; exact putSel_upk 1 hb_ rfl rfl rfl), (by (with_reducible repeat (first | refine blk_drewN ?_ _ | refine blk_drew ?_ | refine blk_alloc ?_ _)); exact BK375.out), (by repeat (first | (with_reducible first | exact HB.out | apply below_alloc | apply pw_below_drewN | apply below_drew1 | refine below_set ?_ GE375.out) | exact HB.out)), fun _ => (by (with_reducible repeat (first | apply Kd.R_alloc | apply Kd.R_drewN | apply Kd.R_drew)); exact HO380.out), z_HO384, z_HO388, z_HO392, fun h0_ => absurd ((hoff 17 (by kernel_rfl)).symm.trans h0_) (by decide)⟩
      refine steps_cons ?_ ?_
      · rintro b a w' ⟨v379, v383, v387, v391, v395, ha, Q_BK375, Q_HB, Q_HO380, Q_HO384, Q_HO388, Q_HO392, Q_HO396⟩ hb_ hon hoff
        refine ⟨_, rfl, fun K hK => ?_⟩
        have e16 : a.tmps[16]? = some (v379) := by rw [ha]; exact putSel_on (e := (3, 16, v379)) 1 rfl rfl (hon 3 (by kernel_rfl)) rfl
        replace ha := Aside0.mk ha
        have BK375 := Aside0.mk Q_BK375
        have HB := Aside0.mk Q_HB
        have HO380 := Aside0.mk (Q_HO380 (hon 3 (by kernel_rfl)))
        obtain ⟨Ao16, co16, eo16⟩ := Kd.R_slice HO380.out
        (first | subst eo16 | (injection eo16 with f1_ f2_ f3_; have f4_ := f1_.symm; have f5_ := f3_.symm; clear f1_ f2_ f3_; subst f4_; subst f5_))
        refine goes_ Try.func67 (by kernel_rfl) rfl #[.string (⟨#[]⟩ : ByteArray), .slice Ao16 y378.length co16] (by rfl) rfl rfl (by first | (simp only [List.map_toArray, List.map_cons, List.map_nil, Act.eval, Array.getD_eq_getD_getElem?, Option.getD_some, e16]; done) | (simp only [List.map_toArray, List.map_cons, List.map_nil, Act.eval, Array.getD_eq_getD_getElem?, Option.getD_some, e16]; rfl)) ?_
        with_reducible refine (dec_List.calls k (⟨#[]⟩ : ByteArray) _ _ y378 t381 _ ?side1 ?side2 A4.out).mono ?_
        (case side1 => repeat (first | exact (Kd.R_reads' HO380.out).2.2 | (with_reducible refine Kd.C_alloc ?_ _) | (with_reducible refine Kd.C_drewN ?_ _) | (with_reducible refine Kd.C_drew ?_)))
        (case side2 => exact (Kd.R_reads' HO380.out).2.1)
        rintro e w17 ⟨rfl, hb⟩
        refine ⟨_, rfl, ?_⟩
        have n0_ := Aside0.mk (Kd.R_below (by (with_reducible repeat (first | apply Kd.R_alloc | apply Kd.R_drewN | apply Kd.R_drew)); exact HO380.out) hb)
        have n1_ := Aside0.mk (blk_below (g := gb375) (o := .cells #[.int .i64 a0_0, .int .i64 a0_1, .int .i64 a0_2, .int .i64 a0_3, .int .i64 a0_4] 53 (0, 0)) (by (with_reducible repeat (first | refine blk_drewN ?_ _ | refine blk_drew ?_ | refine blk_alloc ?_ _)); exact BK375.out) hb)
        have n2_ := Aside0.mk (below_step (by repeat (first | (with_reducible first | exact HB.out | apply below_alloc | apply pw_below_drewN | apply below_drew1 | refine below_set ?_ GE375.out) | exact HB.out)) hb)
        have z_HO384 := fun (h0_ : b 7 = true) => (show Kd.R (Kd.int .i64) 3 w17 w.heap.size (fun _ => True) v383 y382 from by first | exact (Kd.R_below (by (with_reducible repeat (first | apply Kd.R_alloc | apply Kd.R_drewN | apply Kd.R_drew)); exact (Q_HO384 h0_)) hb) | exact Kd.R_mono (Kd.R_below (by (with_reducible repeat (first | apply Kd.R_alloc | apply Kd.R_drewN | apply Kd.R_drew)); exact (Q_HO384 h0_)) hb) (fun _ h_ => by first | trivial | exact h_ | exact h_.1))
        have z_HO388 := fun (h0_ : b 11 = true) => (show Kd.R (Kd.int .i64) 3 w17 w.heap.size (fun _ => True) v387 y386 from by first | exact (Kd.R_below (by (with_reducible repeat (first | apply Kd.R_alloc | apply Kd.R_drewN | apply Kd.R_drew)); exact (Q_HO388 h0_)) hb) | exact Kd.R_mono (Kd.R_below (by (with_reducible repeat (first | apply Kd.R_alloc | apply Kd.R_drewN | apply Kd.R_drew)); exact (Q_HO388 h0_)) hb) (fun _ h_ => by first | trivial | exact h_ | exact h_.1))
        have z_HO392 := fun (h0_ : b 15 = true) => (show Kd.R (Kd.int .i64) 3 w17 w.heap.size (fun _ => True) v391 y390 from by first | exact (Kd.R_below (by (with_reducible repeat (first | apply Kd.R_alloc | apply Kd.R_drewN | apply Kd.R_drew)); exact (Q_HO392 h0_)) hb) | exact Kd.R_mono (Kd.R_below (by (with_reducible repeat (first | apply Kd.R_alloc | apply Kd.R_drewN | apply Kd.R_drew)); exact (Q_HO392 h0_)) hb) (fun _ h_ => by first | trivial | exact h_ | exact h_.1))
        clear HO380
        clear BK375
        clear HB
        have HO380 := n0_
        have BK375 := n1_
        have HB := n2_
        clear n0_ n1_ n2_
        (try clear hb)
        (try clear hb2)
        (try clear hk)
        (try clear hi)
        refine hK.out _ _ ⟨.slice Ao16 y378.length co16, v383, v387, v391, v395, (by rw [ha.out]; exact putSel_upk 2 hb_ rfl rfl rfl), (by (with_reducible repeat (first | refine blk_drewN ?_ _ | refine blk_drew ?_ | refine blk_alloc ?_ _)); exact BK375.out), (by repeat (first | (with_reducible first | exact HB.out | apply below_alloc | apply pw_below_drewN | apply below_drew1 | refine below_set ?_ GE375.out) | exact HB.out)), fun _ => (by (with_reducible repeat (first | apply Kd.R_alloc | apply Kd.R_drewN | apply Kd.R_drew)); exact HO380.out), z_HO384, z_HO388, z_HO392, fun h0_ => absurd ((hoff 17 (by kernel_rfl)).symm.trans h0_) (by decide)⟩
      refine steps_cons ?_ ?_
      · rintro b a w' ⟨v379, v383, v387, v391, v395, ha, Q_BK375, Q_HB, Q_HO380, Q_HO384, Q_HO388, Q_HO392, Q_HO396⟩ hb_ hon hoff
        refine ⟨_, rfl, fun K hK => ?_⟩
        have e18 : a.tmps[18]? = some (.pointer (some ⟨gb375, 2, none⟩)) := by rw [ha]; exact (putSel_off rfl).trans rfl
        replace ha := Aside0.mk ha
        have BK375 := Aside0.mk Q_BK375
        have HB := Aside0.mk Q_HB
        have hc0_ : w'.cell? ⟨gb375, 0, none⟩ = some (.int .i64 a0_0) := (blk_cell BK375.out 0).trans rfl
        have hc1_ : w'.cell? ⟨gb375, 1, none⟩ = some (.int .i64 a0_1) := (blk_cell BK375.out 1).trans rfl
        have hc2_ : w'.cell? ⟨gb375, 2, none⟩ = some (.int .i64 a0_2) := (blk_cell BK375.out 2).trans rfl
        have hc3_ : w'.cell? ⟨gb375, 3, none⟩ = some (.int .i64 a0_3) := (blk_cell BK375.out 3).trans rfl
        have hc4_ : w'.cell? ⟨gb375, 4, none⟩ = some (.int .i64 a0_4) := (blk_cell BK375.out 4).trans rfl
        refine value_ (w1 := w') (v := .int .i64 a0_2) (by rfl) rfl ?_ ?_
        · go_simp
          (try simp only [i64_w])
          try rfl
        refine hK.out _ _ ⟨v379, v383, v387, v391, v395, (by rw [ha.out]; exact putSel_upk 3 hb_ rfl rfl rfl), Q_BK375, Q_HB, Q_HO380, fun h0_ => absurd ((hoff 7 (by kernel_rfl)).symm.trans h0_) (by decide), Q_HO388, Q_HO392, fun h0_ => absurd ((hoff 17 (by kernel_rfl)).symm.trans h0_) (by decide)⟩
      refine steps_cons ?_ ?_
      · rintro b a w' ⟨v379, v383, v387, v391, v395, ha, Q_BK375, Q_HB, Q_HO380, Q_HO384, Q_HO388, Q_HO392, Q_HO396⟩ hb_ hon hoff
        refine ⟨_, rfl, fun K hK => ?_⟩
        have e19 : a.tmps[19]? = some (.int .i64 a0_2) := by rw [ha]; exact putSel_on (e := (6, 19, .int .i64 a0_2)) 3 rfl rfl (hon 6 (by kernel_rfl)) rfl
        replace ha := Aside0.mk ha
        have BK375 := Aside0.mk Q_BK375
        have HB := Aside0.mk Q_HB
        refine Kd.R_lit_step (Kd.int .i64) _ 3 ?hg (N := 20) ?hd (xs := ([a0_2] : List Int)) (inner := [.int .i64 a0_2]) (ok := fun _ => True) (okp := fun _ => True) ?hr ?hp (fun _ hk => hk) trivial (Below.refl _ _) (Nat.le_refl _) (by simp) ?_; (case hd => rfl); (case hg => rfl); (case hr => first | (go_simp; done) | (go_simp; rfl)); (case hp => exact (Reps.one (show Kd.M (Kd.int .i64) _ _ _ a0_2 [.int .i64 a0_2] from rfl) (Reps.none _ _)))
        intro v383 w13 ho14 hb hg_ hnew_
        clear hg_ hnew_
        (first | rw [← Ny382.out] at ho14 | (simp only [Int.reduceToNat] at ho14; rw [← Ny382.out] at ho14))
        have n0_ := Aside0.mk (Kd.R_lower ho14 (below_size (by repeat (first | (with_reducible first | exact HB.out | apply below_alloc | apply pw_below_drewN | apply below_drew1 | refine below_set ?_ GE375.out) | exact HB.out))))
        have n1_ := Aside0.mk (blk_below (g := gb375) (o := .cells #[.int .i64 a0_0, .int .i64 a0_1, .int .i64 a0_2, .int .i64 a0_3, .int .i64 a0_4] 53 (0, 0)) (by (with_reducible repeat (first | refine blk_drewN ?_ _ | refine blk_drew ?_ | refine blk_alloc ?_ _)); exact BK375.out) hb)
        have n2_ := Aside0.mk (below_step (by repeat (first | (with_reducible first | exact HB.out | apply below_alloc | apply pw_below_drewN | apply below_drew1 | refine below_set ?_ GE375.out) | exact HB.out)) hb)
        have z_HO380 := fun (h0_ : b 3 = true) => (show Kd.R (Kd.int .i64) 3 w13 w.heap.size (fun _ => True) v379 y378 from by first | exact (Kd.R_elder' (by (with_reducible repeat (first | apply Kd.R_alloc | apply Kd.R_drewN | apply Kd.R_drew)); exact (Q_HO380 h0_)) (Kd.R_base ho14) hb) | exact Kd.R_mono (Kd.R_elder' (by (with_reducible repeat (first | apply Kd.R_alloc | apply Kd.R_drewN | apply Kd.R_drew)); exact (Q_HO380 h0_)) (Kd.R_base ho14) hb) (fun _ h_ => by first | trivial | exact h_ | exact h_.1))
        have z_HO388 := fun (h0_ : b 11 = true) => (show Kd.R (Kd.int .i64) 3 w13 w.heap.size (fun _ => True) v387 y386 from by first | exact (Kd.R_elder' (by (with_reducible repeat (first | apply Kd.R_alloc | apply Kd.R_drewN | apply Kd.R_drew)); exact (Q_HO388 h0_)) (Kd.R_base ho14) hb) | exact Kd.R_mono (Kd.R_elder' (by (with_reducible repeat (first | apply Kd.R_alloc | apply Kd.R_drewN | apply Kd.R_drew)); exact (Q_HO388 h0_)) (Kd.R_base ho14) hb) (fun _ h_ => by first | trivial | exact h_ | exact h_.1))
        have z_HO392 := fun (h0_ : b 15 = true) => (show Kd.R (Kd.int .i64) 3 w13 w.heap.size (fun _ => True) v391 y390 from by first | exact (Kd.R_elder' (by (with_reducible repeat (first | apply Kd.R_alloc | apply Kd.R_drewN | apply Kd.R_drew)); exact (Q_HO392 h0_)) (Kd.R_base ho14) hb) | exact Kd.R_mono (Kd.R_elder' (by (with_reducible repeat (first | apply Kd.R_alloc | apply Kd.R_drewN | apply Kd.R_drew)); exact (Q_HO392 h0_)) (Kd.R_base ho14) hb) (fun _ h_ => by first | trivial | exact h_ | exact h_.1))
        clear BK375
        clear HB
        have HO384 := n0_
        have BK375 := n1_
        have HB := n2_
        clear n0_ n1_ n2_
        clear hb ho14
        refine hK.out _ _ ⟨v379, v383, v387, v391, v395, (by rw [ha.out]; exact putSel_upk 4 hb_ rfl rfl rfl), (by (with_reducible repeat (first | refine blk_drewN ?_ _ | refine blk_drew ?_ | refine blk_alloc ?_ _)); exact BK375.out), (by repeat (first | (with_reducible first | exact HB.out | apply below_alloc | apply pw_below_drewN | apply below_drew1 | refine below_set ?_ GE375.out) | exact HB.out)), z_HO380, fun _ => (by (with_reducible repeat (first | apply Kd.R_alloc | apply Kd.R_drewN | apply Kd.R_drew)); exact HO384.out), z_HO388, z_HO392, fun h0_ => absurd ((hoff 17 (by kernel_rfl)).symm.trans h0_) (by decide)⟩
      refine steps_cons ?_ ?_
      · rintro b a w' ⟨v379, v383, v387, v391, v395, ha, Q_BK375, Q_HB, Q_HO380, Q_HO384, Q_HO388, Q_HO392, Q_HO396⟩ hb_ hon hoff
        refine ⟨_, rfl, fun K hK => ?_⟩
        have e20 : a.tmps[20]? = some (v383) := by rw [ha]; exact putSel_on (e := (7, 20, v383)) 4 rfl rfl (hon 7 (by kernel_rfl)) rfl
        replace ha := Aside0.mk ha
        have BK375 := Aside0.mk Q_BK375
        have HB := Aside0.mk Q_HB
        have HO380 := Aside0.mk (Q_HO380 (hon 3 (by kernel_rfl)))
        have HO384 := Aside0.mk (Q_HO384 (hon 7 (by kernel_rfl)))
        obtain ⟨Ao20, co20, eo20⟩ := Kd.R_slice HO384.out
        (first | subst eo20 | (injection eo20 with f1_ f2_ f3_; have f4_ := f1_.symm; have f5_ := f3_.symm; clear f1_ f2_ f3_; subst f4_; subst f5_))
        refine goes_ Try.func67 (by kernel_rfl) rfl #[.string (⟨#[]⟩ : ByteArray), .slice Ao20 y382.length co20] (by rfl) rfl rfl (by first | (simp only [List.map_toArray, List.map_cons, List.map_nil, Act.eval, Array.getD_eq_getD_getElem?, Option.getD_some, e20]; done) | (simp only [List.map_toArray, List.map_cons, List.map_nil, Act.eval, Array.getD_eq_getD_getElem?, Option.getD_some, e20]; rfl)) ?_
        with_reducible refine (dec_List.calls k (⟨#[]⟩ : ByteArray) _ _ y382 t385 _ ?side1 ?side2 A5.out).mono ?_
        (case side1 => repeat (first | exact (Kd.R_reads' HO384.out).2.2 | (with_reducible refine Kd.C_alloc ?_ _) | (with_reducible refine Kd.C_drewN ?_ _) | (with_reducible refine Kd.C_drew ?_)))
        (case side2 => exact (Kd.R_reads' HO384.out).2.1)
        rintro e w21 ⟨rfl, hb⟩
        refine ⟨_, rfl, ?_⟩
        have n0_ := Aside0.mk (Kd.R_below (by (with_reducible repeat (first | apply Kd.R_alloc | apply Kd.R_drewN | apply Kd.R_drew)); exact HO380.out) hb)
        have n1_ := Aside0.mk (Kd.R_below (by (with_reducible repeat (first | apply Kd.R_alloc | apply Kd.R_drewN | apply Kd.R_drew)); exact HO384.out) hb)
        have n2_ := Aside0.mk (blk_below (g := gb375) (o := .cells #[.int .i64 a0_0, .int .i64 a0_1, .int .i64 a0_2, .int .i64 a0_3, .int .i64 a0_4] 53 (0, 0)) (by (with_reducible repeat (first | refine blk_drewN ?_ _ | refine blk_drew ?_ | refine blk_alloc ?_ _)); exact BK375.out) hb)
        have n3_ := Aside0.mk (below_step (by repeat (first | (with_reducible first | exact HB.out | apply below_alloc | apply pw_below_drewN | apply below_drew1 | refine below_set ?_ GE375.out) | exact HB.out)) hb)
        have z_HO388 := fun (h0_ : b 11 = true) => (show Kd.R (Kd.int .i64) 3 w21 w.heap.size (fun _ => True) v387 y386 from by first | exact (Kd.R_below (by (with_reducible repeat (first | apply Kd.R_alloc | apply Kd.R_drewN | apply Kd.R_drew)); exact (Q_HO388 h0_)) hb) | exact Kd.R_mono (Kd.R_below (by (with_reducible repeat (first | apply Kd.R_alloc | apply Kd.R_drewN | apply Kd.R_drew)); exact (Q_HO388 h0_)) hb) (fun _ h_ => by first | trivial | exact h_ | exact h_.1))
        have z_HO392 := fun (h0_ : b 15 = true) => (show Kd.R (Kd.int .i64) 3 w21 w.heap.size (fun _ => True) v391 y390 from by first | exact (Kd.R_below (by (with_reducible repeat (first | apply Kd.R_alloc | apply Kd.R_drewN | apply Kd.R_drew)); exact (Q_HO392 h0_)) hb) | exact Kd.R_mono (Kd.R_below (by (with_reducible repeat (first | apply Kd.R_alloc | apply Kd.R_drewN | apply Kd.R_drew)); exact (Q_HO392 h0_)) hb) (fun _ h_ => by first | trivial | exact h_ | exact h_.1))
        clear HO380
        clear HO384
        clear BK375
        clear HB
        have HO380 := n0_
        have HO384 := n1_
        have BK375 := n2_
        have HB := n3_
        clear n0_ n1_ n2_ n3_
        (try clear hb)
        (try clear hb2)
        (try clear hk)
        (try clear hi)
        refine hK.out _ _ ⟨v379, .slice Ao20 y382.length co20, v387, v391, v395, (by rw [ha.out]; exact putSel_upk 5 hb_ rfl rfl rfl), (by (with_reducible repeat (first | refine blk_drewN ?_ _ | refine blk_drew ?_ | refine blk_alloc ?_ _)); exact BK375.out), (by repeat (first | (with_reducible first | exact HB.out | apply below_alloc | apply pw_below_drewN | apply below_drew1 | refine below_set ?_ GE375.out) | exact HB.out)), fun _ => (by (with_reducible repeat (first | apply Kd.R_alloc | apply Kd.R_drewN | apply Kd.R_drew)); exact HO380.out), fun _ => (by (with_reducible repeat (first | apply Kd.R_alloc | apply Kd.R_drewN | apply Kd.R_drew)); exact HO384.out), z_HO388, z_HO392, fun h0_ => absurd ((hoff 17 (by kernel_rfl)).symm.trans h0_) (by decide)⟩
      refine steps_cons ?_ ?_
      · rintro b a w' ⟨v379, v383, v387, v391, v395, ha, Q_BK375, Q_HB, Q_HO380, Q_HO384, Q_HO388, Q_HO392, Q_HO396⟩ hb_ hon hoff
        refine ⟨_, rfl, fun K hK => ?_⟩
        have e22 : a.tmps[22]? = some (.pointer (some ⟨gb375, 3, none⟩)) := by rw [ha]; exact (putSel_off rfl).trans rfl
        replace ha := Aside0.mk ha
        have BK375 := Aside0.mk Q_BK375
        have HB := Aside0.mk Q_HB
        have hc0_ : w'.cell? ⟨gb375, 0, none⟩ = some (.int .i64 a0_0) := (blk_cell BK375.out 0).trans rfl
        have hc1_ : w'.cell? ⟨gb375, 1, none⟩ = some (.int .i64 a0_1) := (blk_cell BK375.out 1).trans rfl
        have hc2_ : w'.cell? ⟨gb375, 2, none⟩ = some (.int .i64 a0_2) := (blk_cell BK375.out 2).trans rfl
        have hc3_ : w'.cell? ⟨gb375, 3, none⟩ = some (.int .i64 a0_3) := (blk_cell BK375.out 3).trans rfl
        have hc4_ : w'.cell? ⟨gb375, 4, none⟩ = some (.int .i64 a0_4) := (blk_cell BK375.out 4).trans rfl
        refine value_ (w1 := w') (v := .int .i64 a0_3) (by rfl) rfl ?_ ?_
        · go_simp
          (try simp only [i64_w])
          try rfl
        refine hK.out _ _ ⟨v379, v383, v387, v391, v395, (by rw [ha.out]; exact putSel_upk 6 hb_ rfl rfl rfl), Q_BK375, Q_HB, Q_HO380, Q_HO384, fun h0_ => absurd ((hoff 11 (by kernel_rfl)).symm.trans h0_) (by decide), Q_HO392, fun h0_ => absurd ((hoff 17 (by kernel_rfl)).symm.trans h0_) (by decide)⟩
      refine steps_cons ?_ ?_
      · rintro b a w' ⟨v379, v383, v387, v391, v395, ha, Q_BK375, Q_HB, Q_HO380, Q_HO384, Q_HO388, Q_HO392, Q_HO396⟩ hb_ hon hoff
        refine ⟨_, rfl, fun K hK => ?_⟩
        have e23 : a.tmps[23]? = some (.int .i64 a0_3) := by rw [ha]; exact putSel_on (e := (10, 23, .int .i64 a0_3)) 6 rfl rfl (hon 10 (by kernel_rfl)) rfl
        replace ha := Aside0.mk ha
        have BK375 := Aside0.mk Q_BK375
        have HB := Aside0.mk Q_HB
        refine Kd.R_lit_step (Kd.int .i64) _ 3 ?hg (N := 24) ?hd (xs := ([a0_3] : List Int)) (inner := [.int .i64 a0_3]) (ok := fun _ => True) (okp := fun _ => True) ?hr ?hp (fun _ hk => hk) trivial (Below.refl _ _) (Nat.le_refl _) (by simp) ?_; (case hd => rfl); (case hg => rfl); (case hr => first | (go_simp; done) | (go_simp; rfl)); (case hp => exact (Reps.one (show Kd.M (Kd.int .i64) _ _ _ a0_3 [.int .i64 a0_3] from rfl) (Reps.none _ _)))
        intro v387 w13 ho14 hb hg_ hnew_
        clear hg_ hnew_
        (first | rw [← Ny386.out] at ho14 | (simp only [Int.reduceToNat] at ho14; rw [← Ny386.out] at ho14))
        have n0_ := Aside0.mk (Kd.R_lower ho14 (below_size (by repeat (first | (with_reducible first | exact HB.out | apply below_alloc | apply pw_below_drewN | apply below_drew1 | refine below_set ?_ GE375.out) | exact HB.out))))
        have n1_ := Aside0.mk (blk_below (g := gb375) (o := .cells #[.int .i64 a0_0, .int .i64 a0_1, .int .i64 a0_2, .int .i64 a0_3, .int .i64 a0_4] 53 (0, 0)) (by (with_reducible repeat (first | refine blk_drewN ?_ _ | refine blk_drew ?_ | refine blk_alloc ?_ _)); exact BK375.out) hb)
        have n2_ := Aside0.mk (below_step (by repeat (first | (with_reducible first | exact HB.out | apply below_alloc | apply pw_below_drewN | apply below_drew1 | refine below_set ?_ GE375.out) | exact HB.out)) hb)
        have z_HO380 := fun (h0_ : b 3 = true) => (show Kd.R (Kd.int .i64) 3 w13 w.heap.size (fun _ => True) v379 y378 from by first | exact (Kd.R_elder' (by (with_reducible repeat (first | apply Kd.R_alloc | apply Kd.R_drewN | apply Kd.R_drew)); exact (Q_HO380 h0_)) (Kd.R_base ho14) hb) | exact Kd.R_mono (Kd.R_elder' (by (with_reducible repeat (first | apply Kd.R_alloc | apply Kd.R_drewN | apply Kd.R_drew)); exact (Q_HO380 h0_)) (Kd.R_base ho14) hb) (fun _ h_ => by first | trivial | exact h_ | exact h_.1))
        have z_HO384 := fun (h0_ : b 7 = true) => (show Kd.R (Kd.int .i64) 3 w13 w.heap.size (fun _ => True) v383 y382 from by first | exact (Kd.R_elder' (by (with_reducible repeat (first | apply Kd.R_alloc | apply Kd.R_drewN | apply Kd.R_drew)); exact (Q_HO384 h0_)) (Kd.R_base ho14) hb) | exact Kd.R_mono (Kd.R_elder' (by (with_reducible repeat (first | apply Kd.R_alloc | apply Kd.R_drewN | apply Kd.R_drew)); exact (Q_HO384 h0_)) (Kd.R_base ho14) hb) (fun _ h_ => by first | trivial | exact h_ | exact h_.1))
        have z_HO392 := fun (h0_ : b 15 = true) => (show Kd.R (Kd.int .i64) 3 w13 w.heap.size (fun _ => True) v391 y390 from by first | exact (Kd.R_elder' (by (with_reducible repeat (first | apply Kd.R_alloc | apply Kd.R_drewN | apply Kd.R_drew)); exact (Q_HO392 h0_)) (Kd.R_base ho14) hb) | exact Kd.R_mono (Kd.R_elder' (by (with_reducible repeat (first | apply Kd.R_alloc | apply Kd.R_drewN | apply Kd.R_drew)); exact (Q_HO392 h0_)) (Kd.R_base ho14) hb) (fun _ h_ => by first | trivial | exact h_ | exact h_.1))
        clear BK375
        clear HB
        have HO388 := n0_
        have BK375 := n1_
        have HB := n2_
        clear n0_ n1_ n2_
        clear hb ho14
        refine hK.out _ _ ⟨v379, v383, v387, v391, v395, (by rw [ha.out]; exact putSel_upk 7 hb_ rfl rfl rfl), (by (with_reducible repeat (first | refine blk_drewN ?_ _ | refine blk_drew ?_ | refine blk_alloc ?_ _)); exact BK375.out), (by repeat (first | (with_reducible first | exact HB.out | apply below_alloc | apply pw_below_drewN | apply below_drew1 | refine below_set ?_ GE375.out) | exact HB.out)), z_HO380, z_HO384, fun _ => (by (with_reducible repeat (first | apply Kd.R_alloc | apply Kd.R_drewN | apply Kd.R_drew)); exact HO388.out), z_HO392, fun h0_ => absurd ((hoff 17 (by kernel_rfl)).symm.trans h0_) (by decide)⟩
      refine steps_cons ?_ ?_
      · rintro b a w' ⟨v379, v383, v387, v391, v395, ha, Q_BK375, Q_HB, Q_HO380, Q_HO384, Q_HO388, Q_HO392, Q_HO396⟩ hb_ hon hoff
        refine ⟨_, rfl, fun K hK => ?_⟩
        have e24 : a.tmps[24]? = some (v387) := by rw [ha]; exact putSel_on (e := (11, 24, v387)) 7 rfl rfl (hon 11 (by kernel_rfl)) rfl
        replace ha := Aside0.mk ha
        have BK375 := Aside0.mk Q_BK375
        have HB := Aside0.mk Q_HB
        have HO380 := Aside0.mk (Q_HO380 (hon 3 (by kernel_rfl)))
        have HO384 := Aside0.mk (Q_HO384 (hon 7 (by kernel_rfl)))
        have HO388 := Aside0.mk (Q_HO388 (hon 11 (by kernel_rfl)))
        obtain ⟨Ao24, co24, eo24⟩ := Kd.R_slice HO388.out
        (first | subst eo24 | (injection eo24 with f1_ f2_ f3_; have f4_ := f1_.symm; have f5_ := f3_.symm; clear f1_ f2_ f3_; subst f4_; subst f5_))
        refine goes_ Try.func67 (by kernel_rfl) rfl #[.string (⟨#[]⟩ : ByteArray), .slice Ao24 y386.length co24] (by rfl) rfl rfl (by first | (simp only [List.map_toArray, List.map_cons, List.map_nil, Act.eval, Array.getD_eq_getD_getElem?, Option.getD_some, e24]; done) | (simp only [List.map_toArray, List.map_cons, List.map_nil, Act.eval, Array.getD_eq_getD_getElem?, Option.getD_some, e24]; rfl)) ?_
        with_reducible refine (dec_List.calls k (⟨#[]⟩ : ByteArray) _ _ y386 t389 _ ?side1 ?side2 A6.out).mono ?_
        (case side1 => repeat (first | exact (Kd.R_reads' HO388.out).2.2 | (with_reducible refine Kd.C_alloc ?_ _) | (with_reducible refine Kd.C_drewN ?_ _) | (with_reducible refine Kd.C_drew ?_)))
        (case side2 => exact (Kd.R_reads' HO388.out).2.1)
        rintro e w25 ⟨rfl, hb⟩
        refine ⟨_, rfl, ?_⟩
        have n0_ := Aside0.mk (Kd.R_below (by (with_reducible repeat (first | apply Kd.R_alloc | apply Kd.R_drewN | apply Kd.R_drew)); exact HO380.out) hb)
        have n1_ := Aside0.mk (Kd.R_below (by (with_reducible repeat (first | apply Kd.R_alloc | apply Kd.R_drewN | apply Kd.R_drew)); exact HO384.out) hb)
        have n2_ := Aside0.mk (Kd.R_below (by (with_reducible repeat (first | apply Kd.R_alloc | apply Kd.R_drewN | apply Kd.R_drew)); exact HO388.out) hb)
        have n3_ := Aside0.mk (blk_below (g := gb375) (o := .cells #[.int .i64 a0_0, .int .i64 a0_1, .int .i64 a0_2, .int .i64 a0_3, .int .i64 a0_4] 53 (0, 0)) (by (with_reducible repeat (first | refine blk_drewN ?_ _ | refine blk_drew ?_ | refine blk_alloc ?_ _)); exact BK375.out) hb)
        have n4_ := Aside0.mk (below_step (by repeat (first | (with_reducible first | exact HB.out | apply below_alloc | apply pw_below_drewN | apply below_drew1 | refine below_set ?_ GE375.out) | exact HB.out)) hb)
        have z_HO392 := fun (h0_ : b 15 = true) => (show Kd.R (Kd.int .i64) 3 w25 w.heap.size (fun _ => True) v391 y390 from by first | exact (Kd.R_below (by (with_reducible repeat (first | apply Kd.R_alloc | apply Kd.R_drewN | apply Kd.R_drew)); exact (Q_HO392 h0_)) hb) | exact Kd.R_mono (Kd.R_below (by (with_reducible repeat (first | apply Kd.R_alloc | apply Kd.R_drewN | apply Kd.R_drew)); exact (Q_HO392 h0_)) hb) (fun _ h_ => by first | trivial | exact h_ | exact h_.1))
        clear HO380
        clear HO384
        clear HO388
        clear BK375
        clear HB
        have HO380 := n0_
        have HO384 := n1_
        have HO388 := n2_
        have BK375 := n3_
        have HB := n4_
        clear n0_ n1_ n2_ n3_ n4_
        (try clear hb)
        (try clear hb2)
        (try clear hk)
        (try clear hi)
        refine hK.out _ _ ⟨v379, v383, .slice Ao24 y386.length co24, v391, v395, (by rw [ha.out]; exact putSel_upk 8 hb_ rfl rfl rfl), (by (with_reducible repeat (first | refine blk_drewN ?_ _ | refine blk_drew ?_ | refine blk_alloc ?_ _)); exact BK375.out), (by repeat (first | (with_reducible first | exact HB.out | apply below_alloc | apply pw_below_drewN | apply below_drew1 | refine below_set ?_ GE375.out) | exact HB.out)), fun _ => (by (with_reducible repeat (first | apply Kd.R_alloc | apply Kd.R_drewN | apply Kd.R_drew)); exact HO380.out), fun _ => (by (with_reducible repeat (first | apply Kd.R_alloc | apply Kd.R_drewN | apply Kd.R_drew)); exact HO384.out), fun _ => (by (with_reducible repeat (first | apply Kd.R_alloc | apply Kd.R_drewN | apply Kd.R_drew)); exact HO388.out), z_HO392, fun h0_ => absurd ((hoff 17 (by kernel_rfl)).symm.trans h0_) (by decide)⟩
      refine steps_cons ?_ ?_
      · rintro b a w' ⟨v379, v383, v387, v391, v395, ha, Q_BK375, Q_HB, Q_HO380, Q_HO384, Q_HO388, Q_HO392, Q_HO396⟩ hb_ hon hoff
        refine ⟨_, rfl, fun K hK => ?_⟩
        have e26 : a.tmps[26]? = some (.pointer (some ⟨gb375, 4, none⟩)) := by rw [ha]; exact (putSel_off rfl).trans rfl
        replace ha := Aside0.mk ha
        have BK375 := Aside0.mk Q_BK375
        have HB := Aside0.mk Q_HB
        have hc0_ : w'.cell? ⟨gb375, 0, none⟩ = some (.int .i64 a0_0) := (blk_cell BK375.out 0).trans rfl
        have hc1_ : w'.cell? ⟨gb375, 1, none⟩ = some (.int .i64 a0_1) := (blk_cell BK375.out 1).trans rfl
        have hc2_ : w'.cell? ⟨gb375, 2, none⟩ = some (.int .i64 a0_2) := (blk_cell BK375.out 2).trans rfl
        have hc3_ : w'.cell? ⟨gb375, 3, none⟩ = some (.int .i64 a0_3) := (blk_cell BK375.out 3).trans rfl
        have hc4_ : w'.cell? ⟨gb375, 4, none⟩ = some (.int .i64 a0_4) := (blk_cell BK375.out 4).trans rfl
        refine value_ (w1 := w') (v := .int .i64 a0_4) (by rfl) rfl ?_ ?_
        · go_simp
          (try simp only [i64_w])
          try rfl
        refine hK.out _ _ ⟨v379, v383, v387, v391, v395, (by rw [ha.out]; exact putSel_upk 9 hb_ rfl rfl rfl), Q_BK375, Q_HB, Q_HO380, Q_HO384, Q_HO388, fun h0_ => absurd ((hoff 15 (by kernel_rfl)).symm.trans h0_) (by decide), fun h0_ => absurd ((hoff 17 (by kernel_rfl)).symm.trans h0_) (by decide)⟩
      refine steps_cons ?_ ?_
      · rintro b a w' ⟨v379, v383, v387, v391, v395, ha, Q_BK375, Q_HB, Q_HO380, Q_HO384, Q_HO388, Q_HO392, Q_HO396⟩ hb_ hon hoff
        refine ⟨_, rfl, fun K hK => ?_⟩
        have e27 : a.tmps[27]? = some (.int .i64 a0_4) := by rw [ha]; exact putSel_on (e := (14, 27, .int .i64 a0_4)) 9 rfl rfl (hon 14 (by kernel_rfl)) rfl
        replace ha := Aside0.mk ha
        have BK375 := Aside0.mk Q_BK375
        have HB := Aside0.mk Q_HB
        refine Kd.R_lit_step (Kd.int .i64) _ 3 ?hg (N := 28) ?hd (xs := ([a0_4] : List Int)) (inner := [.int .i64 a0_4]) (ok := fun _ => True) (okp := fun _ => True) ?hr ?hp (fun _ hk => hk) trivial (Below.refl _ _) (Nat.le_refl _) (by simp) ?_; (case hd => rfl); (case hg => rfl); (case hr => first | (go_simp; done) | (go_simp; rfl)); (case hp => exact (Reps.one (show Kd.M (Kd.int .i64) _ _ _ a0_4 [.int .i64 a0_4] from rfl) (Reps.none _ _)))
        intro v391 w13 ho14 hb hg_ hnew_
        clear hg_ hnew_
        (first | rw [← Ny390.out] at ho14 | (simp only [Int.reduceToNat] at ho14; rw [← Ny390.out] at ho14))
        have n0_ := Aside0.mk (Kd.R_lower ho14 (below_size (by repeat (first | (with_reducible first | exact HB.out | apply below_alloc | apply pw_below_drewN | apply below_drew1 | refine below_set ?_ GE375.out) | exact HB.out))))
        have n1_ := Aside0.mk (blk_below (g := gb375) (o := .cells #[.int .i64 a0_0, .int .i64 a0_1, .int .i64 a0_2, .int .i64 a0_3, .int .i64 a0_4] 53 (0, 0)) (by (with_reducible repeat (first | refine blk_drewN ?_ _ | refine blk_drew ?_ | refine blk_alloc ?_ _)); exact BK375.out) hb)
        have n2_ := Aside0.mk (below_step (by repeat (first | (with_reducible first | exact HB.out | apply below_alloc | apply pw_below_drewN | apply below_drew1 | refine below_set ?_ GE375.out) | exact HB.out)) hb)
        have z_HO380 := fun (h0_ : b 3 = true) => (show Kd.R (Kd.int .i64) 3 w13 w.heap.size (fun _ => True) v379 y378 from by first | exact (Kd.R_elder' (by (with_reducible repeat (first | apply Kd.R_alloc | apply Kd.R_drewN | apply Kd.R_drew)); exact (Q_HO380 h0_)) (Kd.R_base ho14) hb) | exact Kd.R_mono (Kd.R_elder' (by (with_reducible repeat (first | apply Kd.R_alloc | apply Kd.R_drewN | apply Kd.R_drew)); exact (Q_HO380 h0_)) (Kd.R_base ho14) hb) (fun _ h_ => by first | trivial | exact h_ | exact h_.1))
        have z_HO384 := fun (h0_ : b 7 = true) => (show Kd.R (Kd.int .i64) 3 w13 w.heap.size (fun _ => True) v383 y382 from by first | exact (Kd.R_elder' (by (with_reducible repeat (first | apply Kd.R_alloc | apply Kd.R_drewN | apply Kd.R_drew)); exact (Q_HO384 h0_)) (Kd.R_base ho14) hb) | exact Kd.R_mono (Kd.R_elder' (by (with_reducible repeat (first | apply Kd.R_alloc | apply Kd.R_drewN | apply Kd.R_drew)); exact (Q_HO384 h0_)) (Kd.R_base ho14) hb) (fun _ h_ => by first | trivial | exact h_ | exact h_.1))
        have z_HO388 := fun (h0_ : b 11 = true) => (show Kd.R (Kd.int .i64) 3 w13 w.heap.size (fun _ => True) v387 y386 from by first | exact (Kd.R_elder' (by (with_reducible repeat (first | apply Kd.R_alloc | apply Kd.R_drewN | apply Kd.R_drew)); exact (Q_HO388 h0_)) (Kd.R_base ho14) hb) | exact Kd.R_mono (Kd.R_elder' (by (with_reducible repeat (first | apply Kd.R_alloc | apply Kd.R_drewN | apply Kd.R_drew)); exact (Q_HO388 h0_)) (Kd.R_base ho14) hb) (fun _ h_ => by first | trivial | exact h_ | exact h_.1))
        clear BK375
        clear HB
        have HO392 := n0_
        have BK375 := n1_
        have HB := n2_
        clear n0_ n1_ n2_
        clear hb ho14
        refine hK.out _ _ ⟨v379, v383, v387, v391, v395, (by rw [ha.out]; exact putSel_upk 10 hb_ rfl rfl rfl), (by (with_reducible repeat (first | refine blk_drewN ?_ _ | refine blk_drew ?_ | refine blk_alloc ?_ _)); exact BK375.out), (by repeat (first | (with_reducible first | exact HB.out | apply below_alloc | apply pw_below_drewN | apply below_drew1 | refine below_set ?_ GE375.out) | exact HB.out)), z_HO380, z_HO384, z_HO388, fun _ => (by (with_reducible repeat (first | apply Kd.R_alloc | apply Kd.R_drewN | apply Kd.R_drew)); exact HO392.out), fun h0_ => absurd ((hoff 17 (by kernel_rfl)).symm.trans h0_) (by decide)⟩
      refine steps_cons ?_ ?_
      · rintro b a w' ⟨v379, v383, v387, v391, v395, ha, Q_BK375, Q_HB, Q_HO380, Q_HO384, Q_HO388, Q_HO392, Q_HO396⟩ hb_ hon hoff
        refine ⟨_, rfl, fun K hK => ?_⟩
        have e28 : a.tmps[28]? = some (v391) := by rw [ha]; exact putSel_on (e := (15, 28, v391)) 10 rfl rfl (hon 15 (by kernel_rfl)) rfl
        replace ha := Aside0.mk ha
        have BK375 := Aside0.mk Q_BK375
        have HB := Aside0.mk Q_HB
        have HO380 := Aside0.mk (Q_HO380 (hon 3 (by kernel_rfl)))
        have HO384 := Aside0.mk (Q_HO384 (hon 7 (by kernel_rfl)))
        have HO388 := Aside0.mk (Q_HO388 (hon 11 (by kernel_rfl)))
        have HO392 := Aside0.mk (Q_HO392 (hon 15 (by kernel_rfl)))
        obtain ⟨Ao28, co28, eo28⟩ := Kd.R_slice HO392.out
        (first | subst eo28 | (injection eo28 with f1_ f2_ f3_; have f4_ := f1_.symm; have f5_ := f3_.symm; clear f1_ f2_ f3_; subst f4_; subst f5_))
        refine goes_ Try.func67 (by kernel_rfl) rfl #[.string (⟨#[]⟩ : ByteArray), .slice Ao28 y390.length co28] (by rfl) rfl rfl (by first | (simp only [List.map_toArray, List.map_cons, List.map_nil, Act.eval, Array.getD_eq_getD_getElem?, Option.getD_some, e28]; done) | (simp only [List.map_toArray, List.map_cons, List.map_nil, Act.eval, Array.getD_eq_getD_getElem?, Option.getD_some, e28]; rfl)) ?_
        with_reducible refine (dec_List.calls k (⟨#[]⟩ : ByteArray) _ _ y390 t393 _ ?side1 ?side2 A7.out).mono ?_
        (case side1 => repeat (first | exact (Kd.R_reads' HO392.out).2.2 | (with_reducible refine Kd.C_alloc ?_ _) | (with_reducible refine Kd.C_drewN ?_ _) | (with_reducible refine Kd.C_drew ?_)))
        (case side2 => exact (Kd.R_reads' HO392.out).2.1)
        rintro e w29 ⟨rfl, hb⟩
        refine ⟨_, rfl, ?_⟩
        have n0_ := Aside0.mk (Kd.R_below (by (with_reducible repeat (first | apply Kd.R_alloc | apply Kd.R_drewN | apply Kd.R_drew)); exact HO380.out) hb)
        have n1_ := Aside0.mk (Kd.R_below (by (with_reducible repeat (first | apply Kd.R_alloc | apply Kd.R_drewN | apply Kd.R_drew)); exact HO384.out) hb)
        have n2_ := Aside0.mk (Kd.R_below (by (with_reducible repeat (first | apply Kd.R_alloc | apply Kd.R_drewN | apply Kd.R_drew)); exact HO388.out) hb)
        have n3_ := Aside0.mk (Kd.R_below (by (with_reducible repeat (first | apply Kd.R_alloc | apply Kd.R_drewN | apply Kd.R_drew)); exact HO392.out) hb)
        have n4_ := Aside0.mk (blk_below (g := gb375) (o := .cells #[.int .i64 a0_0, .int .i64 a0_1, .int .i64 a0_2, .int .i64 a0_3, .int .i64 a0_4] 53 (0, 0)) (by (with_reducible repeat (first | refine blk_drewN ?_ _ | refine blk_drew ?_ | refine blk_alloc ?_ _)); exact BK375.out) hb)
        have n5_ := Aside0.mk (below_step (by repeat (first | (with_reducible first | exact HB.out | apply below_alloc | apply pw_below_drewN | apply below_drew1 | refine below_set ?_ GE375.out) | exact HB.out)) hb)
        clear HO380
        clear HO384
        clear HO388
        clear HO392
        clear BK375
        clear HB
        have HO380 := n0_
        have HO384 := n1_
        have HO388 := n2_
        have HO392 := n3_
        have BK375 := n4_
        have HB := n5_
        clear n0_ n1_ n2_ n3_ n4_ n5_
        (try clear hb)
        (try clear hb2)
        (try clear hk)
        (try clear hi)
        refine hK.out _ _ ⟨v379, v383, v387, .slice Ao28 y390.length co28, v395, (by rw [ha.out]; exact putSel_upk 11 hb_ rfl rfl rfl), (by (with_reducible repeat (first | refine blk_drewN ?_ _ | refine blk_drew ?_ | refine blk_alloc ?_ _)); exact BK375.out), (by repeat (first | (with_reducible first | exact HB.out | apply below_alloc | apply pw_below_drewN | apply below_drew1 | refine below_set ?_ GE375.out) | exact HB.out)), fun _ => (by (with_reducible repeat (first | apply Kd.R_alloc | apply Kd.R_drewN | apply Kd.R_drew)); exact HO380.out), fun _ => (by (with_reducible repeat (first | apply Kd.R_alloc | apply Kd.R_drewN | apply Kd.R_drew)); exact HO384.out), fun _ => (by (with_reducible repeat (first | apply Kd.R_alloc | apply Kd.R_drewN | apply Kd.R_drew)); exact HO388.out), fun _ => (by (with_reducible repeat (first | apply Kd.R_alloc | apply Kd.R_drewN | apply Kd.R_drew)); exact HO392.out), fun h0_ => absurd ((hoff 17 (by kernel_rfl)).symm.trans h0_) (by decide)⟩
      refine steps_cons ?_ ?_
      · rintro b a w' ⟨v379, v383, v387, v391, v395, ha, Q_BK375, Q_HB, Q_HO380, Q_HO384, Q_HO388, Q_HO392, Q_HO396⟩ hb_ hon hoff
        refine ⟨_, rfl, fun K hK => ?_⟩
        have e13 : a.tmps[13]? = some (.string t376) := by rw [ha]; exact (putSel_off rfl).trans rfl
        have e17 : a.tmps[17]? = some (.string t381) := by rw [ha]; exact putSel_on (e := (4, 17, .string t381)) 2 rfl rfl (hon 4 (by kernel_rfl)) rfl
        have e21 : a.tmps[21]? = some (.string t385) := by rw [ha]; exact putSel_on (e := (8, 21, .string t385)) 5 rfl rfl (hon 8 (by kernel_rfl)) rfl
        have e25 : a.tmps[25]? = some (.string t389) := by rw [ha]; exact putSel_on (e := (12, 25, .string t389)) 8 rfl rfl (hon 12 (by kernel_rfl)) rfl
        have e29 : a.tmps[29]? = some (.string t393) := by rw [ha]; exact putSel_on (e := (16, 29, .string t393)) 11 rfl rfl (hon 16 (by kernel_rfl)) rfl
        replace ha := Aside0.mk ha
        have BK375 := Aside0.mk Q_BK375
        have HB := Aside0.mk Q_HB
        have HO380 := Aside0.mk (Q_HO380 (hon 3 (by kernel_rfl)))
        have HO384 := Aside0.mk (Q_HO384 (hon 7 (by kernel_rfl)))
        have HO388 := Aside0.mk (Q_HO388 (hon 11 (by kernel_rfl)))
        have HO392 := Aside0.mk (Q_HO392 (hon 15 (by kernel_rfl)))
        refine Kd.R_lit_step Kd.string _ 9 ?hg (N := 30) ?hd (xs := ([t376, (⟨#[116, 105, 109, 101]⟩ : ByteArray), t381, (⟨#[109, 101, 109, 111, 114, 121]⟩ : ByteArray), t385, (⟨#[108, 97, 110, 101, 115]⟩ : ByteArray), t389, (⟨#[115, 105, 122, 101]⟩ : ByteArray), t393] : List ByteArray)) (inner := [.string t376, .string (⟨#[116, 105, 109, 101]⟩ : ByteArray), .string t381, .string (⟨#[109, 101, 109, 111, 114, 121]⟩ : ByteArray), .string t385, .string (⟨#[108, 97, 110, 101, 115]⟩ : ByteArray), .string t389, .string (⟨#[115, 105, 122, 101]⟩ : ByteArray), .string t393]) (ok := fun _ => True) (okp := fun _ => True) ?hr ?hp (fun _ hk => hk) trivial (Below.refl _ _) (Nat.le_refl _) (by simp) ?_; (case hd => rfl); (case hg => rfl); (case hr => first | (go_simp; done) | (go_simp; rfl)); (case hp => exact (Reps.one (show Kd.M Kd.string _ _ _ t376 [.string t376] from rfl) (Reps.one (show Kd.M Kd.string _ _ _ (⟨#[116, 105, 109, 101]⟩ : ByteArray) [.string (⟨#[116, 105, 109, 101]⟩ : ByteArray)] from rfl) (Reps.one (show Kd.M Kd.string _ _ _ t381 [.string t381] from rfl) (Reps.one (show Kd.M Kd.string _ _ _ (⟨#[109, 101, 109, 111, 114, 121]⟩ : ByteArray) [.string (⟨#[109, 101, 109, 111, 114, 121]⟩ : ByteArray)] from rfl) (Reps.one (show Kd.M Kd.string _ _ _ t385 [.string t385] from rfl) (Reps.one (show Kd.M Kd.string _ _ _ (⟨#[108, 97, 110, 101, 115]⟩ : ByteArray) [.string (⟨#[108, 97, 110, 101, 115]⟩ : ByteArray)] from rfl) (Reps.one (show Kd.M Kd.string _ _ _ t389 [.string t389] from rfl) (Reps.one (show Kd.M Kd.string _ _ _ (⟨#[115, 105, 122, 101]⟩ : ByteArray) [.string (⟨#[115, 105, 122, 101]⟩ : ByteArray)] from rfl) (Reps.one (show Kd.M Kd.string _ _ _ t393 [.string t393] from rfl) (Reps.none _ _)))))))))))
        intro v395 w30 ho31 hb hg_ hnew_
        clear hg_ hnew_
        (first | rw [← Ny394.out] at ho31 | (simp only [Int.reduceToNat] at ho31; rw [← Ny394.out] at ho31))
        have n0_ := Aside0.mk (Kd.R_below (by (with_reducible repeat (first | apply Kd.R_alloc | apply Kd.R_drewN | apply Kd.R_drew)); exact HO380.out) hb)
        have n1_ := Aside0.mk (Kd.R_below (by (with_reducible repeat (first | apply Kd.R_alloc | apply Kd.R_drewN | apply Kd.R_drew)); exact HO384.out) hb)
        have n2_ := Aside0.mk (Kd.R_below (by (with_reducible repeat (first | apply Kd.R_alloc | apply Kd.R_drewN | apply Kd.R_drew)); exact HO388.out) hb)
        have n3_ := Aside0.mk (Kd.R_below (by (with_reducible repeat (first | apply Kd.R_alloc | apply Kd.R_drewN | apply Kd.R_drew)); exact HO392.out) hb)
        have n4_ := Aside0.mk (Kd.R_lower ho31 (below_size (by repeat (first | (with_reducible first | exact HB.out | apply below_alloc | apply pw_below_drewN | apply below_drew1 | refine below_set ?_ GE375.out) | exact HB.out))))
        have n5_ := Aside0.mk (blk_below (g := gb375) (o := .cells #[.int .i64 a0_0, .int .i64 a0_1, .int .i64 a0_2, .int .i64 a0_3, .int .i64 a0_4] 53 (0, 0)) (by (with_reducible repeat (first | refine blk_drewN ?_ _ | refine blk_drew ?_ | refine blk_alloc ?_ _)); exact BK375.out) hb)
        have n6_ := Aside0.mk (below_step (by repeat (first | (with_reducible first | exact HB.out | apply below_alloc | apply pw_below_drewN | apply below_drew1 | refine below_set ?_ GE375.out) | exact HB.out)) hb)
        clear HO380
        clear HO384
        clear HO388
        clear HO392
        clear BK375
        clear HB
        have HO380 := n0_
        have HO384 := n1_
        have HO388 := n2_
        have HO392 := n3_
        have HO396 := n4_
        have BK375 := n5_
        have HB := n6_
        clear n0_ n1_ n2_ n3_ n4_ n5_ n6_
        clear hb ho31
        refine hK.out _ _ ⟨v379, v383, v387, v391, v395, (by rw [ha.out]; exact putSel_upk 12 hb_ rfl rfl rfl), (by (with_reducible repeat (first | refine blk_drewN ?_ _ | refine blk_drew ?_ | refine blk_alloc ?_ _)); exact BK375.out), (by repeat (first | (with_reducible first | exact HB.out | apply below_alloc | apply pw_below_drewN | apply below_drew1 | refine below_set ?_ GE375.out) | exact HB.out)), fun _ => (by (with_reducible repeat (first | apply Kd.R_alloc | apply Kd.R_drewN | apply Kd.R_drew)); exact HO380.out), fun _ => (by (with_reducible repeat (first | apply Kd.R_alloc | apply Kd.R_drewN | apply Kd.R_drew)); exact HO384.out), fun _ => (by (with_reducible repeat (first | apply Kd.R_alloc | apply Kd.R_drewN | apply Kd.R_drew)); exact HO388.out), fun _ => (by (with_reducible repeat (first | apply Kd.R_alloc | apply Kd.R_drewN | apply Kd.R_drew)); exact HO392.out), fun _ => (by (with_reducible repeat (first | apply Kd.R_alloc | apply Kd.R_drewN | apply Kd.R_drew)); exact HO396.out)⟩
      refine steps_cons ?_ ?_
      · rintro b a w' ⟨v379, v383, v387, v391, v395, ha, Q_BK375, Q_HB, Q_HO380, Q_HO384, Q_HO388, Q_HO392, Q_HO396⟩ hb_ hon hoff
        refine ⟨_, rfl, fun K hK => ?_⟩
        have e30 : a.tmps[30]? = some (v395) := by rw [ha]; exact putSel_on (e := (17, 30, v395)) 12 rfl rfl (hon 17 (by kernel_rfl)) rfl
        replace ha := Aside0.mk ha
        have BK375 := Aside0.mk Q_BK375
        have HB := Aside0.mk Q_HB
        have HO380 := Aside0.mk (Q_HO380 (hon 3 (by kernel_rfl)))
        have HO384 := Aside0.mk (Q_HO384 (hon 7 (by kernel_rfl)))
        have HO388 := Aside0.mk (Q_HO388 (hon 11 (by kernel_rfl)))
        have HO392 := Aside0.mk (Q_HO392 (hon 15 (by kernel_rfl)))
        have HO396 := Aside0.mk (Q_HO396 (hon 17 (by kernel_rfl)))
        obtain ⟨Ao32, co32, eo32⟩ := Kd.R_slice HO396.out
        (first | subst eo32 | (injection eo32 with f1_ f2_ f3_; have f4_ := f1_.symm; have f5_ := f3_.symm; clear f1_ f2_ f3_; subst f4_; subst f5_))
        refine goes_ Try.func22 (by kernel_rfl) rfl #[.int .u8 32, .slice Ao32 y394.length co32] (by rfl) rfl rfl (by first | (simp only [List.map_toArray, List.map_cons, List.map_nil, Act.eval, Array.getD_eq_getD_getElem?, Option.getD_some, e30]; done) | (simp only [List.map_toArray, List.map_cons, List.map_nil, Act.eval, Array.getD_eq_getD_getElem?, Option.getD_some, e30]; rfl)) ?_
        with_reducible refine (fields_Join.calls k 32 _ _ y394 t397 _ ?side1 ?side2 A8.out).mono ?_
        (case side1 => repeat (first | exact (Kd.R_reads' HO396.out).2.2 | (with_reducible refine Kd.C_alloc ?_ _) | (with_reducible refine Kd.C_drewN ?_ _) | (with_reducible refine Kd.C_drew ?_)))
        (case side2 => exact (Kd.R_reads' HO396.out).2.1)
        rintro e w33 ⟨rfl, hb⟩
        refine ⟨_, rfl, ?_⟩
        have n0_ := Aside0.mk (Kd.R_below (by (with_reducible repeat (first | apply Kd.R_alloc | apply Kd.R_drewN | apply Kd.R_drew)); exact HO380.out) hb)
        have n1_ := Aside0.mk (Kd.R_below (by (with_reducible repeat (first | apply Kd.R_alloc | apply Kd.R_drewN | apply Kd.R_drew)); exact HO384.out) hb)
        have n2_ := Aside0.mk (Kd.R_below (by (with_reducible repeat (first | apply Kd.R_alloc | apply Kd.R_drewN | apply Kd.R_drew)); exact HO388.out) hb)
        have n3_ := Aside0.mk (Kd.R_below (by (with_reducible repeat (first | apply Kd.R_alloc | apply Kd.R_drewN | apply Kd.R_drew)); exact HO392.out) hb)
        have n4_ := Aside0.mk (Kd.R_below (by (with_reducible repeat (first | apply Kd.R_alloc | apply Kd.R_drewN | apply Kd.R_drew)); exact HO396.out) hb)
        have n5_ := Aside0.mk (blk_below (g := gb375) (o := .cells #[.int .i64 a0_0, .int .i64 a0_1, .int .i64 a0_2, .int .i64 a0_3, .int .i64 a0_4] 53 (0, 0)) (by (with_reducible repeat (first | refine blk_drewN ?_ _ | refine blk_drew ?_ | refine blk_alloc ?_ _)); exact BK375.out) hb)
        have n6_ := Aside0.mk (below_step (by repeat (first | (with_reducible first | exact HB.out | apply below_alloc | apply pw_below_drewN | apply below_drew1 | refine below_set ?_ GE375.out) | exact HB.out)) hb)
        clear HO380
        clear HO384
        clear HO388
        clear HO392
        clear HO396
        clear BK375
        clear HB
        have HO380 := n0_
        have HO384 := n1_
        have HO388 := n2_
        have HO392 := n3_
        have HO396 := n4_
        have BK375 := n5_
        have HB := n6_
        clear n0_ n1_ n2_ n3_ n4_ n5_ n6_
        (try clear hb)
        (try clear hb2)
        (try clear hk)
        (try clear hi)
        refine hK.out _ _ ⟨v379, v383, v387, v391, .slice Ao32 y394.length co32, (by rw [ha.out]; exact putSel_upk 13 hb_ rfl rfl rfl), (by (with_reducible repeat (first | refine blk_drewN ?_ _ | refine blk_drew ?_ | refine blk_alloc ?_ _)); exact BK375.out), (by repeat (first | (with_reducible first | exact HB.out | apply below_alloc | apply pw_below_drewN | apply below_drew1 | refine below_set ?_ GE375.out) | exact HB.out)), fun _ => (by (with_reducible repeat (first | apply Kd.R_alloc | apply Kd.R_drewN | apply Kd.R_drew)); exact HO380.out), fun _ => (by (with_reducible repeat (first | apply Kd.R_alloc | apply Kd.R_drewN | apply Kd.R_drew)); exact HO384.out), fun _ => (by (with_reducible repeat (first | apply Kd.R_alloc | apply Kd.R_drewN | apply Kd.R_drew)); exact HO388.out), fun _ => (by (with_reducible repeat (first | apply Kd.R_alloc | apply Kd.R_drewN | apply Kd.R_drew)); exact HO392.out), fun _ => (by (with_reducible repeat (first | apply Kd.R_alloc | apply Kd.R_drewN | apply Kd.R_drew)); exact HO396.out)⟩
      refine steps_cons ?_ ?_
      · rintro b a w' ⟨v379, v383, v387, v391, v395, ha, Q_BK375, Q_HB, Q_HO380, Q_HO384, Q_HO388, Q_HO392, Q_HO396⟩ hb_ hon hoff
        refine ⟨_, rfl, fun K hK => ?_⟩
        have e31 : a.tmps[31]? = some (.string t397) := by rw [ha]; exact putSel_on (e := (18, 31, .string t397)) 13 rfl rfl (hon 18 (by kernel_rfl)) rfl
        replace ha := Aside0.mk ha
        have BK375 := Aside0.mk Q_BK375
        have HB := Aside0.mk Q_HB
        have HO380 := Aside0.mk (Q_HO380 (hon 3 (by kernel_rfl)))
        have HO384 := Aside0.mk (Q_HO384 (hon 7 (by kernel_rfl)))
        have HO388 := Aside0.mk (Q_HO388 (hon 11 (by kernel_rfl)))
        have HO392 := Aside0.mk (Q_HO392 (hon 15 (by kernel_rfl)))
        have HO396 := Aside0.mk (Q_HO396 (hon 17 (by kernel_rfl)))
        refine value_ (w1 := w') (v := .string t397) (by rfl) rfl ?_ ?_
        · go_simp
          (try simp only [i64_w])
          try rfl
        refine hK.out _ _ ⟨v379, v383, v387, v391, v395, (by rw [ha.out]; exact putSel_upk 14 hb_ rfl rfl rfl), Q_BK375, Q_HB, Q_HO380, Q_HO384, Q_HO388, Q_HO392, Q_HO396⟩
      exact steps_nil
    rintro b a w33 hall ⟨v379, v383, v387, v391, v395, ha, Q_BK375, Q_HB, Q_HO380, Q_HO384, Q_HO388, Q_HO392, Q_HO396⟩
    clear BK375 HB
    have hb2_ := hall 2 (by kernel_rfl)
    have hb3_ := hall 3 (by kernel_rfl)
    have hb4_ := hall 4 (by kernel_rfl)
    have hb6_ := hall 6 (by kernel_rfl)
    have hb7_ := hall 7 (by kernel_rfl)
    have hb8_ := hall 8 (by kernel_rfl)
    have hb10_ := hall 10 (by kernel_rfl)
    have hb11_ := hall 11 (by kernel_rfl)
    have hb12_ := hall 12 (by kernel_rfl)
    have hb14_ := hall 14 (by kernel_rfl)
    have hb15_ := hall 15 (by kernel_rfl)
    have hb16_ := hall 16 (by kernel_rfl)
    have hb17_ := hall 17 (by kernel_rfl)
    have hb18_ := hall 18 (by kernel_rfl)
    have hb19_ := hall 19 (by kernel_rfl)
    subst ha
    simp only [putSel, hb2_, hb3_, hb4_, hb6_, hb7_, hb8_, hb10_, hb11_, hb12_, hb14_, hb15_, hb16_, hb17_, hb18_, hb19_, if_true, Act.put, List.setIfInBounds_toArray, List.set_cons_zero, List.set_cons_succ]
    have BK375 := Aside0.mk Q_BK375
    clear Q_BK375
    have HB := Aside0.mk Q_HB
    clear Q_HB
    have HO380 := Aside0.mk (Q_HO380 hb3_)
    clear Q_HO380
    have HO384 := Aside0.mk (Q_HO384 hb7_)
    clear Q_HO384
    have HO388 := Aside0.mk (Q_HO388 hb11_)
    clear Q_HO388
    have HO392 := Aside0.mk (Q_HO392 hb15_)
    clear Q_HO392
    have HO396 := Aside0.mk (Q_HO396 hb17_)
    clear Q_HO396
    clear hall hb2_ hb3_ hb4_ hb6_ hb7_ hb8_ hb10_ hb11_ hb12_ hb14_ hb15_ hb16_ hb17_ hb18_ hb19_
    try go_wp2
    go_ret
    exact ⟨by first | rfl | (simp [errW_none, errW_some] <;> rfl) | (simp [*, errW_none, errW_some] <;> rfl), by repeat (first | (with_reducible first | exact HB.out | apply below_alloc | apply pw_below_drewN | apply below_drew1 | refine below_set ?_ GE375.out) | exact HB.out)⟩
  · rw [if_neg c3] at H
    have c3b0 : (t377 == 0) = false := beq_eq_false_iff_ne.mpr c3
    have c3b1 : (t377 != 0) = true := bne_iff_ne.mpr c3
    obtain rfl := Option.some.inj H
    go_enter Try.func30, Try.ntmps30
    go_wp2_with (first | ((with_reducible refine gate_dst (N := 1) rfl ?_); refine box_event ?hg (N := 1) ?hd (cs := #[.int .i64 a0_0, .int .i64 a0_1, .int .i64 a0_2, .int .i64 a0_3, .int .i64 a0_4]) (t := 53) ?hr ?_; (case hd => rfl); (case hg => rfl); (case hr => first | (go_simp; done) | (go_simp; rfl)); intro gb375 hg w34 hbox hb; have n0_ := Aside0.mk (below_step (by repeat (first | (with_reducible first | exact HB.out | apply below_alloc | apply pw_below_drewN | apply below_drew1) | exact HB.out)) hb); have n1_ := Aside0.mk (hbox); have n2_ := Aside0.mk ((by rw [hg]; exact (below_size (by repeat (first | (with_reducible first | exact HB.out | apply below_alloc | apply pw_below_drewN | apply below_drew1) | exact HB.out))) : w.heap.size ≤ gb375)); have n3_ := Aside0.mk ((by rw [hg]; exact (below_size (by repeat (first | (with_reducible first | exact HB.out | apply below_alloc | apply pw_below_drewN | apply below_drew1) | exact HB.out))) : w.heap.size ≤ gb375)); clear HB; have HB := n0_; have BK375 := n1_; have GW375 := n2_; have GE375 := n3_; clear n0_ n1_ n2_ n3_; clear hb hbox hg; have hcz35_0 : w34.cell? ⟨gb375, 0, none⟩ = some (.int .i64 a0_0) := (blk_cell BK375.out 0).trans rfl; have hcz35_1 : w34.cell? ⟨gb375, 1, none⟩ = some (.int .i64 a0_1) := (blk_cell BK375.out 1).trans rfl; have hcz35_2 : w34.cell? ⟨gb375, 2, none⟩ = some (.int .i64 a0_2) := (blk_cell BK375.out 2).trans rfl; have hcz35_3 : w34.cell? ⟨gb375, 3, none⟩ = some (.int .i64 a0_3) := (blk_cell BK375.out 3).trans rfl; have hcz35_4 : w34.cell? ⟨gb375, 4, none⟩ = some (.int .i64 a0_4) := (blk_cell BK375.out 4).trans rfl; have hfz35_0 := blk_frozen BK375.out 0; have hfz35_1 := blk_frozen BK375.out 1; have hfz35_2 := blk_frozen BK375.out 2; have hfz35_3 := blk_frozen BK375.out 3; have hfz35_4 := blk_frozen BK375.out 4) | ((with_reducible refine gate_callee (f := 71) rfl ?_); refine goesL_ (some 8) rfl rfl Try.func71 (by kernel_rfl) rfl #[.int .i64 a0_0] rfl (by (try simp only [List.map_toArray, List.map_cons, List.map_nil]); first | done | rfl | (simp only [List.length_drop, List.length_take]; rfl)) ?_; (with_reducible refine (record_Name.calls k a0_0 t376 t377 _ A2.out).mono ?_); rintro e w36 ⟨rfl, hb⟩; refine ⟨_, rfl, ?_⟩; have n0_ := Aside0.mk (blk_below (g := gb375) (o := .cells #[.int .i64 a0_0, .int .i64 a0_1, .int .i64 a0_2, .int .i64 a0_3, .int .i64 a0_4] 53 (0, 0)) (by (with_reducible repeat (first | refine blk_drewN ?_ _ | refine blk_drew ?_ | refine blk_alloc ?_ _)); exact BK375.out) hb); have n1_ := Aside0.mk (below_step (by repeat (first | (with_reducible first | exact HB.out | apply below_alloc | apply pw_below_drewN | apply below_drew1 | refine below_set ?_ GE375.out) | exact HB.out)) hb); clear BK375; clear HB; have BK375 := n0_; have HB := n1_; clear n0_ n1_; (try clear hb); (try clear hb2); (try clear hk); (try clear hi)))
    go_ret
    exact ⟨by first | rfl | (simp [errW_none, errW_some] <;> rfl) | (simp [*, errW_none, errW_some] <;> rfl), by repeat (first | (with_reducible first | exact HB.out | apply below_alloc | apply pw_below_drewN | apply below_drew1 | refine below_set ?_ GE375.out) | exact HB.out)⟩

/-! ### pestleref44_Id: function 72 -/
def pestleref44_Id.f (a0 : Int) : Option (ByteArray) := (some (([(⟨#[]⟩ : ByteArray), (⟨#[97, 114, 103, 111, 110, 50, 100]⟩ : ByteArray), (⟨#[97, 114, 103, 111, 110, 50, 105]⟩ : ByteArray), (⟨#[97, 114, 103, 111, 110, 50, 105, 100]⟩ : ByteArray), (⟨#[115, 99, 114, 121, 112, 116]⟩ : ByteArray), (⟨#[98, 99, 114, 121, 112, 116]⟩ : ByteArray), (⟨#[112, 98, 107, 100, 102, 50, 45, 115, 104, 97, 50, 53, 54]⟩ : ByteArray)] : List ByteArray) : List ByteArray)).bind fun y398 => (if a0 < 1 then (some (⟨#[]⟩ : ByteArray)) else (if a0 > 6 then (some (⟨#[]⟩ : ByteArray)) else (if 0 ≤ a0 then (if a0 < (y398.length : Int) then (some (rdOf ByteArray.empty y398 a0)) else (none)) else (none))))
set_option maxHeartbeats 8000000 in
set_option maxRecDepth 100000 in
theorem pestleref44_Id.calls (a0 : Int) (r : ByteArray) (w : World) (h : pestleref44_Id.f a0 = some r) :
    Calls Try.prog 72 #[.int .i64 a0] w fun e w' => e = .returned (.string r) ∧ Below w.heap.size w w' := by
  have HB := Aside0.mk (Below.refl w.heap.size w)
  have H : ((some (([(⟨#[]⟩ : ByteArray), (⟨#[97, 114, 103, 111, 110, 50, 100]⟩ : ByteArray), (⟨#[97, 114, 103, 111, 110, 50, 105]⟩ : ByteArray), (⟨#[97, 114, 103, 111, 110, 50, 105, 100]⟩ : ByteArray), (⟨#[115, 99, 114, 121, 112, 116]⟩ : ByteArray), (⟨#[98, 99, 114, 121, 112, 116]⟩ : ByteArray), (⟨#[112, 98, 107, 100, 102, 50, 45, 115, 104, 97, 50, 53, 54]⟩ : ByteArray)] : List ByteArray) : List ByteArray)).bind fun y398 => (if a0 < 1 then (some (⟨#[]⟩ : ByteArray)) else (if a0 > 6 then (some (⟨#[]⟩ : ByteArray)) else (if 0 ≤ a0 then (if a0 < (y398.length : Int) then (some (rdOf ByteArray.empty y398 a0)) else (none)) else (none))))) = some r := h
  clear h
  obtain ⟨y398, hy398⟩ : ∃ y_ : List ByteArray, y_ = (([(⟨#[]⟩ : ByteArray), (⟨#[97, 114, 103, 111, 110, 50, 100]⟩ : ByteArray), (⟨#[97, 114, 103, 111, 110, 50, 105]⟩ : ByteArray), (⟨#[97, 114, 103, 111, 110, 50, 105, 100]⟩ : ByteArray), (⟨#[115, 99, 114, 121, 112, 116]⟩ : ByteArray), (⟨#[98, 99, 114, 121, 112, 116]⟩ : ByteArray), (⟨#[112, 98, 107, 100, 102, 50, 45, 115, 104, 97, 50, 53, 54]⟩ : ByteArray)] : List ByteArray)) := ⟨_, rfl⟩
  replace H : (if a0 < 1 then (some (⟨#[]⟩ : ByteArray)) else (if a0 > 6 then (some (⟨#[]⟩ : ByteArray)) else (if 0 ≤ a0 then (if a0 < (y398.length : Int) then (some (rdOf ByteArray.empty y398 a0)) else (none)) else (none)))) = some r := by first | (rw [hy398]; with_reducible exact H) | (have H2_ := (Option.bind_some _ _).symm.trans H; rw [hy398]; with_reducible exact H2_) | (have H2_ := (Option.bind_some _ _).symm.trans H; with_reducible exact H2_) | with_reducible exact H | (rw [hy398]; exact H) | exact H
  have Ny398 := Aside0.mk hy398
  clear hy398
  by_cases c2 : a0 < 1
  · rw [if_pos c2] at H
    have c2b0 : decide (a0 < 1) = true := decide_eq_true c2
    clear c2
    obtain rfl := Option.some.inj H
    go_enter Try.func72, Try.ntmps72
    go_wp2_with (first | ((with_reducible refine gate_dst (N := 4) rfl ?_); refine Kd.R_lit Kd.string _ 9 ?hg (N := 4) ?hd (xs := ([(⟨#[]⟩ : ByteArray), (⟨#[97, 114, 103, 111, 110, 50, 100]⟩ : ByteArray), (⟨#[97, 114, 103, 111, 110, 50, 105]⟩ : ByteArray), (⟨#[97, 114, 103, 111, 110, 50, 105, 100]⟩ : ByteArray), (⟨#[115, 99, 114, 121, 112, 116]⟩ : ByteArray), (⟨#[98, 99, 114, 121, 112, 116]⟩ : ByteArray), (⟨#[112, 98, 107, 100, 102, 50, 45, 115, 104, 97, 50, 53, 54]⟩ : ByteArray)] : List ByteArray)) (inner := [.string (⟨#[]⟩ : ByteArray), .string (⟨#[97, 114, 103, 111, 110, 50, 100]⟩ : ByteArray), .string (⟨#[97, 114, 103, 111, 110, 50, 105]⟩ : ByteArray), .string (⟨#[97, 114, 103, 111, 110, 50, 105, 100]⟩ : ByteArray), .string (⟨#[115, 99, 114, 121, 112, 116]⟩ : ByteArray), .string (⟨#[98, 99, 114, 121, 112, 116]⟩ : ByteArray), .string (⟨#[112, 98, 107, 100, 102, 50, 45, 115, 104, 97, 50, 53, 54]⟩ : ByteArray)]) (ok := fun _ => True) (okp := fun _ => True) ?hr ?hp (fun _ hk => hk) trivial (Below.refl _ _) (Nat.le_refl _) (by simp) ?_; (case hd => rfl); (case hg => rfl); (case hr => first | (go_simp; done) | (go_simp; rfl)); (case hp => exact (Reps.one (show Kd.M Kd.string _ _ _ (⟨#[]⟩ : ByteArray) [.string (⟨#[]⟩ : ByteArray)] from rfl) (Reps.one (show Kd.M Kd.string _ _ _ (⟨#[97, 114, 103, 111, 110, 50, 100]⟩ : ByteArray) [.string (⟨#[97, 114, 103, 111, 110, 50, 100]⟩ : ByteArray)] from rfl) (Reps.one (show Kd.M Kd.string _ _ _ (⟨#[97, 114, 103, 111, 110, 50, 105]⟩ : ByteArray) [.string (⟨#[97, 114, 103, 111, 110, 50, 105]⟩ : ByteArray)] from rfl) (Reps.one (show Kd.M Kd.string _ _ _ (⟨#[97, 114, 103, 111, 110, 50, 105, 100]⟩ : ByteArray) [.string (⟨#[97, 114, 103, 111, 110, 50, 105, 100]⟩ : ByteArray)] from rfl) (Reps.one (show Kd.M Kd.string _ _ _ (⟨#[115, 99, 114, 121, 112, 116]⟩ : ByteArray) [.string (⟨#[115, 99, 114, 121, 112, 116]⟩ : ByteArray)] from rfl) (Reps.one (show Kd.M Kd.string _ _ _ (⟨#[98, 99, 114, 121, 112, 116]⟩ : ByteArray) [.string (⟨#[98, 99, 114, 121, 112, 116]⟩ : ByteArray)] from rfl) (Reps.one (show Kd.M Kd.string _ _ _ (⟨#[112, 98, 107, 100, 102, 50, 45, 115, 104, 97, 50, 53, 54]⟩ : ByteArray) [.string (⟨#[112, 98, 107, 100, 102, 50, 45, 115, 104, 97, 50, 53, 54]⟩ : ByteArray)] from rfl) (Reps.none _ _))))))))); intro v399 w3 ho4 hb hg_ hnew_; clear hg_ hnew_; (first | rw [← Ny398.out] at ho4 | (simp only [Int.reduceToNat] at ho4; rw [← Ny398.out] at ho4)); have n0_ := Aside0.mk (Kd.R_lower ho4 (below_size (by repeat (first | (with_reducible first | exact HB.out | apply below_alloc | apply pw_below_drewN | apply below_drew1) | exact HB.out)))); have n1_ := Aside0.mk (below_step (by repeat (first | (with_reducible first | exact HB.out | apply below_alloc | apply pw_below_drewN | apply below_drew1) | exact HB.out)) hb); clear HB; have HO400 := n0_; have HB := n1_; clear n0_ n1_; clear hb ho4))
    go_ret
    exact ⟨by first | rfl | (simp [errW_none, errW_some] <;> rfl) | (simp [*, errW_none, errW_some] <;> rfl), by repeat (first | (with_reducible first | exact HB.out | apply below_alloc | apply pw_below_drewN | apply below_drew1) | exact HB.out)⟩
  · rw [if_neg c2] at H
    have c2b0 : decide (a0 < 1) = false := decide_eq_false c2
    clear c2
    by_cases c5 : a0 > 6
    · rw [if_pos c5] at H
      have c5b0 : decide (6 < a0) = true := decide_eq_true c5
      clear c5
      obtain rfl := Option.some.inj H
      go_enter Try.func72, Try.ntmps72
      go_wp2_with (first | ((with_reducible refine gate_dst (N := 4) rfl ?_); refine Kd.R_lit Kd.string _ 9 ?hg (N := 4) ?hd (xs := ([(⟨#[]⟩ : ByteArray), (⟨#[97, 114, 103, 111, 110, 50, 100]⟩ : ByteArray), (⟨#[97, 114, 103, 111, 110, 50, 105]⟩ : ByteArray), (⟨#[97, 114, 103, 111, 110, 50, 105, 100]⟩ : ByteArray), (⟨#[115, 99, 114, 121, 112, 116]⟩ : ByteArray), (⟨#[98, 99, 114, 121, 112, 116]⟩ : ByteArray), (⟨#[112, 98, 107, 100, 102, 50, 45, 115, 104, 97, 50, 53, 54]⟩ : ByteArray)] : List ByteArray)) (inner := [.string (⟨#[]⟩ : ByteArray), .string (⟨#[97, 114, 103, 111, 110, 50, 100]⟩ : ByteArray), .string (⟨#[97, 114, 103, 111, 110, 50, 105]⟩ : ByteArray), .string (⟨#[97, 114, 103, 111, 110, 50, 105, 100]⟩ : ByteArray), .string (⟨#[115, 99, 114, 121, 112, 116]⟩ : ByteArray), .string (⟨#[98, 99, 114, 121, 112, 116]⟩ : ByteArray), .string (⟨#[112, 98, 107, 100, 102, 50, 45, 115, 104, 97, 50, 53, 54]⟩ : ByteArray)]) (ok := fun _ => True) (okp := fun _ => True) ?hr ?hp (fun _ hk => hk) trivial (Below.refl _ _) (Nat.le_refl _) (by simp) ?_; (case hd => rfl); (case hg => rfl); (case hr => first | (go_simp; done) | (go_simp; rfl)); (case hp => exact (Reps.one (show Kd.M Kd.string _ _ _ (⟨#[]⟩ : ByteArray) [.string (⟨#[]⟩ : ByteArray)] from rfl) (Reps.one (show Kd.M Kd.string _ _ _ (⟨#[97, 114, 103, 111, 110, 50, 100]⟩ : ByteArray) [.string (⟨#[97, 114, 103, 111, 110, 50, 100]⟩ : ByteArray)] from rfl) (Reps.one (show Kd.M Kd.string _ _ _ (⟨#[97, 114, 103, 111, 110, 50, 105]⟩ : ByteArray) [.string (⟨#[97, 114, 103, 111, 110, 50, 105]⟩ : ByteArray)] from rfl) (Reps.one (show Kd.M Kd.string _ _ _ (⟨#[97, 114, 103, 111, 110, 50, 105, 100]⟩ : ByteArray) [.string (⟨#[97, 114, 103, 111, 110, 50, 105, 100]⟩ : ByteArray)] from rfl) (Reps.one (show Kd.M Kd.string _ _ _ (⟨#[115, 99, 114, 121, 112, 116]⟩ : ByteArray) [.string (⟨#[115, 99, 114, 121, 112, 116]⟩ : ByteArray)] from rfl) (Reps.one (show Kd.M Kd.string _ _ _ (⟨#[98, 99, 114, 121, 112, 116]⟩ : ByteArray) [.string (⟨#[98, 99, 114, 121, 112, 116]⟩ : ByteArray)] from rfl) (Reps.one (show Kd.M Kd.string _ _ _ (⟨#[112, 98, 107, 100, 102, 50, 45, 115, 104, 97, 50, 53, 54]⟩ : ByteArray) [.string (⟨#[112, 98, 107, 100, 102, 50, 45, 115, 104, 97, 50, 53, 54]⟩ : ByteArray)] from rfl) (Reps.none _ _))))))))); intro v399 w6 ho7 hb hg_ hnew_; clear hg_ hnew_; (first | rw [← Ny398.out] at ho7 | (simp only [Int.reduceToNat] at ho7; rw [← Ny398.out] at ho7)); have n0_ := Aside0.mk (Kd.R_lower ho7 (below_size (by repeat (first | (with_reducible first | exact HB.out | apply below_alloc | apply pw_below_drewN | apply below_drew1) | exact HB.out)))); have n1_ := Aside0.mk (below_step (by repeat (first | (with_reducible first | exact HB.out | apply below_alloc | apply pw_below_drewN | apply below_drew1) | exact HB.out)) hb); clear HB; have HO400 := n0_; have HB := n1_; clear n0_ n1_; clear hb ho7))
      go_ret
      exact ⟨by first | rfl | (simp [errW_none, errW_some] <;> rfl) | (simp [*, errW_none, errW_some] <;> rfl), by repeat (first | (with_reducible first | exact HB.out | apply below_alloc | apply pw_below_drewN | apply below_drew1) | exact HB.out)⟩
    · rw [if_neg c5] at H
      have c5b0 : decide (6 < a0) = false := decide_eq_false c5
      clear c5
      by_cases c8 : 0 ≤ a0
      · rw [if_pos c8] at H
        have c8b0 : decide (0 ≤ a0) = true := decide_eq_true c8
        clear c8
        by_cases c9 : a0 < (y398.length : Int)
        · rw [if_pos c9] at H
          have c9b0 : decide (a0 < (y398.length : Int)) = true := decide_eq_true c9
          clear c9
          obtain rfl := Option.some.inj H
          go_enter Try.func72, Try.ntmps72
          go_wp2_with (first | ((with_reducible refine gate_dst (N := 4) rfl ?_); refine Kd.R_lit Kd.string _ 9 ?hg (N := 4) ?hd (xs := ([(⟨#[]⟩ : ByteArray), (⟨#[97, 114, 103, 111, 110, 50, 100]⟩ : ByteArray), (⟨#[97, 114, 103, 111, 110, 50, 105]⟩ : ByteArray), (⟨#[97, 114, 103, 111, 110, 50, 105, 100]⟩ : ByteArray), (⟨#[115, 99, 114, 121, 112, 116]⟩ : ByteArray), (⟨#[98, 99, 114, 121, 112, 116]⟩ : ByteArray), (⟨#[112, 98, 107, 100, 102, 50, 45, 115, 104, 97, 50, 53, 54]⟩ : ByteArray)] : List ByteArray)) (inner := [.string (⟨#[]⟩ : ByteArray), .string (⟨#[97, 114, 103, 111, 110, 50, 100]⟩ : ByteArray), .string (⟨#[97, 114, 103, 111, 110, 50, 105]⟩ : ByteArray), .string (⟨#[97, 114, 103, 111, 110, 50, 105, 100]⟩ : ByteArray), .string (⟨#[115, 99, 114, 121, 112, 116]⟩ : ByteArray), .string (⟨#[98, 99, 114, 121, 112, 116]⟩ : ByteArray), .string (⟨#[112, 98, 107, 100, 102, 50, 45, 115, 104, 97, 50, 53, 54]⟩ : ByteArray)]) (ok := fun _ => True) (okp := fun _ => True) ?hr ?hp (fun _ hk => hk) trivial (Below.refl _ _) (Nat.le_refl _) (by simp) ?_; (case hd => rfl); (case hg => rfl); (case hr => first | (go_simp; done) | (go_simp; rfl)); (case hp => exact (Reps.one (show Kd.M Kd.string _ _ _ (⟨#[]⟩ : ByteArray) [.string (⟨#[]⟩ : ByteArray)] from rfl) (Reps.one (show Kd.M Kd.string _ _ _ (⟨#[97, 114, 103, 111, 110, 50, 100]⟩ : ByteArray) [.string (⟨#[97, 114, 103, 111, 110, 50, 100]⟩ : ByteArray)] from rfl) (Reps.one (show Kd.M Kd.string _ _ _ (⟨#[97, 114, 103, 111, 110, 50, 105]⟩ : ByteArray) [.string (⟨#[97, 114, 103, 111, 110, 50, 105]⟩ : ByteArray)] from rfl) (Reps.one (show Kd.M Kd.string _ _ _ (⟨#[97, 114, 103, 111, 110, 50, 105, 100]⟩ : ByteArray) [.string (⟨#[97, 114, 103, 111, 110, 50, 105, 100]⟩ : ByteArray)] from rfl) (Reps.one (show Kd.M Kd.string _ _ _ (⟨#[115, 99, 114, 121, 112, 116]⟩ : ByteArray) [.string (⟨#[115, 99, 114, 121, 112, 116]⟩ : ByteArray)] from rfl) (Reps.one (show Kd.M Kd.string _ _ _ (⟨#[98, 99, 114, 121, 112, 116]⟩ : ByteArray) [.string (⟨#[98, 99, 114, 121, 112, 116]⟩ : ByteArray)] from rfl) (Reps.one (show Kd.M Kd.string _ _ _ (⟨#[112, 98, 107, 100, 102, 50, 45, 115, 104, 97, 50, 53, 54]⟩ : ByteArray) [.string (⟨#[112, 98, 107, 100, 102, 50, 45, 115, 104, 97, 50, 53, 54]⟩ : ByteArray)] from rfl) (Reps.none _ _))))))))); intro v399 w10 ho11 hb hg_ hnew_; clear hg_ hnew_; (first | rw [← Ny398.out] at ho11 | (simp only [Int.reduceToNat] at ho11; rw [← Ny398.out] at ho11)); have n0_ := Aside0.mk (Kd.R_lower ho11 (below_size (by repeat (first | (with_reducible first | exact HB.out | apply below_alloc | apply pw_below_drewN | apply below_drew1) | exact HB.out)))); have n1_ := Aside0.mk (below_step (by repeat (first | (with_reducible first | exact HB.out | apply below_alloc | apply pw_below_drewN | apply below_drew1) | exact HB.out)) hb); clear HB; have HO400 := n0_; have HB := n1_; clear n0_ n1_; clear hb ho11; obtain ⟨Ao12, co12, eo12⟩ := Kd.R_slice HO400.out; subst eo12; have p401 : 0 ≤ (a0 : Int) := of_decide_eq_true (by first | (with_reducible assumption) | assumption); have q401 : a0 < (y398.length : Int) := of_decide_eq_true (by first | (with_reducible assumption) | assumption); obtain ⟨ad401, e401, hx401_0⟩ := Kd.at_string (Kd.R_reads' HO400.out).2.2 a0 p401 q401; cases e401; replace p401 := eq_true p401; replace q401 := eq_true q401))
          go_ret
          exact ⟨by first | rfl | (simp [errW_none, errW_some] <;> rfl) | (simp [*, errW_none, errW_some] <;> rfl), by repeat (first | (with_reducible first | exact HB.out | apply below_alloc | apply pw_below_drewN | apply below_drew1) | exact HB.out)⟩
        · rw [if_neg c9] at H
          exact absurd H (by simp)
      · rw [if_neg c8] at H
        exact absurd H (by simp)

end Go.Proofs.Ytoknoghdnedmhaa.Pall
