-- PRINTED by print.py (a twelfth state) out of the translation. Not trusted: Lean checks it.
import Derived.Test.YtoknoghdnedmhaaPallx0
import Derived.Test.YtoknoghdnedmhaaPallx1
import Derived.Test.YtoknoghdnedmhaaPallx2
import Derived.Test.YtoknoghdnedmhaaPallx4
namespace Go.Proofs.Ytoknoghdnedmhaa.Pall
open Go.RowKit Go.Proofs.YtoknoghdnedmhaaW.PrintWords Go.Proofs.YtoknoghdnedmhaaW.PrintLast Go.Proofs.YtoknoghdnedmhaaW.PrintMore
attribute [local go_sem] max2_int min2_int max_two min_two max_three min_three max_four min_four   -- for this text's walks alone
set_option linter.unusedVariables false
set_option linter.unusedSimpArgs false

/-! ### report_Params: function 30 -/
def report_Params.f (k : Nat) (a0_0 : Int) (a0_1 : Int) (a0_2 : Int) (a0_3 : Int) (a0_4 : Int) : Option (ByteArray) := (record_Name.f k a0_0).bind fun bt189 => (if bt189.2 = 0 then ((dec_List.f k (⟨#[]⟩ : ByteArray) (([a0_1] : List Int))).bind fun t194 => ((dec_List.f k (⟨#[]⟩ : ByteArray) (([a0_2] : List Int))).bind fun t198 => ((dec_List.f k (⟨#[]⟩ : ByteArray) (([a0_3] : List Int))).bind fun t202 => ((dec_List.f k (⟨#[]⟩ : ByteArray) (([a0_4] : List Int))).bind fun t206 => ((fields_Join.f k 32 (([bt189.1, (⟨#[116, 105, 109, 101]⟩ : ByteArray), t194, (⟨#[109, 101, 109, 111, 114, 121]⟩ : ByteArray), t198, (⟨#[108, 97, 110, 101, 115]⟩ : ByteArray), t202, (⟨#[115, 105, 122, 101]⟩ : ByteArray), t206] : List ByteArray))).bind fun t210 => (some t210)))))) else (some (⟨#[63]⟩ : ByteArray)))
theorem report_Params.mono : ∀ a0 a1 a2 a3 a4 k, LeO (report_Params.f k a0 a1 a2 a3 a4) (report_Params.f (k + 1) a0 a1 a2 a3 a4) := by
  intro a0 a1 a2 a3 a4 k
  unfold report_Params.f
  repeat' first
      | (with_reducible exact dec_List.mono _ _ _)
      | (with_reducible exact fields_Join.mono _ _ _)
      | (with_reducible exact record_Name.mono _ _)
      | (with_reducible exact LeO.refl _)
      | (with_reducible exact LeO.none _)
      | (with_reducible refine LeO.ite ?_ ?_)
      | (with_reducible refine LeO.bind ?_ (fun _ => ?_))
      | exact dec_List.mono _ _ _
      | exact fields_Join.mono _ _ _
      | exact record_Name.mono _ _
      | exact LeO.none _
      | refine LeO.ite ?_ ?_
      | refine LeO.bind ?_ (fun _ => ?_)
def report_Params.T4 : Bool × List (List Nat × List Nat) := (true, [([], []), ([], []), ([1], [1]), ([2], [2]), ([3], [3]), ([], []), ([5], [5]), ([6], [6]), ([7, 4], [7]), ([], []), ([9], [9]), ([10], [10]), ([11, 8], [11]), ([], []), ([13], [13]), ([14], [14]), ([15, 12], [15]), ([0, 4, 8, 12, 16], [0, 4, 8, 12, 16]), ([17, 16], [17]), ([18, 18, 0, 1, 2, 3, 4, 5, 6, 7, 8, 9, 10, 11, 12, 13, 14, 15, 16, 17, 18], [18])])
def report_Params.B4 : List Nat := [0, 0, 2, 6, 14, 0, 32, 96, 254, 0, 512, 1536, 4094, 0, 8192, 24576, 65534, 131071, 262143, 524287]
theorem report_Params.tab4 : rtab .any (opsOf Try.f30 4) = report_Params.T4 := by kernel_rfl
theorem report_Params.bits4 : waitsOk report_Params.T4.2 report_Params.B4 = true := by kernel_rfl
set_option maxHeartbeats 8000000 in
set_option maxRecDepth 100000 in
theorem report_Params.calls (k : Nat) (a0_0 : Int) (a0_1 : Int) (a0_2 : Int) (a0_3 : Int) (a0_4 : Int) (r : ByteArray) (w : World) (h : report_Params.f k a0_0 a0_1 a0_2 a0_3 a0_4 = some r) :
    Calls Try.prog 30 #[.agg #[.int .i64 a0_0, .int .i64 a0_1, .int .i64 a0_2, .int .i64 a0_3, .int .i64 a0_4]] w fun e w' => e = .returned (.string r) ∧ Below w.heap.size w w' := by
  have hu53 := Try.underlying53
  have HB := Aside0.mk (Below.refl w.heap.size w)
  have H : ((record_Name.f k a0_0).bind fun bt189 => (if bt189.2 = 0 then ((dec_List.f k (⟨#[]⟩ : ByteArray) (([a0_1] : List Int))).bind fun t194 => ((dec_List.f k (⟨#[]⟩ : ByteArray) (([a0_2] : List Int))).bind fun t198 => ((dec_List.f k (⟨#[]⟩ : ByteArray) (([a0_3] : List Int))).bind fun t202 => ((dec_List.f k (⟨#[]⟩ : ByteArray) (([a0_4] : List Int))).bind fun t206 => ((fields_Join.f k 32 (([bt189.1, (⟨#[116, 105, 109, 101]⟩ : ByteArray), t194, (⟨#[109, 101, 109, 111, 114, 121]⟩ : ByteArray), t198, (⟨#[108, 97, 110, 101, 115]⟩ : ByteArray), t202, (⟨#[115, 105, 122, 101]⟩ : ByteArray), t206] : List ByteArray))).bind fun t210 => (some t210)))))) else (some (⟨#[63]⟩ : ByteArray)))) = some r := h
  clear h
  replace H := Option.bind_eq_some_iff.mp H
  obtain ⟨⟨t189, t190⟩, A20, H⟩ := H
  replace H : (if t190 = 0 then ((dec_List.f k (⟨#[]⟩ : ByteArray) (([a0_1] : List Int))).bind fun t194 => ((dec_List.f k (⟨#[]⟩ : ByteArray) (([a0_2] : List Int))).bind fun t198 => ((dec_List.f k (⟨#[]⟩ : ByteArray) (([a0_3] : List Int))).bind fun t202 => ((dec_List.f k (⟨#[]⟩ : ByteArray) (([a0_4] : List Int))).bind fun t206 => ((fields_Join.f k 32 (([t189, (⟨#[116, 105, 109, 101]⟩ : ByteArray), t194, (⟨#[109, 101, 109, 111, 114, 121]⟩ : ByteArray), t198, (⟨#[108, 97, 110, 101, 115]⟩ : ByteArray), t202, (⟨#[115, 105, 122, 101]⟩ : ByteArray), t206] : List ByteArray))).bind fun t210 => (some t210)))))) else (some (⟨#[63]⟩ : ByteArray))) = some r := H
  have A2 := Aside0.mk A20
  clear A20
  by_cases c3 : t190 = 0
  · rw [if_pos c3] at H
    have c3b0 : (t190 == 0) = true := beq_iff_eq.mpr c3
    have c3b1 : (t190 != 0) = false := bne_eq_false_iff_eq.mpr c3
    clear c3
    obtain ⟨y191, hy191⟩ : ∃ y_ : List Int, y_ = (([a0_1] : List Int)) := ⟨_, rfl⟩
    replace H : ((dec_List.f k (⟨#[]⟩ : ByteArray) y191).bind fun t194 => ((dec_List.f k (⟨#[]⟩ : ByteArray) (([a0_2] : List Int))).bind fun t198 => ((dec_List.f k (⟨#[]⟩ : ByteArray) (([a0_3] : List Int))).bind fun t202 => ((dec_List.f k (⟨#[]⟩ : ByteArray) (([a0_4] : List Int))).bind fun t206 => ((fields_Join.f k 32 (([t189, (⟨#[116, 105, 109, 101]⟩ : ByteArray), t194, (⟨#[109, 101, 109, 111, 114, 121]⟩ : ByteArray), t198, (⟨#[108, 97, 110, 101, 115]⟩ : ByteArray), t202, (⟨#[115, 105, 122, 101]⟩ : ByteArray), t206] : List ByteArray))).bind fun t210 => (some t210)))))) = some r := by first | (rw [hy191]; with_reducible exact H) | (have H2_ := (Option.bind_some _ _).symm.trans H; rw [hy191]; with_reducible exact H2_) | (have H2_ := (Option.bind_some _ _).symm.trans H; with_reducible exact H2_) | with_reducible exact H | (rw [hy191]; exact H) | exact H
    have Ny191 := Aside0.mk hy191
    clear hy191
    replace H := Option.bind_eq_some_iff.mp H
    obtain ⟨t194, A40, H⟩ := H
    replace H : ((dec_List.f k (⟨#[]⟩ : ByteArray) (([a0_2] : List Int))).bind fun t198 => ((dec_List.f k (⟨#[]⟩ : ByteArray) (([a0_3] : List Int))).bind fun t202 => ((dec_List.f k (⟨#[]⟩ : ByteArray) (([a0_4] : List Int))).bind fun t206 => ((fields_Join.f k 32 (([t189, (⟨#[116, 105, 109, 101]⟩ : ByteArray), t194, (⟨#[109, 101, 109, 111, 114, 121]⟩ : ByteArray), t198, (⟨#[108, 97, 110, 101, 115]⟩ : ByteArray), t202, (⟨#[115, 105, 122, 101]⟩ : ByteArray), t206] : List ByteArray))).bind fun t210 => (some t210))))) = some r := H
    have A4 := Aside0.mk A40
    clear A40
    obtain ⟨y195, hy195⟩ : ∃ y_ : List Int, y_ = (([a0_2] : List Int)) := ⟨_, rfl⟩
    replace H : ((dec_List.f k (⟨#[]⟩ : ByteArray) y195).bind fun t198 => ((dec_List.f k (⟨#[]⟩ : ByteArray) (([a0_3] : List Int))).bind fun t202 => ((dec_List.f k (⟨#[]⟩ : ByteArray) (([a0_4] : List Int))).bind fun t206 => ((fields_Join.f k 32 (([t189, (⟨#[116, 105, 109, 101]⟩ : ByteArray), t194, (⟨#[109, 101, 109, 111, 114, 121]⟩ : ByteArray), t198, (⟨#[108, 97, 110, 101, 115]⟩ : ByteArray), t202, (⟨#[115, 105, 122, 101]⟩ : ByteArray), t206] : List ByteArray))).bind fun t210 => (some t210))))) = some r := by first | (rw [hy195]; with_reducible exact H) | (have H2_ := (Option.bind_some _ _).symm.trans H; rw [hy195]; with_reducible exact H2_) | (have H2_ := (Option.bind_some _ _).symm.trans H; with_reducible exact H2_) | with_reducible exact H | (rw [hy195]; exact H) | exact H
    have Ny195 := Aside0.mk hy195
    clear hy195
    replace H := Option.bind_eq_some_iff.mp H
    obtain ⟨t198, A50, H⟩ := H
    replace H : ((dec_List.f k (⟨#[]⟩ : ByteArray) (([a0_3] : List Int))).bind fun t202 => ((dec_List.f k (⟨#[]⟩ : ByteArray) (([a0_4] : List Int))).bind fun t206 => ((fields_Join.f k 32 (([t189, (⟨#[116, 105, 109, 101]⟩ : ByteArray), t194, (⟨#[109, 101, 109, 111, 114, 121]⟩ : ByteArray), t198, (⟨#[108, 97, 110, 101, 115]⟩ : ByteArray), t202, (⟨#[115, 105, 122, 101]⟩ : ByteArray), t206] : List ByteArray))).bind fun t210 => (some t210)))) = some r := H
    have A5 := Aside0.mk A50
    clear A50
    obtain ⟨y199, hy199⟩ : ∃ y_ : List Int, y_ = (([a0_3] : List Int)) := ⟨_, rfl⟩
    replace H : ((dec_List.f k (⟨#[]⟩ : ByteArray) y199).bind fun t202 => ((dec_List.f k (⟨#[]⟩ : ByteArray) (([a0_4] : List Int))).bind fun t206 => ((fields_Join.f k 32 (([t189, (⟨#[116, 105, 109, 101]⟩ : ByteArray), t194, (⟨#[109, 101, 109, 111, 114, 121]⟩ : ByteArray), t198, (⟨#[108, 97, 110, 101, 115]⟩ : ByteArray), t202, (⟨#[115, 105, 122, 101]⟩ : ByteArray), t206] : List ByteArray))).bind fun t210 => (some t210)))) = some r := by first | (rw [hy199]; with_reducible exact H) | (have H2_ := (Option.bind_some _ _).symm.trans H; rw [hy199]; with_reducible exact H2_) | (have H2_ := (Option.bind_some _ _).symm.trans H; with_reducible exact H2_) | with_reducible exact H | (rw [hy199]; exact H) | exact H
    have Ny199 := Aside0.mk hy199
    clear hy199
    replace H := Option.bind_eq_some_iff.mp H
    obtain ⟨t202, A60, H⟩ := H
    replace H : ((dec_List.f k (⟨#[]⟩ : ByteArray) (([a0_4] : List Int))).bind fun t206 => ((fields_Join.f k 32 (([t189, (⟨#[116, 105, 109, 101]⟩ : ByteArray), t194, (⟨#[109, 101, 109, 111, 114, 121]⟩ : ByteArray), t198, (⟨#[108, 97, 110, 101, 115]⟩ : ByteArray), t202, (⟨#[115, 105, 122, 101]⟩ : ByteArray), t206] : List ByteArray))).bind fun t210 => (some t210))) = some r := H
    have A6 := Aside0.mk A60
    clear A60
    obtain ⟨y203, hy203⟩ : ∃ y_ : List Int, y_ = (([a0_4] : List Int)) := ⟨_, rfl⟩
    replace H : ((dec_List.f k (⟨#[]⟩ : ByteArray) y203).bind fun t206 => ((fields_Join.f k 32 (([t189, (⟨#[116, 105, 109, 101]⟩ : ByteArray), t194, (⟨#[109, 101, 109, 111, 114, 121]⟩ : ByteArray), t198, (⟨#[108, 97, 110, 101, 115]⟩ : ByteArray), t202, (⟨#[115, 105, 122, 101]⟩ : ByteArray), t206] : List ByteArray))).bind fun t210 => (some t210))) = some r := by first | (rw [hy203]; with_reducible exact H) | (have H2_ := (Option.bind_some _ _).symm.trans H; rw [hy203]; with_reducible exact H2_) | (have H2_ := (Option.bind_some _ _).symm.trans H; with_reducible exact H2_) | with_reducible exact H | (rw [hy203]; exact H) | exact H
    have Ny203 := Aside0.mk hy203
    clear hy203
    replace H := Option.bind_eq_some_iff.mp H
    obtain ⟨t206, A70, H⟩ := H
    replace H : ((fields_Join.f k 32 (([t189, (⟨#[116, 105, 109, 101]⟩ : ByteArray), t194, (⟨#[109, 101, 109, 111, 114, 121]⟩ : ByteArray), t198, (⟨#[108, 97, 110, 101, 115]⟩ : ByteArray), t202, (⟨#[115, 105, 122, 101]⟩ : ByteArray), t206] : List ByteArray))).bind fun t210 => (some t210)) = some r := H
    have A7 := Aside0.mk A70
    clear A70
    obtain ⟨y207, hy207⟩ : ∃ y_ : List ByteArray, y_ = (([t189, (⟨#[116, 105, 109, 101]⟩ : ByteArray), t194, (⟨#[109, 101, 109, 111, 114, 121]⟩ : ByteArray), t198, (⟨#[108, 97, 110, 101, 115]⟩ : ByteArray), t202, (⟨#[115, 105, 122, 101]⟩ : ByteArray), t206] : List ByteArray)) := ⟨_, rfl⟩
    replace H : ((fields_Join.f k 32 y207).bind fun t210 => (some t210)) = some r := by first | (rw [hy207]; with_reducible exact H) | (have H2_ := (Option.bind_some _ _).symm.trans H; rw [hy207]; with_reducible exact H2_) | (have H2_ := (Option.bind_some _ _).symm.trans H; with_reducible exact H2_) | with_reducible exact H | (rw [hy207]; exact H) | exact H
    have Ny207 := Aside0.mk hy207
    clear hy207
    replace H := Option.bind_eq_some_iff.mp H
    obtain ⟨t210, A80, H⟩ := H
    replace H : (some t210) = some r := H
    have A8 := Aside0.mk A80
    clear A80
    obtain rfl := Option.some.inj H
    go_enter Try.func30, Try.ntmps30
    try go_wp2_with (first | ((with_reducible refine gate_dst (N := 1) rfl ?_); refine box_event ?hg (N := 1) ?hd (cs := #[.int .i64 a0_0, .int .i64 a0_1, .int .i64 a0_2, .int .i64 a0_3, .int .i64 a0_4]) (t := 53) ?hr ?_; (case hd => rfl); (case hg => rfl); (case hr => first | (go_simp; done) | (go_simp; rfl)); intro gb188 hg w9 hbox hb; have n0_ := Aside0.mk (below_step (by repeat (first | (with_reducible first | exact HB.out | apply below_alloc | apply pw_below_drewN | apply below_drew1) | exact HB.out)) hb); have n1_ := Aside0.mk (hbox); have n2_ := Aside0.mk ((by rw [hg]; exact (below_size (by repeat (first | (with_reducible first | exact HB.out | apply below_alloc | apply pw_below_drewN | apply below_drew1) | exact HB.out))) : w.heap.size ≤ gb188)); have n3_ := Aside0.mk ((by rw [hg]; exact (below_size (by repeat (first | (with_reducible first | exact HB.out | apply below_alloc | apply pw_below_drewN | apply below_drew1) | exact HB.out))) : w.heap.size ≤ gb188)); clear HB; have HB := n0_; have BK188 := n1_; have GW188 := n2_; have GE188 := n3_; clear n0_ n1_ n2_ n3_; clear hb hbox hg; have hcz10_0 : w9.cell? ⟨gb188, 0, none⟩ = some (.int .i64 a0_0) := (blk_cell BK188.out 0).trans rfl; have hcz10_1 : w9.cell? ⟨gb188, 1, none⟩ = some (.int .i64 a0_1) := (blk_cell BK188.out 1).trans rfl; have hcz10_2 : w9.cell? ⟨gb188, 2, none⟩ = some (.int .i64 a0_2) := (blk_cell BK188.out 2).trans rfl; have hcz10_3 : w9.cell? ⟨gb188, 3, none⟩ = some (.int .i64 a0_3) := (blk_cell BK188.out 3).trans rfl; have hcz10_4 : w9.cell? ⟨gb188, 4, none⟩ = some (.int .i64 a0_4) := (blk_cell BK188.out 4).trans rfl; have hfz10_0 := blk_frozen BK188.out 0; have hfz10_1 := blk_frozen BK188.out 1; have hfz10_2 := blk_frozen BK188.out 2; have hfz10_3 := blk_frozen BK188.out 3; have hfz10_4 := blk_frozen BK188.out 4) | ((with_reducible refine gate_callee (f := 71) rfl ?_); refine goesL_ (some 8) rfl rfl Try.func71 (by kernel_rfl) rfl #[.int .i64 a0_0] rfl (by (try simp only [List.map_toArray, List.map_cons, List.map_nil]); first | done | rfl | (simp only [List.length_drop, List.length_take]; rfl)) ?_; (with_reducible refine (record_Name.calls k a0_0 t189 t190 _ A2.out).mono ?_); rintro e w11 ⟨rfl, hb⟩; refine ⟨_, rfl, ?_⟩; have n0_ := Aside0.mk (blk_below (g := gb188) (o := .cells #[.int .i64 a0_0, .int .i64 a0_1, .int .i64 a0_2, .int .i64 a0_3, .int .i64 a0_4] 53 (0, 0)) (by (with_reducible repeat (first | refine blk_drewN ?_ _ | refine blk_drew ?_ | refine blk_alloc ?_ _)); exact BK188.out) hb); have n1_ := Aside0.mk (below_step (by repeat (first | (with_reducible first | exact HB.out | apply below_alloc | apply pw_below_drewN | apply below_drew1 | refine below_set ?_ GE188.out) | exact HB.out)) hb); clear BK188; clear HB; have BK188 := n0_; have HB := n1_; clear n0_ n1_; (try clear hb); (try clear hb2); (try clear hk); (try clear hi)))
    have n0_ := Aside0.mk (blk_drew BK188.out)
    have n1_ := Aside0.mk (below_drew1 HB.out)
    clear BK188
    clear HB
    have BK188 := n0_
    have HB := n1_
    clear n0_ n1_
    refine start_ (n := 20) (S := fun w' => True) (ds := []) #[false, false, false, false, false, false, false, false, false, false, false, false, false, false, false, false, false, false, false, false] (by kernel_rfl) rfl rfl trivial (fun hHeld => ?_); refine with_tabW report_Params.tab4 report_Params.bits4 (fun HT_ HW_ => ?_)
    generalize w11.drew = w12 at BK188 HB hHeld ⊢
    refine pure_ (i := 0) (N := some 13) (v := ?_) (a' := ?_) #[true, false, false, false, false, false, false, false, false, false, false, false, false, false, false, false, false, false, false, false] rfl rfl (any_of HT_.out (by kernel_rfl)) (fun _ _ _ h => h) (Or.inl ⟨by rfl, ?_⟩) ?_ ?_
    rotate_left
    · intro w'
      go_simp
      with_reducible rfl
    rotate_left
    · simp only [Act.put, List.setIfInBounds_toArray, List.set_cons_zero, List.set_cons_succ, i64_w, i32_w]
      rfl
    refine pure_ (i := 1) (N := some 14) (v := ?_) (a' := ?_) #[true, true, false, false, false, false, false, false, false, false, false, false, false, false, false, false, false, false, false, false] rfl rfl (any_of HT_.out (by kernel_rfl)) (fun _ _ _ h => h) (Or.inl ⟨by rfl, ?_⟩) ?_ ?_
    rotate_left
    · intro w'
      go_simp
      with_reducible rfl
    rotate_left
    · simp only [Act.put, List.setIfInBounds_toArray, List.set_cons_zero, List.set_cons_succ, i64_w, i32_w]
      rfl
    refine pure_ (i := 5) (N := some 18) (v := ?_) (a' := ?_) #[true, true, false, false, false, true, false, false, false, false, false, false, false, false, false, false, false, false, false, false] rfl rfl (any_of HT_.out (by kernel_rfl)) (fun _ _ _ h => h) (Or.inl ⟨by rfl, ?_⟩) ?_ ?_
    rotate_left
    · intro w'
      go_simp
      with_reducible rfl
    rotate_left
    · simp only [Act.put, List.setIfInBounds_toArray, List.set_cons_zero, List.set_cons_succ, i64_w, i32_w]
      rfl
    refine pure_ (i := 9) (N := some 22) (v := ?_) (a' := ?_) #[true, true, false, false, false, true, false, false, false, true, false, false, false, false, false, false, false, false, false, false] rfl rfl (any_of HT_.out (by kernel_rfl)) (fun _ _ _ h => h) (Or.inl ⟨by rfl, ?_⟩) ?_ ?_
    rotate_left
    · intro w'
      go_simp
      with_reducible rfl
    rotate_left
    · simp only [Act.put, List.setIfInBounds_toArray, List.set_cons_zero, List.set_cons_succ, i64_w, i32_w]
      rfl
    refine pure_ (i := 13) (N := some 26) (v := ?_) (a' := ?_) #[true, true, false, false, false, true, false, false, false, true, false, false, false, true, false, false, false, false, false, false] rfl rfl (any_of HT_.out (by kernel_rfl)) (fun _ _ _ h => h) (Or.inl ⟨by rfl, ?_⟩) ?_ ?_
    rotate_left
    · intro w'
      go_simp
      with_reducible rfl
    rotate_left
    · simp only [Act.put, List.setIfInBounds_toArray, List.set_cons_zero, List.set_cons_succ, i64_w, i32_w]
      rfl
    refine inv_at [2, 3, 4, 6, 7, 8, 10, 11, 12, 14, 15, 16, 17, 18, 19] (fun a0_ b a w' => ∃ (v192 : Value) (v196 : Value) (v200 : Value) (v204 : Value) (v208 : Value), a = putSel a0_ b [(2, 15, .int .i64 a0_1), (3, 16, v192), (4, 17, .string t194), (6, 19, .int .i64 a0_2), (7, 20, v196), (8, 21, .string t198), (10, 23, .int .i64 a0_3), (11, 24, v200), (12, 25, .string t202), (14, 27, .int .i64 a0_4), (15, 28, v204), (16, 29, .string t206), (17, 30, v208), (18, 31, .string t210), (19, 2, .string t210)] ∧ (w'.heap[gb188]? = some (.cells #[.int .i64 a0_0, .int .i64 a0_1, .int .i64 a0_2, .int .i64 a0_3, .int .i64 a0_4] 53 (0, 0))) ∧ (Below w.heap.size w w') ∧ (b 3 = true → Kd.R (Kd.int .i64) 3 w' w.heap.size (fun _ => True) v192 y191) ∧ (b 7 = true → Kd.R (Kd.int .i64) 3 w' w.heap.size (fun _ => True) v196 y195) ∧ (b 11 = true → Kd.R (Kd.int .i64) 3 w' w.heap.size (fun _ => True) v200 y199) ∧ (b 15 = true → Kd.R (Kd.int .i64) 3 w' w.heap.size (fun _ => True) v204 y203) ∧ (b 17 = true → Kd.R Kd.string 9 w' w.heap.size (fun _ => True) v208 y207)) HT_.out HW_.out (by kernel_rfl) (by kernel_rfl) ?_ ?_ ?_
    · exact ⟨.bool false, .bool false, .bool false, .bool false, .bool false, by simp only [putSel, Bool.false_eq_true, if_false], BK188.out, HB.out, fun h_ => absurd h_ (by decide), fun h_ => absurd h_ (by decide), fun h_ => absurd h_ (by decide), fun h_ => absurd h_ (by decide), fun h_ => absurd h_ (by decide)⟩
    · skip
      clear BK188 HB
      refine steps_cons ?_ ?_
      · rintro b a w' ⟨v192, v196, v200, v204, v208, ha, Q_BK188, Q_HB, Q_HO193, Q_HO197, Q_HO201, Q_HO205, Q_HO209⟩ hb_ hon hoff
        refine ⟨_, rfl, fun K hK => ?_⟩
        have e14 : a.tmps[14]? = some (.pointer (some ⟨gb188, 1, none⟩)) := by rw [ha]; exact (putSel_off rfl).trans rfl
        replace ha := Aside0.mk ha
        have BK188 := Aside0.mk Q_BK188
        have HB := Aside0.mk Q_HB
        have hc0_ : w'.cell? ⟨gb188, 0, none⟩ = some (.int .i64 a0_0) := (blk_cell BK188.out 0).trans rfl
        have hc1_ : w'.cell? ⟨gb188, 1, none⟩ = some (.int .i64 a0_1) := (blk_cell BK188.out 1).trans rfl
        have hc2_ : w'.cell? ⟨gb188, 2, none⟩ = some (.int .i64 a0_2) := (blk_cell BK188.out 2).trans rfl
        have hc3_ : w'.cell? ⟨gb188, 3, none⟩ = some (.int .i64 a0_3) := (blk_cell BK188.out 3).trans rfl
        have hc4_ : w'.cell? ⟨gb188, 4, none⟩ = some (.int .i64 a0_4) := (blk_cell BK188.out 4).trans rfl
        refine value_ (w1 := w') (v := .int .i64 a0_1) (by rfl) rfl ?_ ?_
        · go_simp
          (try simp only [i64_w])
          try rfl
        refine hK.out _ _ ⟨v192, v196, v200, v204, v208, (by rw [ha.out]; exact putSel_upk 0 hb_ rfl rfl rfl), Q_BK188, Q_HB, fun h0_ => absurd ((hoff 3 (by kernel_rfl)).symm.trans h0_) (by decide), Q_HO197, Q_HO201, Q_HO205, fun h0_ => absurd ((hoff 17 (by kernel_rfl)).symm.trans h0_) (by decide)⟩
      refine steps_cons ?_ ?_
      · rintro b a w' ⟨v192, v196, v200, v204, v208, ha, Q_BK188, Q_HB, Q_HO193, Q_HO197, Q_HO201, Q_HO205, Q_HO209⟩ hb_ hon hoff
        refine ⟨_, rfl, fun K hK => ?_⟩
        have e15 : a.tmps[15]? = some (.int .i64 a0_1) := by rw [ha]; exact putSel_on (e := (2, 15, .int .i64 a0_1)) 0 rfl rfl (hon 2 (by kernel_rfl)) rfl
        replace ha := Aside0.mk ha
        have BK188 := Aside0.mk Q_BK188
        have HB := Aside0.mk Q_HB
        refine Kd.R_lit_step (Kd.int .i64) _ 3 ?hg (N := 16) ?hd (xs := ([a0_1] : List Int)) (inner := [.int .i64 a0_1]) (ok := fun _ => True) (okp := fun _ => True) ?hr ?hp (fun _ hk => hk) trivial (Below.refl _ _) (Nat.le_refl _) (by simp) ?_; (case hd => rfl); (case hg => rfl); (case hr => first | (go_simp; done) | (go_simp; rfl)); (case hp => exact (Reps.one (show Kd.M (Kd.int .i64) _ _ _ a0_1 [.int .i64 a0_1] from rfl) (Reps.none _ _)))
        intro v192 w13 ho14 hb hg_ hnew_
        clear hg_ hnew_
        (first | rw [← Ny191.out] at ho14 | (simp only [Int.reduceToNat] at ho14; rw [← Ny191.out] at ho14))
        have n0_ := Aside0.mk (Kd.R_lower ho14 (below_size (by repeat (first | (with_reducible first | exact HB.out | apply below_alloc | apply pw_below_drewN | apply below_drew1 | refine below_set ?_ GE188.out) | exact HB.out))))
        have n1_ := Aside0.mk (blk_below (g := gb188) (o := .cells #[.int .i64 a0_0, .int .i64 a0_1, .int .i64 a0_2, .int .i64 a0_3, .int .i64 a0_4] 53 (0, 0)) (by (with_reducible repeat (first | refine blk_drewN ?_ _ | refine blk_drew ?_ | refine blk_alloc ?_ _)); exact BK188.out) hb)
        have n2_ := Aside0.mk (below_step (by repeat (first | (with_reducible first | exact HB.out | apply below_alloc | apply pw_below_drewN | apply below_drew1 | refine below_set ?_ GE188.out) | exact HB.out)) hb)
        have z_HO197 := fun (h0_ : b 7 = true) => (show Kd.R (Kd.int .i64) 3 w13 w.heap.size (fun _ => True) v196 y195 from by first | exact (Kd.R_elder' (by (with_reducible repeat (first | apply Kd.R_alloc | apply Kd.R_drewN | apply Kd.R_drew)); exact (Q_HO197 h0_)) (Kd.R_base ho14) hb) | exact Kd.R_mono (Kd.R_elder' (by (with_reducible repeat (first | apply Kd.R_alloc | apply Kd.R_drewN | apply Kd.R_drew)); exact (Q_HO197 h0_)) (Kd.R_base ho14) hb) (fun _ h_ => by first | trivial | exact h_ | exact h_.1))
        have z_HO201 := fun (h0_ : b 11 = true) => (show Kd.R (Kd.int .i64) 3 w13 w.heap.size (fun _ => True) v200 y199 from by first | exact (Kd.R_elder' (by (with_reducible repeat (first | apply Kd.R_alloc | apply Kd.R_drewN | apply Kd.R_drew)); exact (Q_HO201 h0_)) (Kd.R_base ho14) hb) | exact Kd.R_mono (Kd.R_elder' (by (with_reducible repeat (first | apply Kd.R_alloc | apply Kd.R_drewN | apply Kd.R_drew)); exact (Q_HO201 h0_)) (Kd.R_base ho14) hb) (fun _ h_ => by first | trivial | exact h_ | exact h_.1))
        have z_HO205 := fun (h0_ : b 15 = true) => (show Kd.R (Kd.int .i64) 3 w13 w.heap.size (fun _ => True) v204 y203 from by first | exact (Kd.R_elder' (by (with_reducible repeat (first | apply Kd.R_alloc | apply Kd.R_drewN | apply Kd.R_drew)); exact (Q_HO205 h0_)) (Kd.R_base ho14) hb) | exact Kd.R_mono (Kd.R_elder' (by (with_reducible repeat (first | apply Kd.R_alloc | apply Kd.R_drewN | apply Kd.R_drew)); exact (Q_HO205 h0_)) (Kd.R_base ho14) hb) (fun _ h_ => by first | trivial | exact h_ | exact h_.1))
        clear BK188
        clear HB
        have HO193 := n0_
        have BK188 := n1_
        have HB := n2_
        clear n0_ n1_ n2_
        clear hb ho14
        refine hK.out _ _ ⟨v192, v196, v200, v204, v208, (by rw [ha.out]; exact putSel_upk 1 hb_ rfl rfl rfl), (by (with_reducible repeat (first | refine blk_drewN ?_ _ | refine blk_drew ?_ | refine blk_alloc ?_ _)); exact BK188.out), (by repeat (first | (with_reducible first | exact HB.out | apply below_alloc | apply pw_below_drewN | apply below_drew1 | refine below_set ?_ GE188.out) | exact HB.out)), fun _ => (by (with_reducible repeat (first | apply Kd.R_alloc | apply Kd.R_drewN | apply Kd.R_drew)); exact HO193.out), z_HO197, z_HO201, z_HO205, fun h0_ => absurd ((hoff 17 (by kernel_rfl)).symm.trans h0_) (by decide)⟩
      refine steps_cons ?_ ?_
      · rintro b a w' ⟨v192, v196, v200, v204, v208, ha, Q_BK188, Q_HB, Q_HO193, Q_HO197, Q_HO201, Q_HO205, Q_HO209⟩ hb_ hon hoff
        refine ⟨_, rfl, fun K hK => ?_⟩
        have e16 : a.tmps[16]? = some (v192) := by rw [ha]; exact putSel_on (e := (3, 16, v192)) 1 rfl rfl (hon 3 (by kernel_rfl)) rfl
        replace ha := Aside0.mk ha
        have BK188 := Aside0.mk Q_BK188
        have HB := Aside0.mk Q_HB
        have HO193 := Aside0.mk (Q_HO193 (hon 3 (by kernel_rfl)))
        obtain ⟨Ao16, co16, eo16⟩ := Kd.R_slice HO193.out
        (first | subst eo16 | (injection eo16 with f1_ f2_ f3_; have f4_ := f1_.symm; have f5_ := f3_.symm; clear f1_ f2_ f3_; subst f4_; subst f5_))
        refine goes_ Try.func67 (by kernel_rfl) rfl #[.string (⟨#[]⟩ : ByteArray), .slice Ao16 y191.length co16] (by rfl) rfl rfl (by first | (simp only [List.map_toArray, List.map_cons, List.map_nil, Act.eval, Array.getD_eq_getD_getElem?, Option.getD_some, e16]; done) | (simp only [List.map_toArray, List.map_cons, List.map_nil, Act.eval, Array.getD_eq_getD_getElem?, Option.getD_some, e16]; rfl)) ?_
        with_reducible refine (dec_List.calls k (⟨#[]⟩ : ByteArray) _ _ y191 t194 _ ?side1 ?side2 A4.out).mono ?_
        (case side1 => repeat (first | exact (Kd.R_reads' HO193.out).2.2 | (with_reducible refine Kd.C_alloc ?_ _) | (with_reducible refine Kd.C_drewN ?_ _) | (with_reducible refine Kd.C_drew ?_)))
        (case side2 => exact (Kd.R_reads' HO193.out).2.1)
        rintro e w17 ⟨rfl, hb⟩
        refine ⟨_, rfl, ?_⟩
        have n0_ := Aside0.mk (Kd.R_below (by (with_reducible repeat (first | apply Kd.R_alloc | apply Kd.R_drewN | apply Kd.R_drew)); exact HO193.out) hb)
        have n1_ := Aside0.mk (blk_below (g := gb188) (o := .cells #[.int .i64 a0_0, .int .i64 a0_1, .int .i64 a0_2, .int .i64 a0_3, .int .i64 a0_4] 53 (0, 0)) (by (with_reducible repeat (first | refine blk_drewN ?_ _ | refine blk_drew ?_ | refine blk_alloc ?_ _)); exact BK188.out) hb)
        have n2_ := Aside0.mk (below_step (by repeat (first | (with_reducible first | exact HB.out | apply below_alloc | apply pw_below_drewN | apply below_drew1 | refine below_set ?_ GE188.out) | exact HB.out)) hb)
        have z_HO197 := fun (h0_ : b 7 = true) => (show Kd.R (Kd.int .i64) 3 w17 w.heap.size (fun _ => True) v196 y195 from by first | exact (Kd.R_below (by (with_reducible repeat (first | apply Kd.R_alloc | apply Kd.R_drewN | apply Kd.R_drew)); exact (Q_HO197 h0_)) hb) | exact Kd.R_mono (Kd.R_below (by (with_reducible repeat (first | apply Kd.R_alloc | apply Kd.R_drewN | apply Kd.R_drew)); exact (Q_HO197 h0_)) hb) (fun _ h_ => by first | trivial | exact h_ | exact h_.1))
        have z_HO201 := fun (h0_ : b 11 = true) => (show Kd.R (Kd.int .i64) 3 w17 w.heap.size (fun _ => True) v200 y199 from by first | exact (Kd.R_below (by (with_reducible repeat (first | apply Kd.R_alloc | apply Kd.R_drewN | apply Kd.R_drew)); exact (Q_HO201 h0_)) hb) | exact Kd.R_mono (Kd.R_below (by (with_reducible repeat (first | apply Kd.R_alloc | apply Kd.R_drewN | apply Kd.R_drew)); exact (Q_HO201 h0_)) hb) (fun _ h_ => by first | trivial | exact h_ | exact h_.1))
        have z_HO205 := fun (h0_ : b 15 = true) => (show Kd.R (Kd.int .i64) 3 w17 w.heap.size (fun _ => True) v204 y203 from by first | exact (Kd.R_below (by (with_reducible repeat (first | apply Kd.R_alloc | apply Kd.R_drewN | apply Kd.R_drew)); exact (Q_HO205 h0_)) hb) | exact Kd.R_mono (Kd.R_below (by (with_reducible repeat (first | apply Kd.R_alloc | apply Kd.R_drewN | apply Kd.R_drew)); exact (Q_HO205 h0_)) hb) (fun _ h_ => by first | trivial | exact h_ | exact h_.1))
        clear HO193
        clear BK188
        clear HB
        have HO193 := n0_
        have BK188 := n1_
        have HB := n2_
        clear n0_ n1_ n2_
        (try clear hb)
        (try clear hb2)
        (try clear hk)
        (try clear hi)
        refine hK.out _ _ ⟨.slice Ao16 y191.length co16, v196, v200, v204, v208, (by rw [ha.out]; exact putSel_upk 2 hb_ rfl rfl rfl), (by (with_reducible repeat (first | refine blk_drewN ?_ _ | refine blk_drew ?_ | refine blk_alloc ?_ _)); exact BK188.out), (by repeat (first | (with_reducible first | exact HB.out | apply below_alloc | apply pw_below_drewN | apply below_drew1 | refine below_set ?_ GE188.out) | exact HB.out)), fun _ => (by (with_reducible repeat (first | apply Kd.R_alloc | apply Kd.R_drewN | apply Kd.R_drew)); exact HO193.out), z_HO197, z_HO201, z_HO205, fun h0_ => absurd ((hoff 17 (by kernel_rfl)).symm.trans h0_) (by decide)⟩
      refine steps_cons ?_ ?_
      · rintro b a w' ⟨v192, v196, v200, v204, v208, ha, Q_BK188, Q_HB, Q_HO193, Q_HO197, Q_HO201, Q_HO205, Q_HO209⟩ hb_ hon hoff
        refine ⟨_, rfl, fun K hK => ?_⟩
        have e18 : a.tmps[18]? = some (.pointer (some ⟨gb188, 2, none⟩)) := by rw [ha]; exact (putSel_off rfl).trans rfl
        replace ha := Aside0.mk ha
        have BK188 := Aside0.mk Q_BK188
        have HB := Aside0.mk Q_HB
        have hc0_ : w'.cell? ⟨gb188, 0, none⟩ = some (.int .i64 a0_0) := (blk_cell BK188.out 0).trans rfl
        have hc1_ : w'.cell? ⟨gb188, 1, none⟩ = some (.int .i64 a0_1) := (blk_cell BK188.out 1).trans rfl
        have hc2_ : w'.cell? ⟨gb188, 2, none⟩ = some (.int .i64 a0_2) := (blk_cell BK188.out 2).trans rfl
        have hc3_ : w'.cell? ⟨gb188, 3, none⟩ = some (.int .i64 a0_3) := (blk_cell BK188.out 3).trans rfl
        have hc4_ : w'.cell? ⟨gb188, 4, none⟩ = some (.int .i64 a0_4) := (blk_cell BK188.out 4).trans rfl
        refine value_ (w1 := w') (v := .int .i64 a0_2) (by rfl) rfl ?_ ?_
        · go_simp
          (try simp only [i64_w])
          try rfl
        refine hK.out _ _ ⟨v192, v196, v200, v204, v208, (by rw [ha.out]; exact putSel_upk 3 hb_ rfl rfl rfl), Q_BK188, Q_HB, Q_HO193, fun h0_ => absurd ((hoff 7 (by kernel_rfl)).symm.trans h0_) (by decide), Q_HO201, Q_HO205, fun h0_ => absurd ((hoff 17 (by kernel_rfl)).symm.trans h0_) (by decide)⟩
      refine steps_cons ?_ ?_
      · rintro b a w' ⟨v192, v196, v200, v204, v208, ha, Q_BK188, Q_HB, Q_HO193, Q_HO197, Q_HO201, Q_HO205, Q_HO209⟩ hb_ hon hoff
        refine ⟨_, rfl, fun K hK => ?_⟩
        have e19 : a.tmps[19]? = some (.int .i64 a0_2) := by rw [ha]; exact putSel_on (e := (6, 19, .int .i64 a0_2)) 3 rfl rfl (hon 6 (by kernel_rfl)) rfl
        replace ha := Aside0.mk ha
        have BK188 := Aside0.mk Q_BK188
        have HB := Aside0.mk Q_HB
        refine Kd.R_lit_step (Kd.int .i64) _ 3 ?hg (N := 20) ?hd (xs := ([a0_2] : List Int)) (inner := [.int .i64 a0_2]) (ok := fun _ => True) (okp := fun _ => True) ?hr ?hp (fun _ hk => hk) trivial (Below.refl _ _) (Nat.le_refl _) (by simp) ?_; (case hd => rfl); (case hg => rfl); (case hr => first | (go_simp; done) | (go_simp; rfl)); (case hp => exact (Reps.one (show Kd.M (Kd.int .i64) _ _ _ a0_2 [.int .i64 a0_2] from rfl) (Reps.none _ _)))
        intro v196 w13 ho14 hb hg_ hnew_
        clear hg_ hnew_
        (first | rw [← Ny195.out] at ho14 | (simp only [Int.reduceToNat] at ho14; rw [← Ny195.out] at ho14))
        have n0_ := Aside0.mk (Kd.R_lower ho14 (below_size (by repeat (first | (with_reducible first | exact HB.out | apply below_alloc | apply pw_below_drewN | apply below_drew1 | refine below_set ?_ GE188.out) | exact HB.out))))
        have n1_ := Aside0.mk (blk_below (g := gb188) (o := .cells #[.int .i64 a0_0, .int .i64 a0_1, .int .i64 a0_2, .int .i64 a0_3, .int .i64 a0_4] 53 (0, 0)) (by (with_reducible repeat (first | refine blk_drewN ?_ _ | refine blk_drew ?_ | refine blk_alloc ?_ _)); exact BK188.out) hb)
        have n2_ := Aside0.mk (below_step (by repeat (first | (with_reducible first | exact HB.out | apply below_alloc | apply pw_below_drewN | apply below_drew1 | refine below_set ?_ GE188.out) | exact HB.out)) hb)
        have z_HO193 := fun (h0_ : b 3 = true) => (show Kd.R (Kd.int .i64) 3 w13 w.heap.size (fun _ => True) v192 y191 from by first | exact (Kd.R_elder' (by (with_reducible repeat (first | apply Kd.R_alloc | apply Kd.R_drewN | apply Kd.R_drew)); exact (Q_HO193 h0_)) (Kd.R_base ho14) hb) | exact Kd.R_mono (Kd.R_elder' (by (with_reducible repeat (first | apply Kd.R_alloc | apply Kd.R_drewN | apply Kd.R_drew)); exact (Q_HO193 h0_)) (Kd.R_base ho14) hb) (fun _ h_ => by first | trivial | exact h_ | exact h_.1))
        have z_HO201 := fun (h0_ : b 11 = true) => (show Kd.R (Kd.int .i64) 3 w13 w.heap.size (fun _ => True) v200 y199 from by first | exact (Kd.R_elder' (by (with_reducible repeat (first | apply Kd.R_alloc | apply Kd.R_drewN | apply Kd.R_drew)); exact (Q_HO201 h0_)) (Kd.R_base ho14) hb) | exact Kd.R_mono (Kd.R_elder' (by (with_reducible repeat (first | apply Kd.R_alloc | apply Kd.R_drewN | apply Kd.R_drew)); exact (Q_HO201 h0_)) (Kd.R_base ho14) hb) (fun _ h_ => by first | trivial | exact h_ | exact h_.1))
        have z_HO205 := fun (h0_ : b 15 = true) => (show Kd.R (Kd.int .i64) 3 w13 w.heap.size (fun _ => True) v204 y203 from by first | exact (Kd.R_elder' (by (with_reducible repeat (first | apply Kd.R_alloc | apply Kd.R_drewN | apply Kd.R_drew)); exact (Q_HO205 h0_)) (Kd.R_base ho14) hb) | exact Kd.R_mono (Kd.R_elder' (by (with_reducible repeat (first | apply Kd.R_alloc | apply Kd.R_drewN | apply Kd.R_drew)); exact (Q_HO205 h0_)) (Kd.R_base ho14) hb) (fun _ h_ => by first | trivial | exact h_ | exact h_.1))
        clear BK188
        clear HB
        have HO197 := n0_
        have BK188 := n1_
        have HB := n2_
        clear n0_ n1_ n2_
        clear hb ho14
        refine hK.out _ _ ⟨v192, v196, v200, v204, v208, (by rw [ha.out]; exact putSel_upk 4 hb_ rfl rfl rfl), (by (with_reducible repeat (first | refine blk_drewN ?_ _ | refine blk_drew ?_ | refine blk_alloc ?_ _)); exact BK188.out), (by repeat (first | (with_reducible first | exact HB.out | apply below_alloc | apply pw_below_drewN | apply below_drew1 | refine below_set ?_ GE188.out) | exact HB.out)), z_HO193, fun _ => (by (with_reducible repeat (first | apply Kd.R_alloc | apply Kd.R_drewN | apply Kd.R_drew)); exact HO197.out), z_HO201, z_HO205, fun h0_ => absurd ((hoff 17 (by kernel_rfl)).symm.trans h0_) (by decide)⟩
      refine steps_cons ?_ ?_
      · rintro b a w' ⟨v192, v196, v200, v204, v208, ha, Q_BK188, Q_HB, Q_HO193, Q_HO197, Q_HO201, Q_HO205, Q_HO209⟩ hb_ hon hoff
        refine ⟨_, rfl, fun K hK => ?_⟩
        have e20 : a.tmps[20]? = some (v196) := by rw [ha]; exact putSel_on (e := (7, 20, v196)) 4 rfl rfl (hon 7 (by kernel_rfl)) rfl
        replace ha := Aside0.mk ha
        have BK188 := Aside0.mk Q_BK188
        have HB := Aside0.mk Q_HB
        have HO193 := Aside0.mk (Q_HO193 (hon 3 (by kernel_rfl)))
        have HO197 := Aside0.mk (Q_HO197 (hon 7 (by kernel_rfl)))
        obtain ⟨Ao20, co20, eo20⟩ := Kd.R_slice HO197.out
        (first | subst eo20 | (injection eo20 with f1_ f2_ f3_; have f4_ := f1_.symm; have f5_ := f3_.symm; clear f1_ f2_ f3_; subst f4_; subst f5_))
        refine goes_ Try.func67 (by kernel_rfl) rfl #[.string (⟨#[]⟩ : ByteArray), .slice Ao20 y195.length co20] (by rfl) rfl rfl (by first | (simp only [List.map_toArray, List.map_cons, List.map_nil, Act.eval, Array.getD_eq_getD_getElem?, Option.getD_some, e20]; done) | (simp only [List.map_toArray, List.map_cons, List.map_nil, Act.eval, Array.getD_eq_getD_getElem?, Option.getD_some, e20]; rfl)) ?_
        with_reducible refine (dec_List.calls k (⟨#[]⟩ : ByteArray) _ _ y195 t198 _ ?side1 ?side2 A5.out).mono ?_
        (case side1 => repeat (first | exact (Kd.R_reads' HO197.out).2.2 | (with_reducible refine Kd.C_alloc ?_ _) | (with_reducible refine Kd.C_drewN ?_ _) | (with_reducible refine Kd.C_drew ?_)))
        (case side2 => exact (Kd.R_reads' HO197.out).2.1)
        rintro e w21 ⟨rfl, hb⟩
        refine ⟨_, rfl, ?_⟩
        have n0_ := Aside0.mk (Kd.R_below (by (with_reducible repeat (first | apply Kd.R_alloc | apply Kd.R_drewN | apply Kd.R_drew)); exact HO193.out) hb)
        have n1_ := Aside0.mk (Kd.R_below (by (with_reducible repeat (first | apply Kd.R_alloc | apply Kd.R_drewN | apply Kd.R_drew)); exact HO197.out) hb)
        have n2_ := Aside0.mk (blk_below (g := gb188) (o := .cells #[.int .i64 a0_0, .int .i64 a0_1, .int .i64 a0_2, .int .i64 a0_3, .int .i64 a0_4] 53 (0, 0)) (by (with_reducible repeat (first | refine blk_drewN ?_ _ | refine blk_drew ?_ | refine blk_alloc ?_ _)); exact BK188.out) hb)
        have n3_ := Aside0.mk (below_step (by repeat (first | (with_reducible first | exact HB.out | apply below_alloc | apply pw_below_drewN | apply below_drew1 | refine below_set ?_ GE188.out) | exact HB.out)) hb)
        have z_HO201 := fun (h0_ : b 11 = true) => (show Kd.R (Kd.int .i64) 3 w21 w.heap.size (fun _ => True) v200 y199 from by first | exact (Kd.R_below (by (with_reducible repeat (first | apply Kd.R_alloc | apply Kd.R_drewN | apply Kd.R_drew)); exact (Q_HO201 h0_)) hb) | exact Kd.R_mono (Kd.R_below (by (with_reducible repeat (first | apply Kd.R_alloc | apply Kd.R_drewN | apply Kd.R_drew)); exact (Q_HO201 h0_)) hb) (fun _ h_ => by first | trivial | exact h_ | exact h_.1))
        have z_HO205 := fun (h0_ : b 15 = true) => (show Kd.R (Kd.int .i64) 3 w21 w.heap.size (fun _ => True) v204 y203 from by first | exact (Kd.R_below (by (with_reducible repeat (first | apply Kd.R_alloc | apply Kd.R_drewN | apply Kd.R_drew)); exact (Q_HO205 h0_)) hb) | exact Kd.R_mono (Kd.R_below (by (with_reducible repeat (first | apply Kd.R_alloc | apply Kd.R_drewN | apply Kd.R_drew)); exact (Q_HO205 h0_)) hb) (fun _ h_ => by first | trivial | exact h_ | exact h_.1))
        clear HO193
        clear HO197
        clear BK188
        clear HB
        have HO193 := n0_
        have HO197 := n1_
        have BK188 := n2_
        have HB := n3_
        clear n0_ n1_ n2_ n3_
        (try clear hb)
        (try clear hb2)
        (try clear hk)
        (try clear hi)
        refine hK.out _ _ ⟨v192, .slice Ao20 y195.length co20, v200, v204, v208, (by rw [ha.out]; exact putSel_upk 5 hb_ rfl rfl rfl), (by (with_reducible repeat (first | refine blk_drewN ?_ _ | refine blk_drew ?_ | refine blk_alloc ?_ _)); exact BK188.out), (by repeat (first | (with_reducible first | exact HB.out | apply below_alloc | apply pw_below_drewN | apply below_drew1 | refine below_set ?_ GE188.out) | exact HB.out)), fun _ => (by (with_reducible repeat (first | apply Kd.R_alloc | apply Kd.R_drewN | apply Kd.R_drew)); exact HO193.out), fun _ => (by (with_reducible repeat (first | apply Kd.R_alloc | apply Kd.R_drewN | apply Kd.R_drew)); exact HO197.out), z_HO201, z_HO205, fun h0_ => absurd ((hoff 17 (by kernel_rfl)).symm.trans h0_) (by decide)⟩
      refine steps_cons ?_ ?_
      · rintro b a w' ⟨v192, v196, v200, v204, v208, ha, Q_BK188, Q_HB, Q_HO193, Q_HO197, Q_HO201, Q_HO205, Q_HO209⟩ hb_ hon hoff
        refine ⟨_, rfl, fun K hK => ?_⟩
        have e22 : a.tmps[22]? = some (.pointer (some ⟨gb188, 3, none⟩)) := by rw [ha]; exact (putSel_off rfl).trans rfl
        replace ha := Aside0.mk ha
        have BK188 := Aside0.mk Q_BK188
        have HB := Aside0.mk Q_HB
        have hc0_ : w'.cell? ⟨gb188, 0, none⟩ = some (.int .i64 a0_0) := (blk_cell BK188.out 0).trans rfl
        have hc1_ : w'.cell? ⟨gb188, 1, none⟩ = some (.int .i64 a0_1) := (blk_cell BK188.out 1).trans rfl
        have hc2_ : w'.cell? ⟨gb188, 2, none⟩ = some (.int .i64 a0_2) := (blk_cell BK188.out 2).trans rfl
        have hc3_ : w'.cell? ⟨gb188, 3, none⟩ = some (.int .i64 a0_3) := (blk_cell BK188.out 3).trans rfl
        have hc4_ : w'.cell? ⟨gb188, 4, none⟩ = some (.int .i64 a0_4) := (blk_cell BK188.out 4).trans rfl
        refine value_ (w1 := w') (v := .int .i64 a0_3) (by rfl) rfl ?_ ?_
        · go_simp
          (try simp only [i64_w])
          try rfl
        refine hK.out _ _ ⟨v192, v196, v200, v204, v208, (by rw [ha.out]; exact putSel_upk 6 hb_ rfl rfl rfl), Q_BK188, Q_HB, Q_HO193, Q_HO197, fun h0_ => absurd ((hoff 11 (by kernel_rfl)).symm.trans h0_) (by decide), Q_HO205, fun h0_ => absurd ((hoff 17 (by kernel_rfl)).symm.trans h0_) (by decide)⟩
      refine steps_cons ?_ ?_
      · rintro b a w' ⟨v192, v196, v200, v204, v208, ha, Q_BK188, Q_HB, Q_HO193, Q_HO197, Q_HO201, Q_HO205, Q_HO209⟩ hb_ hon hoff
        refine ⟨_, rfl, fun K hK => ?_⟩
        have e23 : a.tmps[23]? = some (.int .i64 a0_3) := by rw [ha]; exact putSel_on (e := (10, 23, .int .i64 a0_3)) 6 rfl rfl (hon 10 (by kernel_rfl)) rfl
        replace ha := Aside0.mk ha
        have BK188 := Aside0.mk Q_BK188
        have HB := Aside0.mk Q_HB
        refine Kd.R_lit_step (Kd.int .i64) _ 3 ?hg (N := 24) ?hd (xs := ([a0_3] : List Int)) (inner := [.int .i64 a0_3]) (ok := fun _ => True) (okp := fun _ => True) ?hr ?hp (fun _ hk => hk) trivial (Below.refl _ _) (Nat.le_refl _) (by simp) ?_; (case hd => rfl); (case hg => rfl); (case hr => first | (go_simp; done) | (go_simp; rfl)); (case hp => exact (Reps.one (show Kd.M (Kd.int .i64) _ _ _ a0_3 [.int .i64 a0_3] from rfl) (Reps.none _ _)))
        intro v200 w13 ho14 hb hg_ hnew_
        clear hg_ hnew_
        (first | rw [← Ny199.out] at ho14 | (simp only [Int.reduceToNat] at ho14; rw [← Ny199.out] at ho14))
        have n0_ := Aside0.mk (Kd.R_lower ho14 (below_size (by repeat (first | (with_reducible first | exact HB.out | apply below_alloc | apply pw_below_drewN | apply below_drew1 | refine below_set ?_ GE188.out) | exact HB.out))))
        have n1_ := Aside0.mk (blk_below (g := gb188) (o := .cells #[.int .i64 a0_0, .int .i64 a0_1, .int .i64 a0_2, .int .i64 a0_3, .int .i64 a0_4] 53 (0, 0)) (by (with_reducible repeat (first | refine blk_drewN ?_ _ | refine blk_drew ?_ | refine blk_alloc ?_ _)); exact BK188.out) hb)
        have n2_ := Aside0.mk (below_step (by repeat (first | (with_reducible first | exact HB.out | apply below_alloc | apply pw_below_drewN | apply below_drew1 | refine below_set ?_ GE188.out) | exact HB.out)) hb)
        have z_HO193 := fun (h0_ : b 3 = true) => (show Kd.R (Kd.int .i64) 3 w13 w.heap.size (fun _ => True) v192 y191 from by first | exact (Kd.R_elder' (by (with_reducible repeat (first | apply Kd.R_alloc | apply Kd.R_drewN | apply Kd.R_drew)); exact (Q_HO193 h0_)) (Kd.R_base ho14) hb) | exact Kd.R_mono (Kd.R_elder' (by (with_reducible repeat (first | apply Kd.R_alloc | apply Kd.R_drewN | apply Kd.R_drew)); exact (Q_HO193 h0_)) (Kd.R_base ho14) hb) (fun _ h_ => by first | trivial | exact h_ | exact h_.1))
        have z_HO197 := fun (h0_ : b 7 = true) => (show Kd.R (Kd.int .i64) 3 w13 w.heap.size (fun _ => True) v196 y195 from by first | exact (Kd.R_elder' (by (with_reducible repeat (first | apply Kd.R_alloc | apply Kd.R_drewN | apply Kd.R_drew)); exact (Q_HO197 h0_)) (Kd.R_base ho14) hb) | exact Kd.R_mono (Kd.R_elder' (by (with_reducible repeat (first | apply Kd.R_alloc | apply Kd.R_drewN | apply Kd.R_drew)); exact (Q_HO197 h0_)) (Kd.R_base ho14) hb) (fun _ h_ => by first | trivial | exact h_ | exact h_.1))
        have z_HO205 := fun (h0_ : b 15 = true) => (show Kd.R (Kd.int .i64) 3 w13 w.heap.size (fun _ => True) v204 y203 from by first | exact (Kd.R_elder' (by (with_reducible repeat (first | apply Kd.R_alloc | apply Kd.R_drewN | apply Kd.R_drew)); exact (Q_HO205 h0_)) (Kd.R_base ho14) hb) | exact Kd.R_mono (Kd.R_elder' (by (with_reducible repeat (first | apply Kd.R_alloc | apply Kd.R_drewN | apply Kd.R_drew)); exact (Q_HO205 h0_)) (Kd.R_base ho14) hb) (fun _ h_ => by first | trivial | exact h_ | exact h_.1))
        clear BK188
        clear HB
        have HO201 := n0_
        have BK188 := n1_
        have HB := n2_
        clear n0_ n1_ n2_
        clear hb ho14
        refine hK.out _ _ ⟨v192, v196, v200, v204, v208, (by rw [ha.out]; exact putSel_upk 7 hb_ rfl rfl rfl), (by (with_reducible repeat (first | refine blk_drewN ?_ _ | refine blk_drew ?_ | refine blk_alloc ?_ _)); exact BK188.out), (by repeat (first | (with_reducible first | exact HB.out | apply below_alloc | apply pw_below_drewN | apply below_drew1 | refine below_set ?_ GE188.out) | exact HB.out)), z_HO193, z_HO197, fun _ => (by (with_reducible repeat (first | apply Kd.R_alloc | apply Kd.R_drewN | apply Kd.R_drew)); exact HO201.out), z_HO205, fun h0_ => absurd ((hoff 17 (by kernel_rfl)).symm.trans h0_) (by decide)⟩
      refine steps_cons ?_ ?_
      · rintro b a w' ⟨v192, v196, v200, v204, v208, ha, Q_BK188, Q_HB, Q_HO193, Q_HO197, Q_HO201, Q_HO205, Q_HO209⟩ hb_ hon hoff
        refine ⟨_, rfl, fun K hK => ?_⟩
        have e24 : a.tmps[24]? = some (v200) := by rw [ha]; exact putSel_on (e := (11, 24, v200)) 7 rfl rfl (hon 11 (by kernel_rfl)) rfl
        replace ha := Aside0.mk ha
        have BK188 := Aside0.mk Q_BK188
        have HB := Aside0.mk Q_HB
        have HO193 := Aside0.mk (Q_HO193 (hon 3 (by kernel_rfl)))
        have HO197 := Aside0.mk (Q_HO197 (hon 7 (by kernel_rfl)))
        have HO201 := Aside0.mk (Q_HO201 (hon 11 (by kernel_rfl)))
        obtain ⟨Ao24, co24, eo24⟩ := Kd.R_slice HO201.out
        (first | subst eo24 | (injection eo24 with f1_ f2_ f3_; have f4_ := f1_.symm; have f5_ := f3_.symm; clear f1_ f2_ f3_; subst f4_; subst f5_))
        refine goes_ Try.func67 (by kernel_rfl) rfl #[.string (⟨#[]⟩ : ByteArray), .slice Ao24 y199.length co24] (by rfl) rfl rfl (by first | (simp only [List.map_toArray, List.map_cons, List.map_nil, Act.eval, Array.getD_eq_getD_getElem?, Option.getD_some, e24]; done) | (simp only [List.map_toArray, List.map_cons, List.map_nil, Act.eval, Array.getD_eq_getD_getElem?, Option.getD_some, e24]; rfl)) ?_
        with_reducible refine (dec_List.calls k (⟨#[]⟩ : ByteArray) _ _ y199 t202 _ ?side1 ?side2 A6.out).mono ?_
        (case side1 => repeat (first | exact (Kd.R_reads' HO201.out).2.2 | (with_reducible refine Kd.C_alloc ?_ _) | (with_reducible refine Kd.C_drewN ?_ _) | (with_reducible refine Kd.C_drew ?_)))
        (case side2 => exact (Kd.R_reads' HO201.out).2.1)
        rintro e w25 ⟨rfl, hb⟩
        refine ⟨_, rfl, ?_⟩
        have n0_ := Aside0.mk (Kd.R_below (by (with_reducible repeat (first | apply Kd.R_alloc | apply Kd.R_drewN | apply Kd.R_drew)); exact HO193.out) hb)
        have n1_ := Aside0.mk (Kd.R_below (by (with_reducible repeat (first | apply Kd.R_alloc | apply Kd.R_drewN | apply Kd.R_drew)); exact HO197.out) hb)
        have n2_ := Aside0.mk (Kd.R_below (by (with_reducible repeat (first | apply Kd.R_alloc | apply Kd.R_drewN | apply Kd.R_drew)); exact HO201.out) hb)
        have n3_ := Aside0.mk (blk_below (g := gb188) (o := .cells #[.int .i64 a0_0, .int .i64 a0_1, .int .i64 a0_2, .int .i64 a0_3, .int .i64 a0_4] 53 (0, 0)) (by (with_reducible repeat (first | refine blk_drewN ?_ _ | refine blk_drew ?_ | refine blk_alloc ?_ _)); exact BK188.out) hb)
        have n4_ := Aside0.mk (below_step (by repeat (first | (with_reducible first | exact HB.out | apply below_alloc | apply pw_below_drewN | apply below_drew1 | refine below_set ?_ GE188.out) | exact HB.out)) hb)
        have z_HO205 := fun (h0_ : b 15 = true) => (show Kd.R (Kd.int .i64) 3 w25 w.heap.size (fun _ => True) v204 y203 from by first | exact (Kd.R_below (by (with_reducible repeat (first | apply Kd.R_alloc | apply Kd.R_drewN | apply Kd.R_drew)); exact (Q_HO205 h0_)) hb) | exact Kd.R_mono (Kd.R_below (by (with_reducible repeat (first | apply Kd.R_alloc | apply Kd.R_drewN | apply Kd.R_drew)); exact (Q_HO205 h0_)) hb) (fun _ h_ => by first | trivial | exact h_ | exact h_.1))
        clear HO193
        clear HO197
        clear HO201
        clear BK188
        clear HB
        have HO193 := n0_
        have HO197 := n1_
        have HO201 := n2_
        have BK188 := n3_
        have HB := n4_
        clear n0_ n1_ n2_ n3_ n4_
        (try clear hb)
        (try clear hb2)
        (try clear hk)
        (try clear hi)
        refine hK.out _ _ ⟨v192, v196, .slice Ao24 y199.length co24, v204, v208, (by rw [ha.out]; exact putSel_upk 8 hb_ rfl rfl rfl), (by (with_reducible repeat (first | refine blk_drewN ?_ _ | refine blk_drew ?_ | refine blk_alloc ?_ _)); exact BK188.out), (by repeat (first | (with_reducible first | exact HB.out | apply below_alloc | apply pw_below_drewN | apply below_drew1 | refine below_set ?_ GE188.out) | exact HB.out)), fun _ => (by (with_reducible repeat (first | apply Kd.R_alloc | apply Kd.R_drewN | apply Kd.R_drew)); exact HO193.out), fun _ => (by (with_reducible repeat (first | apply Kd.R_alloc | apply Kd.R_drewN | apply Kd.R_drew)); exact HO197.out), fun _ => (by (with_reducible repeat (first | apply Kd.R_alloc | apply Kd.R_drewN | apply Kd.R_drew)); exact HO201.out), z_HO205, fun h0_ => absurd ((hoff 17 (by kernel_rfl)).symm.trans h0_) (by decide)⟩
      refine steps_cons ?_ ?_
      · rintro b a w' ⟨v192, v196, v200, v204, v208, ha, Q_BK188, Q_HB, Q_HO193, Q_HO197, Q_HO201, Q_HO205, Q_HO209⟩ hb_ hon hoff
        refine ⟨_, rfl, fun K hK => ?_⟩
        have e26 : a.tmps[26]? = some (.pointer (some ⟨gb188, 4, none⟩)) := by rw [ha]; exact (putSel_off rfl).trans rfl
        replace ha := Aside0.mk ha
        have BK188 := Aside0.mk Q_BK188
        have HB := Aside0.mk Q_HB
        have hc0_ : w'.cell? ⟨gb188, 0, none⟩ = some (.int .i64 a0_0) := (blk_cell BK188.out 0).trans rfl
        have hc1_ : w'.cell? ⟨gb188, 1, none⟩ = some (.int .i64 a0_1) := (blk_cell BK188.out 1).trans rfl
        have hc2_ : w'.cell? ⟨gb188, 2, none⟩ = some (.int .i64 a0_2) := (blk_cell BK188.out 2).trans rfl
        have hc3_ : w'.cell? ⟨gb188, 3, none⟩ = some (.int .i64 a0_3) := (blk_cell BK188.out 3).trans rfl
        have hc4_ : w'.cell? ⟨gb188, 4, none⟩ = some (.int .i64 a0_4) := (blk_cell BK188.out 4).trans rfl
        refine value_ (w1 := w') (v := .int .i64 a0_4) (by rfl) rfl ?_ ?_
        · go_simp
          (try simp only [i64_w])
          try rfl
        refine hK.out _ _ ⟨v192, v196, v200, v204, v208, (by rw [ha.out]; exact putSel_upk 9 hb_ rfl rfl rfl), Q_BK188, Q_HB, Q_HO193, Q_HO197, Q_HO201, fun h0_ => absurd ((hoff 15 (by kernel_rfl)).symm.trans h0_) (by decide), fun h0_ => absurd ((hoff 17 (by kernel_rfl)).symm.trans h0_) (by decide)⟩
      refine steps_cons ?_ ?_
      · rintro b a w' ⟨v192, v196, v200, v204, v208, ha, Q_BK188, Q_HB, Q_HO193, Q_HO197, Q_HO201, Q_HO205, Q_HO209⟩ hb_ hon hoff
        refine ⟨_, rfl, fun K hK => ?_⟩
        have e27 : a.tmps[27]? = some (.int .i64 a0_4) := by rw [ha]; exact putSel_on (e := (14, 27, .int .i64 a0_4)) 9 rfl rfl (hon 14 (by kernel_rfl)) rfl
        replace ha := Aside0.mk ha
        have BK188 := Aside0.mk Q_BK188
        have HB := Aside0.mk Q_HB
        refine Kd.R_lit_step (Kd.int .i64) _ 3 ?hg (N := 28) ?hd (xs := ([a0_4] : List Int)) (inner := [.int .i64 a0_4]) (ok := fun _ => True) (okp := fun _ => True) ?hr ?hp (fun _ hk => hk) trivial (Below.refl _ _) (Nat.le_refl _) (by simp) ?_; (case hd => rfl); (case hg => rfl); (case hr => first | (go_simp; done) | (go_simp; rfl)); (case hp => exact (Reps.one (show Kd.M (Kd.int .i64) _ _ _ a0_4 [.int .i64 a0_4] from rfl) (Reps.none _ _)))
        intro v204 w13 ho14 hb hg_ hnew_
        clear hg_ hnew_
        (first | rw [← Ny203.out] at ho14 | (simp only [Int.reduceToNat] at ho14; rw [← Ny203.out] at ho14))
        have n0_ := Aside0.mk (Kd.R_lower ho14 (below_size (by repeat (first | (with_reducible first | exact HB.out | apply below_alloc | apply pw_below_drewN | apply below_drew1 | refine below_set ?_ GE188.out) | exact HB.out))))
        have n1_ := Aside0.mk (blk_below (g := gb188) (o := .cells #[.int .i64 a0_0, .int .i64 a0_1, .int .i64 a0_2, .int .i64 a0_3, .int .i64 a0_4] 53 (0, 0)) (by (with_reducible repeat (first | refine blk_drewN ?_ _ | refine blk_drew ?_ | refine blk_alloc ?_ _)); exact BK188.out) hb)
        have n2_ := Aside0.mk (below_step (by repeat (first | (with_reducible first | exact HB.out | apply below_alloc | apply pw_below_drewN | apply below_drew1 | refine below_set ?_ GE188.out) | exact HB.out)) hb)
        have z_HO193 := fun (h0_ : b 3 = true) => (show Kd.R (Kd.int .i64) 3 w13 w.heap.size (fun _ => True) v192 y191 from by first | exact (Kd.R_elder' (by (with_reducible repeat (first | apply Kd.R_alloc | apply Kd.R_drewN | apply Kd.R_drew)); exact (Q_HO193 h0_)) (Kd.R_base ho14) hb) | exact Kd.R_mono (Kd.R_elder' (by (with_reducible repeat (first | apply Kd.R_alloc | apply Kd.R_drewN | apply Kd.R_drew)); exact (Q_HO193 h0_)) (Kd.R_base ho14) hb) (fun _ h_ => by first | trivial | exact h_ | exact h_.1))
        have z_HO197 := fun (h0_ : b 7 = true) => (show Kd.R (Kd.int .i64) 3 w13 w.heap.size (fun _ => True) v196 y195 from by first | exact (Kd.R_elder' (by (with_reducible repeat (first | apply Kd.R_alloc | apply Kd.R_drewN | apply Kd.R_drew)); exact (Q_HO197 h0_)) (Kd.R_base ho14) hb) | exact Kd.R_mono (Kd.R_elder' (by (with_reducible repeat (first | apply Kd.R_alloc | apply Kd.R_drewN | apply Kd.R_drew)); exact (Q_HO197 h0_)) (Kd.R_base ho14) hb) (fun _ h_ => by first | trivial | exact h_ | exact h_.1))
        have z_HO201 := fun (h0_ : b 11 = true) => (show Kd.R (Kd.int .i64) 3 w13 w.heap.size (fun _ => True) v200 y199 from by first | exact (Kd.R_elder' (by (with_reducible repeat (first | apply Kd.R_alloc | apply Kd.R_drewN | apply Kd.R_drew)); exact (Q_HO201 h0_)) (Kd.R_base ho14) hb) | exact Kd.R_mono (Kd.R_elder' (by (with_reducible repeat (first | apply Kd.R_alloc | apply Kd.R_drewN | apply Kd.R_drew)); exact (Q_HO201 h0_)) (Kd.R_base ho14) hb) (fun _ h_ => by first | trivial | exact h_ | exact h_.1))
        clear BK188
        clear HB
        have HO205 := n0_
        have BK188 := n1_
        have HB := n2_
        clear n0_ n1_ n2_
        clear hb ho14
        refine hK.out _ _ ⟨v192, v196, v200, v204, v208, (by rw [ha.out]; exact putSel_upk 10 hb_ rfl rfl rfl), (by (with_reducible repeat (first | refine blk_drewN ?_ _ | refine blk_drew ?_ | refine blk_alloc ?_ _)); exact BK188.out), (by repeat (first | (with_reducible first | exact HB.out | apply below_alloc | apply pw_below_drewN | apply below_drew1 | refine below_set ?_ GE188.out) | exact HB.out)), z_HO193, z_HO197, z_HO201, fun _ => (by (with_reducible repeat (first | apply Kd.R_alloc | apply Kd.R_drewN | apply Kd.R_drew)); exact HO205.out), fun h0_ => absurd ((hoff 17 (by kernel_rfl)).symm.trans h0_) (by decide)⟩
      refine steps_cons ?_ ?_
      · rintro b a w' ⟨v192, v196, v200, v204, v208, ha, Q_BK188, Q_HB, Q_HO193, Q_HO197, Q_HO201, Q_HO205, Q_HO209⟩ hb_ hon hoff
        refine ⟨_, rfl, fun K hK => ?_⟩
        have e28 : a.tmps[28]? = some (v204) := by rw [ha]; exact putSel_on (e := (15, 28, v204)) 10 rfl rfl (hon 15 (by kernel_rfl)) rfl
        replace ha := Aside0.mk ha
        have BK188 := Aside0.mk Q_BK188
        have HB := Aside0.mk Q_HB
        have HO193 := Aside0.mk (Q_HO193 (hon 3 (by kernel_rfl)))
        have HO197 := Aside0.mk (Q_HO197 (hon 7 (by kernel_rfl)))
        have HO201 := Aside0.mk (Q_HO201 (hon 11 (by kernel_rfl)))
        have HO205 := Aside0.mk (Q_HO205 (hon 15 (by kernel_rfl)))
        obtain ⟨Ao28, co28, eo28⟩ := Kd.R_slice HO205.out
        (first | subst eo28 | (injection eo28 with f1_ f2_ f3_; have f4_ := f1_.symm; have f5_ := f3_.symm; clear f1_ f2_ f3_; subst f4_; subst f5_))
        refine goes_ Try.func67 (by kernel_rfl) rfl #[.string (⟨#[]⟩ : ByteArray), .slice Ao28 y203.length co28] (by rfl) rfl rfl (by first | (simp only [List.map_toArray, List.map_cons, List.map_nil, Act.eval, Array.getD_eq_getD_getElem?, Option.getD_some, e28]; done) | (simp only [List.map_toArray, List.map_cons, List.map_nil, Act.eval, Array.getD_eq_getD_getElem?, Option.getD_some, e28]; rfl)) ?_
        with_reducible refine (dec_List.calls k (⟨#[]⟩ : ByteArray) _ _ y203 t206 _ ?side1 ?side2 A7.out).mono ?_
        (case side1 => repeat (first | exact (Kd.R_reads' HO205.out).2.2 | (with_reducible refine Kd.C_alloc ?_ _) | (with_reducible refine Kd.C_drewN ?_ _) | (with_reducible refine Kd.C_drew ?_)))
        (case side2 => exact (Kd.R_reads' HO205.out).2.1)
        rintro e w29 ⟨rfl, hb⟩
        refine ⟨_, rfl, ?_⟩
        have n0_ := Aside0.mk (Kd.R_below (by (with_reducible repeat (first | apply Kd.R_alloc | apply Kd.R_drewN | apply Kd.R_drew)); exact HO193.out) hb)
        have n1_ := Aside0.mk (Kd.R_below (by (with_reducible repeat (first | apply Kd.R_alloc | apply Kd.R_drewN | apply Kd.R_drew)); exact HO197.out) hb)
        have n2_ := Aside0.mk (Kd.R_below (by (with_reducible repeat (first | apply Kd.R_alloc | apply Kd.R_drewN | apply Kd.R_drew)); exact HO201.out) hb)
        have n3_ := Aside0.mk (Kd.R_below (by (with_reducible repeat (first | apply Kd.R_alloc | apply Kd.R_drewN | apply Kd.R_drew)); exact HO205.out) hb)
        have n4_ := Aside0.mk (blk_below (g := gb188) (o := .cells #[.int .i64 a0_0, .int .i64 a0_1, .int .i64 a0_2, .int .i64 a0_3, .int .i64 a0_4] 53 (0, 0)) (by (with_reducible repeat (first | refine blk_drewN ?_ _ | refine blk_drew ?_ | refine blk_alloc ?_ _)); exact BK188.out) hb)
        have n5_ := Aside0.mk (below_step (by repeat (first | (with_reducible first | exact HB.out | apply below_alloc | apply pw_below_drewN | apply below_drew1 | refine below_set ?_ GE188.out) | exact HB.out)) hb)
        clear HO193
        clear HO197
        clear HO201
        clear HO205
        clear BK188
        clear HB
        have HO193 := n0_
        have HO197 := n1_
        have HO201 := n2_
        have HO205 := n3_
        have BK188 := n4_
        have HB := n5_
        clear n0_ n1_ n2_ n3_ n4_ n5_
        (try clear hb)
        (try clear hb2)
        (try clear hk)
        (try clear hi)
        refine hK.out _ _ ⟨v192, v196, v200, .slice Ao28 y203.length co28, v208, (by rw [ha.out]; exact putSel_upk 11 hb_ rfl rfl rfl), (by (with_reducible repeat (first | refine blk_drewN ?_ _ | refine blk_drew ?_ | refine blk_alloc ?_ _)); exact BK188.out), (by repeat (first | (with_reducible first | exact HB.out | apply below_alloc | apply pw_below_drewN | apply below_drew1 | refine below_set ?_ GE188.out) | exact HB.out)), fun _ => (by (with_reducible repeat (first | apply Kd.R_alloc | apply Kd.R_drewN | apply Kd.R_drew)); exact HO193.out), fun _ => (by (with_reducible repeat (first | apply Kd.R_alloc | apply Kd.R_drewN | apply Kd.R_drew)); exact HO197.out), fun _ => (by (with_reducible repeat (first | apply Kd.R_alloc | apply Kd.R_drewN | apply Kd.R_drew)); exact HO201.out), fun _ => (by (with_reducible repeat (first | apply Kd.R_alloc | apply Kd.R_drewN | apply Kd.R_drew)); exact HO205.out), fun h0_ => absurd ((hoff 17 (by kernel_rfl)).symm.trans h0_) (by decide)⟩
      refine steps_cons ?_ ?_
      · rintro b a w' ⟨v192, v196, v200, v204, v208, ha, Q_BK188, Q_HB, Q_HO193, Q_HO197, Q_HO201, Q_HO205, Q_HO209⟩ hb_ hon hoff
        refine ⟨_, rfl, fun K hK => ?_⟩
        have e13 : a.tmps[13]? = some (.string t189) := by rw [ha]; exact (putSel_off rfl).trans rfl
        have e17 : a.tmps[17]? = some (.string t194) := by rw [ha]; exact putSel_on (e := (4, 17, .string t194)) 2 rfl rfl (hon 4 (by kernel_rfl)) rfl
        have e21 : a.tmps[21]? = some (.string t198) := by rw [ha]; exact putSel_on (e := (8, 21, .string t198)) 5 rfl rfl (hon 8 (by kernel_rfl)) rfl
        have e25 : a.tmps[25]? = some (.string t202) := by rw [ha]; exact putSel_on (e := (12, 25, .string t202)) 8 rfl rfl (hon 12 (by kernel_rfl)) rfl
        have e29 : a.tmps[29]? = some (.string t206) := by rw [ha]; exact putSel_on (e := (16, 29, .string t206)) 11 rfl rfl (hon 16 (by kernel_rfl)) rfl
        replace ha := Aside0.mk ha
        have BK188 := Aside0.mk Q_BK188
        have HB := Aside0.mk Q_HB
        have HO193 := Aside0.mk (Q_HO193 (hon 3 (by kernel_rfl)))
        have HO197 := Aside0.mk (Q_HO197 (hon 7 (by kernel_rfl)))
        have HO201 := Aside0.mk (Q_HO201 (hon 11 (by kernel_rfl)))
        have HO205 := Aside0.mk (Q_HO205 (hon 15 (by kernel_rfl)))
        refine Kd.R_lit_step Kd.string _ 9 ?hg (N := 30) ?hd (xs := ([t189, (⟨#[116, 105, 109, 101]⟩ : ByteArray), t194, (⟨#[109, 101, 109, 111, 114, 121]⟩ : ByteArray), t198, (⟨#[108, 97, 110, 101, 115]⟩ : ByteArray), t202, (⟨#[115, 105, 122, 101]⟩ : ByteArray), t206] : List ByteArray)) (inner := [.string t189, .string (⟨#[116, 105, 109, 101]⟩ : ByteArray), .string t194, .string (⟨#[109, 101, 109, 111, 114, 121]⟩ : ByteArray), .string t198, .string (⟨#[108, 97, 110, 101, 115]⟩ : ByteArray), .string t202, .string (⟨#[115, 105, 122, 101]⟩ : ByteArray), .string t206]) (ok := fun _ => True) (okp := fun _ => True) ?hr ?hp (fun _ hk => hk) trivial (Below.refl _ _) (Nat.le_refl _) (by simp) ?_; (case hd => rfl); (case hg => rfl); (case hr => first | (go_simp; done) | (go_simp; rfl)); (case hp => exact (Reps.one (show Kd.M Kd.string _ _ _ t189 [.string t189] from rfl) (Reps.one (show Kd.M Kd.string _ _ _ (⟨#[116, 105, 109, 101]⟩ : ByteArray) [.string (⟨#[116, 105, 109, 101]⟩ : ByteArray)] from rfl) (Reps.one (show Kd.M Kd.string _ _ _ t194 [.string t194] from rfl) (Reps.one (show Kd.M Kd.string _ _ _ (⟨#[109, 101, 109, 111, 114, 121]⟩ : ByteArray) [.string (⟨#[109, 101, 109, 111, 114, 121]⟩ : ByteArray)] from rfl) (Reps.one (show Kd.M Kd.string _ _ _ t198 [.string t198] from rfl) (Reps.one (show Kd.M Kd.string _ _ _ (⟨#[108, 97, 110, 101, 115]⟩ : ByteArray) [.string (⟨#[108, 97, 110, 101, 115]⟩ : ByteArray)] from rfl) (Reps.one (show Kd.M Kd.string _ _ _ t202 [.string t202] from rfl) (Reps.one (show Kd.M Kd.string _ _ _ (⟨#[115, 105, 122, 101]⟩ : ByteArray) [.string (⟨#[115, 105, 122, 101]⟩ : ByteArray)] from rfl) (Reps.one (show Kd.M Kd.string _ _ _ t206 [.string t206] from rfl) (Reps.none _ _)))))))))))
        intro v208 w30 ho31 hb hg_ hnew_
        clear hg_ hnew_
        (first | rw [← Ny207.out] at ho31 | (simp only [Int.reduceToNat] at ho31; rw [← Ny207.out] at ho31))
        have n0_ := Aside0.mk (Kd.R_below (by (with_reducible repeat (first | apply Kd.R_alloc | apply Kd.R_drewN | apply Kd.R_drew)); exact HO193.out) hb)
        have n1_ := Aside0.mk (Kd.R_below (by (with_reducible repeat (first | apply Kd.R_alloc | apply Kd.R_drewN | apply Kd.R_drew)); exact HO197.out) hb)
        have n2_ := Aside0.mk (Kd.R_below (by (with_reducible repeat (first | apply Kd.R_alloc | apply Kd.R_drewN | apply Kd.R_drew)); exact HO201.out) hb)
        have n3_ := Aside0.mk (Kd.R_below (by (with_reducible repeat (first | apply Kd.R_alloc | apply Kd.R_drewN | apply Kd.R_drew)); exact HO205.out) hb)
        have n4_ := Aside0.mk (Kd.R_lower ho31 (below_size (by repeat (first | (with_reducible first | exact HB.out | apply below_alloc | apply pw_below_drewN | apply below_drew1 | refine below_set ?_ GE188.out) | exact HB.out))))
        have n5_ := Aside0.mk (blk_below (g := gb188) (o := .cells #[.int .i64 a0_0, .int .i64 a0_1, .int .i64 a0_2, .int .i64 a0_3, .int .i64 a0_4] 53 (0, 0)) (by (with_reducible repeat (first | refine blk_drewN ?_ _ | refine blk_drew ?_ | refine blk_alloc ?_ _)); exact BK188.out) hb)
        have n6_ := Aside0.mk (below_step (by repeat (first | (with_reducible first | exact HB.out | apply below_alloc | apply pw_below_drewN | apply below_drew1 | refine below_set ?_ GE188.out) | exact HB.out)) hb)
        clear HO193
        clear HO197
        clear HO201
        clear HO205
        clear BK188
        clear HB
        have HO193 := n0_
        have HO197 := n1_
        have HO201 := n2_
        have HO205 := n3_
        have HO209 := n4_
        have BK188 := n5_
        have HB := n6_
        clear n0_ n1_ n2_ n3_ n4_ n5_ n6_
        clear hb ho31
        refine hK.out _ _ ⟨v192, v196, v200, v204, v208, (by rw [ha.out]; exact putSel_upk 12 hb_ rfl rfl rfl), (by (with_reducible repeat (first | refine blk_drewN ?_ _ | refine blk_drew ?_ | refine blk_alloc ?_ _)); exact BK188.out), (by repeat (first | (with_reducible first | exact HB.out | apply below_alloc | apply pw_below_drewN | apply below_drew1 | refine below_set ?_ GE188.out) | exact HB.out)), fun _ => (by (with_reducible repeat (first | apply Kd.R_alloc | apply Kd.R_drewN | apply Kd.R_drew)); exact HO193.out), fun _ => (by (with_reducible repeat (first | apply Kd.R_alloc | apply Kd.R_drewN | apply Kd.R_drew)); exact HO197.out), fun _ => (by (with_reducible repeat (first | apply Kd.R_alloc | apply Kd.R_drewN | apply Kd.R_drew)); exact HO201.out), fun _ => (by (with_reducible repeat (first | apply Kd.R_alloc | apply Kd.R_drewN | apply Kd.R_drew)); exact HO205.out), fun _ => (by (with_reducible repeat (first | apply Kd.R_alloc | apply Kd.R_drewN | apply Kd.R_drew)); exact HO209.out)⟩
      refine steps_cons ?_ ?_
      · rintro b a w' ⟨v192, v196, v200, v204, v208, ha, Q_BK188, Q_HB, Q_HO193, Q_HO197, Q_HO201, Q_HO205, Q_HO209⟩ hb_ hon hoff
        refine ⟨_, rfl, fun K hK => ?_⟩
        have e30 : a.tmps[30]? = some (v208) := by rw [ha]; exact putSel_on (e := (17, 30, v208)) 12 rfl rfl (hon 17 (by kernel_rfl)) rfl
        replace ha := Aside0.mk ha
        have BK188 := Aside0.mk Q_BK188
        have HB := Aside0.mk Q_HB
        have HO193 := Aside0.mk (Q_HO193 (hon 3 (by kernel_rfl)))
        have HO197 := Aside0.mk (Q_HO197 (hon 7 (by kernel_rfl)))
        have HO201 := Aside0.mk (Q_HO201 (hon 11 (by kernel_rfl)))
        have HO205 := Aside0.mk (Q_HO205 (hon 15 (by kernel_rfl)))
        have HO209 := Aside0.mk (Q_HO209 (hon 17 (by kernel_rfl)))
        obtain ⟨Ao32, co32, eo32⟩ := Kd.R_slice HO209.out
        (first | subst eo32 | (injection eo32 with f1_ f2_ f3_; have f4_ := f1_.symm; have f5_ := f3_.symm; clear f1_ f2_ f3_; subst f4_; subst f5_))
        refine goes_ Try.func22 (by kernel_rfl) rfl #[.int .u8 32, .slice Ao32 y207.length co32] (by rfl) rfl rfl (by first | (simp only [List.map_toArray, List.map_cons, List.map_nil, Act.eval, Array.getD_eq_getD_getElem?, Option.getD_some, e30]; done) | (simp only [List.map_toArray, List.map_cons, List.map_nil, Act.eval, Array.getD_eq_getD_getElem?, Option.getD_some, e30]; rfl)) ?_
        with_reducible refine (fields_Join.calls k 32 _ _ y207 t210 _ ?side1 ?side2 A8.out).mono ?_
        (case side1 => repeat (first | exact (Kd.R_reads' HO209.out).2.2 | (with_reducible refine Kd.C_alloc ?_ _) | (with_reducible refine Kd.C_drewN ?_ _) | (with_reducible refine Kd.C_drew ?_)))
        (case side2 => exact (Kd.R_reads' HO209.out).2.1)
        rintro e w33 ⟨rfl, hb⟩
        refine ⟨_, rfl, ?_⟩
        have n0_ := Aside0.mk (Kd.R_below (by (with_reducible repeat (first | apply Kd.R_alloc | apply Kd.R_drewN | apply Kd.R_drew)); exact HO193.out) hb)
        have n1_ := Aside0.mk (Kd.R_below (by (with_reducible repeat (first | apply Kd.R_alloc | apply Kd.R_drewN | apply Kd.R_drew)); exact HO197.out) hb)
        have n2_ := Aside0.mk (Kd.R_below (by (with_reducible repeat (first | apply Kd.R_alloc | apply Kd.R_drewN | apply Kd.R_drew)); exact HO201.out) hb)
        have n3_ := Aside0.mk (Kd.R_below (by (with_reducible repeat (first | apply Kd.R_alloc | apply Kd.R_drewN | apply Kd.R_drew)); exact HO205.out) hb)
        have n4_ := Aside0.mk (Kd.R_below (by (with_reducible repeat (first | apply Kd.R_alloc | apply Kd.R_drewN | apply Kd.R_drew)); exact HO209.out) hb)
        have n5_ := Aside0.mk (blk_below (g := gb188) (o := .cells #[.int .i64 a0_0, .int .i64 a0_1, .int .i64 a0_2, .int .i64 a0_3, .int .i64 a0_4] 53 (0, 0)) (by (with_reducible repeat (first | refine blk_drewN ?_ _ | refine blk_drew ?_ | refine blk_alloc ?_ _)); exact BK188.out) hb)
        have n6_ := Aside0.mk (below_step (by repeat (first | (with_reducible first | exact HB.out | apply below_alloc | apply pw_below_drewN | apply below_drew1 | refine below_set ?_ GE188.out) | exact HB.out)) hb)
        clear HO193
        clear HO197
        clear HO201
        clear HO205
        clear HO209
        clear BK188
        clear HB
        have HO193 := n0_
        have HO197 := n1_
        have HO201 := n2_
        have HO205 := n3_
        have HO209 := n4_
        have BK188 := n5_
        have HB := n6_
        clear n0_ n1_ n2_ n3_ n4_ n5_ n6_
        (try clear hb)
        (try clear hb2)
        (try clear hk)
        (try clear hi)
        refine hK.out _ _ ⟨v192, v196, v200, v204, .slice Ao32 y207.length co32, (by rw [ha.out]; exact putSel_upk 13 hb_ rfl rfl rfl), (by (with_reducible repeat (first | refine blk_drewN ?_ _ | refine blk_drew ?_ | refine blk_alloc ?_ _)); exact BK188.out), (by repeat (first | (with_reducible first | exact HB.out | apply below_alloc | apply pw_below_drewN | apply below_drew1 | refine below_set ?_ GE188.out) | exact HB.out)), fun _ => (by (with_reducible repeat (first | apply Kd.R_alloc | apply Kd.R_drewN | apply Kd.R_drew)); exact HO193.out), fun _ => (by (with_reducible repeat (first | apply Kd.R_alloc | apply Kd.R_drewN | apply Kd.R_drew)); exact HO197.out), fun _ => (by (with_reducible repeat (first | apply Kd.R_alloc | apply Kd.R_drewN | apply Kd.R_drew)); exact HO201.out), fun _ => (by (with_reducible repeat (first | apply Kd.R_alloc | apply Kd.R_drewN | apply Kd.R_drew)); exact HO205.out), fun _ => (by (with_reducible repeat (first | apply Kd.R_alloc | apply Kd.R_drewN | apply Kd.R_drew)); exact HO209.out)⟩
      refine steps_cons ?_ ?_
      · rintro b a w' ⟨v192, v196, v200, v204, v208, ha, Q_BK188, Q_HB, Q_HO193, Q_HO197, Q_HO201, Q_HO205, Q_HO209⟩ hb_ hon hoff
        refine ⟨_, rfl, fun K hK => ?_⟩
        have e31 : a.tmps[31]? = some (.string t210) := by rw [ha]; exact putSel_on (e := (18, 31, .string t210)) 13 rfl rfl (hon 18 (by kernel_rfl)) rfl
        replace ha := Aside0.mk ha
        have BK188 := Aside0.mk Q_BK188
        have HB := Aside0.mk Q_HB
        have HO193 := Aside0.mk (Q_HO193 (hon 3 (by kernel_rfl)))
        have HO197 := Aside0.mk (Q_HO197 (hon 7 (by kernel_rfl)))
        have HO201 := Aside0.mk (Q_HO201 (hon 11 (by kernel_rfl)))
        have HO205 := Aside0.mk (Q_HO205 (hon 15 (by kernel_rfl)))
        have HO209 := Aside0.mk (Q_HO209 (hon 17 (by kernel_rfl)))
        refine value_ (w1 := w') (v := .string t210) (by rfl) rfl ?_ ?_
        · go_simp
          (try simp only [i64_w])
          try rfl
        refine hK.out _ _ ⟨v192, v196, v200, v204, v208, (by rw [ha.out]; exact putSel_upk 14 hb_ rfl rfl rfl), Q_BK188, Q_HB, Q_HO193, Q_HO197, Q_HO201, Q_HO205, Q_HO209⟩
      exact steps_nil
    rintro b a w33 hall ⟨v192, v196, v200, v204, v208, ha, Q_BK188, Q_HB, Q_HO193, Q_HO197, Q_HO201, Q_HO205, Q_HO209⟩
    clear BK188 HB
    have hb2_ := hall 2 (by kernel_rfl)
    have hb3_ := hall 3 (by kernel_rfl)
    have hb4_ := hall 4 (by kernel_rfl)
    have hb6_ := hall 6 (by kernel_rfl)
    have hb7_ := hall 7 (by kernel_rfl)
    have hb8_ := hall 8 (by kernel_rfl)
    have hb10_ := hall 10 (by kernel_rfl)
    have hb11_ := hall 11 (by kernel_rfl)
    have hb12_ := hall 12 (by kernel_rfl)
    have hb14_ := hall 14 (by kernel_rfl)
    have hb15_ := hall 15 (by kernel_rfl)
    have hb16_ := hall 16 (by kernel_rfl)
    have hb17_ := hall 17 (by kernel_rfl)
    have hb18_ := hall 18 (by kernel_rfl)
    have hb19_ := hall 19 (by kernel_rfl)
    subst ha
    simp only [putSel, hb2_, hb3_, hb4_, hb6_, hb7_, hb8_, hb10_, hb11_, hb12_, hb14_, hb15_, hb16_, hb17_, hb18_, hb19_, if_true, Act.put, List.setIfInBounds_toArray, List.set_cons_zero, List.set_cons_succ]
    have BK188 := Aside0.mk Q_BK188
    clear Q_BK188
    have HB := Aside0.mk Q_HB
    clear Q_HB
    have HO193 := Aside0.mk (Q_HO193 hb3_)
    clear Q_HO193
    have HO197 := Aside0.mk (Q_HO197 hb7_)
    clear Q_HO197
    have HO201 := Aside0.mk (Q_HO201 hb11_)
    clear Q_HO201
    have HO205 := Aside0.mk (Q_HO205 hb15_)
    clear Q_HO205
    have HO209 := Aside0.mk (Q_HO209 hb17_)
    clear Q_HO209
    clear hall hb2_ hb3_ hb4_ hb6_ hb7_ hb8_ hb10_ hb11_ hb12_ hb14_ hb15_ hb16_ hb17_ hb18_ hb19_
    try go_wp2
    go_ret
    exact ⟨by first | rfl | (simp [errW_none, errW_some] <;> rfl) | (simp [*, errW_none, errW_some] <;> rfl), by repeat (first | (with_reducible first | exact HB.out | apply below_alloc | apply pw_below_drewN | apply below_drew1 | refine below_set ?_ GE188.out) | exact HB.out)⟩
  · rw [if_neg c3] at H
    have c3b0 : (t190 == 0) = false := beq_eq_false_iff_ne.mpr c3
    have c3b1 : (t190 != 0) = true := bne_iff_ne.mpr c3
    obtain rfl := Option.some.inj H
    go_enter Try.func30, Try.ntmps30
    go_wp2_with (first | ((with_reducible refine gate_dst (N := 1) rfl ?_); refine box_event ?hg (N := 1) ?hd (cs := #[.int .i64 a0_0, .int .i64 a0_1, .int .i64 a0_2, .int .i64 a0_3, .int .i64 a0_4]) (t := 53) ?hr ?_; (case hd => rfl); (case hg => rfl); (case hr => first | (go_simp; done) | (go_simp; rfl)); intro gb188 hg w34 hbox hb; have n0_ := Aside0.mk (below_step (by repeat (first | (with_reducible first | exact HB.out | apply below_alloc | apply pw_below_drewN | apply below_drew1) | exact HB.out)) hb); have n1_ := Aside0.mk (hbox); have n2_ := Aside0.mk ((by rw [hg]; exact (below_size (by repeat (first | (with_reducible first | exact HB.out | apply below_alloc | apply pw_below_drewN | apply below_drew1) | exact HB.out))) : w.heap.size ≤ gb188)); have n3_ := Aside0.mk ((by rw [hg]; exact (below_size (by repeat (first | (with_reducible first | exact HB.out | apply below_alloc | apply pw_below_drewN | apply below_drew1) | exact HB.out))) : w.heap.size ≤ gb188)); clear HB; have HB := n0_; have BK188 := n1_; have GW188 := n2_; have GE188 := n3_; clear n0_ n1_ n2_ n3_; clear hb hbox hg; have hcz35_0 : w34.cell? ⟨gb188, 0, none⟩ = some (.int .i64 a0_0) := (blk_cell BK188.out 0).trans rfl; have hcz35_1 : w34.cell? ⟨gb188, 1, none⟩ = some (.int .i64 a0_1) := (blk_cell BK188.out 1).trans rfl; have hcz35_2 : w34.cell? ⟨gb188, 2, none⟩ = some (.int .i64 a0_2) := (blk_cell BK188.out 2).trans rfl; have hcz35_3 : w34.cell? ⟨gb188, 3, none⟩ = some (.int .i64 a0_3) := (blk_cell BK188.out 3).trans rfl; have hcz35_4 : w34.cell? ⟨gb188, 4, none⟩ = some (.int .i64 a0_4) := (blk_cell BK188.out 4).trans rfl; have hfz35_0 := blk_frozen BK188.out 0; have hfz35_1 := blk_frozen BK188.out 1; have hfz35_2 := blk_frozen BK188.out 2; have hfz35_3 := blk_frozen BK188.out 3; have hfz35_4 := blk_frozen BK188.out 4) | ((with_reducible refine gate_callee (f := 71) rfl ?_); refine goesL_ (some 8) rfl rfl Try.func71 (by kernel_rfl) rfl #[.int .i64 a0_0] rfl (by (try simp only [List.map_toArray, List.map_cons, List.map_nil]); first | done | rfl | (simp only [List.length_drop, List.length_take]; rfl)) ?_; (with_reducible refine (record_Name.calls k a0_0 t189 t190 _ A2.out).mono ?_); rintro e w36 ⟨rfl, hb⟩; refine ⟨_, rfl, ?_⟩; have n0_ := Aside0.mk (blk_below (g := gb188) (o := .cells #[.int .i64 a0_0, .int .i64 a0_1, .int .i64 a0_2, .int .i64 a0_3, .int .i64 a0_4] 53 (0, 0)) (by (with_reducible repeat (first | refine blk_drewN ?_ _ | refine blk_drew ?_ | refine blk_alloc ?_ _)); exact BK188.out) hb); have n1_ := Aside0.mk (below_step (by repeat (first | (with_reducible first | exact HB.out | apply below_alloc | apply pw_below_drewN | apply below_drew1 | refine below_set ?_ GE188.out) | exact HB.out)) hb); clear BK188; clear HB; have BK188 := n0_; have HB := n1_; clear n0_ n1_; (try clear hb); (try clear hb2); (try clear hk); (try clear hi)))
    go_ret
    exact ⟨by first | rfl | (simp [errW_none, errW_some] <;> rfl) | (simp [*, errW_none, errW_some] <;> rfl), by repeat (first | (with_reducible first | exact HB.out | apply below_alloc | apply pw_below_drewN | apply below_drew1 | refine below_set ?_ GE188.out) | exact HB.out)⟩

/-! ### pestleref44_Id: function 72 -/
def pestleref44_Id.f (a0 : Int) : Option (ByteArray) := (some (([(⟨#[]⟩ : ByteArray), (⟨#[97, 114, 103, 111, 110, 50, 100]⟩ : ByteArray), (⟨#[97, 114, 103, 111, 110, 50, 105]⟩ : ByteArray), (⟨#[97, 114, 103, 111, 110, 50, 105, 100]⟩ : ByteArray), (⟨#[115, 99, 114, 121, 112, 116]⟩ : ByteArray), (⟨#[98, 99, 114, 121, 112, 116]⟩ : ByteArray), (⟨#[112, 98, 107, 100, 102, 50, 45, 115, 104, 97, 50, 53, 54]⟩ : ByteArray)] : List ByteArray) : List ByteArray)).bind fun y211 => (if a0 < 1 then (some (⟨#[]⟩ : ByteArray)) else (if a0 > 6 then (some (⟨#[]⟩ : ByteArray)) else (if 0 ≤ a0 then (if a0 < (y211.length : Int) then (some (rdOf ByteArray.empty y211 a0)) else (none)) else (none))))
set_option maxHeartbeats 8000000 in
set_option maxRecDepth 100000 in
theorem pestleref44_Id.calls (a0 : Int) (r : ByteArray) (w : World) (h : pestleref44_Id.f a0 = some r) :
    Calls Try.prog 72 #[.int .i64 a0] w fun e w' => e = .returned (.string r) ∧ Below w.heap.size w w' := by
  have HB := Aside0.mk (Below.refl w.heap.size w)
  have H : ((some (([(⟨#[]⟩ : ByteArray), (⟨#[97, 114, 103, 111, 110, 50, 100]⟩ : ByteArray), (⟨#[97, 114, 103, 111, 110, 50, 105]⟩ : ByteArray), (⟨#[97, 114, 103, 111, 110, 50, 105, 100]⟩ : ByteArray), (⟨#[115, 99, 114, 121, 112, 116]⟩ : ByteArray), (⟨#[98, 99, 114, 121, 112, 116]⟩ : ByteArray), (⟨#[112, 98, 107, 100, 102, 50, 45, 115, 104, 97, 50, 53, 54]⟩ : ByteArray)] : List ByteArray) : List ByteArray)).bind fun y211 => (if a0 < 1 then (some (⟨#[]⟩ : ByteArray)) else (if a0 > 6 then (some (⟨#[]⟩ : ByteArray)) else (if 0 ≤ a0 then (if a0 < (y211.length : Int) then (some (rdOf ByteArray.empty y211 a0)) else (none)) else (none))))) = some r := h
  clear h
  obtain ⟨y211, hy211⟩ : ∃ y_ : List ByteArray, y_ = (([(⟨#[]⟩ : ByteArray), (⟨#[97, 114, 103, 111, 110, 50, 100]⟩ : ByteArray), (⟨#[97, 114, 103, 111, 110, 50, 105]⟩ : ByteArray), (⟨#[97, 114, 103, 111, 110, 50, 105, 100]⟩ : ByteArray), (⟨#[115, 99, 114, 121, 112, 116]⟩ : ByteArray), (⟨#[98, 99, 114, 121, 112, 116]⟩ : ByteArray), (⟨#[112, 98, 107, 100, 102, 50, 45, 115, 104, 97, 50, 53, 54]⟩ : ByteArray)] : List ByteArray)) := ⟨_, rfl⟩
  replace H : (if a0 < 1 then (some (⟨#[]⟩ : ByteArray)) else (if a0 > 6 then (some (⟨#[]⟩ : ByteArray)) else (if 0 ≤ a0 then (if a0 < (y211.length : Int) then (some (rdOf ByteArray.empty y211 a0)) else (none)) else (none)))) = some r := by first | (rw [hy211]; with_reducible exact H) | (have H2_ := (Option.bind_some _ _).symm.trans H; rw [hy211]; with_reducible exact H2_) | (have H2_ := (Option.bind_some _ _).symm.trans H; with_reducible exact H2_) | with_reducible exact H | (rw [hy211]; exact H) | exact H
  have Ny211 := Aside0.mk hy211
  clear hy211
  by_cases c2 : a0 < 1
  · rw [if_pos c2] at H
    have c2b0 : decide (a0 < 1) = true := decide_eq_true c2
    clear c2
    obtain rfl := Option.some.inj H
    go_enter Try.func72, Try.ntmps72
    go_wp2_with (first | ((with_reducible refine gate_dst (N := 4) rfl ?_); refine Kd.R_lit Kd.string _ 9 ?hg (N := 4) ?hd (xs := ([(⟨#[]⟩ : ByteArray), (⟨#[97, 114, 103, 111, 110, 50, 100]⟩ : ByteArray), (⟨#[97, 114, 103, 111, 110, 50, 105]⟩ : ByteArray), (⟨#[97, 114, 103, 111, 110, 50, 105, 100]⟩ : ByteArray), (⟨#[115, 99, 114, 121, 112, 116]⟩ : ByteArray), (⟨#[98, 99, 114, 121, 112, 116]⟩ : ByteArray), (⟨#[112, 98, 107, 100, 102, 50, 45, 115, 104, 97, 50, 53, 54]⟩ : ByteArray)] : List ByteArray)) (inner := [.string (⟨#[]⟩ : ByteArray), .string (⟨#[97, 114, 103, 111, 110, 50, 100]⟩ : ByteArray), .string (⟨#[97, 114, 103, 111, 110, 50, 105]⟩ : ByteArray), .string (⟨#[97, 114, 103, 111, 110, 50, 105, 100]⟩ : ByteArray), .string (⟨#[115, 99, 114, 121, 112, 116]⟩ : ByteArray), .string (⟨#[98, 99, 114, 121, 112, 116]⟩ : ByteArray), .string (⟨#[112, 98, 107, 100, 102, 50, 45, 115, 104, 97, 50, 53, 54]⟩ : ByteArray)]) (ok := fun _ => True) (okp := fun _ => True) ?hr ?hp (fun _ hk => hk) trivial (Below.refl _ _) (Nat.le_refl _) (by simp) ?_; (case hd => rfl); (case hg => rfl); (case hr => first | (go_simp; done) | (go_simp; rfl)); (case hp => exact (Reps.one (show Kd.M Kd.string _ _ _ (⟨#[]⟩ : ByteArray) [.string (⟨#[]⟩ : ByteArray)] from rfl) (Reps.one (show Kd.M Kd.string _ _ _ (⟨#[97, 114, 103, 111, 110, 50, 100]⟩ : ByteArray) [.string (⟨#[97, 114, 103, 111, 110, 50, 100]⟩ : ByteArray)] from rfl) (Reps.one (show Kd.M Kd.string _ _ _ (⟨#[97, 114, 103, 111, 110, 50, 105]⟩ : ByteArray) [.string (⟨#[97, 114, 103, 111, 110, 50, 105]⟩ : ByteArray)] from rfl) (Reps.one (show Kd.M Kd.string _ _ _ (⟨#[97, 114, 103, 111, 110, 50, 105, 100]⟩ : ByteArray) [.string (⟨#[97, 114, 103, 111, 110, 50, 105, 100]⟩ : ByteArray)] from rfl) (Reps.one (show Kd.M Kd.string _ _ _ (⟨#[115, 99, 114, 121, 112, 116]⟩ : ByteArray) [.string (⟨#[115, 99, 114, 121, 112, 116]⟩ : ByteArray)] from rfl) (Reps.one (show Kd.M Kd.string _ _ _ (⟨#[98, 99, 114, 121, 112, 116]⟩ : ByteArray) [.string (⟨#[98, 99, 114, 121, 112, 116]⟩ : ByteArray)] from rfl) (Reps.one (show Kd.M Kd.string _ _ _ (⟨#[112, 98, 107, 100, 102, 50, 45, 115, 104, 97, 50, 53, 54]⟩ : ByteArray) [.string (⟨#[112, 98, 107, 100, 102, 50, 45, 115, 104, 97, 50, 53, 54]⟩ : ByteArray)] from rfl) (Reps.none _ _))))))))); intro v212 w3 ho4 hb hg_ hnew_; clear hg_ hnew_; (first | rw [← Ny211.out] at ho4 | (simp only [Int.reduceToNat] at ho4; rw [← Ny211.out] at ho4)); have n0_ := Aside0.mk (Kd.R_lower ho4 (below_size (by repeat (first | (with_reducible first | exact HB.out | apply below_alloc | apply pw_below_drewN | apply below_drew1) | exact HB.out)))); have n1_ := Aside0.mk (below_step (by repeat (first | (with_reducible first | exact HB.out | apply below_alloc | apply pw_below_drewN | apply below_drew1) | exact HB.out)) hb); clear HB; have HO213 := n0_; have HB := n1_; clear n0_ n1_; clear hb ho4))
    go_ret
    exact ⟨by first | rfl | (simp [errW_none, errW_some] <;> rfl) | (simp [*, errW_none, errW_some] <;> rfl), by repeat (first | (with_reducible first | exact HB.out | apply below_alloc | apply pw_below_drewN | apply below_drew1) | exact HB.out)⟩
  · rw [if_neg c2] at H
    have c2b0 : decide (a0 < 1) = false := decide_eq_false c2
    clear c2
    by_cases c5 : a0 > 6
    · rw [if_pos c5] at H
      have c5b0 : decide (6 < a0) = true := decide_eq_true c5
      clear c5
      obtain rfl := Option.some.inj H
      go_enter Try.func72, Try.ntmps72
      go_wp2_with (first | ((with_reducible refine gate_dst (N := 4) rfl ?_); refine Kd.R_lit Kd.string _ 9 ?hg (N := 4) ?hd (xs := ([(⟨#[]⟩ : ByteArray), (⟨#[97, 114, 103, 111, 110, 50, 100]⟩ : ByteArray), (⟨#[97, 114, 103, 111, 110, 50, 105]⟩ : ByteArray), (⟨#[97, 114, 103, 111, 110, 50, 105, 100]⟩ : ByteArray), (⟨#[115, 99, 114, 121, 112, 116]⟩ : ByteArray), (⟨#[98, 99, 114, 121, 112, 116]⟩ : ByteArray), (⟨#[112, 98, 107, 100, 102, 50, 45, 115, 104, 97, 50, 53, 54]⟩ : ByteArray)] : List ByteArray)) (inner := [.string (⟨#[]⟩ : ByteArray), .string (⟨#[97, 114, 103, 111, 110, 50, 100]⟩ : ByteArray), .string (⟨#[97, 114, 103, 111, 110, 50, 105]⟩ : ByteArray), .string (⟨#[97, 114, 103, 111, 110, 50, 105, 100]⟩ : ByteArray), .string (⟨#[115, 99, 114, 121, 112, 116]⟩ : ByteArray), .string (⟨#[98, 99, 114, 121, 112, 116]⟩ : ByteArray), .string (⟨#[112, 98, 107, 100, 102, 50, 45, 115, 104, 97, 50, 53, 54]⟩ : ByteArray)]) (ok := fun _ => True) (okp := fun _ => True) ?hr ?hp (fun _ hk => hk) trivial (Below.refl _ _) (Nat.le_refl _) (by simp) ?_; (case hd => rfl); (case hg => rfl); (case hr => first | (go_simp; done) | (go_simp; rfl)); (case hp => exact (Reps.one (show Kd.M Kd.string _ _ _ (⟨#[]⟩ : ByteArray) [.string (⟨#[]⟩ : ByteArray)] from rfl) (Reps.one (show Kd.M Kd.string _ _ _ (⟨#[97, 114, 103, 111, 110, 50, 100]⟩ : ByteArray) [.string (⟨#[97, 114, 103, 111, 110, 50, 100]⟩ : ByteArray)] from rfl) (Reps.one (show Kd.M Kd.string _ _ _ (⟨#[97, 114, 103, 111, 110, 50, 105]⟩ : ByteArray) [.string (⟨#[97, 114, 103, 111, 110, 50, 105]⟩ : ByteArray)] from rfl) (Reps.one (show Kd.M Kd.string _ _ _ (⟨#[97, 114, 103, 111, 110, 50, 105, 100]⟩ : ByteArray) [.string (⟨#[97, 114, 103, 111, 110, 50, 105, 100]⟩ : ByteArray)] from rfl) (Reps.one (show Kd.M Kd.string _ _ _ (⟨#[115, 99, 114, 121, 112, 116]⟩ : ByteArray) [.string (⟨#[115, 99, 114, 121, 112, 116]⟩ : ByteArray)] from rfl) (Reps.one (show Kd.M Kd.string _ _ _ (⟨#[98, 99, 114, 121, 112, 116]⟩ : ByteArray) [.string (⟨#[98, 99, 114, 121, 112, 116]⟩ : ByteArray)] from rfl) (Reps.one (show Kd.M Kd.string _ _ _ (⟨#[112, 98, 107, 100, 102, 50, 45, 115, 104, 97, 50, 53, 54]⟩ : ByteArray) [.string (⟨#[112, 98, 107, 100, 102, 50, 45, 115, 104, 97, 50, 53, 54]⟩ : ByteArray)] from rfl) (Reps.none _ _))))))))); intro v212 w6 ho7 hb hg_ hnew_; clear hg_ hnew_; (first | rw [← Ny211.out] at ho7 | (simp only [Int.reduceToNat] at ho7; rw [← Ny211.out] at ho7)); have n0_ := Aside0.mk (Kd.R_lower ho7 (below_size (by repeat (first | (with_reducible first | exact HB.out | apply below_alloc | apply pw_below_drewN | apply below_drew1) | exact HB.out)))); have n1_ := Aside0.mk (below_step (by repeat (first | (with_reducible first | exact HB.out | apply below_alloc | apply pw_below_drewN | apply below_drew1) | exact HB.out)) hb); clear HB; have HO213 := n0_; have HB := n1_; clear n0_ n1_; clear hb ho7))
      go_ret
      exact ⟨by first | rfl | (simp [errW_none, errW_some] <;> rfl) | (simp [*, errW_none, errW_some] <;> rfl), by repeat (first | (with_reducible first | exact HB.out | apply below_alloc | apply pw_below_drewN | apply below_drew1) | exact HB.out)⟩
    · rw [if_neg c5] at H
      have c5b0 : decide (6 < a0) = false := decide_eq_false c5
      clear c5
      by_cases c8 : 0 ≤ a0
      · rw [if_pos c8] at H
        have c8b0 : decide (0 ≤ a0) = true := decide_eq_true c8
        clear c8
        by_cases c9 : a0 < (y211.length : Int)
        · rw [if_pos c9] at H
          have c9b0 : decide (a0 < (y211.length : Int)) = true := decide_eq_true c9
          clear c9
          obtain rfl := Option.some.inj H
          go_enter Try.func72, Try.ntmps72
          go_wp2_with (first | ((with_reducible refine gate_dst (N := 4) rfl ?_); refine Kd.R_lit Kd.string _ 9 ?hg (N := 4) ?hd (xs := ([(⟨#[]⟩ : ByteArray), (⟨#[97, 114, 103, 111, 110, 50, 100]⟩ : ByteArray), (⟨#[97, 114, 103, 111, 110, 50, 105]⟩ : ByteArray), (⟨#[97, 114, 103, 111, 110, 50, 105, 100]⟩ : ByteArray), (⟨#[115, 99, 114, 121, 112, 116]⟩ : ByteArray), (⟨#[98, 99, 114, 121, 112, 116]⟩ : ByteArray), (⟨#[112, 98, 107, 100, 102, 50, 45, 115, 104, 97, 50, 53, 54]⟩ : ByteArray)] : List ByteArray)) (inner := [.string (⟨#[]⟩ : ByteArray), .string (⟨#[97, 114, 103, 111, 110, 50, 100]⟩ : ByteArray), .string (⟨#[97, 114, 103, 111, 110, 50, 105]⟩ : ByteArray), .string (⟨#[97, 114, 103, 111, 110, 50, 105, 100]⟩ : ByteArray), .string (⟨#[115, 99, 114, 121, 112, 116]⟩ : ByteArray), .string (⟨#[98, 99, 114, 121, 112, 116]⟩ : ByteArray), .string (⟨#[112, 98, 107, 100, 102, 50, 45, 115, 104, 97, 50, 53, 54]⟩ : ByteArray)]) (ok := fun _ => True) (okp := fun _ => True) ?hr ?hp (fun _ hk => hk) trivial (Below.refl _ _) (Nat.le_refl _) (by simp) ?_; (case hd => rfl); (case hg => rfl); (case hr => first | (go_simp; done) | (go_simp; rfl)); (case hp => exact (Reps.one (show Kd.M Kd.string _ _ _ (⟨#[]⟩ : ByteArray) [.string (⟨#[]⟩ : ByteArray)] from rfl) (Reps.one (show Kd.M Kd.string _ _ _ (⟨#[97, 114, 103, 111, 110, 50, 100]⟩ : ByteArray) [.string (⟨#[97, 114, 103, 111, 110, 50, 100]⟩ : ByteArray)] from rfl) (Reps.one (show Kd.M Kd.string _ _ _ (⟨#[97, 114, 103, 111, 110, 50, 105]⟩ : ByteArray) [.string (⟨#[97, 114, 103, 111, 110, 50, 105]⟩ : ByteArray)] from rfl) (Reps.one (show Kd.M Kd.string _ _ _ (⟨#[97, 114, 103, 111, 110, 50, 105, 100]⟩ : ByteArray) [.string (⟨#[97, 114, 103, 111, 110, 50, 105, 100]⟩ : ByteArray)] from rfl) (Reps.one (show Kd.M Kd.string _ _ _ (⟨#[115, 99, 114, 121, 112, 116]⟩ : ByteArray) [.string (⟨#[115, 99, 114, 121, 112, 116]⟩ : ByteArray)] from rfl) (Reps.one (show Kd.M Kd.string _ _ _ (⟨#[98, 99, 114, 121, 112, 116]⟩ : ByteArray) [.string (⟨#[98, 99, 114, 121, 112, 116]⟩ : ByteArray)] from rfl) (Reps.one (show Kd.M Kd.string _ _ _ (⟨#[112, 98, 107, 100, 102, 50, 45, 115, 104, 97, 50, 53, 54]⟩ : ByteArray) [.string (⟨#[112, 98, 107, 100, 102, 50, 45, 115, 104, 97, 50, 53, 54]⟩ : ByteArray)] from rfl) (Reps.none _ _))))))))); intro v212 w10 ho11 hb hg_ hnew_; clear hg_ hnew_; (first | rw [← Ny211.out] at ho11 | (simp only [Int.reduceToNat] at ho11; rw [← Ny211.out] at ho11)); have n0_ := Aside0.mk (Kd.R_lower ho11 (below_size (by repeat (first | (with_reducible first | exact HB.out | apply below_alloc | apply pw_below_drewN | apply below_drew1) | exact HB.out)))); have n1_ := Aside0.mk (below_step (by repeat (first | (with_reducible first | exact HB.out | apply below_alloc | apply pw_below_drewN | apply below_drew1) | exact HB.out)) hb); clear HB; have HO213 := n0_; have HB := n1_; clear n0_ n1_; clear hb ho11; obtain ⟨Ao12, co12, eo12⟩ := Kd.R_slice HO213.out; subst eo12; have p214 : 0 ≤ (a0 : Int) := of_decide_eq_true (by first | (with_reducible assumption) | assumption); have q214 : a0 < (y211.length : Int) := of_decide_eq_true (by first | (with_reducible assumption) | assumption); obtain ⟨ad214, e214, hx214_0⟩ := Kd.at_string (Kd.R_reads' HO213.out).2.2 a0 p214 q214; cases e214; replace p214 := eq_true p214; replace q214 := eq_true q214))
          go_ret
          exact ⟨by first | rfl | (simp [errW_none, errW_some] <;> rfl) | (simp [*, errW_none, errW_some] <;> rfl), by repeat (first | (with_reducible first | exact HB.out | apply below_alloc | apply pw_below_drewN | apply below_drew1) | exact HB.out)⟩
        · rw [if_neg c9] at H
          exact absurd H (by simp)
      · rw [if_neg c8] at H
        exact absurd H (by simp)

end Go.Proofs.Ytoknoghdnedmhaa.Pall
