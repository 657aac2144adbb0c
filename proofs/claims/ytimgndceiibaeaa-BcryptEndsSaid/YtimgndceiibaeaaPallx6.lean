-- PRINTED by print.py (a twelfth state) out of the translation. Not trusted: Lean checks it.
import Derived.Test.YtimgndceiibaeaaPallx0
namespace Go.Proofs.Ytimgndceiibaeaa.Pall
open Go.RowKit Go.Proofs.YtimgndceiibaeaaW.PrintWords Go.Proofs.YtimgndceiibaeaaW.PrintLast Go.Proofs.YtimgndceiibaeaaW.PrintMore
attribute [local go_sem] max2_int min2_int max_two min_two max_three min_three max_four min_four   -- for this text's walks alone
set_option linter.unusedVariables false
set_option linter.unusedSimpArgs false

/-! ### sextet_Coder_Decode: function 56 -/
def sextet_Coder_Decode.l0 : Nat → ByteArray → ByteArray → List Int → Int → Int → Int → Int → Option (ByteArray × Int)
  | 0, _, _, _, _, _, _, _ => none
  | k + 1, x0, x1, x6, x7, x8, x12, x13 => if x13 < x12 then (if 0 ≤ x13 then (if x13 < (x1.size : Int) then ((sxF x0 (bt x1 x13)).bind fun t101 => (if t101 = 0 then (some ((⟨#[]⟩ : ByteArray), 8)) else (if (wrap64 (x8 + 6)) ≥ 8 then (if 0 ≤ (wrap64 ((wrap64 (x8 + 6)) - 8)) then (if x6.length < 140737488355328 then (sextet_Coder_Decode.l0 k x0 x1 (x6 ++ [(shr .u32 (Go.bits .or .u32 ((x7 * 64) % 4294967296) ((wrap64 (t101 - 1)) % 4294967296)) (wrap64 ((wrap64 (x8 + 6)) - 8))) % 256]) (Go.bits .or .u32 ((x7 * 64) % 4294967296) ((wrap64 (t101 - 1)) % 4294967296)) (wrap64 ((wrap64 (x8 + 6)) - 8)) x12 (wrap64 (x13 + 1))) else (none)) else (none)) else (sextet_Coder_Decode.l0 k x0 x1 x6 (Go.bits .or .u32 ((x7 * 64) % 4294967296) ((wrap64 (t101 - 1)) % 4294967296)) (wrap64 (x8 + 6)) x12 (wrap64 (x13 + 1)))))) else (none)) else (none)) else (if ((x1.size : Int) % 4) = 1 then (some ((⟨#[]⟩ : ByteArray), 5)) else (if 0 ≤ x8 then (if (Go.bits .and .u32 x7 (((shl .u32 1 x8) - 1) % 4294967296)) = 0 then (some (strOfNums x6, 0)) else (some ((⟨#[]⟩ : ByteArray), 5))) else (none)))
def sextet_Coder_Decode.f (k : Nat) (a0 : ByteArray) (a1 : ByteArray) : Option (ByteArray × Int) := sextet_Coder_Decode.l0 k a0 a1 ([] : List Int) 0 0 (a1.size : Int) 0
theorem sextet_Coder_Decode.mono_l : ∀ k, (∀ y0 y1 y2 y3 y4 y5 y6, LeO (sextet_Coder_Decode.l0 k y0 y1 y2 y3 y4 y5 y6) (sextet_Coder_Decode.l0 (k + 1) y0 y1 y2 y3 y4 y5 y6))
  | 0 => fun _ _ _ _ _ _ _ r h => by simp [sextet_Coder_Decode.l0] at h
  | k + 1 => by
    have ih0 := sextet_Coder_Decode.mono_l k
    · intro y0 y1 y2 y3 y4 y5 y6
      unfold sextet_Coder_Decode.l0
      repeat' first
      | (with_reducible exact ih0 _ _ _ _ _ _ _)
      | (with_reducible exact LeO.refl _)
      | (with_reducible exact LeO.none _)
      | (with_reducible refine LeO.ite ?_ ?_)
      | (with_reducible refine LeO.bind ?_ (fun _ => ?_))
      | exact ih0 _ _ _ _ _ _ _
      | exact LeO.none _
      | refine LeO.ite ?_ ?_
      | refine LeO.bind ?_ (fun _ => ?_)
theorem sextet_Coder_Decode.mono : ∀ a0 a1 k, LeO (sextet_Coder_Decode.f k a0 a1) (sextet_Coder_Decode.f (k + 1) a0 a1) := by
  intro a0 a1 k
  have ih0 := sextet_Coder_Decode.mono_l k
  unfold sextet_Coder_Decode.f
  repeat' first
      | (with_reducible exact ih0 _ _ _ _ _ _ _)
      | (with_reducible exact LeO.refl _)
      | (with_reducible exact LeO.none _)
      | (with_reducible refine LeO.ite ?_ ?_)
      | (with_reducible refine LeO.bind ?_ (fun _ => ?_))
      | exact ih0 _ _ _ _ _ _ _
      | exact LeO.none _
      | refine LeO.ite ?_ ?_
      | refine LeO.bind ?_ (fun _ => ?_)
set_option maxHeartbeats 8000000 in
set_option maxRecDepth 100000 in
theorem sextet_Coder_Decode.calls (k : Nat) (g : Nat) (a0 : ByteArray) (a1 : ByteArray) (r1 : ByteArray) (r2 : Int) (w : World) (hcg : ∀ b : Nat, b < 256 → w.cell? ⟨g, 1 + b, none⟩ = some (.int .i64 (sxVal a0.data.toList b : Nat))) (h : sextet_Coder_Decode.f k a0 a1 = some (r1, r2)) :
    Calls Try.prog 56 #[.pointer (some ⟨g, 0, none⟩), .string a1] w fun e w' => e = .returned (.tuple #[.string r1, .int .i64 r2]) ∧ Below w.heap.size w w' := by
  have HCG := Aside0.mk hcg
  clear hcg
  have HB := Aside0.mk (Below.refl w.heap.size w)
  have H : (sextet_Coder_Decode.l0 k a0 a1 ([] : List Int) 0 0 (a1.size : Int) 0) = some (r1, r2) := h
  clear h
  have H' := Aside0.mk H
  clear H
  go_enter Try.func56, Try.ntmps56
  go_wp2
  go_loopg [6, 7, 8, 15] k (fun kq v6 v7 v8 v15 w' => ∃ (x6_1 : List Int) (x7_1 : Int) (x8_1 : Int) (x13_1 : Int), v7 = .int .u32 x7_1 ∧ v8 = .int .i64 x8_1 ∧ v15 = .int .i64 x13_1 ∧ Aside0 (sextet_Coder_Decode.l0 kq a0 a1 x6_1 x7_1 x8_1 (a1.size : Int) x13_1 = some (r1, r2)) ∧ Aside0 (kq ≤ k) ∧ Aside0 (Kd.R (Kd.int .u8) 5 w' w.heap.size (fun _ => True) v6 x6_1) ∧ Aside0 (Below w.heap.size w w'))
  case atStart => exact ⟨(([] : List Int)), (0), (0), (0), (by first | rfl | (simp; done) | (simp [*]; done)), (by first | rfl | (simp; done) | (simp [*]; done)), (by first | rfl | (simp; done) | (simp [*]; done)), H', ⟨Nat.le_refl _⟩, ⟨by first | exact Kd.R_nil _ _ _ _ _ | exact Kd.N_nil _ _ _ _ _ | exact Kd.V_nil _ _ _ _ _ | exact Kd.Q_nil _ _ _ _ _ | exact Kd.S_nil _ _ _ _ _⟩, ⟨by repeat (first | (with_reducible first | exact HB.out | apply below_alloc | apply pw_below_drewN | apply below_drew1) | exact HB.out)⟩⟩
  case round =>
    clear H'
    try clear p2
    obtain ⟨x6_1, x7_1, x8_1, x13_1, rfl, rfl, rfl, HA, HK1, HO_6, HB⟩ := hrel
    cases gk with
    | zero => exact absurd HA.out (by simp [sextet_Coder_Decode.l0])
    | succ k1 =>
      have H := HA.out
      clear HA
      simp only [sextet_Coder_Decode.l0] at H
      by_cases c3 : x13_1 < (a1.size : Int)
      · rw [if_pos c3] at H
        have c3b0 : decide (x13_1 < (a1.size : Int)) = true := decide_eq_true c3
        clear c3
        by_cases c4 : 0 ≤ x13_1
        · rw [if_pos c4] at H
          have c4b0 : decide (0 ≤ x13_1) = true := decide_eq_true c4
          clear c4
          by_cases c5 : x13_1 < (a1.size : Int)
          · rw [if_pos c5] at H
            have c5b0 : decide (x13_1 < (a1.size : Int)) = true := decide_eq_true c5
            clear c5
            replace H := Option.bind_eq_some_iff.mp H
            obtain ⟨t101, A70, H⟩ := H
            replace H : (if t101 = 0 then (some ((⟨#[]⟩ : ByteArray), 8)) else (if (wrap64 (x8_1 + 6)) ≥ 8 then (if 0 ≤ (wrap64 ((wrap64 (x8_1 + 6)) - 8)) then (if x6_1.length < 140737488355328 then (sextet_Coder_Decode.l0 k1 a0 a1 (x6_1 ++ [(shr .u32 (Go.bits .or .u32 ((x7_1 * 64) % 4294967296) ((wrap64 (t101 - 1)) % 4294967296)) (wrap64 ((wrap64 (x8_1 + 6)) - 8))) % 256]) (Go.bits .or .u32 ((x7_1 * 64) % 4294967296) ((wrap64 (t101 - 1)) % 4294967296)) (wrap64 ((wrap64 (x8_1 + 6)) - 8)) (a1.size : Int) (wrap64 (x13_1 + 1))) else (none)) else (none)) else (sextet_Coder_Decode.l0 k1 a0 a1 x6_1 (Go.bits .or .u32 ((x7_1 * 64) % 4294967296) ((wrap64 (t101 - 1)) % 4294967296)) (wrap64 (x8_1 + 6)) (a1.size : Int) (wrap64 (x13_1 + 1))))) = some (r1, r2) := H
            have A7 := Aside0.mk A70
            clear A70
            by_cases c8 : t101 = 0
            · rw [if_pos c8] at H
              have c8b0 : (t101 == 0) = true := beq_iff_eq.mpr c8
              have c8b1 : (t101 != 0) = false := bne_eq_false_iff_eq.mpr c8
              clear c8
              simp only [Option.some.injEq, Prod.mk.injEq] at H
              obtain ⟨rfl, rfl⟩ := H
              have p6 : 0 ≤ (x13_1 : Int) := of_decide_eq_true (by first | (with_reducible assumption) | assumption)
              have q6 : x13_1 < (a1.size : Int) := of_decide_eq_true (by first | (with_reducible assumption) | assumption)
              have hx6 := bt_at a1 x13_1
              replace p6 := eq_true p6
              replace q6 := eq_true q6
              have hb0_ := (bt_range a1 x13_1).1
              have hb1_ := (bt_range a1 x13_1).2
              have ht_ : sxV a0 (bt a1 x13_1) = t101 := Option.some.inj A7.out
              have hcg := (HB.out.cell (World.block_lt_of_cell? w _ (HCG.out (bt a1 x13_1).toNat (by omega)))).trans (HCG.out (bt a1 x13_1).toNat (by omega))
              change wr.cell? _ = some (.int .i64 (sxV a0 (bt a1 x13_1))) at hcg
              rw [ht_] at hcg
              clear ht_
              replace HO_6 : Aside0 (Kd.R (Kd.int .u8) 5 wr.drew w.heap.size (fun _ => True) u6 x6_1) := ⟨Kd.R_drew HO_6.out⟩
              replace HB : Aside0 (Below w.heap.size w wr.drew) := ⟨below_drew HB.out⟩
              go_wp2
              refine start_ (n := 9) (S := (fun W : World => W.cell? ⟨g, 1 + (bt a1 x13_1).toNat, none⟩ = some (.int .i64 t101))) (ds := []) #[false, false, false, false, false, false, false, false, false] (by kernel_rfl) rfl rfl hcg (fun hHeld => ?_)
              generalize wr.drew = wd_ at HO_6 HB hHeld ⊢
              refine pure_ (i := 0) (N := some 18) (v := ?_) (a' := ?_) #[true, false, false, false, false, false, false, false, false] rfl rfl (by kernel_rfl) (fun _ _ _ h => h) (Or.inl ⟨by rfl, ?_⟩) ?_ ?_
              rotate_left
              · intro w'
                go_simp
                try with_reducible rfl
              rotate_left
              · simp only [Act.put, List.setIfInBounds_toArray, List.set_cons_zero, List.set_cons_succ, i64_w, i32_w]
                rfl
              refine pure_ (i := 1) (N := some 19) (v := ?_) (a' := ?_) #[true, true, false, false, false, false, false, false, false] rfl rfl (by kernel_rfl) (fun _ _ _ h => h) (Or.inl ⟨by rfl, ?_⟩) ?_ ?_
              rotate_left
              · intro w'
                go_simp
                try with_reducible rfl
              rotate_left
              · simp only [Act.put, List.setIfInBounds_toArray, List.set_cons_zero, List.set_cons_succ, i64_w, i32_w]
                rfl
              refine pure_ (i := 2) (N := some 20) (v := ?_) (a' := ?_) #[true, true, true, false, false, false, false, false, false] rfl rfl (by kernel_rfl) (fun _ _ _ h => h) (Or.inl ⟨by rfl, ?_⟩) ?_ ?_
              rotate_left
              · intro w'
                go_simp
                try with_reducible rfl
              rotate_left
              · simp only [Act.put, List.setIfInBounds_toArray, List.set_cons_zero, List.set_cons_succ, i64_w, i32_w]
                rfl
              refine pure_ (i := 3) (N := some 21) (v := ?_) (a' := ?_) #[true, true, true, true, false, false, false, false, false] rfl rfl (by kernel_rfl) (fun _ _ _ h => h) (Or.inl ⟨by rfl, ?_⟩) ?_ ?_
              rotate_left
              · intro w'
                go_simp
                try with_reducible rfl
              rotate_left
              · simp only [Act.put, List.setIfInBounds_toArray, List.set_cons_zero, List.set_cons_succ, i64_w, i32_w]
                rfl
              refine pure_ (i := 4) (N := some 22) (v := ?_) (a' := ?_) #[true, true, true, true, true, false, false, false, false] rfl rfl (by kernel_rfl) (fun _ _ _ h => h) (Or.inl ⟨by rfl, ?_⟩) ?_ ?_
              rotate_left
              · intro w'
                go_simp
                try with_reducible rfl
              rotate_left
              · simp only [Act.put, List.setIfInBounds_toArray, List.set_cons_zero, List.set_cons_succ, i64_w, i32_w]
                rfl
              refine pure_ (i := 5) (N := some 23) (v := ?_) (a' := ?_) #[true, true, true, true, true, true, false, false, false] rfl rfl (by kernel_rfl) (fun _ _ _ h => h) (Or.inl ⟨by rfl, ?_⟩) ?_ ?_
              rotate_left
              · intro w'
                go_simp
                try with_reducible rfl
              rotate_left
              · simp only [Act.put, List.setIfInBounds_toArray, List.set_cons_zero, List.set_cons_succ, i64_w, i32_w]
                rfl
              refine pure_ (i := 6) (N := some 24) (v := ?_) (a' := ?_) #[true, true, true, true, true, true, true, false, false] rfl rfl (by kernel_rfl) (fun _ _ _ h => h) (Or.inl ⟨by rfl, ?_⟩) ?_ ?_
              rotate_left
              · intro w'
                go_simp
                try with_reducible rfl
              rotate_left
              · simp only [Act.put, List.setIfInBounds_toArray, List.set_cons_zero, List.set_cons_succ, i64_w, i32_w]
                rfl
              refine take_ (i := 7) (N := some 25) (v := ?_) (a' := ?_) #[true, true, true, true, true, true, true, true, false] rfl rfl (by kernel_rfl) (fun _ _ _ h => h) (Or.inl ⟨by rfl, ?_⟩) hHeld ?_ ?_
              rotate_left
              · intro w' hSw
                (try simp only [] at hSw)
                (repeat obtain ⟨hs_, hSw⟩ := hSw)
                go_simp
                try with_reducible rfl
              rotate_left
              · simp only [Act.put, List.setIfInBounds_toArray, List.set_cons_zero, List.set_cons_succ, i64_w, i32_w]
                rfl
              refine pure_ (i := 8) (N := some 10) (v := ?_) (a' := ?_) #[true, true, true, true, true, true, true, true, true] rfl rfl (by kernel_rfl) (fun _ _ _ h => h) (Or.inl ⟨by rfl, ?_⟩) ?_ ?_
              rotate_left
              · intro w'
                go_simp
                try with_reducible rfl
              rotate_left
              · simp only [Act.put, List.setIfInBounds_toArray, List.set_cons_zero, List.set_cons_succ, i64_w, i32_w]
                rfl
              refine done_ (by kernel_rfl) ?_
              clear hcg hHeld
              go_wp2
              go_ret2
              exact ⟨by first | rfl | (simp [errW_none, errW_some] <;> rfl) | (simp [*, errW_none, errW_some] <;> rfl), by repeat (first | (with_reducible first | exact HB.out | apply below_alloc | apply pw_below_drewN | apply below_drew1) | exact HB.out)⟩
            · rw [if_neg c8] at H
              have c8b0 : (t101 == 0) = false := beq_eq_false_iff_ne.mpr c8
              have c8b1 : (t101 != 0) = true := bne_iff_ne.mpr c8
              by_cases c9 : (wrap64 (x8_1 + 6)) ≥ 8
              · rw [if_pos c9] at H
                have c9b0 : decide (8 ≤ (wrap64 (x8_1 + 6))) = true := decide_eq_true c9
                clear c9
                obtain ⟨ji10, hji10⟩ : ∃ j_ : Int, (wrap64 ((wrap64 (x8_1 + 6)) - 8)) = j_ := ⟨_, rfl⟩
                replace H : (if 0 ≤ (ji10) then (if x6_1.length < 140737488355328 then (sextet_Coder_Decode.l0 k1 a0 a1 (x6_1 ++ [(shr .u32 (Go.bits .or .u32 ((x7_1 * 64) % 4294967296) ((wrap64 (t101 - 1)) % 4294967296)) (ji10)) % 256]) (Go.bits .or .u32 ((x7_1 * 64) % 4294967296) ((wrap64 (t101 - 1)) % 4294967296)) ji10 (a1.size : Int) (wrap64 (x13_1 + 1))) else (none)) else (none)) = some (r1, r2) := by first | (rw [hji10] at H; exact H) | (simp only [hji10] at H ⊢; exact H)
                (try rw [hji10] at A7)
                have hji10w : (IntKind.i64.wrap ((wrap64 (x8_1 + 6)) - 8)) = ji10 := (i64_w _).trans hji10
                by_cases c11 : 0 ≤ (ji10)
                · rw [if_pos c11] at H
                  have c11b0 := eq_true c11
                  have c11b1 : decide (0 ≤ (ji10)) = true := decide_eq_true c11
                  clear c11
                  obtain ⟨ji12, hji12⟩ : ∃ j_ : Int, (shr .u32 (Go.bits .or .u32 ((x7_1 * 64) % 4294967296) ((wrap64 (t101 - 1)) % 4294967296)) (ji10)) = j_ := ⟨_, rfl⟩
                  replace H : (if x6_1.length < 140737488355328 then (sextet_Coder_Decode.l0 k1 a0 a1 (x6_1 ++ [(ji12) % 256]) (Go.bits .or .u32 ((x7_1 * 64) % 4294967296) ((wrap64 (t101 - 1)) % 4294967296)) ji10 (a1.size : Int) (wrap64 (x13_1 + 1))) else (none)) = some (r1, r2) := by first | (rw [hji12] at H; exact H) | (simp only [hji12] at H ⊢; exact H)
                  (try rw [hji12] at A7)
                  have hji12_ : ((Go.bits .or .u32 ((x7_1 * 64) % 4294967296) ((wrap64 (t101 - 1)) % 4294967296)) / 2 ^ min (ji10).toNat 32) = ji12 := hji12
                  have hji12z : (ji10) ≤ 32 → ((Go.bits .or .u32 ((x7_1 * 64) % 4294967296) ((wrap64 (t101 - 1)) % 4294967296)) / 2 ^ (ji10).toNat) = ji12 := shr_small hji12
                  by_cases c13 : x6_1.length < 140737488355328
                  · rw [if_pos c13] at H
                    have LMc13 := Aside0.mk c13
                    clear c13
                    obtain ⟨y102, hy102⟩ : ∃ y_ : List Int, y_ = (x6_1 ++ [(ji12) % 256]) := ⟨_, rfl⟩
                    replace H : (sextet_Coder_Decode.l0 k1 a0 a1 y102 (Go.bits .or .u32 ((x7_1 * 64) % 4294967296) ((wrap64 (t101 - 1)) % 4294967296)) ji10 (a1.size : Int) (wrap64 (x13_1 + 1))) = some (r1, r2) := by first | (rw [hy102]; with_reducible exact H) | (have H2_ := (Option.bind_some _ _).symm.trans H; rw [hy102]; with_reducible exact H2_) | (have H2_ := (Option.bind_some _ _).symm.trans H; with_reducible exact H2_) | with_reducible exact H | (rw [hy102]; exact H) | exact H
                    have Ny102 := Aside0.mk hy102
                    clear hy102
                    have H' := Aside0.mk H
                    clear H
                    have p6 : 0 ≤ (x13_1 : Int) := of_decide_eq_true (by first | (with_reducible assumption) | assumption)
                    have q6 : x13_1 < (a1.size : Int) := of_decide_eq_true (by first | (with_reducible assumption) | assumption)
                    have hx6 := bt_at a1 x13_1
                    replace p6 := eq_true p6
                    replace q6 := eq_true q6
                    have hb0_ := (bt_range a1 x13_1).1
                    have hb1_ := (bt_range a1 x13_1).2
                    have ht_ : sxV a0 (bt a1 x13_1) = t101 := Option.some.inj A7.out
                    have hcg := (HB.out.cell (World.block_lt_of_cell? w _ (HCG.out (bt a1 x13_1).toNat (by omega)))).trans (HCG.out (bt a1 x13_1).toNat (by omega))
                    change wr.cell? _ = some (.int .i64 (sxV a0 (bt a1 x13_1))) at hcg
                    rw [ht_] at hcg
                    clear ht_
                    replace HO_6 : Aside0 (Kd.R (Kd.int .u8) 5 wr.drew w.heap.size (fun _ => True) u6 x6_1) := ⟨Kd.R_drew HO_6.out⟩
                    replace HB : Aside0 (Below w.heap.size w wr.drew) := ⟨below_drew HB.out⟩
                    go_wp2
                    refine start_ (n := 9) (S := (fun W : World => W.cell? ⟨g, 1 + (bt a1 x13_1).toNat, none⟩ = some (.int .i64 t101))) (ds := []) #[false, false, false, false, false, false, false, false, false] (by kernel_rfl) rfl rfl hcg (fun hHeld => ?_)
                    generalize wr.drew = wd_ at HO_6 HB hHeld ⊢
                    refine pure_ (i := 0) (N := some 18) (v := ?_) (a' := ?_) #[true, false, false, false, false, false, false, false, false] rfl rfl (by kernel_rfl) (fun _ _ _ h => h) (Or.inl ⟨by rfl, ?_⟩) ?_ ?_
                    rotate_left
                    · intro w'
                      go_simp
                      try with_reducible rfl
                    rotate_left
                    · simp only [Act.put, List.setIfInBounds_toArray, List.set_cons_zero, List.set_cons_succ, i64_w, i32_w]
                      rfl
                    refine pure_ (i := 1) (N := some 19) (v := ?_) (a' := ?_) #[true, true, false, false, false, false, false, false, false] rfl rfl (by kernel_rfl) (fun _ _ _ h => h) (Or.inl ⟨by rfl, ?_⟩) ?_ ?_
                    rotate_left
                    · intro w'
                      go_simp
                      try with_reducible rfl
                    rotate_left
                    · simp only [Act.put, List.setIfInBounds_toArray, List.set_cons_zero, List.set_cons_succ, i64_w, i32_w]
                      rfl
                    refine pure_ (i := 2) (N := some 20) (v := ?_) (a' := ?_) #[true, true, true, false, false, false, false, false, false] rfl rfl (by kernel_rfl) (fun _ _ _ h => h) (Or.inl ⟨by rfl, ?_⟩) ?_ ?_
                    rotate_left
                    · intro w'
                      go_simp
                      try with_reducible rfl
                    rotate_left
                    · simp only [Act.put, List.setIfInBounds_toArray, List.set_cons_zero, List.set_cons_succ, i64_w, i32_w]
                      rfl
                    refine pure_ (i := 3) (N := some 21) (v := ?_) (a' := ?_) #[true, true, true, true, false, false, false, false, false] rfl rfl (by kernel_rfl) (fun _ _ _ h => h) (Or.inl ⟨by rfl, ?_⟩) ?_ ?_
                    rotate_left
                    · intro w'
                      go_simp
                      try with_reducible rfl
                    rotate_left
                    · simp only [Act.put, List.setIfInBounds_toArray, List.set_cons_zero, List.set_cons_succ, i64_w, i32_w]
                      rfl
                    refine pure_ (i := 4) (N := some 22) (v := ?_) (a' := ?_) #[true, true, true, true, true, false, false, false, false] rfl rfl (by kernel_rfl) (fun _ _ _ h => h) (Or.inl ⟨by rfl, ?_⟩) ?_ ?_
                    rotate_left
                    · intro w'
                      go_simp
                      try with_reducible rfl
                    rotate_left
                    · simp only [Act.put, List.setIfInBounds_toArray, List.set_cons_zero, List.set_cons_succ, i64_w, i32_w]
                      rfl
                    refine pure_ (i := 5) (N := some 23) (v := ?_) (a' := ?_) #[true, true, true, true, true, true, false, false, false] rfl rfl (by kernel_rfl) (fun _ _ _ h => h) (Or.inl ⟨by rfl, ?_⟩) ?_ ?_
                    rotate_left
                    · intro w'
                      go_simp
                      try with_reducible rfl
                    rotate_left
                    · simp only [Act.put, List.setIfInBounds_toArray, List.set_cons_zero, List.set_cons_succ, i64_w, i32_w]
                      rfl
                    refine pure_ (i := 6) (N := some 24) (v := ?_) (a' := ?_) #[true, true, true, true, true, true, true, false, false] rfl rfl (by kernel_rfl) (fun _ _ _ h => h) (Or.inl ⟨by rfl, ?_⟩) ?_ ?_
                    rotate_left
                    · intro w'
                      go_simp
                      try with_reducible rfl
                    rotate_left
                    · simp only [Act.put, List.setIfInBounds_toArray, List.set_cons_zero, List.set_cons_succ, i64_w, i32_w]
                      rfl
                    refine take_ (i := 7) (N := some 25) (v := ?_) (a' := ?_) #[true, true, true, true, true, true, true, true, false] rfl rfl (by kernel_rfl) (fun _ _ _ h => h) (Or.inl ⟨by rfl, ?_⟩) hHeld ?_ ?_
                    rotate_left
                    · intro w' hSw
                      (try simp only [] at hSw)
                      (repeat obtain ⟨hs_, hSw⟩ := hSw)
                      go_simp
                      try with_reducible rfl
                    rotate_left
                    · simp only [Act.put, List.setIfInBounds_toArray, List.set_cons_zero, List.set_cons_succ, i64_w, i32_w]
                      rfl
                    refine pure_ (i := 8) (N := some 10) (v := ?_) (a' := ?_) #[true, true, true, true, true, true, true, true, true] rfl rfl (by kernel_rfl) (fun _ _ _ h => h) (Or.inl ⟨by rfl, ?_⟩) ?_ ?_
                    rotate_left
                    · intro w'
                      go_simp
                      try with_reducible rfl
                    rotate_left
                    · simp only [Act.put, List.setIfInBounds_toArray, List.set_cons_zero, List.set_cons_succ, i64_w, i32_w]
                      rfl
                    refine done_ (by kernel_rfl) ?_
                    clear hcg hHeld
                    go_wp2_with (((with_reducible refine gate_builtin (b := .append) (xs := #[.tmp 40, .tmp 45]) rfl ?_); at_builtin; refine Kd.R_append (Kd.int .u8) (w0 := w) w.heap.size rfl (.tmp 40) (.tmp 45) 65 5 (.int .u8 0) 1 rfl Try.underlying65 info5 rfl (by decide) (by omega) u6 x6_1 ((ji12) % 256) [.int .u8 ((ji12) % 256)] (fun _ => True) (fun _ => False) rfl rfl ?aP (fun _ hk => hk.elim) ?aF ?aO ?aB ?aS ?aL ?_; (case aP => exact rfl); (case aB => exact (by repeat (first | (with_reducible first | exact HB.out | apply below_alloc | apply pw_below_drewN | apply below_drew1) | exact HB.out))); (case aF => exact (fun _ _ => trivial)); (case aO => exact (by (with_reducible repeat (first | apply Kd.R_alloc | apply Kd.R_drewN | apply Kd.R_drew)); exact HO_6.out)); (case aS => exact (below_size (by repeat (first | (with_reducible first | exact HB.out | apply below_alloc | apply pw_below_drewN | apply below_drew1) | exact HB.out)))); (case aL => have := LMc13.out; omega); intro v103 w14 ho hb hg hat; rw [← Ny102.out] at ho; have n0_ := Aside0.mk (hb); have n1_ := Aside0.mk (ho); clear HB; clear HO_6; have HB := n0_; have HO104 := n1_; clear n0_ n1_; clear ho hb hg hat))
                    go_roundg k1
                    case measure => have := HK1.out; omega
                    case rel => exact ⟨(y102), (Go.bits .or .u32 ((x7_1 * 64) % 4294967296) ((wrap64 (t101 - 1)) % 4294967296)), (ji10), (wrap64 (x13_1 + 1)), (by first | rfl | (simp; done) | (simp [*]; done)), (by first | rfl | (simp; done) | (simp only [← hji10] <;> (first | rfl | simp)) | (simp [*]; done)), (by first | rfl | (simp; done) | (simp [*]; done)), H', ⟨by have := HK1.out; omega⟩, ⟨by (with_reducible repeat (first | apply Kd.R_alloc | apply Kd.R_drewN | apply Kd.R_drew)); exact HO104.out⟩, ⟨by repeat (first | (with_reducible first | exact HB.out | apply below_alloc | apply pw_below_drewN | apply below_drew1) | exact HB.out)⟩⟩
                  · rw [if_neg c13] at H
                    exact absurd H (by simp)
                · rw [if_neg c11] at H
                  exact absurd H (by simp)
              · rw [if_neg c9] at H
                have c9b0 : decide (8 ≤ (wrap64 (x8_1 + 6))) = false := decide_eq_false c9
                clear c9
                have H' := Aside0.mk H
                clear H
                have p6 : 0 ≤ (x13_1 : Int) := of_decide_eq_true (by first | (with_reducible assumption) | assumption)
                have q6 : x13_1 < (a1.size : Int) := of_decide_eq_true (by first | (with_reducible assumption) | assumption)
                have hx6 := bt_at a1 x13_1
                replace p6 := eq_true p6
                replace q6 := eq_true q6
                have hb0_ := (bt_range a1 x13_1).1
                have hb1_ := (bt_range a1 x13_1).2
                have ht_ : sxV a0 (bt a1 x13_1) = t101 := Option.some.inj A7.out
                have hcg := (HB.out.cell (World.block_lt_of_cell? w _ (HCG.out (bt a1 x13_1).toNat (by omega)))).trans (HCG.out (bt a1 x13_1).toNat (by omega))
                change wr.cell? _ = some (.int .i64 (sxV a0 (bt a1 x13_1))) at hcg
                rw [ht_] at hcg
                clear ht_
                replace HO_6 : Aside0 (Kd.R (Kd.int .u8) 5 wr.drew w.heap.size (fun _ => True) u6 x6_1) := ⟨Kd.R_drew HO_6.out⟩
                replace HB : Aside0 (Below w.heap.size w wr.drew) := ⟨below_drew HB.out⟩
                go_wp2
                refine start_ (n := 9) (S := (fun W : World => W.cell? ⟨g, 1 + (bt a1 x13_1).toNat, none⟩ = some (.int .i64 t101))) (ds := []) #[false, false, false, false, false, false, false, false, false] (by kernel_rfl) rfl rfl hcg (fun hHeld => ?_)
                generalize wr.drew = wd_ at HO_6 HB hHeld ⊢
                refine pure_ (i := 0) (N := some 18) (v := ?_) (a' := ?_) #[true, false, false, false, false, false, false, false, false] rfl rfl (by kernel_rfl) (fun _ _ _ h => h) (Or.inl ⟨by rfl, ?_⟩) ?_ ?_
                rotate_left
                · intro w'
                  go_simp
                  try with_reducible rfl
                rotate_left
                · simp only [Act.put, List.setIfInBounds_toArray, List.set_cons_zero, List.set_cons_succ, i64_w, i32_w]
                  rfl
                refine pure_ (i := 1) (N := some 19) (v := ?_) (a' := ?_) #[true, true, false, false, false, false, false, false, false] rfl rfl (by kernel_rfl) (fun _ _ _ h => h) (Or.inl ⟨by rfl, ?_⟩) ?_ ?_
                rotate_left
                · intro w'
                  go_simp
                  try with_reducible rfl
                rotate_left
                · simp only [Act.put, List.setIfInBounds_toArray, List.set_cons_zero, List.set_cons_succ, i64_w, i32_w]
                  rfl
                refine pure_ (i := 2) (N := some 20) (v := ?_) (a' := ?_) #[true, true, true, false, false, false, false, false, false] rfl rfl (by kernel_rfl) (fun _ _ _ h => h) (Or.inl ⟨by rfl, ?_⟩) ?_ ?_
                rotate_left
                · intro w'
                  go_simp
                  try with_reducible rfl
                rotate_left
                · simp only [Act.put, List.setIfInBounds_toArray, List.set_cons_zero, List.set_cons_succ, i64_w, i32_w]
                  rfl
                refine pure_ (i := 3) (N := some 21) (v := ?_) (a' := ?_) #[true, true, true, true, false, false, false, false, false] rfl rfl (by kernel_rfl) (fun _ _ _ h => h) (Or.inl ⟨by rfl, ?_⟩) ?_ ?_
                rotate_left
                · intro w'
                  go_simp
                  try with_reducible rfl
                rotate_left
                · simp only [Act.put, List.setIfInBounds_toArray, List.set_cons_zero, List.set_cons_succ, i64_w, i32_w]
                  rfl
                refine pure_ (i := 4) (N := some 22) (v := ?_) (a' := ?_) #[true, true, true, true, true, false, false, false, false] rfl rfl (by kernel_rfl) (fun _ _ _ h => h) (Or.inl ⟨by rfl, ?_⟩) ?_ ?_
                rotate_left
                · intro w'
                  go_simp
                  try with_reducible rfl
                rotate_left
                · simp only [Act.put, List.setIfInBounds_toArray, List.set_cons_zero, List.set_cons_succ, i64_w, i32_w]
                  rfl
                refine pure_ (i := 5) (N := some 23) (v := ?_) (a' := ?_) #[true, true, true, true, true, true, false, false, false] rfl rfl (by kernel_rfl) (fun _ _ _ h => h) (Or.inl ⟨by rfl, ?_⟩) ?_ ?_
                rotate_left
                · intro w'
                  go_simp
                  try with_reducible rfl
                rotate_left
                · simp only [Act.put, List.setIfInBounds_toArray, List.set_cons_zero, List.set_cons_succ, i64_w, i32_w]
                  rfl
                refine pure_ (i := 6) (N := some 24) (v := ?_) (a' := ?_) #[true, true, true, true, true, true, true, false, false] rfl rfl (by kernel_rfl) (fun _ _ _ h => h) (Or.inl ⟨by rfl, ?_⟩) ?_ ?_
                rotate_left
                · intro w'
                  go_simp
                  try with_reducible rfl
                rotate_left
                · simp only [Act.put, List.setIfInBounds_toArray, List.set_cons_zero, List.set_cons_succ, i64_w, i32_w]
                  rfl
                refine take_ (i := 7) (N := some 25) (v := ?_) (a' := ?_) #[true, true, true, true, true, true, true, true, false] rfl rfl (by kernel_rfl) (fun _ _ _ h => h) (Or.inl ⟨by rfl, ?_⟩) hHeld ?_ ?_
                rotate_left
                · intro w' hSw
                  (try simp only [] at hSw)
                  (repeat obtain ⟨hs_, hSw⟩ := hSw)
                  go_simp
                  try with_reducible rfl
                rotate_left
                · simp only [Act.put, List.setIfInBounds_toArray, List.set_cons_zero, List.set_cons_succ, i64_w, i32_w]
                  rfl
                refine pure_ (i := 8) (N := some 10) (v := ?_) (a' := ?_) #[true, true, true, true, true, true, true, true, true] rfl rfl (by kernel_rfl) (fun _ _ _ h => h) (Or.inl ⟨by rfl, ?_⟩) ?_ ?_
                rotate_left
                · intro w'
                  go_simp
                  try with_reducible rfl
                rotate_left
                · simp only [Act.put, List.setIfInBounds_toArray, List.set_cons_zero, List.set_cons_succ, i64_w, i32_w]
                  rfl
                refine done_ (by kernel_rfl) ?_
                clear hcg hHeld
                go_wp2
                go_roundg k1
                case measure => have := HK1.out; omega
                case rel => exact ⟨(x6_1), (Go.bits .or .u32 ((x7_1 * 64) % 4294967296) ((wrap64 (t101 - 1)) % 4294967296)), (wrap64 (x8_1 + 6)), (wrap64 (x13_1 + 1)), (by first | rfl | (simp; done) | (simp [*]; done)), (by first | rfl | (simp; done) | (simp [*]; done)), (by first | rfl | (simp; done) | (simp [*]; done)), H', ⟨by have := HK1.out; omega⟩, ⟨by (with_reducible repeat (first | apply Kd.R_alloc | apply Kd.R_drewN | apply Kd.R_drew)); exact HO_6.out⟩, ⟨by repeat (first | (with_reducible first | exact HB.out | apply below_alloc | apply pw_below_drewN | apply below_drew1) | exact HB.out)⟩⟩
          · rw [if_neg c5] at H
            exact absurd H (by simp)
        · rw [if_neg c4] at H
          exact absurd H (by simp)
      · rw [if_neg c3] at H
        have c3b0 : decide (x13_1 < (a1.size : Int)) = false := decide_eq_false c3
        clear c3
        by_cases c15 : ((a1.size : Int) % 4) = 1
        · rw [if_pos c15] at H
          have c15b0 : (((a1.size : Int) % 4) == 1) = true := beq_iff_eq.mpr c15
          have c15b1 : (((a1.size : Int) % 4) != 1) = false := bne_eq_false_iff_eq.mpr c15
          clear c15
          simp only [Option.some.injEq, Prod.mk.injEq] at H
          obtain ⟨rfl, rfl⟩ := H
          go_wp2
          go_ret2
          exact ⟨by first | rfl | (simp [errW_none, errW_some] <;> rfl) | (simp [*, errW_none, errW_some] <;> rfl), by repeat (first | (with_reducible first | exact HB.out | apply below_alloc | apply pw_below_drewN | apply below_drew1) | exact HB.out)⟩
        · rw [if_neg c15] at H
          have c15b0 : (((a1.size : Int) % 4) == 1) = false := beq_eq_false_iff_ne.mpr c15
          have c15b1 : (((a1.size : Int) % 4) != 1) = true := bne_iff_ne.mpr c15
          by_cases c16 : 0 ≤ x8_1
          · rw [if_pos c16] at H
            have c16b0 := eq_true c16
            have c16b1 : decide (0 ≤ x8_1) = true := decide_eq_true c16
            clear c16
            obtain ⟨ji17, hji17⟩ : ∃ j_ : Int, (shl .u32 1 x8_1) = j_ := ⟨_, rfl⟩
            replace H : (if (Go.bits .and .u32 x7_1 (((ji17) - 1) % 4294967296)) = 0 then (some (strOfNums x6_1, 0)) else (some ((⟨#[]⟩ : ByteArray), 5))) = some (r1, r2) := by first | (rw [hji17] at H; exact H) | (simp only [hji17] at H ⊢; exact H)
            have hji17_ : (IntKind.u32.wrap (1 * 2 ^ min x8_1.toNat 32)) = ji17 := hji17
            have hji17z : x8_1 ≤ 32 → (IntKind.u32.wrap (1 * 2 ^ x8_1.toNat)) = ji17 := shl_small hji17
            have hji17u : (IntKind.u32.wrap (2 ^ min x8_1.toNat 32)) = ji17 := by have h_ := hji17_; rw [Int.one_mul] at h_; exact h_
            have hji17v : x8_1 ≤ 32 → (IntKind.u32.wrap (2 ^ x8_1.toNat)) = ji17 := fun hle_ => by have h_ := hji17z hle_; rw [Int.one_mul] at h_; exact h_
            by_cases c18 : (Go.bits .and .u32 x7_1 (((ji17) - 1) % 4294967296)) = 0
            · rw [if_pos c18] at H
              have c18b0 : ((Go.bits .and .u32 x7_1 (((ji17) - 1) % 4294967296)) == 0) = true := beq_iff_eq.mpr c18
              have c18b1 : ((Go.bits .and .u32 x7_1 (((ji17) - 1) % 4294967296)) != 0) = false := bne_eq_false_iff_eq.mpr c18
              clear c18
              simp only [Option.some.injEq, Prod.mk.injEq] at H
              obtain ⟨rfl, rfl⟩ := H
              have hcv19 := own_string (P := Try.prog) Try.underlying65 Try.underlying5 Try.underlying9 (Kd.own_of_R HO_6.out)
              go_wp2
              go_ret2
              exact ⟨by first | rfl | (simp [errW_none, errW_some] <;> rfl) | (simp only [← hji17]; first | rfl | (simp [errW_none, errW_some] <;> rfl)) | (simp [*, errW_none, errW_some] <;> rfl), by repeat (first | (with_reducible first | exact HB.out | apply below_alloc | apply pw_below_drewN | apply below_drew1) | exact HB.out)⟩
            · rw [if_neg c18] at H
              have c18b0 : ((Go.bits .and .u32 x7_1 (((ji17) - 1) % 4294967296)) == 0) = false := beq_eq_false_iff_ne.mpr c18
              have c18b1 : ((Go.bits .and .u32 x7_1 (((ji17) - 1) % 4294967296)) != 0) = true := bne_iff_ne.mpr c18
              simp only [Option.some.injEq, Prod.mk.injEq] at H
              obtain ⟨rfl, rfl⟩ := H
              go_wp2
              go_ret2
              exact ⟨by first | rfl | (simp [errW_none, errW_some] <;> rfl) | (simp only [← hji17]; first | rfl | (simp [errW_none, errW_some] <;> rfl)) | (simp [*, errW_none, errW_some] <;> rfl), by repeat (first | (with_reducible first | exact HB.out | apply below_alloc | apply pw_below_drewN | apply below_drew1) | exact HB.out)⟩
          · rw [if_neg c16] at H
            exact absurd H (by simp)
set_option maxRecDepth 100000 in
theorem sextet_Coder_Decode.nil (s : ByteArray) (w : World) : Calls Try.prog 56 #[.pointer none, .string s] w fun e w' => e = .returned (.tuple #[.string ⟨#[]⟩, .int .i64 11]) ∧ Drawn0 w w' := by
  go_enter Try.func56, Try.ntmps56
  go_wp2
  go_ret2
  exact ⟨rfl, Drawn0.refl _⟩

end Go.Proofs.Ytimgndceiibaeaa.Pall
