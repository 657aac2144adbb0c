-- PRINTED by print.py (a twelfth state) out of the translation. Not trusted: Lean checks it.
import Derived.Test.YtimgndceiibaeaaPallx0
import Derived.Test.YtimgndceiibaeaaPallx1
import Derived.Test.YtimgndceiibaeaaPallx2
import Derived.Test.YtimgndceiibaeaaPallx3
import Derived.Test.YtimgndceiibaeaaPallx4
import Derived.Test.YtimgndceiibaeaaPallx5
import Derived.Test.YtimgndceiibaeaaPallx6
import Derived.Test.YtimgndceiibaeaaPallx8
namespace Go.Proofs.Ytimgndceiibaeaa.Pall
open Go.RowKit Go.Proofs.YtimgndceiibaeaaW.PrintWords Go.Proofs.YtimgndceiibaeaaW.PrintLast Go.Proofs.YtimgndceiibaeaaW.PrintMore
attribute [local go_sem] max2_int min2_int max_two min_two max_three min_three max_four min_four   -- for this text's walks alone
set_option linter.unusedVariables false
set_option linter.unusedSimpArgs false

/-! ### sextet_Coder_Encode: function 57 -/
mutual
def sextet_Coder_Encode.l0 : Nat → ByteArray → List Int → Int → Int → List ByteArray → Int → Int → Option (ByteArray)
  | 0, _, _, _, _, _, _, _ => none
  | k + 1, x0, x5, x6, x7, x11, x12, x13 => if x13 < x12 then (if 0 ≤ x13 then (if x13 < (x11.length : Int) then (sextet_Coder_Encode.l1 k x0 x5 x6 x7 (rdOf ByteArray.empty x11 x13) x11 x12 x13 ((rdOf ByteArray.empty x11 x13).size : Int) 0) else (none)) else (none)) else (if x7 > 0 then (if 0 ≤ (wrap64 (6 - x7)) then (if 0 ≤ (Go.bits .and .u32 (shl .u32 x6 (wrap64 (6 - x7))) 63) then (if (Go.bits .and .u32 (shl .u32 x6 (wrap64 (6 - x7))) 63) < (x0.size : Int) then (if x5.length < 140737488355328 then (some (strOfNums (x5 ++ [bt x0 (Go.bits .and .u32 (shl .u32 x6 (wrap64 (6 - x7))) 63)]))) else (none)) else (none)) else (none)) else (none)) else (some (strOfNums x5)))
def sextet_Coder_Encode.l1 : Nat → ByteArray → List Int → Int → Int → ByteArray → List ByteArray → Int → Int → Int → Int → Option (ByteArray)
  | 0, _, _, _, _, _, _, _, _, _, _ => none
  | k + 1, x0, x5, x6, x7, x9, x11, x12, x13, x18, x19 => if x19 < x18 then (if 0 ≤ x19 then (if x19 < (x9.size : Int) then (sextet_Coder_Encode.l2 k x0 x5 (Go.bits .or .u32 ((x6 * 256) % 4294967296) ((bt x9 x19) % 4294967296)) (wrap64 (x7 + 8)) x9 x11 x12 x13 x18 x19) else (none)) else (none)) else (sextet_Coder_Encode.l0 k x0 x5 x6 x7 x11 x12 (wrap64 (x13 + 1)))
def sextet_Coder_Encode.l2 : Nat → ByteArray → List Int → Int → Int → ByteArray → List ByteArray → Int → Int → Int → Int → Option (ByteArray)
  | 0, _, _, _, _, _, _, _, _, _, _ => none
  | k + 1, x0, x5, x6, x7, x9, x11, x12, x13, x18, x19 => if x7 ≥ 6 then (if 0 ≤ (wrap64 (x7 - 6)) then (if 0 ≤ (Go.bits .and .u32 (shr .u32 x6 (wrap64 (x7 - 6))) 63) then (if (Go.bits .and .u32 (shr .u32 x6 (wrap64 (x7 - 6))) 63) < (x0.size : Int) then (if x5.length < 140737488355328 then (sextet_Coder_Encode.l2 k x0 (x5 ++ [bt x0 (Go.bits .and .u32 (shr .u32 x6 (wrap64 (x7 - 6))) 63)]) x6 (wrap64 (x7 - 6)) x9 x11 x12 x13 x18 x19) else (none)) else (none)) else (none)) else (none)) else (sextet_Coder_Encode.l1 k x0 x5 x6 x7 x9 x11 x12 x13 x18 (wrap64 (x19 + 1)))
end
def sextet_Coder_Encode.f (k : Nat) (a0 : ByteArray) (l1 : List ByteArray) : Option (ByteArray) := sextet_Coder_Encode.l0 k a0 ([] : List Int) 0 0 l1 (l1.length : Int) 0
theorem sextet_Coder_Encode.mono_l : ∀ k, (∀ y0 y1 y2 y3 y4 y5 y6, LeO (sextet_Coder_Encode.l0 k y0 y1 y2 y3 y4 y5 y6) (sextet_Coder_Encode.l0 (k + 1) y0 y1 y2 y3 y4 y5 y6)) ∧ (∀ y0 y1 y2 y3 y4 y5 y6 y7 y8 y9, LeO (sextet_Coder_Encode.l1 k y0 y1 y2 y3 y4 y5 y6 y7 y8 y9) (sextet_Coder_Encode.l1 (k + 1) y0 y1 y2 y3 y4 y5 y6 y7 y8 y9)) ∧ (∀ y0 y1 y2 y3 y4 y5 y6 y7 y8 y9, LeO (sextet_Coder_Encode.l2 k y0 y1 y2 y3 y4 y5 y6 y7 y8 y9) (sextet_Coder_Encode.l2 (k + 1) y0 y1 y2 y3 y4 y5 y6 y7 y8 y9))
  | 0 => ⟨fun _ _ _ _ _ _ _ r h => by simp [sextet_Coder_Encode.l0] at h, fun _ _ _ _ _ _ _ _ _ _ r h => by simp [sextet_Coder_Encode.l1] at h, fun _ _ _ _ _ _ _ _ _ _ r h => by simp [sextet_Coder_Encode.l2] at h⟩
  | k + 1 => by
    obtain ⟨ih0, ih1, ih2⟩ := sextet_Coder_Encode.mono_l k
    refine ⟨?_, ?_, ?_⟩
    · intro y0 y1 y2 y3 y4 y5 y6
      unfold sextet_Coder_Encode.l0
      repeat' first
      | (with_reducible exact ih0 _ _ _ _ _ _ _)
      | (with_reducible exact ih1 _ _ _ _ _ _ _ _ _ _)
      | (with_reducible exact ih2 _ _ _ _ _ _ _ _ _ _)
      | (with_reducible exact LeO.refl _)
      | (with_reducible exact LeO.none _)
      | (with_reducible refine LeO.ite ?_ ?_)
      | (with_reducible refine LeO.bind ?_ (fun _ => ?_))
      | exact ih0 _ _ _ _ _ _ _
      | exact ih1 _ _ _ _ _ _ _ _ _ _
      | exact ih2 _ _ _ _ _ _ _ _ _ _
      | exact LeO.none _
      | refine LeO.ite ?_ ?_
      | refine LeO.bind ?_ (fun _ => ?_)
    · intro y0 y1 y2 y3 y4 y5 y6 y7 y8 y9
      unfold sextet_Coder_Encode.l1
      repeat' first
      | (with_reducible exact ih0 _ _ _ _ _ _ _)
      | (with_reducible exact ih1 _ _ _ _ _ _ _ _ _ _)
      | (with_reducible exact ih2 _ _ _ _ _ _ _ _ _ _)
      | (with_reducible exact LeO.refl _)
      | (with_reducible exact LeO.none _)
      | (with_reducible refine LeO.ite ?_ ?_)
      | (with_reducible refine LeO.bind ?_ (fun _ => ?_))
      | exact ih0 _ _ _ _ _ _ _
      | exact ih1 _ _ _ _ _ _ _ _ _ _
      | exact ih2 _ _ _ _ _ _ _ _ _ _
      | exact LeO.none _
      | refine LeO.ite ?_ ?_
      | refine LeO.bind ?_ (fun _ => ?_)
    · intro y0 y1 y2 y3 y4 y5 y6 y7 y8 y9
      unfold sextet_Coder_Encode.l2
      repeat' first
      | (with_reducible exact ih0 _ _ _ _ _ _ _)
      | (with_reducible exact ih1 _ _ _ _ _ _ _ _ _ _)
      | (with_reducible exact ih2 _ _ _ _ _ _ _ _ _ _)
      | (with_reducible exact LeO.refl _)
      | (with_reducible exact LeO.none _)
      | (with_reducible refine LeO.ite ?_ ?_)
      | (with_reducible refine LeO.bind ?_ (fun _ => ?_))
      | exact ih0 _ _ _ _ _ _ _
      | exact ih1 _ _ _ _ _ _ _ _ _ _
      | exact ih2 _ _ _ _ _ _ _ _ _ _
      | exact LeO.none _
      | refine LeO.ite ?_ ?_
      | refine LeO.bind ?_ (fun _ => ?_)
theorem sextet_Coder_Encode.mono : ∀ a0 a1 k, LeO (sextet_Coder_Encode.f k a0 a1) (sextet_Coder_Encode.f (k + 1) a0 a1) := by
  intro a0 a1 k
  obtain ⟨ih0, ih1, ih2⟩ := sextet_Coder_Encode.mono_l k
  unfold sextet_Coder_Encode.f
  repeat' first
      | (with_reducible exact ih0 _ _ _ _ _ _ _)
      | (with_reducible exact ih1 _ _ _ _ _ _ _ _ _ _)
      | (with_reducible exact ih2 _ _ _ _ _ _ _ _ _ _)
      | (with_reducible exact LeO.refl _)
      | (with_reducible exact LeO.none _)
      | (with_reducible refine LeO.ite ?_ ?_)
      | (with_reducible refine LeO.bind ?_ (fun _ => ?_))
      | exact ih0 _ _ _ _ _ _ _
      | exact ih1 _ _ _ _ _ _ _ _ _ _
      | exact ih2 _ _ _ _ _ _ _ _ _ _
      | exact LeO.none _
      | refine LeO.ite ?_ ?_
      | refine LeO.bind ?_ (fun _ => ?_)
set_option maxHeartbeats 8000000 in
set_option maxRecDepth 100000 in
theorem sextet_Coder_Encode.calls (k : Nat) (g : Nat) (a0 : ByteArray) (A1 : Option Addr) (c1 : Nat) (l1 : List ByteArray) (r : ByteArray) (w : World) (hcg : w.cell? ⟨g, 0, none⟩ = some (.string a0)) (hr1 : Kd.C Kd.string w A1 l1.length l1) (hc1 : l1.length ≤ c1) (h : sextet_Coder_Encode.f k a0 l1 = some r) :
    Calls Try.prog 57 #[.pointer (some ⟨g, 0, none⟩), .slice A1 l1.length c1] w fun e w' => e = .returned (.string r) ∧ Below w.heap.size w w' := by
  have HCG := Aside0.mk hcg
  clear hcg
  have HR1 := Aside0.mk hr1
  have HC1 := Aside0.mk hc1
  clear hr1 hc1
  have HB := Aside0.mk (Below.refl w.heap.size w)
  have H : (sextet_Coder_Encode.l0 k a0 ([] : List Int) 0 0 l1 (l1.length : Int) 0) = some r := h
  clear h
  have H' := Aside0.mk H
  clear H
  go_enter Try.func57, Try.ntmps57
  go_wp2
  go_loopg [5, 6, 7, 15] k (fun kq v5 v6 v7 v15 w' => ∃ (x5_1 : List Int) (x6_1 : Int) (x7_1 : Int) (x13_1 : Int), v6 = .int .u32 x6_1 ∧ v7 = .int .i64 x7_1 ∧ v15 = .int .i64 x13_1 ∧ Aside0 (sextet_Coder_Encode.l0 kq a0 x5_1 x6_1 x7_1 l1 (l1.length : Int) x13_1 = some r) ∧ Aside0 (kq ≤ k) ∧ Aside0 (Kd.R (Kd.int .u8) 5 w' w.heap.size (fun _ => True) v5 x5_1) ∧ Aside0 (Below w.heap.size w w'))
  case atStart => exact ⟨(([] : List Int)), (0), (0), (0), (by first | rfl | (simp; done) | (simp [*]; done)), (by first | rfl | (simp; done) | (simp [*]; done)), (by first | rfl | (simp; done) | (simp [*]; done)), H', ⟨Nat.le_refl _⟩, ⟨by first | exact Kd.R_nil _ _ _ _ _ | exact Kd.N_nil _ _ _ _ _ | exact Kd.V_nil _ _ _ _ _ | exact Kd.Q_nil _ _ _ _ _ | exact Kd.S_nil _ _ _ _ _⟩, ⟨by repeat (first | (with_reducible first | exact HB.out | apply below_alloc | apply pw_below_drewN | apply below_drew1) | exact HB.out)⟩⟩
  case round =>
    clear H'
    try clear c1
    try clear p2
    obtain ⟨x5_1, x6_1, x7_1, x13_1, rfl, rfl, rfl, HA, HK1, HO_5, HB⟩ := hrel
    cases gk with
    | zero => exact absurd HA.out (by simp [sextet_Coder_Encode.l0])
    | succ k1 =>
      have H := HA.out
      clear HA
      simp only [sextet_Coder_Encode.l0] at H
      by_cases c3 : x13_1 < (l1.length : Int)
      · rw [if_pos c3] at H
        have c3b0 : decide (x13_1 < (l1.length : Int)) = true := decide_eq_true c3
        clear c3
        by_cases c4 : 0 ≤ x13_1
        · rw [if_pos c4] at H
          have c4b0 : decide (0 ≤ x13_1) = true := decide_eq_true c4
          clear c4
          by_cases c5 : x13_1 < (l1.length : Int)
          · rw [if_pos c5] at H
            have c5b0 : decide (x13_1 < (l1.length : Int)) = true := decide_eq_true c5
            clear c5
            have H' := Aside0.mk H
            clear H
            have p112 : 0 ≤ (x13_1 : Int) := of_decide_eq_true (by first | (with_reducible assumption) | assumption)
            have q112 : x13_1 < (l1.length : Int) := of_decide_eq_true (by first | (with_reducible assumption) | assumption)
            obtain ⟨ad112, e112, hx112_0⟩ := Kd.at_string HR1.out x13_1 p112 q112
            cases e112
            replace hx112_0 := (HB.out.cell (World.block_lt_of_cell? w _ hx112_0)).trans hx112_0
            replace p112 := eq_true p112
            replace q112 := eq_true q112
            go_wp2
            go_loopg [5, 6, 7, 21] k1 (fun kq v5 v6 v7 v21 w' => ∃ (x5_2 : List Int) (x6_2 : Int) (x7_2 : Int) (x19_2 : Int), v6 = .int .u32 x6_2 ∧ v7 = .int .i64 x7_2 ∧ v21 = .int .i64 x19_2 ∧ Aside0 (sextet_Coder_Encode.l1 kq a0 x5_2 x6_2 x7_2 (rdOf ByteArray.empty l1 x13_1) l1 (l1.length : Int) x13_1 ((rdOf ByteArray.empty l1 x13_1).size : Int) x19_2 = some r) ∧ Aside0 (kq ≤ k1) ∧ Aside0 (Kd.R (Kd.int .u8) 5 w' w.heap.size (fun _ => True) v5 x5_2) ∧ Aside0 (Below w.heap.size w w'))
            case atStart => exact ⟨(x5_1), (x6_1), (x7_1), (0), (by first | rfl | (simp; done) | (simp [*]; done)), (by first | rfl | (simp; done) | (simp [*]; done)), (by first | rfl | (simp; done) | (simp [*]; done)), H', ⟨Nat.le_refl _⟩, ⟨by (with_reducible repeat (first | apply Kd.R_alloc | apply Kd.R_drewN | apply Kd.R_drew)); exact HO_5.out⟩, ⟨by repeat (first | (with_reducible first | exact HB.out | apply below_alloc | apply pw_below_drewN | apply below_drew1) | exact HB.out)⟩⟩
            case round =>
              clear H'
              try clear c1
              try clear p1
              try clear q1
              try clear hx1
              try clear p2
              try clear c3
              try clear c3b0
              try clear c4
              try clear c4b0
              try clear c5
              try clear c5b0
              try clear hx112_0
              try clear p112
              try clear p2
              try clear q112
              obtain ⟨x5_2, x6_2, x7_2, x19_2, rfl, rfl, rfl, HA, HK2, HO_5, HB⟩ := hrel
              cases gk with
              | zero => exact absurd HA.out (by simp [sextet_Coder_Encode.l1])
              | succ k2 =>
                have H := HA.out
                clear HA
                simp only [sextet_Coder_Encode.l1] at H
                by_cases c6 : x19_2 < ((rdOf ByteArray.empty l1 x13_1).size : Int)
                · rw [if_pos c6] at H
                  have c6b0 : decide (x19_2 < ((rdOf ByteArray.empty l1 x13_1).size : Int)) = true := decide_eq_true c6
                  clear c6
                  by_cases c7 : 0 ≤ x19_2
                  · rw [if_pos c7] at H
                    have c7b0 : decide (0 ≤ x19_2) = true := decide_eq_true c7
                    clear c7
                    by_cases c8 : x19_2 < ((rdOf ByteArray.empty l1 x13_1).size : Int)
                    · rw [if_pos c8] at H
                      have c8b0 : decide (x19_2 < ((rdOf ByteArray.empty l1 x13_1).size : Int)) = true := decide_eq_true c8
                      clear c8
                      have H' := Aside0.mk H
                      clear H
                      have p9 : 0 ≤ (x19_2 : Int) := of_decide_eq_true (by first | (with_reducible assumption) | assumption)
                      have q9 : x19_2 < ((rdOf ByteArray.empty l1 x13_1).size : Int) := of_decide_eq_true (by first | (with_reducible assumption) | assumption)
                      have hx9 := bt_at (rdOf ByteArray.empty l1 x13_1) x19_2
                      replace p9 := eq_true p9
                      replace q9 := eq_true q9
                      go_wp2
                      go_loopg [5, 7] k2 (fun kq v5 v7 w' => ∃ (x5_3 : List Int) (x7_3 : Int), v7 = .int .i64 x7_3 ∧ Aside0 (sextet_Coder_Encode.l2 kq a0 x5_3 (Go.bits .or .u32 ((x6_2 * 256) % 4294967296) ((bt (rdOf ByteArray.empty l1 x13_1) x19_2) % 4294967296)) x7_3 (rdOf ByteArray.empty l1 x13_1) l1 (l1.length : Int) x13_1 ((rdOf ByteArray.empty l1 x13_1).size : Int) x19_2 = some r) ∧ Aside0 (kq ≤ k2) ∧ Aside0 (Kd.R (Kd.int .u8) 5 w' w.heap.size (fun _ => True) v5 x5_3) ∧ Aside0 (Below w.heap.size w w'))
                      case atStart => exact ⟨(x5_2), (wrap64 (x7_2 + 8)), (by first | rfl | (simp; done) | (simp [*]; done)), H', ⟨Nat.le_refl _⟩, ⟨by (with_reducible repeat (first | apply Kd.R_alloc | apply Kd.R_drewN | apply Kd.R_drew)); exact HO_5.out⟩, ⟨by repeat (first | (with_reducible first | exact HB.out | apply below_alloc | apply pw_below_drewN | apply below_drew1) | exact HB.out)⟩⟩
                      case round =>
                        clear H'
                        try clear c1
                        try clear p1
                        try clear q1
                        try clear hx1
                        try clear p2
                        try clear c3
                        try clear c3b0
                        try clear c4
                        try clear c4b0
                        try clear c5
                        try clear c5b0
                        try clear c6
                        try clear c6b0
                        try clear p6
                        try clear c7
                        try clear c7b0
                        try clear c8
                        try clear c8b0
                        try clear p9
                        try clear q9
                        try clear hx9
                        try clear hx112_0
                        try clear p1
                        try clear p112
                        try clear p2
                        try clear p9
                        try clear q1
                        try clear q112
                        try clear q9
                        obtain ⟨x5_3, x7_3, rfl, HA, HK3, HO_5, HB⟩ := hrel
                        cases gk with
                        | zero => exact absurd HA.out (by simp [sextet_Coder_Encode.l2])
                        | succ k3 =>
                          have H := HA.out
                          clear HA
                          simp only [sextet_Coder_Encode.l2] at H
                          by_cases c10 : x7_3 ≥ 6
                          · rw [if_pos c10] at H
                            have c10b0 : decide (6 ≤ x7_3) = true := decide_eq_true c10
                            clear c10
                            obtain ⟨ji11, hji11⟩ : ∃ j_ : Int, (wrap64 (x7_3 - 6)) = j_ := ⟨_, rfl⟩
                            replace H : (if 0 ≤ (ji11) then (if 0 ≤ (Go.bits .and .u32 (shr .u32 (Go.bits .or .u32 ((x6_2 * 256) % 4294967296) ((bt (rdOf ByteArray.empty l1 x13_1) x19_2) % 4294967296)) (ji11)) 63) then (if (Go.bits .and .u32 (shr .u32 (Go.bits .or .u32 ((x6_2 * 256) % 4294967296) ((bt (rdOf ByteArray.empty l1 x13_1) x19_2) % 4294967296)) (ji11)) 63) < (a0.size : Int) then (if x5_3.length < 140737488355328 then (sextet_Coder_Encode.l2 k3 a0 (x5_3 ++ [bt a0 (Go.bits .and .u32 (shr .u32 (Go.bits .or .u32 ((x6_2 * 256) % 4294967296) ((bt (rdOf ByteArray.empty l1 x13_1) x19_2) % 4294967296)) (ji11)) 63)]) (Go.bits .or .u32 ((x6_2 * 256) % 4294967296) ((bt (rdOf ByteArray.empty l1 x13_1) x19_2) % 4294967296)) ji11 (rdOf ByteArray.empty l1 x13_1) l1 (l1.length : Int) x13_1 ((rdOf ByteArray.empty l1 x13_1).size : Int) x19_2) else (none)) else (none)) else (none)) else (none)) = some r := by first | (rw [hji11] at H; exact H) | (simp only [hji11] at H ⊢; exact H)
                            have hji11w : (IntKind.i64.wrap (x7_3 - 6)) = ji11 := (i64_w _).trans hji11
                            by_cases c12 : 0 ≤ (ji11)
                            · rw [if_pos c12] at H
                              have c12b0 := eq_true c12
                              have c12b1 : decide (0 ≤ (ji11)) = true := decide_eq_true c12
                              clear c12
                              obtain ⟨ji13, hji13⟩ : ∃ j_ : Int, (shr .u32 (Go.bits .or .u32 ((x6_2 * 256) % 4294967296) ((bt (rdOf ByteArray.empty l1 x13_1) x19_2) % 4294967296)) (ji11)) = j_ := ⟨_, rfl⟩
                              replace H : (if 0 ≤ (Go.bits .and .u32 (ji13) 63) then (if (Go.bits .and .u32 (ji13) 63) < (a0.size : Int) then (if x5_3.length < 140737488355328 then (sextet_Coder_Encode.l2 k3 a0 (x5_3 ++ [bt a0 (Go.bits .and .u32 (ji13) 63)]) (Go.bits .or .u32 ((x6_2 * 256) % 4294967296) ((bt (rdOf ByteArray.empty l1 x13_1) x19_2) % 4294967296)) ji11 (rdOf ByteArray.empty l1 x13_1) l1 (l1.length : Int) x13_1 ((rdOf ByteArray.empty l1 x13_1).size : Int) x19_2) else (none)) else (none)) else (none)) = some r := by first | (rw [hji13] at H; exact H) | (simp only [hji13] at H ⊢; exact H)
                              have hji13_ : ((Go.bits .or .u32 ((x6_2 * 256) % 4294967296) ((bt (rdOf ByteArray.empty l1 x13_1) x19_2) % 4294967296)) / 2 ^ min (ji11).toNat 32) = ji13 := hji13
                              have hji13z : (ji11) ≤ 32 → ((Go.bits .or .u32 ((x6_2 * 256) % 4294967296) ((bt (rdOf ByteArray.empty l1 x13_1) x19_2) % 4294967296)) / 2 ^ (ji11).toNat) = ji13 := shr_small hji13
                              by_cases c14 : 0 ≤ (Go.bits .and .u32 (ji13) 63)
                              · rw [if_pos c14] at H
                                have c14b0 : decide (0 ≤ (Go.bits .and .u32 (ji13) 63)) = true := decide_eq_true c14
                                clear c14
                                by_cases c15 : (Go.bits .and .u32 (ji13) 63) < (a0.size : Int)
                                · rw [if_pos c15] at H
                                  have c15b0 : decide ((Go.bits .and .u32 (ji13) 63) < (a0.size : Int)) = true := decide_eq_true c15
                                  clear c15
                                  by_cases c17 : x5_3.length < 140737488355328
                                  · rw [if_pos c17] at H
                                    have LMc17 := Aside0.mk c17
                                    clear c17
                                    obtain ⟨y113, hy113⟩ : ∃ y_ : List Int, y_ = (x5_3 ++ [bt a0 (Go.bits .and .u32 (ji13) 63)]) := ⟨_, rfl⟩
                                    replace H : (sextet_Coder_Encode.l2 k3 a0 y113 (Go.bits .or .u32 ((x6_2 * 256) % 4294967296) ((bt (rdOf ByteArray.empty l1 x13_1) x19_2) % 4294967296)) ji11 (rdOf ByteArray.empty l1 x13_1) l1 (l1.length : Int) x13_1 ((rdOf ByteArray.empty l1 x13_1).size : Int) x19_2) = some r := by first | (rw [hy113]; with_reducible exact H) | (have H2_ := (Option.bind_some _ _).symm.trans H; rw [hy113]; with_reducible exact H2_) | (have H2_ := (Option.bind_some _ _).symm.trans H; with_reducible exact H2_) | with_reducible exact H | (rw [hy113]; exact H) | exact H
                                    have Ny113 := Aside0.mk hy113
                                    clear hy113
                                    have H' := Aside0.mk H
                                    clear H
                                    have p16 : 0 ≤ ((Go.bits .and .u32 (ji13) 63) : Int) := of_decide_eq_true (by first | (with_reducible assumption) | assumption)
                                    have q16 : (Go.bits .and .u32 (ji13) 63) < (a0.size : Int) := of_decide_eq_true (by first | (with_reducible assumption) | assumption)
                                    have hx16 := bt_at a0 (Go.bits .and .u32 (ji13) 63)
                                    replace p16 := eq_true p16
                                    replace q16 := eq_true q16
                                    have hcg := (HB.out.cell (World.block_lt_of_cell? w _ HCG.out)).trans HCG.out
                                    replace HO_5 : Aside0 (Kd.R (Kd.int .u8) 5 wr.drew w.heap.size (fun _ => True) u5 x5_3) := ⟨Kd.R_drew HO_5.out⟩
                                    replace HB : Aside0 (Below w.heap.size w wr.drew) := ⟨below_drew HB.out⟩
                                    go_wp2
                                    refine start_ (n := 14) (S := (fun W : World => W.cell? ⟨g, 0, none⟩ = some (.string a0))) (ds := [11, 12]) #[false, false, false, false, false, false, false, false, false, false, false, false, false, false] (by kernel_rfl) rfl rfl hcg (fun hHeld => ?_)
                                    generalize wr.drew = wd_ at HO_5 HB hHeld ⊢
                                    refine pure_ (i := 0) (N := some 37) (v := ?_) (a' := ?_) #[true, false, false, false, false, false, false, false, false, false, false, false, false, false] rfl rfl (by kernel_rfl) (fun _ _ _ h => h) (Or.inl ⟨by rfl, ?_⟩) ?_ ?_
                                    rotate_left
                                    · intro w'
                                      go_simp
                                      try with_reducible rfl
                                    rotate_left
                                    · simp only [Act.put, List.setIfInBounds_toArray, List.set_cons_zero, List.set_cons_succ, i64_w, i32_w]
                                      rfl
                                    refine pure_ (i := 1) (N := some 38) (v := ?_) (a' := ?_) #[true, true, false, false, false, false, false, false, false, false, false, false, false, false] rfl rfl (by kernel_rfl) (fun _ _ _ h => h) (Or.inl ⟨by rfl, ?_⟩) ?_ ?_
                                    rotate_left
                                    · intro w'
                                      go_simp
                                      try with_reducible rfl
                                    rotate_left
                                    · simp only [Act.put, List.setIfInBounds_toArray, List.set_cons_zero, List.set_cons_succ, i64_w, i32_w]
                                      rfl
                                    refine pure_ (i := 2) (N := some 39) (v := ?_) (a' := ?_) #[true, true, true, false, false, false, false, false, false, false, false, false, false, false] rfl rfl (by kernel_rfl) (fun _ _ _ h => h) (Or.inl ⟨by rfl, ?_⟩) ?_ ?_
                                    rotate_left
                                    · intro w'
                                      go_simp
                                      try with_reducible rfl
                                    rotate_left
                                    · simp only [Act.put, List.setIfInBounds_toArray, List.set_cons_zero, List.set_cons_succ, i64_w, i32_w]
                                      rfl
                                    refine pure_ (i := 3) (N := some 40) (v := ?_) (a' := ?_) #[true, true, true, true, false, false, false, false, false, false, false, false, false, false] rfl rfl (by kernel_rfl) (fun _ _ _ h => h) (Or.inl ⟨by rfl, ?_⟩) ?_ ?_
                                    rotate_left
                                    · intro w'
                                      go_simp
                                      try with_reducible rfl
                                    rotate_left
                                    · simp only [Act.put, List.setIfInBounds_toArray, List.set_cons_zero, List.set_cons_succ, i64_w, i32_w]
                                      rfl
                                    refine take_ (i := 4) (N := some 41) (v := ?_) (a' := ?_) #[true, true, true, true, true, false, false, false, false, false, false, false, false, false] rfl rfl (by kernel_rfl) (fun _ _ _ h => h) (Or.inl ⟨by rfl, ?_⟩) hHeld ?_ ?_
                                    rotate_left
                                    · intro w' hSw
                                      (try simp only [] at hSw)
                                      (repeat obtain ⟨hs_, hSw⟩ := hSw)
                                      go_simp
                                      try with_reducible rfl
                                    rotate_left
                                    · simp only [Act.put, List.setIfInBounds_toArray, List.set_cons_zero, List.set_cons_succ, i64_w, i32_w]
                                      rfl
                                    refine pure_ (i := 5) (N := some 42) (v := ?_) (a' := ?_) #[true, true, true, true, true, true, false, false, false, false, false, false, false, false] rfl rfl (by kernel_rfl) (fun _ _ _ h => h) (Or.inl ⟨by rfl, ?_⟩) ?_ ?_
                                    rotate_left
                                    · intro w'
                                      go_simp
                                      try with_reducible rfl
                                    rotate_left
                                    · simp only [Act.put, List.setIfInBounds_toArray, List.set_cons_zero, List.set_cons_succ, i64_w, i32_w]
                                      rfl
                                    refine pure_ (i := 6) (N := some 43) (v := ?_) (a' := ?_) #[true, true, true, true, true, true, true, false, false, false, false, false, false, false] rfl rfl (by kernel_rfl) (fun _ _ _ h => h) (Or.inl ⟨by rfl, ?_⟩) ?_ ?_
                                    rotate_left
                                    · intro w'
                                      go_simp
                                      try with_reducible rfl
                                    rotate_left
                                    · simp only [Act.put, List.setIfInBounds_toArray, List.set_cons_zero, List.set_cons_succ, i64_w, i32_w]
                                      rfl
                                    refine pure_ (i := 7) (N := some 44) (v := ?_) (a' := ?_) #[true, true, true, true, true, true, true, true, false, false, false, false, false, false] rfl rfl (by kernel_rfl) (fun _ _ _ h => h) (Or.inl ⟨by rfl, ?_⟩) ?_ ?_
                                    rotate_left
                                    · intro w'
                                      go_simp
                                      try with_reducible rfl
                                    rotate_left
                                    · simp only [Act.put, List.setIfInBounds_toArray, List.set_cons_zero, List.set_cons_succ, i64_w, i32_w]
                                      rfl
                                    refine pure_ (i := 8) (N := some 45) (v := ?_) (a' := ?_) #[true, true, true, true, true, true, true, true, true, false, false, false, false, false] rfl rfl (by kernel_rfl) (fun _ _ _ h => h) (Or.inl ⟨by rfl, ?_⟩) ?_ ?_
                                    rotate_left
                                    · intro w'
                                      go_simp
                                      try with_reducible rfl
                                    rotate_left
                                    · simp only [Act.put, List.setIfInBounds_toArray, List.set_cons_zero, List.set_cons_succ, i64_w, i32_w]
                                      rfl
                                    refine pure_ (i := 9) (N := some 46) (v := ?_) (a' := ?_) #[true, true, true, true, true, true, true, true, true, true, false, false, false, false] rfl rfl (by kernel_rfl) (fun _ _ _ h => h) (Or.inl ⟨by rfl, ?_⟩) ?_ ?_
                                    rotate_left
                                    · intro w'
                                      go_simp
                                      try with_reducible rfl
                                    rotate_left
                                    · simp only [Act.put, List.setIfInBounds_toArray, List.set_cons_zero, List.set_cons_succ, i64_w, i32_w]
                                      rfl
                                    refine pure_ (i := 10) (N := some 47) (v := ?_) (a' := ?_) #[true, true, true, true, true, true, true, true, true, true, true, false, false, false] rfl rfl (by kernel_rfl) (fun _ _ _ h => h) (Or.inl ⟨by rfl, ?_⟩) ?_ ?_
                                    rotate_left
                                    · intro w'
                                      go_simp
                                      try with_reducible rfl
                                    rotate_left
                                    · simp only [Act.put, List.setIfInBounds_toArray, List.set_cons_zero, List.set_cons_succ, i64_w, i32_w]
                                      rfl
                                    refine last_ (i := 11) (N := some 48) #[true, true, true, true, true, true, true, true, true, true, true, true, false, false] rfl rfl (by kernel_rfl) (by decide) (fun K hK => ?_)
                                    refine value_ (w1 := ?_) (v := ?_) (by rfl) rfl ?_ ?_
                                    rotate_left 2
                                    · go_simp
                                      constructor
                                      · rfl
                                      · rfl
                                    refine hK.out _ _ ?_
                                    clear hK K
                                    refine norm_ (a' := ?_) ?_ ?_
                                    rotate_left
                                    · show Act.put _ (some 48) _ = _
                                      simp only [Act.put, List.setIfInBounds_toArray, List.set_cons_zero, List.set_cons_succ, i64_w, i32_w]
                                      rfl
                                    refine last_ (i := 12) (N := some 49) #[true, true, true, true, true, true, true, true, true, true, true, true, true, false] rfl rfl (by kernel_rfl) (by decide) (fun K hK => ?_)
                                    refine Kd.R_append_step (Kd.int .u8) (w0 := w) w.heap.size (by rfl) (.tmp 37) (.tmp 48) 65 5 (.int .u8 0) 1 rfl Try.underlying65 info5 rfl (by decide) (by omega) u5 x5_3 (bt a0 (Go.bits .and .u32 (ji13) 63)) [.int .u8 (bt a0 (Go.bits .and .u32 (ji13) 63))] (fun _ => True) (fun _ => False) rfl rfl rfl (fun _ hk => hk.elim) (fun _ _ => trivial) HO_5.out HB.out (below_size HB.out) (by have := LMc17.out; omega) ?_
                                    intro v9_ w9_ ho hb hg hat
                                    rw [← Ny113.out] at ho
                                    have HO115 := Aside0.mk ho
                                    have HB' := Aside0.mk hb
                                    clear HO_5 HB ho hb hg hat
                                    have HB := HB'
                                    clear HB'
                                    refine hK.out _ _ ?_
                                    clear hK K
                                    refine norm_ (a' := ?_) ?_ ?_
                                    rotate_left
                                    · show Act.put _ (some 49) _ = _
                                      simp only [Act.put, List.setIfInBounds_toArray, List.set_cons_zero, List.set_cons_succ, i64_w, i32_w]
                                      rfl
                                    refine pure_ (i := 13) (N := some 5) (v := ?_) (a' := ?_) #[true, true, true, true, true, true, true, true, true, true, true, true, true, true] rfl rfl (by kernel_rfl) (fun _ _ _ h => h) (Or.inl ⟨by rfl, ?_⟩) ?_ ?_
                                    rotate_left
                                    · intro w'
                                      go_simp
                                      try with_reducible rfl
                                    rotate_left
                                    · simp only [Act.put, List.setIfInBounds_toArray, List.set_cons_zero, List.set_cons_succ, i64_w, i32_w]
                                      rfl
                                    refine done_ (by kernel_rfl) ?_
                                    clear hcg hHeld
                                    go_wp2
                                    go_roundg k3
                                    case measure => have := HK1.out; have := HK2.out; have := HK3.out; omega
                                    case rel => exact ⟨(y113), (ji11), (by first | rfl | (simp; done) | (simp only [← hji11] <;> (first | rfl | simp)) | (simp [*]; done)), H', ⟨by have := HK1.out; have := HK2.out; have := HK3.out; omega⟩, ⟨by (with_reducible repeat (first | apply Kd.R_alloc | apply Kd.R_drewN | apply Kd.R_drew)); exact HO115.out⟩, ⟨by repeat (first | (with_reducible first | exact HB.out | apply below_alloc | apply pw_below_drewN | apply below_drew1) | exact HB.out)⟩⟩
                                  · rw [if_neg c17] at H
                                    exact absurd H (by simp)
                                · rw [if_neg c15] at H
                                  exact absurd H (by simp)
                              · rw [if_neg c14] at H
                                exact absurd H (by simp)
                            · rw [if_neg c12] at H
                              exact absurd H (by simp)
                          · rw [if_neg c10] at H
                            have c10b0 : decide (6 ≤ x7_3) = false := decide_eq_false c10
                            clear c10
                            have H' := Aside0.mk H
                            clear H
                            go_wp2
                            go_roundg k3
                            case measure => have := HK1.out; have := HK2.out; have := HK3.out; omega
                            case rel => exact ⟨(x5_3), ((Go.bits .or .u32 ((x6_2 * 256) % 4294967296) ((bt (rdOf ByteArray.empty l1 x13_1) x19_2) % 4294967296))), (x7_3), (wrap64 (x19_2 + 1)), (by first | rfl | (simp; done) | (simp [*]; done)), (by first | rfl | (simp; done) | (simp [*]; done)), (by first | rfl | (simp; done) | (simp [*]; done)), H', ⟨by have := HK1.out; have := HK2.out; have := HK3.out; omega⟩, ⟨by (with_reducible repeat (first | apply Kd.R_alloc | apply Kd.R_drewN | apply Kd.R_drew)); exact HO_5.out⟩, ⟨by repeat (first | (with_reducible first | exact HB.out | apply below_alloc | apply pw_below_drewN | apply below_drew1) | exact HB.out)⟩⟩
                    · rw [if_neg c8] at H
                      exact absurd H (by simp)
                  · rw [if_neg c7] at H
                    exact absurd H (by simp)
                · rw [if_neg c6] at H
                  have c6b0 : decide (x19_2 < ((rdOf ByteArray.empty l1 x13_1).size : Int)) = false := decide_eq_false c6
                  clear c6
                  have H' := Aside0.mk H
                  clear H
                  go_wp2
                  go_roundg k2
                  case measure => have := HK1.out; have := HK2.out; omega
                  case rel => exact ⟨(x5_2), (x6_2), (x7_2), (wrap64 (x13_1 + 1)), (by first | rfl | (simp; done) | (simp [*]; done)), (by first | rfl | (simp; done) | (simp [*]; done)), (by first | rfl | (simp; done) | (simp [*]; done)), H', ⟨by have := HK1.out; have := HK2.out; omega⟩, ⟨by (with_reducible repeat (first | apply Kd.R_alloc | apply Kd.R_drewN | apply Kd.R_drew)); exact HO_5.out⟩, ⟨by repeat (first | (with_reducible first | exact HB.out | apply below_alloc | apply pw_below_drewN | apply below_drew1) | exact HB.out)⟩⟩
          · rw [if_neg c5] at H
            exact absurd H (by simp)
        · rw [if_neg c4] at H
          exact absurd H (by simp)
      · rw [if_neg c3] at H
        have c3b0 : decide (x13_1 < (l1.length : Int)) = false := decide_eq_false c3
        clear c3
        by_cases c19 : x7_1 > 0
        · rw [if_pos c19] at H
          have c19b0 : decide (0 < x7_1) = true := decide_eq_true c19
          clear c19
          obtain ⟨ji20, hji20⟩ : ∃ j_ : Int, (wrap64 (6 - x7_1)) = j_ := ⟨_, rfl⟩
          replace H : (if 0 ≤ (ji20) then (if 0 ≤ (Go.bits .and .u32 (shl .u32 x6_1 (ji20)) 63) then (if (Go.bits .and .u32 (shl .u32 x6_1 (ji20)) 63) < (a0.size : Int) then (if x5_1.length < 140737488355328 then (some (strOfNums (x5_1 ++ [bt a0 (Go.bits .and .u32 (shl .u32 x6_1 (ji20)) 63)]))) else (none)) else (none)) else (none)) else (none)) = some r := by first | (rw [hji20] at H; exact H) | (simp only [hji20] at H ⊢; exact H)
          have hji20w : (IntKind.i64.wrap (6 - x7_1)) = ji20 := (i64_w _).trans hji20
          by_cases c21 : 0 ≤ (ji20)
          · rw [if_pos c21] at H
            have c21b0 := eq_true c21
            have c21b1 : decide (0 ≤ (ji20)) = true := decide_eq_true c21
            clear c21
            obtain ⟨ji22, hji22⟩ : ∃ j_ : Int, (shl .u32 x6_1 (ji20)) = j_ := ⟨_, rfl⟩
            replace H : (if 0 ≤ (Go.bits .and .u32 (ji22) 63) then (if (Go.bits .and .u32 (ji22) 63) < (a0.size : Int) then (if x5_1.length < 140737488355328 then (some (strOfNums (x5_1 ++ [bt a0 (Go.bits .and .u32 (ji22) 63)]))) else (none)) else (none)) else (none)) = some r := by first | (rw [hji22] at H; exact H) | (simp only [hji22] at H ⊢; exact H)
            have hji22_ : (IntKind.u32.wrap (x6_1 * 2 ^ min (ji20).toNat 32)) = ji22 := hji22
            have hji22z : (ji20) ≤ 32 → (IntKind.u32.wrap (x6_1 * 2 ^ (ji20).toNat)) = ji22 := shl_small hji22
            by_cases c23 : 0 ≤ (Go.bits .and .u32 (ji22) 63)
            · rw [if_pos c23] at H
              have c23b0 : decide (0 ≤ (Go.bits .and .u32 (ji22) 63)) = true := decide_eq_true c23
              clear c23
              by_cases c24 : (Go.bits .and .u32 (ji22) 63) < (a0.size : Int)
              · rw [if_pos c24] at H
                have c24b0 : decide ((Go.bits .and .u32 (ji22) 63) < (a0.size : Int)) = true := decide_eq_true c24
                clear c24
                by_cases c26 : x5_1.length < 140737488355328
                · rw [if_pos c26] at H
                  have LMc26 := Aside0.mk c26
                  clear c26
                  obtain ⟨y109, hy109⟩ : ∃ y_ : List Int, y_ = (x5_1 ++ [bt a0 (Go.bits .and .u32 (ji22) 63)]) := ⟨_, rfl⟩
                  replace H : (some (strOfNums y109)) = some r := by first | (rw [hy109]; with_reducible exact H) | (have H2_ := (Option.bind_some _ _).symm.trans H; rw [hy109]; with_reducible exact H2_) | (have H2_ := (Option.bind_some _ _).symm.trans H; with_reducible exact H2_) | with_reducible exact H | (rw [hy109]; exact H) | exact H
                  have Ny109 := Aside0.mk hy109
                  clear hy109
                  obtain rfl := Option.some.inj H
                  have p25 : 0 ≤ ((Go.bits .and .u32 (ji22) 63) : Int) := of_decide_eq_true (by first | (with_reducible assumption) | assumption)
                  have q25 : (Go.bits .and .u32 (ji22) 63) < (a0.size : Int) := of_decide_eq_true (by first | (with_reducible assumption) | assumption)
                  have hx25 := bt_at a0 (Go.bits .and .u32 (ji22) 63)
                  replace p25 := eq_true p25
                  replace q25 := eq_true q25
                  have hcg := (HB.out.cell (World.block_lt_of_cell? w _ HCG.out)).trans HCG.out
                  replace HO_5 : Aside0 (Kd.R (Kd.int .u8) 5 wr.drew w.heap.size (fun _ => True) u5 x5_1) := ⟨Kd.R_drew HO_5.out⟩
                  replace HB : Aside0 (Below w.heap.size w wr.drew) := ⟨below_drew HB.out⟩
                  go_wp2
                  refine start_ (n := 14) (S := (fun W : World => W.cell? ⟨g, 0, none⟩ = some (.string a0))) (ds := [11, 12]) #[false, false, false, false, false, false, false, false, false, false, false, false, false, false] (by kernel_rfl) rfl rfl hcg (fun hHeld => ?_)
                  generalize wr.drew = wd_ at HO_5 HB hHeld ⊢
                  refine pure_ (i := 0) (N := some 54) (v := ?_) (a' := ?_) #[true, false, false, false, false, false, false, false, false, false, false, false, false, false] rfl rfl (by kernel_rfl) (fun _ _ _ h => h) (Or.inl ⟨by rfl, ?_⟩) ?_ ?_
                  rotate_left
                  · intro w'
                    go_simp
                    try with_reducible rfl
                  rotate_left
                  · simp only [Act.put, List.setIfInBounds_toArray, List.set_cons_zero, List.set_cons_succ, i64_w, i32_w]
                    rfl
                  refine pure_ (i := 1) (N := some 55) (v := ?_) (a' := ?_) #[true, true, false, false, false, false, false, false, false, false, false, false, false, false] rfl rfl (by kernel_rfl) (fun _ _ _ h => h) (Or.inl ⟨by rfl, ?_⟩) ?_ ?_
                  rotate_left
                  · intro w'
                    go_simp
                    try with_reducible rfl
                  rotate_left
                  · simp only [Act.put, List.setIfInBounds_toArray, List.set_cons_zero, List.set_cons_succ, i64_w, i32_w]
                    rfl
                  refine pure_ (i := 2) (N := some 56) (v := ?_) (a' := ?_) #[true, true, true, false, false, false, false, false, false, false, false, false, false, false] rfl rfl (by kernel_rfl) (fun _ _ _ h => h) (Or.inl ⟨by rfl, ?_⟩) ?_ ?_
                  rotate_left
                  · intro w'
                    go_simp
                    try with_reducible rfl
                  rotate_left
                  · simp only [Act.put, List.setIfInBounds_toArray, List.set_cons_zero, List.set_cons_succ, i64_w, i32_w]
                    rfl
                  refine pure_ (i := 3) (N := some 57) (v := ?_) (a' := ?_) #[true, true, true, true, false, false, false, false, false, false, false, false, false, false] rfl rfl (by kernel_rfl) (fun _ _ _ h => h) (Or.inl ⟨by rfl, ?_⟩) ?_ ?_
                  rotate_left
                  · intro w'
                    go_simp
                    try with_reducible rfl
                  rotate_left
                  · simp only [Act.put, List.setIfInBounds_toArray, List.set_cons_zero, List.set_cons_succ, i64_w, i32_w]
                    rfl
                  refine take_ (i := 4) (N := some 58) (v := ?_) (a' := ?_) #[true, true, true, true, true, false, false, false, false, false, false, false, false, false] rfl rfl (by kernel_rfl) (fun _ _ _ h => h) (Or.inl ⟨by rfl, ?_⟩) hHeld ?_ ?_
                  rotate_left
                  · intro w' hSw
                    (try simp only [] at hSw)
                    (repeat obtain ⟨hs_, hSw⟩ := hSw)
                    go_simp
                    try with_reducible rfl
                  rotate_left
                  · simp only [Act.put, List.setIfInBounds_toArray, List.set_cons_zero, List.set_cons_succ, i64_w, i32_w]
                    rfl
                  refine pure_ (i := 5) (N := some 59) (v := ?_) (a' := ?_) #[true, true, true, true, true, true, false, false, false, false, false, false, false, false] rfl rfl (by kernel_rfl) (fun _ _ _ h => h) (Or.inl ⟨by rfl, ?_⟩) ?_ ?_
                  rotate_left
                  · intro w'
                    go_simp
                    try with_reducible rfl
                  rotate_left
                  · simp only [Act.put, List.setIfInBounds_toArray, List.set_cons_zero, List.set_cons_succ, i64_w, i32_w]
                    rfl
                  refine pure_ (i := 6) (N := some 60) (v := ?_) (a' := ?_) #[true, true, true, true, true, true, true, false, false, false, false, false, false, false] rfl rfl (by kernel_rfl) (fun _ _ _ h => h) (Or.inl ⟨by rfl, ?_⟩) ?_ ?_
                  rotate_left
                  · intro w'
                    go_simp
                    try with_reducible rfl
                  rotate_left
                  · simp only [Act.put, List.setIfInBounds_toArray, List.set_cons_zero, List.set_cons_succ, i64_w, i32_w]
                    rfl
                  refine pure_ (i := 7) (N := some 61) (v := ?_) (a' := ?_) #[true, true, true, true, true, true, true, true, false, false, false, false, false, false] rfl rfl (by kernel_rfl) (fun _ _ _ h => h) (Or.inl ⟨by rfl, ?_⟩) ?_ ?_
                  rotate_left
                  · intro w'
                    go_simp
                    try with_reducible rfl
                  rotate_left
                  · simp only [Act.put, List.setIfInBounds_toArray, List.set_cons_zero, List.set_cons_succ, i64_w, i32_w]
                    rfl
                  refine pure_ (i := 8) (N := some 62) (v := ?_) (a' := ?_) #[true, true, true, true, true, true, true, true, true, false, false, false, false, false] rfl rfl (by kernel_rfl) (fun _ _ _ h => h) (Or.inl ⟨by rfl, ?_⟩) ?_ ?_
                  rotate_left
                  · intro w'
                    go_simp
                    try with_reducible rfl
                  rotate_left
                  · simp only [Act.put, List.setIfInBounds_toArray, List.set_cons_zero, List.set_cons_succ, i64_w, i32_w]
                    rfl
                  refine pure_ (i := 9) (N := some 63) (v := ?_) (a' := ?_) #[true, true, true, true, true, true, true, true, true, true, false, false, false, false] rfl rfl (by kernel_rfl) (fun _ _ _ h => h) (Or.inl ⟨by rfl, ?_⟩) ?_ ?_
                  rotate_left
                  · intro w'
                    go_simp
                    try with_reducible rfl
                  rotate_left
                  · simp only [Act.put, List.setIfInBounds_toArray, List.set_cons_zero, List.set_cons_succ, i64_w, i32_w]
                    rfl
                  refine pure_ (i := 10) (N := some 64) (v := ?_) (a' := ?_) #[true, true, true, true, true, true, true, true, true, true, true, false, false, false] rfl rfl (by kernel_rfl) (fun _ _ _ h => h) (Or.inl ⟨by rfl, ?_⟩) ?_ ?_
                  rotate_left
                  · intro w'
                    go_simp
                    try with_reducible rfl
                  rotate_left
                  · simp only [Act.put, List.setIfInBounds_toArray, List.set_cons_zero, List.set_cons_succ, i64_w, i32_w]
                    rfl
                  refine last_ (i := 11) (N := some 65) #[true, true, true, true, true, true, true, true, true, true, true, true, false, false] rfl rfl (by kernel_rfl) (by decide) (fun K hK => ?_)
                  refine value_ (w1 := ?_) (v := ?_) (by rfl) rfl ?_ ?_
                  rotate_left 2
                  · go_simp
                    constructor
                    · rfl
                    · rfl
                  refine hK.out _ _ ?_
                  clear hK K
                  refine norm_ (a' := ?_) ?_ ?_
                  rotate_left
                  · show Act.put _ (some 65) _ = _
                    simp only [Act.put, List.setIfInBounds_toArray, List.set_cons_zero, List.set_cons_succ, i64_w, i32_w]
                    rfl
                  refine last_ (i := 12) (N := some 66) #[true, true, true, true, true, true, true, true, true, true, true, true, true, false] rfl rfl (by kernel_rfl) (by decide) (fun K hK => ?_)
                  refine Kd.R_append_step (Kd.int .u8) (w0 := w) w.heap.size (by rfl) (.tmp 54) (.tmp 65) 65 5 (.int .u8 0) 1 rfl Try.underlying65 info5 rfl (by decide) (by omega) u5 x5_1 (bt a0 (Go.bits .and .u32 (ji22) 63)) [.int .u8 (bt a0 (Go.bits .and .u32 (ji22) 63))] (fun _ => True) (fun _ => False) rfl rfl rfl (fun _ hk => hk.elim) (fun _ _ => trivial) HO_5.out HB.out (below_size HB.out) (by have := LMc26.out; omega) ?_
                  intro v9_ w9_ ho hb hg hat
                  rw [← Ny109.out] at ho
                  have HO115 := Aside0.mk ho
                  have HB' := Aside0.mk hb
                  clear HO_5 HB ho hb hg hat
                  have HB := HB'
                  clear HB'
                  refine hK.out _ _ ?_
                  clear hK K
                  refine norm_ (a' := ?_) ?_ ?_
                  rotate_left
                  · show Act.put _ (some 66) _ = _
                    simp only [Act.put, List.setIfInBounds_toArray, List.set_cons_zero, List.set_cons_succ, i64_w, i32_w]
                    rfl
                  refine pure_ (i := 13) (N := some 5) (v := ?_) (a' := ?_) #[true, true, true, true, true, true, true, true, true, true, true, true, true, true] rfl rfl (by kernel_rfl) (fun _ _ _ h => h) (Or.inl ⟨by rfl, ?_⟩) ?_ ?_
                  rotate_left
                  · intro w'
                    go_simp
                    try with_reducible rfl
                  rotate_left
                  · simp only [Act.put, List.setIfInBounds_toArray, List.set_cons_zero, List.set_cons_succ, i64_w, i32_w]
                    rfl
                  refine done_ (by kernel_rfl) ?_
                  clear hcg hHeld
                  have hcv29 := own_string (P := Try.prog) Try.underlying65 Try.underlying5 Try.underlying9 (Kd.own_of_R HO115.out)
                  go_wp2
                  go_ret
                  exact ⟨by first | rfl | (simp [errW_none, errW_some] <;> rfl) | (simp only [← hji20, ← hji22]; first | rfl | (simp [errW_none, errW_some] <;> rfl)) | (simp [*, errW_none, errW_some] <;> rfl), by repeat (first | (with_reducible first | exact HB.out | apply below_alloc | apply pw_below_drewN | apply below_drew1) | exact HB.out)⟩
                · rw [if_neg c26] at H
                  exact absurd H (by simp)
              · rw [if_neg c24] at H
                exact absurd H (by simp)
            · rw [if_neg c23] at H
              exact absurd H (by simp)
          · rw [if_neg c21] at H
            exact absurd H (by simp)
        · rw [if_neg c19] at H
          have c19b0 : decide (0 < x7_1) = false := decide_eq_false c19
          clear c19
          obtain rfl := Option.some.inj H
          have hcv29 := own_string (P := Try.prog) Try.underlying65 Try.underlying5 Try.underlying9 (Kd.own_of_R HO_5.out)
          go_wp2
          go_ret
          exact ⟨by first | rfl | (simp [errW_none, errW_some] <;> rfl) | (simp [*, errW_none, errW_some] <;> rfl), by repeat (first | (with_reducible first | exact HB.out | apply below_alloc | apply pw_below_drewN | apply below_drew1) | exact HB.out)⟩
set_option maxRecDepth 100000 in
theorem sextet_Coder_Encode.nil (v : Value) (w : World) : Calls Try.prog 57 #[.pointer none, v] w fun e w' => e = .returned (.string ⟨#[]⟩) ∧ Drawn0 w w' := by
  go_enter Try.func57, Try.ntmps57
  go_wp2
  go_ret
  exact ⟨rfl, Drawn0.refl _⟩
theorem sextet_Coder_Encode.calls1 (k : Nat) (g : Nat) (a0 : ByteArray) (b : Nat) (x : ByteArray) (r : ByteArray) (w : World) (hcg : w.cell? ⟨g, 0, none⟩ = some (.string a0)) (hr1 : Kd.C Kd.string w (some ⟨b, 0, none⟩) 1 [x]) (h : sextet_Coder_Encode.f k a0 [x] = some r) :
    Calls Try.prog 57 #[.pointer (some ⟨g, 0, none⟩), .slice (some ⟨b, 0, none⟩) 1 1] w fun e w' => e = .returned (.string r) ∧ Below w.heap.size w w' :=
  sextet_Coder_Encode.calls k g a0 (some ⟨b, 0, none⟩) 1 [x] r w hcg hr1 (Nat.le_refl _) h

/-! ### cipher_Blow: function 999901 -/
/-- a word of a table that is one number -/
def blG (T i : Nat) : Nat := (T >>> (32 * i)) % 4294967296
def blPut (T i v : Nat) : Nat := T ^^^ ((blG T i ^^^ v) <<< (32 * i))
def blFn (T x : Nat) : Nat := ((((blG T (18 + x / 16777216) + blG T (274 + x / 65536 % 256)) % 4294967296) ^^^ blG T (530 + x / 256 % 256)) + blG T (786 + x % 256)) % 4294967296
/-- one round: both words in one number -/
def blRnd (T i s : Nat) : Nat := ((s % 4294967296) ^^^ blFn T ((s / 4294967296) ^^^ blG T i)) * 4294967296 + ((s / 4294967296) ^^^ blG T i)
def blRnds (T : Nat) : Nat → Nat → Nat → Nat
  | 0, _, s => s
  | n + 1, i, s => blRnds T n (i + 1) (blRnd T i s)
def blFin (T s : Nat) : Nat := ((s % 4294967296) ^^^ blG T 17) * 4294967296 + ((s / 4294967296) ^^^ blG T 16)
def blEnc (T s : Nat) : Nat := blFin T (blRnds T 16 0 s)
/-- the state: the table above two words -/
def blPut2 (T i s : Nat) : Nat := blPut (blPut T i (s / 4294967296)) (i + 1) (s % 4294967296) * 18446744073709551616 + s
def blStepE (S i X : Nat) : Nat := blPut2 (X / 18446744073709551616) i (blEnc (X / 18446744073709551616) ((X % 18446744073709551616) ^^^ (blG S (i % 4) * 4294967296 + blG S ((i + 1) % 4))))
def blRunE (S : Nat) : Nat → Nat → Nat → Nat
  | 0, _, X => X
  | n + 1, i, X => blRunE S n (i + 2) (blStepE S i X)
/-- a key's 18 words K are blPut in; then the chain, with the salt's four words -/
def blExpand (T K S : Nat) : Nat := blRunE S 521 0 ((T ^^^ K) * 18446744073709551616) / 18446744073709551616
theorem bl_g_bit (T i k : Nat) : (blG T i).testBit k = (decide (k < 32) && T.testBit (32 * i + k)) := by
  unfold blG
  rw [show (4294967296 : Nat) = 2 ^ 32 from rfl, Nat.testBit_mod_two_pow, Nat.testBit_shiftRight]
theorem bl_g_lt (T i : Nat) : blG T i < 4294967296 := Nat.mod_lt _ (by omega)
theorem bl_bit_high {v k : Nat} (h : v < 4294967296) (hk : 32 ≤ k) : v.testBit k = false :=
  Nat.testBit_lt_two_pow (Nat.lt_of_lt_of_le h (by rw [show (4294967296 : Nat) = 2 ^ 32 from rfl]; exact Nat.pow_le_pow_right (by omega) hk))
theorem bl_g_put_same (T i v : Nat) (hv : v < 4294967296) : blG (blPut T i v) i = v := by
  refine Nat.eq_of_testBit_eq fun k => ?_
  rw [bl_g_bit]
  unfold blPut
  rw [Nat.testBit_xor, Nat.testBit_shiftLeft]
  by_cases hk : k < 32
  · rw [decide_eq_true hk, decide_eq_true (show 32 * i + k ≥ 32 * i by omega), show 32 * i + k - 32 * i = k by omega, Nat.testBit_xor, bl_g_bit, decide_eq_true hk]
    cases T.testBit (32 * i + k) <;> cases v.testBit k <;> rfl
  · rw [decide_eq_false hk, bl_bit_high hv (by omega)]; rfl
theorem bl_g_put_other (T i j v : Nat) (hv : v < 4294967296) (h : j ≠ i) : blG (blPut T i v) j = blG T j := by
  refine Nat.eq_of_testBit_eq fun k => ?_
  rw [bl_g_bit, bl_g_bit]
  unfold blPut
  rw [Nat.testBit_xor, Nat.testBit_shiftLeft]
  by_cases hk : k < 32
  · rw [decide_eq_true hk, Bool.true_and, Bool.true_and]
    by_cases hc : 32 * j + k ≥ 32 * i
    · rw [decide_eq_true hc, bl_bit_high (Nat.xor_lt_two_pow (n := 32) (bl_g_lt T i) hv) (by omega)]; simp
    · rw [decide_eq_false hc]; simp
  · rw [decide_eq_false hk]; simp
theorem bl_g_xor (T K i : Nat) : blG (T ^^^ K) i = blG T i ^^^ blG K i := by
  refine Nat.eq_of_testBit_eq fun k => ?_
  rw [bl_g_bit, Nat.testBit_xor, Nat.testBit_xor, bl_g_bit, bl_g_bit]
  cases decide (k < 32) <;> simp
/-! ### both -/
def BlRep (t : List Nat) (T : Nat) : Prop := t.length = 1042 ∧ ∀ i, i < 1042 → ciW t i = blG T i
theorem BlRep.ciok {t : List Nat} {T : Nat} (h : BlRep t T) : ciOk t := by
  refine ⟨h.1, fun i => ?_⟩
  by_cases hi : i < 1042
  · rw [h.2 i hi]; exact bl_g_lt _ _
  · unfold ciW
    rw [List.getD_eq_getElem?_getD, List.getElem?_eq_none (by rw [h.1]; omega)]; decide
theorem BlRep.set {t : List Nat} {T : Nat} (h : BlRep t T) {i v : Nat} (hi : i < 1042) (hv : v < 4294967296) : BlRep (t.set i v) (blPut T i v) := by
  refine ⟨by rw [List.length_set, h.1], fun j hj => ?_⟩
  rw [ciW_set (by rw [h.1]; exact hi)]
  by_cases e : j = i
  · subst e; rw [if_pos rfl, bl_g_put_same _ _ _ hv]
  · rw [if_neg e, bl_g_put_other _ _ _ _ hv e, h.2 j hj]
theorem BlRep.f {t : List Nat} {T : Nat} (h : BlRep t T) {x : Nat} (hx : x < 4294967296) : ciF t x = blFn T x := by
  unfold ciF blFn
  rw [h.2 _ (by omega), h.2 _ (by omega), h.2 _ (by omega), h.2 _ (by omega)]
theorem bl_pack_mod {l r : Nat} (hr : r < 4294967296) : (l * 4294967296 + r) % 4294967296 = r := by omega
theorem bl_pack_div {l r : Nat} (hr : r < 4294967296) : (l * 4294967296 + r) / 4294967296 = l := by omega
theorem bl_rnds_succ (T n i s : Nat) : blRnds T (n + 1) i s = blRnds T n (i + 1) (blRnd T i s) := rfl
theorem BlRep.rnds {t : List Nat} {T : Nat} (h : BlRep t T) (n : Nat) : ∀ i l r, i + n ≤ 16 → l < 4294967296 → r < 4294967296 → blRnds T n i (l * 4294967296 + r) = (ciEncR t n i l r).1 * 4294967296 + (ciEncR t n i l r).2 := by
  induction n with
  | zero => intro i l r _ _ _; rfl
  | succ n ih =>
    intro i l r hn hl hr
    have hx := ci_xor hl (h.ciok.2 i)
    have q := ih (i + 1) (r ^^^ ciF t (l ^^^ ciW t i)) (l ^^^ ciW t i) (by omega) (ci_xor hr (ciF_lt _ _)) hx
    rw [bl_rnds_succ, ciEncR_succ, ← q]
    unfold blRnd
    rw [bl_pack_mod hr, bl_pack_div hr, ← h.2 i (by omega), ← h.f hx]
theorem BlRep.enc {t : List Nat} {T : Nat} (h : BlRep t T) {l r : Nat} (hl : l < 4294967296) (hr : r < 4294967296) : blEnc T (l * 4294967296 + r) = (ciEnc t l r).1 * 4294967296 + (ciEnc t l r).2 := by
  unfold blEnc blFin ciEnc
  rw [h.rnds 16 0 l r (by omega) hl hr]
  have b := ciEncR_lt h.ciok 16 0 l r hl hr
  generalize ciEncR t 16 0 l r = p at b
  obtain ⟨a, c⟩ := p
  simp only at b
  have e1 : (a * 4294967296 + c) % 4294967296 = c := by omega
  have e2 : (a * 4294967296 + c) / 4294967296 = a := by omega
  rw [e1, e2, ← h.2 17 (by omega), ← h.2 16 (by omega)]
theorem BlRep.key {K : Nat} (kw : Nat → Nat) (hk : ∀ i, i < 18 → kw i = blG K i) (h18 : ∀ i, 18 ≤ i → i < 1042 → blG K i = 0) {t : List Nat} {T : Nat} (h : BlRep t T) : BlRep (ciKey kw 18 0 t) (T ^^^ K) := by
  have gen : ∀ n i t', i + n = 18 → t'.length = 1042 → (∀ j, j < 1042 → ciW t' j = if j < i then blG T j ^^^ blG K j else blG T j) → BlRep (ciKey kw n i t') (T ^^^ K) := by
    intro n
    induction n with
    | zero =>
      intro i t' hn hl ht
      refine ⟨hl, fun j hj => ?_⟩
      show ciW t' j = _
      rw [ht j hj, bl_g_xor]
      split
      · rfl
      · rw [h18 j (by omega) hj, Nat.xor_zero]
    | succ n ih =>
      intro i t' hn hl ht
      refine ih (i + 1) _ (by omega) (by rw [List.length_set, hl]) fun j hj => ?_
      rw [ciW_set (by omega)]
      by_cases e : j = i
      · subst e
        rw [if_pos rfl, if_pos (by omega), ht j hj, if_neg (by omega), hk j (by omega)]
      · rw [if_neg e, ht j hj]
        by_cases q : j < i
        · rw [if_pos q, if_pos (by omega)]
        · rw [if_neg q, if_neg (by omega)]
  exact gen 18 0 t rfl h.1 fun j hj => by rw [if_neg (by omega), h.2 j hj]
theorem bl_xor_pack {a b c d : Nat} (hb : b < 4294967296) (hd : d < 4294967296) : (a * 4294967296 + b) ^^^ (c * 4294967296 + d) = (a ^^^ c) * 4294967296 + (b ^^^ d) := by
  refine Nat.eq_of_testBit_eq fun k => ?_
  have e : ∀ x y : Nat, y < 4294967296 → (x * 4294967296 + y).testBit k = if k < 32 then y.testBit k else x.testBit (k - 32) := fun x y hy => by
    have := Nat.testBit_two_pow_mul_add x (i := 32) (b := y) hy k
    rw [show (2 : Nat) ^ 32 = 4294967296 from rfl, Nat.mul_comm] at this
    exact this
  rw [Nat.testBit_xor, e _ _ hb, e _ _ hd, e _ _ (ci_xor hb hd)]
  split <;> rw [Nat.testBit_xor]
theorem bl_big_div {T x : Nat} (hx : x < 18446744073709551616) : (T * 18446744073709551616 + x) / 18446744073709551616 = T := by omega
theorem bl_big_mod {T x : Nat} (hx : x < 18446744073709551616) : (T * 18446744073709551616 + x) % 18446744073709551616 = x := by omega
theorem bl_pack_lt {l r : Nat} (hl : l < 4294967296) (hr : r < 4294967296) : l * 4294967296 + r < 18446744073709551616 := by omega
theorem bl_runE_succ (S n i X : Nat) : blRunE S (n + 1) i X = blRunE S n (i + 2) (blStepE S i X) := by
  delta blRunE
  rfl
theorem BlRep.step {S : Nat} {sw : Nat → Nat} (hs : ∀ i, sw i = blG S (i % 4)) {i l r : Nat} {t : List Nat} {T : Nat} (hl : l < 4294967296) (hr : r < 4294967296) (h : BlRep t T) :
    blStepE S i (T * 18446744073709551616 + (l * 4294967296 + r)) = blPut (blPut T i (ciEnc t (l ^^^ sw i) (r ^^^ sw (i + 1))).1) (i + 1) (ciEnc t (l ^^^ sw i) (r ^^^ sw (i + 1))).2 * 18446744073709551616 + ((ciEnc t (l ^^^ sw i) (r ^^^ sw (i + 1))).1 * 4294967296 + (ciEnc t (l ^^^ sw i) (r ^^^ sw (i + 1))).2) := by
  have s1 : sw i < 4294967296 := by rw [hs]; exact bl_g_lt _ _
  have s2 : sw (i + 1) < 4294967296 := by rw [hs]; exact bl_g_lt _ _
  have e := ciEnc_lt h.ciok (ci_xor hl s1) (ci_xor hr s2)
  unfold blStepE blPut2
  rw [bl_big_div (bl_pack_lt hl hr), bl_big_mod (bl_pack_lt hl hr), ← hs, ← hs, bl_xor_pack hr s2, h.enc (ci_xor hl s1) (ci_xor hr s2), bl_pack_div e.2, bl_pack_mod e.2]
theorem BlRep.run {S : Nat} (sw : Nat → Nat) (hs : ∀ i, sw i = blG S (i % 4)) (n : Nat) : ∀ i l r t T, i + 2 * n ≤ 1042 → l < 4294967296 → r < 4294967296 → BlRep t T → BlRep (ciChain sw n i l r t) (blRunE S n i (T * 18446744073709551616 + (l * 4294967296 + r)) / 18446744073709551616) := by
  induction n with
  | zero =>
    intro i l r t T _ hl hr h
    show BlRep t ((T * 18446744073709551616 + (l * 4294967296 + r)) / 18446744073709551616)
    rw [bl_big_div (bl_pack_lt hl hr)]; exact h
  | succ n ih =>
    intro i l r t T hn hl hr h
    have s1 : sw i < 4294967296 := by rw [hs]; exact bl_g_lt _ _
    have s2 : sw (i + 1) < 4294967296 := by rw [hs]; exact bl_g_lt _ _
    have e := ciEnc_lt h.ciok (ci_xor hl s1) (ci_xor hr s2)
    rw [bl_runE_succ, ciChain_succ, BlRep.step hs hl hr h]
    exact ih (i + 2) _ _ _ _ (by omega) e.1 e.2 ((h.set (by omega) e.1).set (by omega) e.2)
theorem BlRep.expand {t : List Nat} {T K S : Nat} (h : BlRep t T) (sw kw : Nat → Nat) (hk : ∀ i, i < 18 → kw i = blG K i) (h18 : ∀ i, 18 ≤ i → i < 1042 → blG K i = 0) (hs : ∀ i, sw i = blG S (i % 4)) : BlRep (ciExpand t sw kw) (blExpand T K S) := by
  have q := BlRep.run sw hs 521 0 0 0 _ _ (by omega) (by omega) (by omega) (h.key kw hk h18)
  rw [show (T ^^^ K) * 18446744073709551616 + (0 * 4294967296 + 0) = (T ^^^ K) * 18446744073709551616 by omega] at q
  exact q
/-- the document's plain table: pi's words -/
def ciPw (i : Nat) : Nat := pi_LL / 2 ^ (32 * (1041 - i)) % 4294967296
theorem ciPi_ex : ∃ l : List Nat, l = (List.range 1042).map ciPw := ⟨_, rfl⟩
noncomputable def ciPi : List Nat := Classical.choose ciPi_ex
theorem ciPi_def : ciPi = (List.range 1042).map ciPw := Classical.choose_spec ciPi_ex
def ciPk : Nat → Nat → Nat
  | 0, a => a
  | n + 1, a => ciPk n (a * 4294967296 + ciPw n)
def ciT0 : Nat := ciPk 1042 0
set_option maxRecDepth 100000 in
theorem ciT0_chk : ∀ i, i < 1042 → ciPw i = blG ciT0 i := by decide +kernel
theorem ciPi_len : ciPi.length = 1042 := by rw [ciPi_def]; rw [List.length_map, List.length_range]
theorem ciPi_at (i : Nat) (h : i < 1042) : ciW ciPi i = ciPw i := by
  rw [ciPi_def]
  unfold ciW
  rw [List.getD_eq_getElem?_getD, List.getElem?_map, List.getElem?_range h]; rfl
theorem ciPi_rep : BlRep ciPi ciT0 := ⟨ciPi_len, fun i h => by rw [ciPi_at i h, ciT0_chk i h]⟩
theorem ciPi_ok : ciOk ciPi := ciPi_rep.ciok
theorem ciWord_zero (s : ByteArray) (h : ∀ j, ciB s j = 0) (i : Nat) : ciWord s i = 0 := by
  unfold ciWord
  simp only [ciWj, h]
theorem ciWord_empty (i : Nat) : ciWord ciE i = 0 := ciWord_zero _ (fun j => by unfold ciB; exact if_pos rfl) i
theorem ciG_zero (i : Nat) : blG 0 i = 0 := by unfold blG; rw [Nat.zero_shiftRight]
theorem ciExpand_pi (s k : ByteArray) : ciOk (ciExpand ciPi (ciWord s) (ciWord k)) := ciExpand_ok ciPi_ok (ciWord_lt s) (ciWord_lt k)
theorem cipher_Blow.calls : True := trivial

/-! ### pestlelaw26_awake: function 37 -/
theorem eks_in : ∀ c : Nat, c < 32 → 4 ≤ c → eks_Rounds.f (c : Int) = some (((2 ^ c : Nat) : Int), 0) := by decide +kernel
def bxSalt : ByteArray := ⟨#[16, 65, 4, 16, 65, 4, 16, 65, 4, 16, 65, 4, 16, 65, 4, 16]⟩
noncomputable def bxTab : List Nat := ciSet bxSalt (bcKey (⟨#[85, 42, 85]⟩ : ByteArray)) 32 (ciExpand ciPi (ciWord bxSalt) (ciWord (bcKey (⟨#[85, 42, 85]⟩ : ByteArray))))
def bxEx (k : Nat) (s : ByteArray) : Prop := pi_Words.f k 0 1042 = some (ciI ciPi, 0) ∧ sextet_Coder_Decode.f k sxCrypt (⟨#[67, 67, 67, 67, 67, 67, 67, 67, 67, 67, 67, 67, 67, 67, 67, 67, 67, 67, 67, 67, 67, 46]⟩ : ByteArray) = some (bxSalt, 0) ∧ sextet_Coder_Encode.f k sxCrypt [s] = some (⟨#[69, 53, 89, 80, 79, 57, 107, 109, 121, 117, 82, 71, 121, 104, 48, 88, 111, 117, 81, 89, 98, 52, 89, 77, 74, 75, 118, 121, 79, 101, 87]⟩ : ByteArray)
noncomputable instance (k : Nat) (s : ByteArray) : Decidable (bxEx k s) := inferInstanceAs (Decidable (_ ∧ _ ∧ _))
noncomputable def pestlelaw26_awake.f (k : Nat) : Option Bool := if bxEx k (bcOut bxTab) then some true else none
theorem pestlelaw26_awake.yes {k : Nat} {r : Bool} (h : pestlelaw26_awake.f k = some r) : r = true ∧ bxEx k (bcOut bxTab) := by
  unfold pestlelaw26_awake.f at h
  by_cases q : bxEx k (bcOut bxTab)
  · rw [if_pos q] at h; exact ⟨(Option.some.inj h).symm, q⟩
  · rw [if_neg q] at h; cases h
set_option maxHeartbeats 8000000 in
set_option maxRecDepth 100000 in
theorem pestlelaw26_awake.calls (k : Nat) (r : Bool) (w : World) (h : pestlelaw26_awake.f k = some r) :
    Calls Try.prog 37 #[] w fun e w' => e = .returned (.bool r) ∧ Below w.heap.size w w' := by
  obtain ⟨rfl, hpi, hd, he⟩ := pestlelaw26_awake.yes h
  have HP := Aside0.mk hpi
  have HD := Aside0.mk hd
  have HE := Aside0.mk he
  have HB := Aside0.mk (Below.refl w.heap.size w)
  have HCK := Aside0.mk (show bcrypt_Check.f 5 bxSalt (⟨#[85, 42, 85]⟩ : ByteArray) = some 0 by decide +kernel)
  have HR := Aside0.mk (eks_in 5 (by omega) (by omega))
  have SM := fun (w : World) => bcrypt_Sum.calls k ciPi ciPi_ok hpi 5 32 bxSalt (⟨#[85, 42, 85]⟩ : ByteArray) w HCK.out HR.out (by omega) rfl (by decide)
  have SM2 := Aside0.mk SM
  obtain ⟨S, hS⟩ : ∃ S, bcOut bxTab = S := ⟨_, rfl⟩
  unfold bxTab at hS
  rw [hS] at SM2
  unfold bxTab at HE
  rw [hS] at HE
  clear SM h hpi hd he hS
  unfold bxSalt at SM2 HD
  go_enter Try.func37, Try.ntmps37
  go_wp2_with (first | (go_at_call 55; (with_reducible refine (crypt64_New.calls _).mono ?_); rintro e wn ⟨g, c, hg, hc, rfl, hp, hb⟩; have CC := Aside0.mk hp; have c0 := hp.c0; have n0_ := Aside0.mk (below_step HB.out hb); clear HB; have HB := n0_; clear n0_; clear hb hg hc hp) | (go_at_call 56; (with_reducible refine (sextet_Coder_Decode.calls k c sxCrypt _ _ _ _ (fun b hb => CC.out.coder.value b hb) HD.out).mono ?_); rintro e wn ⟨rfl, hb⟩; clear c0; have n0_ := Aside0.mk (below_step HB.out hb); have n1_ := Aside0.mk (CC.out.next hb); clear HB CC; have HB := n0_; have CC := n1_; clear n0_ n1_; clear hb) | (go_at_call 41; (with_reducible refine (SM2.out _).mono ?_); rintro e wn ⟨rfl, hb⟩; have n0_ := Aside0.mk (below_step HB.out hb); have n1_ := Aside0.mk (CC.out.next hb); clear HB CC; have HB := n0_; have CC := n1_; clear n0_ n1_; clear hb; have c0 := CC.out.c0) | (go_at_call 57; (with_reducible refine (sextet_Coder_Encode.calls1 k c sxCrypt _ _ _ _ (CC.out.coder.alloc _).letters (one_string _ _ _) HE.out).mono ?_); rintro e wn ⟨rfl, hb⟩; clear c0; have n0_ := Aside0.mk (below_step (below_alloc HB.out _) hb); clear HB; have HB := n0_; clear n0_; clear hb))
  go_ret
  exact ⟨rfl, HB.out⟩

end Go.Proofs.Ytimgndceiibaeaa.Pall
