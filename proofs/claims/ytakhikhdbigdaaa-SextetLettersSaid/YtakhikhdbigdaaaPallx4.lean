-- PRINTED by print.py (a twelfth state) out of the translation. Not trusted: Lean checks it.
import Derived.Test.YtakhikhdbigdaaaPallx0
import Derived.Test.YtakhikhdbigdaaaPallx1
import Derived.Test.YtakhikhdbigdaaaPallx2
import Derived.Test.YtakhikhdbigdaaaPallx3
namespace Go.Proofs.Ytakhikhdbigdaaa.Pall
open Go.RowKit Go.Proofs.YtakhikhdbigdaaaW.PrintWords Go.Proofs.YtakhikhdbigdaaaW.PrintLast Go.Proofs.YtakhikhdbigdaaaW.PrintMore
attribute [local go_sem] max2_int min2_int max_two min_two max_three min_three max_four min_four   -- for this text's walks alone
set_option linter.unusedVariables false
set_option linter.unusedSimpArgs false

/-! ### pestleref15_Decode: function 30 -/
mutual
def pestleref15_Decode.l0 : Nat → ByteArray → ByteArray → List Int → Int → Option (ByteArray × Int)
  | 0, _, _, _, _ => none
  | k + 1, x0, x1, x6, x7 => if x7 < (x1.size : Int) then (if 0 ≤ x7 then ((pestleref15_At.f k x0 (bt x1 x7)).bind fun t112 => (if t112 < 0 then (some ((⟨#[]⟩ : ByteArray), 8)) else (pestleref15_Decode.l1 k x0 x1 x6 x7 t112 32))) else (none)) else (pestleref15_Decode.l2 k x0 x1 x6 ([] : List Int) 0)
def pestleref15_Decode.l1 : Nat → ByteArray → ByteArray → List Int → Int → Int → Int → Option (ByteArray × Int)
  | 0, _, _, _, _, _, _ => none
  | k + 1, x0, x1, x6, x7, x8, x9 => if x9 > 0 then (if x9 = 0 then (none) else (if x6.length < 17592186044416 then (pestleref15_Decode.l1 k x0 x1 (x6 ++ [Int.tmod (wrap64 (Int.tdiv x8 x9)) 2]) x7 x8 (wrap64 (Int.tdiv x9 2))) else (none))) else (pestleref15_Decode.l0 k x0 x1 x6 (wrap64 (x7 + 1)))
def pestleref15_Decode.l2 : Nat → ByteArray → ByteArray → List Int → List Int → Int → Option (ByteArray × Int)
  | 0, _, _, _, _, _ => none
  | k + 1, x0, x1, x6, x10, x11 => if (wrap64 (x11 + 8)) ≤ (x6.length : Int) then ((pestleref15_number.f k x6 x11 8).bind fun t116 => (if x10.length < 140737488355328 then (pestleref15_Decode.l2 k x0 x1 x6 (x10 ++ [(t116) % 256]) (wrap64 (x11 + 8))) else (none))) else ((pestleref15_Encode.f k x0 (strOfNums x10)).bind fun t120 => (if t120.toList = x1.toList then (some (strOfNums x10, 0)) else (some ((⟨#[]⟩ : ByteArray), 5))))
end
def pestleref15_Decode.f (k : Nat) (a0 : ByteArray) (a1 : ByteArray) : Option (ByteArray × Int) := pestleref15_Decode.l0 k a0 a1 ([] : List Int) 0
theorem pestleref15_Decode.mono_l : ∀ k, (∀ y0 y1 y2 y3, LeO (pestleref15_Decode.l0 k y0 y1 y2 y3) (pestleref15_Decode.l0 (k + 1) y0 y1 y2 y3)) ∧ (∀ y0 y1 y2 y3 y4 y5, LeO (pestleref15_Decode.l1 k y0 y1 y2 y3 y4 y5) (pestleref15_Decode.l1 (k + 1) y0 y1 y2 y3 y4 y5)) ∧ (∀ y0 y1 y2 y3 y4, LeO (pestleref15_Decode.l2 k y0 y1 y2 y3 y4) (pestleref15_Decode.l2 (k + 1) y0 y1 y2 y3 y4))
  | 0 => ⟨fun _ _ _ _ r h => by simp [pestleref15_Decode.l0] at h, fun _ _ _ _ _ _ r h => by simp [pestleref15_Decode.l1] at h, fun _ _ _ _ _ r h => by simp [pestleref15_Decode.l2] at h⟩
  | k + 1 => by
    obtain ⟨ih0, ih1, ih2⟩ := pestleref15_Decode.mono_l k
    refine ⟨?_, ?_, ?_⟩
    · intro y0 y1 y2 y3
      unfold pestleref15_Decode.l0
      repeat' first
      | (with_reducible exact ih0 _ _ _ _)
      | (with_reducible exact ih1 _ _ _ _ _ _)
      | (with_reducible exact ih2 _ _ _ _ _)
      | (with_reducible exact pestleref15_At.mono _ _ _)
      | (with_reducible exact pestleref15_Encode.mono _ _ _)
      | (with_reducible exact pestleref15_number.mono _ _ _ _)
      | (with_reducible exact LeO.refl _)
      | (with_reducible exact LeO.none _)
      | (with_reducible refine LeO.ite ?_ ?_)
      | (with_reducible refine LeO.bind ?_ (fun _ => ?_))
      | exact ih0 _ _ _ _
      | exact ih1 _ _ _ _ _ _
      | exact ih2 _ _ _ _ _
      | exact pestleref15_At.mono _ _ _
      | exact pestleref15_Encode.mono _ _ _
      | exact pestleref15_number.mono _ _ _ _
      | exact LeO.none _
      | refine LeO.ite ?_ ?_
      | refine LeO.bind ?_ (fun _ => ?_)
    · intro y0 y1 y2 y3 y4 y5
      unfold pestleref15_Decode.l1
      repeat' first
      | (with_reducible exact ih0 _ _ _ _)
      | (with_reducible exact ih1 _ _ _ _ _ _)
      | (with_reducible exact ih2 _ _ _ _ _)
      | (with_reducible exact pestleref15_At.mono _ _ _)
      | (with_reducible exact pestleref15_Encode.mono _ _ _)
      | (with_reducible exact pestleref15_number.mono _ _ _ _)
      | (with_reducible exact LeO.refl _)
      | (with_reducible exact LeO.none _)
      | (with_reducible refine LeO.ite ?_ ?_)
      | (with_reducible refine LeO.bind ?_ (fun _ => ?_))
      | exact ih0 _ _ _ _
      | exact ih1 _ _ _ _ _ _
      | exact ih2 _ _ _ _ _
      | exact pestleref15_At.mono _ _ _
      | exact pestleref15_Encode.mono _ _ _
      | exact pestleref15_number.mono _ _ _ _
      | exact LeO.none _
      | refine LeO.ite ?_ ?_
      | refine LeO.bind ?_ (fun _ => ?_)
    · intro y0 y1 y2 y3 y4
      unfold pestleref15_Decode.l2
      repeat' first
      | (with_reducible exact ih0 _ _ _ _)
      | (with_reducible exact ih1 _ _ _ _ _ _)
      | (with_reducible exact ih2 _ _ _ _ _)
      | (with_reducible exact pestleref15_At.mono _ _ _)
      | (with_reducible exact pestleref15_Encode.mono _ _ _)
      | (with_reducible exact pestleref15_number.mono _ _ _ _)
      | (with_reducible exact LeO.refl _)
      | (with_reducible exact LeO.none _)
      | (with_reducible refine LeO.ite ?_ ?_)
      | (with_reducible refine LeO.bind ?_ (fun _ => ?_))
      | exact ih0 _ _ _ _
      | exact ih1 _ _ _ _ _ _
      | exact ih2 _ _ _ _ _
      | exact pestleref15_At.mono _ _ _
      | exact pestleref15_Encode.mono _ _ _
      | exact pestleref15_number.mono _ _ _ _
      | exact LeO.none _
      | refine LeO.ite ?_ ?_
      | refine LeO.bind ?_ (fun _ => ?_)
theorem pestleref15_Decode.mono : ∀ a0 a1 k, LeO (pestleref15_Decode.f k a0 a1) (pestleref15_Decode.f (k + 1) a0 a1) := by
  intro a0 a1 k
  obtain ⟨ih0, ih1, ih2⟩ := pestleref15_Decode.mono_l k
  unfold pestleref15_Decode.f
  repeat' first
      | (with_reducible exact ih0 _ _ _ _)
      | (with_reducible exact ih1 _ _ _ _ _ _)
      | (with_reducible exact ih2 _ _ _ _ _)
      | (with_reducible exact pestleref15_At.mono _ _ _)
      | (with_reducible exact pestleref15_Encode.mono _ _ _)
      | (with_reducible exact pestleref15_number.mono _ _ _ _)
      | (with_reducible exact LeO.refl _)
      | (with_reducible exact LeO.none _)
      | (with_reducible refine LeO.ite ?_ ?_)
      | (with_reducible refine LeO.bind ?_ (fun _ => ?_))
      | exact ih0 _ _ _ _
      | exact ih1 _ _ _ _ _ _
      | exact ih2 _ _ _ _ _
      | exact pestleref15_At.mono _ _ _
      | exact pestleref15_Encode.mono _ _ _
      | exact pestleref15_number.mono _ _ _ _
      | exact LeO.none _
      | refine LeO.ite ?_ ?_
      | refine LeO.bind ?_ (fun _ => ?_)
set_option maxHeartbeats 8000000 in
set_option maxRecDepth 100000 in
theorem pestleref15_Decode.calls (k : Nat) (a0 : ByteArray) (a1 : ByteArray) (r1 : ByteArray) (r2 : Int) (w : World) (h : pestleref15_Decode.f k a0 a1 = some (r1, r2)) :
    Calls Try.prog 30 #[.string a0, .string a1] w fun e w' => e = .returned (.tuple #[.string r1, .int .i64 r2]) ∧ Below w.heap.size w w' := by
  have HB := Aside0.mk (Below.refl w.heap.size w)
  have H : (pestleref15_Decode.l0 k a0 a1 ([] : List Int) 0) = some (r1, r2) := h
  clear h
  have H' := Aside0.mk H
  clear H
  go_enter Try.func30, Try.ntmps30
  go_wp2
  go_loopg [6, 7] k (fun kq v6 v7 w' => ∃ (x6_1 : List Int) (x7_1 : Int), v7 = .int .i64 x7_1 ∧ Aside0 (pestleref15_Decode.l0 kq a0 a1 x6_1 x7_1 = some (r1, r2)) ∧ Aside0 (kq ≤ k) ∧ Aside0 (Kd.R (Kd.int .i64) 3 w' w.heap.size (fun _ => True) v6 x6_1) ∧ Aside0 (Below w.heap.size w w'))
  case atStart => exact ⟨(([] : List Int)), (0), (by first | rfl | (simp; done) | (simp [*]; done)), H', ⟨Nat.le_refl _⟩, ⟨by first | exact Kd.R_nil _ _ _ _ _ | exact Kd.N_nil _ _ _ _ _ | exact Kd.V_nil _ _ _ _ _ | exact Kd.Q_nil _ _ _ _ _ | exact Kd.S_nil _ _ _ _ _⟩, ⟨by repeat (first | (with_reducible first | exact HB.out | apply below_alloc | apply pw_below_drewN | apply below_drew1) | exact HB.out)⟩⟩
  case round =>
    clear H'
    try clear p2
    obtain ⟨x6_1, x7_1, rfl, HA, HK1, HO_6, HB⟩ := hrel
    cases gk with
    | zero => exact absurd HA.out (by simp [pestleref15_Decode.l0])
    | succ k1 =>
      have H := HA.out
      clear HA
      simp only [pestleref15_Decode.l0] at H
      by_cases c3 : x7_1 < (a1.size : Int)
      · rw [if_pos c3] at H
        have c3b0 : decide (x7_1 < (a1.size : Int)) = true := decide_eq_true c3
        clear c3
        by_cases c4 : 0 ≤ x7_1
        · rw [if_pos c4] at H
          have c4b0 : decide (0 ≤ x7_1) = true := decide_eq_true c4
          clear c4
          replace H := Option.bind_eq_some_iff.mp H
          obtain ⟨t112, A60, H⟩ := H
          replace H : (if t112 < 0 then (some ((⟨#[]⟩ : ByteArray), 8)) else (pestleref15_Decode.l1 k1 a0 a1 x6_1 x7_1 t112 32)) = some (r1, r2) := H
          have A6 := Aside0.mk A60
          clear A60
          by_cases c7 : t112 < 0
          · rw [if_pos c7] at H
            have c7b0 : decide (t112 < 0) = true := decide_eq_true c7
            clear c7
            simp only [Option.some.injEq, Prod.mk.injEq] at H
            obtain ⟨rfl, rfl⟩ := H
            have p5 : 0 ≤ (x7_1 : Int) := of_decide_eq_true (by first | (with_reducible assumption) | assumption)
            have q5 : x7_1 < (a1.size : Int) := of_decide_eq_true (by first | (with_reducible assumption) | assumption)
            have hx5 := bt_at a1 x7_1
            replace p5 := eq_true p5
            replace q5 := eq_true q5
            go_wp2_with (first | ((with_reducible refine gate_callee (f := 52) rfl ?_); refine goesL_ (some 22) rfl rfl Try.func52 (by kernel_rfl) rfl #[.string a0, .int .u8 (bt a1 x7_1)] rfl (by (try simp only [List.map_toArray, List.map_cons, List.map_nil]); first | done | rfl | (simp only [List.length_drop, List.length_take]; rfl)) ?_; (with_reducible refine (pestleref15_At.calls k1 a0 (bt a1 x7_1) t112 _ A6.out).mono ?_); rintro e w' ⟨rfl, ⟨nd, rfl⟩⟩; refine ⟨_, rfl, ?_⟩))
            go_ret2
            exact ⟨by first | rfl | (simp [errW_none, errW_some] <;> rfl) | (simp [*, errW_none, errW_some] <;> rfl), by repeat (first | (with_reducible first | exact HB.out | apply below_alloc | apply pw_below_drewN | apply below_drew1) | exact HB.out)⟩
          · rw [if_neg c7] at H
            have c7b0 : decide (t112 < 0) = false := decide_eq_false c7
            clear c7
            have H' := Aside0.mk H
            clear H
            have p5 : 0 ≤ (x7_1 : Int) := of_decide_eq_true (by first | (with_reducible assumption) | assumption)
            have q5 : x7_1 < (a1.size : Int) := of_decide_eq_true (by first | (with_reducible assumption) | assumption)
            have hx5 := bt_at a1 x7_1
            replace p5 := eq_true p5
            replace q5 := eq_true q5
            go_wp2_with (first | ((with_reducible refine gate_callee (f := 52) rfl ?_); refine goesL_ (some 22) rfl rfl Try.func52 (by kernel_rfl) rfl #[.string a0, .int .u8 (bt a1 x7_1)] rfl (by (try simp only [List.map_toArray, List.map_cons, List.map_nil]); first | done | rfl | (simp only [List.length_drop, List.length_take]; rfl)) ?_; (with_reducible refine (pestleref15_At.calls k1 a0 (bt a1 x7_1) t112 _ A6.out).mono ?_); rintro e w' ⟨rfl, ⟨nd, rfl⟩⟩; refine ⟨_, rfl, ?_⟩))
            go_loopg [6, 9] k1 (fun kq v6 v9 w' => ∃ (x6_2 : List Int) (x9_2 : Int), v9 = .int .i64 x9_2 ∧ Aside0 (pestleref15_Decode.l1 kq a0 a1 x6_2 x7_1 t112 x9_2 = some (r1, r2)) ∧ Aside0 (kq ≤ k1) ∧ Aside0 (Kd.R (Kd.int .i64) 3 w' w.heap.size (fun _ => True) v6 x6_2) ∧ Aside0 (Below w.heap.size w w'))
            case atStart => exact ⟨(x6_1), (32), (by first | rfl | (simp; done) | (simp [*]; done)), H', ⟨Nat.le_refl _⟩, ⟨by (with_reducible repeat (first | apply Kd.R_alloc | apply Kd.R_drewN | apply Kd.R_drew)); exact HO_6.out⟩, ⟨by repeat (first | (with_reducible first | exact HB.out | apply below_alloc | apply pw_below_drewN | apply below_drew1) | exact HB.out)⟩⟩
            case round =>
              clear H'
              try clear p2
              try clear c3
              try clear c3b0
              try clear c4
              try clear c4b0
              try clear c5
              try clear p5
              try clear q5
              try clear hx5
              try clear c7
              try clear c7b0
              try clear p2
              try clear p5
              try clear q5
              obtain ⟨x6_2, x9_2, rfl, HA, HK2, HO_6, HB⟩ := hrel
              cases gk with
              | zero => exact absurd HA.out (by simp [pestleref15_Decode.l1])
              | succ k2 =>
                have H := HA.out
                clear HA
                simp only [pestleref15_Decode.l1] at H
                by_cases c8 : x9_2 > 0
                · rw [if_pos c8] at H
                  have c8b0 : decide (0 < x9_2) = true := decide_eq_true c8
                  clear c8
                  by_cases c9 : x9_2 = 0
                  · rw [if_pos c9] at H
                    exact absurd H (by simp)
                  · rw [if_neg c9] at H
                    have c9b0 : (x9_2 == 0) = false := beq_eq_false_iff_ne.mpr c9
                    have c9b1 : (x9_2 != 0) = true := bne_iff_ne.mpr c9
                    by_cases c10 : x6_2.length < 17592186044416
                    · rw [if_pos c10] at H
                      have LMc10 := Aside0.mk c10
                      clear c10
                      obtain ⟨y113, hy113⟩ : ∃ y_ : List Int, y_ = (x6_2 ++ [Int.tmod (wrap64 (Int.tdiv t112 x9_2)) 2]) := ⟨_, rfl⟩
                      replace H : (pestleref15_Decode.l1 k2 a0 a1 y113 x7_1 t112 (wrap64 (Int.tdiv x9_2 2))) = some (r1, r2) := by first | (rw [hy113]; with_reducible exact H) | (have H2_ := (Option.bind_some _ _).symm.trans H; rw [hy113]; with_reducible exact H2_) | (have H2_ := (Option.bind_some _ _).symm.trans H; with_reducible exact H2_) | with_reducible exact H | (rw [hy113]; exact H) | exact H
                      have Ny113 := Aside0.mk hy113
                      clear hy113
                      have H' := Aside0.mk H
                      clear H
                      go_wp2_with (first | ((with_reducible refine gate_builtin (b := .append) (xs := #[.tmp 29, .tmp 34]) rfl ?_); at_builtin; refine Kd.R_append (Kd.int .i64) (w0 := w) w.heap.size rfl (.tmp 29) (.tmp 34) 48 3 (.int .i64 0) 8 rfl Try.underlying48 info3 rfl (by decide) (by omega) u6 x6_2 (Int.tmod (wrap64 (Int.tdiv t112 x9_2)) 2) [.int .i64 (Int.tmod (wrap64 (Int.tdiv t112 x9_2)) 2)] (fun _ => True) (fun _ => False) rfl rfl ?aP (fun _ hk => hk.elim) ?aF ?aO ?aB ?aS ?aL ?_; (case aP => exact rfl); (case aB => exact (by repeat (first | (with_reducible first | exact HB.out | apply below_alloc | apply pw_below_drewN | apply below_drew1) | exact HB.out))); (case aF => exact (fun _ _ => trivial)); (case aO => exact (by (with_reducible repeat (first | apply Kd.R_alloc | apply Kd.R_drewN | apply Kd.R_drew)); exact HO_6.out)); (case aS => exact (below_size (by repeat (first | (with_reducible first | exact HB.out | apply below_alloc | apply pw_below_drewN | apply below_drew1) | exact HB.out)))); (case aL => have := LMc10.out; omega); intro v114 w11 ho hb hg hat; rw [← Ny113.out] at ho; have n0_ := Aside0.mk (hb); have n1_ := Aside0.mk (ho); clear HB; clear HO_6; have HB := n0_; have HO115 := n1_; clear n0_ n1_; clear ho hb hg hat))
                      go_roundg k2
                      case measure => have := HK1.out; have := HK2.out; omega
                      case rel => exact ⟨(y113), (wrap64 (Int.tdiv x9_2 2)), (by first | rfl | (simp; done) | (simp [*]; done)), H', ⟨by have := HK1.out; have := HK2.out; omega⟩, ⟨by (with_reducible repeat (first | apply Kd.R_alloc | apply Kd.R_drewN | apply Kd.R_drew)); exact HO115.out⟩, ⟨by repeat (first | (with_reducible first | exact HB.out | apply below_alloc | apply pw_below_drewN | apply below_drew1) | exact HB.out)⟩⟩
                    · rw [if_neg c10] at H
                      exact absurd H (by simp)
                · rw [if_neg c8] at H
                  have c8b0 : decide (0 < x9_2) = false := decide_eq_false c8
                  clear c8
                  have H' := Aside0.mk H
                  clear H
                  go_wp2
                  go_roundg k2
                  case measure => have := HK1.out; have := HK2.out; omega
                  case rel => exact ⟨(x6_2), (wrap64 (x7_1 + 1)), (by first | rfl | (simp; done) | (simp [*]; done)), H', ⟨by have := HK1.out; have := HK2.out; omega⟩, ⟨by (with_reducible repeat (first | apply Kd.R_alloc | apply Kd.R_drewN | apply Kd.R_drew)); exact HO_6.out⟩, ⟨by repeat (first | (with_reducible first | exact HB.out | apply below_alloc | apply pw_below_drewN | apply below_drew1) | exact HB.out)⟩⟩
        · rw [if_neg c4] at H
          exact absurd H (by simp)
      · rw [if_neg c3] at H
        have c3b0 : decide (x7_1 < (a1.size : Int)) = false := decide_eq_false c3
        clear c3
        have H' := Aside0.mk H
        clear H
        go_wp2
        go_loopg [10, 11] k1 (fun kq v10 v11 w' => ∃ (x10_2 : List Int) (x11_2 : Int), v11 = .int .i64 x11_2 ∧ Aside0 (pestleref15_Decode.l2 kq a0 a1 x6_1 x10_2 x11_2 = some (r1, r2)) ∧ Aside0 (kq ≤ k1) ∧ Aside0 (Kd.R (Kd.int .i64) 3 w' w.heap.size (fun _ => True) u6 x6_1) ∧ Aside0 (Kd.R (Kd.int .u8) 5 w' w.heap.size (fun _ => True) v10 x10_2) ∧ Aside0 (Below w.heap.size w w'))
        case atStart => exact ⟨(([] : List Int)), (0), (by first | rfl | (simp; done) | (simp [*]; done)), H', ⟨Nat.le_refl _⟩, ⟨by (with_reducible repeat (first | apply Kd.R_alloc | apply Kd.R_drewN | apply Kd.R_drew)); exact HO_6.out⟩, ⟨by first | exact Kd.R_nil _ _ _ _ _ | exact Kd.N_nil _ _ _ _ _ | exact Kd.V_nil _ _ _ _ _ | exact Kd.Q_nil _ _ _ _ _ | exact Kd.S_nil _ _ _ _ _⟩, ⟨by repeat (first | (with_reducible first | exact HB.out | apply below_alloc | apply pw_below_drewN | apply below_drew1) | exact HB.out)⟩⟩
        case round =>
          clear H'
          try clear c1
          try clear p2
          try clear c3
          try clear c3b0
          try clear c4
          try clear c4b0
          try clear c5
          try clear p5
          try clear q5
          try clear hx5
          try clear p6
          try clear c7
          try clear c7b0
          try clear c8
          try clear c8b0
          try clear c9
          try clear c9b0
          try clear c9b1
          try clear c10
          try clear p2
          try clear p5
          try clear q5
          obtain ⟨x10_2, x11_2, rfl, HA, HK2, HO_6, HO_10, HB⟩ := hrel
          cases gk with
          | zero => exact absurd HA.out (by simp [pestleref15_Decode.l2])
          | succ k2 =>
            have H := HA.out
            clear HA
            simp only [pestleref15_Decode.l2] at H
            by_cases c12 : (wrap64 (x11_2 + 8)) ≤ (x6_1.length : Int)
            · rw [if_pos c12] at H
              have c12b0 : decide ((wrap64 (x11_2 + 8)) ≤ (x6_1.length : Int)) = true := decide_eq_true c12
              clear c12
              replace H := Option.bind_eq_some_iff.mp H
              obtain ⟨t116, A130, H⟩ := H
              replace H : (if x10_2.length < 140737488355328 then (pestleref15_Decode.l2 k2 a0 a1 x6_1 (x10_2 ++ [(t116) % 256]) (wrap64 (x11_2 + 8))) else (none)) = some (r1, r2) := H
              have A13 := Aside0.mk A130
              clear A130
              by_cases c14 : x10_2.length < 140737488355328
              · rw [if_pos c14] at H
                have LMc14 := Aside0.mk c14
                clear c14
                obtain ⟨y117, hy117⟩ : ∃ y_ : List Int, y_ = (x10_2 ++ [(t116) % 256]) := ⟨_, rfl⟩
                replace H : (pestleref15_Decode.l2 k2 a0 a1 x6_1 y117 (wrap64 (x11_2 + 8))) = some (r1, r2) := by first | (rw [hy117]; with_reducible exact H) | (have H2_ := (Option.bind_some _ _).symm.trans H; rw [hy117]; with_reducible exact H2_) | (have H2_ := (Option.bind_some _ _).symm.trans H; with_reducible exact H2_) | with_reducible exact H | (rw [hy117]; exact H) | exact H
                have Ny117 := Aside0.mk hy117
                clear hy117
                have H' := Aside0.mk H
                clear H
                obtain ⟨Ao15, co15, eo15⟩ := Kd.R_slice HO_6.out
                subst eo15
                go_wp2_with (first | ((with_reducible refine gate_callee (f := 53) rfl ?_); refine goesL_ (some 46) rfl rfl Try.func53 (by kernel_rfl) rfl #[.slice Ao15 x6_1.length co15, .int .i64 x11_2, .int .i64 8] rfl (by (try simp only [List.map_toArray, List.map_cons, List.map_nil]); first | done | rfl | (simp only [List.length_drop, List.length_take]; rfl)) ?_; (with_reducible refine (pestleref15_number.calls k2 _ _ x6_1 x11_2 8 t116 _ ?side1 ?side2 A13.out).mono ?_); (case side1 => repeat (first | exact (Kd.R_reads' HO_6.out).2.2 | (with_reducible refine Kd.C_alloc ?_ _) | (with_reducible refine Kd.C_drewN ?_ _) | (with_reducible refine Kd.C_drew ?_))); (case side2 => exact (Kd.R_reads' HO_6.out).2.1); rintro e w' ⟨rfl, ⟨nd, rfl⟩⟩; refine ⟨_, rfl, ?_⟩) | ((with_reducible refine gate_builtin (b := .append) (xs := #[.tmp 43, .tmp 48]) rfl ?_); at_builtin; refine Kd.R_append (Kd.int .u8) (w0 := w) w.heap.size rfl (.tmp 43) (.tmp 48) 66 5 (.int .u8 0) 1 rfl Try.underlying66 info5 rfl (by decide) (by omega) u10 x10_2 ((t116) % 256) [.int .u8 ((t116) % 256)] (fun _ => True) (fun _ => False) rfl rfl ?aP (fun _ hk => hk.elim) ?aF ?aO ?aB ?aS ?aL ?_; (case aP => exact rfl); (case aB => exact (by repeat (first | (with_reducible first | exact HB.out | apply below_alloc | apply pw_below_drewN | apply below_drew1) | exact HB.out))); (case aF => exact (fun _ _ => trivial)); (case aO => exact (by (with_reducible repeat (first | apply Kd.R_alloc | apply Kd.R_drewN | apply Kd.R_drew)); exact HO_10.out)); (case aS => exact (below_size (by repeat (first | (with_reducible first | exact HB.out | apply below_alloc | apply pw_below_drewN | apply below_drew1) | exact HB.out)))); (case aL => have := LMc14.out; omega); intro v118 w16 ho hb hg hat; rw [← Ny117.out] at ho; have n0_ := Aside0.mk (Kd.R_over' (by (with_reducible repeat (first | apply Kd.R_alloc | apply Kd.R_drewN | apply Kd.R_drew)); exact HO_6.out) (Kd.R_typed (by (with_reducible repeat (first | apply Kd.R_alloc | apply Kd.R_drewN | apply Kd.R_drew)); exact HO_10.out)) (by decide) hg); have n1_ := Aside0.mk (hb); have n2_ := Aside0.mk (ho); clear HO_6; clear HB; clear HO_10; have HO_6 := n0_; have HB := n1_; have HO119 := n2_; clear n0_ n1_ n2_; clear ho hb hg hat))
                go_roundg k2
                case measure => have := HK1.out; have := HK2.out; omega
                case rel => exact ⟨(y117), (wrap64 (x11_2 + 8)), (by first | rfl | (simp; done) | (simp [*]; done)), H', ⟨by have := HK1.out; have := HK2.out; omega⟩, ⟨by (with_reducible repeat (first | apply Kd.R_alloc | apply Kd.R_drewN | apply Kd.R_drew)); exact HO_6.out⟩, ⟨by (with_reducible repeat (first | apply Kd.R_alloc | apply Kd.R_drewN | apply Kd.R_drew)); exact HO119.out⟩, ⟨by repeat (first | (with_reducible first | exact HB.out | apply below_alloc | apply pw_below_drewN | apply below_drew1) | exact HB.out)⟩⟩
              · rw [if_neg c14] at H
                exact absurd H (by simp)
            · rw [if_neg c12] at H
              have c12b0 : decide ((wrap64 (x11_2 + 8)) ≤ (x6_1.length : Int)) = false := decide_eq_false c12
              clear c12
              replace H := Option.bind_eq_some_iff.mp H
              obtain ⟨t120, A170, H⟩ := H
              replace H : (if t120.toList = a1.toList then (some (strOfNums x10_2, 0)) else (some ((⟨#[]⟩ : ByteArray), 5))) = some (r1, r2) := H
              have A17 := Aside0.mk A170
              clear A170
              by_cases c18 : t120.toList = a1.toList
              · rw [if_pos c18] at H
                have c18b0 : (t120.toList == a1.toList) = true := beq_iff_eq.mpr c18
                have c18b1 : (t120.toList != a1.toList) = false := bne_eq_false_iff_eq.mpr c18
                clear c18
                simp only [Option.some.injEq, Prod.mk.injEq] at H
                obtain ⟨rfl, rfl⟩ := H
                obtain ⟨Ao19, co19, eo19⟩ := Kd.R_slice HO_6.out
                subst eo19
                have hcv20 := own_string (P := Try.prog) Try.underlying66 Try.underlying5 Try.underlying9 (Kd.own_of_R HO_10.out)
                go_wp2_with (first | ((with_reducible refine gate_callee (f := 32) rfl ?_); refine goesL_ (some 53) rfl rfl Try.func32 (by kernel_rfl) rfl #[.string a0, .string (strOfNums x10_2)] rfl (by (try simp only [List.map_toArray, List.map_cons, List.map_nil]); first | done | rfl | (simp only [List.length_drop, List.length_take]; rfl)) ?_; (with_reducible refine (pestleref15_Encode.calls k2 a0 (strOfNums x10_2) t120 _ A17.out).mono ?_); rintro e w21 ⟨rfl, hb⟩; refine ⟨_, rfl, ?_⟩; have n0_ := Aside0.mk (Kd.R_below (by (with_reducible repeat (first | apply Kd.R_alloc | apply Kd.R_drewN | apply Kd.R_drew)); exact HO_6.out) hb); have n1_ := Aside0.mk (Kd.R_below (by (with_reducible repeat (first | apply Kd.R_alloc | apply Kd.R_drewN | apply Kd.R_drew)); exact HO_10.out) hb); have n2_ := Aside0.mk (below_step (by repeat (first | (with_reducible first | exact HB.out | apply below_alloc | apply pw_below_drewN | apply below_drew1) | exact HB.out)) hb); clear HO_6; clear HO_10; clear HB; have HO_6 := n0_; have HO_10 := n1_; have HB := n2_; clear n0_ n1_ n2_; (try clear hb); (try clear hb2); (try clear hk); (try clear hi); have hcv22 := own_string (P := Try.prog) Try.underlying66 Try.underlying5 Try.underlying9 (Kd.own_of_R HO_10.out)))
                go_ret2
                exact ⟨by first | rfl | (simp [errW_none, errW_some] <;> rfl) | (simp [*, errW_none, errW_some] <;> rfl), by repeat (first | (with_reducible first | exact HB.out | apply below_alloc | apply pw_below_drewN | apply below_drew1) | exact HB.out)⟩
              · rw [if_neg c18] at H
                have c18b0 : (t120.toList == a1.toList) = false := beq_eq_false_iff_ne.mpr c18
                have c18b1 : (t120.toList != a1.toList) = true := bne_iff_ne.mpr c18
                simp only [Option.some.injEq, Prod.mk.injEq] at H
                obtain ⟨rfl, rfl⟩ := H
                obtain ⟨Ao23, co23, eo23⟩ := Kd.R_slice HO_6.out
                subst eo23
                have hcv24 := own_string (P := Try.prog) Try.underlying66 Try.underlying5 Try.underlying9 (Kd.own_of_R HO_10.out)
                go_wp2_with (first | ((with_reducible refine gate_callee (f := 32) rfl ?_); refine goesL_ (some 53) rfl rfl Try.func32 (by kernel_rfl) rfl #[.string a0, .string (strOfNums x10_2)] rfl (by (try simp only [List.map_toArray, List.map_cons, List.map_nil]); first | done | rfl | (simp only [List.length_drop, List.length_take]; rfl)) ?_; (with_reducible refine (pestleref15_Encode.calls k2 a0 (strOfNums x10_2) t120 _ A17.out).mono ?_); rintro e w25 ⟨rfl, hb⟩; refine ⟨_, rfl, ?_⟩; have n0_ := Aside0.mk (Kd.R_below (by (with_reducible repeat (first | apply Kd.R_alloc | apply Kd.R_drewN | apply Kd.R_drew)); exact HO_6.out) hb); have n1_ := Aside0.mk (Kd.R_below (by (with_reducible repeat (first | apply Kd.R_alloc | apply Kd.R_drewN | apply Kd.R_drew)); exact HO_10.out) hb); have n2_ := Aside0.mk (below_step (by repeat (first | (with_reducible first | exact HB.out | apply below_alloc | apply pw_below_drewN | apply below_drew1) | exact HB.out)) hb); clear HO_6; clear HO_10; clear HB; have HO_6 := n0_; have HO_10 := n1_; have HB := n2_; clear n0_ n1_ n2_; (try clear hb); (try clear hb2); (try clear hk); (try clear hi)))
                go_ret2
                exact ⟨by first | rfl | (simp [errW_none, errW_some] <;> rfl) | (simp [*, errW_none, errW_some] <;> rfl), by repeat (first | (with_reducible first | exact HB.out | apply below_alloc | apply pw_below_drewN | apply below_drew1) | exact HB.out)⟩

/-! ### pestlelaw15_SextetCodes: function 6 -/
def pestlelaw15_SextetCodes.good (k : Nat) (a0 : ByteArray) (l1 : List ByteArray) (a2 : ByteArray) : Option Bool := (sextet_Coder_Decode.f k a0 a2).bind fun d => (pestleref15_Decode.f k a0 a2).bind fun g => (sextet_Coder_Encode.f k a0 l1).bind fun x => (pestleref04_Joined.f k l1).bind fun j => (pestleref15_Encode.f k a0 j).bind fun y => (if sxErr a0 = 0 ∧ x = y ∧ d = g then some true else none)
def pestlelaw15_SextetCodes.f (k : Nat) (a0 : ByteArray) (l1 : List ByteArray) (a2 : ByteArray) : Option Bool := (pestlelaw15_awake.f k).bind fun _ => (if a0.size > 200 then some true else (if l1.length > 20 then some true else (pestleref04_Bytes.f k l1).bind fun n => (if n > 300 then some true else (if a2.size > 300 then some true else (pestleref15_Letters.f k a0).bind fun why => (if why = 0 then pestlelaw15_SextetCodes.good k a0 l1 a2 else (if sxErr a0 = why then some true else none))))))
theorem pestlelaw15_SextetCodes.mono : ∀ a0 l1 a2 k, LeO (pestlelaw15_SextetCodes.f k a0 l1 a2) (pestlelaw15_SextetCodes.f (k + 1) a0 l1 a2) := by
  intro a0 l1 a2 k
  unfold pestlelaw15_SextetCodes.f pestlelaw15_SextetCodes.good
  exact LeO.bind (pestlelaw15_awake.mono _) (fun _ => LeO.ite (LeO.refl _) (LeO.ite (LeO.refl _) (LeO.bind (pestleref04_Bytes.mono _ _) (fun _ => LeO.ite (LeO.refl _) (LeO.ite (LeO.refl _) (LeO.bind (pestleref15_Letters.mono _ _) (fun _ => LeO.ite (LeO.bind (sextet_Coder_Decode.mono _ _ _) (fun _ => LeO.bind (pestleref15_Decode.mono _ _ _) (fun _ => LeO.bind (sextet_Coder_Encode.mono _ _ _) (fun _ => LeO.bind (pestleref04_Joined.mono _ _) (fun _ => LeO.bind (pestleref15_Encode.mono _ _ _) (fun _ => LeO.refl _)))))) (LeO.refl _))))))))
theorem pestlelaw15_SextetCodes.yes {k : Nat} {a0 : ByteArray} {l1 : List ByteArray} {a2 : ByteArray} {r : Bool} (h : pestlelaw15_SextetCodes.f k a0 l1 a2 = some r) : r = true := by
  unfold pestlelaw15_SextetCodes.f pestlelaw15_SextetCodes.good at h
  obtain ⟨_, _, h⟩ := Option.bind_eq_some_iff.mp h
  split at h
  · exact (Option.some.inj h).symm
  split at h
  · exact (Option.some.inj h).symm
  obtain ⟨_, _, h⟩ := Option.bind_eq_some_iff.mp h
  split at h
  · exact (Option.some.inj h).symm
  split at h
  · exact (Option.some.inj h).symm
  obtain ⟨_, _, h⟩ := Option.bind_eq_some_iff.mp h
  split at h
  · obtain ⟨_, _, h⟩ := Option.bind_eq_some_iff.mp h
    obtain ⟨_, _, h⟩ := Option.bind_eq_some_iff.mp h
    obtain ⟨_, _, h⟩ := Option.bind_eq_some_iff.mp h
    obtain ⟨_, _, h⟩ := Option.bind_eq_some_iff.mp h
    obtain ⟨_, _, h⟩ := Option.bind_eq_some_iff.mp h
    split at h
    · exact (Option.some.inj h).symm
    · cases h
  · split at h
    · exact (Option.some.inj h).symm
    · cases h
set_option maxHeartbeats 8000000 in
set_option maxRecDepth 100000 in
theorem pestlelaw15_SextetCodes.calls (k : Nat) (a0 : ByteArray) (A1 : Option Addr) (c1 : Nat) (l1 : List ByteArray) (a2 : ByteArray) (r : Bool) (w : World) (hr1 : Kd.C Kd.string w A1 l1.length l1) (hc1 : l1.length ≤ c1) (h : pestlelaw15_SextetCodes.f k a0 l1 a2 = some r) :
    Calls Try.prog 6 #[.string a0, .slice A1 l1.length c1, .string a2] w fun e w' => e = .returned (.bool r) ∧ Below w.heap.size w w' := by
  have hr := pestlelaw15_SextetCodes.yes h
  subst hr
  unfold pestlelaw15_SextetCodes.f at h
  obtain ⟨aw, A0, h⟩ := Option.bind_eq_some_iff.mp h
  obtain rfl := pestlelaw15_awake.yes A0
  replace A0 := Aside0.mk A0
  have HB := Aside0.mk (Below.refl w.heap.size w)
  have HR := Aside0.mk hr1
  clear hr1
  by_cases g1 : a0.size > 200
  · have g1b : decide ((200 : Int) < ((a0.size : Nat) : Int)) = true := decide_eq_true (by omega)
    have g1d : decide (200 < a0.size) = true := decide_eq_true g1
    clear h
    go_enter Try.func6, Try.ntmps6
    go_wp2_with (first | (go_at_call 26; refine (pestlelaw15_awake.calls k true _ A0.out).mono ?_; rintro e wn ⟨rfl, hb⟩; have n0_ := Aside0.mk (below_step HB.out hb); have n1_ := Aside0.mk (Kd.C_below HR.out hb); clear HB hb; clear HR; have HB := n0_; clear n0_; have HR := n1_; clear n1_))
    go_ret
    exact ⟨rfl, HB.out⟩
  rw [if_neg g1] at h
  have g1b : decide ((200 : Int) < ((a0.size : Nat) : Int)) = false := decide_eq_false (by omega)
  have g1d : decide (200 < a0.size) = false := decide_eq_false g1
  by_cases g2 : l1.length > 20
  · have g2b : decide ((20 : Int) < ((l1.length : Nat) : Int)) = true := decide_eq_true (by omega)
    have g2d : decide (20 < l1.length) = true := decide_eq_true g2
    clear h
    go_enter Try.func6, Try.ntmps6
    go_wp2_with (first | (go_at_call 26; refine (pestlelaw15_awake.calls k true _ A0.out).mono ?_; rintro e wn ⟨rfl, hb⟩; have n0_ := Aside0.mk (below_step HB.out hb); have n1_ := Aside0.mk (Kd.C_below HR.out hb); clear HB hb; clear HR; have HB := n0_; clear n0_; have HR := n1_; clear n1_))
    go_ret
    exact ⟨rfl, HB.out⟩
  rw [if_neg g2] at h
  have g2b : decide ((20 : Int) < ((l1.length : Nat) : Int)) = false := decide_eq_false (by omega)
  have g2d : decide (20 < l1.length) = false := decide_eq_false g2
  obtain ⟨n, A1, h⟩ := Option.bind_eq_some_iff.mp h
  replace A1 := Aside0.mk A1
  by_cases g3 : n > 300
  · have g3b : decide ((300 : Int) < n) = true := decide_eq_true g3
    clear h
    go_enter Try.func6, Try.ntmps6
    go_wp2_with (first | (go_at_call 26; refine (pestlelaw15_awake.calls k true _ A0.out).mono ?_; rintro e wn ⟨rfl, hb⟩; have n0_ := Aside0.mk (below_step HB.out hb); have n1_ := Aside0.mk (Kd.C_below HR.out hb); clear HB hb; clear HR; have HB := n0_; clear n0_; have HR := n1_; clear n1_) | (go_at_call 20; refine (pestleref04_Bytes.calls k _ _ l1 n _ HR.out hc1 A1.out).mono ?_; rintro e wn ⟨rfl, hdr⟩; have hb := below_of_drawn hdr; clear hdr; have n0_ := Aside0.mk (below_step HB.out hb); have n1_ := Aside0.mk (Kd.C_below HR.out hb); clear HB hb; clear HR; have HB := n0_; clear n0_; have HR := n1_; clear n1_))
    go_ret
    exact ⟨rfl, HB.out⟩
  rw [if_neg g3] at h
  have g3b : decide ((300 : Int) < n) = false := decide_eq_false g3
  by_cases g4 : a2.size > 300
  · have g4b : decide ((300 : Int) < ((a2.size : Nat) : Int)) = true := decide_eq_true (by omega)
    have g4d : decide (300 < a2.size) = true := decide_eq_true g4
    clear h
    go_enter Try.func6, Try.ntmps6
    go_wp2_with (first | (go_at_call 26; refine (pestlelaw15_awake.calls k true _ A0.out).mono ?_; rintro e wn ⟨rfl, hb⟩; have n0_ := Aside0.mk (below_step HB.out hb); have n1_ := Aside0.mk (Kd.C_below HR.out hb); clear HB hb; clear HR; have HB := n0_; clear n0_; have HR := n1_; clear n1_) | (go_at_call 20; refine (pestleref04_Bytes.calls k _ _ l1 n _ HR.out hc1 A1.out).mono ?_; rintro e wn ⟨rfl, hdr⟩; have hb := below_of_drawn hdr; clear hdr; have n0_ := Aside0.mk (below_step HB.out hb); have n1_ := Aside0.mk (Kd.C_below HR.out hb); clear HB hb; clear HR; have HB := n0_; clear n0_; have HR := n1_; clear n1_))
    go_ret
    exact ⟨rfl, HB.out⟩
  rw [if_neg g4] at h
  have g4b : decide ((300 : Int) < ((a2.size : Nat) : Int)) = false := decide_eq_false (by omega)
  have g4d : decide (300 < a2.size) = false := decide_eq_false g4
  obtain ⟨why, A2, h⟩ := Option.bind_eq_some_iff.mp h
  replace A2 := Aside0.mk A2
  have hsz : a0.size ≤ 9223372036854775807 := by omega
  by_cases z : why = 0
  case neg =>
    rw [if_neg z] at h
    by_cases q : sxErr a0 = why
    case neg => rw [if_neg q] at h; cases h
    clear h
    have E0 := Aside0.mk (show ¬ sxErr a0 = 0 by rw [q]; exact z)
    have EQ := Aside0.mk q
    have z1 : (why != 0) = true := by simpa using z
    have z2 : (why == 0) = false := by simpa using z
    clear q z
    go_enter Try.func6, Try.ntmps6
    go_wp2_with (first | (go_at_call 26; refine (pestlelaw15_awake.calls k true _ A0.out).mono ?_; rintro e wn ⟨rfl, hb⟩; have n0_ := Aside0.mk (below_step HB.out hb); have n1_ := Aside0.mk (Kd.C_below HR.out hb); clear HB hb; clear HR; have HB := n0_; clear n0_; have HR := n1_; clear n1_) | (go_at_call 20; refine (pestleref04_Bytes.calls k _ _ l1 n _ HR.out hc1 A1.out).mono ?_; rintro e wn ⟨rfl, hdr⟩; have hb := below_of_drawn hdr; clear hdr; have n0_ := Aside0.mk (below_step HB.out hb); have n1_ := Aside0.mk (Kd.C_below HR.out hb); clear HB hb; clear HR; have HB := n0_; clear n0_; have HR := n1_; clear n1_) | (go_at_call 27; refine (sextet_New.calls a0 _ hsz).mono ?_; intro e wn hn; obtain ⟨_, rfl, hb⟩ := (show sxErr a0 = 0 ∧ _ ∨ _ from hn).resolve_left (fun q => E0.out q.1); rw [EQ.out]; have n0_ := Aside0.mk (below_step HB.out hb); have n1_ := Aside0.mk (Kd.C_below HR.out hb); clear HB hb; clear HR; have HB := n0_; clear n0_; have HR := n1_; clear n1_) | (go_at_call 28; refine (pestleref15_Letters.calls k a0 why _ A2.out).mono ?_; rintro e wn ⟨rfl, hdr⟩; have hb := below_of_drawn hdr; clear hdr; have n0_ := Aside0.mk (below_step HB.out hb); have n1_ := Aside0.mk (Kd.C_below HR.out hb); clear HB hb; clear HR; have HB := n0_; clear n0_; have HR := n1_; clear n1_))
    go_ret
    exact ⟨rfl, HB.out⟩
  subst z
  rw [if_pos rfl] at h
  unfold pestlelaw15_SextetCodes.good at h
  obtain ⟨⟨d1, d2⟩, A3, h⟩ := Option.bind_eq_some_iff.mp h
  obtain ⟨⟨g1, g2⟩, A4, h⟩ := Option.bind_eq_some_iff.mp h
  obtain ⟨x, A5, h⟩ := Option.bind_eq_some_iff.mp h
  obtain ⟨j, A6, h⟩ := Option.bind_eq_some_iff.mp h
  obtain ⟨y, A7, h⟩ := Option.bind_eq_some_iff.mp h
  by_cases q : sxErr a0 = 0 ∧ x = y ∧ (d1, d2) = (g1, g2)
  case neg => rw [if_neg q] at h; cases h
  clear h
  obtain ⟨q0, rfl, q2⟩ := q
  simp only [Prod.mk.injEq] at q2
  obtain ⟨rfl, rfl⟩ := q2
  have E0 := Aside0.mk q0
  clear q0
  replace A3 := Aside0.mk A3
  replace A4 := Aside0.mk A4
  replace A5 := Aside0.mk A5
  replace A6 := Aside0.mk A6
  replace A7 := Aside0.mk A7
  go_enter Try.func6, Try.ntmps6
  go_wp2_with (first | (go_at_call 26; refine (pestlelaw15_awake.calls k true _ A0.out).mono ?_; rintro e wn ⟨rfl, hb⟩; have n0_ := Aside0.mk (below_step HB.out hb); have n1_ := Aside0.mk (Kd.C_below HR.out hb); clear HB hb; clear HR; have HB := n0_; clear n0_; have HR := n1_; clear n1_) | (go_at_call 20; refine (pestleref04_Bytes.calls k _ _ l1 n _ HR.out hc1 A1.out).mono ?_; rintro e wn ⟨rfl, hdr⟩; have hb := below_of_drawn hdr; clear hdr; have n0_ := Aside0.mk (below_step HB.out hb); have n1_ := Aside0.mk (Kd.C_below HR.out hb); clear HB hb; clear HR; have HB := n0_; clear n0_; have HR := n1_; clear n1_) | (go_at_call 27; refine (sextet_New.calls a0 _ hsz).mono ?_; intro e wn hn; obtain ⟨_, g, hg, rfl, hc, hb⟩ := hn.resolve_right (fun q => q.1 E0.out); have n0_ := Aside0.mk (below_step HB.out hb); have n1_ := Aside0.mk (Kd.C_below HR.out hb); have HC := Aside0.mk hc; clear HB hb; clear HR; have HB := n0_; clear n0_; have HR := n1_; clear n1_; clear hc) | (go_at_call 28; refine (pestleref15_Letters.calls k a0 0 _ A2.out).mono ?_; rintro e wn ⟨rfl, hdr⟩; have hb := below_of_drawn hdr; clear hdr; have n0_ := Aside0.mk (below_step HB.out hb); have n1_ := Aside0.mk (Kd.C_below HR.out hb); have n2_ := Aside0.mk (Coder.below HC.out hb (blk_lt HC.out)); clear HB hb; clear HR; clear HC; have HB := n0_; clear n0_; have HR := n1_; clear n1_; have HC := n2_; clear n2_) | (go_at_call 29; refine (sextet_Coder_Decode.calls k g a0 a2 d1 d2 _ HC.out.value A3.out).mono ?_; rintro e wn ⟨rfl, hb⟩; have n0_ := Aside0.mk (below_step HB.out hb); have n1_ := Aside0.mk (Kd.C_below HR.out hb); have n2_ := Aside0.mk (Coder.below HC.out hb (blk_lt HC.out)); clear HB hb; clear HR; clear HC; have HB := n0_; clear n0_; have HR := n1_; clear n1_; have HC := n2_; clear n2_) | (go_at_call 30; refine (pestleref15_Decode.calls k a0 a2 d1 d2 _ A4.out).mono ?_; rintro e wn ⟨rfl, hb⟩; have n0_ := Aside0.mk (below_step HB.out hb); have n1_ := Aside0.mk (Kd.C_below HR.out hb); have n2_ := Aside0.mk (Coder.below HC.out hb (blk_lt HC.out)); clear HB hb; clear HR; clear HC; have HB := n0_; clear n0_; have HR := n1_; clear n1_; have HC := n2_; clear n2_) | (go_at_call 31; refine (sextet_Coder_Encode.calls k g a0 _ _ l1 x _ HC.out.letters HR.out hc1 A5.out).mono ?_; rintro e wn ⟨rfl, hb⟩; have n0_ := Aside0.mk (below_step HB.out hb); have n1_ := Aside0.mk (Kd.C_below HR.out hb); have n2_ := Aside0.mk (Coder.below HC.out hb (blk_lt HC.out)); clear HB hb; clear HR; clear HC; have HB := n0_; clear n0_; have HR := n1_; clear n1_; have HC := n2_; clear n2_) | (go_at_call 21; refine (pestleref04_Joined.calls k _ _ l1 j _ HR.out hc1 A6.out).mono ?_; rintro e wn ⟨rfl, hdr⟩; have hb := below_of_drawn hdr; clear hdr; have n0_ := Aside0.mk (below_step HB.out hb); have n1_ := Aside0.mk (Kd.C_below HR.out hb); have n2_ := Aside0.mk (Coder.below HC.out hb (blk_lt HC.out)); clear HB hb; clear HR; clear HC; have HB := n0_; clear n0_; have HR := n1_; clear n1_; have HC := n2_; clear n2_) | (go_at_call 32; refine (pestleref15_Encode.calls k a0 j x _ A7.out).mono ?_; rintro e wn ⟨rfl, hb⟩; have n0_ := Aside0.mk (below_step HB.out hb); have n1_ := Aside0.mk (Kd.C_below HR.out hb); have n2_ := Aside0.mk (Coder.below HC.out hb (blk_lt HC.out)); clear HB hb; clear HR; clear HC; have HB := n0_; clear n0_; have HR := n1_; clear n1_; have HC := n2_; clear n2_))
  go_ret
  exact ⟨rfl, HB.out⟩

/-! ### pestlelaw15_SextetBack: function 7 -/
def pestlelaw15_SextetBack.f (k : Nat) (a0 : ByteArray) (l1 : List ByteArray) (a2 : ByteArray) : Option Bool := (pestlelaw15_awake.f k).bind fun _ => (if a0.size > 9223372036854775807 then none else (if sxErr a0 = 0 then (if l1.length > 20 then some true else (pestleref04_Bytes.f k l1).bind fun n => (if n > 300 then some true else (if a2.size > 300 then some true else (sextet_Coder_Encode.f k a0 l1).bind fun x => (sextet_Coder_Decode.f k a0 x).bind fun d => (pestleref04_Joined.f k l1).bind fun j => (sextet_Coder_Decode.f k a0 a2).bind fun e => (if d = (j, 0) then (if e.2 = 0 then (sextet_Coder_Encode.f k a0 [e.1]).bind fun y => (if y = a2 then some true else none) else (if e.1.toList = [] then some true else none)) else none)))) else some true))
theorem pestlelaw15_SextetBack.mono : ∀ a0 l1 a2 k, LeO (pestlelaw15_SextetBack.f k a0 l1 a2) (pestlelaw15_SextetBack.f (k + 1) a0 l1 a2) := by
  intro a0 l1 a2 k
  unfold pestlelaw15_SextetBack.f
  exact LeO.bind (pestlelaw15_awake.mono _) (fun _ => LeO.ite (LeO.refl _) (LeO.ite (LeO.ite (LeO.refl _) (LeO.bind (pestleref04_Bytes.mono _ _) (fun _ => LeO.ite (LeO.refl _) (LeO.ite (LeO.refl _) (LeO.bind (sextet_Coder_Encode.mono _ _ _) (fun _ => LeO.bind (sextet_Coder_Decode.mono _ _ _) (fun _ => LeO.bind (pestleref04_Joined.mono _ _) (fun _ => LeO.bind (sextet_Coder_Decode.mono _ _ _) (fun _ => LeO.ite (LeO.ite (LeO.bind (sextet_Coder_Encode.mono _ _ _) (fun _ => LeO.refl _)) (LeO.refl _)) (LeO.refl _)))))))))) (LeO.refl _)))
theorem pestlelaw15_SextetBack.yes {k : Nat} {a0 : ByteArray} {l1 : List ByteArray} {a2 : ByteArray} {r : Bool} (h : pestlelaw15_SextetBack.f k a0 l1 a2 = some r) : r = true := by
  unfold pestlelaw15_SextetBack.f at h
  obtain ⟨_, _, h⟩ := Option.bind_eq_some_iff.mp h
  split at h
  · cases h
  split at h
  · split at h
    · exact (Option.some.inj h).symm
    obtain ⟨_, _, h⟩ := Option.bind_eq_some_iff.mp h
    split at h
    · exact (Option.some.inj h).symm
    split at h
    · exact (Option.some.inj h).symm
    obtain ⟨_, _, h⟩ := Option.bind_eq_some_iff.mp h
    obtain ⟨_, _, h⟩ := Option.bind_eq_some_iff.mp h
    obtain ⟨_, _, h⟩ := Option.bind_eq_some_iff.mp h
    obtain ⟨_, _, h⟩ := Option.bind_eq_some_iff.mp h
    split at h
    · split at h
      · obtain ⟨_, _, h⟩ := Option.bind_eq_some_iff.mp h
        split at h
        · exact (Option.some.inj h).symm
        · cases h
      · split at h
        · exact (Option.some.inj h).symm
        · cases h
    · cases h
  · exact (Option.some.inj h).symm
set_option maxHeartbeats 8000000 in
set_option maxRecDepth 100000 in
theorem pestlelaw15_SextetBack.calls (k : Nat) (a0 : ByteArray) (A1 : Option Addr) (c1 : Nat) (l1 : List ByteArray) (a2 : ByteArray) (r : Bool) (w : World) (hr1 : Kd.C Kd.string w A1 l1.length l1) (hc1 : l1.length ≤ c1) (h : pestlelaw15_SextetBack.f k a0 l1 a2 = some r) :
    Calls Try.prog 7 #[.string a0, .slice A1 l1.length c1, .string a2] w fun e w' => e = .returned (.bool r) ∧ Below w.heap.size w w' := by
  have hr := pestlelaw15_SextetBack.yes h
  subst hr
  unfold pestlelaw15_SextetBack.f at h
  obtain ⟨aw, A0, h⟩ := Option.bind_eq_some_iff.mp h
  obtain rfl := pestlelaw15_awake.yes A0
  replace A0 := Aside0.mk A0
  have HB := Aside0.mk (Below.refl w.heap.size w)
  have HR := Aside0.mk hr1
  clear hr1
  by_cases hsz : a0.size > 9223372036854775807
  · rw [if_pos hsz] at h; cases h
  rw [if_neg hsz] at h
  replace hsz : a0.size ≤ 9223372036854775807 := by omega
  by_cases z : sxErr a0 = 0
  case neg =>
    have E0 := Aside0.mk z
    have z1 : (sxErr a0 != 0) = true := by simpa using z
    have z2 : (sxErr a0 == 0) = false := by simpa using z
    clear z h
    go_enter Try.func7, Try.ntmps7
    go_wp2_with (first | (go_at_call 26; refine (pestlelaw15_awake.calls k true _ A0.out).mono ?_; rintro e wn ⟨rfl, hb⟩; have n0_ := Aside0.mk (below_step HB.out hb); have n1_ := Aside0.mk (Kd.C_below HR.out hb); clear HB hb; clear HR; have HB := n0_; clear n0_; have HR := n1_; clear n1_) | (go_at_call 27; refine (sextet_New.calls a0 _ hsz).mono ?_; intro e wn hn; obtain ⟨_, rfl, hb⟩ := hn.resolve_left (fun q => E0.out q.1); have n0_ := Aside0.mk (below_step HB.out hb); have n1_ := Aside0.mk (Kd.C_below HR.out hb); clear HB hb; clear HR; have HB := n0_; clear n0_; have HR := n1_; clear n1_))
    go_ret
    exact ⟨rfl, HB.out⟩
  rw [if_pos z] at h
  have E0 := Aside0.mk z
  clear z
  by_cases g2 : l1.length > 20
  · have g2b : decide ((20 : Int) < ((l1.length : Nat) : Int)) = true := decide_eq_true (by omega)
    have g2d : decide (20 < l1.length) = true := decide_eq_true g2
    clear h
    go_enter Try.func7, Try.ntmps7
    go_wp2_with (first | (go_at_call 26; refine (pestlelaw15_awake.calls k true _ A0.out).mono ?_; rintro e wn ⟨rfl, hb⟩; have n0_ := Aside0.mk (below_step HB.out hb); have n1_ := Aside0.mk (Kd.C_below HR.out hb); clear HB hb; clear HR; have HB := n0_; clear n0_; have HR := n1_; clear n1_) | (go_at_call 27; refine (sextet_New.calls a0 _ hsz).mono ?_; intro e wn hn; obtain ⟨_, g, hg, rfl, hc, hb⟩ := hn.resolve_right (fun q => q.1 E0.out); have n0_ := Aside0.mk (below_step HB.out hb); have n1_ := Aside0.mk (Kd.C_below HR.out hb); have HC := Aside0.mk hc; clear HB hb; clear HR; have HB := n0_; clear n0_; have HR := n1_; clear n1_; clear hc))
    go_ret
    exact ⟨rfl, HB.out⟩
  rw [if_neg g2] at h
  have g2b : decide ((20 : Int) < ((l1.length : Nat) : Int)) = false := decide_eq_false (by omega)
  have g2d : decide (20 < l1.length) = false := decide_eq_false g2
  obtain ⟨n, A1, h⟩ := Option.bind_eq_some_iff.mp h
  replace A1 := Aside0.mk A1
  by_cases g3 : n > 300
  · have g3b : decide ((300 : Int) < n) = true := decide_eq_true g3
    clear h
    go_enter Try.func7, Try.ntmps7
    go_wp2_with (first | (go_at_call 26; refine (pestlelaw15_awake.calls k true _ A0.out).mono ?_; rintro e wn ⟨rfl, hb⟩; have n0_ := Aside0.mk (below_step HB.out hb); have n1_ := Aside0.mk (Kd.C_below HR.out hb); clear HB hb; clear HR; have HB := n0_; clear n0_; have HR := n1_; clear n1_) | (go_at_call 27; refine (sextet_New.calls a0 _ hsz).mono ?_; intro e wn hn; obtain ⟨_, g, hg, rfl, hc, hb⟩ := hn.resolve_right (fun q => q.1 E0.out); have n0_ := Aside0.mk (below_step HB.out hb); have n1_ := Aside0.mk (Kd.C_below HR.out hb); have HC := Aside0.mk hc; clear HB hb; clear HR; have HB := n0_; clear n0_; have HR := n1_; clear n1_; clear hc) | (go_at_call 20; refine (pestleref04_Bytes.calls k _ _ l1 n _ HR.out hc1 A1.out).mono ?_; rintro e wn ⟨rfl, hdr⟩; have hb := below_of_drawn hdr; clear hdr; have n0_ := Aside0.mk (below_step HB.out hb); have n1_ := Aside0.mk (Kd.C_below HR.out hb); have n2_ := Aside0.mk (Coder.below HC.out hb (blk_lt HC.out)); clear HB hb; clear HR; clear HC; have HB := n0_; clear n0_; have HR := n1_; clear n1_; have HC := n2_; clear n2_))
    go_ret
    exact ⟨rfl, HB.out⟩
  rw [if_neg g3] at h
  have g3b : decide ((300 : Int) < n) = false := decide_eq_false g3
  by_cases g4 : a2.size > 300
  · have g4b : decide ((300 : Int) < ((a2.size : Nat) : Int)) = true := decide_eq_true (by omega)
    have g4d : decide (300 < a2.size) = true := decide_eq_true g4
    clear h
    go_enter Try.func7, Try.ntmps7
    go_wp2_with (first | (go_at_call 26; refine (pestlelaw15_awake.calls k true _ A0.out).mono ?_; rintro e wn ⟨rfl, hb⟩; have n0_ := Aside0.mk (below_step HB.out hb); have n1_ := Aside0.mk (Kd.C_below HR.out hb); clear HB hb; clear HR; have HB := n0_; clear n0_; have HR := n1_; clear n1_) | (go_at_call 27; refine (sextet_New.calls a0 _ hsz).mono ?_; intro e wn hn; obtain ⟨_, g, hg, rfl, hc, hb⟩ := hn.resolve_right (fun q => q.1 E0.out); have n0_ := Aside0.mk (below_step HB.out hb); have n1_ := Aside0.mk (Kd.C_below HR.out hb); have HC := Aside0.mk hc; clear HB hb; clear HR; have HB := n0_; clear n0_; have HR := n1_; clear n1_; clear hc) | (go_at_call 20; refine (pestleref04_Bytes.calls k _ _ l1 n _ HR.out hc1 A1.out).mono ?_; rintro e wn ⟨rfl, hdr⟩; have hb := below_of_drawn hdr; clear hdr; have n0_ := Aside0.mk (below_step HB.out hb); have n1_ := Aside0.mk (Kd.C_below HR.out hb); have n2_ := Aside0.mk (Coder.below HC.out hb (blk_lt HC.out)); clear HB hb; clear HR; clear HC; have HB := n0_; clear n0_; have HR := n1_; clear n1_; have HC := n2_; clear n2_))
    go_ret
    exact ⟨rfl, HB.out⟩
  rw [if_neg g4] at h
  have g4b : decide ((300 : Int) < ((a2.size : Nat) : Int)) = false := decide_eq_false (by omega)
  have g4d : decide (300 < a2.size) = false := decide_eq_false g4
  obtain ⟨x, A2, h2⟩ := Option.bind_eq_some_iff.mp h
  clear h
  obtain ⟨⟨d1, d2⟩, A3, h3⟩ := Option.bind_eq_some_iff.mp h2
  clear h2
  obtain ⟨j, A4, h4⟩ := Option.bind_eq_some_iff.mp h3
  clear h3
  obtain ⟨⟨e1, e2⟩, A5, h⟩ := Option.bind_eq_some_iff.mp h4
  clear h4
  by_cases q : (d1, d2) = (j, 0)
  case neg => rw [if_neg q] at h; cases h
  rw [if_pos q] at h
  simp only [Prod.mk.injEq] at q
  obtain ⟨rfl, rfl⟩ := q
  replace A2 := Aside0.mk A2
  replace A3 := Aside0.mk A3
  replace A4 := Aside0.mk A4
  replace A5 := Aside0.mk A5
  dsimp only at h
  by_cases z : e2 = 0
  · rw [if_pos z] at h
    subst z
    obtain ⟨y, A6, h⟩ := Option.bind_eq_some_iff.mp h
    replace A6 := Aside0.mk A6
    by_cases q : y = a2
    case neg => rw [if_neg q] at h; cases h
    clear h
    subst q
    go_enter Try.func7, Try.ntmps7
    go_wp2_with (first | (go_at_call 26; refine (pestlelaw15_awake.calls k true _ A0.out).mono ?_; rintro e wn ⟨rfl, hb⟩; have n0_ := Aside0.mk (below_step HB.out hb); have n1_ := Aside0.mk (Kd.C_below HR.out hb); clear HB hb; clear HR; have HB := n0_; clear n0_; have HR := n1_; clear n1_) | (go_at_call 27; refine (sextet_New.calls a0 _ hsz).mono ?_; intro e wn hn; obtain ⟨_, g, hg, rfl, hc, hb⟩ := hn.resolve_right (fun q => q.1 E0.out); have n0_ := Aside0.mk (below_step HB.out hb); have n1_ := Aside0.mk (Kd.C_below HR.out hb); have HC := Aside0.mk hc; clear HB hb; clear HR; have HB := n0_; clear n0_; have HR := n1_; clear n1_; clear hc) | (go_at_call 20; refine (pestleref04_Bytes.calls k _ _ l1 n _ HR.out hc1 A1.out).mono ?_; rintro e wn ⟨rfl, hdr⟩; have hb := below_of_drawn hdr; clear hdr; have n0_ := Aside0.mk (below_step HB.out hb); have n1_ := Aside0.mk (Kd.C_below HR.out hb); have n2_ := Aside0.mk (Coder.below HC.out hb (blk_lt HC.out)); clear HB hb; clear HR; clear HC; have HB := n0_; clear n0_; have HR := n1_; clear n1_; have HC := n2_; clear n2_) | (go_at_call 31; (with_reducible refine (sextet_Coder_Encode.calls k g a0 _ _ l1 x _ HC.out.letters HR.out hc1 A2.out).mono ?_); rintro e wn ⟨rfl, hb⟩; have n0_ := Aside0.mk (below_step HB.out hb); have n1_ := Aside0.mk (Kd.C_below HR.out hb); have n2_ := Aside0.mk (Coder.below HC.out hb (blk_lt HC.out)); clear HB hb; clear HR; clear HC; have HB := n0_; clear n0_; have HR := n1_; clear n1_; have HC := n2_; clear n2_) | (go_at_call 29; (with_reducible refine (sextet_Coder_Decode.calls k g a0 x d1 0 _ HC.out.value A3.out).mono ?_); rintro e wn ⟨rfl, hb⟩; have n0_ := Aside0.mk (below_step HB.out hb); have n1_ := Aside0.mk (Kd.C_below HR.out hb); have n2_ := Aside0.mk (Coder.below HC.out hb (blk_lt HC.out)); clear HB hb; clear HR; clear HC; have HB := n0_; clear n0_; have HR := n1_; clear n1_; have HC := n2_; clear n2_) | (go_at_call 21; refine (pestleref04_Joined.calls k _ _ l1 d1 _ HR.out hc1 A4.out).mono ?_; rintro e wn ⟨rfl, hdr⟩; have hb := below_of_drawn hdr; clear hdr; have n0_ := Aside0.mk (below_step HB.out hb); have n1_ := Aside0.mk (Kd.C_below HR.out hb); have n2_ := Aside0.mk (Coder.below HC.out hb (blk_lt HC.out)); clear HB hb; clear HR; clear HC; have HB := n0_; clear n0_; have HR := n1_; clear n1_; have HC := n2_; clear n2_) | (go_at_call 29; (with_reducible refine (sextet_Coder_Decode.calls k g a0 y e1 0 _ HC.out.value A5.out).mono ?_); rintro e wn ⟨rfl, hb⟩; have n0_ := Aside0.mk (below_step HB.out hb); have n1_ := Aside0.mk (Kd.C_below HR.out hb); have n2_ := Aside0.mk (Coder.below HC.out hb (blk_lt HC.out)); clear HB hb; clear HR; clear HC; have HB := n0_; clear n0_; have HR := n1_; clear n1_; have HC := n2_; clear n2_) | (go_at_call 31; (with_reducible refine (sextet_Coder_Encode.calls1 k g a0 _ e1 y _ (Coder.alloc HC.out _).letters (one_string _ _ _) A6.out).mono ?_); rintro e wn ⟨rfl, hb⟩; have n0_ := Aside0.mk (below_step (below_alloc HB.out _) hb); have n1_ := Aside0.mk (Kd.C_below (Kd.C_alloc HR.out _) hb); have n2_ := Aside0.mk (Coder.below (show Coder 71 _ g _ from blk_alloc HC.out _) hb (blk_lt (blk_alloc HC.out _))); clear HB hb; clear HR; clear HC; have HB := n0_; clear n0_; have HR := n1_; clear n1_; have HC := n2_; clear n2_))
    go_ret
    exact ⟨rfl, HB.out⟩
  · rw [if_neg z] at h
    by_cases q : e1.toList = []
    case neg => rw [if_neg q] at h; cases h
    clear h
    have z1 : (e2 != 0) = true := by simpa using z
    have z2 : (e2 == 0) = false := by simpa using z
    have c1_ : (e1.toList == ([] : List UInt8)) = true := by rw [q]; rfl
    have c3_ : e1.toList.isEmpty = true := by rw [q]; rfl
    clear z q
    go_enter Try.func7, Try.ntmps7
    go_wp2_with (first | (go_at_call 26; refine (pestlelaw15_awake.calls k true _ A0.out).mono ?_; rintro e wn ⟨rfl, hb⟩; have n0_ := Aside0.mk (below_step HB.out hb); have n1_ := Aside0.mk (Kd.C_below HR.out hb); clear HB hb; clear HR; have HB := n0_; clear n0_; have HR := n1_; clear n1_) | (go_at_call 27; refine (sextet_New.calls a0 _ hsz).mono ?_; intro e wn hn; obtain ⟨_, g, hg, rfl, hc, hb⟩ := hn.resolve_right (fun q => q.1 E0.out); have n0_ := Aside0.mk (below_step HB.out hb); have n1_ := Aside0.mk (Kd.C_below HR.out hb); have HC := Aside0.mk hc; clear HB hb; clear HR; have HB := n0_; clear n0_; have HR := n1_; clear n1_; clear hc) | (go_at_call 20; refine (pestleref04_Bytes.calls k _ _ l1 n _ HR.out hc1 A1.out).mono ?_; rintro e wn ⟨rfl, hdr⟩; have hb := below_of_drawn hdr; clear hdr; have n0_ := Aside0.mk (below_step HB.out hb); have n1_ := Aside0.mk (Kd.C_below HR.out hb); have n2_ := Aside0.mk (Coder.below HC.out hb (blk_lt HC.out)); clear HB hb; clear HR; clear HC; have HB := n0_; clear n0_; have HR := n1_; clear n1_; have HC := n2_; clear n2_) | (go_at_call 31; (with_reducible refine (sextet_Coder_Encode.calls k g a0 _ _ l1 x _ HC.out.letters HR.out hc1 A2.out).mono ?_); rintro e wn ⟨rfl, hb⟩; have n0_ := Aside0.mk (below_step HB.out hb); have n1_ := Aside0.mk (Kd.C_below HR.out hb); have n2_ := Aside0.mk (Coder.below HC.out hb (blk_lt HC.out)); clear HB hb; clear HR; clear HC; have HB := n0_; clear n0_; have HR := n1_; clear n1_; have HC := n2_; clear n2_) | (go_at_call 29; (with_reducible refine (sextet_Coder_Decode.calls k g a0 x d1 0 _ HC.out.value A3.out).mono ?_); rintro e wn ⟨rfl, hb⟩; have n0_ := Aside0.mk (below_step HB.out hb); have n1_ := Aside0.mk (Kd.C_below HR.out hb); have n2_ := Aside0.mk (Coder.below HC.out hb (blk_lt HC.out)); clear HB hb; clear HR; clear HC; have HB := n0_; clear n0_; have HR := n1_; clear n1_; have HC := n2_; clear n2_) | (go_at_call 21; refine (pestleref04_Joined.calls k _ _ l1 d1 _ HR.out hc1 A4.out).mono ?_; rintro e wn ⟨rfl, hdr⟩; have hb := below_of_drawn hdr; clear hdr; have n0_ := Aside0.mk (below_step HB.out hb); have n1_ := Aside0.mk (Kd.C_below HR.out hb); have n2_ := Aside0.mk (Coder.below HC.out hb (blk_lt HC.out)); clear HB hb; clear HR; clear HC; have HB := n0_; clear n0_; have HR := n1_; clear n1_; have HC := n2_; clear n2_) | (go_at_call 29; (with_reducible refine (sextet_Coder_Decode.calls k g a0 a2 e1 e2 _ HC.out.value A5.out).mono ?_); rintro e wn ⟨rfl, hb⟩; have n0_ := Aside0.mk (below_step HB.out hb); have n1_ := Aside0.mk (Kd.C_below HR.out hb); have n2_ := Aside0.mk (Coder.below HC.out hb (blk_lt HC.out)); clear HB hb; clear HR; clear HC; have HB := n0_; clear n0_; have HR := n1_; clear n1_; have HC := n2_; clear n2_))
    go_ret
    exact ⟨rfl, HB.out⟩

/-! ### sextet_Coder_Letters: function 33 -/
def sextet_Coder_Letters.f (n : Int) : Option Int := some (sxLetters n)
set_option maxRecDepth 100000 in
theorem sextet_Coder_Letters.nil (n : Int) (w : World) : Calls Try.prog 33 #[.pointer none, .int .i64 n] w fun e w' => e = .returned (.int .i64 0) ∧ Drawn0 w w' := by
  go_enter Try.func33, Try.ntmps33
  go_wp2
  go_ret
  exact ⟨rfl, Drawn0.refl _⟩
set_option maxRecDepth 100000 in
theorem sextet_Coder_Letters.calls (a : Addr) (n : Int) (w : World) : Calls Try.prog 33 #[.pointer (some a), .int .i64 n] w fun e w' => e = .returned (.int .i64 (sxLetters n)) ∧ Drawn0 w w' := by
  by_cases h0 : n < 0
  · rw [show sxLetters n = 0 from if_pos h0]
    go_enter Try.func33, Try.ntmps33
    go_wp2
    go_ret
    exact ⟨rfl, Drawn0.refl _⟩
  by_cases h1 : 576460752303423488 < n
  · rw [show sxLetters n = 0 by unfold sxLetters; rw [if_neg h0, if_pos h1]]
    go_enter Try.func33, Try.ntmps33
    go_wp2
    go_ret
    exact ⟨rfl, Drawn0.refl _⟩
  have e : sxLetters n = (8 * n + 5) / 6 := by unfold sxLetters; rw [if_neg h0, if_neg h1]
  rw [e]
  have g0 : 0 ≤ n := by omega
  have g1 : n ≤ 576460752303423488 := by omega
  clear e
  go_enter Try.func33, Try.ntmps33
  go_wp2
  go_ret
  exact ⟨rfl, Drawn0.refl _⟩

end Go.Proofs.Ytakhikhdbigdaaa.Pall
