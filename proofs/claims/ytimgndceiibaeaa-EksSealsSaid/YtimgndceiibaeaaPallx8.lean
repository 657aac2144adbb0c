-- PRINTED by print.py (a twelfth state) out of the translation. Not trusted: Lean checks it.
import Derived.Test.YtimgndceiibaeaaPallx0
import Derived.Test.YtimgndceiibaeaaPallx1
import Derived.Test.YtimgndceiibaeaaPallx2
import Derived.Test.YtimgndceiibaeaaPallx4
import Derived.Test.YtimgndceiibaeaaPallx5
namespace Go.Proofs.Ytimgndceiibaeaa.Pall
open Go.RowKit Go.Proofs.YtimgndceiibaeaaW.PrintWords Go.Proofs.YtimgndceiibaeaaW.PrintLast Go.Proofs.YtimgndceiibaeaaW.PrintMore
attribute [local go_sem] max2_int min2_int max_two min_two max_three min_three max_four min_four   -- for this text's walks alone
set_option linter.unusedVariables false
set_option linter.unusedSimpArgs false

/-! ### pestleref11_Seal: function 36 -/
mutual
def pestleref11_Seal.l0 : Nat → List Int → Int → List Int → List Int → Int → Option (List Int)
 | 0, _, _, _, _, _ => none
 | k + 1, x0, x1, x2, x7, x8 => if (wrap64 (x8 + 1)) < (x2.length : Int) then (if 0 ≤ x8 then (if x8 < (x2.length : Int) then (if 0 ≤ (wrap64 (x8 + 1)) then (pestleref11_Seal.l1 k x0 x1 x2 x7 x8 (rd x2 x8) (rd x2 (wrap64 (x8 + 1))) 0) else (none)) else (none)) else (none)) else (some x7)
def pestleref11_Seal.l1 : Nat → List Int → Int → List Int → List Int → Int → Int → Int → Int → Option (List Int)
 | 0, _, _, _, _, _, _, _, _ => none
 | k + 1, x0, x1, x2, x7, x8, x9, x10, x11 => if x11 < x1 then ((pestleref10_Encrypt.f k x0 x9 x10).bind fun bt139 => (pestleref11_Seal.l1 k x0 x1 x2 x7 x8 bt139.1 bt139.2 (wrap64 (x11 + 1)))) else ((some (([x9, x10] : List Int) : List Int)).bind fun y141 => (if x7.length + y141.length < 35184372088832 then (pestleref11_Seal.l0 k x0 x1 x2 (x7 ++ y141) (wrap64 (x8 + 2))) else (none)))
end
def pestleref11_Seal.f (k : Nat) (l0 : List Int) (a1 : Int) (l2 : List Int) : Option (List Int) := pestleref11_Seal.l0 k l0 a1 l2 ([] : List Int) 0
theorem pestleref11_Seal.mono_l : ∀ k, (∀ y0 y1 y2 y3 y4, LeO (pestleref11_Seal.l0 k y0 y1 y2 y3 y4) (pestleref11_Seal.l0 (k + 1) y0 y1 y2 y3 y4)) ∧ (∀ y0 y1 y2 y3 y4 y5 y6 y7, LeO (pestleref11_Seal.l1 k y0 y1 y2 y3 y4 y5 y6 y7) (pestleref11_Seal.l1 (k + 1) y0 y1 y2 y3 y4 y5 y6 y7))
 | 0 => ⟨fun _ _ _ _ _ r h => by simp [pestleref11_Seal.l0] at h, fun _ _ _ _ _ _ _ _ r h => by simp [pestleref11_Seal.l1] at h⟩
 | k + 1 => by
  obtain ⟨ih0, ih1⟩ := pestleref11_Seal.mono_l k
  refine ⟨?_, ?_⟩
  ·intro y0 y1 y2 y3 y4
   unfold pestleref11_Seal.l0
   repeat' first
   | (with_reducible exact ih0 _ _ _ _ _)
   | (with_reducible exact ih1 _ _ _ _ _ _ _ _)
   | (with_reducible exact pestleref10_Encrypt.mono _ _ _ _)
   | (with_reducible exact LeO.refl _)
   | (with_reducible exact LeO.none _)
   | (with_reducible refine LeO.ite ?_ ?_)
   | (with_reducible refine LeO.bind ?_ (fun _ => ?_))
   | exact ih0 _ _ _ _ _
   | exact ih1 _ _ _ _ _ _ _ _
   | exact pestleref10_Encrypt.mono _ _ _ _
   | exact LeO.none _
   | refine LeO.ite ?_ ?_
   | refine LeO.bind ?_ (fun _ => ?_)
  ·intro y0 y1 y2 y3 y4 y5 y6 y7
   unfold pestleref11_Seal.l1
   repeat' first
   | (with_reducible exact ih0 _ _ _ _ _)
   | (with_reducible exact ih1 _ _ _ _ _ _ _ _)
   | (with_reducible exact pestleref10_Encrypt.mono _ _ _ _)
   | (with_reducible exact LeO.refl _)
   | (with_reducible exact LeO.none _)
   | (with_reducible refine LeO.ite ?_ ?_)
   | (with_reducible refine LeO.bind ?_ (fun _ => ?_))
   | exact ih0 _ _ _ _ _
   | exact ih1 _ _ _ _ _ _ _ _
   | exact pestleref10_Encrypt.mono _ _ _ _
   | exact LeO.none _
   | refine LeO.ite ?_ ?_
   | refine LeO.bind ?_ (fun _ => ?_)
theorem pestleref11_Seal.mono : ∀ a0 a1 a2 k, LeO (pestleref11_Seal.f k a0 a1 a2) (pestleref11_Seal.f (k + 1) a0 a1 a2) := by
 intro a0 a1 a2 k
 obtain ⟨ih0, ih1⟩ := pestleref11_Seal.mono_l k
 unfold pestleref11_Seal.f
 repeat' first
   | (with_reducible exact ih0 _ _ _ _ _)
   | (with_reducible exact ih1 _ _ _ _ _ _ _ _)
   | (with_reducible exact pestleref10_Encrypt.mono _ _ _ _)
   | (with_reducible exact LeO.refl _)
   | (with_reducible exact LeO.none _)
   | (with_reducible refine LeO.ite ?_ ?_)
   | (with_reducible refine LeO.bind ?_ (fun _ => ?_))
   | exact ih0 _ _ _ _ _
   | exact ih1 _ _ _ _ _ _ _ _
   | exact pestleref10_Encrypt.mono _ _ _ _
   | exact LeO.none _
   | refine LeO.ite ?_ ?_
   | refine LeO.bind ?_ (fun _ => ?_)
set_option maxHeartbeats 8000000 in
set_option maxRecDepth 100000 in
theorem pestleref11_Seal.calls (k : Nat) (A0 : Option Addr) (c0 : Nat) (l0 : List Int) (a1 : Int) (A2 : Option Addr) (c2 : Nat) (l2 : List Int) (r : List Int) (w : World) (hr0 : Kd.C (Kd.int .u32) w A0 l0.length l0) (hc0 : l0.length ≤ c0) (hr2 : Kd.C (Kd.int .u32) w A2 l2.length l2) (hc2 : l2.length ≤ c2) (h : pestleref11_Seal.f k l0 a1 l2 = some r) :
  Calls Try.prog 36 #[.slice A0 l0.length c0, .int .i64 a1, .slice A2 l2.length c2] w fun e w' => ∃ v0_ : Value, e = .returned (v0_) ∧ Kd.R (Kd.int .u32) 23 w' w.heap.size (fun _ => True) v0_ r ∧ Below w.heap.size w w' := by
 have HR0 := Aside0.mk hr0
 have HC0 := Aside0.mk hc0
 clear hr0 hc0
 have HR2 := Aside0.mk hr2
 have HC2 := Aside0.mk hc2
 clear hr2 hc2
 have HB := Aside0.mk (Below.refl w.heap.size w)
 have H : (pestleref11_Seal.l0 k l0 a1 l2 ([] : List Int) 0) = some r := h
 clear h
 have H' := Aside0.mk H
 clear H
 go_enter Try.func36, Try.ntmps36
 go_wp2
 go_loopg [7, 8] k (fun kq v7 v8 w' => ∃ (x7_1 : List Int) (x8_1 : Int), v8 = .int .i64 x8_1 ∧ Aside0 (pestleref11_Seal.l0 kq l0 a1 l2 x7_1 x8_1 = some r) ∧ Aside0 (kq ≤ k) ∧ Aside0 (Kd.R (Kd.int .u32) 23 w' w.heap.size (fun _ => True) v7 x7_1) ∧ Aside0 (Below w.heap.size w w'))
 case atStart => exact ⟨(([] : List Int)), (0), (by first | rfl | (simp; done) | (simp [*]; done)), H', ⟨Nat.le_refl _⟩, ⟨by first | exact Kd.R_nil _ _ _ _ _ | exact Kd.N_nil _ _ _ _ _ | exact Kd.V_nil _ _ _ _ _ | exact Kd.Q_nil _ _ _ _ _ | exact Kd.S_nil _ _ _ _ _⟩, ⟨by repeat (first | (with_reducible first | exact HB.out | apply below_alloc | apply pw_below_drewN | apply below_drew1) | exact HB.out)⟩⟩
 case round =>
  clear H'
  try clear c2
  try clear p2
  try clear c3
  obtain ⟨x7_1, x8_1, rfl, HA, HK1, HO_7, HB⟩ := hrel
  cases gk with
  | zero => exact absurd HA.out (by simp [pestleref11_Seal.l0])
  | succ k1 =>
   have H := HA.out
   clear HA
   simp only [pestleref11_Seal.l0] at H
   by_cases c4 : (wrap64 (x8_1 + 1)) < (l2.length : Int)
   ·rw [if_pos c4] at H
    have c4b0 : decide ((wrap64 (x8_1 + 1)) < (l2.length : Int)) = true := decide_eq_true c4
    clear c4
    by_cases c5 : 0 ≤ x8_1
    ·rw [if_pos c5] at H
     have c5b0 : decide (0 ≤ x8_1) = true := decide_eq_true c5
     clear c5
     by_cases c6 : x8_1 < (l2.length : Int)
     ·rw [if_pos c6] at H
      have c6b0 : decide (x8_1 < (l2.length : Int)) = true := decide_eq_true c6
      clear c6
      obtain ⟨ji7, hji7⟩ : ∃ j_ : Int, (wrap64 (x8_1 + 1)) = j_ := ⟨_, rfl⟩
      replace H : (if 0 ≤ (ji7) then (pestleref11_Seal.l1 k1 l0 a1 l2 x7_1 x8_1 (rd l2 x8_1) (rd l2 (ji7)) 0) else (none)) = some r := by first | (rw [hji7] at H; exact H) | (simp only [hji7] at H ⊢; exact H)
      (try rw [hji7] at c4b0)
      have hji7w : (IntKind.i64.wrap (x8_1 + 1)) = ji7 := (i64_w _).trans hji7
      by_cases c8 : 0 ≤ (ji7)
      ·rw [if_pos c8] at H
       have c8b0 : decide (0 ≤ (ji7)) = true := decide_eq_true c8
       clear c8
       have H' := Aside0.mk H
       clear H
       have p137 : 0 ≤ (x8_1 : Int) := of_decide_eq_true (by first | (with_reducible assumption) | assumption)
       have q137 : x8_1 < (l2.length : Int) := of_decide_eq_true (by first | (with_reducible assumption) | assumption)
       obtain ⟨ad137, e137, hx137_0⟩ := Kd.at_int HR2.out x8_1 p137 q137
       cases e137
       replace hx137_0 := (HB.out.cell (World.block_lt_of_cell? w _ hx137_0)).trans hx137_0
       replace p137 := eq_true p137
       replace q137 := eq_true q137
       have p138 : 0 ≤ ((ji7) : Int) := of_decide_eq_true (by first | (with_reducible assumption) | assumption)
       have q138 : (ji7) < (l2.length : Int) := of_decide_eq_true (by first | (with_reducible assumption) | assumption)
       obtain ⟨ad138, e138, hx138_0⟩ := Kd.at_int HR2.out (ji7) p138 q138
       obtain rfl : ad137 = ad138 := (by injection e138)
       replace hx138_0 := (HB.out.cell (World.block_lt_of_cell? w _ hx138_0)).trans hx138_0
       replace p138 := eq_true p138
       replace q138 := eq_true q138
       go_wp2
       go_loopg [9, 10, 11] k1 (fun kq v9 v10 v11 w' => ∃ (x9_2 : Int) (x10_2 : Int) (x11_2 : Int), v9 = .int .u32 x9_2 ∧ v10 = .int .u32 x10_2 ∧ v11 = .int .i64 x11_2 ∧ Aside0 (pestleref11_Seal.l1 kq l0 a1 l2 x7_1 x8_1 x9_2 x10_2 x11_2 = some r) ∧ Aside0 (kq ≤ k1) ∧ Aside0 (Kd.R (Kd.int .u32) 23 w' w.heap.size (fun _ => True) u7 x7_1) ∧ Aside0 (Below w.heap.size w w'))
       case atStart => exact ⟨(rd l2 x8_1), (rd l2 (ji7)), (0), (by first | rfl | (simp; done) | (simp [*]; done)), (by first | rfl | (simp; done) | (simp only [← hji7] <;> (first | rfl | simp)) | (simp [*]; done)), (by first | rfl | (simp; done) | (simp [*]; done)), H', ⟨Nat.le_refl _⟩, ⟨by (with_reducible repeat (first | apply Kd.R_alloc | apply Kd.R_drewN | apply Kd.R_drew)); exact HO_7.out⟩, ⟨by repeat (first | (with_reducible first | exact HB.out | apply below_alloc | apply pw_below_drewN | apply below_drew1) | exact HB.out)⟩⟩
       case round =>
        clear H'
        try clear p1
        try clear q1
        try clear hx1
        try clear c2
        try clear p2
        try clear c3
        try clear c4
        try clear c4b0
        try clear c5
        try clear c5b0
        try clear c6
        try clear c6b0
        try clear p6
        try clear c8
        try clear c8b0
        try clear hx137_0
        try clear hx138_0
        try clear p137
        try clear p138
        try clear p2
        try clear q137
        try clear q138
        obtain ⟨x9_2, x10_2, x11_2, rfl, rfl, rfl, HA, HK2, HO_7, HB⟩ := hrel
        cases gk with
        | zero => exact absurd HA.out (by simp [pestleref11_Seal.l1])
        | succ k2 =>
         have H := HA.out
         clear HA
         simp only [pestleref11_Seal.l1] at H
         by_cases c9 : x11_2 < a1
         ·rw [if_pos c9] at H
          have c9b0 : decide (x11_2 < a1) = true := decide_eq_true c9
          clear c9
          replace H := Option.bind_eq_some_iff.mp H
          obtain ⟨⟨t139, t140⟩, A100, H⟩ := H
          replace H : (pestleref11_Seal.l1 k2 l0 a1 l2 x7_1 x8_1 t139 t140 (wrap64 (x11_2 + 1))) = some r := H
          have A10 := Aside0.mk A100
          clear A100
          have H' := Aside0.mk H
          clear H
          go_wp2_with (first | ((with_reducible refine gate_callee (f := 24) rfl ?_); refine goesL_ (some 37) rfl rfl Try.func24 (by kernel_rfl) rfl #[.slice A0 l0.length c0, .int .u32 x9_2, .int .u32 x10_2] rfl (by (try simp only [List.map_toArray, List.map_cons, List.map_nil]); first | done | rfl | (simp only [List.length_drop, List.length_take]; rfl)) ?_; (with_reducible refine (pestleref10_Encrypt.calls k2 _ _ l0 x9_2 x10_2 t139 t140 _ ?side1 ?side2 A10.out).mono ?_); (case side1 => repeat (first | exact (Kd.C_below HR0.out HB.out) | (with_reducible refine Kd.C_alloc ?_ _) | (with_reducible refine Kd.C_drewN ?_ _) | (with_reducible refine Kd.C_drew ?_))); (case side2 => exact HC0.out); rintro e w' ⟨rfl, ⟨nd, rfl⟩⟩; refine ⟨_, rfl, ?_⟩))
          go_roundg k2
          case measure => have := HK1.out; have := HK2.out; omega
          case rel => exact ⟨(t139), (t140), (wrap64 (x11_2 + 1)), (by first | rfl | (simp; done) | (simp [*]; done)), (by first | rfl | (simp; done) | (simp [*]; done)), (by first | rfl | (simp; done) | (simp [*]; done)), H', ⟨by have := HK1.out; have := HK2.out; omega⟩, ⟨by (with_reducible repeat (first | apply Kd.R_alloc | apply Kd.R_drewN | apply Kd.R_drew)); exact HO_7.out⟩, ⟨by repeat (first | (with_reducible first | exact HB.out | apply below_alloc | apply pw_below_drewN | apply below_drew1) | exact HB.out)⟩⟩
         ·rw [if_neg c9] at H
          have c9b0 : decide (x11_2 < a1) = false := decide_eq_false c9
          clear c9
          obtain ⟨y141, hy141⟩ : ∃ y_ : List Int, y_ = (([x9_2, x10_2] : List Int)) := ⟨_, rfl⟩
          replace H : (if x7_1.length + y141.length < 35184372088832 then (pestleref11_Seal.l0 k2 l0 a1 l2 (x7_1 ++ y141) (wrap64 (x8_1 + 2))) else (none)) = some r := by first | (rw [hy141]; with_reducible exact H) | (have H2_ := (Option.bind_some _ _).symm.trans H; rw [hy141]; with_reducible exact H2_) | (have H2_ := (Option.bind_some _ _).symm.trans H; with_reducible exact H2_) | with_reducible exact H | (rw [hy141]; exact H) | exact H
          have Ny141 := Aside0.mk hy141
          clear hy141
          by_cases c11 : x7_1.length + y141.length < 35184372088832
          ·rw [if_pos c11] at H
           have LMc11 := Aside0.mk c11
           clear c11
           obtain ⟨y144, hy144⟩ : ∃ y_ : List Int, y_ = (x7_1 ++ y141) := ⟨_, rfl⟩
           replace H : (pestleref11_Seal.l0 k2 l0 a1 l2 y144 (wrap64 (x8_1 + 2))) = some r := by first | (rw [hy144]; with_reducible exact H) | (have H2_ := (Option.bind_some _ _).symm.trans H; rw [hy144]; with_reducible exact H2_) | (have H2_ := (Option.bind_some _ _).symm.trans H; with_reducible exact H2_) | with_reducible exact H | (rw [hy144]; exact H) | exact H
           have Ny144 := Aside0.mk hy144
           clear hy144
           have H' := Aside0.mk H
           clear H
           go_wp2_with (first | ((with_reducible refine gate_dst (N := 43) rfl ?_); refine Kd.R_lit (Kd.int .u32) _ 23 ?hg (N := 43) ?hd (xs := ([x9_2, x10_2] : List Int)) (inner := [.int .u32 x9_2, .int .u32 x10_2]) (ok := fun _ => True) (okp := fun _ => True) ?hr ?hp (fun _ hk => hk) trivial (Below.refl _ _) (Nat.le_refl _) (by simp) ?_; (case hd => rfl); (case hg => rfl); (case hr => first | (go_simp; done) | (go_simp; rfl)); (case hp => exact (Reps.one (show Kd.M (Kd.int .u32) _ _ _ x9_2 [.int .u32 x9_2] from rfl) (Reps.one (show Kd.M (Kd.int .u32) _ _ _ x10_2 [.int .u32 x10_2] from rfl) (Reps.none _ _)))); intro v142 w12 ho13 hb hg_ hnew_; clear hg_ hnew_; (first | rw [← Ny141.out] at ho13 | (simp only [Int.reduceToNat] at ho13; rw [← Ny141.out] at ho13)); have n0_ := Aside0.mk (Kd.R_elder' (by (with_reducible repeat (first | apply Kd.R_alloc | apply Kd.R_drewN | apply Kd.R_drew)); exact HO_7.out) (Kd.R_base ho13) hb); have n1_ := Aside0.mk (Kd.R_lower (Kd.R_new' ho13 (Kd.R_lt (by (with_reducible repeat (first | apply Kd.R_alloc | apply Kd.R_drewN | apply Kd.R_drew)); exact HO_7.out))) (below_size (by repeat (first | (with_reducible first | exact HB.out | apply below_alloc | apply pw_below_drewN | apply below_drew1) | exact HB.out)))); have n2_ := Aside0.mk (below_step (by repeat (first | (with_reducible first | exact HB.out | apply below_alloc | apply pw_below_drewN | apply below_drew1) | exact HB.out)) hb); clear HO_7; clear HB; have HO_7 := n0_; have HO143 := n1_; have HB := n2_; clear n0_ n1_ n2_; clear hb ho13; obtain ⟨Ao15, co15, eo15⟩ := Kd.R_slice HO143.out; subst eo15) | ((with_reducible refine gate_builtin (b := .append) (xs := #[.tmp 40, .tmp 43]) rfl ?_); at_builtin; refine Kd.R_append_rows (Kd.int .u32) (w0 := w) w.heap.size rfl (.tmp 40) (.tmp 43) 29 23 (.int .u32 0) 4 rfl Try.underlying29 info23 rfl (by decide) (by omega) u7 x7_1 y141 _ _ _ (fun k_ => some k_ ≠ (.slice Ao15 y141.length co15 : Value).ownBlock) (fun _ => False) rfl rfl ?aO ?aR (fun _ _ h => h) (fun _ h => h.elim) ?aF ?aB ?aS ?aL ?_; (case aR => repeat (first | exact (Kd.R_reads' HO143.out).2.2 | (with_reducible refine Kd.C_alloc ?_ _) | (with_reducible refine Kd.C_drewN ?_ _) | (with_reducible refine Kd.C_drew ?_))); (case aB => exact (by repeat (first | (with_reducible first | exact HB.out | apply below_alloc | apply pw_below_drewN | apply below_drew1) | exact HB.out))); (case aF => exact (fun k_ hk => Kd.fresh' (Kd.R_lt (by (with_reducible repeat (first | apply Kd.R_alloc | apply Kd.R_drewN | apply Kd.R_drew)); exact HO143.out)) k_ hk)); (case aO => exact (by (with_reducible repeat (first | apply Kd.R_alloc | apply Kd.R_drewN | apply Kd.R_drew)); exact Kd.R_mono HO_7.out (fun _ hk => hk.2))); (case aS => exact (below_size (by repeat (first | (with_reducible first | exact HB.out | apply below_alloc | apply pw_below_drewN | apply below_drew1) | exact HB.out)))); (case aL => have := LMc11.out; omega); intro v145 w14 ho hb hg hat; rw [← Ny144.out] at ho; have n0_ := Aside0.mk (Kd.R_after (ok := (fun _ => True)) (by (with_reducible repeat (first | apply Kd.R_alloc | apply Kd.R_drewN | apply Kd.R_drew)); exact HO143.out) hg hat); have n1_ := Aside0.mk (hb); have n2_ := Aside0.mk (ho); clear HO143; clear HB; clear HO_7; have HO143 := n0_; have HB := n1_; have HO146 := n2_; clear n0_ n1_ n2_; clear ho hb hg hat))
           go_roundg k2
           case measure => have := HK1.out; have := HK2.out; omega
           case rel => exact ⟨(y144), (wrap64 (x8_1 + 2)), (by first | rfl | (simp; done) | (simp [*]; done)), H', ⟨by have := HK1.out; have := HK2.out; omega⟩, ⟨by (with_reducible repeat (first | apply Kd.R_alloc | apply Kd.R_drewN | apply Kd.R_drew)); exact Kd.R_mono HO146.out (fun _ hk => trivial)⟩, ⟨by repeat (first | (with_reducible first | exact HB.out | apply below_alloc | apply pw_below_drewN | apply below_drew1) | exact HB.out)⟩⟩
          ·rw [if_neg c11] at H
           exact absurd H (by simp)
      ·rw [if_neg c8] at H
       exact absurd H (by simp)
     ·rw [if_neg c6] at H
      exact absurd H (by simp)
    ·rw [if_neg c5] at H
     exact absurd H (by simp)
   ·rw [if_neg c4] at H
    have c4b0 : decide ((wrap64 (x8_1 + 1)) < (l2.length : Int)) = false := decide_eq_false c4
    clear c4
    obtain rfl := Option.some.inj H
    go_wp2
    go_ret
    exact ⟨_, by first | rfl | (simp [errW_none, errW_some] <;> rfl) | (simp [*, errW_none, errW_some] <;> rfl), by (with_reducible repeat (first | apply Kd.R_alloc | apply Kd.R_drewN | apply Kd.R_drew)); exact HO_7.out, by repeat (first | (with_reducible first | exact HB.out | apply below_alloc | apply pw_below_drewN | apply below_drew1) | exact HB.out)⟩

/-! ### cipher_Blow: function 999901 -/
/-- a word of a table that is one number -/
def blG (T i : Nat) : Nat := (T >>> (32 * i)) % 4294967296
def blPut (T i v : Nat) : Nat := T ^^^ ((blG T i ^^^ v) <<< (32 * i))
def blFn (T x : Nat) : Nat := ((((blG T (18 + x / 16777216) + blG T (274 + x / 65536 % 256)) % 4294967296) ^^^ blG T (530 + x / 256 % 256)) + blG T (786 + x % 256)) % 4294967296
/-- one round: both words in one number -/
def blRnd (T i s : Nat) : Nat := ((s % 4294967296) ^^^ blFn T ((s / 4294967296) ^^^ blG T i)) * 4294967296 + ((s / 4294967296) ^^^ blG T i)
def blRnds (T : Nat) : Nat → Nat → Nat → Nat
  | 0, _, s => s
  | n + 1, i, s => blRnds T n (i + 1) (blRnd T i s)
def blFin (T s : Nat) : Nat := ((s % 4294967296) ^^^ blG T 17) * 4294967296 + ((s / 4294967296) ^^^ blG T 16)
def blEnc (T s : Nat) : Nat := blFin T (blRnds T 16 0 s)
/-- the state: the table above two words -/
def blPut2 (T i s : Nat) : Nat := blPut (blPut T i (s / 4294967296)) (i + 1) (s % 4294967296) * 18446744073709551616 + s
def blStepE (S i X : Nat) : Nat := blPut2 (X / 18446744073709551616) i (blEnc (X / 18446744073709551616) ((X % 18446744073709551616) ^^^ (blG S (i % 4) * 4294967296 + blG S ((i + 1) % 4))))
def blRunE (S : Nat) : Nat → Nat → Nat → Nat
  | 0, _, X => X
  | n + 1, i, X => blRunE S n (i + 2) (blStepE S i X)
/-- a key's 18 words K are blPut in; then the chain, with the salt's four words -/
def blExpand (T K S : Nat) : Nat := blRunE S 521 0 ((T ^^^ K) * 18446744073709551616) / 18446744073709551616
theorem bl_g_bit (T i k : Nat) : (blG T i).testBit k = (decide (k < 32) && T.testBit (32 * i + k)) := by
  unfold blG
  rw [show (4294967296 : Nat) = 2 ^ 32 from rfl, Nat.testBit_mod_two_pow, Nat.testBit_shiftRight]
theorem bl_g_lt (T i : Nat) : blG T i < 4294967296 := Nat.mod_lt _ (by omega)
theorem bl_bit_high {v k : Nat} (h : v < 4294967296) (hk : 32 ≤ k) : v.testBit k = false :=
  Nat.testBit_lt_two_pow (Nat.lt_of_lt_of_le h (by rw [show (4294967296 : Nat) = 2 ^ 32 from rfl]; exact Nat.pow_le_pow_right (by omega) hk))
theorem bl_g_put_same (T i v : Nat) (hv : v < 4294967296) : blG (blPut T i v) i = v := by
  refine Nat.eq_of_testBit_eq fun k => ?_
  rw [bl_g_bit]
  unfold blPut
  rw [Nat.testBit_xor, Nat.testBit_shiftLeft]
  by_cases hk : k < 32
  · rw [decide_eq_true hk, decide_eq_true (show 32 * i + k ≥ 32 * i by omega), show 32 * i + k - 32 * i = k by omega, Nat.testBit_xor, bl_g_bit, decide_eq_true hk]
    cases T.testBit (32 * i + k) <;> cases v.testBit k <;> rfl
  · rw [decide_eq_false hk, bl_bit_high hv (by omega)]; rfl
theorem bl_g_put_other (T i j v : Nat) (hv : v < 4294967296) (h : j ≠ i) : blG (blPut T i v) j = blG T j := by
  refine Nat.eq_of_testBit_eq fun k => ?_
  rw [bl_g_bit, bl_g_bit]
  unfold blPut
  rw [Nat.testBit_xor, Nat.testBit_shiftLeft]
  by_cases hk : k < 32
  · rw [decide_eq_true hk, Bool.true_and, Bool.true_and]
    by_cases hc : 32 * j + k ≥ 32 * i
    · rw [decide_eq_true hc, bl_bit_high (Nat.xor_lt_two_pow (n := 32) (bl_g_lt T i) hv) (by omega)]; simp
    · rw [decide_eq_false hc]; simp
  · rw [decide_eq_false hk]; simp
theorem bl_g_xor (T K i : Nat) : blG (T ^^^ K) i = blG T i ^^^ blG K i := by
  refine Nat.eq_of_testBit_eq fun k => ?_
  rw [bl_g_bit, Nat.testBit_xor, Nat.testBit_xor, bl_g_bit, bl_g_bit]
  cases decide (k < 32) <;> simp
/-! ### both -/
def BlRep (t : List Nat) (T : Nat) : Prop := t.length = 1042 ∧ ∀ i, i < 1042 → ciW t i = blG T i
theorem BlRep.ciok {t : List Nat} {T : Nat} (h : BlRep t T) : ciOk t := by
  refine ⟨h.1, fun i => ?_⟩
  by_cases hi : i < 1042
  · rw [h.2 i hi]; exact bl_g_lt _ _
  · unfold ciW
    rw [List.getD_eq_getElem?_getD, List.getElem?_eq_none (by rw [h.1]; omega)]; decide
theorem BlRep.set {t : List Nat} {T : Nat} (h : BlRep t T) {i v : Nat} (hi : i < 1042) (hv : v < 4294967296) : BlRep (t.set i v) (blPut T i v) := by
  refine ⟨by rw [List.length_set, h.1], fun j hj => ?_⟩
  rw [ciW_set (by rw [h.1]; exact hi)]
  by_cases e : j = i
  · subst e; rw [if_pos rfl, bl_g_put_same _ _ _ hv]
  · rw [if_neg e, bl_g_put_other _ _ _ _ hv e, h.2 j hj]
theorem BlRep.f {t : List Nat} {T : Nat} (h : BlRep t T) {x : Nat} (hx : x < 4294967296) : ciF t x = blFn T x := by
  unfold ciF blFn
  rw [h.2 _ (by omega), h.2 _ (by omega), h.2 _ (by omega), h.2 _ (by omega)]
theorem bl_pack_mod {l r : Nat} (hr : r < 4294967296) : (l * 4294967296 + r) % 4294967296 = r := by omega
theorem bl_pack_div {l r : Nat} (hr : r < 4294967296) : (l * 4294967296 + r) / 4294967296 = l := by omega
theorem bl_rnds_succ (T n i s : Nat) : blRnds T (n + 1) i s = blRnds T n (i + 1) (blRnd T i s) := rfl
theorem BlRep.rnds {t : List Nat} {T : Nat} (h : BlRep t T) (n : Nat) : ∀ i l r, i + n ≤ 16 → l < 4294967296 → r < 4294967296 → blRnds T n i (l * 4294967296 + r) = (ciEncR t n i l r).1 * 4294967296 + (ciEncR t n i l r).2 := by
  induction n with
  | zero => intro i l r _ _ _; rfl
  | succ n ih =>
    intro i l r hn hl hr
    have hx := ci_xor hl (h.ciok.2 i)
    have q := ih (i + 1) (r ^^^ ciF t (l ^^^ ciW t i)) (l ^^^ ciW t i) (by omega) (ci_xor hr (ciF_lt _ _)) hx
    rw [bl_rnds_succ, ciEncR_succ, ← q]
    unfold blRnd
    rw [bl_pack_mod hr, bl_pack_div hr, ← h.2 i (by omega), ← h.f hx]
theorem BlRep.enc {t : List Nat} {T : Nat} (h : BlRep t T) {l r : Nat} (hl : l < 4294967296) (hr : r < 4294967296) : blEnc T (l * 4294967296 + r) = (ciEnc t l r).1 * 4294967296 + (ciEnc t l r).2 := by
  unfold blEnc blFin ciEnc
  rw [h.rnds 16 0 l r (by omega) hl hr]
  have b := ciEncR_lt h.ciok 16 0 l r hl hr
  generalize ciEncR t 16 0 l r = p at b
  obtain ⟨a, c⟩ := p
  simp only at b
  have e1 : (a * 4294967296 + c) % 4294967296 = c := by omega
  have e2 : (a * 4294967296 + c) / 4294967296 = a := by omega
  rw [e1, e2, ← h.2 17 (by omega), ← h.2 16 (by omega)]
theorem BlRep.key {K : Nat} (kw : Nat → Nat) (hk : ∀ i, i < 18 → kw i = blG K i) (h18 : ∀ i, 18 ≤ i → i < 1042 → blG K i = 0) {t : List Nat} {T : Nat} (h : BlRep t T) : BlRep (ciKey kw 18 0 t) (T ^^^ K) := by
  have gen : ∀ n i t', i + n = 18 → t'.length = 1042 → (∀ j, j < 1042 → ciW t' j = if j < i then blG T j ^^^ blG K j else blG T j) → BlRep (ciKey kw n i t') (T ^^^ K) := by
    intro n
    induction n with
    | zero =>
      intro i t' hn hl ht
      refine ⟨hl, fun j hj => ?_⟩
      show ciW t' j = _
      rw [ht j hj, bl_g_xor]
      split
      · rfl
      · rw [h18 j (by omega) hj, Nat.xor_zero]
    | succ n ih =>
      intro i t' hn hl ht
      refine ih (i + 1) _ (by omega) (by rw [List.length_set, hl]) fun j hj => ?_
      rw [ciW_set (by omega)]
      by_cases e : j = i
      · subst e
        rw [if_pos rfl, if_pos (by omega), ht j hj, if_neg (by omega), hk j (by omega)]
      · rw [if_neg e, ht j hj]
        by_cases q : j < i
        · rw [if_pos q, if_pos (by omega)]
        · rw [if_neg q, if_neg (by omega)]
  exact gen 18 0 t rfl h.1 fun j hj => by rw [if_neg (by omega), h.2 j hj]
theorem bl_xor_pack {a b c d : Nat} (hb : b < 4294967296) (hd : d < 4294967296) : (a * 4294967296 + b) ^^^ (c * 4294967296 + d) = (a ^^^ c) * 4294967296 + (b ^^^ d) := by
  refine Nat.eq_of_testBit_eq fun k => ?_
  have e : ∀ x y : Nat, y < 4294967296 → (x * 4294967296 + y).testBit k = if k < 32 then y.testBit k else x.testBit (k - 32) := fun x y hy => by
    have := Nat.testBit_two_pow_mul_add x (i := 32) (b := y) hy k
    rw [show (2 : Nat) ^ 32 = 4294967296 from rfl, Nat.mul_comm] at this
    exact this
  rw [Nat.testBit_xor, e _ _ hb, e _ _ hd, e _ _ (ci_xor hb hd)]
  split <;> rw [Nat.testBit_xor]
theorem bl_big_div {T x : Nat} (hx : x < 18446744073709551616) : (T * 18446744073709551616 + x) / 18446744073709551616 = T := by omega
theorem bl_big_mod {T x : Nat} (hx : x < 18446744073709551616) : (T * 18446744073709551616 + x) % 18446744073709551616 = x := by omega
theorem bl_pack_lt {l r : Nat} (hl : l < 4294967296) (hr : r < 4294967296) : l * 4294967296 + r < 18446744073709551616 := by omega
theorem bl_runE_succ (S n i X : Nat) : blRunE S (n + 1) i X = blRunE S n (i + 2) (blStepE S i X) := by
  delta blRunE
  rfl
theorem BlRep.step {S : Nat} {sw : Nat → Nat} (hs : ∀ i, sw i = blG S (i % 4)) {i l r : Nat} {t : List Nat} {T : Nat} (hl : l < 4294967296) (hr : r < 4294967296) (h : BlRep t T) :
    blStepE S i (T * 18446744073709551616 + (l * 4294967296 + r)) = blPut (blPut T i (ciEnc t (l ^^^ sw i) (r ^^^ sw (i + 1))).1) (i + 1) (ciEnc t (l ^^^ sw i) (r ^^^ sw (i + 1))).2 * 18446744073709551616 + ((ciEnc t (l ^^^ sw i) (r ^^^ sw (i + 1))).1 * 4294967296 + (ciEnc t (l ^^^ sw i) (r ^^^ sw (i + 1))).2) := by
  have s1 : sw i < 4294967296 := by rw [hs]; exact bl_g_lt _ _
  have s2 : sw (i + 1) < 4294967296 := by rw [hs]; exact bl_g_lt _ _
  have e := ciEnc_lt h.ciok (ci_xor hl s1) (ci_xor hr s2)
  unfold blStepE blPut2
  rw [bl_big_div (bl_pack_lt hl hr), bl_big_mod (bl_pack_lt hl hr), ← hs, ← hs, bl_xor_pack hr s2, h.enc (ci_xor hl s1) (ci_xor hr s2), bl_pack_div e.2, bl_pack_mod e.2]
theorem BlRep.run {S : Nat} (sw : Nat → Nat) (hs : ∀ i, sw i = blG S (i % 4)) (n : Nat) : ∀ i l r t T, i + 2 * n ≤ 1042 → l < 4294967296 → r < 4294967296 → BlRep t T → BlRep (ciChain sw n i l r t) (blRunE S n i (T * 18446744073709551616 + (l * 4294967296 + r)) / 18446744073709551616) := by
  induction n with
  | zero =>
    intro i l r t T _ hl hr h
    show BlRep t ((T * 18446744073709551616 + (l * 4294967296 + r)) / 18446744073709551616)
    rw [bl_big_div (bl_pack_lt hl hr)]; exact h
  | succ n ih =>
    intro i l r t T hn hl hr h
    have s1 : sw i < 4294967296 := by rw [hs]; exact bl_g_lt _ _
    have s2 : sw (i + 1) < 4294967296 := by rw [hs]; exact bl_g_lt _ _
    have e := ciEnc_lt h.ciok (ci_xor hl s1) (ci_xor hr s2)
    rw [bl_runE_succ, ciChain_succ, BlRep.step hs hl hr h]
    exact ih (i + 2) _ _ _ _ (by omega) e.1 e.2 ((h.set (by omega) e.1).set (by omega) e.2)
theorem BlRep.expand {t : List Nat} {T K S : Nat} (h : BlRep t T) (sw kw : Nat → Nat) (hk : ∀ i, i < 18 → kw i = blG K i) (h18 : ∀ i, 18 ≤ i → i < 1042 → blG K i = 0) (hs : ∀ i, sw i = blG S (i % 4)) : BlRep (ciExpand t sw kw) (blExpand T K S) := by
  have q := BlRep.run sw hs 521 0 0 0 _ _ (by omega) (by omega) (by omega) (h.key kw hk h18)
  rw [show (T ^^^ K) * 18446744073709551616 + (0 * 4294967296 + 0) = (T ^^^ K) * 18446744073709551616 by omega] at q
  exact q
/-- the document's plain table: pi's words -/
def ciPw (i : Nat) : Nat := pi_LL / 2 ^ (32 * (1041 - i)) % 4294967296
theorem ciPi_ex : ∃ l : List Nat, l = (List.range 1042).map ciPw := ⟨_, rfl⟩
noncomputable def ciPi : List Nat := Classical.choose ciPi_ex
theorem ciPi_def : ciPi = (List.range 1042).map ciPw := Classical.choose_spec ciPi_ex
def ciPk : Nat → Nat → Nat
  | 0, a => a
  | n + 1, a => ciPk n (a * 4294967296 + ciPw n)
def ciT0 : Nat := ciPk 1042 0
set_option maxRecDepth 100000 in
theorem ciT0_chk : ∀ i, i < 1042 → ciPw i = blG ciT0 i := by decide +kernel
theorem ciPi_len : ciPi.length = 1042 := by rw [ciPi_def]; rw [List.length_map, List.length_range]
theorem ciPi_at (i : Nat) (h : i < 1042) : ciW ciPi i = ciPw i := by
  rw [ciPi_def]
  unfold ciW
  rw [List.getD_eq_getElem?_getD, List.getElem?_map, List.getElem?_range h]; rfl
theorem ciPi_rep : BlRep ciPi ciT0 := ⟨ciPi_len, fun i h => by rw [ciPi_at i h, ciT0_chk i h]⟩
theorem ciPi_ok : ciOk ciPi := ciPi_rep.ciok
theorem ciWord_zero (s : ByteArray) (h : ∀ j, ciB s j = 0) (i : Nat) : ciWord s i = 0 := by
  unfold ciWord
  simp only [ciWj, h]
theorem ciWord_empty (i : Nat) : ciWord ciE i = 0 := ciWord_zero _ (fun j => by unfold ciB; exact if_pos rfl) i
theorem ciG_zero (i : Nat) : blG 0 i = 0 := by unfold blG; rw [Nat.zero_shiftRight]
theorem ciExpand_pi (s k : ByteArray) : ciOk (ciExpand ciPi (ciWord s) (ciWord k)) := ciExpand_ok ciPi_ok (ciWord_lt s) (ciWord_lt k)
theorem cipher_Blow.calls : True := trivial

end Go.Proofs.Ytimgndceiibaeaa.Pall
