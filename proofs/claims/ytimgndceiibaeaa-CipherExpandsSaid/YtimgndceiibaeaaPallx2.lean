-- PRINTED by print.py (a twelfth state) out of the translation. Not trusted: Lean checks it.
import Derived.Test.YtimgndceiibaeaaPallx0
import Derived.Test.YtimgndceiibaeaaPallx1
namespace Go.Proofs.Ytimgndceiibaeaa.Pall
open Go.RowKit Go.Proofs.YtimgndceiibaeaaW.PrintWords Go.Proofs.YtimgndceiibaeaaW.PrintLast Go.Proofs.YtimgndceiibaeaaW.PrintMore
attribute [local go_sem] max2_int min2_int max_two min_two max_three min_three max_four min_four   -- for this text's walks alone
set_option linter.unusedVariables false
set_option linter.unusedSimpArgs false

/-! ### pi_Words: function 15 -/
mutual
def pi_Words.j0 : Nat → Int → Int → Bool → Option (List Int × Int)
 | 0, _, _, _ => none
 | k + 1, x0, x1, x23 => if x23 = true then (some (([] : List Int), 11)) else (if 0 ≤ x1 then (if (x1 : Int).toNat ≤ 70368744177664 then ((some (List.replicate (x1 : Int).toNat 0 : List Int)).bind fun y102 => (pi_Words.l0 k x0 y102 (y102.length : Int) 0)) else (none)) else (none))
def pi_Words.l0 : Nat → Int → List Int → Int → Int → Option (List Int × Int)
 | 0, _, _, _, _ => none
 | k + 1, x0, x6, x27, x28 => if x28 < x27 then ((pi_Word.f k (wrap64 (x0 + x28))).bind fun bt105 => (if 0 ≤ x28 then (if x28 < (x6.length : Int) then (pi_Words.l0 k x0 (x6.set (x28 : Int).toNat bt105.1) x27 (wrap64 (x28 + 1))) else (none)) else (none))) else (some (x6, 0))
end
def pi_Words.f (k : Nat) (a0 : Int) (a1 : Int) : Option (List Int × Int) := if a0 < 0 then (pi_Words.j0 k a0 a1 true) else (if a1 < 0 then (pi_Words.j0 k a0 a1 true) else (if a0 > 1042 then (pi_Words.j0 k a0 a1 true) else (pi_Words.j0 k a0 a1 (decide (a1 > (wrap64 (1042 - a0)))))))
theorem pi_Words.mono_l : ∀ k, (∀ y0 y1 y2, LeO (pi_Words.j0 k y0 y1 y2) (pi_Words.j0 (k + 1) y0 y1 y2)) ∧ (∀ y0 y1 y2 y3, LeO (pi_Words.l0 k y0 y1 y2 y3) (pi_Words.l0 (k + 1) y0 y1 y2 y3))
 | 0 => ⟨fun _ _ _ r h => by simp [pi_Words.j0] at h, fun _ _ _ _ r h => by simp [pi_Words.l0] at h⟩
 | k + 1 => by
  obtain ⟨ih0, ih1⟩ := pi_Words.mono_l k
  refine ⟨?_, ?_⟩
  ·intro y0 y1 y2
   unfold pi_Words.j0
   repeat' first
   | (with_reducible exact ih0 _ _ _)
   | (with_reducible exact ih1 _ _ _ _)
   | (with_reducible exact pi_Word.mono _ _)
   | (with_reducible exact LeO.refl _)
   | (with_reducible exact LeO.none _)
   | (with_reducible refine LeO.ite ?_ ?_)
   | (with_reducible refine LeO.bind ?_ (fun _ => ?_))
   | exact ih0 _ _ _
   | exact ih1 _ _ _ _
   | exact pi_Word.mono _ _
   | exact LeO.none _
   | refine LeO.ite ?_ ?_
   | refine LeO.bind ?_ (fun _ => ?_)
  ·intro y0 y1 y2 y3
   unfold pi_Words.l0
   repeat' first
   | (with_reducible exact ih0 _ _ _)
   | (with_reducible exact ih1 _ _ _ _)
   | (with_reducible exact pi_Word.mono _ _)
   | (with_reducible exact LeO.refl _)
   | (with_reducible exact LeO.none _)
   | (with_reducible refine LeO.ite ?_ ?_)
   | (with_reducible refine LeO.bind ?_ (fun _ => ?_))
   | exact ih0 _ _ _
   | exact ih1 _ _ _ _
   | exact pi_Word.mono _ _
   | exact LeO.none _
   | refine LeO.ite ?_ ?_
   | refine LeO.bind ?_ (fun _ => ?_)
theorem pi_Words.mono : ∀ a0 a1 k, LeO (pi_Words.f k a0 a1) (pi_Words.f (k + 1) a0 a1) := by
 intro a0 a1 k
 obtain ⟨ih0, ih1⟩ := pi_Words.mono_l k
 unfold pi_Words.f
 repeat' first
   | (with_reducible exact ih0 _ _ _)
   | (with_reducible exact ih1 _ _ _ _)
   | (with_reducible exact pi_Word.mono _ _)
   | (with_reducible exact LeO.refl _)
   | (with_reducible exact LeO.none _)
   | (with_reducible refine LeO.ite ?_ ?_)
   | (with_reducible refine LeO.bind ?_ (fun _ => ?_))
   | exact ih0 _ _ _
   | exact ih1 _ _ _ _
   | exact pi_Word.mono _ _
   | exact LeO.none _
   | refine LeO.ite ?_ ?_
   | refine LeO.bind ?_ (fun _ => ?_)
set_option maxHeartbeats 8000000 in
set_option maxRecDepth 100000 in
theorem pi_Words.calls (k : Nat) (a0 : Int) (a1 : Int) (r1 : List Int) (r2 : Int) (w : World) (h : pi_Words.f k a0 a1 = some (r1, r2)) :
  Calls Try.prog 15 #[.int .i64 a0, .int .i64 a1] w fun e w' => ∃ v0_ : Value, e = .returned (.tuple #[v0_, .int .i64 r2]) ∧ Kd.R (Kd.int .u32) 23 w' w.heap.size (fun _ => True) v0_ r1 ∧ Below w.heap.size w w' := by
 have HB := Aside0.mk (Below.refl w.heap.size w)
 have H : (if a0 < 0 then (pi_Words.j0 k a0 a1 true) else (if a1 < 0 then (pi_Words.j0 k a0 a1 true) else (if a0 > 1042 then (pi_Words.j0 k a0 a1 true) else (pi_Words.j0 k a0 a1 (decide (a1 > (wrap64 (1042 - a0)))))))) = some (r1, r2) := h
 clear h
 have HC3 := Aside0.mk H
 clear H
 go_enter Try.func15, Try.ntmps15
 go_upto_region 1 with (fail)
 go_cut [23] (fun v23 wc => ∃ (kq : Nat) (x23_2 : Bool), v23 = .bool x23_2 ∧ Aside0 (pi_Words.j0 kq a0 a1 x23_2 = some (r1, r2)) ∧ Aside0 (kq ≤ k) ∧ Aside0 (Below w.heap.size w wc))
 case first =>
  have H := HC3.out
  clear HC3
  by_cases c4 : a0 < 0
  ·rw [if_pos c4] at H
   have c4b0 : decide (a0 < 0) = true := decide_eq_true c4
   clear c4
   (first | rw [c4b0] | (simp only [i64_w, i32_w]; rw [c4b0]) | skip)
   have H' := Aside0.mk H
   clear H
   go_wp2
   go_meet
   case rel => exact ⟨_, (true), (by first | rfl | (simp; done) | (simp [*]; done)), H', ⟨by first | omega | exact Nat.le_refl _⟩, ⟨by repeat (first | (with_reducible first | exact HB.out | apply below_alloc | apply pw_below_drewN | apply below_drew1) | exact HB.out)⟩⟩
  ·rw [if_neg c4] at H
   have c4b0 : decide (a0 < 0) = false := decide_eq_false c4
   clear c4
   (first | rw [c4b0] | (simp only [i64_w, i32_w]; rw [c4b0]) | skip)
   by_cases c5 : a1 < 0
   ·rw [if_pos c5] at H
    have c5b0 : decide (a1 < 0) = true := decide_eq_true c5
    clear c5
    have H' := Aside0.mk H
    clear H
    go_wp2
    go_meet
    case rel => exact ⟨_, (true), (by first | rfl | (simp; done) | (simp [*]; done)), H', ⟨by first | omega | exact Nat.le_refl _⟩, ⟨by repeat (first | (with_reducible first | exact HB.out | apply below_alloc | apply pw_below_drewN | apply below_drew1) | exact HB.out)⟩⟩
   ·rw [if_neg c5] at H
    have c5b0 : decide (a1 < 0) = false := decide_eq_false c5
    clear c5
    by_cases c6 : a0 > 1042
    ·rw [if_pos c6] at H
     have c6b0 : decide (1042 < a0) = true := decide_eq_true c6
     clear c6
     have H' := Aside0.mk H
     clear H
     go_wp2
     go_meet
     case rel => exact ⟨_, (true), (by first | rfl | (simp; done) | (simp [*]; done)), H', ⟨by first | omega | exact Nat.le_refl _⟩, ⟨by repeat (first | (with_reducible first | exact HB.out | apply below_alloc | apply pw_below_drewN | apply below_drew1) | exact HB.out)⟩⟩
    ·rw [if_neg c6] at H
     have c6b0 : decide (1042 < a0) = false := decide_eq_false c6
     clear c6
     have H' := Aside0.mk H
     clear H
     go_wp2
     go_meet
     case rel => exact ⟨_, (decide (a1 > (wrap64 (1042 - a0)))), (by first | rfl | (simp; done) | (simp [*]; done)), H', ⟨by first | omega | exact Nat.le_refl _⟩, ⟨by repeat (first | (with_reducible first | exact HB.out | apply below_alloc | apply pw_below_drewN | apply below_drew1) | exact HB.out)⟩⟩
 case rest =>
  clear HC3
  try clear c1
  try clear p2
  try clear c4
  try clear c4b0
  try clear c5
  try clear c5b0
  try clear c6
  try clear c6b0
  try clear p6
  obtain ⟨kq, x23_2, rfl, HA, HJ2, HB⟩ := hcut
  cases kq with
  | zero => exact absurd HA.out (by simp [pi_Words.j0])
  | succ kj2 =>
   have H := HA.out
   clear HA
   simp only [pi_Words.j0] at H
   by_cases c7 : x23_2 = true
   ·subst c7
    have H1 : (some (([] : List Int), 11)) = some (r1, r2) := by rw [if_pos rfl] at H; exact H
    clear H
    have H := H1
    clear H1
    simp only [Option.some.injEq, Prod.mk.injEq] at H
    obtain ⟨rfl, rfl⟩ := H
    go_wp2
    go_ret2
    exact ⟨_, by first | rfl | (simp [errW_none, errW_some] <;> rfl) | (simp [*, errW_none, errW_some] <;> rfl), by first | exact Kd.R_nil _ _ _ _ _ | exact Kd.N_nil _ _ _ _ _ | exact Kd.V_nil _ _ _ _ _ | exact Kd.Q_nil _ _ _ _ _ | exact Kd.S_nil _ _ _ _ _, by repeat (first | (with_reducible first | exact HB.out | apply below_alloc | apply pw_below_drewN | apply below_drew1) | exact HB.out)⟩
   ·replace c7 := Bool.eq_false_iff.mpr c7
    subst c7
    have H1 : (if 0 ≤ a1 then (if (a1 : Int).toNat ≤ 70368744177664 then ((some (List.replicate (a1 : Int).toNat 0 : List Int)).bind fun y102 => (pi_Words.l0 kj2 a0 y102 (y102.length : Int) 0)) else (none)) else (none)) = some (r1, r2) := by rw [if_neg (show ¬ (false = true) by decide)] at H; exact H
    clear H
    have H := H1
    clear H1
    by_cases c8 : 0 ≤ a1
    ·rw [if_pos c8] at H
     have c8b0 := eq_true c8
     have c8b1 : decide (0 ≤ a1) = true := decide_eq_true c8
     clear c8
     by_cases c9 : (a1 : Int).toNat ≤ 70368744177664
     ·rw [if_pos c9] at H
      have c9b0 := eq_true c9
      have c9b1 : decide ((a1 : Int).toNat ≤ 70368744177664) = true := decide_eq_true c9
      clear c9
      obtain ⟨y102, hy102⟩ : ∃ y_ : List Int, y_ = (List.replicate (a1 : Int).toNat 0) := ⟨_, rfl⟩
      replace H : (pi_Words.l0 kj2 a0 y102 (y102.length : Int) 0) = some (r1, r2) := by first | (rw [hy102]; with_reducible exact H) | (have H2_ := (Option.bind_some _ _).symm.trans H; rw [hy102]; with_reducible exact H2_) | (have H2_ := (Option.bind_some _ _).symm.trans H; with_reducible exact H2_) | with_reducible exact H | (rw [hy102]; exact H) | exact H
      have Ny102 := Aside0.mk hy102
      clear hy102
      have H' := Aside0.mk H
      clear H
      go_wp2_with (first | ((with_reducible refine gate_dst (N := 25) rfl ?_); refine Kd.R_make (Kd.int .u32) _ 23 rfl (N := 25) rfl 29 _ _ rfl a1 rfl rfl Try.underlying29 (.int .u32 0) 4 info23 rfl (by decide) (by omega) 0 (ok := fun _ => True) (okp := fun _ => True) rfl (fun _ hk => hk) trivial (of_decide_eq_true (by first | (with_reducible assumption) | assumption)) (Nat.le_trans (Nat.mul_le_mul_right _ (of_decide_eq_true (by first | (with_reducible assumption) | assumption) : a1.toNat ≤ 70368744177664)) (by omega)) (Below.refl _ _) (Nat.le_refl _) ?_; intro v103 w10 ho11 hb hg_ hnew_; clear hg_ hnew_; (first | rw [← Ny102.out] at ho11 | (simp only [Int.reduceToNat] at ho11; rw [← Ny102.out] at ho11)); have n0_ := Aside0.mk (Kd.R_lower ho11 (below_size (by repeat (first | (with_reducible first | exact HB.out | apply below_alloc | apply pw_below_drewN | apply below_drew1) | exact HB.out)))); have n1_ := Aside0.mk (below_step (by repeat (first | (with_reducible first | exact HB.out | apply below_alloc | apply pw_below_drewN | apply below_drew1) | exact HB.out)) hb); clear HB; have HO104 := n0_; have HB := n1_; clear n0_ n1_; clear hb ho11; obtain ⟨Ao12, co12, eo12⟩ := Kd.R_slice HO104.out; subst eo12))
      go_loopg [28] kj2 (fun kq v28 w' => ∃ (x6_2 : List Int) (x28_2 : Int), v28 = .int .i64 x28_2 ∧ Aside0 (pi_Words.l0 kq a0 x6_2 (y102.length : Int) x28_2 = some (r1, r2)) ∧ Aside0 (kq ≤ kj2) ∧ Aside0 (Kd.R (Kd.int .u32) 23 w' w.heap.size (fun _ => True) (.slice Ao12 y102.length co12) x6_2) ∧ Aside0 (Below w.heap.size w w'))
      case atStart => exact ⟨(y102), (0), (by first | rfl | (simp; done) | (simp [*]; done)), H', ⟨Nat.le_refl _⟩, ⟨by (with_reducible repeat (first | apply Kd.R_alloc | apply Kd.R_drewN | apply Kd.R_drew)); exact HO104.out⟩, ⟨by repeat (first | (with_reducible first | exact HB.out | apply below_alloc | apply pw_below_drewN | apply below_drew1) | exact HB.out)⟩⟩
      case round =>
       clear H'
       try clear c1
       try clear p2
       try clear c4
       try clear c4b0
       try clear c5
       try clear c5b0
       try clear c6
       try clear c6b0
       try clear p6
       try clear c7
       try clear c8
       try clear c8b0
       try clear c8b1
       try clear c9
       try clear c9b0
       try clear c9b1
       try clear p2
       try clear p6
       obtain ⟨x6_2, x28_2, rfl, HA, HK2, HO_6, HB⟩ := hrel
       have hl6_2 := (Kd.R_reads' HO_6.out).1
       rw [hl6_2] at HO_6
       (try simp only [hl6_2])
       cases gk with
       | zero => exact absurd HA.out (by simp [pi_Words.l0])
       | succ k2 =>
        have H := HA.out
        clear HA
        simp only [pi_Words.l0] at H
        by_cases c13 : x28_2 < (y102.length : Int)
        ·rw [if_pos c13] at H
         have c13b0 : decide (x28_2 < (y102.length : Int)) = true := decide_eq_true c13
         clear c13
         replace H := Option.bind_eq_some_iff.mp H
         obtain ⟨⟨t105, t106⟩, A140, H⟩ := H
         replace H : (if 0 ≤ x28_2 then (if x28_2 < (x6_2.length : Int) then (pi_Words.l0 k2 a0 (x6_2.set (x28_2 : Int).toNat t105) (y102.length : Int) (wrap64 (x28_2 + 1))) else (none)) else (none)) = some (r1, r2) := H
         have A14 := Aside0.mk A140
         clear A140
         by_cases c15 : 0 ≤ x28_2
         ·rw [if_pos c15] at H
          have c15b0 : decide (0 ≤ x28_2) = true := decide_eq_true c15
          clear c15
          by_cases c16 : x28_2 < (x6_2.length : Int)
          ·rw [if_pos c16] at H
           have c16b0 : decide (x28_2 < (x6_2.length : Int)) = true := decide_eq_true c16
           clear c16
           obtain ⟨y107, hy107⟩ : ∃ y_ : List Int, y_ = (x6_2.set (x28_2 : Int).toNat t105) := ⟨_, rfl⟩
           replace H : (pi_Words.l0 k2 a0 y107 (y102.length : Int) (wrap64 (x28_2 + 1))) = some (r1, r2) := by first | (rw [hy107]; with_reducible exact H) | (have H2_ := (Option.bind_some _ _).symm.trans H; rw [hy107]; with_reducible exact H2_) | (have H2_ := (Option.bind_some _ _).symm.trans H; with_reducible exact H2_) | with_reducible exact H | (rw [hy107]; exact H) | exact H
           have Ny107 := Aside0.mk hy107
           clear hy107
           have H' := Aside0.mk H
           clear H
           go_wp2_with (first | ((with_reducible refine gate_callee (f := 13) rfl ?_); refine goesL_ (some 37) rfl rfl Try.func13 (by kernel_rfl) rfl #[.int .i64 (wrap64 (a0 + x28_2))] rfl (by (try simp only [List.map_toArray, List.map_cons, List.map_nil]); first | done | rfl | (simp only [List.length_drop, List.length_take]; rfl)) ?_; (with_reducible refine (pi_Word.calls k2 (wrap64 (a0 + x28_2)) t105 t106 _ A14.out).mono ?_); rintro e w' ⟨rfl, ⟨nd, rfl⟩⟩; refine ⟨_, rfl, ?_⟩; (try (rw [drewN_self wr]; generalize hq_ : World.drewN wr _ = wr; have n0_ : Aside0 (Kd.R (Kd.int .u32) 23 wr w.heap.size (fun _ => True) (.slice Ao12 x6_2.length co12) x6_2) := ⟨by rw [← hq_]; exact (by (with_reducible repeat (first | apply Kd.R_alloc | apply Kd.R_drewN | apply Kd.R_drew)); exact HO_6.out)⟩; have n1_ : Aside0 (Below w.heap.size w wr) := ⟨by rw [← hq_]; exact (by repeat (first | (with_reducible first | exact HB.out | apply below_alloc | apply pw_below_drewN | apply below_drew1) | exact HB.out))⟩; clear HO_6 HB hq_; have HO_6 := n0_; have HB := n1_; clear n0_ n1_)); have p17 : 0 ≤ (x28_2 : Int) := of_decide_eq_true (by first | (with_reducible assumption) | assumption); have q17 : (x28_2 : Int) < ((x6_2.length : Int) : Int) := of_decide_eq_true (by first | (with_reducible assumption) | assumption); obtain ⟨go17, co17, eo17, gb17, gl17, cl17, HG17⟩ := Kd.R_form HO_6.out (by omega); (first | cases eo17 | (injection eo17 with ea_ en_ ec_; (first | subst ea_ | (injection ea_ with ea_; subst ea_)); subst ec_; clear en_)); have GB17 := Aside0.mk gb17; have GG17 := Aside0.mk HG17; clear gb17 gl17 HG17; obtain ⟨hx17_0, hf17_0⟩ := Kd.R_celln 0 HO_6.out (x28_2 : Int) p17 q17; replace p17 := eq_true p17; replace q17 := eq_true q17; obtain ⟨hy18_, hz18_⟩ := Kd.R_celln 0 HO_6.out (x28_2 : Int) (of_decide_eq_true (by first | (with_reducible assumption) | assumption)) (of_decide_eq_true (by first | (with_reducible assumption) | assumption)); have HP18 := Kd.R_putg HO_6.out (x28_2 : Int) t105) | ((with_reducible refine gate_store (t := 23) (p := 40) rfl ?_); refine store_event (t := 23) (p := 40) (v := ?vo_w19) (w1 := (wr.setCell ⟨go17, (x28_2 : Int).toNat, none⟩ (.int .u32 t105))) ?hg ?ho ?hn ?hr ?_; (case ho => rfl); (case hg => rfl); (case hn => rfl); (case hr => first | (go_simp; done) | (go_simp; rfl)); intro w19 hw; have hg : wr.grownBy w19 (some go17) := (by rw [hw]; exact HP18.2); have hp_ : Kd.R (Kd.int .u32) 23 w19 w.heap.size (fun _ => True) (.slice (some ⟨go17, 0, none⟩) x6_2.length co12) y107 := (by rw [hw, Ny107.out]; exact HP18.1); clear HP18; have n0_ := Aside0.mk (hp_); have n1_ := Aside0.mk ((by rw [hw]; exact below_set (HB.out) GB17.out : Below w.heap.size w w19)); clear HO_6; clear HB; have HO_6 := n0_; have HB := n1_; clear n0_ n1_; clear hg hw hp_))
           (try simp only [← hl6_2])
           go_roundg k2
           case measure => have := HJ2.out; have := HK2.out; omega
           case rel => exact ⟨(y107), (wrap64 (x28_2 + 1)), (by first | rfl | (simp; done) | (simp [*]; done)), H', ⟨by have := HJ2.out; have := HK2.out; omega⟩, ⟨by (try simp only [hl6_2]); (with_reducible repeat (first | apply Kd.R_alloc | apply Kd.R_drewN | apply Kd.R_drew)); exact HO_6.out⟩, ⟨by repeat (first | (with_reducible first | exact HB.out | apply below_alloc | apply pw_below_drewN | apply below_drew1) | exact HB.out)⟩⟩
          ·rw [if_neg c16] at H
           exact absurd H (by simp)
         ·rw [if_neg c15] at H
          exact absurd H (by simp)
        ·rw [if_neg c13] at H
         have c13b0 : decide (x28_2 < (y102.length : Int)) = false := decide_eq_false c13
         (try rw [hl6_2] at c13b0)
         clear c13
         simp only [Option.some.injEq, Prod.mk.injEq] at H
         obtain ⟨rfl, rfl⟩ := H
         go_wp2
         go_ret2
         exact ⟨_, by first | rfl | (simp [errW_none, errW_some] <;> rfl) | (simp [*, errW_none, errW_some] <;> rfl), by (with_reducible repeat (first | apply Kd.R_alloc | apply Kd.R_drewN | apply Kd.R_drew)); exact HO_6.out, by repeat (first | (with_reducible first | exact HB.out | apply below_alloc | apply pw_below_drewN | apply below_drew1) | exact HB.out)⟩
     ·rw [if_neg c9] at H
      exact absurd H (by simp)
    ·rw [if_neg c8] at H
     exact absurd H (by simp)

/-! ### cipher_Plain: function 17 -/
def ciI (t : List Nat) : List Int := t.map fun (n : Nat) => (n : Int)
theorem ciI_len (t : List Nat) : (ciI t).length = t.length := List.length_map _
theorem ciI_rd (t : List Nat) (i : Nat) (h : i < t.length) : rd (ciI t) (i : Int) = ((ciW t i : Nat) : Int) := by
  have e : rd (ciI t) (i : Int) = (ciI t).getD i 0 := rfl
  rw [e]
  unfold ciI ciW
  rw [List.getD_eq_getElem?_getD, List.getElem?_map, List.getElem?_eq_getElem h, List.getD_eq_getElem?_getD, List.getElem?_eq_getElem h]; rfl
def ciMix (t : List Nat) (m : Nat) : List Nat := t.take m ++ List.replicate (1042 - m) 0
def ciV (t : List Nat) (m n : Nat) : List Value := ((t.drop m).take n).map fun (n : Nat) => Value.int .u32 (n : Int)
theorem ciV_len {t : List Nat} (h : t.length = 1042) {m n : Nat} (hm : m + n ≤ 1042) : (ciV t m n).length = n := by
  unfold ciV
  rw [List.length_map, List.length_take, List.length_drop]; omega
theorem ciV_one (t : List Nat) (m n : Nat) : ∀ v ∈ ciV t m n, v.oneCell' = true := by
  intro v hv
  unfold ciV at hv
  obtain ⟨x, _, rfl⟩ := List.mem_map.mp hv
  rfl
theorem ciV_get {t : List Nat} {m n j : Nat} {v : Value} (h : (ciV t m n)[j]? = some v) (ht : t.length = 1042) : m + j < 1042 ∧ v = .int .u32 ((ciW t (m + j) : Nat) : Int) := by
  unfold ciV at h
  rw [List.getElem?_map, Option.map_eq_some_iff] at h
  obtain ⟨x, hx, rfl⟩ := h
  obtain ⟨h1, h2⟩ := List.getElem?_eq_some_iff.mp hx
  rw [List.length_take, List.length_drop] at h1
  rw [List.getElem_take, List.getElem_drop] at h2
  refine ⟨by omega, ?_⟩
  unfold ciW
  rw [List.getD_eq_getElem?_getD, List.getElem?_eq_getElem (by omega), ← h2]; rfl
theorem ciMix_put {t : List Nat} (h : t.length = 1042) {m n : Nat} (hm : m + n ≤ 1042) : ((ciA (ciMix t m)).toList.take m ++ (ciV t m n ++ (ciA (ciMix t m)).toList.drop (m + n))).toArray = ciA (ciMix t (m + n)) := by
  unfold ciA ciMix ciV
  simp only [List.map_append, List.map_replicate]
  congr 1
  have l1 : (List.map (fun (n : Nat) => Value.int .u32 (n : Int)) (t.take m)).length = m := by rw [List.length_map, List.length_take]; omega
  rw [List.take_left' l1, ← List.drop_drop, List.drop_left' l1, List.drop_replicate, ← List.append_assoc, ← List.map_append, ← List.take_add, show 1042 - m - n = 1042 - (m + n) by omega]
theorem ciMix_zero : ciMix [] 0 = List.replicate 1042 0 := rfl
theorem ciMix_start (t : List Nat) : ciMix t 0 = List.replicate 1042 0 := by unfold ciMix; rw [List.take_zero]; rfl
theorem ciMix_end {t : List Nat} (h : t.length = 1042) : ciMix t 1042 = t := by
  unfold ciMix
  rw [List.take_of_length_le (by omega), Nat.sub_self]
  exact List.append_nil _
theorem ciMix_len {t : List Nat} (h : t.length = 1042) {m : Nat} (hm : m ≤ 1042) : (ciMix t m).length = 1042 := by
  unfold ciMix
  rw [List.length_append, List.length_take, List.length_replicate]; omega
theorem ci_add0 (a : Addr) : a.add 0 = a := by
  obtain ⟨b, o, p⟩ := a
  unfold Addr.add
  split <;> simp_all
/-- the document's plain table lies in a row: its cells -/
theorem ci_src {w : World} {ad : Addr} {n : Nat} {t : List Nat} (h : (Kd.int .u32).C w (some ad) n (ciI t)) (hn : n = 1042) (ht : t.length = 1042) (m k : Nat) : ∀ j v, (ciV t m k)[j]? = some v → w.cell? ((ad.add m).add j) = some v := by
  intro j v hv
  obtain ⟨h1, rfl⟩ := ciV_get hv ht
  have q := Kd.foot_int h ((m + j : Nat) : Int) (by omega) (by omega)
  rw [ciI_rd t (m + j) (by omega)] at q
  rw [Addr.add_add]
  exact q
/-- words of the plain table copied into the block -/
theorem ci_copy {ops : Array Oper} {rest : List Oper} {o : Oper} {a : Act} {Q : Exit → Act → World → Prop} {w : World} {gb m n : Nat} {t : List Nat} (hgd : o.guard = none) (d s : Operand)
    (ho : o.op = .call { callee := .builtin .copy, args := #[d, s], argTypes := #[29, 29] }) (dC sl sc : Nat) (sad : Addr) (hd : a.eval d = .slice (some ⟨gb, m, none⟩) n dC) (hs : a.eval s = .slice (some sad) sl sc) (hsl : n ≤ sl)
    (HC : Ci 70 w gb (ciMix t m)) (HT : t.length = 1042) (hmn : m + n ≤ 1042) (hsrc : ∀ j v, (ciV t m n)[j]? = some v → w.cell? (sad.add j) = some v)
    (h : ∀ w', Ci 70 w' gb (ciMix t (m + n)) → But gb w w' → wpList Try.prog ops Q rest (a.put o.dst (goInt n)) w') : wpList Try.prog ops Q (o :: rest) a w := by
  have hl := ciV_len HT hmn
  refine wpList_copy_own hgd d s 29 29 ho 23 Try.underlying29 (by kernel_rfl) gb m n dC sad sl sc hd hs (ciA (ciMix t m)) 70 HC (ciV t m n) (by rw [hl]; exact (Nat.min_eq_right hsl).symm) hsrc (by rw [hl, ciA_size, ciMix_len HT (by omega)]; exact hmn) (ciV_one t m n) ?_
  rw [hl, ciMix_put HT hmn]
  refine h _ (setRow_heap _ _ _ _ _ _ HC) ⟨rfl, rfl, rfl, by simp [World.setRow], fun k _ hk => setRow_other _ _ _ _ hk⟩
theorem But.below {B g : Nat} {w0 w w' : World} (hb : Below B w0 w) (k : But g w w') (hg : B ≤ g) (hB : B ≤ w.heap.size) : Below B w0 w' := But.step hb k hg hB
set_option maxHeartbeats 8000000 in
set_option maxRecDepth 100000 in
theorem cipher_Plain.calls (k : Nat) (t : List Nat) (ht : t.length = 1042) (h : pi_Words.f k 0 1042 = some (ciI t, 0)) (w : World) :
    Calls Try.prog 17 #[] w fun e w' => ∃ g, w.heap.size ≤ g ∧ e = .returned (.pointer (some ⟨g, 0, none⟩)) ∧ Ci 70 w' g t ∧ Below w.heap.size w w' := by
  have H := Aside0.mk h
  have HT := Aside0.mk ht
  clear h ht
  go_enter Try.func17, Try.ntmps17
  obtain ⟨Z, hZ⟩ : ∃ Z, ciA (List.replicate 1042 0) = Z := ⟨_, rfl⟩
  have hz : ∀ W : World, (zeroValue 70).run Try.prog W = .ok (.agg Z) W := fun W => by rw [← hZ]; kernel_rfl
  have hz2 : ¬ Z = #[] := fun q => by
    have := congrArg Array.size q
    rw [← hZ, ciA_size, List.length_replicate] at this
    exact absurd this (by decide)
  replace hZ := Aside0.mk hZ
  go_wp2_with (first | ((with_reducible refine gate_dst (N := 6) rfl ?_); refine box_event ?hg (N := 6) ?hd (cs := Z) (t := 70) ?hr ?_; (case hd => rfl); (case hg => rfl); (case hr => rfl); intro gb hg w1 hbox hb; have HB := Aside0.mk (show Below w.heap.size w w1 from hb); have BK := Aside0.mk hbox; have GE := Aside0.mk (show w.heap.size ≤ gb by rw [hg]; exact Nat.le_refl _); clear hb hbox hg hz hz2) | (go_at_call 15; refine (pi_Words.calls k 0 1042 (ciI t) 0 _ H.out).mono ?_; rintro e wn ⟨v0_, rfl, hR, hb⟩; have n0_ := Aside0.mk (below_step HB.out hb); have n1_ := Aside0.mk ((hb.block gb (blk_lt BK.out)).trans BK.out); have HR := Aside0.mk hR; clear hb HB BK hR; have HB := n0_; have BK := n1_; clear n0_ n1_))
  have n0_ := Aside0.mk (Kd.R_types HR.out BK.out (t := 70) (fun q hq => by have hq' : q ∈ [23] := hq; rw [List.mem_singleton] at hq'; rw [hq']; decide))
  clear HR
  obtain ⟨ad, c, rfl⟩ := Kd.R_slice1 n0_.out (by rw [ciI_len, HT.out]; omega)
  have HR := n0_
  clear n0_
  rw [ciI_len, HT.out] at HR ⊢
  have hcap : 1042 ≤ c := (Kd.R_reads' HR.out).2.1
  have hcapI : (1042 : Int) ≤ (c : Int) := by omega
  have hc18 : (18 : Int) ≤ (c : Int) := by omega
  have hc18n : 18 ≤ c := by omega
  replace BK := Aside0.mk (show Ci 70 wn gb (ciMix t 0) by rw [ciMix_start]; unfold Ci; rw [hZ.out]; exact BK.out)
  clear hZ
  go_still_tail 6, (by kernel_rfl)
  change wpList _ _ _ _ _ wn.drew
  have n0_ := Aside0.mk (show Ci 70 wn.drew gb (ciMix t 0) from BK.out)
  have n1_ := Aside0.mk (HB.out.drew)
  have n2_ := Aside0.mk (Kd.R_step HR.out (w1 := wn.drew) (fun _ _ _ => rfl))
  clear BK HB HR
  generalize wn.drew = w2 at n0_ n1_ n2_
  have BK := n0_
  have HB := n1_
  have HR := n2_
  clear n0_ n1_ n2_
  refine ci_copy rfl (.tmp 14) (.tmp 16) rfl 18 18 c ad rfl rfl (Nat.le_refl _) BK.out HT.out (by omega) (fun j v hv => by have q := ci_src (Kd.R_reads' HR.out).2.2 (ciI_len t |>.trans HT.out) HT.out 0 18 j v hv; rwa [ci_add0] at q) ?_
  intro w3 hc3 hk3
  have n0_ := Aside0.mk hc3
  have n1_ := Aside0.mk (But.below HB.out hk3 GE.out (by have := HB.out.size; exact this))
  have n2_ := Aside0.mk (Kd.R_step HR.out (w1 := w3) (fun k hk hl => hk3.block k hl hk.2))
  clear BK HB HR hc3 hk3
  have BK := n0_
  have HB := n1_
  have HR := n2_
  clear n0_ n1_ n2_
  go_wp2
  go_loopw [18] (fun v18 wz => ∃ n : Nat, n ≤ 4 ∧ v18 = .int .i64 (n : Int) ∧ Aside0 (Ci 70 wz gb (ciMix t (18 + n * 256))) ∧ Aside0 (Below w.heap.size w wz) ∧ Aside0 (Kd.R (Kd.int .u32) 23 wz w1.heap.size (fun k => True ∧ k ≠ gb) (.slice (some ad) 1042 c) (ciI t))) (fun v18 _ => 4 - (intOf v18).toNat)
  case atStart => exact ⟨0, by omega, rfl, BK, HB, HR⟩
  case round =>
    clear BK HB HR
    obtain ⟨n, hn, rfl, BK, HB, HR⟩ := hrel
    by_cases hlt : n < 4
    · have p1 : (n : Int) < 4 := by omega
      have w1_ : IntKind.i64.wrap (256 * (n : Int)) = 256 * (n : Int) := by rw [IntKind.wrap_i64]; omega
      have w2_ : IntKind.i64.wrap (18 + 256 * (n : Int)) = 18 + 256 * (n : Int) := by rw [IntKind.wrap_i64]; omega
      have p2 : (18 + 256 * (n : Int)) ≤ (c : Int) := by omega
      have p3 : (18 + 256 * (n : Int)) ≤ 1042 := by omega
      have p4 : 0 ≤ (18 + 256 * (n : Int)) := by omega
      go_wp2
      go_still_tail 11, (by kernel_rfl)
      change wpList _ _ _ _ _ wr.drew
      have n0_ := Aside0.mk (show Ci 70 wr.drew gb (ciMix t (18 + n * 256)) from BK.out)
      have n1_ := Aside0.mk (HB.out.drew)
      have n2_ := Aside0.mk (Kd.R_step HR.out (w1 := wr.drew) (fun _ _ _ => rfl))
      clear BK HB HR
      generalize wr.drew = w4 at n0_ n1_ n2_
      have BK := n0_
      have HB := n1_
      have HR := n2_
      clear n0_ n1_ n2_
      refine ci_copy (m := 18 + n * 256) (n := 256) rfl (.tmp 26) (.tmp 31) rfl 256 (1042 - (18 + 256 * (n : Int)).toNat) (c - (18 + 256 * (n : Int)).toNat) (ad.add (18 + 256 * (n : Int)).toNat) rfl ?_ (by omega) BK.out HT.out (by omega) (fun j v hv => ?_) ?_
      · show Value.slice (if c = (18 + 256 * (n : Int)).toNat then some ad else some (ad.add (18 + 256 * (n : Int)).toNat)) _ _ = _
        rw [if_neg (by omega)]
      · rw [show (18 + 256 * (n : Int)).toNat = 18 + n * 256 by omega]
        exact ci_src (Kd.R_reads' HR.out).2.2 (ciI_len t |>.trans HT.out) HT.out (18 + n * 256) 256 j v hv
      intro w5 hc5 hk5
      have n0_ := Aside0.mk hc5
      have n1_ := Aside0.mk (But.below HB.out hk5 GE.out (by have := HB.out.size; exact this))
      have n2_ := Aside0.mk (Kd.R_step HR.out (w1 := w5) (fun k hk hl => hk5.block k hl hk.2))
      clear BK HB HR hc5 hk5
      have BK := n0_
      have HB := n1_
      have HR := n2_
      clear n0_ n1_ n2_
      go_wp2
      refine ⟨⟨n + 1, by omega, by go_num, ⟨?_⟩, HB, HR⟩, by simp [intOf]; omega⟩
      rw [show 18 + (n + 1) * 256 = 18 + n * 256 + 256 by omega]
      exact BK.out
    · obtain rfl : n = 4 := by omega
      have n0_ := Aside0.mk (show Ci 70 wr gb t by have q := BK.out; rwa [show 18 + 4 * 256 = 1042 from rfl, ciMix_end HT.out] at q)
      clear BK
      go_wp2
      go_ret
      exact ⟨gb, GE.out, rfl, n0_.out, HB.out⟩

/-! ### cipher_stream_next: function 46 -/
/-- a stream lies at a block, so many bytes on -/
def CiS (w : World) (g : Nat) (s : ByteArray) (m : Nat) : Prop := w.heap[g]? = some (.cells #[.string s, .int .i64 ((ciAt s m : Nat) : Int)] 74 (0, 0))
theorem ciAt_lt {s : ByteArray} (h : 0 < s.size) (m : Nat) : ciAt s m < s.size := by
  unfold ciAt
  rw [if_neg (by omega)]
  exact Nat.mod_lt _ h
theorem ciAt_succ {s : ByteArray} (h : 0 < s.size) (m : Nat) : ciAt s (m + 1) = (ciAt s m + 1) % s.size := by
  unfold ciAt
  rw [if_neg (by omega), if_neg (by omega), Nat.mod_add_mod]
theorem ciB_at {s : ByteArray} (h : 0 < s.size) (m : Nat) (hl : ciAt s m < s.size) : (s[ciAt s m]'hl).toNat = ciB s m := by
  have e : ciAt s m = m % s.size := if_neg (by omega)
  unfold ciB
  rw [if_neg (by omega), ← e, List.getD_eq_getElem?_getD, List.getElem?_eq_getElem (by rw [Array.length_toList]; exact hl)]
  rfl
theorem ciWj_succ (s : ByteArray) (i j : Nat) : ciWj s i (j + 1) = ciWj s i j * 256 + ciB s (4 * i + j) := rfl
theorem ciS_put {w : World} {g : Nat} {s : ByteArray} {m m' : Nat} (h : CiS w g s m) : CiS (w.setCell ⟨g, 1, none⟩ (.int .i64 ((ciAt s m' : Nat) : Int))) g s m' := blk_set h 1 (.int .i64 ((ciAt s m' : Nat) : Int))
theorem CiS.drewN {w : World} {g : Nat} {s : ByteArray} {m : Nat} (h : CiS w g s m) (n : Nat) : CiS (w.drewN n) g s m := by
  have q := (below_of_drawn (w := w) ⟨n, rfl⟩).block g (blk_lt h)
  exact q.trans h
theorem But.refl (g : Nat) (w : World) : But g w w := ⟨rfl, rfl, rfl, Nat.le_refl _, fun _ _ _ => rfl⟩
theorem But.drawn {g : Nat} {w w' w'' : World} (h : But g w w') (k : Drawn0 w' w'') : But g w w'' := h.trans (But.of (below_of_drawn k))
theorem But.put {g : Nat} {w w' : World} (h : But g w w') (i : Nat) (v : Value) : But g w (w'.setCell ⟨g, i, none⟩ v) :=
  h.trans ⟨rfl, rfl, rfl, by simp [World.setCell], fun k _ hk => Below.heap_setCell _ _ _ _ hk⟩
set_option maxHeartbeats 8000000 in
set_option maxRecDepth 100000 in
theorem cipher_stream_next.calls (s : ByteArray) (hs : s.size ≤ 9223372036854775807) (g i : Nat) (w : World) (h : CiS w g s (4 * i)) :
    Calls Try.prog 46 #[.pointer (some ⟨g, 0, none⟩)] w fun e w' => e = .returned (.int .u32 ((ciWord s i : Nat) : Int)) ∧ CiS w' g s (4 * (i + 1)) ∧ But g w w' := by
  have HC := Aside0.mk h
  have HZ := Aside0.mk hs
  have HB := Aside0.mk (But.refl g w)
  clear h hs
  go_enter Try.func46, Try.ntmps46
  go_wp2
  go_loopw [4, 3] (fun v4 v3 wz => ∃ j : Nat, j ≤ 4 ∧ v4 = .int .i64 (j : Int) ∧ v3 = .int .u32 ((ciWj s i j : Nat) : Int) ∧ Aside0 (CiS wz g s (4 * i + j)) ∧ Aside0 (But g w wz)) (fun v4 _ _ => 4 - (intOf v4).toNat)
  case atStart => exact ⟨0, by omega, rfl, rfl, HC, HB⟩
  case round =>
    clear HC HB
    obtain ⟨j, hj, rfl, rfl, HC, HB⟩ := hrel
    by_cases hlt : j < 4
    case neg =>
      obtain rfl : j = 4 := by omega
      go_wp2
      go_ret
      exact ⟨rfl, HC.out, HB.out⟩
    have W := Aside0.mk (ciWj_succ s i j)
    have hv24 : ciWj s i j < 16777216 := by
      have q := ciWj_lt s i j
      have q2 : 256 ^ j ≤ 256 ^ 3 := Nat.pow_le_pow_right (by omega) (by omega)
      omega
    have HV := Aside0.mk hv24
    obtain ⟨v, hv⟩ : ∃ v, ciWj s i j = v := ⟨_, rfl⟩
    rw [hv] at W HV hv24 ⊢
    clear hv
    have hshl : ((v : Int) * 256) % 4294967296 = (v : Int) * 256 := by omega
    have hc0 : wr.cell? ⟨g, 0, none⟩ = some (.string s) := (blk_cell HC.out 0).trans rfl
    by_cases hz : s.size = 0
    · have e0 : s = ⟨#[]⟩ := by
        obtain ⟨d⟩ := s
        have : d = #[] := Array.eq_empty_of_size_eq_zero hz
        rw [this]
      have hne : (s.toList != []) = false := by rw [e0, ByteArray.toList_eq]; rfl
      have W2 : ciWj s i (j + 1) = v * 256 := by
        rw [W.out]
        unfold ciB
        rw [if_pos hz]; rfl
      have A2 : CiS wr g s (4 * i + (j + 1)) := by
        have q := HC.out
        unfold CiS ciAt at q ⊢
        rw [if_pos hz] at q ⊢
        exact q
      replace W2 := Aside0.mk W2
      replace A2 := Aside0.mk A2
      subst e0
      clear hz hne
      go_wp2
      refine ⟨⟨j + 1, by omega, by go_num, ?_, A2, HB⟩, by simp [intOf]; omega⟩
      rw [W2.out]; rfl
    · have hp : 0 < s.size := by omega
      have hne : (s.toList != []) = true := by
        rw [bne_iff_ne]
        intro q
        have : s.toList.length = s.size := by rw [ByteArray.toList_eq]; exact Array.length_toList
        rw [q] at this
        exact hz this.symm
      have hne4 : ¬ s = ByteArray.empty := fun q => hz (by rw [q]; rfl)
      have hne3 : (!s.toList.isEmpty) = true := by
        rw [← hne]
        cases s.toList <;> rfl
      have hc1 : wr.cell? ⟨g, 1, none⟩ = some (.int .i64 ((ciAt s (4 * i + j) : Nat) : Int)) := (blk_cell HC.out 1).trans rfl
      have hf1 : wr.frozen? ⟨g, 1, none⟩ = false := blk_frozen HC.out 1
      have S := Aside0.mk (ciAt_succ hp (4 * i + j))
      have L := Aside0.mk (ciAt_lt hp (4 * i + j))
      have B := Aside0.mk (ciB_at hp (4 * i + j) L.out)
      have B2 := Aside0.mk (ciB_lt s (4 * i + j))
      have P := Aside0.mk (fun W : World => (ciS_put (w := W) (g := g) (s := s) (m := 4 * i + j) (m' := 4 * i + j + 1)))
      obtain ⟨a, ha⟩ : ∃ a, ciAt s (4 * i + j) = a := ⟨_, rfl⟩
      obtain ⟨b, hb⟩ : ∃ b, ciB s (4 * i + j) = b := ⟨_, rfl⟩
      obtain ⟨a', ha'⟩ : ∃ a', ciAt s (4 * i + j + 1) = a' := ⟨_, rfl⟩
      rw [ha] at hc1 S L
      rw [ha'] at S P
      rw [hb] at W B B2
      have hsz : decide (s.size = 0) = false := decide_eq_false hz
      have hix : ∀ W : World, (Instr.index 9 (.string s) (.int .i64 (a : Int))).run Try.prog W = .ok (.int .u8 (b : Int)) W := fun W => by
        rw [run_index_string W 9 s .i64 (a : Int) Try.underlying9, dif_pos (by have := L.out; omega)]
        have q := B.out
        simp only [ha] at q
        exact congrArg (fun x : Nat => Result.ok (Value.int .u8 (x : Int)) W) q
      have hbc : (b : Int) % 4294967296 = (b : Int) := by have := B2.out; omega
      have hor := ci_bor v b HV.out B2.out
      have hn0 : ((s.size : Nat) : Int) ≠ 0 := by omega
      have hn1 : ((s.size : Int) == 0) = false := beq_eq_false_iff_ne.2 hn0
      have hrem : Int.tmod ((a : Int) + 1) (s.size : Int) = (a' : Int) := by
        rw [Int.tmod_eq_emod_of_nonneg (by omega), S.out, Int.natCast_emod]
        rfl
      have hadd : IntKind.i64.wrap ((a : Int) + 1) = (a : Int) + 1 := by
        have := L.out
        have := HZ.out
        rw [IntKind.wrap_i64]; omega
      clear hv24 hp hz
      go_wp2
      go_quiet (fail)
      have n0_ := Aside0.mk (show CiS (wr.drewN nq) g s (4 * i + j) from HC.out.drewN nq)
      have n1_ := Aside0.mk (show But g w (wr.drewN nq) from HB.out.drawn ⟨nq, rfl⟩)
      clear HC HB hc0 hc1 hf1
      generalize wr.drewN nq = wq at n0_ n1_
      have HC := n0_
      have HB := n1_
      clear n0_ n1_
      have hc0 : wq.cell? ⟨g, 0, none⟩ = some (.string s) := (blk_cell HC.out 0).trans rfl
      have hc1 : wq.cell? ⟨g, 1, none⟩ = some (.int .i64 (a : Int)) := by rw [← ha]; exact (blk_cell HC.out 1).trans rfl
      have hf1 : wq.frozen? ⟨g, 1, none⟩ = false := blk_frozen HC.out 1
      go_wp2
      go_still_tail 14, (by kernel_rfl)
      have n0_ := Aside0.mk (show CiS wq.drew g s (4 * i + j) from HC.out)
      have n1_ := Aside0.mk (show But g w wq.drew from HB.out.drawn ⟨1, rfl⟩)
      have hf2 : wq.drew.frozen? ⟨g, 1, none⟩ = false := blk_frozen n0_.out 1
      have hc2 : wq.drew.cell? ⟨g, 1, none⟩ = some (.int .i64 (a : Int)) := by rw [← ha]; exact (blk_cell n0_.out 1).trans rfl
      clear HC HB hc0 hc1 hf1
      change wpList _ _ _ _ _ wq.drew
      generalize wq.drew = wx at n0_ n1_ hf2 hc2
      have HC := n0_
      have HB := n1_
      clear n0_ n1_
      go_wp2
      refine ⟨⟨j + 1, by omega, by go_num, ?_, ⟨P.out _ HC.out⟩, ⟨HB.out.put 1 _⟩⟩, by simp [intOf]; omega⟩
      rw [W.out]; rfl

end Go.Proofs.Ytimgndceiibaeaa.Pall
