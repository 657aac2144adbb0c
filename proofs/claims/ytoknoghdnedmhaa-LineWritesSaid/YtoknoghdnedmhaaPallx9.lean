-- PRINTED by print.py (a twelfth state) out of the translation. Not trusted: Lean checks it.
import Derived.Test.YtoknoghdnedmhaaPallx0
import Derived.Test.YtoknoghdnedmhaaPallx1
import Derived.Test.YtoknoghdnedmhaaPallx2
import Derived.Test.YtoknoghdnedmhaaPallx4
import Derived.Test.YtoknoghdnedmhaaPallx5
import Derived.Test.YtoknoghdnedmhaaPallx6
import Derived.Test.YtoknoghdnedmhaaPallx7
import Derived.Test.YtoknoghdnedmhaaPallx8
namespace Go.Proofs.Ytoknoghdnedmhaa.Pall
open Go.RowKit Go.Proofs.YtoknoghdnedmhaaW.PrintWords Go.Proofs.YtoknoghdnedmhaaW.PrintLast Go.Proofs.YtoknoghdnedmhaaW.PrintMore
attribute [local go_sem] max2_int min2_int max_two min_two max_three min_three max_four min_four   -- for this text's walks alone
set_option linter.unusedVariables false
set_option linter.unusedSimpArgs false

attribute [local go_sem high] eqA49
/-! ### pestlelaw53_LineReads: function 10 -/
mutual
def pestlelaw53_LineReads.j0 : Nat → ByteArray → ByteArray → Bool → Option (Bool)
  | 0, _, _, _ => none
  | k + 1, x0, x1, x28 => if x28 = true then (some true) else ((line_Read.f k x0).bind fun bt226 => ((pestleref53_Read.f k x0).bind fun bt231 => ((line_All.f k x1).bind fun bt236 => ((pestleref53_All.f k x1).bind fun bt241 => ((line_Kind.f x0).bind fun bt246 => ((line_Word.f bt246.1).bind fun bt248 => (if bt246.2 = 0 then (if bt248.1.toList = x0.toList then (if bt248.2 = 0 then (pestlelaw53_LineReads.j1 k x0 bt226.2.2.2 bt231.2.2.2 bt236.1 bt236.2.1 bt236.2.2 bt241.1 bt241.2.1 bt241.2.2 false bt226.1 bt226.2.1 bt226.2.2.1 bt231.1 bt231.2.1 bt231.2.2.1) else (pestlelaw53_LineReads.j1 k x0 bt226.2.2.2 bt231.2.2.2 bt236.1 bt236.2.1 bt236.2.2 bt241.1 bt241.2.1 bt241.2.2 true bt226.1 bt226.2.1 bt226.2.2.1 bt231.1 bt231.2.1 bt231.2.2.1)) else (pestlelaw53_LineReads.j1 k x0 bt226.2.2.2 bt231.2.2.2 bt236.1 bt236.2.1 bt236.2.2 bt241.1 bt241.2.1 bt241.2.2 true bt226.1 bt226.2.1 bt226.2.2.1 bt231.1 bt231.2.1 bt231.2.2.1)) else (if bt246.1 = 0 then (if bt246.2 = 6 then (pestlelaw53_LineReads.j1 k x0 bt226.2.2.2 bt231.2.2.2 bt236.1 bt236.2.1 bt236.2.2 bt241.1 bt241.2.1 bt241.2.2 (bt248.2 != 1) bt226.1 bt226.2.1 bt226.2.2.1 bt231.1 bt231.2.1 bt231.2.2.1) else (pestlelaw53_LineReads.j1 k x0 bt226.2.2.2 bt231.2.2.2 bt236.1 bt236.2.1 bt236.2.2 bt241.1 bt241.2.1 bt241.2.2 true bt226.1 bt226.2.1 bt226.2.2.1 bt231.1 bt231.2.1 bt231.2.2.1)) else (pestlelaw53_LineReads.j1 k x0 bt226.2.2.2 bt231.2.2.2 bt236.1 bt236.2.1 bt236.2.2 bt241.1 bt241.2.1 bt241.2.2 true bt226.1 bt226.2.1 bt226.2.2.1 bt231.1 bt231.2.1 bt231.2.2.1)))))))))
def pestlelaw53_LineReads.j1 : Nat → ByteArray → Int → Int → List (S49) → Int → Int → List (S49) → Int → Int → Bool → Int → ByteArray → ByteArray → Int → ByteArray → ByteArray → Option (Bool)
  | 0, _, _, _, _, _, _, _, _, _, _, _, _, _, _, _, _ => none
  | k + 1, x0, x6, x8, x9, x10, x11, x12, x13, x14, x87, x231000, x231001, x231002, x236000, x236001, x236002 => if x87 = true then (some false) else (if (x231000 == x236000 && (x231001.toList == x236001.toList && (x231002.toList == x236002.toList))) = true then (if x6 = x8 then ((pestleref53_Same.f k x9 x12).bind fun t250 => (if t250 = true then (if x10 = x13 then (if x11 = x14 then ((line_Plain.f k x0).bind fun t251 => ((pestleref53_Plain.f k x0).bind fun t252 => (some (t251 == t252)))) else (some false)) else (some false)) else (some false))) else (some false)) else (some false))
end
def pestlelaw53_LineReads.f (k : Nat) (a0 : ByteArray) (a1 : ByteArray) : Option (Bool) := (pestlelaw53_awake.f k).bind fun t225 => (if t225 = true then (if (a0.size : Int) > 1000 then (pestlelaw53_LineReads.j0 k a0 a1 true) else (pestlelaw53_LineReads.j0 k a0 a1 (decide ((a1.size : Int) > 1000)))) else (some false))
theorem pestlelaw53_LineReads.mono_l : ∀ k, (∀ y0 y1 y2, LeO (pestlelaw53_LineReads.j0 k y0 y1 y2) (pestlelaw53_LineReads.j0 (k + 1) y0 y1 y2)) ∧ (∀ y0 y1 y2 y3 y4 y5 y6 y7 y8 y9 y10 y11 y12 y13 y14 y15, LeO (pestlelaw53_LineReads.j1 k y0 y1 y2 y3 y4 y5 y6 y7 y8 y9 y10 y11 y12 y13 y14 y15) (pestlelaw53_LineReads.j1 (k + 1) y0 y1 y2 y3 y4 y5 y6 y7 y8 y9 y10 y11 y12 y13 y14 y15))
  | 0 => ⟨fun _ _ _ r h => by simp [pestlelaw53_LineReads.j0] at h, fun _ _ _ _ _ _ _ _ _ _ _ _ _ _ _ _ r h => by simp [pestlelaw53_LineReads.j1] at h⟩
  | k + 1 => by
    obtain ⟨ih0, ih1⟩ := pestlelaw53_LineReads.mono_l k
    refine ⟨?_, ?_⟩
    · intro y0 y1 y2
      unfold pestlelaw53_LineReads.j0
      repeat' first
      | (with_reducible exact ih0 _ _ _)
      | (with_reducible exact ih1 _ _ _ _ _ _ _ _ _ _ _ _ _ _ _ _)
      | (with_reducible exact line_All.mono _ _)
      | (with_reducible exact line_Plain.mono _ _)
      | (with_reducible exact line_Read.mono _ _)
      | (with_reducible exact pestlelaw53_awake.mono _)
      | (with_reducible exact pestleref53_All.mono _ _)
      | (with_reducible exact pestleref53_Plain.mono _ _)
      | (with_reducible exact pestleref53_Read.mono _ _)
      | (with_reducible exact pestleref53_Same.mono _ _ _)
      | (with_reducible exact LeO.refl _)
      | (with_reducible exact LeO.none _)
      | (with_reducible refine LeO.ite ?_ ?_)
      | (with_reducible refine LeO.bind ?_ (fun _ => ?_))
      | exact ih0 _ _ _
      | exact ih1 _ _ _ _ _ _ _ _ _ _ _ _ _ _ _ _
      | exact line_All.mono _ _
      | exact line_Plain.mono _ _
      | exact line_Read.mono _ _
      | exact pestlelaw53_awake.mono _
      | exact pestleref53_All.mono _ _
      | exact pestleref53_Plain.mono _ _
      | exact pestleref53_Read.mono _ _
      | exact pestleref53_Same.mono _ _ _
      | exact LeO.none _
      | refine LeO.ite ?_ ?_
      | refine LeO.bind ?_ (fun _ => ?_)
    · intro y0 y1 y2 y3 y4 y5 y6 y7 y8 y9 y10 y11 y12 y13 y14 y15
      unfold pestlelaw53_LineReads.j1
      repeat' first
      | (with_reducible exact ih0 _ _ _)
      | (with_reducible exact ih1 _ _ _ _ _ _ _ _ _ _ _ _ _ _ _ _)
      | (with_reducible exact line_All.mono _ _)
      | (with_reducible exact line_Plain.mono _ _)
      | (with_reducible exact line_Read.mono _ _)
      | (with_reducible exact pestlelaw53_awake.mono _)
      | (with_reducible exact pestleref53_All.mono _ _)
      | (with_reducible exact pestleref53_Plain.mono _ _)
      | (with_reducible exact pestleref53_Read.mono _ _)
      | (with_reducible exact pestleref53_Same.mono _ _ _)
      | (with_reducible exact LeO.refl _)
      | (with_reducible exact LeO.none _)
      | (with_reducible refine LeO.ite ?_ ?_)
      | (with_reducible refine LeO.bind ?_ (fun _ => ?_))
      | exact ih0 _ _ _
      | exact ih1 _ _ _ _ _ _ _ _ _ _ _ _ _ _ _ _
      | exact line_All.mono _ _
      | exact line_Plain.mono _ _
      | exact line_Read.mono _ _
      | exact pestlelaw53_awake.mono _
      | exact pestleref53_All.mono _ _
      | exact pestleref53_Plain.mono _ _
      | exact pestleref53_Read.mono _ _
      | exact pestleref53_Same.mono _ _ _
      | exact LeO.none _
      | refine LeO.ite ?_ ?_
      | refine LeO.bind ?_ (fun _ => ?_)
theorem pestlelaw53_LineReads.mono : ∀ a0 a1 k, LeO (pestlelaw53_LineReads.f k a0 a1) (pestlelaw53_LineReads.f (k + 1) a0 a1) := by
  intro a0 a1 k
  obtain ⟨ih0, ih1⟩ := pestlelaw53_LineReads.mono_l k
  unfold pestlelaw53_LineReads.f
  repeat' first
      | (with_reducible exact ih0 _ _ _)
      | (with_reducible exact ih1 _ _ _ _ _ _ _ _ _ _ _ _ _ _ _ _)
      | (with_reducible exact line_All.mono _ _)
      | (with_reducible exact line_Plain.mono _ _)
      | (with_reducible exact line_Read.mono _ _)
      | (with_reducible exact pestlelaw53_awake.mono _)
      | (with_reducible exact pestleref53_All.mono _ _)
      | (with_reducible exact pestleref53_Plain.mono _ _)
      | (with_reducible exact pestleref53_Read.mono _ _)
      | (with_reducible exact pestleref53_Same.mono _ _ _)
      | (with_reducible exact LeO.refl _)
      | (with_reducible exact LeO.none _)
      | (with_reducible refine LeO.ite ?_ ?_)
      | (with_reducible refine LeO.bind ?_ (fun _ => ?_))
      | exact ih0 _ _ _
      | exact ih1 _ _ _ _ _ _ _ _ _ _ _ _ _ _ _ _
      | exact line_All.mono _ _
      | exact line_Plain.mono _ _
      | exact line_Read.mono _ _
      | exact pestlelaw53_awake.mono _
      | exact pestleref53_All.mono _ _
      | exact pestleref53_Plain.mono _ _
      | exact pestleref53_Read.mono _ _
      | exact pestleref53_Same.mono _ _ _
      | exact LeO.none _
      | refine LeO.ite ?_ ?_
      | refine LeO.bind ?_ (fun _ => ?_)
set_option maxHeartbeats 8000000 in
set_option maxRecDepth 100000 in
theorem pestlelaw53_LineReads.calls (k : Nat) (a0 : ByteArray) (a1 : ByteArray) (r : Bool) (w : World) (h : pestlelaw53_LineReads.f k a0 a1 = some r) :
    Calls Try.prog 10 #[.string a0, .string a1] w fun e w' => e = .returned (.bool r) ∧ Below w.heap.size w w' := by
  have hu49 := Try.underlying49
  have HB := Aside0.mk (Below.refl w.heap.size w)
  have H : ((pestlelaw53_awake.f k).bind fun t225 => (if t225 = true then (if (a0.size : Int) > 1000 then (pestlelaw53_LineReads.j0 k a0 a1 true) else (pestlelaw53_LineReads.j0 k a0 a1 (decide ((a1.size : Int) > 1000)))) else (some false))) = some r := h
  clear h
  replace H := Option.bind_eq_some_iff.mp H
  obtain ⟨t225, A30, H⟩ := H
  replace H : (if t225 = true then (if (a0.size : Int) > 1000 then (pestlelaw53_LineReads.j0 k a0 a1 true) else (pestlelaw53_LineReads.j0 k a0 a1 (decide ((a1.size : Int) > 1000)))) else (some false)) = some r := H
  have A3 := Aside0.mk A30
  clear A30
  by_cases c4 : t225 = true
  · subst c4
    have H1 : (if (a0.size : Int) > 1000 then (pestlelaw53_LineReads.j0 k a0 a1 true) else (pestlelaw53_LineReads.j0 k a0 a1 (decide ((a1.size : Int) > 1000)))) = some r := by rw [if_pos rfl] at H; exact H
    clear H
    have H := H1
    clear H1
    have HC5 := Aside0.mk H
    clear H
    go_enter Try.func10, Try.ntmps10
    go_upto_region 3 with (first | ((with_reducible refine gate_callee (f := 47) rfl ?_); refine goesL_ (some 19) rfl rfl Try.func47 (by kernel_rfl) rfl #[] rfl (by (try simp only [List.map_toArray, List.map_cons, List.map_nil]); first | done | rfl | (simp only [List.length_drop, List.length_take]; rfl)) ?_; (with_reducible refine (pestlelaw53_awake.calls k  true _ A3.out).mono ?_); rintro e w6 ⟨rfl, hb⟩; refine ⟨_, rfl, ?_⟩; have n0_ := Aside0.mk (below_step (by repeat (first | (with_reducible first | exact HB.out | apply below_alloc | apply pw_below_drewN | apply below_drew1) | exact HB.out)) hb); clear HB; have HB := n0_; clear n0_; (try clear hb); (try clear hb2); (try clear hk); (try clear hi)))
    (try simp only [Act.put, List.setIfInBounds_toArray, List.set_cons_zero, List.set_cons_succ])
    go_cut [28] (fun v28 wc => ∃ (kq : Nat) (x28_4 : Bool), v28 = .bool x28_4 ∧ Aside0 (pestlelaw53_LineReads.j0 kq a0 a1 x28_4 = some r) ∧ Aside0 (kq ≤ k) ∧ Aside0 (Below w.heap.size w wc))
    case first =>
      have H := HC5.out
      clear HC5
      by_cases c7 : (a0.size : Int) > 1000
      · rw [if_pos c7] at H
        have c7b0 : decide (1000 < (a0.size : Int)) = true := decide_eq_true c7
        have c7b1 : decide (1000 < a0.size) = true := decide_eq_true (by omega)
        clear c7
        (first | rw [c7b0] | (simp only [i64_w, i32_w]; rw [c7b0]) | skip)
        have H' := Aside0.mk H
        clear H
        go_wp2
        go_meet
        case rel => exact ⟨_, (true), (by first | rfl | (simp; done) | (simp [*]; done)), H', ⟨by first | omega | exact Nat.le_refl _⟩, ⟨by repeat (first | (with_reducible first | exact HB.out | apply below_alloc | apply pw_below_drewN | apply below_drew1) | exact HB.out)⟩⟩
      · rw [if_neg c7] at H
        have c7b0 : decide (1000 < (a0.size : Int)) = false := decide_eq_false c7
        have c7b1 : decide (1000 < a0.size) = false := decide_eq_false (by omega)
        clear c7
        (first | rw [c7b0] | (simp only [i64_w, i32_w]; rw [c7b0]) | skip)
        have H' := Aside0.mk H
        clear H
        go_wp2
        go_meet
        case rel => exact ⟨_, (decide ((a1.size : Int) > 1000)), (by first | rfl | (simp; done) | (simp [*]; done)), H', ⟨by first | omega | exact Nat.le_refl _⟩, ⟨by repeat (first | (with_reducible first | exact HB.out | apply below_alloc | apply pw_below_drewN | apply below_drew1) | exact HB.out)⟩⟩
    case rest =>
      clear HC5
      try clear c1
      try clear p2
      try clear c4
      try clear c7
      try clear c7b0
      try clear c7b1
      obtain ⟨kq, x28_4, rfl, HA, HJ4, HB⟩ := hcut
      cases kq with
      | zero => exact absurd HA.out (by simp [pestlelaw53_LineReads.j0])
      | succ kj4 =>
        have H := HA.out
        clear HA
        simp only [pestlelaw53_LineReads.j0] at H
        by_cases c8 : x28_4 = true
        · subst c8
          have H1 : (some true) = some r := by rw [if_pos rfl] at H; exact H
          clear H
          have H := H1
          clear H1
          obtain rfl := Option.some.inj H
          go_wp2
          go_ret
          exact ⟨by first | rfl | (simp [errW_none, errW_some] <;> rfl) | (simp [*, errW_none, errW_some] <;> rfl), by repeat (first | (with_reducible first | exact HB.out | apply below_alloc | apply pw_below_drewN | apply below_drew1) | exact HB.out)⟩
        · replace c8 := Bool.eq_false_iff.mpr c8
          subst c8
          have H1 : ((line_Read.f kj4 a0).bind fun bt226 => ((pestleref53_Read.f kj4 a0).bind fun bt231 => ((line_All.f kj4 a1).bind fun bt236 => ((pestleref53_All.f kj4 a1).bind fun bt241 => ((line_Kind.f a0).bind fun bt246 => ((line_Word.f bt246.1).bind fun bt248 => (if bt246.2 = 0 then (if bt248.1.toList = a0.toList then (if bt248.2 = 0 then (pestlelaw53_LineReads.j1 kj4 a0 bt226.2.2.2 bt231.2.2.2 bt236.1 bt236.2.1 bt236.2.2 bt241.1 bt241.2.1 bt241.2.2 false bt226.1 bt226.2.1 bt226.2.2.1 bt231.1 bt231.2.1 bt231.2.2.1) else (pestlelaw53_LineReads.j1 kj4 a0 bt226.2.2.2 bt231.2.2.2 bt236.1 bt236.2.1 bt236.2.2 bt241.1 bt241.2.1 bt241.2.2 true bt226.1 bt226.2.1 bt226.2.2.1 bt231.1 bt231.2.1 bt231.2.2.1)) else (pestlelaw53_LineReads.j1 kj4 a0 bt226.2.2.2 bt231.2.2.2 bt236.1 bt236.2.1 bt236.2.2 bt241.1 bt241.2.1 bt241.2.2 true bt226.1 bt226.2.1 bt226.2.2.1 bt231.1 bt231.2.1 bt231.2.2.1)) else (if bt246.1 = 0 then (if bt246.2 = 6 then (pestlelaw53_LineReads.j1 kj4 a0 bt226.2.2.2 bt231.2.2.2 bt236.1 bt236.2.1 bt236.2.2 bt241.1 bt241.2.1 bt241.2.2 (bt248.2 != 1) bt226.1 bt226.2.1 bt226.2.2.1 bt231.1 bt231.2.1 bt231.2.2.1) else (pestlelaw53_LineReads.j1 kj4 a0 bt226.2.2.2 bt231.2.2.2 bt236.1 bt236.2.1 bt236.2.2 bt241.1 bt241.2.1 bt241.2.2 true bt226.1 bt226.2.1 bt226.2.2.1 bt231.1 bt231.2.1 bt231.2.2.1)) else (pestlelaw53_LineReads.j1 kj4 a0 bt226.2.2.2 bt231.2.2.2 bt236.1 bt236.2.1 bt236.2.2 bt241.1 bt241.2.1 bt241.2.2 true bt226.1 bt226.2.1 bt226.2.2.1 bt231.1 bt231.2.1 bt231.2.2.1))))))))) = some r := by rw [if_neg (show ¬ (false = true) by decide)] at H; exact H
          clear H
          have H := H1
          clear H1
          replace H := Option.bind_eq_some_iff.mp H
          obtain ⟨⟨t226, t227, t228, t229⟩, A90, H⟩ := H
          replace H : ((pestleref53_Read.f kj4 a0).bind fun bt231 => ((line_All.f kj4 a1).bind fun bt236 => ((pestleref53_All.f kj4 a1).bind fun bt241 => ((line_Kind.f a0).bind fun bt246 => ((line_Word.f bt246.1).bind fun bt248 => (if bt246.2 = 0 then (if bt248.1.toList = a0.toList then (if bt248.2 = 0 then (pestlelaw53_LineReads.j1 kj4 a0 t229 bt231.2.2.2 bt236.1 bt236.2.1 bt236.2.2 bt241.1 bt241.2.1 bt241.2.2 false t226 t227 t228 bt231.1 bt231.2.1 bt231.2.2.1) else (pestlelaw53_LineReads.j1 kj4 a0 t229 bt231.2.2.2 bt236.1 bt236.2.1 bt236.2.2 bt241.1 bt241.2.1 bt241.2.2 true t226 t227 t228 bt231.1 bt231.2.1 bt231.2.2.1)) else (pestlelaw53_LineReads.j1 kj4 a0 t229 bt231.2.2.2 bt236.1 bt236.2.1 bt236.2.2 bt241.1 bt241.2.1 bt241.2.2 true t226 t227 t228 bt231.1 bt231.2.1 bt231.2.2.1)) else (if bt246.1 = 0 then (if bt246.2 = 6 then (pestlelaw53_LineReads.j1 kj4 a0 t229 bt231.2.2.2 bt236.1 bt236.2.1 bt236.2.2 bt241.1 bt241.2.1 bt241.2.2 (bt248.2 != 1) t226 t227 t228 bt231.1 bt231.2.1 bt231.2.2.1) else (pestlelaw53_LineReads.j1 kj4 a0 t229 bt231.2.2.2 bt236.1 bt236.2.1 bt236.2.2 bt241.1 bt241.2.1 bt241.2.2 true t226 t227 t228 bt231.1 bt231.2.1 bt231.2.2.1)) else (pestlelaw53_LineReads.j1 kj4 a0 t229 bt231.2.2.2 bt236.1 bt236.2.1 bt236.2.2 bt241.1 bt241.2.1 bt241.2.2 true t226 t227 t228 bt231.1 bt231.2.1 bt231.2.2.1)))))))) = some r := H
          have A9 := Aside0.mk A90
          clear A90
          replace H := Option.bind_eq_some_iff.mp H
          obtain ⟨⟨t231, t232, t233, t234⟩, A100, H⟩ := H
          replace H : ((line_All.f kj4 a1).bind fun bt236 => ((pestleref53_All.f kj4 a1).bind fun bt241 => ((line_Kind.f a0).bind fun bt246 => ((line_Word.f bt246.1).bind fun bt248 => (if bt246.2 = 0 then (if bt248.1.toList = a0.toList then (if bt248.2 = 0 then (pestlelaw53_LineReads.j1 kj4 a0 t229 t234 bt236.1 bt236.2.1 bt236.2.2 bt241.1 bt241.2.1 bt241.2.2 false t226 t227 t228 t231 t232 t233) else (pestlelaw53_LineReads.j1 kj4 a0 t229 t234 bt236.1 bt236.2.1 bt236.2.2 bt241.1 bt241.2.1 bt241.2.2 true t226 t227 t228 t231 t232 t233)) else (pestlelaw53_LineReads.j1 kj4 a0 t229 t234 bt236.1 bt236.2.1 bt236.2.2 bt241.1 bt241.2.1 bt241.2.2 true t226 t227 t228 t231 t232 t233)) else (if bt246.1 = 0 then (if bt246.2 = 6 then (pestlelaw53_LineReads.j1 kj4 a0 t229 t234 bt236.1 bt236.2.1 bt236.2.2 bt241.1 bt241.2.1 bt241.2.2 (bt248.2 != 1) t226 t227 t228 t231 t232 t233) else (pestlelaw53_LineReads.j1 kj4 a0 t229 t234 bt236.1 bt236.2.1 bt236.2.2 bt241.1 bt241.2.1 bt241.2.2 true t226 t227 t228 t231 t232 t233)) else (pestlelaw53_LineReads.j1 kj4 a0 t229 t234 bt236.1 bt236.2.1 bt236.2.2 bt241.1 bt241.2.1 bt241.2.2 true t226 t227 t228 t231 t232 t233))))))) = some r := H
          have A10 := Aside0.mk A100
          clear A100
          replace H := Option.bind_eq_some_iff.mp H
          obtain ⟨⟨t236, t237, t238⟩, A110, H⟩ := H
          replace H : ((pestleref53_All.f kj4 a1).bind fun bt241 => ((line_Kind.f a0).bind fun bt246 => ((line_Word.f bt246.1).bind fun bt248 => (if bt246.2 = 0 then (if bt248.1.toList = a0.toList then (if bt248.2 = 0 then (pestlelaw53_LineReads.j1 kj4 a0 t229 t234 t236 t237 t238 bt241.1 bt241.2.1 bt241.2.2 false t226 t227 t228 t231 t232 t233) else (pestlelaw53_LineReads.j1 kj4 a0 t229 t234 t236 t237 t238 bt241.1 bt241.2.1 bt241.2.2 true t226 t227 t228 t231 t232 t233)) else (pestlelaw53_LineReads.j1 kj4 a0 t229 t234 t236 t237 t238 bt241.1 bt241.2.1 bt241.2.2 true t226 t227 t228 t231 t232 t233)) else (if bt246.1 = 0 then (if bt246.2 = 6 then (pestlelaw53_LineReads.j1 kj4 a0 t229 t234 t236 t237 t238 bt241.1 bt241.2.1 bt241.2.2 (bt248.2 != 1) t226 t227 t228 t231 t232 t233) else (pestlelaw53_LineReads.j1 kj4 a0 t229 t234 t236 t237 t238 bt241.1 bt241.2.1 bt241.2.2 true t226 t227 t228 t231 t232 t233)) else (pestlelaw53_LineReads.j1 kj4 a0 t229 t234 t236 t237 t238 bt241.1 bt241.2.1 bt241.2.2 true t226 t227 t228 t231 t232 t233)))))) = some r := H
          have A11 := Aside0.mk A110
          clear A110
          replace H := Option.bind_eq_some_iff.mp H
          obtain ⟨⟨t241, t242, t243⟩, A120, H⟩ := H
          replace H : ((line_Kind.f a0).bind fun bt246 => ((line_Word.f bt246.1).bind fun bt248 => (if bt246.2 = 0 then (if bt248.1.toList = a0.toList then (if bt248.2 = 0 then (pestlelaw53_LineReads.j1 kj4 a0 t229 t234 t236 t237 t238 t241 t242 t243 false t226 t227 t228 t231 t232 t233) else (pestlelaw53_LineReads.j1 kj4 a0 t229 t234 t236 t237 t238 t241 t242 t243 true t226 t227 t228 t231 t232 t233)) else (pestlelaw53_LineReads.j1 kj4 a0 t229 t234 t236 t237 t238 t241 t242 t243 true t226 t227 t228 t231 t232 t233)) else (if bt246.1 = 0 then (if bt246.2 = 6 then (pestlelaw53_LineReads.j1 kj4 a0 t229 t234 t236 t237 t238 t241 t242 t243 (bt248.2 != 1) t226 t227 t228 t231 t232 t233) else (pestlelaw53_LineReads.j1 kj4 a0 t229 t234 t236 t237 t238 t241 t242 t243 true t226 t227 t228 t231 t232 t233)) else (pestlelaw53_LineReads.j1 kj4 a0 t229 t234 t236 t237 t238 t241 t242 t243 true t226 t227 t228 t231 t232 t233))))) = some r := H
          have A12 := Aside0.mk A120
          clear A120
          replace H := Option.bind_eq_some_iff.mp H
          obtain ⟨⟨t246, t247⟩, A130, H⟩ := H
          replace H : ((line_Word.f t246).bind fun bt248 => (if t247 = 0 then (if bt248.1.toList = a0.toList then (if bt248.2 = 0 then (pestlelaw53_LineReads.j1 kj4 a0 t229 t234 t236 t237 t238 t241 t242 t243 false t226 t227 t228 t231 t232 t233) else (pestlelaw53_LineReads.j1 kj4 a0 t229 t234 t236 t237 t238 t241 t242 t243 true t226 t227 t228 t231 t232 t233)) else (pestlelaw53_LineReads.j1 kj4 a0 t229 t234 t236 t237 t238 t241 t242 t243 true t226 t227 t228 t231 t232 t233)) else (if t246 = 0 then (if t247 = 6 then (pestlelaw53_LineReads.j1 kj4 a0 t229 t234 t236 t237 t238 t241 t242 t243 (bt248.2 != 1) t226 t227 t228 t231 t232 t233) else (pestlelaw53_LineReads.j1 kj4 a0 t229 t234 t236 t237 t238 t241 t242 t243 true t226 t227 t228 t231 t232 t233)) else (pestlelaw53_LineReads.j1 kj4 a0 t229 t234 t236 t237 t238 t241 t242 t243 true t226 t227 t228 t231 t232 t233)))) = some r := H
          have A13 := Aside0.mk A130
          clear A130
          replace H := Option.bind_eq_some_iff.mp H
          obtain ⟨⟨t248, t249⟩, A140, H⟩ := H
          replace H : (if t247 = 0 then (if t248.toList = a0.toList then (if t249 = 0 then (pestlelaw53_LineReads.j1 kj4 a0 t229 t234 t236 t237 t238 t241 t242 t243 false t226 t227 t228 t231 t232 t233) else (pestlelaw53_LineReads.j1 kj4 a0 t229 t234 t236 t237 t238 t241 t242 t243 true t226 t227 t228 t231 t232 t233)) else (pestlelaw53_LineReads.j1 kj4 a0 t229 t234 t236 t237 t238 t241 t242 t243 true t226 t227 t228 t231 t232 t233)) else (if t246 = 0 then (if t247 = 6 then (pestlelaw53_LineReads.j1 kj4 a0 t229 t234 t236 t237 t238 t241 t242 t243 (t249 != 1) t226 t227 t228 t231 t232 t233) else (pestlelaw53_LineReads.j1 kj4 a0 t229 t234 t236 t237 t238 t241 t242 t243 true t226 t227 t228 t231 t232 t233)) else (pestlelaw53_LineReads.j1 kj4 a0 t229 t234 t236 t237 t238 t241 t242 t243 true t226 t227 t228 t231 t232 t233))) = some r := H
          have A14 := Aside0.mk A140
          clear A140
          have HC15 := Aside0.mk H
          clear H
          go_upto_region 11 with (first | ((with_reducible refine gate_callee (f := 48) rfl ?_); refine goesL_ (some 31) rfl rfl Try.func48 (by kernel_rfl) rfl #[.string a0] rfl (by (try simp only [List.map_toArray, List.map_cons, List.map_nil]); first | done | rfl | (simp only [List.length_drop, List.length_take]; rfl)) ?_; (with_reducible refine (line_Read.calls kj4 a0 t226 t227 t228 t229 _ A9.out).mono ?_); rintro e w16 ⟨rfl, hb⟩; refine ⟨_, rfl, ?_⟩; have n0_ := Aside0.mk (below_step (by repeat (first | (with_reducible first | exact HB.out | apply below_alloc | apply pw_below_drewN | apply below_drew1) | exact HB.out)) hb); clear HB; have HB := n0_; clear n0_; (try clear hb); (try clear hb2); (try clear hk); (try clear hi)) | ((with_reducible refine gate_dst (N := 5) rfl ?_); (try (refine gate_guard (by rfl) ?_; dsimp only)); refine box_event ?hg (N := 5) ?hd (cs := #[.int .i64 0, .string (⟨#[]⟩ : ByteArray), .string (⟨#[]⟩ : ByteArray)]) (t := 49) ?hr ?_; (case hd => rfl); (case hg => rfl); (case hr => first | (go_simp; done) | (go_simp; rfl)); intro gb230 hg w17 hbox hb; have n0_ := Aside0.mk (below_step (by repeat (first | (with_reducible first | exact HB.out | apply below_alloc | apply pw_below_drewN | apply below_drew1) | exact HB.out)) hb); have n1_ := Aside0.mk (hbox); have n2_ := Aside0.mk ((by rw [hg]; exact (below_size (by repeat (first | (with_reducible first | exact HB.out | apply below_alloc | apply pw_below_drewN | apply below_drew1) | exact HB.out))) : w.heap.size ≤ gb230)); have n3_ := Aside0.mk ((by rw [hg]; exact (below_size (by repeat (first | (with_reducible first | exact HB.out | apply below_alloc | apply pw_below_drewN | apply below_drew1) | exact HB.out))) : w.heap.size ≤ gb230)); clear HB; have HB := n0_; have BK230 := n1_; have GW230 := n2_; have GE230 := n3_; clear n0_ n1_ n2_ n3_; clear hb hbox hg; have hcz18_0 : w17.cell? ⟨gb230, 0, none⟩ = some (.int .i64 0) := (blk_cell BK230.out 0).trans rfl; have hcz18_1 : w17.cell? ⟨gb230, 1, none⟩ = some (.string (⟨#[]⟩ : ByteArray)) := (blk_cell BK230.out 1).trans rfl; have hcz18_2 : w17.cell? ⟨gb230, 2, none⟩ = some (.string (⟨#[]⟩ : ByteArray)) := (blk_cell BK230.out 2).trans rfl; have hfz18_0 := blk_frozen BK230.out 0; have hfz18_1 := blk_frozen BK230.out 1; have hfz18_2 := blk_frozen BK230.out 2) | ((with_reducible refine gate_callee (f := 49) rfl ?_); refine goesL_ (some 36) rfl rfl Try.func49 (by kernel_rfl) rfl #[.string a0] rfl (by (try simp only [List.map_toArray, List.map_cons, List.map_nil]); first | done | rfl | (simp only [List.length_drop, List.length_take]; rfl)) ?_; (with_reducible refine (pestleref53_Read.calls kj4 a0 t231 t232 t233 t234 _ A10.out).mono ?_); rintro e w19 ⟨rfl, hb⟩; refine ⟨_, rfl, ?_⟩; have n0_ := Aside0.mk (blk_below (g := gb230) (o := .cells #[.int .i64 t226, .string t227, .string t228] 49 (0, 0)) (by (with_reducible repeat (first | refine blk_drewN ?_ _ | refine blk_drew ?_ | refine blk_alloc ?_ _)); refine blk_put (cs := #[.int .i64 t226, .string t227, .string (⟨#[]⟩ : ByteArray)]) ?_ 2 _ rfl; (with_reducible repeat (first | refine blk_drewN ?_ _ | refine blk_drew ?_ | refine blk_alloc ?_ _)); refine blk_put (cs := #[.int .i64 t226, .string (⟨#[]⟩ : ByteArray), .string (⟨#[]⟩ : ByteArray)]) ?_ 1 _ rfl; (with_reducible repeat (first | refine blk_drewN ?_ _ | refine blk_drew ?_ | refine blk_alloc ?_ _)); refine blk_put (cs := #[.int .i64 0, .string (⟨#[]⟩ : ByteArray), .string (⟨#[]⟩ : ByteArray)]) ?_ 0 _ rfl; (with_reducible repeat (first | refine blk_drewN ?_ _ | refine blk_drew ?_ | refine blk_alloc ?_ _)); exact BK230.out) hb); have n1_ := Aside0.mk (below_step (by repeat (first | (with_reducible first | exact HB.out | apply below_alloc | apply pw_below_drewN | apply below_drew1 | refine below_set ?_ GE230.out) | exact HB.out)) hb); clear BK230; clear HB; have BK230 := n0_; have HB := n1_; clear n0_ n1_; (try clear hb); (try clear hb2); (try clear hk); (try clear hi)) | ((with_reducible refine gate_dst (N := 7) rfl ?_); (try (refine gate_guard (by rfl) ?_; dsimp only)); refine box_event ?hg (N := 7) ?hd (cs := #[.int .i64 0, .string (⟨#[]⟩ : ByteArray), .string (⟨#[]⟩ : ByteArray)]) (t := 49) ?hr ?_; (case hd => rfl); (case hg => rfl); (case hr => first | (go_simp; done) | (go_simp; rfl)); intro gb235 hg w20 hbox hb; have n0_ := Aside0.mk (blk_below (g := gb230) (o := .cells #[.int .i64 t226, .string t227, .string t228] 49 (0, 0)) (by (with_reducible repeat (first | refine blk_drewN ?_ _ | refine blk_drew ?_ | refine blk_alloc ?_ _)); exact BK230.out) hb); have n1_ := Aside0.mk (below_step (by repeat (first | (with_reducible first | exact HB.out | apply below_alloc | apply pw_below_drewN | apply below_drew1 | refine below_set ?_ GE230.out) | exact HB.out)) hb); have n2_ := Aside0.mk (hbox); have n3_ := Aside0.mk ((by rw [hg]; exact (below_size (by repeat (first | (with_reducible first | exact HB.out | apply below_alloc | apply pw_below_drewN | apply below_drew1 | refine below_set ?_ GE230.out) | exact HB.out))) : w.heap.size ≤ gb235)); have n4_ := Aside0.mk ((by rw [hg]; exact (below_size (by repeat (first | (with_reducible first | exact HB.out | apply below_alloc | apply pw_below_drewN | apply below_drew1 | refine below_set ?_ GE230.out) | exact HB.out))) : w.heap.size ≤ gb235)); have n5_ := Aside0.mk ((by rw [hg]; exact Nat.ne_of_lt (blk_lt (g := gb230) (o := .cells #[.int .i64 t226, .string t227, .string t228] 49 (0, 0)) (by (with_reducible repeat (first | refine blk_drewN ?_ _ | refine blk_drew ?_ | refine blk_alloc ?_ _)); exact BK230.out)) : gb230 ≠ gb235)); have n6_ := Aside0.mk ((by rw [hg]; exact Nat.ne_of_gt (blk_lt (g := gb230) (o := .cells #[.int .i64 t226, .string t227, .string t228] 49 (0, 0)) (by (with_reducible repeat (first | refine blk_drewN ?_ _ | refine blk_drew ?_ | refine blk_alloc ?_ _)); exact BK230.out)) : gb235 ≠ gb230)); clear BK230; clear HB; have BK230 := n0_; have HB := n1_; have BK235 := n2_; have GW235 := n3_; have GE235 := n4_; have NB230_235 := n5_; have NB235_230 := n6_; clear n0_ n1_ n2_ n3_ n4_ n5_ n6_; clear hb hbox hg; have hnb21 := NB235_230.out; have hnc21 := NB230_235.out; have hcz22_0 : w20.cell? ⟨gb235, 0, none⟩ = some (.int .i64 0) := (blk_cell BK235.out 0).trans rfl; have hcz22_1 : w20.cell? ⟨gb235, 1, none⟩ = some (.string (⟨#[]⟩ : ByteArray)) := (blk_cell BK235.out 1).trans rfl; have hcz22_2 : w20.cell? ⟨gb235, 2, none⟩ = some (.string (⟨#[]⟩ : ByteArray)) := (blk_cell BK235.out 2).trans rfl; have hfz22_0 := blk_frozen BK235.out 0; have hfz22_1 := blk_frozen BK235.out 1; have hfz22_2 := blk_frozen BK235.out 2) | ((with_reducible refine gate_callee (f := 50) rfl ?_); refine goesL_ (some 41) rfl rfl Try.func50 (by kernel_rfl) rfl #[.string a1] rfl (by (try simp only [List.map_toArray, List.map_cons, List.map_nil]); first | done | rfl | (simp only [List.length_drop, List.length_take]; rfl)) ?_; (with_reducible refine (line_All.calls kj4 a1 t236 t237 t238 _ A11.out).mono ?_); rintro e w23 ⟨v239, rfl, ho0, hb⟩; refine ⟨_, rfl, ?_⟩; have n0_ := Aside0.mk (Kd.R_lower (Kd.R_newB (Kd.R_newB ho0 (g := gb230) (o := .cells #[.int .i64 t226, .string t227, .string t228] 49 (0, 0)) (by (with_reducible repeat (first | refine blk_drewN ?_ _ | refine blk_drew ?_ | refine blk_alloc ?_ _)); refine blk_far ?_ NB230_235.out _; (with_reducible repeat (first | refine blk_drewN ?_ _ | refine blk_drew ?_ | refine blk_alloc ?_ _)); refine blk_far ?_ NB230_235.out _; (with_reducible repeat (first | refine blk_drewN ?_ _ | refine blk_drew ?_ | refine blk_alloc ?_ _)); refine blk_far ?_ NB230_235.out _; (with_reducible repeat (first | refine blk_drewN ?_ _ | refine blk_drew ?_ | refine blk_alloc ?_ _)); exact BK230.out)) (g := gb235) (o := .cells #[.int .i64 t231, .string t232, .string t233] 49 (0, 0)) (by (with_reducible repeat (first | refine blk_drewN ?_ _ | refine blk_drew ?_ | refine blk_alloc ?_ _)); refine blk_put (cs := #[.int .i64 t231, .string t232, .string (⟨#[]⟩ : ByteArray)]) ?_ 2 _ rfl; (with_reducible repeat (first | refine blk_drewN ?_ _ | refine blk_drew ?_ | refine blk_alloc ?_ _)); refine blk_put (cs := #[.int .i64 t231, .string (⟨#[]⟩ : ByteArray), .string (⟨#[]⟩ : ByteArray)]) ?_ 1 _ rfl; (with_reducible repeat (first | refine blk_drewN ?_ _ | refine blk_drew ?_ | refine blk_alloc ?_ _)); refine blk_put (cs := #[.int .i64 0, .string (⟨#[]⟩ : ByteArray), .string (⟨#[]⟩ : ByteArray)]) ?_ 0 _ rfl; (with_reducible repeat (first | refine blk_drewN ?_ _ | refine blk_drew ?_ | refine blk_alloc ?_ _)); exact BK235.out)) (below_size (by repeat (first | (with_reducible first | exact HB.out | apply below_alloc | apply pw_below_drewN | apply below_drew1 | refine below_set ?_ GE230.out | refine below_set ?_ GE235.out) | exact HB.out)))); have n1_ := Aside0.mk (blk_below (g := gb230) (o := .cells #[.int .i64 t226, .string t227, .string t228] 49 (0, 0)) (by (with_reducible repeat (first | refine blk_drewN ?_ _ | refine blk_drew ?_ | refine blk_alloc ?_ _)); refine blk_far ?_ NB230_235.out _; (with_reducible repeat (first | refine blk_drewN ?_ _ | refine blk_drew ?_ | refine blk_alloc ?_ _)); refine blk_far ?_ NB230_235.out _; (with_reducible repeat (first | refine blk_drewN ?_ _ | refine blk_drew ?_ | refine blk_alloc ?_ _)); refine blk_far ?_ NB230_235.out _; (with_reducible repeat (first | refine blk_drewN ?_ _ | refine blk_drew ?_ | refine blk_alloc ?_ _)); exact BK230.out) hb); have n2_ := Aside0.mk (blk_below (g := gb235) (o := .cells #[.int .i64 t231, .string t232, .string t233] 49 (0, 0)) (by (with_reducible repeat (first | refine blk_drewN ?_ _ | refine blk_drew ?_ | refine blk_alloc ?_ _)); refine blk_put (cs := #[.int .i64 t231, .string t232, .string (⟨#[]⟩ : ByteArray)]) ?_ 2 _ rfl; (with_reducible repeat (first | refine blk_drewN ?_ _ | refine blk_drew ?_ | refine blk_alloc ?_ _)); refine blk_put (cs := #[.int .i64 t231, .string (⟨#[]⟩ : ByteArray), .string (⟨#[]⟩ : ByteArray)]) ?_ 1 _ rfl; (with_reducible repeat (first | refine blk_drewN ?_ _ | refine blk_drew ?_ | refine blk_alloc ?_ _)); refine blk_put (cs := #[.int .i64 0, .string (⟨#[]⟩ : ByteArray), .string (⟨#[]⟩ : ByteArray)]) ?_ 0 _ rfl; (with_reducible repeat (first | refine blk_drewN ?_ _ | refine blk_drew ?_ | refine blk_alloc ?_ _)); exact BK235.out) hb); have n3_ := Aside0.mk (below_step (by repeat (first | (with_reducible first | exact HB.out | apply below_alloc | apply pw_below_drewN | apply below_drew1 | refine below_set ?_ GE230.out | refine below_set ?_ GE235.out) | exact HB.out)) hb); clear BK230; clear BK235; clear HB; have HO240 := n0_; have BK230 := n1_; have BK235 := n2_; have HB := n3_; clear n0_ n1_ n2_ n3_; (try clear hb); (try clear hb2); (try clear hk); (try clear hi); (try clear ho0)) | ((with_reducible refine gate_callee (f := 51) rfl ?_); refine goesL_ (some 47) rfl rfl Try.func51 (by kernel_rfl) rfl #[.string a1] rfl (by (try simp only [List.map_toArray, List.map_cons, List.map_nil]); first | done | rfl | (simp only [List.length_drop, List.length_take]; rfl)) ?_; (with_reducible refine (pestleref53_All.calls kj4 a1 t241 t242 t243 _ A12.out).mono ?_); rintro e w24 ⟨v244, rfl, ho0, hb⟩; refine ⟨_, rfl, ?_⟩; have n0_ := Aside0.mk (Kd.R_elder' (by (with_reducible repeat (first | apply Kd.R_alloc | apply Kd.R_drewN | apply Kd.R_drew)); exact HO240.out) (Kd.R_base ho0) hb); have n1_ := Aside0.mk (Kd.R_lower (Kd.R_newB (Kd.R_newB (Kd.R_new' ho0 (Kd.R_lt (by (with_reducible repeat (first | apply Kd.R_alloc | apply Kd.R_drewN | apply Kd.R_drew)); exact HO240.out))) (g := gb230) (o := .cells #[.int .i64 t226, .string t227, .string t228] 49 (0, 0)) (by (with_reducible repeat (first | refine blk_drewN ?_ _ | refine blk_drew ?_ | refine blk_alloc ?_ _)); exact BK230.out)) (g := gb235) (o := .cells #[.int .i64 t231, .string t232, .string t233] 49 (0, 0)) (by (with_reducible repeat (first | refine blk_drewN ?_ _ | refine blk_drew ?_ | refine blk_alloc ?_ _)); exact BK235.out)) (below_size (by repeat (first | (with_reducible first | exact HB.out | apply below_alloc | apply pw_below_drewN | apply below_drew1 | refine below_set ?_ GE230.out | refine below_set ?_ GE235.out) | exact HB.out)))); have n2_ := Aside0.mk (blk_below (g := gb230) (o := .cells #[.int .i64 t226, .string t227, .string t228] 49 (0, 0)) (by (with_reducible repeat (first | refine blk_drewN ?_ _ | refine blk_drew ?_ | refine blk_alloc ?_ _)); exact BK230.out) hb); have n3_ := Aside0.mk (blk_below (g := gb235) (o := .cells #[.int .i64 t231, .string t232, .string t233] 49 (0, 0)) (by (with_reducible repeat (first | refine blk_drewN ?_ _ | refine blk_drew ?_ | refine blk_alloc ?_ _)); exact BK235.out) hb); have n4_ := Aside0.mk (below_step (by repeat (first | (with_reducible first | exact HB.out | apply below_alloc | apply pw_below_drewN | apply below_drew1 | refine below_set ?_ GE230.out | refine below_set ?_ GE235.out) | exact HB.out)) hb); clear HO240; clear BK230; clear BK235; clear HB; have HO240 := n0_; have HO245 := n1_; have BK230 := n2_; have BK235 := n3_; have HB := n4_; clear n0_ n1_ n2_ n3_ n4_; (try clear hb); (try clear hb2); (try clear hk); (try clear hi); (try clear ho0)) | ((with_reducible refine gate_callee (f := 52) rfl ?_); refine goesL_ (some 53) rfl rfl Try.func52 (by kernel_rfl) rfl #[.string a0] rfl (by (try simp only [List.map_toArray, List.map_cons, List.map_nil]); first | done | rfl | (simp only [List.length_drop, List.length_take]; rfl)) ?_; (with_reducible refine (line_Kind.calls a0 t246 t247 _ A13.out).mono ?_); rintro e w25 ⟨rfl, hb⟩; refine ⟨_, rfl, ?_⟩; have n0_ := Aside0.mk (Kd.R_below (by (with_reducible repeat (first | apply Kd.R_alloc | apply Kd.R_drewN | apply Kd.R_drew)); exact HO240.out) hb); have n1_ := Aside0.mk (Kd.R_below (by (with_reducible repeat (first | apply Kd.R_alloc | apply Kd.R_drewN | apply Kd.R_drew)); exact HO245.out) hb); have n2_ := Aside0.mk (blk_below (g := gb230) (o := .cells #[.int .i64 t226, .string t227, .string t228] 49 (0, 0)) (by (with_reducible repeat (first | refine blk_drewN ?_ _ | refine blk_drew ?_ | refine blk_alloc ?_ _)); exact BK230.out) hb); have n3_ := Aside0.mk (blk_below (g := gb235) (o := .cells #[.int .i64 t231, .string t232, .string t233] 49 (0, 0)) (by (with_reducible repeat (first | refine blk_drewN ?_ _ | refine blk_drew ?_ | refine blk_alloc ?_ _)); exact BK235.out) hb); have n4_ := Aside0.mk (below_step (by repeat (first | (with_reducible first | exact HB.out | apply below_alloc | apply pw_below_drewN | apply below_drew1 | refine below_set ?_ GE230.out | refine below_set ?_ GE235.out) | exact HB.out)) hb); clear HO240; clear HO245; clear BK230; clear BK235; clear HB; have HO240 := n0_; have HO245 := n1_; have BK230 := n2_; have BK235 := n3_; have HB := n4_; clear n0_ n1_ n2_ n3_ n4_; (try clear hb); (try clear hb2); (try clear hk); (try clear hi)) | ((with_reducible refine gate_callee (f := 53) rfl ?_); refine goesL_ (some 58) rfl rfl Try.func53 (by kernel_rfl) rfl #[.int .i64 t246] rfl (by (try simp only [List.map_toArray, List.map_cons, List.map_nil]); first | done | rfl | (simp only [List.length_drop, List.length_take]; rfl)) ?_; (with_reducible refine (line_Word.calls t246 t248 t249 _ A14.out).mono ?_); rintro e w26 ⟨rfl, hb⟩; refine ⟨_, rfl, ?_⟩; have n0_ := Aside0.mk (Kd.R_below (by (with_reducible repeat (first | apply Kd.R_alloc | apply Kd.R_drewN | apply Kd.R_drew)); exact HO240.out) hb); have n1_ := Aside0.mk (Kd.R_below (by (with_reducible repeat (first | apply Kd.R_alloc | apply Kd.R_drewN | apply Kd.R_drew)); exact HO245.out) hb); have n2_ := Aside0.mk (blk_below (g := gb230) (o := .cells #[.int .i64 t226, .string t227, .string t228] 49 (0, 0)) (by (with_reducible repeat (first | refine blk_drewN ?_ _ | refine blk_drew ?_ | refine blk_alloc ?_ _)); exact BK230.out) hb); have n3_ := Aside0.mk (blk_below (g := gb235) (o := .cells #[.int .i64 t231, .string t232, .string t233] 49 (0, 0)) (by (with_reducible repeat (first | refine blk_drewN ?_ _ | refine blk_drew ?_ | refine blk_alloc ?_ _)); exact BK235.out) hb); have n4_ := Aside0.mk (below_step (by repeat (first | (with_reducible first | exact HB.out | apply below_alloc | apply pw_below_drewN | apply below_drew1 | refine below_set ?_ GE230.out | refine below_set ?_ GE235.out) | exact HB.out)) hb); clear HO240; clear HO245; clear BK230; clear BK235; clear HB; have HO240 := n0_; have HO245 := n1_; have BK230 := n2_; have BK235 := n3_; have HB := n4_; clear n0_ n1_ n2_ n3_ n4_; (try clear hb); (try clear hb2); (try clear hk); (try clear hi)))
          (try simp only [Act.put, List.setIfInBounds_toArray, List.set_cons_zero, List.set_cons_succ])
          go_cut [87] (fun v87 wc => ∃ (kq : Nat) (x87_14 : Bool), v87 = .bool x87_14 ∧ Aside0 (pestlelaw53_LineReads.j1 kq a0 t229 t234 t236 t237 t238 t241 t242 t243 x87_14 t226 t227 t228 t231 t232 t233 = some r) ∧ Aside0 (kq ≤ kj4) ∧ Aside0 (Kd.R k49 49 wc w.heap.size (fun k_ => some k_ ≠ (v244 : Value).ownBlock ∧ k_ ≠ gb230 ∧ k_ ≠ gb235) v239 t236) ∧ Aside0 (Kd.R k49 49 wc w.heap.size (fun k_ => some k_ ≠ (v239 : Value).ownBlock ∧ k_ ≠ gb230 ∧ k_ ≠ gb235) v244 t241) ∧ Aside0 (wc.heap[gb230]? = some (.cells #[.int .i64 t226, .string t227, .string t228] 49 (0, 0))) ∧ Aside0 (wc.heap[gb235]? = some (.cells #[.int .i64 t231, .string t232, .string t233] 49 (0, 0))) ∧ Aside0 (Below w.heap.size w wc))
          case first =>
            have H := HC15.out
            clear HC15
            by_cases c27 : t247 = 0
            · rw [if_pos c27] at H
              have c27b0 : (t247 == 0) = true := beq_iff_eq.mpr c27
              have c27b1 : (t247 != 0) = false := bne_eq_false_iff_eq.mpr c27
              clear c27
              (first | rw [c27b0] | (simp only [i64_w, i32_w]; rw [c27b0]) | skip)
              by_cases c28 : t248.toList = a0.toList
              · rw [if_pos c28] at H
                have c28b0 : (t248.toList == a0.toList) = true := beq_iff_eq.mpr c28
                have c28b1 : (t248.toList != a0.toList) = false := bne_eq_false_iff_eq.mpr c28
                clear c28
                by_cases c29 : t249 = 0
                · rw [if_pos c29] at H
                  have c29b0 : (t249 == 0) = true := beq_iff_eq.mpr c29
                  have c29b1 : (t249 != 0) = false := bne_eq_false_iff_eq.mpr c29
                  clear c29
                  have H' := Aside0.mk H
                  clear H
                  go_wp2
                  go_meet
                  case rel => exact ⟨_, (false), (by first | rfl | (simp; done) | (simp [*]; done)), H', ⟨by have := HJ4.out; first | omega | exact Nat.le_refl _⟩, ⟨by (with_reducible repeat (first | apply Kd.R_alloc | apply Kd.R_drewN | apply Kd.R_drew)); exact Kd.R_mono HO240.out (fun _ hk => ⟨hk.2, ⟨hk.1.1.2, hk.1.2⟩⟩)⟩, ⟨by (with_reducible repeat (first | apply Kd.R_alloc | apply Kd.R_drewN | apply Kd.R_drew)); exact Kd.R_mono HO245.out (fun _ hk => ⟨hk.1.1.2, ⟨hk.1.2, hk.2⟩⟩)⟩, ⟨by (with_reducible repeat (first | refine blk_drewN ?_ _ | refine blk_drew ?_ | refine blk_alloc ?_ _)); exact BK230.out⟩, ⟨by (with_reducible repeat (first | refine blk_drewN ?_ _ | refine blk_drew ?_ | refine blk_alloc ?_ _)); exact BK235.out⟩, ⟨by repeat (first | (with_reducible first | exact HB.out | apply below_alloc | apply pw_below_drewN | apply below_drew1 | refine below_set ?_ GE230.out | refine below_set ?_ GE235.out) | exact HB.out)⟩⟩
                · rw [if_neg c29] at H
                  have c29b0 : (t249 == 0) = false := beq_eq_false_iff_ne.mpr c29
                  have c29b1 : (t249 != 0) = true := bne_iff_ne.mpr c29
                  have H' := Aside0.mk H
                  clear H
                  go_wp2
                  go_meet
                  case rel => exact ⟨_, (true), (by first | rfl | (simp; done) | (simp [*]; done)), H', ⟨by have := HJ4.out; first | omega | exact Nat.le_refl _⟩, ⟨by (with_reducible repeat (first | apply Kd.R_alloc | apply Kd.R_drewN | apply Kd.R_drew)); exact Kd.R_mono HO240.out (fun _ hk => ⟨hk.2, ⟨hk.1.1.2, hk.1.2⟩⟩)⟩, ⟨by (with_reducible repeat (first | apply Kd.R_alloc | apply Kd.R_drewN | apply Kd.R_drew)); exact Kd.R_mono HO245.out (fun _ hk => ⟨hk.1.1.2, ⟨hk.1.2, hk.2⟩⟩)⟩, ⟨by (with_reducible repeat (first | refine blk_drewN ?_ _ | refine blk_drew ?_ | refine blk_alloc ?_ _)); exact BK230.out⟩, ⟨by (with_reducible repeat (first | refine blk_drewN ?_ _ | refine blk_drew ?_ | refine blk_alloc ?_ _)); exact BK235.out⟩, ⟨by repeat (first | (with_reducible first | exact HB.out | apply below_alloc | apply pw_below_drewN | apply below_drew1 | refine below_set ?_ GE230.out | refine below_set ?_ GE235.out) | exact HB.out)⟩⟩
              · rw [if_neg c28] at H
                have c28b0 : (t248.toList == a0.toList) = false := beq_eq_false_iff_ne.mpr c28
                have c28b1 : (t248.toList != a0.toList) = true := bne_iff_ne.mpr c28
                have H' := Aside0.mk H
                clear H
                go_wp2
                go_meet
                case rel => exact ⟨_, (true), (by first | rfl | (simp; done) | (simp [*]; done)), H', ⟨by have := HJ4.out; first | omega | exact Nat.le_refl _⟩, ⟨by (with_reducible repeat (first | apply Kd.R_alloc | apply Kd.R_drewN | apply Kd.R_drew)); exact Kd.R_mono HO240.out (fun _ hk => ⟨hk.2, ⟨hk.1.1.2, hk.1.2⟩⟩)⟩, ⟨by (with_reducible repeat (first | apply Kd.R_alloc | apply Kd.R_drewN | apply Kd.R_drew)); exact Kd.R_mono HO245.out (fun _ hk => ⟨hk.1.1.2, ⟨hk.1.2, hk.2⟩⟩)⟩, ⟨by (with_reducible repeat (first | refine blk_drewN ?_ _ | refine blk_drew ?_ | refine blk_alloc ?_ _)); exact BK230.out⟩, ⟨by (with_reducible repeat (first | refine blk_drewN ?_ _ | refine blk_drew ?_ | refine blk_alloc ?_ _)); exact BK235.out⟩, ⟨by repeat (first | (with_reducible first | exact HB.out | apply below_alloc | apply pw_below_drewN | apply below_drew1 | refine below_set ?_ GE230.out | refine below_set ?_ GE235.out) | exact HB.out)⟩⟩
            · rw [if_neg c27] at H
              have c27b0 : (t247 == 0) = false := beq_eq_false_iff_ne.mpr c27
              have c27b1 : (t247 != 0) = true := bne_iff_ne.mpr c27
              (first | rw [c27b0] | (simp only [i64_w, i32_w]; rw [c27b0]) | skip)
              by_cases c30 : t246 = 0
              · rw [if_pos c30] at H
                have c30b0 : (t246 == 0) = true := beq_iff_eq.mpr c30
                have c30b1 : (t246 != 0) = false := bne_eq_false_iff_eq.mpr c30
                clear c30
                by_cases c31 : t247 = 6
                · rw [if_pos c31] at H
                  have c31b0 : (t247 == 6) = true := beq_iff_eq.mpr c31
                  have c31b1 : (t247 != 6) = false := bne_eq_false_iff_eq.mpr c31
                  clear c31
                  have H' := Aside0.mk H
                  clear H
                  go_wp2
                  go_meet
                  case rel => exact ⟨_, ((t249 != 1)), (by first | rfl | (simp; done) | (simp [*]; done)), H', ⟨by have := HJ4.out; first | omega | exact Nat.le_refl _⟩, ⟨by (with_reducible repeat (first | apply Kd.R_alloc | apply Kd.R_drewN | apply Kd.R_drew)); exact Kd.R_mono HO240.out (fun _ hk => ⟨hk.2, ⟨hk.1.1.2, hk.1.2⟩⟩)⟩, ⟨by (with_reducible repeat (first | apply Kd.R_alloc | apply Kd.R_drewN | apply Kd.R_drew)); exact Kd.R_mono HO245.out (fun _ hk => ⟨hk.1.1.2, ⟨hk.1.2, hk.2⟩⟩)⟩, ⟨by (with_reducible repeat (first | refine blk_drewN ?_ _ | refine blk_drew ?_ | refine blk_alloc ?_ _)); exact BK230.out⟩, ⟨by (with_reducible repeat (first | refine blk_drewN ?_ _ | refine blk_drew ?_ | refine blk_alloc ?_ _)); exact BK235.out⟩, ⟨by repeat (first | (with_reducible first | exact HB.out | apply below_alloc | apply pw_below_drewN | apply below_drew1 | refine below_set ?_ GE230.out | refine below_set ?_ GE235.out) | exact HB.out)⟩⟩
                · rw [if_neg c31] at H
                  have c31b0 : (t247 == 6) = false := beq_eq_false_iff_ne.mpr c31
                  have c31b1 : (t247 != 6) = true := bne_iff_ne.mpr c31
                  have H' := Aside0.mk H
                  clear H
                  go_wp2
                  go_meet
                  case rel => exact ⟨_, (true), (by first | rfl | (simp; done) | (simp [*]; done)), H', ⟨by have := HJ4.out; first | omega | exact Nat.le_refl _⟩, ⟨by (with_reducible repeat (first | apply Kd.R_alloc | apply Kd.R_drewN | apply Kd.R_drew)); exact Kd.R_mono HO240.out (fun _ hk => ⟨hk.2, ⟨hk.1.1.2, hk.1.2⟩⟩)⟩, ⟨by (with_reducible repeat (first | apply Kd.R_alloc | apply Kd.R_drewN | apply Kd.R_drew)); exact Kd.R_mono HO245.out (fun _ hk => ⟨hk.1.1.2, ⟨hk.1.2, hk.2⟩⟩)⟩, ⟨by (with_reducible repeat (first | refine blk_drewN ?_ _ | refine blk_drew ?_ | refine blk_alloc ?_ _)); exact BK230.out⟩, ⟨by (with_reducible repeat (first | refine blk_drewN ?_ _ | refine blk_drew ?_ | refine blk_alloc ?_ _)); exact BK235.out⟩, ⟨by repeat (first | (with_reducible first | exact HB.out | apply below_alloc | apply pw_below_drewN | apply below_drew1 | refine below_set ?_ GE230.out | refine below_set ?_ GE235.out) | exact HB.out)⟩⟩
              · rw [if_neg c30] at H
                have c30b0 : (t246 == 0) = false := beq_eq_false_iff_ne.mpr c30
                have c30b1 : (t246 != 0) = true := bne_iff_ne.mpr c30
                have H' := Aside0.mk H
                clear H
                go_wp2
                go_meet
                case rel => exact ⟨_, (true), (by first | rfl | (simp; done) | (simp [*]; done)), H', ⟨by have := HJ4.out; first | omega | exact Nat.le_refl _⟩, ⟨by (with_reducible repeat (first | apply Kd.R_alloc | apply Kd.R_drewN | apply Kd.R_drew)); exact Kd.R_mono HO240.out (fun _ hk => ⟨hk.2, ⟨hk.1.1.2, hk.1.2⟩⟩)⟩, ⟨by (with_reducible repeat (first | apply Kd.R_alloc | apply Kd.R_drewN | apply Kd.R_drew)); exact Kd.R_mono HO245.out (fun _ hk => ⟨hk.1.1.2, ⟨hk.1.2, hk.2⟩⟩)⟩, ⟨by (with_reducible repeat (first | refine blk_drewN ?_ _ | refine blk_drew ?_ | refine blk_alloc ?_ _)); exact BK230.out⟩, ⟨by (with_reducible repeat (first | refine blk_drewN ?_ _ | refine blk_drew ?_ | refine blk_alloc ?_ _)); exact BK235.out⟩, ⟨by repeat (first | (with_reducible first | exact HB.out | apply below_alloc | apply pw_below_drewN | apply below_drew1 | refine below_set ?_ GE230.out | refine below_set ?_ GE235.out) | exact HB.out)⟩⟩
          case rest =>
            clear HC15
            try clear c1
            try clear c2
            try clear p2
            try clear c3
            try clear c4
            try clear c5
            try clear c7
            try clear c7b0
            try clear c7b1
            try clear c8
            try clear c10
            try clear c21
            try clear c27
            try clear c27b0
            try clear c27b1
            try clear c28
            try clear c28b0
            try clear c28b1
            try clear c29
            try clear c29b0
            try clear c29b1
            try clear c30
            try clear c30b0
            try clear c30b1
            try clear c31
            try clear c31b0
            try clear c31b1
            try clear hcz18_0
            try clear hcz18_1
            try clear hcz18_2
            try clear hcz22_0
            try clear hcz22_1
            try clear hcz22_2
            try clear hfz18_0
            try clear hfz18_1
            try clear hfz18_2
            try clear hfz22_0
            try clear hfz22_1
            try clear hfz22_2
            try clear p2
            obtain ⟨kq, x87_14, rfl, HA, HJ14, HO_9, HO_12, BK230, BK235, HB⟩ := hcut
            cases kq with
            | zero => exact absurd HA.out (by simp [pestlelaw53_LineReads.j1])
            | succ kj14 =>
              have H := HA.out
              clear HA
              simp only [pestlelaw53_LineReads.j1] at H
              by_cases c32 : x87_14 = true
              · subst c32
                have H1 : (some false) = some r := by rw [if_pos rfl] at H; exact H
                clear H
                have H := H1
                clear H1
                obtain rfl := Option.some.inj H
                go_wp2
                go_ret
                exact ⟨by first | rfl | (simp [errW_none, errW_some] <;> rfl) | (simp [*, errW_none, errW_some] <;> rfl), by repeat (first | (with_reducible first | exact HB.out | apply below_alloc | apply pw_below_drewN | apply below_drew1 | refine below_set ?_ GE230.out | refine below_set ?_ GE235.out) | exact HB.out)⟩
              · replace c32 := Bool.eq_false_iff.mpr c32
                subst c32
                have H1 : (if (t226 == t231 && (t227.toList == t232.toList && (t228.toList == t233.toList))) = true then (if t229 = t234 then ((pestleref53_Same.f kj14 t236 t241).bind fun t250 => (if t250 = true then (if t237 = t242 then (if t238 = t243 then ((line_Plain.f kj14 a0).bind fun t251 => ((pestleref53_Plain.f kj14 a0).bind fun t252 => (some (t251 == t252)))) else (some false)) else (some false)) else (some false))) else (some false)) else (some false)) = some r := by rw [if_neg (show ¬ (false = true) by decide)] at H; exact H
                clear H
                have H := H1
                clear H1
                by_cases c33 : (t226 == t231 && (t227.toList == t232.toList && (t228.toList == t233.toList))) = true
                · rw [if_pos c33] at H
                  have c33b0 : (t226 == t231 && (t227.toList == t232.toList && (t228.toList == t233.toList))) = true := c33
                  (try (have c33b1 : decide (t226 = t231 && (t227.toList == t232.toList && (t228.toList == t233.toList))) = true := by simpa using c33))
                  (try (have c33b2 : (t226 == t231 && (t227.toList == t232.toList && (t228.toList == t233.toList))) = true := by simpa using c33))
                  clear c33
                  by_cases c34 : t229 = t234
                  · rw [if_pos c34] at H
                    have c34b0 : (t229 == t234) = true := beq_iff_eq.mpr c34
                    have c34b1 : (t229 != t234) = false := bne_eq_false_iff_eq.mpr c34
                    clear c34
                    replace H := Option.bind_eq_some_iff.mp H
                    obtain ⟨t250, A350, H⟩ := H
                    replace H : (if t250 = true then (if t237 = t242 then (if t238 = t243 then ((line_Plain.f kj14 a0).bind fun t251 => ((pestleref53_Plain.f kj14 a0).bind fun t252 => (some (t251 == t252)))) else (some false)) else (some false)) else (some false)) = some r := H
                    have A35 := Aside0.mk A350
                    clear A350
                    by_cases c36 : t250 = true
                    · subst c36
                      have H1 : (if t237 = t242 then (if t238 = t243 then ((line_Plain.f kj14 a0).bind fun t251 => ((pestleref53_Plain.f kj14 a0).bind fun t252 => (some (t251 == t252)))) else (some false)) else (some false)) = some r := by rw [if_pos rfl] at H; exact H
                      clear H
                      have H := H1
                      clear H1
                      by_cases c37 : t237 = t242
                      · rw [if_pos c37] at H
                        have c37b0 : (t237 == t242) = true := beq_iff_eq.mpr c37
                        have c37b1 : (t237 != t242) = false := bne_eq_false_iff_eq.mpr c37
                        clear c37
                        by_cases c38 : t238 = t243
                        · rw [if_pos c38] at H
                          have c38b0 : (t238 == t243) = true := beq_iff_eq.mpr c38
                          have c38b1 : (t238 != t243) = false := bne_eq_false_iff_eq.mpr c38
                          clear c38
                          replace H := Option.bind_eq_some_iff.mp H
                          obtain ⟨t251, A390, H⟩ := H
                          replace H : ((pestleref53_Plain.f kj14 a0).bind fun t252 => (some (t251 == t252))) = some r := H
                          have A39 := Aside0.mk A390
                          clear A390
                          replace H := Option.bind_eq_some_iff.mp H
                          obtain ⟨t252, A400, H⟩ := H
                          replace H : (some (t251 == t252)) = some r := H
                          have A40 := Aside0.mk A400
                          clear A400
                          obtain rfl := Option.some.inj H
                          have hnb41 := NB230_235.out
                          have hnc41 := NB235_230.out
                          have hcz42_0 : wc.cell? ⟨gb230, 0, none⟩ = some (.int .i64 t226) := (blk_cell BK230.out 0).trans rfl
                          have hcz42_1 : wc.cell? ⟨gb230, 1, none⟩ = some (.string t227) := (blk_cell BK230.out 1).trans rfl
                          have hcz42_2 : wc.cell? ⟨gb230, 2, none⟩ = some (.string t228) := (blk_cell BK230.out 2).trans rfl
                          have hfz42_0 := blk_frozen BK230.out 0
                          have hfz42_1 := blk_frozen BK230.out 1
                          have hfz42_2 := blk_frozen BK230.out 2
                          have hcz43_0 : wc.cell? ⟨gb235, 0, none⟩ = some (.int .i64 t231) := (blk_cell BK235.out 0).trans rfl
                          have hcz43_1 : wc.cell? ⟨gb235, 1, none⟩ = some (.string t232) := (blk_cell BK235.out 1).trans rfl
                          have hcz43_2 : wc.cell? ⟨gb235, 2, none⟩ = some (.string t233) := (blk_cell BK235.out 2).trans rfl
                          have hfz43_0 := blk_frozen BK235.out 0
                          have hfz43_1 := blk_frozen BK235.out 1
                          have hfz43_2 := blk_frozen BK235.out 2
                          obtain ⟨Ao44, co44, eo44⟩ := Kd.R_slice HO_9.out
                          subst eo44
                          obtain ⟨Ao45, co45, eo45⟩ := Kd.R_slice HO_12.out
                          subst eo45
                          go_wp2_with (first | (go_at_call 54; (with_reducible refine (pestleref53_Same.calls kj14 _ _ t236 _ _ t241 true _ ?side1 ?side2 ?side3 ?side4 A35.out).mono ?_); (case side1 => repeat (first | exact (Kd.R_reads' HO_9.out).2.2 | (with_reducible refine Kd.C_alloc ?_ _) | (with_reducible refine Kd.C_drewN ?_ _) | (with_reducible refine Kd.C_drew ?_))); (case side2 => exact (Kd.R_reads' HO_9.out).2.1); (case side3 => repeat (first | exact (Kd.R_reads' HO_12.out).2.2 | (with_reducible refine Kd.C_alloc ?_ _) | (with_reducible refine Kd.C_drewN ?_ _) | (with_reducible refine Kd.C_drew ?_))); (case side4 => exact (Kd.R_reads' HO_12.out).2.1); rintro e w' ⟨rfl, ⟨nd, rfl⟩⟩) | (go_at_call 55; (with_reducible refine (line_Plain.calls kj14 a0 t251 _ A39.out).mono ?_); rintro e w' ⟨rfl, ⟨nd, rfl⟩⟩) | (go_at_call 56; (with_reducible refine (pestleref53_Plain.calls kj14 a0 t252 _ A40.out).mono ?_); rintro e w' ⟨rfl, ⟨nd, rfl⟩⟩))
                          go_ret
                          exact ⟨by first | rfl | (simp [errW_none, errW_some] <;> rfl) | (simp [*, errW_none, errW_some] <;> rfl), by repeat (first | (with_reducible first | exact HB.out | apply below_alloc | apply pw_below_drewN | apply below_drew1 | refine below_set ?_ GE230.out | refine below_set ?_ GE235.out) | exact HB.out)⟩
                        · rw [if_neg c38] at H
                          have c38b0 : (t238 == t243) = false := beq_eq_false_iff_ne.mpr c38
                          have c38b1 : (t238 != t243) = true := bne_iff_ne.mpr c38
                          obtain rfl := Option.some.inj H
                          have hnb46 := NB230_235.out
                          have hnc46 := NB235_230.out
                          have hcz47_0 : wc.cell? ⟨gb230, 0, none⟩ = some (.int .i64 t226) := (blk_cell BK230.out 0).trans rfl
                          have hcz47_1 : wc.cell? ⟨gb230, 1, none⟩ = some (.string t227) := (blk_cell BK230.out 1).trans rfl
                          have hcz47_2 : wc.cell? ⟨gb230, 2, none⟩ = some (.string t228) := (blk_cell BK230.out 2).trans rfl
                          have hfz47_0 := blk_frozen BK230.out 0
                          have hfz47_1 := blk_frozen BK230.out 1
                          have hfz47_2 := blk_frozen BK230.out 2
                          have hcz48_0 : wc.cell? ⟨gb235, 0, none⟩ = some (.int .i64 t231) := (blk_cell BK235.out 0).trans rfl
                          have hcz48_1 : wc.cell? ⟨gb235, 1, none⟩ = some (.string t232) := (blk_cell BK235.out 1).trans rfl
                          have hcz48_2 : wc.cell? ⟨gb235, 2, none⟩ = some (.string t233) := (blk_cell BK235.out 2).trans rfl
                          have hfz48_0 := blk_frozen BK235.out 0
                          have hfz48_1 := blk_frozen BK235.out 1
                          have hfz48_2 := blk_frozen BK235.out 2
                          obtain ⟨Ao49, co49, eo49⟩ := Kd.R_slice HO_9.out
                          subst eo49
                          obtain ⟨Ao50, co50, eo50⟩ := Kd.R_slice HO_12.out
                          subst eo50
                          go_wp2_with (first | (go_at_call 54; (with_reducible refine (pestleref53_Same.calls kj14 _ _ t236 _ _ t241 true _ ?side1 ?side2 ?side3 ?side4 A35.out).mono ?_); (case side1 => repeat (first | exact (Kd.R_reads' HO_9.out).2.2 | (with_reducible refine Kd.C_alloc ?_ _) | (with_reducible refine Kd.C_drewN ?_ _) | (with_reducible refine Kd.C_drew ?_))); (case side2 => exact (Kd.R_reads' HO_9.out).2.1); (case side3 => repeat (first | exact (Kd.R_reads' HO_12.out).2.2 | (with_reducible refine Kd.C_alloc ?_ _) | (with_reducible refine Kd.C_drewN ?_ _) | (with_reducible refine Kd.C_drew ?_))); (case side4 => exact (Kd.R_reads' HO_12.out).2.1); rintro e w' ⟨rfl, ⟨nd, rfl⟩⟩))
                          go_ret
                          exact ⟨by first | rfl | (simp [errW_none, errW_some] <;> rfl) | (simp [*, errW_none, errW_some] <;> rfl), by repeat (first | (with_reducible first | exact HB.out | apply below_alloc | apply pw_below_drewN | apply below_drew1 | refine below_set ?_ GE230.out | refine below_set ?_ GE235.out) | exact HB.out)⟩
                      · rw [if_neg c37] at H
                        have c37b0 : (t237 == t242) = false := beq_eq_false_iff_ne.mpr c37
                        have c37b1 : (t237 != t242) = true := bne_iff_ne.mpr c37
                        obtain rfl := Option.some.inj H
                        have hnb51 := NB230_235.out
                        have hnc51 := NB235_230.out
                        have hcz52_0 : wc.cell? ⟨gb230, 0, none⟩ = some (.int .i64 t226) := (blk_cell BK230.out 0).trans rfl
                        have hcz52_1 : wc.cell? ⟨gb230, 1, none⟩ = some (.string t227) := (blk_cell BK230.out 1).trans rfl
                        have hcz52_2 : wc.cell? ⟨gb230, 2, none⟩ = some (.string t228) := (blk_cell BK230.out 2).trans rfl
                        have hfz52_0 := blk_frozen BK230.out 0
                        have hfz52_1 := blk_frozen BK230.out 1
                        have hfz52_2 := blk_frozen BK230.out 2
                        have hcz53_0 : wc.cell? ⟨gb235, 0, none⟩ = some (.int .i64 t231) := (blk_cell BK235.out 0).trans rfl
                        have hcz53_1 : wc.cell? ⟨gb235, 1, none⟩ = some (.string t232) := (blk_cell BK235.out 1).trans rfl
                        have hcz53_2 : wc.cell? ⟨gb235, 2, none⟩ = some (.string t233) := (blk_cell BK235.out 2).trans rfl
                        have hfz53_0 := blk_frozen BK235.out 0
                        have hfz53_1 := blk_frozen BK235.out 1
                        have hfz53_2 := blk_frozen BK235.out 2
                        obtain ⟨Ao54, co54, eo54⟩ := Kd.R_slice HO_9.out
                        subst eo54
                        obtain ⟨Ao55, co55, eo55⟩ := Kd.R_slice HO_12.out
                        subst eo55
                        go_wp2_with (first | (go_at_call 54; (with_reducible refine (pestleref53_Same.calls kj14 _ _ t236 _ _ t241 true _ ?side1 ?side2 ?side3 ?side4 A35.out).mono ?_); (case side1 => repeat (first | exact (Kd.R_reads' HO_9.out).2.2 | (with_reducible refine Kd.C_alloc ?_ _) | (with_reducible refine Kd.C_drewN ?_ _) | (with_reducible refine Kd.C_drew ?_))); (case side2 => exact (Kd.R_reads' HO_9.out).2.1); (case side3 => repeat (first | exact (Kd.R_reads' HO_12.out).2.2 | (with_reducible refine Kd.C_alloc ?_ _) | (with_reducible refine Kd.C_drewN ?_ _) | (with_reducible refine Kd.C_drew ?_))); (case side4 => exact (Kd.R_reads' HO_12.out).2.1); rintro e w' ⟨rfl, ⟨nd, rfl⟩⟩))
                        go_ret
                        exact ⟨by first | rfl | (simp [errW_none, errW_some] <;> rfl) | (simp [*, errW_none, errW_some] <;> rfl), by repeat (first | (with_reducible first | exact HB.out | apply below_alloc | apply pw_below_drewN | apply below_drew1 | refine below_set ?_ GE230.out | refine below_set ?_ GE235.out) | exact HB.out)⟩
                    · replace c36 := Bool.eq_false_iff.mpr c36
                      subst c36
                      have H1 : (some false) = some r := by rw [if_neg (show ¬ (false = true) by decide)] at H; exact H
                      clear H
                      have H := H1
                      clear H1
                      obtain rfl := Option.some.inj H
                      have hnb56 := NB230_235.out
                      have hnc56 := NB235_230.out
                      have hcz57_0 : wc.cell? ⟨gb230, 0, none⟩ = some (.int .i64 t226) := (blk_cell BK230.out 0).trans rfl
                      have hcz57_1 : wc.cell? ⟨gb230, 1, none⟩ = some (.string t227) := (blk_cell BK230.out 1).trans rfl
                      have hcz57_2 : wc.cell? ⟨gb230, 2, none⟩ = some (.string t228) := (blk_cell BK230.out 2).trans rfl
                      have hfz57_0 := blk_frozen BK230.out 0
                      have hfz57_1 := blk_frozen BK230.out 1
                      have hfz57_2 := blk_frozen BK230.out 2
                      have hcz58_0 : wc.cell? ⟨gb235, 0, none⟩ = some (.int .i64 t231) := (blk_cell BK235.out 0).trans rfl
                      have hcz58_1 : wc.cell? ⟨gb235, 1, none⟩ = some (.string t232) := (blk_cell BK235.out 1).trans rfl
                      have hcz58_2 : wc.cell? ⟨gb235, 2, none⟩ = some (.string t233) := (blk_cell BK235.out 2).trans rfl
                      have hfz58_0 := blk_frozen BK235.out 0
                      have hfz58_1 := blk_frozen BK235.out 1
                      have hfz58_2 := blk_frozen BK235.out 2
                      obtain ⟨Ao59, co59, eo59⟩ := Kd.R_slice HO_9.out
                      subst eo59
                      obtain ⟨Ao60, co60, eo60⟩ := Kd.R_slice HO_12.out
                      subst eo60
                      go_wp2_with (first | (go_at_call 54; (with_reducible refine (pestleref53_Same.calls kj14 _ _ t236 _ _ t241 false _ ?side1 ?side2 ?side3 ?side4 A35.out).mono ?_); (case side1 => repeat (first | exact (Kd.R_reads' HO_9.out).2.2 | (with_reducible refine Kd.C_alloc ?_ _) | (with_reducible refine Kd.C_drewN ?_ _) | (with_reducible refine Kd.C_drew ?_))); (case side2 => exact (Kd.R_reads' HO_9.out).2.1); (case side3 => repeat (first | exact (Kd.R_reads' HO_12.out).2.2 | (with_reducible refine Kd.C_alloc ?_ _) | (with_reducible refine Kd.C_drewN ?_ _) | (with_reducible refine Kd.C_drew ?_))); (case side4 => exact (Kd.R_reads' HO_12.out).2.1); rintro e w' ⟨rfl, ⟨nd, rfl⟩⟩))
                      go_ret
                      exact ⟨by first | rfl | (simp [errW_none, errW_some] <;> rfl) | (simp [*, errW_none, errW_some] <;> rfl), by repeat (first | (with_reducible first | exact HB.out | apply below_alloc | apply pw_below_drewN | apply below_drew1 | refine below_set ?_ GE230.out | refine below_set ?_ GE235.out) | exact HB.out)⟩
                  · rw [if_neg c34] at H
                    have c34b0 : (t229 == t234) = false := beq_eq_false_iff_ne.mpr c34
                    have c34b1 : (t229 != t234) = true := bne_iff_ne.mpr c34
                    obtain rfl := Option.some.inj H
                    have hnb61 := NB230_235.out
                    have hnc61 := NB235_230.out
                    have hcz62_0 : wc.cell? ⟨gb230, 0, none⟩ = some (.int .i64 t226) := (blk_cell BK230.out 0).trans rfl
                    have hcz62_1 : wc.cell? ⟨gb230, 1, none⟩ = some (.string t227) := (blk_cell BK230.out 1).trans rfl
                    have hcz62_2 : wc.cell? ⟨gb230, 2, none⟩ = some (.string t228) := (blk_cell BK230.out 2).trans rfl
                    have hfz62_0 := blk_frozen BK230.out 0
                    have hfz62_1 := blk_frozen BK230.out 1
                    have hfz62_2 := blk_frozen BK230.out 2
                    have hcz63_0 : wc.cell? ⟨gb235, 0, none⟩ = some (.int .i64 t231) := (blk_cell BK235.out 0).trans rfl
                    have hcz63_1 : wc.cell? ⟨gb235, 1, none⟩ = some (.string t232) := (blk_cell BK235.out 1).trans rfl
                    have hcz63_2 : wc.cell? ⟨gb235, 2, none⟩ = some (.string t233) := (blk_cell BK235.out 2).trans rfl
                    have hfz63_0 := blk_frozen BK235.out 0
                    have hfz63_1 := blk_frozen BK235.out 1
                    have hfz63_2 := blk_frozen BK235.out 2
                    go_wp2
                    go_ret
                    exact ⟨by first | rfl | (simp [errW_none, errW_some] <;> rfl) | (simp [*, errW_none, errW_some] <;> rfl), by repeat (first | (with_reducible first | exact HB.out | apply below_alloc | apply pw_below_drewN | apply below_drew1 | refine below_set ?_ GE230.out | refine below_set ?_ GE235.out) | exact HB.out)⟩
                · rw [if_neg c33] at H
                  have c33b0 : (t226 == t231 && (t227.toList == t232.toList && (t228.toList == t233.toList))) = false := by simpa using c33
                  (try (have c33b1 : decide (t226 = t231 && (t227.toList == t232.toList && (t228.toList == t233.toList))) = false := by simpa using c33))
                  (try (have c33b2 : (t226 == t231 && (t227.toList == t232.toList && (t228.toList == t233.toList))) = false := by simpa using c33))
                  (try (have c33b3 : ¬ (t226 = t231 && (t227.toList == t232.toList && (t228.toList == t233.toList))) := by simpa using c33))
                  clear c33
                  obtain rfl := Option.some.inj H
                  have hnb64 := NB230_235.out
                  have hnc64 := NB235_230.out
                  have hcz65_0 : wc.cell? ⟨gb230, 0, none⟩ = some (.int .i64 t226) := (blk_cell BK230.out 0).trans rfl
                  have hcz65_1 : wc.cell? ⟨gb230, 1, none⟩ = some (.string t227) := (blk_cell BK230.out 1).trans rfl
                  have hcz65_2 : wc.cell? ⟨gb230, 2, none⟩ = some (.string t228) := (blk_cell BK230.out 2).trans rfl
                  have hfz65_0 := blk_frozen BK230.out 0
                  have hfz65_1 := blk_frozen BK230.out 1
                  have hfz65_2 := blk_frozen BK230.out 2
                  have hcz66_0 : wc.cell? ⟨gb235, 0, none⟩ = some (.int .i64 t231) := (blk_cell BK235.out 0).trans rfl
                  have hcz66_1 : wc.cell? ⟨gb235, 1, none⟩ = some (.string t232) := (blk_cell BK235.out 1).trans rfl
                  have hcz66_2 : wc.cell? ⟨gb235, 2, none⟩ = some (.string t233) := (blk_cell BK235.out 2).trans rfl
                  have hfz66_0 := blk_frozen BK235.out 0
                  have hfz66_1 := blk_frozen BK235.out 1
                  have hfz66_2 := blk_frozen BK235.out 2
                  go_wp2
                  go_ret
                  exact ⟨by first | rfl | (simp [errW_none, errW_some] <;> rfl) | (simp [*, errW_none, errW_some] <;> rfl), by repeat (first | (with_reducible first | exact HB.out | apply below_alloc | apply pw_below_drewN | apply below_drew1 | refine below_set ?_ GE230.out | refine below_set ?_ GE235.out) | exact HB.out)⟩
  · replace c4 := Bool.eq_false_iff.mpr c4
    subst c4
    have H1 : (some false) = some r := by rw [if_neg (show ¬ (false = true) by decide)] at H; exact H
    clear H
    have H := H1
    clear H1
    obtain rfl := Option.some.inj H
    go_enter Try.func10, Try.ntmps10
    go_wp2_with (first | ((with_reducible refine gate_callee (f := 47) rfl ?_); refine goesL_ (some 19) rfl rfl Try.func47 (by kernel_rfl) rfl #[] rfl (by (try simp only [List.map_toArray, List.map_cons, List.map_nil]); first | done | rfl | (simp only [List.length_drop, List.length_take]; rfl)) ?_; (with_reducible refine (pestlelaw53_awake.calls k  false _ A3.out).mono ?_); rintro e w67 ⟨rfl, hb⟩; refine ⟨_, rfl, ?_⟩; have n0_ := Aside0.mk (below_step (by repeat (first | (with_reducible first | exact HB.out | apply below_alloc | apply pw_below_drewN | apply below_drew1) | exact HB.out)) hb); clear HB; have HB := n0_; clear n0_; (try clear hb); (try clear hb2); (try clear hk); (try clear hi)))
    go_ret
    exact ⟨by first | rfl | (simp [errW_none, errW_some] <;> rfl) | (simp [*, errW_none, errW_some] <;> rfl), by repeat (first | (with_reducible first | exact HB.out | apply below_alloc | apply pw_below_drewN | apply below_drew1) | exact HB.out)⟩

/-- THE ONE PURE STATEMENT of pestlelaw53_LineReads: yours. -/
def pestlelaw53_LineReads.Pure : Prop := ∀ (a0 : ByteArray) (a1 : ByteArray), a0.size ≤ 140737488351232 → a1.size ≤ 140737488351232 → ∃ k, pestlelaw53_LineReads.f k a0 a1 = some true
theorem pestlelaw53_LineReads.walk (P : pestlelaw53_LineReads.Pure) (a0 : ByteArray) (a1 : ByteArray) (w : World) (w0 : a0.size ≤ 140737488351232) (w1 : a1.size ≤ 140737488351232) :
    Calls Try.prog 10 #[.string a0, .string a1] w fun e w' => e = .returned (.bool true) ∧ Below w.heap.size w w' := by
  obtain ⟨k, h⟩ := P a0 a1 w0 w1
  refine (pestlelaw53_LineReads.calls k a0 a1 true w h).mono ?_
  rintro e w' ⟨rfl, hd⟩
  exact ⟨rfl, hd⟩

/-! ### pestleref14_letter: function 105 -/
def pestleref14_letter.f (a0 : Int) : Option (ByteArray) := if 0 ≤ a0 then (if a0 ≤ (wrap64 (a0 + 1)) then (if (wrap64 (a0 + 1)) ≤ 16 then (some ((⟨#[48, 49, 50, 51, 52, 53, 54, 55, 56, 57, 97, 98, 99, 100, 101, 102]⟩ : ByteArray).extract (a0 : Int).toNat ((wrap64 (a0 + 1)) : Int).toNat)) else (none)) else (none)) else (none)
set_option maxHeartbeats 8000000 in
set_option maxRecDepth 100000 in
theorem pestleref14_letter.calls (a0 : Int) (r : ByteArray) (w : World) (h : pestleref14_letter.f a0 = some r) :
    Calls Try.prog 105 #[.int .i64 a0] w fun e w' => e = .returned (.string r) ∧ Drawn0 w w' := by
  have H : (if 0 ≤ a0 then (if a0 ≤ (wrap64 (a0 + 1)) then (if (wrap64 (a0 + 1)) ≤ 16 then (some ((⟨#[48, 49, 50, 51, 52, 53, 54, 55, 56, 57, 97, 98, 99, 100, 101, 102]⟩ : ByteArray).extract (a0 : Int).toNat ((wrap64 (a0 + 1)) : Int).toNat)) else (none)) else (none)) else (none)) = some r := h
  clear h
  by_cases c2 : 0 ≤ a0
  · rw [if_pos c2] at H
    have c2b0 := eq_true c2
    have c2b1 : decide (0 ≤ a0) = true := decide_eq_true c2
    clear c2
    by_cases c3 : a0 ≤ (wrap64 (a0 + 1))
    · rw [if_pos c3] at H
      have c3b0 := eq_true c3
      have c3b1 : decide (a0 ≤ (wrap64 (a0 + 1))) = true := decide_eq_true c3
      by_cases c4 : (wrap64 (a0 + 1)) ≤ 16
      · rw [if_pos c4] at H
        have c4b0 := eq_true c4
        have c4b1 : decide ((wrap64 (a0 + 1)) ≤ 16) = true := decide_eq_true c4
        obtain rfl := Option.some.inj H
        go_enter Try.func105, Try.ntmps105
        go_wp2
        go_ret
        exact ⟨by first | rfl | (simp; done) | (simp [*]; done) | (simp [show ∀ l_ : List UInt8, (l_ != []) = !l_.isEmpty from fun l_ => by cases l_ <;> rfl]; done), by repeat (first | exact Drawn0.refl _ | apply Drawn0.step)⟩
      · rw [if_neg c4] at H
        exact absurd H (by simp)
    · rw [if_neg c3] at H
      exact absurd H (by simp)
  · rw [if_neg c2] at H
    exact absurd H (by simp)

/-! ### pestleref14_Encode: function 99 -/
def pestleref14_Encode.l0 : Nat → ByteArray → ByteArray → Int → Option (ByteArray)
  | 0, _, _, _ => none
  | k + 1, x0, x3, x4 => if x4 < (x0.size : Int) then (if 0 ≤ x4 then ((pestleref14_letter.f (wrap64 (Int.tdiv (wrap64 (bt x0 x4)) 16))).bind fun t253 => (if x3.size + t253.size ≤ 9223372036854775807 then ((pestleref14_letter.f (Int.tmod (wrap64 (bt x0 x4)) 16)).bind fun t254 => (if (x3 ++ t253).size + t254.size ≤ 9223372036854775807 then (pestleref14_Encode.l0 k x0 ((x3 ++ t253) ++ t254) (wrap64 (x4 + 1))) else (none))) else (none))) else (none)) else (some x3)
def pestleref14_Encode.f (k : Nat) (a0 : ByteArray) : Option (ByteArray) := pestleref14_Encode.l0 k a0 (⟨#[]⟩ : ByteArray) 0
theorem pestleref14_Encode.mono_l : ∀ k, (∀ y0 y1 y2, LeO (pestleref14_Encode.l0 k y0 y1 y2) (pestleref14_Encode.l0 (k + 1) y0 y1 y2))
  | 0 => fun _ _ _ r h => by simp [pestleref14_Encode.l0] at h
  | k + 1 => by
    have ih0 := pestleref14_Encode.mono_l k
    · intro y0 y1 y2
      unfold pestleref14_Encode.l0
      repeat' first
      | (with_reducible exact ih0 _ _ _)
      | (with_reducible exact LeO.refl _)
      | (with_reducible exact LeO.none _)
      | (with_reducible refine LeO.ite ?_ ?_)
      | (with_reducible refine LeO.bind ?_ (fun _ => ?_))
      | exact ih0 _ _ _
      | exact LeO.none _
      | refine LeO.ite ?_ ?_
      | refine LeO.bind ?_ (fun _ => ?_)
theorem pestleref14_Encode.mono : ∀ a0 k, LeO (pestleref14_Encode.f k a0) (pestleref14_Encode.f (k + 1) a0) := by
  intro a0 k
  have ih0 := pestleref14_Encode.mono_l k
  unfold pestleref14_Encode.f
  repeat' first
      | (with_reducible exact ih0 _ _ _)
      | (with_reducible exact LeO.refl _)
      | (with_reducible exact LeO.none _)
      | (with_reducible refine LeO.ite ?_ ?_)
      | (with_reducible refine LeO.bind ?_ (fun _ => ?_))
      | exact ih0 _ _ _
      | exact LeO.none _
      | refine LeO.ite ?_ ?_
      | refine LeO.bind ?_ (fun _ => ?_)
set_option maxHeartbeats 8000000 in
set_option maxRecDepth 100000 in
theorem pestleref14_Encode.calls (k : Nat) (a0 : ByteArray) (r : ByteArray) (w : World) (h : pestleref14_Encode.f k a0 = some r) :
    Calls Try.prog 99 #[.string a0] w fun e w' => e = .returned (.string r) ∧ Drawn0 w w' := by
  have H : (pestleref14_Encode.l0 k a0 (⟨#[]⟩ : ByteArray) 0) = some r := h
  clear h
  have H' := Aside0.mk H
  clear H
  go_enter Try.func99, Try.ntmps99
  go_wp2
  have w64_ := @i64_w
  repeat (go_quiet (fail); try go_wp2)
  go_loopg [3, 4] k (fun kq v3 v4 w' => ∃ (x3_1 : ByteArray) (x4_1 : Int), v3 = .string x3_1 ∧ v4 = .int .i64 x4_1 ∧ Aside0 (pestleref14_Encode.l0 kq a0 x3_1 x4_1 = some r) ∧ Aside0 (kq ≤ k) ∧ Drawn0 w w')
  case atStart => exact ⟨((⟨#[]⟩ : ByteArray)), (0), (by first | rfl | (simp; done) | (simp [*]; done)), (by first | rfl | (simp; done) | (simp [*]; done)), H', ⟨Nat.le_refl _⟩, by repeat (first | exact Drawn0.refl _ | apply Drawn0.step)⟩
  case round =>
    clear H'
    obtain ⟨x3_1, x4_1, rfl, rfl, HA, HK1, ⟨m1, rfl⟩⟩ := hrel
    cases gk with
    | zero => exact absurd HA.out (by simp [pestleref14_Encode.l0])
    | succ k1 =>
      have H := HA.out
      clear HA
      simp only [pestleref14_Encode.l0] at H
      by_cases c2 : x4_1 < (a0.size : Int)
      · rw [if_pos c2] at H
        have c2b0 : decide (x4_1 < (a0.size : Int)) = true := decide_eq_true c2
        clear c2
        by_cases c3 : 0 ≤ x4_1
        · rw [if_pos c3] at H
          have c3b0 : decide (0 ≤ x4_1) = true := decide_eq_true c3
          clear c3
          replace H := Option.bind_eq_some_iff.mp H
          obtain ⟨t253, A50, H⟩ := H
          replace H : (if x3_1.size + t253.size ≤ 9223372036854775807 then ((pestleref14_letter.f (Int.tmod (wrap64 (bt a0 x4_1)) 16)).bind fun t254 => (if (x3_1 ++ t253).size + t254.size ≤ 9223372036854775807 then (pestleref14_Encode.l0 k1 a0 ((x3_1 ++ t253) ++ t254) (wrap64 (x4_1 + 1))) else (none))) else (none)) = some r := H
          have A5 := Aside0.mk A50
          clear A50
          by_cases c6 : x3_1.size + t253.size ≤ 9223372036854775807
          · rw [if_pos c6] at H
            have c6b0 := eq_true c6
            have c6b1 : decide (x3_1.size + t253.size ≤ 9223372036854775807) = true := decide_eq_true c6
            try have c6b2 : (9223372036854775807 < x3_1.size + t253.size) = False := eq_false (Nat.not_lt.2 c6)
            replace H := Option.bind_eq_some_iff.mp H
            obtain ⟨t254, A80, H⟩ := H
            replace H : (if (x3_1 ++ t253).size + t254.size ≤ 9223372036854775807 then (pestleref14_Encode.l0 k1 a0 ((x3_1 ++ t253) ++ t254) (wrap64 (x4_1 + 1))) else (none)) = some r := H
            have A8 := Aside0.mk A80
            clear A80
            by_cases c9 : (x3_1 ++ t253).size + t254.size ≤ 9223372036854775807
            · rw [if_pos c9] at H
              have c9b0 := eq_true c9
              have c9b1 : decide ((x3_1 ++ t253).size + t254.size ≤ 9223372036854775807) = true := decide_eq_true c9
              try have c9b2 : (9223372036854775807 < (x3_1 ++ t253).size + t254.size) = False := eq_false (Nat.not_lt.2 c9)
              have c9b3 := c9b0
              simp only [ByteArray.size_append] at c9b3
              have c9b5 := c9b2
              simp only [ByteArray.size_append] at c9b5
              have H' := Aside0.mk H
              clear H
              have p4 : 0 ≤ (x4_1 : Int) := of_decide_eq_true (by first | (with_reducible assumption) | assumption)
              have q4 : x4_1 < (a0.size : Int) := of_decide_eq_true (by first | (with_reducible assumption) | assumption)
              have hx4 := bt_at a0 x4_1
              replace p4 := eq_true p4
              replace q4 := eq_true q4
              go_wp2_with (first | (go_at_call 105; (with_reducible refine (pestleref14_letter.calls (wrap64 (Int.tdiv (wrap64 (bt a0 x4_1)) 16)) t253 _ A5.out).mono ?_); rintro e w' ⟨rfl, ⟨nd, rfl⟩⟩; (try first | exact ⟨rfl, _, World.drewN_drewN _ _ _⟩ | exact ⟨rfl, _, Eq.trans (World.drewN_drewN _ _ _) (congrArg (World.drewN _) (Nat.add_assoc _ _ _))⟩); have p7 : 0 ≤ (x4_1 : Int) := of_decide_eq_true (by first | (with_reducible assumption) | assumption); have q7 : x4_1 < (a0.size : Int) := of_decide_eq_true (by first | (with_reducible assumption) | assumption); have hx7 := bt_at a0 x4_1; replace p7 := eq_true p7; replace q7 := eq_true q7) | (go_at_call 105; (with_reducible refine (pestleref14_letter.calls (Int.tmod (wrap64 (bt a0 x4_1)) 16) t254 _ A8.out).mono ?_); rintro e w' ⟨rfl, ⟨nd, rfl⟩⟩; (try first | exact ⟨rfl, _, World.drewN_drewN _ _ _⟩ | exact ⟨rfl, _, Eq.trans (World.drewN_drewN _ _ _) (congrArg (World.drewN _) (Nat.add_assoc _ _ _))⟩)))
              have w64_ := @i64_w
              repeat (go_quiet (first | (go_at_call 105; (with_reducible refine (pestleref14_letter.calls (wrap64 (Int.tdiv (wrap64 (bt a0 x4_1)) 16)) t253 _ A5.out).mono ?_); rintro e w' ⟨rfl, ⟨nd, rfl⟩⟩; (try first | exact ⟨rfl, _, World.drewN_drewN _ _ _⟩ | exact ⟨rfl, _, Eq.trans (World.drewN_drewN _ _ _) (congrArg (World.drewN _) (Nat.add_assoc _ _ _))⟩); have p7 : 0 ≤ (x4_1 : Int) := of_decide_eq_true (by first | (with_reducible assumption) | assumption); have q7 : x4_1 < (a0.size : Int) := of_decide_eq_true (by first | (with_reducible assumption) | assumption); have hx7 := bt_at a0 x4_1; replace p7 := eq_true p7; replace q7 := eq_true q7) | (go_at_call 105; (with_reducible refine (pestleref14_letter.calls (Int.tmod (wrap64 (bt a0 x4_1)) 16) t254 _ A8.out).mono ?_); rintro e w' ⟨rfl, ⟨nd, rfl⟩⟩; (try first | exact ⟨rfl, _, World.drewN_drewN _ _ _⟩ | exact ⟨rfl, _, Eq.trans (World.drewN_drewN _ _ _) (congrArg (World.drewN _) (Nat.add_assoc _ _ _))⟩))); try go_wp2_with (first | (go_at_call 105; (with_reducible refine (pestleref14_letter.calls (wrap64 (Int.tdiv (wrap64 (bt a0 x4_1)) 16)) t253 _ A5.out).mono ?_); rintro e w' ⟨rfl, ⟨nd, rfl⟩⟩; (try first | exact ⟨rfl, _, World.drewN_drewN _ _ _⟩ | exact ⟨rfl, _, Eq.trans (World.drewN_drewN _ _ _) (congrArg (World.drewN _) (Nat.add_assoc _ _ _))⟩); have p7 : 0 ≤ (x4_1 : Int) := of_decide_eq_true (by first | (with_reducible assumption) | assumption); have q7 : x4_1 < (a0.size : Int) := of_decide_eq_true (by first | (with_reducible assumption) | assumption); have hx7 := bt_at a0 x4_1; replace p7 := eq_true p7; replace q7 := eq_true q7) | (go_at_call 105; (with_reducible refine (pestleref14_letter.calls (Int.tmod (wrap64 (bt a0 x4_1)) 16) t254 _ A8.out).mono ?_); rintro e w' ⟨rfl, ⟨nd, rfl⟩⟩; (try first | exact ⟨rfl, _, World.drewN_drewN _ _ _⟩ | exact ⟨rfl, _, Eq.trans (World.drewN_drewN _ _ _) (congrArg (World.drewN _) (Nat.add_assoc _ _ _))⟩))))
              go_roundg k1
              case measure => have := HK1.out; omega
              case rel => exact ⟨((x3_1 ++ t253) ++ t254), (wrap64 (x4_1 + 1)), (by first | rfl | (simp; done) | (simp [*]; done)), (by first | rfl | (simp; done) | (simp [*]; done)), H', ⟨by have := HK1.out; omega⟩, by repeat (first | exact Drawn0.refl _ | apply Drawn0.step)⟩
            · rw [if_neg c9] at H
              exact absurd H (by simp)
          · rw [if_neg c6] at H
            exact absurd H (by simp)
        · rw [if_neg c3] at H
          exact absurd H (by simp)
      · rw [if_neg c2] at H
        have c2b0 : decide (x4_1 < (a0.size : Int)) = false := decide_eq_false c2
        clear c2
        obtain rfl := Option.some.inj H
        go_wp2
        have w64_ := @i64_w
        repeat (go_quiet (fail); try go_wp2)
        go_ret
        exact ⟨by first | rfl | (simp; done) | (simp [*]; done) | (simp [show ∀ l_ : List UInt8, (l_ != []) = !l_.isEmpty from fun l_ => by cases l_ <;> rfl]; done), by repeat (first | exact Drawn0.refl _ | apply Drawn0.step)⟩

/-! ### pestleref14_Dash: function 85 -/
def pestleref14_Dash.f (k : Nat) (a0 : ByteArray) : Option (ByteArray) := if a0.toList = ([] : List UInt8) then (some (⟨#[45]⟩ : ByteArray)) else ((pestleref14_Encode.f k a0).bind fun t255 => (some t255))
theorem pestleref14_Dash.mono : ∀ a0 k, LeO (pestleref14_Dash.f k a0) (pestleref14_Dash.f (k + 1) a0) := by
  intro a0 k
  unfold pestleref14_Dash.f
  repeat' first
      | (with_reducible exact pestleref14_Encode.mono _ _)
      | (with_reducible exact LeO.refl _)
      | (with_reducible exact LeO.none _)
      | (with_reducible refine LeO.ite ?_ ?_)
      | (with_reducible refine LeO.bind ?_ (fun _ => ?_))
      | exact pestleref14_Encode.mono _ _
      | exact LeO.none _
      | refine LeO.ite ?_ ?_
      | refine LeO.bind ?_ (fun _ => ?_)
set_option maxHeartbeats 8000000 in
set_option maxRecDepth 100000 in
theorem pestleref14_Dash.calls (k : Nat) (a0 : ByteArray) (r : ByteArray) (w : World) (h : pestleref14_Dash.f k a0 = some r) :
    Calls Try.prog 85 #[.string a0] w fun e w' => e = .returned (.string r) ∧ Drawn0 w w' := by
  have H : (if a0.toList = ([] : List UInt8) then (some (⟨#[45]⟩ : ByteArray)) else ((pestleref14_Encode.f k a0).bind fun t255 => (some t255))) = some r := h
  clear h
  by_cases c2 : a0.toList = ([] : List UInt8)
  · rw [if_pos c2] at H
    have c2b0 : (a0.toList == ([] : List UInt8)) = true := beq_iff_eq.mpr c2
    have c2b1 : (a0.toList != ([] : List UInt8)) = false := bne_eq_false_iff_eq.mpr c2
    clear c2
    obtain rfl := Option.some.inj H
    go_enter Try.func85, Try.ntmps85
    go_wp2
    go_ret
    exact ⟨by first | rfl | (simp; done) | (simp [*]; done) | (simp [show ∀ l_ : List UInt8, (l_ != []) = !l_.isEmpty from fun l_ => by cases l_ <;> rfl]; done), by repeat (first | exact Drawn0.refl _ | apply Drawn0.step)⟩
  · rw [if_neg c2] at H
    have c2b0 : (a0.toList == ([] : List UInt8)) = false := beq_eq_false_iff_ne.mpr c2
    have c2b1 : (a0.toList != ([] : List UInt8)) = true := bne_iff_ne.mpr c2
    replace H := Option.bind_eq_some_iff.mp H
    obtain ⟨t255, A30, H⟩ := H
    replace H : (some t255) = some r := H
    have A3 := Aside0.mk A30
    clear A30
    obtain rfl := Option.some.inj H
    go_enter Try.func85, Try.ntmps85
    go_wp2_with (first | ((with_reducible refine gate_callee (f := 99) rfl ?_); refine goesL_ (some 6) rfl rfl Try.func99 (by kernel_rfl) rfl #[.string a0] rfl (by (try simp only [List.map_toArray, List.map_cons, List.map_nil]); first | done | rfl | (simp only [List.length_drop, List.length_take]; rfl)) ?_; (with_reducible refine (pestleref14_Encode.calls k a0 t255 _ A3.out).mono ?_); rintro e w' ⟨rfl, ⟨nd, rfl⟩⟩; refine ⟨_, rfl, ?_⟩))
    go_ret
    exact ⟨by first | rfl | (simp; done) | (simp [*]; done) | (simp [show ∀ l_ : List UInt8, (l_ != []) = !l_.isEmpty from fun l_ => by cases l_ <;> rfl]; done), by repeat (first | exact Drawn0.refl _ | apply Drawn0.step)⟩

end Go.Proofs.Ytoknoghdnedmhaa.Pall
