-- PRINTED by print.py (a twelfth state) out of the translation. Not trusted: Lean checks it.
import Derived.Test.YtiicjhibnobhdaaPallx0
import Derived.Test.YtiicjhibnobhdaaPallx2
import Derived.Test.YtiicjhibnobhdaaPallx3
import Derived.Test.YtiicjhibnobhdaaPallx4
import Derived.Test.YtiicjhibnobhdaaPallx6
namespace Go.Proofs.Ytiicjhibnobhdaa.Pall
open Go.RowKit Go.Proofs.YtiicjhibnobhdaaW.PrintWords Go.Proofs.YtiicjhibnobhdaaW.PrintLast Go.Proofs.YtiicjhibnobhdaaW.PrintMore
attribute [local go_sem] max2_int min2_int max_two min_two max_three min_three max_four min_four   -- for this text's walks alone
set_option linter.unusedVariables false
set_option linter.unusedSimpArgs false

/-! ### pestleref46_Check: function 16 -/
def pestleref46_Check.f (k : Nat) (p : PV) : Option Int := (pestleref44_Params.f k p.a0 p.a1 p.a2 p.a3 p.a4).bind fun e => (if e ≠ 0 then some e else (if polSalt p = true then (if 0 ≤ p.a0 ∧ p.a0 < 7 then some (rkS p p.a0.toNat) else none) else some 9))
theorem pestleref46_Check.mono (p : PV) : ∀ k, LeO (pestleref46_Check.f k p) (pestleref46_Check.f (k + 1) p) := by
  intro k
  unfold pestleref46_Check.f
  exact LeO.bind (pestleref44_Params.mono _ _ _ _ _ _) (fun _ => LeO.refl _)
set_option maxHeartbeats 8000000 in
set_option maxRecDepth 100000 in
theorem pestleref46_Check.calls (k : Nat) (p : PV) (r : Int) (w : World) (h : pestleref46_Check.f k p = some r) :
    Calls Try.prog 16 #[.agg #[.int .i64 p.a0, .int .i64 p.a1, .int .i64 p.a2, .int .i64 p.a3, .int .i64 p.a4, .int .i64 p.s, .int .i64 p.r0, .int .i64 p.r1, .int .i64 p.r2, .int .i64 p.r3, .int .i64 p.r4, .int .i64 p.r5, .int .i64 p.r6]] w fun e w' => e = .returned (.int .i64 r) ∧ Below w.heap.size w w' := by
  have HB := Aside0.mk (Below.refl w.heap.size w)
  unfold pestleref46_Check.f at h
  replace h := Option.bind_eq_some_iff.mp h
  obtain ⟨e, hR, h⟩ := h
  have HR := Aside0.mk hR
  clear hR
  by_cases he : e ≠ 0
  · rw [if_pos he] at h
    obtain rfl := Option.some.inj h
    have e1 : (e == 0) = false := beq_eq_false_iff_ne.2 he
    have e2 : (e != 0) = true := bne_iff_ne.2 he
    clear h he
    go_enter Try.func16, Try.ntmps16
    go_wp2_with (first | ((with_reducible refine gate_dst (N := 1) rfl ?_); refine box_event ?hg (N := 1) ?hd (cs := #[.int .i64 p.a0, .int .i64 p.a1, .int .i64 p.a2, .int .i64 p.a3, .int .i64 p.a4, .int .i64 p.s, .int .i64 p.r0, .int .i64 p.r1, .int .i64 p.r2, .int .i64 p.r3, .int .i64 p.r4, .int .i64 p.r5, .int .i64 p.r6]) (t := 26) ?hr ?_; (case hd => rfl); (case hg => rfl); (case hr => rfl); intro g hg wn hbox hb; have HP := Aside0.mk (show PolL wn g p from hbox); have n0_ := Aside0.mk (below_step HB.out hb); clear HB; have HB := n0_; clear n0_; obtain ⟨c0, c1, c2, c3, c4, c5, c6, c7, c8, c9, c10, c11, c12⟩ := HP.out.cells; clear hbox hb hg) | (go_at_call 19; (with_reducible refine (pestleref44_Params.calls k p.a0 p.a1 p.a2 p.a3 p.a4 e _ HR.out).mono ?_); rintro e wn ⟨rfl, hb⟩; clear c0 c1 c2 c3 c4 c5 c6 c7 c8 c9 c10 c11 c12; have n0_ := Aside0.mk (below_step HB.out hb); have n1_ := Aside0.mk (HP.out.next hb); clear HB HP; have HB := n0_; have HP := n1_; clear n0_ n1_; clear hb; obtain ⟨c0, c1, c2, c3, c4, c5, c6, c7, c8, c9, c10, c11, c12⟩ := HP.out.cells))
    go_ret
    exact ⟨rfl, HB.out⟩
  rw [if_neg he] at h
  obtain rfl : e = 0 := by omega
  clear he
  by_cases hs : polSalt p = true
  case neg =>
    rw [if_neg hs] at h
    obtain rfl := Option.some.inj h
    unfold polSalt at hs
    by_cases h5 : p.a0 = 5
    · rw [if_pos h5] at hs
      have s1 : (p.s == 16) = false := Bool.eq_false_iff.2 hs
      have s2 : (p.s != 16) = true := by rw [bne, s1]; rfl
      have a1 : (p.a0 == 5) = true := beq_iff_eq.2 h5
      clear h hs h5
      go_enter Try.func16, Try.ntmps16
      go_wp2_with (first | ((with_reducible refine gate_dst (N := 1) rfl ?_); refine box_event ?hg (N := 1) ?hd (cs := #[.int .i64 p.a0, .int .i64 p.a1, .int .i64 p.a2, .int .i64 p.a3, .int .i64 p.a4, .int .i64 p.s, .int .i64 p.r0, .int .i64 p.r1, .int .i64 p.r2, .int .i64 p.r3, .int .i64 p.r4, .int .i64 p.r5, .int .i64 p.r6]) (t := 26) ?hr ?_; (case hd => rfl); (case hg => rfl); (case hr => rfl); intro g hg wn hbox hb; have HP := Aside0.mk (show PolL wn g p from hbox); have n0_ := Aside0.mk (below_step HB.out hb); clear HB; have HB := n0_; clear n0_; obtain ⟨c0, c1, c2, c3, c4, c5, c6, c7, c8, c9, c10, c11, c12⟩ := HP.out.cells; clear hbox hb hg) | (go_at_call 19; (with_reducible refine (pestleref44_Params.calls k p.a0 p.a1 p.a2 p.a3 p.a4 0 _ HR.out).mono ?_); rintro e wn ⟨rfl, hb⟩; clear c0 c1 c2 c3 c4 c5 c6 c7 c8 c9 c10 c11 c12; have n0_ := Aside0.mk (below_step HB.out hb); have n1_ := Aside0.mk (HP.out.next hb); clear HB HP; have HB := n0_; have HP := n1_; clear n0_ n1_; clear hb; obtain ⟨c0, c1, c2, c3, c4, c5, c6, c7, c8, c9, c10, c11, c12⟩ := HP.out.cells))
      go_ret
      exact ⟨rfl, HB.out⟩
    · rw [if_neg h5] at hs
      have a1 : (p.a0 == 5) = false := beq_eq_false_iff_ne.2 h5
      by_cases h8 : p.s < 8
      · have s1 : decide (p.s < 8) = true := decide_eq_true h8
        clear h hs h5 h8
        go_enter Try.func16, Try.ntmps16
        go_wp2_with (first | ((with_reducible refine gate_dst (N := 1) rfl ?_); refine box_event ?hg (N := 1) ?hd (cs := #[.int .i64 p.a0, .int .i64 p.a1, .int .i64 p.a2, .int .i64 p.a3, .int .i64 p.a4, .int .i64 p.s, .int .i64 p.r0, .int .i64 p.r1, .int .i64 p.r2, .int .i64 p.r3, .int .i64 p.r4, .int .i64 p.r5, .int .i64 p.r6]) (t := 26) ?hr ?_; (case hd => rfl); (case hg => rfl); (case hr => rfl); intro g hg wn hbox hb; have HP := Aside0.mk (show PolL wn g p from hbox); have n0_ := Aside0.mk (below_step HB.out hb); clear HB; have HB := n0_; clear n0_; obtain ⟨c0, c1, c2, c3, c4, c5, c6, c7, c8, c9, c10, c11, c12⟩ := HP.out.cells; clear hbox hb hg) | (go_at_call 19; (with_reducible refine (pestleref44_Params.calls k p.a0 p.a1 p.a2 p.a3 p.a4 0 _ HR.out).mono ?_); rintro e wn ⟨rfl, hb⟩; clear c0 c1 c2 c3 c4 c5 c6 c7 c8 c9 c10 c11 c12; have n0_ := Aside0.mk (below_step HB.out hb); have n1_ := Aside0.mk (HP.out.next hb); clear HB HP; have HB := n0_; have HP := n1_; clear n0_ n1_; clear hb; obtain ⟨c0, c1, c2, c3, c4, c5, c6, c7, c8, c9, c10, c11, c12⟩ := HP.out.cells))
        go_ret
        exact ⟨rfl, HB.out⟩
      · have s1 : decide (p.s < 8) = false := decide_eq_false h8
        have s2 : decide (64 < p.s) = true := decide_eq_true (by
          rw [decide_eq_true (show 8 ≤ p.s by omega), Bool.true_and] at hs
          have := of_decide_eq_false (Bool.eq_false_iff.2 hs)
          omega)
        clear h hs h5 h8
        go_enter Try.func16, Try.ntmps16
        go_wp2_with (first | ((with_reducible refine gate_dst (N := 1) rfl ?_); refine box_event ?hg (N := 1) ?hd (cs := #[.int .i64 p.a0, .int .i64 p.a1, .int .i64 p.a2, .int .i64 p.a3, .int .i64 p.a4, .int .i64 p.s, .int .i64 p.r0, .int .i64 p.r1, .int .i64 p.r2, .int .i64 p.r3, .int .i64 p.r4, .int .i64 p.r5, .int .i64 p.r6]) (t := 26) ?hr ?_; (case hd => rfl); (case hg => rfl); (case hr => rfl); intro g hg wn hbox hb; have HP := Aside0.mk (show PolL wn g p from hbox); have n0_ := Aside0.mk (below_step HB.out hb); clear HB; have HB := n0_; clear n0_; obtain ⟨c0, c1, c2, c3, c4, c5, c6, c7, c8, c9, c10, c11, c12⟩ := HP.out.cells; clear hbox hb hg) | (go_at_call 19; (with_reducible refine (pestleref44_Params.calls k p.a0 p.a1 p.a2 p.a3 p.a4 0 _ HR.out).mono ?_); rintro e wn ⟨rfl, hb⟩; clear c0 c1 c2 c3 c4 c5 c6 c7 c8 c9 c10 c11 c12; have n0_ := Aside0.mk (below_step HB.out hb); have n1_ := Aside0.mk (HP.out.next hb); clear HB HP; have HB := n0_; have HP := n1_; clear n0_ n1_; clear hb; obtain ⟨c0, c1, c2, c3, c4, c5, c6, c7, c8, c9, c10, c11, c12⟩ := HP.out.cells))
        go_ret
        exact ⟨rfl, HB.out⟩
  rw [if_pos hs] at h
  by_cases hb : 0 ≤ p.a0 ∧ p.a0 < 7
  case neg => rw [if_neg hb] at h; cases h
  rw [if_pos hb] at h
  obtain rfl := Option.some.inj h
  obtain ⟨i2, i3⟩ := hb
  have HNP := Aside0.mk (show p.a0.toNat < 7 by omega)
  unfold polSalt at hs
  unfold rkS
  obtain ⟨xp, hxp⟩ : ∃ x, rkAt p p.a0.toNat = x := ⟨_, rfl⟩
  rw [hxp]
  replace hxp := Aside0.mk hxp
  by_cases h5 : p.a0 = 5
  · rw [if_pos h5] at hs
    have a1 : (p.a0 == 5) = true := beq_iff_eq.2 h5
    have s0 : p.s = 16 := beq_iff_eq.1 hs
    have s2 : (p.s != 16) = false := by rw [bne, hs]; rfl
    have s3 : decide (p.s < 8) = false := decide_eq_false (by omega)
    have s4 : decide (64 < p.s) = false := decide_eq_false (by omega)
    clear h h5 hs s0
    by_cases z : p.r0 = 0
    case neg =>
      rw [if_pos (Or.inl z)]
      have z1 : (p.r0 == 0) = false := beq_eq_false_iff_ne.2 z
      have z2 : (p.r0 != 0) = true := bne_iff_ne.2 z
      go_enter Try.func16, Try.ntmps16
      go_wp2_with (first | ((with_reducible refine gate_dst (N := 1) rfl ?_); refine box_event ?hg (N := 1) ?hd (cs := #[.int .i64 p.a0, .int .i64 p.a1, .int .i64 p.a2, .int .i64 p.a3, .int .i64 p.a4, .int .i64 p.s, .int .i64 p.r0, .int .i64 p.r1, .int .i64 p.r2, .int .i64 p.r3, .int .i64 p.r4, .int .i64 p.r5, .int .i64 p.r6]) (t := 26) ?hr ?_; (case hd => rfl); (case hg => rfl); (case hr => rfl); intro g hg wn hbox hb; have HP := Aside0.mk (show PolL wn g p from hbox); have n0_ := Aside0.mk (below_step HB.out hb); clear HB; have HB := n0_; clear n0_; obtain ⟨c0, c1, c2, c3, c4, c5, c6, c7, c8, c9, c10, c11, c12⟩ := HP.out.cells; clear hbox hb hg) | (go_at_call 19; (with_reducible refine (pestleref44_Params.calls k p.a0 p.a1 p.a2 p.a3 p.a4 0 _ HR.out).mono ?_); rintro e wn ⟨rfl, hb⟩; clear c0 c1 c2 c3 c4 c5 c6 c7 c8 c9 c10 c11 c12; have n0_ := Aside0.mk (below_step HB.out hb); have n1_ := Aside0.mk (HP.out.next hb); clear HB HP; have HB := n0_; have HP := n1_; clear n0_ n1_; clear hb; obtain ⟨c0, c1, c2, c3, c4, c5, c6, c7, c8, c9, c10, c11, c12⟩ := HP.out.cells; have cA := HP.out.at p.a0.toNat HNP.out; rw [hxp.out] at cA))
      go_ret
      exact ⟨rfl, HB.out⟩
    have z1 : (p.r0 == 0) = true := beq_iff_eq.2 z
    have z2 : (p.r0 != 0) = false := bne_eq_false_iff_eq.2 z
    by_cases y : xp < 1
    case pos =>
      rw [if_pos (Or.inr y)]
      have y1 : decide (xp ≤ 0) = true := decide_eq_true (by omega)
      clear z y
      go_enter Try.func16, Try.ntmps16
      go_wp2_with (first | ((with_reducible refine gate_dst (N := 1) rfl ?_); refine box_event ?hg (N := 1) ?hd (cs := #[.int .i64 p.a0, .int .i64 p.a1, .int .i64 p.a2, .int .i64 p.a3, .int .i64 p.a4, .int .i64 p.s, .int .i64 p.r0, .int .i64 p.r1, .int .i64 p.r2, .int .i64 p.r3, .int .i64 p.r4, .int .i64 p.r5, .int .i64 p.r6]) (t := 26) ?hr ?_; (case hd => rfl); (case hg => rfl); (case hr => rfl); intro g hg wn hbox hb; have HP := Aside0.mk (show PolL wn g p from hbox); have n0_ := Aside0.mk (below_step HB.out hb); clear HB; have HB := n0_; clear n0_; obtain ⟨c0, c1, c2, c3, c4, c5, c6, c7, c8, c9, c10, c11, c12⟩ := HP.out.cells; clear hbox hb hg) | (go_at_call 19; (with_reducible refine (pestleref44_Params.calls k p.a0 p.a1 p.a2 p.a3 p.a4 0 _ HR.out).mono ?_); rintro e wn ⟨rfl, hb⟩; clear c0 c1 c2 c3 c4 c5 c6 c7 c8 c9 c10 c11 c12; have n0_ := Aside0.mk (below_step HB.out hb); have n1_ := Aside0.mk (HP.out.next hb); clear HB HP; have HB := n0_; have HP := n1_; clear n0_ n1_; clear hb; obtain ⟨c0, c1, c2, c3, c4, c5, c6, c7, c8, c9, c10, c11, c12⟩ := HP.out.cells; have cA := HP.out.at p.a0.toNat HNP.out; rw [hxp.out] at cA))
      go_ret
      exact ⟨rfl, HB.out⟩
    rw [if_neg (fun q => q.elim (fun q => q z) y)]
    have y1 : decide (xp ≤ 0) = false := decide_eq_false (by omega)
    obtain ⟨RR, hRR⟩ : ∃ RR, rkFrom p 7 0 = RR := ⟨_, rfl⟩
    rw [hRR]
    replace hRR := Aside0.mk hRR
    clear z y
    go_enter Try.func16, Try.ntmps16
    go_wp2_with (first | ((with_reducible refine gate_dst (N := 1) rfl ?_); refine box_event ?hg (N := 1) ?hd (cs := #[.int .i64 p.a0, .int .i64 p.a1, .int .i64 p.a2, .int .i64 p.a3, .int .i64 p.a4, .int .i64 p.s, .int .i64 p.r0, .int .i64 p.r1, .int .i64 p.r2, .int .i64 p.r3, .int .i64 p.r4, .int .i64 p.r5, .int .i64 p.r6]) (t := 26) ?hr ?_; (case hd => rfl); (case hg => rfl); (case hr => rfl); intro g hg wn hbox hb; have HP := Aside0.mk (show PolL wn g p from hbox); have n0_ := Aside0.mk (below_step HB.out hb); clear HB; have HB := n0_; clear n0_; obtain ⟨c0, c1, c2, c3, c4, c5, c6, c7, c8, c9, c10, c11, c12⟩ := HP.out.cells; clear hbox hb hg) | (go_at_call 19; (with_reducible refine (pestleref44_Params.calls k p.a0 p.a1 p.a2 p.a3 p.a4 0 _ HR.out).mono ?_); rintro e wn ⟨rfl, hb⟩; clear c0 c1 c2 c3 c4 c5 c6 c7 c8 c9 c10 c11 c12; have n0_ := Aside0.mk (below_step HB.out hb); have n1_ := Aside0.mk (HP.out.next hb); clear HB HP; have HB := n0_; have HP := n1_; clear n0_ n1_; clear hb; obtain ⟨c0, c1, c2, c3, c4, c5, c6, c7, c8, c9, c10, c11, c12⟩ := HP.out.cells; have cA := HP.out.at p.a0.toNat HNP.out; rw [hxp.out] at cA))
    clear c0 c1 c2 c3 c4 c5 c6 c7 c8 c9 c10 c11 c12 cA
    go_loopw [4] (fun v4 wz => ∃ i : Nat, i ≤ 7 ∧ v4 = .int .i64 (i : Int) ∧ Aside0 (rkFrom p (7 - i) i = RR) ∧ Aside0 (PolL wz g p) ∧ Aside0 (Below w.heap.size w wz)) (fun v4 _ => 7 - (intOf v4).toNat)
    case atStart => exact ⟨0, by omega, rfl, hRR, HP, HB⟩
    case round =>
      clear hRR HP HB
      obtain ⟨i, hi, rfl, E, HP, HB⟩ := hrel
      by_cases hlt : i < 7
      case neg =>
        obtain rfl : i = 7 := by omega
        obtain rfl : 0 = RR := E.out
        clear hlt hi
        go_wp2
        go_ret
        exact ⟨rfl, HB.out⟩
      have p1 : decide ((i : Int) < 7) = true := decide_eq_true (by omega)
      have hE := E.out
      rw [show 7 - i = (6 - i) + 1 by omega, rkFrom_succ] at hE
      have q2 : (0 : Int) ≤ (i : Int) := by omega
      have q3 : (i : Int) < 7 := by omega
      have cI := HP.out.at i hlt
      obtain ⟨x, hx⟩ : ∃ x, rkAt p i = x := ⟨_, rfl⟩
      rw [hx] at hE cI
      replace hx := Aside0.mk hx
      by_cases hneg : x < 0
      case pos =>
        rw [if_pos hneg] at hE
        subst hE
        have n1 : decide (x < 0) = true := decide_eq_true hneg
        clear hlt hi hneg E
        go_wp2
        go_ret
        exact ⟨rfl, HB.out⟩
      rw [if_neg hneg] at hE
      have n1 : decide (x < 0) = false := decide_eq_false hneg
      obtain ⟨B, hB⟩ : ∃ B, rkIn p x i 0 = B := ⟨_, rfl⟩
      rw [hB] at hE
      replace hE := Aside0.mk hE
      replace hB := Aside0.mk hB
      have IH := Aside0.mk hlt
      clear hlt hi hneg E
      go_wp2
      clear p1 n1 cI
      go_loopw [5] (fun v5 wz => ∃ j : Nat, j ≤ i ∧ v5 = .int .i64 (j : Int) ∧ Aside0 (rkIn p x (i - j) j = B) ∧ Aside0 (PolL wz g p) ∧ Aside0 (Below w.heap.size w wz)) (fun v5 _ => i - (intOf v5).toNat)
      case atStart => exact ⟨0, by omega, rfl, hB, HP, HB⟩
      case round =>
        clear hB HP HB
        obtain ⟨j, hj, rfl, E, HP, HB⟩ := hrel
        by_cases hlt : j < i
        case neg =>
          obtain rfl : j = i := by omega
          have hB := E.out
          rw [Nat.sub_self] at hB
          obtain rfl : false = B := hB
          have F := hE.out
          rw [if_neg (by decide)] at F
          replace F := Aside0.mk F
          have p1 : decide ((j : Int) < (j : Int)) = false := decide_eq_false (by omega)
          have p2 : decide (j < j) = false := decide_eq_false (by omega)
          have hadd : IntKind.i64.wrap ((j : Int) + 1) = (j : Int) + 1 := by rw [IntKind.wrap_i64]; omega
          clear hlt hj E hE
          go_wp2
          exact ⟨⟨j + 1, by have := IH.out; omega, by rfl, ⟨by rw [show 7 - (j + 1) = 6 - j by omega]; exact F.out⟩, HP, HB⟩, by simp [intOf]; have := IH.out; omega⟩
        have p1 : decide ((j : Int) < (i : Int)) = true := decide_eq_true (by omega)
        have p2 : decide (j < i) = true := decide_eq_true hlt
        have p4 : (j : Int) < 7 := by have := IH.out; omega
        have p5 : (0 : Int) ≤ (j : Int) := by omega
        have cI := HP.out.at i IH.out
        rw [hx.out] at cI
        have cJ := HP.out.at j (by have := IH.out; omega)
        have hE2 := E.out
        rw [show i - j = (i - j - 1) + 1 by omega, rkIn_succ] at hE2
        have hadd : IntKind.i64.wrap ((j : Int) + 1) = (j : Int) + 1 := by rw [IntKind.wrap_i64]; omega
        obtain ⟨v, hv⟩ : ∃ v, rkAt p j = v := ⟨_, rfl⟩
        rw [hv] at hE2 cJ
        replace hv := Aside0.mk hv
        have IJ := Aside0.mk hlt
        by_cases hq : 0 < x ∧ v = x
        case pos =>
          rw [if_pos hq] at hE2
          subst hE2
          have F := hE.out
          rw [if_pos rfl] at F
          subst F
          obtain ⟨hq1, hq2⟩ := hq
          have r1 : decide (0 < x) = true := decide_eq_true hq1
          have r2 : (v == x) = true := beq_iff_eq.2 hq2
          clear hlt hj E hE hq1 hq2
          go_wp2
          go_quiet (fail)
          go_wp2
          go_ret
          exact ⟨rfl, by repeat (first | exact HB.out | apply pw_below_drewN | apply below_drew1)⟩
        rw [if_neg hq] at hE2
        replace hE2 := Aside0.mk hE2
        by_cases hq1 : 0 < x
        · have r1 : decide (0 < x) = true := decide_eq_true hq1
          have hq2 : v ≠ x := fun q => hq ⟨hq1, q⟩
          have r2 : (v == x) = false := beq_eq_false_iff_ne.2 hq2
          clear hlt hj E hq hq1 hq2
          go_wp2
          go_quiet (fail)
          go_wp2
          exact ⟨⟨j + 1, by have := IJ.out; omega, by rfl, ⟨by rw [show i - (j + 1) = i - j - 1 by omega]; exact hE2.out⟩, ⟨HP.out.next (by repeat (first | exact Below.refl _ _ | apply pw_below_drewN | apply below_drew1))⟩, ⟨by repeat (first | exact HB.out | apply pw_below_drewN | apply below_drew1)⟩⟩, by simp [intOf]; have := IJ.out; omega⟩
        · have r1 : decide (0 < x) = false := decide_eq_false hq1
          clear hlt hj E hq hq1
          go_wp2
          go_quiet (fail)
          go_wp2
          exact ⟨⟨j + 1, by have := IJ.out; omega, by rfl, ⟨by rw [show i - (j + 1) = i - j - 1 by omega]; exact hE2.out⟩, ⟨HP.out.next (by repeat (first | exact Below.refl _ _ | apply pw_below_drewN | apply below_drew1))⟩, ⟨by repeat (first | exact HB.out | apply pw_below_drewN | apply below_drew1)⟩⟩, by simp [intOf]; have := IJ.out; omega⟩
  · rw [if_neg h5] at hs
    have a1 : (p.a0 == 5) = false := beq_eq_false_iff_ne.2 h5
    rw [Bool.and_eq_true] at hs
    have s3 : decide (p.s < 8) = false := decide_eq_false (by have := of_decide_eq_true hs.1; omega)
    have s4 : decide (64 < p.s) = false := decide_eq_false (by have := of_decide_eq_true hs.2; omega)
    clear h h5 hs
    by_cases z : p.r0 = 0
    case neg =>
      rw [if_pos (Or.inl z)]
      have z1 : (p.r0 == 0) = false := beq_eq_false_iff_ne.2 z
      have z2 : (p.r0 != 0) = true := bne_iff_ne.2 z
      go_enter Try.func16, Try.ntmps16
      go_wp2_with (first | ((with_reducible refine gate_dst (N := 1) rfl ?_); refine box_event ?hg (N := 1) ?hd (cs := #[.int .i64 p.a0, .int .i64 p.a1, .int .i64 p.a2, .int .i64 p.a3, .int .i64 p.a4, .int .i64 p.s, .int .i64 p.r0, .int .i64 p.r1, .int .i64 p.r2, .int .i64 p.r3, .int .i64 p.r4, .int .i64 p.r5, .int .i64 p.r6]) (t := 26) ?hr ?_; (case hd => rfl); (case hg => rfl); (case hr => rfl); intro g hg wn hbox hb; have HP := Aside0.mk (show PolL wn g p from hbox); have n0_ := Aside0.mk (below_step HB.out hb); clear HB; have HB := n0_; clear n0_; obtain ⟨c0, c1, c2, c3, c4, c5, c6, c7, c8, c9, c10, c11, c12⟩ := HP.out.cells; clear hbox hb hg) | (go_at_call 19; (with_reducible refine (pestleref44_Params.calls k p.a0 p.a1 p.a2 p.a3 p.a4 0 _ HR.out).mono ?_); rintro e wn ⟨rfl, hb⟩; clear c0 c1 c2 c3 c4 c5 c6 c7 c8 c9 c10 c11 c12; have n0_ := Aside0.mk (below_step HB.out hb); have n1_ := Aside0.mk (HP.out.next hb); clear HB HP; have HB := n0_; have HP := n1_; clear n0_ n1_; clear hb; obtain ⟨c0, c1, c2, c3, c4, c5, c6, c7, c8, c9, c10, c11, c12⟩ := HP.out.cells; have cA := HP.out.at p.a0.toNat HNP.out; rw [hxp.out] at cA))
      go_ret
      exact ⟨rfl, HB.out⟩
    have z1 : (p.r0 == 0) = true := beq_iff_eq.2 z
    have z2 : (p.r0 != 0) = false := bne_eq_false_iff_eq.2 z
    by_cases y : xp < 1
    case pos =>
      rw [if_pos (Or.inr y)]
      have y1 : decide (xp ≤ 0) = true := decide_eq_true (by omega)
      clear z y
      go_enter Try.func16, Try.ntmps16
      go_wp2_with (first | ((with_reducible refine gate_dst (N := 1) rfl ?_); refine box_event ?hg (N := 1) ?hd (cs := #[.int .i64 p.a0, .int .i64 p.a1, .int .i64 p.a2, .int .i64 p.a3, .int .i64 p.a4, .int .i64 p.s, .int .i64 p.r0, .int .i64 p.r1, .int .i64 p.r2, .int .i64 p.r3, .int .i64 p.r4, .int .i64 p.r5, .int .i64 p.r6]) (t := 26) ?hr ?_; (case hd => rfl); (case hg => rfl); (case hr => rfl); intro g hg wn hbox hb; have HP := Aside0.mk (show PolL wn g p from hbox); have n0_ := Aside0.mk (below_step HB.out hb); clear HB; have HB := n0_; clear n0_; obtain ⟨c0, c1, c2, c3, c4, c5, c6, c7, c8, c9, c10, c11, c12⟩ := HP.out.cells; clear hbox hb hg) | (go_at_call 19; (with_reducible refine (pestleref44_Params.calls k p.a0 p.a1 p.a2 p.a3 p.a4 0 _ HR.out).mono ?_); rintro e wn ⟨rfl, hb⟩; clear c0 c1 c2 c3 c4 c5 c6 c7 c8 c9 c10 c11 c12; have n0_ := Aside0.mk (below_step HB.out hb); have n1_ := Aside0.mk (HP.out.next hb); clear HB HP; have HB := n0_; have HP := n1_; clear n0_ n1_; clear hb; obtain ⟨c0, c1, c2, c3, c4, c5, c6, c7, c8, c9, c10, c11, c12⟩ := HP.out.cells; have cA := HP.out.at p.a0.toNat HNP.out; rw [hxp.out] at cA))
      go_ret
      exact ⟨rfl, HB.out⟩
    rw [if_neg (fun q => q.elim (fun q => q z) y)]
    have y1 : decide (xp ≤ 0) = false := decide_eq_false (by omega)
    obtain ⟨RR, hRR⟩ : ∃ RR, rkFrom p 7 0 = RR := ⟨_, rfl⟩
    rw [hRR]
    replace hRR := Aside0.mk hRR
    clear z y
    go_enter Try.func16, Try.ntmps16
    go_wp2_with (first | ((with_reducible refine gate_dst (N := 1) rfl ?_); refine box_event ?hg (N := 1) ?hd (cs := #[.int .i64 p.a0, .int .i64 p.a1, .int .i64 p.a2, .int .i64 p.a3, .int .i64 p.a4, .int .i64 p.s, .int .i64 p.r0, .int .i64 p.r1, .int .i64 p.r2, .int .i64 p.r3, .int .i64 p.r4, .int .i64 p.r5, .int .i64 p.r6]) (t := 26) ?hr ?_; (case hd => rfl); (case hg => rfl); (case hr => rfl); intro g hg wn hbox hb; have HP := Aside0.mk (show PolL wn g p from hbox); have n0_ := Aside0.mk (below_step HB.out hb); clear HB; have HB := n0_; clear n0_; obtain ⟨c0, c1, c2, c3, c4, c5, c6, c7, c8, c9, c10, c11, c12⟩ := HP.out.cells; clear hbox hb hg) | (go_at_call 19; (with_reducible refine (pestleref44_Params.calls k p.a0 p.a1 p.a2 p.a3 p.a4 0 _ HR.out).mono ?_); rintro e wn ⟨rfl, hb⟩; clear c0 c1 c2 c3 c4 c5 c6 c7 c8 c9 c10 c11 c12; have n0_ := Aside0.mk (below_step HB.out hb); have n1_ := Aside0.mk (HP.out.next hb); clear HB HP; have HB := n0_; have HP := n1_; clear n0_ n1_; clear hb; obtain ⟨c0, c1, c2, c3, c4, c5, c6, c7, c8, c9, c10, c11, c12⟩ := HP.out.cells; have cA := HP.out.at p.a0.toNat HNP.out; rw [hxp.out] at cA))
    clear c0 c1 c2 c3 c4 c5 c6 c7 c8 c9 c10 c11 c12 cA
    go_loopw [4] (fun v4 wz => ∃ i : Nat, i ≤ 7 ∧ v4 = .int .i64 (i : Int) ∧ Aside0 (rkFrom p (7 - i) i = RR) ∧ Aside0 (PolL wz g p) ∧ Aside0 (Below w.heap.size w wz)) (fun v4 _ => 7 - (intOf v4).toNat)
    case atStart => exact ⟨0, by omega, rfl, hRR, HP, HB⟩
    case round =>
      clear hRR HP HB
      obtain ⟨i, hi, rfl, E, HP, HB⟩ := hrel
      by_cases hlt : i < 7
      case neg =>
        obtain rfl : i = 7 := by omega
        obtain rfl : 0 = RR := E.out
        clear hlt hi
        go_wp2
        go_ret
        exact ⟨rfl, HB.out⟩
      have p1 : decide ((i : Int) < 7) = true := decide_eq_true (by omega)
      have hE := E.out
      rw [show 7 - i = (6 - i) + 1 by omega, rkFrom_succ] at hE
      have q2 : (0 : Int) ≤ (i : Int) := by omega
      have q3 : (i : Int) < 7 := by omega
      have cI := HP.out.at i hlt
      obtain ⟨x, hx⟩ : ∃ x, rkAt p i = x := ⟨_, rfl⟩
      rw [hx] at hE cI
      replace hx := Aside0.mk hx
      by_cases hneg : x < 0
      case pos =>
        rw [if_pos hneg] at hE
        subst hE
        have n1 : decide (x < 0) = true := decide_eq_true hneg
        clear hlt hi hneg E
        go_wp2
        go_ret
        exact ⟨rfl, HB.out⟩
      rw [if_neg hneg] at hE
      have n1 : decide (x < 0) = false := decide_eq_false hneg
      obtain ⟨B, hB⟩ : ∃ B, rkIn p x i 0 = B := ⟨_, rfl⟩
      rw [hB] at hE
      replace hE := Aside0.mk hE
      replace hB := Aside0.mk hB
      have IH := Aside0.mk hlt
      clear hlt hi hneg E
      go_wp2
      clear p1 n1 cI
      go_loopw [5] (fun v5 wz => ∃ j : Nat, j ≤ i ∧ v5 = .int .i64 (j : Int) ∧ Aside0 (rkIn p x (i - j) j = B) ∧ Aside0 (PolL wz g p) ∧ Aside0 (Below w.heap.size w wz)) (fun v5 _ => i - (intOf v5).toNat)
      case atStart => exact ⟨0, by omega, rfl, hB, HP, HB⟩
      case round =>
        clear hB HP HB
        obtain ⟨j, hj, rfl, E, HP, HB⟩ := hrel
        by_cases hlt : j < i
        case neg =>
          obtain rfl : j = i := by omega
          have hB := E.out
          rw [Nat.sub_self] at hB
          obtain rfl : false = B := hB
          have F := hE.out
          rw [if_neg (by decide)] at F
          replace F := Aside0.mk F
          have p1 : decide ((j : Int) < (j : Int)) = false := decide_eq_false (by omega)
          have p2 : decide (j < j) = false := decide_eq_false (by omega)
          have hadd : IntKind.i64.wrap ((j : Int) + 1) = (j : Int) + 1 := by rw [IntKind.wrap_i64]; omega
          clear hlt hj E hE
          go_wp2
          exact ⟨⟨j + 1, by have := IH.out; omega, by rfl, ⟨by rw [show 7 - (j + 1) = 6 - j by omega]; exact F.out⟩, HP, HB⟩, by simp [intOf]; have := IH.out; omega⟩
        have p1 : decide ((j : Int) < (i : Int)) = true := decide_eq_true (by omega)
        have p2 : decide (j < i) = true := decide_eq_true hlt
        have p4 : (j : Int) < 7 := by have := IH.out; omega
        have p5 : (0 : Int) ≤ (j : Int) := by omega
        have cI := HP.out.at i IH.out
        rw [hx.out] at cI
        have cJ := HP.out.at j (by have := IH.out; omega)
        have hE2 := E.out
        rw [show i - j = (i - j - 1) + 1 by omega, rkIn_succ] at hE2
        have hadd : IntKind.i64.wrap ((j : Int) + 1) = (j : Int) + 1 := by rw [IntKind.wrap_i64]; omega
        obtain ⟨v, hv⟩ : ∃ v, rkAt p j = v := ⟨_, rfl⟩
        rw [hv] at hE2 cJ
        replace hv := Aside0.mk hv
        have IJ := Aside0.mk hlt
        by_cases hq : 0 < x ∧ v = x
        case pos =>
          rw [if_pos hq] at hE2
          subst hE2
          have F := hE.out
          rw [if_pos rfl] at F
          subst F
          obtain ⟨hq1, hq2⟩ := hq
          have r1 : decide (0 < x) = true := decide_eq_true hq1
          have r2 : (v == x) = true := beq_iff_eq.2 hq2
          clear hlt hj E hE hq1 hq2
          go_wp2
          go_quiet (fail)
          go_wp2
          go_ret
          exact ⟨rfl, by repeat (first | exact HB.out | apply pw_below_drewN | apply below_drew1)⟩
        rw [if_neg hq] at hE2
        replace hE2 := Aside0.mk hE2
        by_cases hq1 : 0 < x
        · have r1 : decide (0 < x) = true := decide_eq_true hq1
          have hq2 : v ≠ x := fun q => hq ⟨hq1, q⟩
          have r2 : (v == x) = false := beq_eq_false_iff_ne.2 hq2
          clear hlt hj E hq hq1 hq2
          go_wp2
          go_quiet (fail)
          go_wp2
          exact ⟨⟨j + 1, by have := IJ.out; omega, by rfl, ⟨by rw [show i - (j + 1) = i - j - 1 by omega]; exact hE2.out⟩, ⟨HP.out.next (by repeat (first | exact Below.refl _ _ | apply pw_below_drewN | apply below_drew1))⟩, ⟨by repeat (first | exact HB.out | apply pw_below_drewN | apply below_drew1)⟩⟩, by simp [intOf]; have := IJ.out; omega⟩
        · have r1 : decide (0 < x) = false := decide_eq_false hq1
          clear hlt hj E hq hq1
          go_wp2
          go_quiet (fail)
          go_wp2
          exact ⟨⟨j + 1, by have := IJ.out; omega, by rfl, ⟨by rw [show i - (j + 1) = i - j - 1 by omega]; exact hE2.out⟩, ⟨HP.out.next (by repeat (first | exact Below.refl _ _ | apply pw_below_drewN | apply below_drew1))⟩, ⟨by repeat (first | exact HB.out | apply pw_below_drewN | apply below_drew1)⟩⟩, by simp [intOf]; have := IJ.out; omega⟩

/-! ### pestleref46_Lower: function 62 -/
def pestleref46_Lower.f (a0_0 : Int) (a0_1 : Int) (a0_2 : Int) (a0_3 : Int) (a0_4 : Int) (a1_0 : Int) (a1_1 : Int) (a1_2 : Int) (a1_3 : Int) (a1_4 : Int) : Option (Bool) := if a0_1 < a1_1 then (some true) else (if a0_0 = 5 then (some false) else (if a0_0 = 6 then (some (decide (a0_4 < a1_4))) else (if a0_2 < a1_2 then (some true) else (if a0_3 < a1_3 then (some true) else (some (decide (a0_4 < a1_4)))))))
set_option maxHeartbeats 8000000 in
set_option maxRecDepth 100000 in
theorem pestleref46_Lower.calls (a0_0 : Int) (a0_1 : Int) (a0_2 : Int) (a0_3 : Int) (a0_4 : Int) (a1_0 : Int) (a1_1 : Int) (a1_2 : Int) (a1_3 : Int) (a1_4 : Int) (r : Bool) (w : World) (h : pestleref46_Lower.f a0_0 a0_1 a0_2 a0_3 a0_4 a1_0 a1_1 a1_2 a1_3 a1_4 = some r) :
  Calls Try.prog 62 #[.agg #[.int .i64 a0_0, .int .i64 a0_1, .int .i64 a0_2, .int .i64 a0_3, .int .i64 a0_4], .agg #[.int .i64 a1_0, .int .i64 a1_1, .int .i64 a1_2, .int .i64 a1_3, .int .i64 a1_4]] w fun e w' => e = .returned (.bool r) ∧ Below w.heap.size w w' := by
 have hu23 := Try.underlying23
 have HB := Aside0.mk (Below.refl w.heap.size w)
 have H : (if a0_1 < a1_1 then (some true) else (if a0_0 = 5 then (some false) else (if a0_0 = 6 then (some (decide (a0_4 < a1_4))) else (if a0_2 < a1_2 then (some true) else (if a0_3 < a1_3 then (some true) else (some (decide (a0_4 < a1_4)))))))) = some r := h
 clear h
 by_cases c3 : a0_1 < a1_1
 ·rw [if_pos c3] at H
  have c3b0 : decide (a0_1 < a1_1) = true := decide_eq_true c3
  clear c3
  obtain rfl := Option.some.inj H
  go_enter Try.func62, Try.ntmps62
  go_wp2_with (first | ((with_reducible refine gate_dst (N := 2) rfl ?_); refine box_event ?hg (N := 2) ?hd (cs := #[.int .i64 a0_0, .int .i64 a0_1, .int .i64 a0_2, .int .i64 a0_3, .int .i64 a0_4]) (t := 23) ?hr ?_; (case hd => rfl); (case hg => rfl); (case hr => first | (go_simp; done) | (go_simp; rfl)); intro gb172 hg w4 hbox hb; have n0_ := Aside0.mk (below_step (by repeat (first | (with_reducible first | exact HB.out | apply below_alloc | apply pw_below_drewN | apply below_drew1) | exact HB.out)) hb); have n1_ := Aside0.mk (hbox); have n2_ := Aside0.mk ((by rw [hg]; exact (below_size (by repeat (first | (with_reducible first | exact HB.out | apply below_alloc | apply pw_below_drewN | apply below_drew1) | exact HB.out))) : w.heap.size ≤ gb172)); have n3_ := Aside0.mk ((by rw [hg]; exact (below_size (by repeat (first | (with_reducible first | exact HB.out | apply below_alloc | apply pw_below_drewN | apply below_drew1) | exact HB.out))) : w.heap.size ≤ gb172)); clear HB; have HB := n0_; have BK172 := n1_; have GW172 := n2_; have GE172 := n3_; clear n0_ n1_ n2_ n3_; clear hb hbox hg) | ((with_reducible refine gate_dst (N := 3) rfl ?_); refine box_event ?hg (N := 3) ?hd (cs := #[.int .i64 a1_0, .int .i64 a1_1, .int .i64 a1_2, .int .i64 a1_3, .int .i64 a1_4]) (t := 23) ?hr ?_; (case hd => rfl); (case hg => rfl); (case hr => first | (go_simp; done) | (go_simp; rfl)); intro gb173 hg w5 hbox hb; have n0_ := Aside0.mk (blk_below (g := gb172) (o := .cells #[.int .i64 a0_0, .int .i64 a0_1, .int .i64 a0_2, .int .i64 a0_3, .int .i64 a0_4] 23 (0, 0)) (by (with_reducible repeat (first | refine blk_drewN ?_ _ | refine blk_drew ?_ | refine blk_alloc ?_ _)); exact BK172.out) hb); have n1_ := Aside0.mk (below_step (by repeat (first | (with_reducible first | exact HB.out | apply below_alloc | apply pw_below_drewN | apply below_drew1 | refine below_set ?_ GE172.out) | exact HB.out)) hb); have n2_ := Aside0.mk (hbox); have n3_ := Aside0.mk ((by rw [hg]; exact (below_size (by repeat (first | (with_reducible first | exact HB.out | apply below_alloc | apply pw_below_drewN | apply below_drew1 | refine below_set ?_ GE172.out) | exact HB.out))) : w.heap.size ≤ gb173)); have n4_ := Aside0.mk ((by rw [hg]; exact (below_size (by repeat (first | (with_reducible first | exact HB.out | apply below_alloc | apply pw_below_drewN | apply below_drew1 | refine below_set ?_ GE172.out) | exact HB.out))) : w.heap.size ≤ gb173)); have n5_ := Aside0.mk ((by rw [hg]; exact Nat.ne_of_lt (blk_lt (g := gb172) (o := .cells #[.int .i64 a0_0, .int .i64 a0_1, .int .i64 a0_2, .int .i64 a0_3, .int .i64 a0_4] 23 (0, 0)) (by (with_reducible repeat (first | refine blk_drewN ?_ _ | refine blk_drew ?_ | refine blk_alloc ?_ _)); exact BK172.out)) : gb172 ≠ gb173)); have n6_ := Aside0.mk ((by rw [hg]; exact Nat.ne_of_gt (blk_lt (g := gb172) (o := .cells #[.int .i64 a0_0, .int .i64 a0_1, .int .i64 a0_2, .int .i64 a0_3, .int .i64 a0_4] 23 (0, 0)) (by (with_reducible repeat (first | refine blk_drewN ?_ _ | refine blk_drew ?_ | refine blk_alloc ?_ _)); exact BK172.out)) : gb173 ≠ gb172)); clear BK172; clear HB; have BK172 := n0_; have HB := n1_; have BK173 := n2_; have GW173 := n3_; have GE173 := n4_; have NB172_173 := n5_; have NB173_172 := n6_; clear n0_ n1_ n2_ n3_ n4_ n5_ n6_; clear hb hbox hg; have hnb6 := NB172_173.out; have hnc6 := NB173_172.out; have hcz7_0 : w5.cell? ⟨gb172, 0, none⟩ = some (.int .i64 a0_0) := (blk_cell BK172.out 0).trans rfl; have hcz7_1 : w5.cell? ⟨gb172, 1, none⟩ = some (.int .i64 a0_1) := (blk_cell BK172.out 1).trans rfl; have hcz7_2 : w5.cell? ⟨gb172, 2, none⟩ = some (.int .i64 a0_2) := (blk_cell BK172.out 2).trans rfl; have hcz7_3 : w5.cell? ⟨gb172, 3, none⟩ = some (.int .i64 a0_3) := (blk_cell BK172.out 3).trans rfl; have hcz7_4 : w5.cell? ⟨gb172, 4, none⟩ = some (.int .i64 a0_4) := (blk_cell BK172.out 4).trans rfl; have hfz7_0 := blk_frozen BK172.out 0; have hfz7_1 := blk_frozen BK172.out 1; have hfz7_2 := blk_frozen BK172.out 2; have hfz7_3 := blk_frozen BK172.out 3; have hfz7_4 := blk_frozen BK172.out 4; have hcz8_0 : w5.cell? ⟨gb173, 0, none⟩ = some (.int .i64 a1_0) := (blk_cell BK173.out 0).trans rfl; have hcz8_1 : w5.cell? ⟨gb173, 1, none⟩ = some (.int .i64 a1_1) := (blk_cell BK173.out 1).trans rfl; have hcz8_2 : w5.cell? ⟨gb173, 2, none⟩ = some (.int .i64 a1_2) := (blk_cell BK173.out 2).trans rfl; have hcz8_3 : w5.cell? ⟨gb173, 3, none⟩ = some (.int .i64 a1_3) := (blk_cell BK173.out 3).trans rfl; have hcz8_4 : w5.cell? ⟨gb173, 4, none⟩ = some (.int .i64 a1_4) := (blk_cell BK173.out 4).trans rfl; have hfz8_0 := blk_frozen BK173.out 0; have hfz8_1 := blk_frozen BK173.out 1; have hfz8_2 := blk_frozen BK173.out 2; have hfz8_3 := blk_frozen BK173.out 3; have hfz8_4 := blk_frozen BK173.out 4))
  go_ret
  exact ⟨by first | rfl | (simp [errW_none, errW_some] <;> rfl) | (simp [*, errW_none, errW_some] <;> rfl), by repeat (first | (with_reducible first | exact HB.out | apply below_alloc | apply pw_below_drewN | apply below_drew1 | refine below_set ?_ GE172.out | refine below_set ?_ GE173.out) | exact HB.out)⟩
 ·rw [if_neg c3] at H
  have c3b0 : decide (a0_1 < a1_1) = false := decide_eq_false c3
  clear c3
  by_cases c9 : a0_0 = 5
  ·rw [if_pos c9] at H
   have c9b0 : (a0_0 == 5) = true := beq_iff_eq.mpr c9
   have c9b1 : (a0_0 != 5) = false := bne_eq_false_iff_eq.mpr c9
   clear c9
   obtain rfl := Option.some.inj H
   go_enter Try.func62, Try.ntmps62
   go_wp2_with (first | ((with_reducible refine gate_dst (N := 2) rfl ?_); refine box_event ?hg (N := 2) ?hd (cs := #[.int .i64 a0_0, .int .i64 a0_1, .int .i64 a0_2, .int .i64 a0_3, .int .i64 a0_4]) (t := 23) ?hr ?_; (case hd => rfl); (case hg => rfl); (case hr => first | (go_simp; done) | (go_simp; rfl)); intro gb172 hg w10 hbox hb; have n0_ := Aside0.mk (below_step (by repeat (first | (with_reducible first | exact HB.out | apply below_alloc | apply pw_below_drewN | apply below_drew1) | exact HB.out)) hb); have n1_ := Aside0.mk (hbox); have n2_ := Aside0.mk ((by rw [hg]; exact (below_size (by repeat (first | (with_reducible first | exact HB.out | apply below_alloc | apply pw_below_drewN | apply below_drew1) | exact HB.out))) : w.heap.size ≤ gb172)); have n3_ := Aside0.mk ((by rw [hg]; exact (below_size (by repeat (first | (with_reducible first | exact HB.out | apply below_alloc | apply pw_below_drewN | apply below_drew1) | exact HB.out))) : w.heap.size ≤ gb172)); clear HB; have HB := n0_; have BK172 := n1_; have GW172 := n2_; have GE172 := n3_; clear n0_ n1_ n2_ n3_; clear hb hbox hg) | ((with_reducible refine gate_dst (N := 3) rfl ?_); refine box_event ?hg (N := 3) ?hd (cs := #[.int .i64 a1_0, .int .i64 a1_1, .int .i64 a1_2, .int .i64 a1_3, .int .i64 a1_4]) (t := 23) ?hr ?_; (case hd => rfl); (case hg => rfl); (case hr => first | (go_simp; done) | (go_simp; rfl)); intro gb173 hg w11 hbox hb; have n0_ := Aside0.mk (blk_below (g := gb172) (o := .cells #[.int .i64 a0_0, .int .i64 a0_1, .int .i64 a0_2, .int .i64 a0_3, .int .i64 a0_4] 23 (0, 0)) (by (with_reducible repeat (first | refine blk_drewN ?_ _ | refine blk_drew ?_ | refine blk_alloc ?_ _)); exact BK172.out) hb); have n1_ := Aside0.mk (below_step (by repeat (first | (with_reducible first | exact HB.out | apply below_alloc | apply pw_below_drewN | apply below_drew1 | refine below_set ?_ GE172.out) | exact HB.out)) hb); have n2_ := Aside0.mk (hbox); have n3_ := Aside0.mk ((by rw [hg]; exact (below_size (by repeat (first | (with_reducible first | exact HB.out | apply below_alloc | apply pw_below_drewN | apply below_drew1 | refine below_set ?_ GE172.out) | exact HB.out))) : w.heap.size ≤ gb173)); have n4_ := Aside0.mk ((by rw [hg]; exact (below_size (by repeat (first | (with_reducible first | exact HB.out | apply below_alloc | apply pw_below_drewN | apply below_drew1 | refine below_set ?_ GE172.out) | exact HB.out))) : w.heap.size ≤ gb173)); have n5_ := Aside0.mk ((by rw [hg]; exact Nat.ne_of_lt (blk_lt (g := gb172) (o := .cells #[.int .i64 a0_0, .int .i64 a0_1, .int .i64 a0_2, .int .i64 a0_3, .int .i64 a0_4] 23 (0, 0)) (by (with_reducible repeat (first | refine blk_drewN ?_ _ | refine blk_drew ?_ | refine blk_alloc ?_ _)); exact BK172.out)) : gb172 ≠ gb173)); have n6_ := Aside0.mk ((by rw [hg]; exact Nat.ne_of_gt (blk_lt (g := gb172) (o := .cells #[.int .i64 a0_0, .int .i64 a0_1, .int .i64 a0_2, .int .i64 a0_3, .int .i64 a0_4] 23 (0, 0)) (by (with_reducible repeat (first | refine blk_drewN ?_ _ | refine blk_drew ?_ | refine blk_alloc ?_ _)); exact BK172.out)) : gb173 ≠ gb172)); clear BK172; clear HB; have BK172 := n0_; have HB := n1_; have BK173 := n2_; have GW173 := n3_; have GE173 := n4_; have NB172_173 := n5_; have NB173_172 := n6_; clear n0_ n1_ n2_ n3_ n4_ n5_ n6_; clear hb hbox hg; have hnb12 := NB172_173.out; have hnc12 := NB173_172.out; have hcz13_0 : w11.cell? ⟨gb172, 0, none⟩ = some (.int .i64 a0_0) := (blk_cell BK172.out 0).trans rfl; have hcz13_1 : w11.cell? ⟨gb172, 1, none⟩ = some (.int .i64 a0_1) := (blk_cell BK172.out 1).trans rfl; have hcz13_2 : w11.cell? ⟨gb172, 2, none⟩ = some (.int .i64 a0_2) := (blk_cell BK172.out 2).trans rfl; have hcz13_3 : w11.cell? ⟨gb172, 3, none⟩ = some (.int .i64 a0_3) := (blk_cell BK172.out 3).trans rfl; have hcz13_4 : w11.cell? ⟨gb172, 4, none⟩ = some (.int .i64 a0_4) := (blk_cell BK172.out 4).trans rfl; have hfz13_0 := blk_frozen BK172.out 0; have hfz13_1 := blk_frozen BK172.out 1; have hfz13_2 := blk_frozen BK172.out 2; have hfz13_3 := blk_frozen BK172.out 3; have hfz13_4 := blk_frozen BK172.out 4; have hcz14_0 : w11.cell? ⟨gb173, 0, none⟩ = some (.int .i64 a1_0) := (blk_cell BK173.out 0).trans rfl; have hcz14_1 : w11.cell? ⟨gb173, 1, none⟩ = some (.int .i64 a1_1) := (blk_cell BK173.out 1).trans rfl; have hcz14_2 : w11.cell? ⟨gb173, 2, none⟩ = some (.int .i64 a1_2) := (blk_cell BK173.out 2).trans rfl; have hcz14_3 : w11.cell? ⟨gb173, 3, none⟩ = some (.int .i64 a1_3) := (blk_cell BK173.out 3).trans rfl; have hcz14_4 : w11.cell? ⟨gb173, 4, none⟩ = some (.int .i64 a1_4) := (blk_cell BK173.out 4).trans rfl; have hfz14_0 := blk_frozen BK173.out 0; have hfz14_1 := blk_frozen BK173.out 1; have hfz14_2 := blk_frozen BK173.out 2; have hfz14_3 := blk_frozen BK173.out 3; have hfz14_4 := blk_frozen BK173.out 4))
   go_ret
   exact ⟨by first | rfl | (simp [errW_none, errW_some] <;> rfl) | (simp [*, errW_none, errW_some] <;> rfl), by repeat (first | (with_reducible first | exact HB.out | apply below_alloc | apply pw_below_drewN | apply below_drew1 | refine below_set ?_ GE172.out | refine below_set ?_ GE173.out) | exact HB.out)⟩
  ·rw [if_neg c9] at H
   have c9b0 : (a0_0 == 5) = false := beq_eq_false_iff_ne.mpr c9
   have c9b1 : (a0_0 != 5) = true := bne_iff_ne.mpr c9
   by_cases c15 : a0_0 = 6
   ·rw [if_pos c15] at H
    have c15b0 : (a0_0 == 6) = true := beq_iff_eq.mpr c15
    have c15b1 : (a0_0 != 6) = false := bne_eq_false_iff_eq.mpr c15
    clear c15
    obtain rfl := Option.some.inj H
    go_enter Try.func62, Try.ntmps62
    go_wp2_with (first | ((with_reducible refine gate_dst (N := 2) rfl ?_); refine box_event ?hg (N := 2) ?hd (cs := #[.int .i64 a0_0, .int .i64 a0_1, .int .i64 a0_2, .int .i64 a0_3, .int .i64 a0_4]) (t := 23) ?hr ?_; (case hd => rfl); (case hg => rfl); (case hr => first | (go_simp; done) | (go_simp; rfl)); intro gb172 hg w16 hbox hb; have n0_ := Aside0.mk (below_step (by repeat (first | (with_reducible first | exact HB.out | apply below_alloc | apply pw_below_drewN | apply below_drew1) | exact HB.out)) hb); have n1_ := Aside0.mk (hbox); have n2_ := Aside0.mk ((by rw [hg]; exact (below_size (by repeat (first | (with_reducible first | exact HB.out | apply below_alloc | apply pw_below_drewN | apply below_drew1) | exact HB.out))) : w.heap.size ≤ gb172)); have n3_ := Aside0.mk ((by rw [hg]; exact (below_size (by repeat (first | (with_reducible first | exact HB.out | apply below_alloc | apply pw_below_drewN | apply below_drew1) | exact HB.out))) : w.heap.size ≤ gb172)); clear HB; have HB := n0_; have BK172 := n1_; have GW172 := n2_; have GE172 := n3_; clear n0_ n1_ n2_ n3_; clear hb hbox hg) | ((with_reducible refine gate_dst (N := 3) rfl ?_); refine box_event ?hg (N := 3) ?hd (cs := #[.int .i64 a1_0, .int .i64 a1_1, .int .i64 a1_2, .int .i64 a1_3, .int .i64 a1_4]) (t := 23) ?hr ?_; (case hd => rfl); (case hg => rfl); (case hr => first | (go_simp; done) | (go_simp; rfl)); intro gb173 hg w17 hbox hb; have n0_ := Aside0.mk (blk_below (g := gb172) (o := .cells #[.int .i64 a0_0, .int .i64 a0_1, .int .i64 a0_2, .int .i64 a0_3, .int .i64 a0_4] 23 (0, 0)) (by (with_reducible repeat (first | refine blk_drewN ?_ _ | refine blk_drew ?_ | refine blk_alloc ?_ _)); exact BK172.out) hb); have n1_ := Aside0.mk (below_step (by repeat (first | (with_reducible first | exact HB.out | apply below_alloc | apply pw_below_drewN | apply below_drew1 | refine below_set ?_ GE172.out) | exact HB.out)) hb); have n2_ := Aside0.mk (hbox); have n3_ := Aside0.mk ((by rw [hg]; exact (below_size (by repeat (first | (with_reducible first | exact HB.out | apply below_alloc | apply pw_below_drewN | apply below_drew1 | refine below_set ?_ GE172.out) | exact HB.out))) : w.heap.size ≤ gb173)); have n4_ := Aside0.mk ((by rw [hg]; exact (below_size (by repeat (first | (with_reducible first | exact HB.out | apply below_alloc | apply pw_below_drewN | apply below_drew1 | refine below_set ?_ GE172.out) | exact HB.out))) : w.heap.size ≤ gb173)); have n5_ := Aside0.mk ((by rw [hg]; exact Nat.ne_of_lt (blk_lt (g := gb172) (o := .cells #[.int .i64 a0_0, .int .i64 a0_1, .int .i64 a0_2, .int .i64 a0_3, .int .i64 a0_4] 23 (0, 0)) (by (with_reducible repeat (first | refine blk_drewN ?_ _ | refine blk_drew ?_ | refine blk_alloc ?_ _)); exact BK172.out)) : gb172 ≠ gb173)); have n6_ := Aside0.mk ((by rw [hg]; exact Nat.ne_of_gt (blk_lt (g := gb172) (o := .cells #[.int .i64 a0_0, .int .i64 a0_1, .int .i64 a0_2, .int .i64 a0_3, .int .i64 a0_4] 23 (0, 0)) (by (with_reducible repeat (first | refine blk_drewN ?_ _ | refine blk_drew ?_ | refine blk_alloc ?_ _)); exact BK172.out)) : gb173 ≠ gb172)); clear BK172; clear HB; have BK172 := n0_; have HB := n1_; have BK173 := n2_; have GW173 := n3_; have GE173 := n4_; have NB172_173 := n5_; have NB173_172 := n6_; clear n0_ n1_ n2_ n3_ n4_ n5_ n6_; clear hb hbox hg; have hnb18 := NB172_173.out; have hnc18 := NB173_172.out; have hcz19_0 : w17.cell? ⟨gb172, 0, none⟩ = some (.int .i64 a0_0) := (blk_cell BK172.out 0).trans rfl; have hcz19_1 : w17.cell? ⟨gb172, 1, none⟩ = some (.int .i64 a0_1) := (blk_cell BK172.out 1).trans rfl; have hcz19_2 : w17.cell? ⟨gb172, 2, none⟩ = some (.int .i64 a0_2) := (blk_cell BK172.out 2).trans rfl; have hcz19_3 : w17.cell? ⟨gb172, 3, none⟩ = some (.int .i64 a0_3) := (blk_cell BK172.out 3).trans rfl; have hcz19_4 : w17.cell? ⟨gb172, 4, none⟩ = some (.int .i64 a0_4) := (blk_cell BK172.out 4).trans rfl; have hfz19_0 := blk_frozen BK172.out 0; have hfz19_1 := blk_frozen BK172.out 1; have hfz19_2 := blk_frozen BK172.out 2; have hfz19_3 := blk_frozen BK172.out 3; have hfz19_4 := blk_frozen BK172.out 4; have hcz20_0 : w17.cell? ⟨gb173, 0, none⟩ = some (.int .i64 a1_0) := (blk_cell BK173.out 0).trans rfl; have hcz20_1 : w17.cell? ⟨gb173, 1, none⟩ = some (.int .i64 a1_1) := (blk_cell BK173.out 1).trans rfl; have hcz20_2 : w17.cell? ⟨gb173, 2, none⟩ = some (.int .i64 a1_2) := (blk_cell BK173.out 2).trans rfl; have hcz20_3 : w17.cell? ⟨gb173, 3, none⟩ = some (.int .i64 a1_3) := (blk_cell BK173.out 3).trans rfl; have hcz20_4 : w17.cell? ⟨gb173, 4, none⟩ = some (.int .i64 a1_4) := (blk_cell BK173.out 4).trans rfl; have hfz20_0 := blk_frozen BK173.out 0; have hfz20_1 := blk_frozen BK173.out 1; have hfz20_2 := blk_frozen BK173.out 2; have hfz20_3 := blk_frozen BK173.out 3; have hfz20_4 := blk_frozen BK173.out 4))
    go_ret
    exact ⟨by first | rfl | (simp [errW_none, errW_some] <;> rfl) | (simp [*, errW_none, errW_some] <;> rfl), by repeat (first | (with_reducible first | exact HB.out | apply below_alloc | apply pw_below_drewN | apply below_drew1 | refine below_set ?_ GE172.out | refine below_set ?_ GE173.out) | exact HB.out)⟩
   ·rw [if_neg c15] at H
    have c15b0 : (a0_0 == 6) = false := beq_eq_false_iff_ne.mpr c15
    have c15b1 : (a0_0 != 6) = true := bne_iff_ne.mpr c15
    by_cases c21 : a0_2 < a1_2
    ·rw [if_pos c21] at H
     have c21b0 : decide (a0_2 < a1_2) = true := decide_eq_true c21
     clear c21
     obtain rfl := Option.some.inj H
     go_enter Try.func62, Try.ntmps62
     go_wp2_with (first | ((with_reducible refine gate_dst (N := 2) rfl ?_); refine box_event ?hg (N := 2) ?hd (cs := #[.int .i64 a0_0, .int .i64 a0_1, .int .i64 a0_2, .int .i64 a0_3, .int .i64 a0_4]) (t := 23) ?hr ?_; (case hd => rfl); (case hg => rfl); (case hr => first | (go_simp; done) | (go_simp; rfl)); intro gb172 hg w22 hbox hb; have n0_ := Aside0.mk (below_step (by repeat (first | (with_reducible first | exact HB.out | apply below_alloc | apply pw_below_drewN | apply below_drew1) | exact HB.out)) hb); have n1_ := Aside0.mk (hbox); have n2_ := Aside0.mk ((by rw [hg]; exact (below_size (by repeat (first | (with_reducible first | exact HB.out | apply below_alloc | apply pw_below_drewN | apply below_drew1) | exact HB.out))) : w.heap.size ≤ gb172)); have n3_ := Aside0.mk ((by rw [hg]; exact (below_size (by repeat (first | (with_reducible first | exact HB.out | apply below_alloc | apply pw_below_drewN | apply below_drew1) | exact HB.out))) : w.heap.size ≤ gb172)); clear HB; have HB := n0_; have BK172 := n1_; have GW172 := n2_; have GE172 := n3_; clear n0_ n1_ n2_ n3_; clear hb hbox hg) | ((with_reducible refine gate_dst (N := 3) rfl ?_); refine box_event ?hg (N := 3) ?hd (cs := #[.int .i64 a1_0, .int .i64 a1_1, .int .i64 a1_2, .int .i64 a1_3, .int .i64 a1_4]) (t := 23) ?hr ?_; (case hd => rfl); (case hg => rfl); (case hr => first | (go_simp; done) | (go_simp; rfl)); intro gb173 hg w23 hbox hb; have n0_ := Aside0.mk (blk_below (g := gb172) (o := .cells #[.int .i64 a0_0, .int .i64 a0_1, .int .i64 a0_2, .int .i64 a0_3, .int .i64 a0_4] 23 (0, 0)) (by (with_reducible repeat (first | refine blk_drewN ?_ _ | refine blk_drew ?_ | refine blk_alloc ?_ _)); exact BK172.out) hb); have n1_ := Aside0.mk (below_step (by repeat (first | (with_reducible first | exact HB.out | apply below_alloc | apply pw_below_drewN | apply below_drew1 | refine below_set ?_ GE172.out) | exact HB.out)) hb); have n2_ := Aside0.mk (hbox); have n3_ := Aside0.mk ((by rw [hg]; exact (below_size (by repeat (first | (with_reducible first | exact HB.out | apply below_alloc | apply pw_below_drewN | apply below_drew1 | refine below_set ?_ GE172.out) | exact HB.out))) : w.heap.size ≤ gb173)); have n4_ := Aside0.mk ((by rw [hg]; exact (below_size (by repeat (first | (with_reducible first | exact HB.out | apply below_alloc | apply pw_below_drewN | apply below_drew1 | refine below_set ?_ GE172.out) | exact HB.out))) : w.heap.size ≤ gb173)); have n5_ := Aside0.mk ((by rw [hg]; exact Nat.ne_of_lt (blk_lt (g := gb172) (o := .cells #[.int .i64 a0_0, .int .i64 a0_1, .int .i64 a0_2, .int .i64 a0_3, .int .i64 a0_4] 23 (0, 0)) (by (with_reducible repeat (first | refine blk_drewN ?_ _ | refine blk_drew ?_ | refine blk_alloc ?_ _)); exact BK172.out)) : gb172 ≠ gb173)); have n6_ := Aside0.mk ((by rw [hg]; exact Nat.ne_of_gt (blk_lt (g := gb172) (o := .cells #[.int .i64 a0_0, .int .i64 a0_1, .int .i64 a0_2, .int .i64 a0_3, .int .i64 a0_4] 23 (0, 0)) (by (with_reducible repeat (first | refine blk_drewN ?_ _ | refine blk_drew ?_ | refine blk_alloc ?_ _)); exact BK172.out)) : gb173 ≠ gb172)); clear BK172; clear HB; have BK172 := n0_; have HB := n1_; have BK173 := n2_; have GW173 := n3_; have GE173 := n4_; have NB172_173 := n5_; have NB173_172 := n6_; clear n0_ n1_ n2_ n3_ n4_ n5_ n6_; clear hb hbox hg; have hnb24 := NB172_173.out; have hnc24 := NB173_172.out; have hcz25_0 : w23.cell? ⟨gb172, 0, none⟩ = some (.int .i64 a0_0) := (blk_cell BK172.out 0).trans rfl; have hcz25_1 : w23.cell? ⟨gb172, 1, none⟩ = some (.int .i64 a0_1) := (blk_cell BK172.out 1).trans rfl; have hcz25_2 : w23.cell? ⟨gb172, 2, none⟩ = some (.int .i64 a0_2) := (blk_cell BK172.out 2).trans rfl; have hcz25_3 : w23.cell? ⟨gb172, 3, none⟩ = some (.int .i64 a0_3) := (blk_cell BK172.out 3).trans rfl; have hcz25_4 : w23.cell? ⟨gb172, 4, none⟩ = some (.int .i64 a0_4) := (blk_cell BK172.out 4).trans rfl; have hfz25_0 := blk_frozen BK172.out 0; have hfz25_1 := blk_frozen BK172.out 1; have hfz25_2 := blk_frozen BK172.out 2; have hfz25_3 := blk_frozen BK172.out 3; have hfz25_4 := blk_frozen BK172.out 4; have hcz26_0 : w23.cell? ⟨gb173, 0, none⟩ = some (.int .i64 a1_0) := (blk_cell BK173.out 0).trans rfl; have hcz26_1 : w23.cell? ⟨gb173, 1, none⟩ = some (.int .i64 a1_1) := (blk_cell BK173.out 1).trans rfl; have hcz26_2 : w23.cell? ⟨gb173, 2, none⟩ = some (.int .i64 a1_2) := (blk_cell BK173.out 2).trans rfl; have hcz26_3 : w23.cell? ⟨gb173, 3, none⟩ = some (.int .i64 a1_3) := (blk_cell BK173.out 3).trans rfl; have hcz26_4 : w23.cell? ⟨gb173, 4, none⟩ = some (.int .i64 a1_4) := (blk_cell BK173.out 4).trans rfl; have hfz26_0 := blk_frozen BK173.out 0; have hfz26_1 := blk_frozen BK173.out 1; have hfz26_2 := blk_frozen BK173.out 2; have hfz26_3 := blk_frozen BK173.out 3; have hfz26_4 := blk_frozen BK173.out 4))
     go_ret
     exact ⟨by first | rfl | (simp [errW_none, errW_some] <;> rfl) | (simp [*, errW_none, errW_some] <;> rfl), by repeat (first | (with_reducible first | exact HB.out | apply below_alloc | apply pw_below_drewN | apply below_drew1 | refine below_set ?_ GE172.out | refine below_set ?_ GE173.out) | exact HB.out)⟩
    ·rw [if_neg c21] at H
     have c21b0 : decide (a0_2 < a1_2) = false := decide_eq_false c21
     clear c21
     by_cases c27 : a0_3 < a1_3
     ·rw [if_pos c27] at H
      have c27b0 : decide (a0_3 < a1_3) = true := decide_eq_true c27
      clear c27
      obtain rfl := Option.some.inj H
      go_enter Try.func62, Try.ntmps62
      go_wp2_with (first | ((with_reducible refine gate_dst (N := 2) rfl ?_); refine box_event ?hg (N := 2) ?hd (cs := #[.int .i64 a0_0, .int .i64 a0_1, .int .i64 a0_2, .int .i64 a0_3, .int .i64 a0_4]) (t := 23) ?hr ?_; (case hd => rfl); (case hg => rfl); (case hr => first | (go_simp; done) | (go_simp; rfl)); intro gb172 hg w28 hbox hb; have n0_ := Aside0.mk (below_step (by repeat (first | (with_reducible first | exact HB.out | apply below_alloc | apply pw_below_drewN | apply below_drew1) | exact HB.out)) hb); have n1_ := Aside0.mk (hbox); have n2_ := Aside0.mk ((by rw [hg]; exact (below_size (by repeat (first | (with_reducible first | exact HB.out | apply below_alloc | apply pw_below_drewN | apply below_drew1) | exact HB.out))) : w.heap.size ≤ gb172)); have n3_ := Aside0.mk ((by rw [hg]; exact (below_size (by repeat (first | (with_reducible first | exact HB.out | apply below_alloc | apply pw_below_drewN | apply below_drew1) | exact HB.out))) : w.heap.size ≤ gb172)); clear HB; have HB := n0_; have BK172 := n1_; have GW172 := n2_; have GE172 := n3_; clear n0_ n1_ n2_ n3_; clear hb hbox hg) | ((with_reducible refine gate_dst (N := 3) rfl ?_); refine box_event ?hg (N := 3) ?hd (cs := #[.int .i64 a1_0, .int .i64 a1_1, .int .i64 a1_2, .int .i64 a1_3, .int .i64 a1_4]) (t := 23) ?hr ?_; (case hd => rfl); (case hg => rfl); (case hr => first | (go_simp; done) | (go_simp; rfl)); intro gb173 hg w29 hbox hb; have n0_ := Aside0.mk (blk_below (g := gb172) (o := .cells #[.int .i64 a0_0, .int .i64 a0_1, .int .i64 a0_2, .int .i64 a0_3, .int .i64 a0_4] 23 (0, 0)) (by (with_reducible repeat (first | refine blk_drewN ?_ _ | refine blk_drew ?_ | refine blk_alloc ?_ _)); exact BK172.out) hb); have n1_ := Aside0.mk (below_step (by repeat (first | (with_reducible first | exact HB.out | apply below_alloc | apply pw_below_drewN | apply below_drew1 | refine below_set ?_ GE172.out) | exact HB.out)) hb); have n2_ := Aside0.mk (hbox); have n3_ := Aside0.mk ((by rw [hg]; exact (below_size (by repeat (first | (with_reducible first | exact HB.out | apply below_alloc | apply pw_below_drewN | apply below_drew1 | refine below_set ?_ GE172.out) | exact HB.out))) : w.heap.size ≤ gb173)); have n4_ := Aside0.mk ((by rw [hg]; exact (below_size (by repeat (first | (with_reducible first | exact HB.out | apply below_alloc | apply pw_below_drewN | apply below_drew1 | refine below_set ?_ GE172.out) | exact HB.out))) : w.heap.size ≤ gb173)); have n5_ := Aside0.mk ((by rw [hg]; exact Nat.ne_of_lt (blk_lt (g := gb172) (o := .cells #[.int .i64 a0_0, .int .i64 a0_1, .int .i64 a0_2, .int .i64 a0_3, .int .i64 a0_4] 23 (0, 0)) (by (with_reducible repeat (first | refine blk_drewN ?_ _ | refine blk_drew ?_ | refine blk_alloc ?_ _)); exact BK172.out)) : gb172 ≠ gb173)); have n6_ := Aside0.mk ((by rw [hg]; exact Nat.ne_of_gt (blk_lt (g := gb172) (o := .cells #[.int .i64 a0_0, .int .i64 a0_1, .int .i64 a0_2, .int .i64 a0_3, .int .i64 a0_4] 23 (0, 0)) (by (with_reducible repeat (first | refine blk_drewN ?_ _ | refine blk_drew ?_ | refine blk_alloc ?_ _)); exact BK172.out)) : gb173 ≠ gb172)); clear BK172; clear HB; have BK172 := n0_; have HB := n1_; have BK173 := n2_; have GW173 := n3_; have GE173 := n4_; have NB172_173 := n5_; have NB173_172 := n6_; clear n0_ n1_ n2_ n3_ n4_ n5_ n6_; clear hb hbox hg; have hnb30 := NB172_173.out; have hnc30 := NB173_172.out; have hcz31_0 : w29.cell? ⟨gb172, 0, none⟩ = some (.int .i64 a0_0) := (blk_cell BK172.out 0).trans rfl; have hcz31_1 : w29.cell? ⟨gb172, 1, none⟩ = some (.int .i64 a0_1) := (blk_cell BK172.out 1).trans rfl; have hcz31_2 : w29.cell? ⟨gb172, 2, none⟩ = some (.int .i64 a0_2) := (blk_cell BK172.out 2).trans rfl; have hcz31_3 : w29.cell? ⟨gb172, 3, none⟩ = some (.int .i64 a0_3) := (blk_cell BK172.out 3).trans rfl; have hcz31_4 : w29.cell? ⟨gb172, 4, none⟩ = some (.int .i64 a0_4) := (blk_cell BK172.out 4).trans rfl; have hfz31_0 := blk_frozen BK172.out 0; have hfz31_1 := blk_frozen BK172.out 1; have hfz31_2 := blk_frozen BK172.out 2; have hfz31_3 := blk_frozen BK172.out 3; have hfz31_4 := blk_frozen BK172.out 4; have hcz32_0 : w29.cell? ⟨gb173, 0, none⟩ = some (.int .i64 a1_0) := (blk_cell BK173.out 0).trans rfl; have hcz32_1 : w29.cell? ⟨gb173, 1, none⟩ = some (.int .i64 a1_1) := (blk_cell BK173.out 1).trans rfl; have hcz32_2 : w29.cell? ⟨gb173, 2, none⟩ = some (.int .i64 a1_2) := (blk_cell BK173.out 2).trans rfl; have hcz32_3 : w29.cell? ⟨gb173, 3, none⟩ = some (.int .i64 a1_3) := (blk_cell BK173.out 3).trans rfl; have hcz32_4 : w29.cell? ⟨gb173, 4, none⟩ = some (.int .i64 a1_4) := (blk_cell BK173.out 4).trans rfl; have hfz32_0 := blk_frozen BK173.out 0; have hfz32_1 := blk_frozen BK173.out 1; have hfz32_2 := blk_frozen BK173.out 2; have hfz32_3 := blk_frozen BK173.out 3; have hfz32_4 := blk_frozen BK173.out 4))
      go_ret
      exact ⟨by first | rfl | (simp [errW_none, errW_some] <;> rfl) | (simp [*, errW_none, errW_some] <;> rfl), by repeat (first | (with_reducible first | exact HB.out | apply below_alloc | apply pw_below_drewN | apply below_drew1 | refine below_set ?_ GE172.out | refine below_set ?_ GE173.out) | exact HB.out)⟩
     ·rw [if_neg c27] at H
      have c27b0 : decide (a0_3 < a1_3) = false := decide_eq_false c27
      clear c27
      obtain rfl := Option.some.inj H
      go_enter Try.func62, Try.ntmps62
      go_wp2_with (first | ((with_reducible refine gate_dst (N := 2) rfl ?_); refine box_event ?hg (N := 2) ?hd (cs := #[.int .i64 a0_0, .int .i64 a0_1, .int .i64 a0_2, .int .i64 a0_3, .int .i64 a0_4]) (t := 23) ?hr ?_; (case hd => rfl); (case hg => rfl); (case hr => first | (go_simp; done) | (go_simp; rfl)); intro gb172 hg w33 hbox hb; have n0_ := Aside0.mk (below_step (by repeat (first | (with_reducible first | exact HB.out | apply below_alloc | apply pw_below_drewN | apply below_drew1) | exact HB.out)) hb); have n1_ := Aside0.mk (hbox); have n2_ := Aside0.mk ((by rw [hg]; exact (below_size (by repeat (first | (with_reducible first | exact HB.out | apply below_alloc | apply pw_below_drewN | apply below_drew1) | exact HB.out))) : w.heap.size ≤ gb172)); have n3_ := Aside0.mk ((by rw [hg]; exact (below_size (by repeat (first | (with_reducible first | exact HB.out | apply below_alloc | apply pw_below_drewN | apply below_drew1) | exact HB.out))) : w.heap.size ≤ gb172)); clear HB; have HB := n0_; have BK172 := n1_; have GW172 := n2_; have GE172 := n3_; clear n0_ n1_ n2_ n3_; clear hb hbox hg) | ((with_reducible refine gate_dst (N := 3) rfl ?_); refine box_event ?hg (N := 3) ?hd (cs := #[.int .i64 a1_0, .int .i64 a1_1, .int .i64 a1_2, .int .i64 a1_3, .int .i64 a1_4]) (t := 23) ?hr ?_; (case hd => rfl); (case hg => rfl); (case hr => first | (go_simp; done) | (go_simp; rfl)); intro gb173 hg w34 hbox hb; have n0_ := Aside0.mk (blk_below (g := gb172) (o := .cells #[.int .i64 a0_0, .int .i64 a0_1, .int .i64 a0_2, .int .i64 a0_3, .int .i64 a0_4] 23 (0, 0)) (by (with_reducible repeat (first | refine blk_drewN ?_ _ | refine blk_drew ?_ | refine blk_alloc ?_ _)); exact BK172.out) hb); have n1_ := Aside0.mk (below_step (by repeat (first | (with_reducible first | exact HB.out | apply below_alloc | apply pw_below_drewN | apply below_drew1 | refine below_set ?_ GE172.out) | exact HB.out)) hb); have n2_ := Aside0.mk (hbox); have n3_ := Aside0.mk ((by rw [hg]; exact (below_size (by repeat (first | (with_reducible first | exact HB.out | apply below_alloc | apply pw_below_drewN | apply below_drew1 | refine below_set ?_ GE172.out) | exact HB.out))) : w.heap.size ≤ gb173)); have n4_ := Aside0.mk ((by rw [hg]; exact (below_size (by repeat (first | (with_reducible first | exact HB.out | apply below_alloc | apply pw_below_drewN | apply below_drew1 | refine below_set ?_ GE172.out) | exact HB.out))) : w.heap.size ≤ gb173)); have n5_ := Aside0.mk ((by rw [hg]; exact Nat.ne_of_lt (blk_lt (g := gb172) (o := .cells #[.int .i64 a0_0, .int .i64 a0_1, .int .i64 a0_2, .int .i64 a0_3, .int .i64 a0_4] 23 (0, 0)) (by (with_reducible repeat (first | refine blk_drewN ?_ _ | refine blk_drew ?_ | refine blk_alloc ?_ _)); exact BK172.out)) : gb172 ≠ gb173)); have n6_ := Aside0.mk ((by rw [hg]; exact Nat.ne_of_gt (blk_lt (g := gb172) (o := .cells #[.int .i64 a0_0, .int .i64 a0_1, .int .i64 a0_2, .int .i64 a0_3, .int .i64 a0_4] 23 (0, 0)) (by (with_reducible repeat (first | refine blk_drewN ?_ _ | refine blk_drew ?_ | refine blk_alloc ?_ _)); exact BK172.out)) : gb173 ≠ gb172)); clear BK172; clear HB; have BK172 := n0_; have HB := n1_; have BK173 := n2_; have GW173 := n3_; have GE173 := n4_; have NB172_173 := n5_; have NB173_172 := n6_; clear n0_ n1_ n2_ n3_ n4_ n5_ n6_; clear hb hbox hg; have hnb35 := NB172_173.out; have hnc35 := NB173_172.out; have hcz36_0 : w34.cell? ⟨gb172, 0, none⟩ = some (.int .i64 a0_0) := (blk_cell BK172.out 0).trans rfl; have hcz36_1 : w34.cell? ⟨gb172, 1, none⟩ = some (.int .i64 a0_1) := (blk_cell BK172.out 1).trans rfl; have hcz36_2 : w34.cell? ⟨gb172, 2, none⟩ = some (.int .i64 a0_2) := (blk_cell BK172.out 2).trans rfl; have hcz36_3 : w34.cell? ⟨gb172, 3, none⟩ = some (.int .i64 a0_3) := (blk_cell BK172.out 3).trans rfl; have hcz36_4 : w34.cell? ⟨gb172, 4, none⟩ = some (.int .i64 a0_4) := (blk_cell BK172.out 4).trans rfl; have hfz36_0 := blk_frozen BK172.out 0; have hfz36_1 := blk_frozen BK172.out 1; have hfz36_2 := blk_frozen BK172.out 2; have hfz36_3 := blk_frozen BK172.out 3; have hfz36_4 := blk_frozen BK172.out 4; have hcz37_0 : w34.cell? ⟨gb173, 0, none⟩ = some (.int .i64 a1_0) := (blk_cell BK173.out 0).trans rfl; have hcz37_1 : w34.cell? ⟨gb173, 1, none⟩ = some (.int .i64 a1_1) := (blk_cell BK173.out 1).trans rfl; have hcz37_2 : w34.cell? ⟨gb173, 2, none⟩ = some (.int .i64 a1_2) := (blk_cell BK173.out 2).trans rfl; have hcz37_3 : w34.cell? ⟨gb173, 3, none⟩ = some (.int .i64 a1_3) := (blk_cell BK173.out 3).trans rfl; have hcz37_4 : w34.cell? ⟨gb173, 4, none⟩ = some (.int .i64 a1_4) := (blk_cell BK173.out 4).trans rfl; have hfz37_0 := blk_frozen BK173.out 0; have hfz37_1 := blk_frozen BK173.out 1; have hfz37_2 := blk_frozen BK173.out 2; have hfz37_3 := blk_frozen BK173.out 3; have hfz37_4 := blk_frozen BK173.out 4))
      go_ret
      exact ⟨by first | rfl | (simp [errW_none, errW_some] <;> rfl) | (simp [*, errW_none, errW_some] <;> rfl), by repeat (first | (with_reducible first | exact HB.out | apply below_alloc | apply pw_below_drewN | apply below_drew1 | refine below_set ?_ GE172.out | refine below_set ?_ GE173.out) | exact HB.out)⟩

/-! ### pestleref46_Behind: function 20 -/
def pestleref46_Behind.f (p : PV) (q : QV) : Option Bool := if (0 ≤ q.a0 ∧ q.a0 < 7) ∧ 0 ≤ p.a0 ∧ p.a0 < 7 then (if rkAt p q.a0.toNat ≠ rkAt p p.a0.toNat then some (decide (rkAt p q.a0.toNat < rkAt p p.a0.toNat)) else pestleref46_Lower.f q.a0 q.a1 q.a2 q.a3 q.a4 p.a0 p.a1 p.a2 p.a3 p.a4) else none
set_option maxHeartbeats 8000000 in
set_option maxRecDepth 100000 in
theorem pestleref46_Behind.calls (p : PV) (q : QV) (r : Bool) (w : World) (h : pestleref46_Behind.f p q = some r) :
    Calls Try.prog 20 #[.agg #[.int .i64 p.a0, .int .i64 p.a1, .int .i64 p.a2, .int .i64 p.a3, .int .i64 p.a4, .int .i64 p.s, .int .i64 p.r0, .int .i64 p.r1, .int .i64 p.r2, .int .i64 p.r3, .int .i64 p.r4, .int .i64 p.r5, .int .i64 p.r6], .agg #[.int .i64 q.a0, .int .i64 q.a1, .int .i64 q.a2, .int .i64 q.a3, .int .i64 q.a4]] w fun e w' => e = .returned (.bool r) ∧ Below w.heap.size w w' := by
  have HB := Aside0.mk (Below.refl w.heap.size w)
  unfold pestleref46_Behind.f at h
  by_cases hb : (0 ≤ q.a0 ∧ q.a0 < 7) ∧ 0 ≤ p.a0 ∧ p.a0 < 7
  case neg => rw [if_neg hb] at h; cases h
  rw [if_pos hb] at h
  obtain ⟨⟨i0, i1⟩, i2, i3⟩ := hb
  have HNQ := Aside0.mk (show q.a0.toNat < 7 by omega)
  have HNP := Aside0.mk (show p.a0.toNat < 7 by omega)
  obtain ⟨xq, hxq⟩ : ∃ x, rkAt p q.a0.toNat = x := ⟨_, rfl⟩
  obtain ⟨xp, hxp⟩ : ∃ x, rkAt p p.a0.toNat = x := ⟨_, rfl⟩
  rw [hxq, hxp] at h
  replace hxq := Aside0.mk hxq
  replace hxp := Aside0.mk hxp
  by_cases h2 : xq = xp
  case neg =>
    rw [if_pos h2] at h
    obtain rfl := Option.some.inj h
    have l2 : (xq == xp) = false := beq_eq_false_iff_ne.2 h2
    have l3 : (xq != xp) = true := bne_iff_ne.2 h2
    clear h2 h
    go_enter Try.func20, Try.ntmps20
    go_wp2_with (first | ((with_reducible refine gate_dst (N := 2) rfl ?_); refine box_event ?hg (N := 2) ?hd (cs := #[.int .i64 p.a0, .int .i64 p.a1, .int .i64 p.a2, .int .i64 p.a3, .int .i64 p.a4, .int .i64 p.s, .int .i64 p.r0, .int .i64 p.r1, .int .i64 p.r2, .int .i64 p.r3, .int .i64 p.r4, .int .i64 p.r5, .int .i64 p.r6]) (t := 26) ?hr ?_; (case hd => rfl); (case hg => rfl); (case hr => rfl); intro g hg wn hbox hb; have HP := Aside0.mk (show PolL wn g p from hbox); have n0_ := Aside0.mk (below_step HB.out hb); clear HB; have HB := n0_; clear n0_; obtain ⟨c0, c1, c2, c3, c4, c5, c6, c7, c8, c9, c10, c11, c12⟩ := HP.out.cells; clear hbox hb hg) | ((with_reducible refine gate_dst (N := 3) rfl ?_); refine box_event ?hg (N := 3) ?hd (cs := #[.int .i64 q.a0, .int .i64 q.a1, .int .i64 q.a2, .int .i64 q.a3, .int .i64 q.a4]) (t := 23) ?hr ?_; (case hd => rfl); (case hg => rfl); (case hr => rfl); intro gq hg wn hbox hb; have HQ := Aside0.mk (show QolL wn gq q from hbox); have n0_ := Aside0.mk (below_step HB.out hb); have n1_ := Aside0.mk (HP.out.next hb); clear HB HP c0 c1 c2 c3 c4 c5 c6 c7 c8 c9 c10 c11 c12; have HB := n0_; have HP := n1_; clear n0_ n1_; obtain ⟨c0, c1, c2, c3, c4, c5, c6, c7, c8, c9, c10, c11, c12⟩ := HP.out.cells; obtain ⟨d0, d1, d2, d3, d4⟩ := HQ.out.cells; have cQ := HP.out.at q.a0.toNat HNQ.out; have cP := HP.out.at p.a0.toNat HNP.out; rw [hxq.out] at cQ; rw [hxp.out] at cP; clear hbox hb hg))
    go_ret
    exact ⟨rfl, HB.out⟩
  rw [if_neg (fun q => q h2)] at h
  have l2 : (xq == xp) = true := beq_iff_eq.2 h2
  have l3 : (xq != xp) = false := bne_eq_false_iff_eq.2 h2
  have HL := Aside0.mk h
  clear h2 h
  go_enter Try.func20, Try.ntmps20
  go_wp2_with (first | ((with_reducible refine gate_dst (N := 2) rfl ?_); refine box_event ?hg (N := 2) ?hd (cs := #[.int .i64 p.a0, .int .i64 p.a1, .int .i64 p.a2, .int .i64 p.a3, .int .i64 p.a4, .int .i64 p.s, .int .i64 p.r0, .int .i64 p.r1, .int .i64 p.r2, .int .i64 p.r3, .int .i64 p.r4, .int .i64 p.r5, .int .i64 p.r6]) (t := 26) ?hr ?_; (case hd => rfl); (case hg => rfl); (case hr => rfl); intro g hg wn hbox hb; have HP := Aside0.mk (show PolL wn g p from hbox); have n0_ := Aside0.mk (below_step HB.out hb); clear HB; have HB := n0_; clear n0_; obtain ⟨c0, c1, c2, c3, c4, c5, c6, c7, c8, c9, c10, c11, c12⟩ := HP.out.cells; clear hbox hb hg) | ((with_reducible refine gate_dst (N := 3) rfl ?_); refine box_event ?hg (N := 3) ?hd (cs := #[.int .i64 q.a0, .int .i64 q.a1, .int .i64 q.a2, .int .i64 q.a3, .int .i64 q.a4]) (t := 23) ?hr ?_; (case hd => rfl); (case hg => rfl); (case hr => rfl); intro gq hg wn hbox hb; have HQ := Aside0.mk (show QolL wn gq q from hbox); have n0_ := Aside0.mk (below_step HB.out hb); have n1_ := Aside0.mk (HP.out.next hb); clear HB HP c0 c1 c2 c3 c4 c5 c6 c7 c8 c9 c10 c11 c12; have HB := n0_; have HP := n1_; clear n0_ n1_; obtain ⟨c0, c1, c2, c3, c4, c5, c6, c7, c8, c9, c10, c11, c12⟩ := HP.out.cells; obtain ⟨d0, d1, d2, d3, d4⟩ := HQ.out.cells; have cQ := HP.out.at q.a0.toNat HNQ.out; have cP := HP.out.at p.a0.toNat HNP.out; rw [hxq.out] at cQ; rw [hxp.out] at cP; clear hbox hb hg) | (go_at_call 62; (with_reducible refine (pestleref46_Lower.calls q.a0 q.a1 q.a2 q.a3 q.a4 p.a0 p.a1 p.a2 p.a3 p.a4 r _ HL.out).mono ?_); rintro e wn ⟨rfl, hb⟩; have n0_ := Aside0.mk (below_step HB.out hb); clear HB; have HB := n0_; clear n0_; clear hb))
  go_ret
  exact ⟨rfl, HB.out⟩

/-! ### pestlelaw46_PolicyTells: function 3 -/
def pestlelaw46_PolicyTells.fp (k : Nat) (p : PV) (q : QV) : Option Bool := (pestlelaw46_awake.f k).bind fun _ => (pestleref46_Check.f k p).bind fun why => (policy_Behind.f k p q).bind fun be => (policy_Check.f k p).bind fun c => (if c = why then (if why = 0 then (pestleref44_Params.f k q.a0 q.a1 q.a2 q.a3 q.a4).bind fun w2 => (if w2 = 0 then (pestleref46_Behind.f p q).bind fun b => (if be = (b, 0) then some true else none) else (if be = (false, w2) then some true else none)) else (if be = (false, why) then some true else none)) else none)
def pestlelaw46_PolicyTells.f (k : Nat) (a0_0 : Int) (a0_1 : Int) (a0_2 : Int) (a0_3 : Int) (a0_4 : Int) (a0_5 : Int) (a0_6 : Int) (a0_7 : Int) (a0_8 : Int) (a0_9 : Int) (a0_10 : Int) (a0_11 : Int) (a0_12 : Int) (a1_0 : Int) (a1_1 : Int) (a1_2 : Int) (a1_3 : Int) (a1_4 : Int) : Option Bool := pestlelaw46_PolicyTells.fp k ⟨a0_0, a0_1, a0_2, a0_3, a0_4, a0_5, a0_6, a0_7, a0_8, a0_9, a0_10, a0_11, a0_12⟩ ⟨a1_0, a1_1, a1_2, a1_3, a1_4⟩
set_option maxHeartbeats 8000000 in
set_option maxRecDepth 100000 in
theorem pestlelaw46_PolicyTells.go (k : Nat) (p : PV) (q : QV) (r : Bool) (w : World) (h : pestlelaw46_PolicyTells.fp k p q = some r) :
    Calls Try.prog 3 #[.agg #[.int .i64 p.a0, .int .i64 p.a1, .int .i64 p.a2, .int .i64 p.a3, .int .i64 p.a4, .int .i64 p.s, .int .i64 p.r0, .int .i64 p.r1, .int .i64 p.r2, .int .i64 p.r3, .int .i64 p.r4, .int .i64 p.r5, .int .i64 p.r6], .agg #[.int .i64 q.a0, .int .i64 q.a1, .int .i64 q.a2, .int .i64 q.a3, .int .i64 q.a4]] w fun e w' => e = .returned (.bool r) ∧ Below w.heap.size w w' := by
  have HB := Aside0.mk (Below.refl w.heap.size w)
  unfold pestlelaw46_PolicyTells.fp at h
  replace h := Option.bind_eq_some_iff.mp h
  obtain ⟨aw, A0, h⟩ := h
  obtain ⟨rfl, _⟩ := pestlelaw46_awake.yes A0
  replace A0 := Aside0.mk A0
  replace h := Option.bind_eq_some_iff.mp h
  obtain ⟨why, A1, h⟩ := h
  replace A1 := Aside0.mk A1
  replace h := Option.bind_eq_some_iff.mp h
  obtain ⟨⟨b0, b1⟩, A2, h⟩ := h
  replace A2 := Aside0.mk A2
  replace h := Option.bind_eq_some_iff.mp h
  obtain ⟨c, A3, h⟩ := h
  replace A3 := Aside0.mk A3
  by_cases hc : c = why
  case neg => rw [if_neg hc] at h; cases h
  rw [if_pos hc] at h
  subst hc
  by_cases hw : c = 0
  case neg =>
    rw [if_neg hw] at h
    by_cases hb : (b0, b1) = (false, c)
    case neg => rw [if_neg hb] at h; cases h
    rw [if_pos hb] at h
    obtain rfl := Option.some.inj h
    simp only [Prod.mk.injEq] at hb
    obtain ⟨rfl, rfl⟩ := hb
    have e1 : (b1 == 0) = false := beq_eq_false_iff_ne.2 hw
    have e2 : (b1 != 0) = true := bne_iff_ne.2 hw
    clear h hw
    go_enter Try.func3, Try.ntmps3
    go_wp2_with (first | ((with_reducible refine gate_dst (N := 2) rfl ?_); refine box_event ?hg (N := 2) ?hd (cs := #[.int .i64 p.a0, .int .i64 p.a1, .int .i64 p.a2, .int .i64 p.a3, .int .i64 p.a4, .int .i64 p.s, .int .i64 p.r0, .int .i64 p.r1, .int .i64 p.r2, .int .i64 p.r3, .int .i64 p.r4, .int .i64 p.r5, .int .i64 p.r6]) (t := 26) ?hr ?_; (case hd => rfl); (case hg => rfl); (case hr => rfl); intro g hg wn hbox hb; have HP := Aside0.mk (show PolL wn g p from hbox); have n0_ := Aside0.mk (below_step HB.out hb); clear HB; have HB := n0_; clear n0_; obtain ⟨c0, c1, c2, c3, c4, c5, c6, c7, c8, c9, c10, c11, c12⟩ := HP.out.cells; clear hbox hb hg) | ((with_reducible refine gate_dst (N := 3) rfl ?_); refine box_event ?hg (N := 3) ?hd (cs := #[.int .i64 q.a0, .int .i64 q.a1, .int .i64 q.a2, .int .i64 q.a3, .int .i64 q.a4]) (t := 23) ?hr ?_; (case hd => rfl); (case hg => rfl); (case hr => rfl); intro gq hg wn hbox hb; have HQ := Aside0.mk (show QolL wn gq q from hbox); have n0_ := Aside0.mk (below_step HB.out hb); have n1_ := Aside0.mk (HP.out.next hb); clear HB HP c0 c1 c2 c3 c4 c5 c6 c7 c8 c9 c10 c11 c12; have HB := n0_; have HP := n1_; clear n0_ n1_; obtain ⟨c0, c1, c2, c3, c4, c5, c6, c7, c8, c9, c10, c11, c12⟩ := HP.out.cells; obtain ⟨d0, d1, d2, d3, d4⟩ := HQ.out.cells; clear hbox hb hg) | (go_at_call 15; (with_reducible refine (pestlelaw46_awake.calls k true _ A0.out).mono ?_); rintro e wn ⟨rfl, hb⟩; clear c0 c1 c2 c3 c4 c5 c6 c7 c8 c9 c10 c11 c12 d0 d1 d2 d3 d4; have n0_ := Aside0.mk (below_step HB.out hb); have n1_ := Aside0.mk (HP.out.next hb); have n2_ := Aside0.mk (HQ.out.next hb); clear HB HP HQ; have HB := n0_; have HP := n1_; have HQ := n2_; clear n0_ n1_ n2_; clear hb; obtain ⟨c0, c1, c2, c3, c4, c5, c6, c7, c8, c9, c10, c11, c12⟩ := HP.out.cells; obtain ⟨d0, d1, d2, d3, d4⟩ := HQ.out.cells) | (go_at_call 16; (with_reducible refine (pestleref46_Check.calls k p b1 _ A1.out).mono ?_); rintro e wn ⟨rfl, hb⟩; clear c0 c1 c2 c3 c4 c5 c6 c7 c8 c9 c10 c11 c12 d0 d1 d2 d3 d4; have n0_ := Aside0.mk (below_step HB.out hb); have n1_ := Aside0.mk (HP.out.next hb); have n2_ := Aside0.mk (HQ.out.next hb); clear HB HP HQ; have HB := n0_; have HP := n1_; have HQ := n2_; clear n0_ n1_ n2_; clear hb; obtain ⟨c0, c1, c2, c3, c4, c5, c6, c7, c8, c9, c10, c11, c12⟩ := HP.out.cells; obtain ⟨d0, d1, d2, d3, d4⟩ := HQ.out.cells) | (go_at_call 17; (with_reducible refine (policy_Behind.calls k p q false b1 _ A2.out).mono ?_); rintro e wn ⟨rfl, hb⟩; clear c0 c1 c2 c3 c4 c5 c6 c7 c8 c9 c10 c11 c12 d0 d1 d2 d3 d4; have n0_ := Aside0.mk (below_step HB.out hb); have n1_ := Aside0.mk (HP.out.next hb); have n2_ := Aside0.mk (HQ.out.next hb); clear HB HP HQ; have HB := n0_; have HP := n1_; have HQ := n2_; clear n0_ n1_ n2_; clear hb; obtain ⟨c0, c1, c2, c3, c4, c5, c6, c7, c8, c9, c10, c11, c12⟩ := HP.out.cells; obtain ⟨d0, d1, d2, d3, d4⟩ := HQ.out.cells) | (go_at_call 18; (with_reducible refine (policy_Check.calls k p b1 _ A3.out).mono ?_); rintro e wn ⟨rfl, hb⟩; clear c0 c1 c2 c3 c4 c5 c6 c7 c8 c9 c10 c11 c12 d0 d1 d2 d3 d4; have n0_ := Aside0.mk (below_step HB.out hb); have n1_ := Aside0.mk (HP.out.next hb); have n2_ := Aside0.mk (HQ.out.next hb); clear HB HP HQ; have HB := n0_; have HP := n1_; have HQ := n2_; clear n0_ n1_ n2_; clear hb; obtain ⟨c0, c1, c2, c3, c4, c5, c6, c7, c8, c9, c10, c11, c12⟩ := HP.out.cells; obtain ⟨d0, d1, d2, d3, d4⟩ := HQ.out.cells))
    go_ret
    exact ⟨rfl, HB.out⟩
  rw [if_pos hw] at h
  subst hw
  replace h := Option.bind_eq_some_iff.mp h
  obtain ⟨w2, A4, h⟩ := h
  replace A4 := Aside0.mk A4
  by_cases hw : w2 = 0
  case neg =>
    rw [if_neg hw] at h
    by_cases hb : (b0, b1) = (false, w2)
    case neg => rw [if_neg hb] at h; cases h
    rw [if_pos hb] at h
    obtain rfl := Option.some.inj h
    simp only [Prod.mk.injEq] at hb
    obtain ⟨rfl, rfl⟩ := hb
    have e1 : (b1 == 0) = false := beq_eq_false_iff_ne.2 hw
    have e2 : (b1 != 0) = true := bne_iff_ne.2 hw
    clear h hw
    go_enter Try.func3, Try.ntmps3
    go_wp2_with (first | ((with_reducible refine gate_dst (N := 2) rfl ?_); refine box_event ?hg (N := 2) ?hd (cs := #[.int .i64 p.a0, .int .i64 p.a1, .int .i64 p.a2, .int .i64 p.a3, .int .i64 p.a4, .int .i64 p.s, .int .i64 p.r0, .int .i64 p.r1, .int .i64 p.r2, .int .i64 p.r3, .int .i64 p.r4, .int .i64 p.r5, .int .i64 p.r6]) (t := 26) ?hr ?_; (case hd => rfl); (case hg => rfl); (case hr => rfl); intro g hg wn hbox hb; have HP := Aside0.mk (show PolL wn g p from hbox); have n0_ := Aside0.mk (below_step HB.out hb); clear HB; have HB := n0_; clear n0_; obtain ⟨c0, c1, c2, c3, c4, c5, c6, c7, c8, c9, c10, c11, c12⟩ := HP.out.cells; clear hbox hb hg) | ((with_reducible refine gate_dst (N := 3) rfl ?_); refine box_event ?hg (N := 3) ?hd (cs := #[.int .i64 q.a0, .int .i64 q.a1, .int .i64 q.a2, .int .i64 q.a3, .int .i64 q.a4]) (t := 23) ?hr ?_; (case hd => rfl); (case hg => rfl); (case hr => rfl); intro gq hg wn hbox hb; have HQ := Aside0.mk (show QolL wn gq q from hbox); have n0_ := Aside0.mk (below_step HB.out hb); have n1_ := Aside0.mk (HP.out.next hb); clear HB HP c0 c1 c2 c3 c4 c5 c6 c7 c8 c9 c10 c11 c12; have HB := n0_; have HP := n1_; clear n0_ n1_; obtain ⟨c0, c1, c2, c3, c4, c5, c6, c7, c8, c9, c10, c11, c12⟩ := HP.out.cells; obtain ⟨d0, d1, d2, d3, d4⟩ := HQ.out.cells; clear hbox hb hg) | (go_at_call 15; (with_reducible refine (pestlelaw46_awake.calls k true _ A0.out).mono ?_); rintro e wn ⟨rfl, hb⟩; clear c0 c1 c2 c3 c4 c5 c6 c7 c8 c9 c10 c11 c12 d0 d1 d2 d3 d4; have n0_ := Aside0.mk (below_step HB.out hb); have n1_ := Aside0.mk (HP.out.next hb); have n2_ := Aside0.mk (HQ.out.next hb); clear HB HP HQ; have HB := n0_; have HP := n1_; have HQ := n2_; clear n0_ n1_ n2_; clear hb; obtain ⟨c0, c1, c2, c3, c4, c5, c6, c7, c8, c9, c10, c11, c12⟩ := HP.out.cells; obtain ⟨d0, d1, d2, d3, d4⟩ := HQ.out.cells) | (go_at_call 16; (with_reducible refine (pestleref46_Check.calls k p 0 _ A1.out).mono ?_); rintro e wn ⟨rfl, hb⟩; clear c0 c1 c2 c3 c4 c5 c6 c7 c8 c9 c10 c11 c12 d0 d1 d2 d3 d4; have n0_ := Aside0.mk (below_step HB.out hb); have n1_ := Aside0.mk (HP.out.next hb); have n2_ := Aside0.mk (HQ.out.next hb); clear HB HP HQ; have HB := n0_; have HP := n1_; have HQ := n2_; clear n0_ n1_ n2_; clear hb; obtain ⟨c0, c1, c2, c3, c4, c5, c6, c7, c8, c9, c10, c11, c12⟩ := HP.out.cells; obtain ⟨d0, d1, d2, d3, d4⟩ := HQ.out.cells) | (go_at_call 17; (with_reducible refine (policy_Behind.calls k p q false b1 _ A2.out).mono ?_); rintro e wn ⟨rfl, hb⟩; clear c0 c1 c2 c3 c4 c5 c6 c7 c8 c9 c10 c11 c12 d0 d1 d2 d3 d4; have n0_ := Aside0.mk (below_step HB.out hb); have n1_ := Aside0.mk (HP.out.next hb); have n2_ := Aside0.mk (HQ.out.next hb); clear HB HP HQ; have HB := n0_; have HP := n1_; have HQ := n2_; clear n0_ n1_ n2_; clear hb; obtain ⟨c0, c1, c2, c3, c4, c5, c6, c7, c8, c9, c10, c11, c12⟩ := HP.out.cells; obtain ⟨d0, d1, d2, d3, d4⟩ := HQ.out.cells) | (go_at_call 18; (with_reducible refine (policy_Check.calls k p 0 _ A3.out).mono ?_); rintro e wn ⟨rfl, hb⟩; clear c0 c1 c2 c3 c4 c5 c6 c7 c8 c9 c10 c11 c12 d0 d1 d2 d3 d4; have n0_ := Aside0.mk (below_step HB.out hb); have n1_ := Aside0.mk (HP.out.next hb); have n2_ := Aside0.mk (HQ.out.next hb); clear HB HP HQ; have HB := n0_; have HP := n1_; have HQ := n2_; clear n0_ n1_ n2_; clear hb; obtain ⟨c0, c1, c2, c3, c4, c5, c6, c7, c8, c9, c10, c11, c12⟩ := HP.out.cells; obtain ⟨d0, d1, d2, d3, d4⟩ := HQ.out.cells) | (go_at_call 19; (with_reducible refine (pestleref44_Params.calls k q.a0 q.a1 q.a2 q.a3 q.a4 b1 _ A4.out).mono ?_); rintro e wn ⟨rfl, hb⟩; clear c0 c1 c2 c3 c4 c5 c6 c7 c8 c9 c10 c11 c12 d0 d1 d2 d3 d4; have n0_ := Aside0.mk (below_step HB.out hb); have n1_ := Aside0.mk (HP.out.next hb); have n2_ := Aside0.mk (HQ.out.next hb); clear HB HP HQ; have HB := n0_; have HP := n1_; have HQ := n2_; clear n0_ n1_ n2_; clear hb; obtain ⟨c0, c1, c2, c3, c4, c5, c6, c7, c8, c9, c10, c11, c12⟩ := HP.out.cells; obtain ⟨d0, d1, d2, d3, d4⟩ := HQ.out.cells))
    go_ret
    exact ⟨rfl, HB.out⟩
  rw [if_pos hw] at h
  subst hw
  replace h := Option.bind_eq_some_iff.mp h
  obtain ⟨b, A5, h⟩ := h
  replace A5 := Aside0.mk A5
  by_cases hb : (b0, b1) = (b, 0)
  case neg => rw [if_neg hb] at h; cases h
  rw [if_pos hb] at h
  obtain rfl := Option.some.inj h
  simp only [Prod.mk.injEq] at hb
  obtain ⟨rfl, rfl⟩ := hb
  clear h
  go_enter Try.func3, Try.ntmps3
  go_wp2_with (first | ((with_reducible refine gate_dst (N := 2) rfl ?_); refine box_event ?hg (N := 2) ?hd (cs := #[.int .i64 p.a0, .int .i64 p.a1, .int .i64 p.a2, .int .i64 p.a3, .int .i64 p.a4, .int .i64 p.s, .int .i64 p.r0, .int .i64 p.r1, .int .i64 p.r2, .int .i64 p.r3, .int .i64 p.r4, .int .i64 p.r5, .int .i64 p.r6]) (t := 26) ?hr ?_; (case hd => rfl); (case hg => rfl); (case hr => rfl); intro g hg wn hbox hb; have HP := Aside0.mk (show PolL wn g p from hbox); have n0_ := Aside0.mk (below_step HB.out hb); clear HB; have HB := n0_; clear n0_; obtain ⟨c0, c1, c2, c3, c4, c5, c6, c7, c8, c9, c10, c11, c12⟩ := HP.out.cells; clear hbox hb hg) | ((with_reducible refine gate_dst (N := 3) rfl ?_); refine box_event ?hg (N := 3) ?hd (cs := #[.int .i64 q.a0, .int .i64 q.a1, .int .i64 q.a2, .int .i64 q.a3, .int .i64 q.a4]) (t := 23) ?hr ?_; (case hd => rfl); (case hg => rfl); (case hr => rfl); intro gq hg wn hbox hb; have HQ := Aside0.mk (show QolL wn gq q from hbox); have n0_ := Aside0.mk (below_step HB.out hb); have n1_ := Aside0.mk (HP.out.next hb); clear HB HP c0 c1 c2 c3 c4 c5 c6 c7 c8 c9 c10 c11 c12; have HB := n0_; have HP := n1_; clear n0_ n1_; obtain ⟨c0, c1, c2, c3, c4, c5, c6, c7, c8, c9, c10, c11, c12⟩ := HP.out.cells; obtain ⟨d0, d1, d2, d3, d4⟩ := HQ.out.cells; clear hbox hb hg) | (go_at_call 15; (with_reducible refine (pestlelaw46_awake.calls k true _ A0.out).mono ?_); rintro e wn ⟨rfl, hb⟩; clear c0 c1 c2 c3 c4 c5 c6 c7 c8 c9 c10 c11 c12 d0 d1 d2 d3 d4; have n0_ := Aside0.mk (below_step HB.out hb); have n1_ := Aside0.mk (HP.out.next hb); have n2_ := Aside0.mk (HQ.out.next hb); clear HB HP HQ; have HB := n0_; have HP := n1_; have HQ := n2_; clear n0_ n1_ n2_; clear hb; obtain ⟨c0, c1, c2, c3, c4, c5, c6, c7, c8, c9, c10, c11, c12⟩ := HP.out.cells; obtain ⟨d0, d1, d2, d3, d4⟩ := HQ.out.cells) | (go_at_call 16; (with_reducible refine (pestleref46_Check.calls k p 0 _ A1.out).mono ?_); rintro e wn ⟨rfl, hb⟩; clear c0 c1 c2 c3 c4 c5 c6 c7 c8 c9 c10 c11 c12 d0 d1 d2 d3 d4; have n0_ := Aside0.mk (below_step HB.out hb); have n1_ := Aside0.mk (HP.out.next hb); have n2_ := Aside0.mk (HQ.out.next hb); clear HB HP HQ; have HB := n0_; have HP := n1_; have HQ := n2_; clear n0_ n1_ n2_; clear hb; obtain ⟨c0, c1, c2, c3, c4, c5, c6, c7, c8, c9, c10, c11, c12⟩ := HP.out.cells; obtain ⟨d0, d1, d2, d3, d4⟩ := HQ.out.cells) | (go_at_call 17; (with_reducible refine (policy_Behind.calls k p q b0 0 _ A2.out).mono ?_); rintro e wn ⟨rfl, hb⟩; clear c0 c1 c2 c3 c4 c5 c6 c7 c8 c9 c10 c11 c12 d0 d1 d2 d3 d4; have n0_ := Aside0.mk (below_step HB.out hb); have n1_ := Aside0.mk (HP.out.next hb); have n2_ := Aside0.mk (HQ.out.next hb); clear HB HP HQ; have HB := n0_; have HP := n1_; have HQ := n2_; clear n0_ n1_ n2_; clear hb; obtain ⟨c0, c1, c2, c3, c4, c5, c6, c7, c8, c9, c10, c11, c12⟩ := HP.out.cells; obtain ⟨d0, d1, d2, d3, d4⟩ := HQ.out.cells) | (go_at_call 18; (with_reducible refine (policy_Check.calls k p 0 _ A3.out).mono ?_); rintro e wn ⟨rfl, hb⟩; clear c0 c1 c2 c3 c4 c5 c6 c7 c8 c9 c10 c11 c12 d0 d1 d2 d3 d4; have n0_ := Aside0.mk (below_step HB.out hb); have n1_ := Aside0.mk (HP.out.next hb); have n2_ := Aside0.mk (HQ.out.next hb); clear HB HP HQ; have HB := n0_; have HP := n1_; have HQ := n2_; clear n0_ n1_ n2_; clear hb; obtain ⟨c0, c1, c2, c3, c4, c5, c6, c7, c8, c9, c10, c11, c12⟩ := HP.out.cells; obtain ⟨d0, d1, d2, d3, d4⟩ := HQ.out.cells) | (go_at_call 19; (with_reducible refine (pestleref44_Params.calls k q.a0 q.a1 q.a2 q.a3 q.a4 0 _ A4.out).mono ?_); rintro e wn ⟨rfl, hb⟩; clear c0 c1 c2 c3 c4 c5 c6 c7 c8 c9 c10 c11 c12 d0 d1 d2 d3 d4; have n0_ := Aside0.mk (below_step HB.out hb); have n1_ := Aside0.mk (HP.out.next hb); have n2_ := Aside0.mk (HQ.out.next hb); clear HB HP HQ; have HB := n0_; have HP := n1_; have HQ := n2_; clear n0_ n1_ n2_; clear hb; obtain ⟨c0, c1, c2, c3, c4, c5, c6, c7, c8, c9, c10, c11, c12⟩ := HP.out.cells; obtain ⟨d0, d1, d2, d3, d4⟩ := HQ.out.cells) | (go_at_call 20; (with_reducible refine (pestleref46_Behind.calls p q b0 _ A5.out).mono ?_); rintro e wn ⟨rfl, hb⟩; have n0_ := Aside0.mk (below_step HB.out hb); clear HB; have HB := n0_; clear n0_; clear hb))
  go_ret
  exact ⟨rfl, HB.out⟩
theorem pestlelaw46_PolicyTells.calls (k : Nat) (a0_0 : Int) (a0_1 : Int) (a0_2 : Int) (a0_3 : Int) (a0_4 : Int) (a0_5 : Int) (a0_6 : Int) (a0_7 : Int) (a0_8 : Int) (a0_9 : Int) (a0_10 : Int) (a0_11 : Int) (a0_12 : Int) (a1_0 : Int) (a1_1 : Int) (a1_2 : Int) (a1_3 : Int) (a1_4 : Int) (r : Bool) (w : World) (h : pestlelaw46_PolicyTells.f k a0_0 a0_1 a0_2 a0_3 a0_4 a0_5 a0_6 a0_7 a0_8 a0_9 a0_10 a0_11 a0_12 a1_0 a1_1 a1_2 a1_3 a1_4 = some r) :
  Calls Try.prog 3 #[.agg #[.int .i64 a0_0, .int .i64 a0_1, .int .i64 a0_2, .int .i64 a0_3, .int .i64 a0_4, .int .i64 a0_5, .int .i64 a0_6, .int .i64 a0_7, .int .i64 a0_8, .int .i64 a0_9, .int .i64 a0_10, .int .i64 a0_11, .int .i64 a0_12], .agg #[.int .i64 a1_0, .int .i64 a1_1, .int .i64 a1_2, .int .i64 a1_3, .int .i64 a1_4]] w fun e w' => e = .returned (.bool r) ∧ Below w.heap.size w w' :=
  pestlelaw46_PolicyTells.go k ⟨a0_0, a0_1, a0_2, a0_3, a0_4, a0_5, a0_6, a0_7, a0_8, a0_9, a0_10, a0_11, a0_12⟩ ⟨a1_0, a1_1, a1_2, a1_3, a1_4⟩ r w h

-- NOT PRINTED: function 4 (pestlelaw46_PolicyOwn)

-- NOT PRINTED: function 5 (pestlelaw46_PolicyRanks)

end Go.Proofs.Ytiicjhibnobhdaa.Pall
