-- PRINTED by print.py (a twelfth state) out of the translation. Not trusted: Lean checks it.
import Derived.Test.YtiicjhibnobhdaaPallx0
import Derived.Test.YtiicjhibnobhdaaPallx2
import Derived.Test.YtiicjhibnobhdaaPallx3
namespace Go.Proofs.Ytiicjhibnobhdaa.Pall
open Go.RowKit Go.Proofs.YtiicjhibnobhdaaW.PrintWords Go.Proofs.YtiicjhibnobhdaaW.PrintLast Go.Proofs.YtiicjhibnobhdaaW.PrintMore
attribute [local go_sem] max2_int min2_int max_two min_two max_three min_three max_four min_four   -- for this text's walks alone
set_option linter.unusedVariables false
set_option linter.unusedSimpArgs false

/-! ### policy_Ranked: function 23 -/
/-- where an algorithm stands among those that are there -/
def rkPos (p : PV) (l : List Int) (x : Int) : Nat → Nat
  | 0 => 0
  | m + 1 => if rkAt p (l.getD m 0).toNat < x then rkPos p l x m else m + 1
theorem rkPos_succ (p : PV) (l : List Int) (x : Int) (m : Nat) : rkPos p l x (m + 1) = if rkAt p (l.getD m 0).toNat < x then rkPos p l x m else m + 1 := rfl
def rkPut (p : PV) (l : List Int) (n : Nat) : List Int := l.take (rkPos p l (rkAt p n) l.length) ++ ([(n : Int)] ++ l.drop (rkPos p l (rkAt p n) l.length))
def rkRun (p : PV) : Nat → Nat → List Int → List Int
  | 0, _, l => l
  | d + 1, n, l => rkRun p d (n + 1) (if rkAt p n < 1 then l else rkPut p l n)
theorem rkRun_succ (p : PV) (d n : Nat) (l : List Int) : rkRun p (d + 1) n l = rkRun p d (n + 1) (if rkAt p n < 1 then l else rkPut p l n) := rfl
theorem rkPut_len (p : PV) (l : List Int) (n : Nat) : (rkPut p l n).length = l.length + 1 := by
  unfold rkPut
  rw [List.length_append, List.length_append, List.length_take, List.length_drop]
  show min _ _ + (1 + _) = _
  omega
theorem rkPut_in {p : PV} {l : List Int} {n : Nat} (h : ∀ x ∈ l, 0 ≤ x ∧ x < 7) (hn : n < 7) : ∀ x ∈ rkPut p l n, 0 ≤ x ∧ x < 7 := by
  intro x hx
  unfold rkPut at hx
  rcases List.mem_append.1 hx with hx | hx
  · exact h x (List.mem_of_mem_take hx)
  · rcases List.mem_append.1 hx with hx | hx
    · rw [List.mem_singleton.1 hx]; omega
    · exact h x (List.mem_of_mem_drop hx)
set_option maxHeartbeats 8000000 in
set_option maxRecDepth 100000 in
theorem policy_Ranked.calls (p : PV) (w : World) :
    Calls Try.prog 23 #[.agg #[.int .i64 p.a0, .int .i64 p.a1, .int .i64 p.a2, .int .i64 p.a3, .int .i64 p.a4, .int .i64 p.s, .int .i64 p.r0, .int .i64 p.r1, .int .i64 p.r2, .int .i64 p.r3, .int .i64 p.r4, .int .i64 p.r5, .int .i64 p.r6]] w fun e w' => ∃ v0_ : Value, e = .returned v0_ ∧ Kd.R (Kd.int .i64) 3 w' w.heap.size (fun _ => True) v0_ (rkRun p 6 1 []) ∧ Below w.heap.size w w' := by
  have HB := Aside0.mk (Below.refl w.heap.size w)
  obtain ⟨RR, hRR⟩ : ∃ RR, rkRun p 6 1 [] = RR := ⟨_, rfl⟩
  rw [hRR]
  replace hRR := Aside0.mk hRR
  go_enter Try.func23, Try.ntmps23
  go_wp2_with ((with_reducible refine gate_dst (N := 1) rfl ?_); refine box_event ?hg (N := 1) ?hd (cs := #[.int .i64 p.a0, .int .i64 p.a1, .int .i64 p.a2, .int .i64 p.a3, .int .i64 p.a4, .int .i64 p.s, .int .i64 p.r0, .int .i64 p.r1, .int .i64 p.r2, .int .i64 p.r3, .int .i64 p.r4, .int .i64 p.r5, .int .i64 p.r6]) (t := 26) ?hr ?_; (case hd => rfl); (case hg => rfl); (case hr => rfl); intro g hg wn hbox hb; have HP := Aside0.mk (show PolL wn g p from hbox); have n0_ := Aside0.mk (below_step HB.out hb); clear HB; have HB := n0_; clear n0_; obtain ⟨c0, c1, c2, c3, c4, c5, c6, c7, c8, c9, c10, c11, c12⟩ := HP.out.cells; clear hbox hb hg)
  clear c0 c1 c2 c3 c4 c5 c6 c7 c8 c9 c10 c11 c12
  go_loopw [3, 4] (fun v3 v4 wz => ∃ (n : Nat) (l : List Int), 1 ≤ n ∧ n ≤ 7 ∧ v4 = .int .i64 (n : Int) ∧ Aside0 (rkRun p (7 - n) n l = RR) ∧ Aside0 (∀ x ∈ l, 0 ≤ x ∧ x < 7) ∧ Aside0 (l.length < n) ∧ Aside0 (PolL wz g p) ∧ Aside0 (Kd.R (Kd.int .i64) 3 wz w.heap.size (fun _ => True) v3 l) ∧ Aside0 (Below w.heap.size w wz)) (fun _ v4 _ => 7 - (intOf v4).toNat)
  case atStart => exact ⟨1, [], by omega, by omega, rfl, hRR, ⟨fun x hx => by cases hx⟩, ⟨by decide⟩, HP, ⟨Kd.R_nil _ _ _ _ _⟩, HB⟩
  case round =>
    clear hRR HP HB
    obtain ⟨n, l, hn1, hn, rfl, E, HIN, LN, HP, HO, HB⟩ := hrel
    by_cases hlt : n < 7
    case neg =>
      obtain rfl : n = 7 := by omega
      obtain rfl : l = RR := E.out
      clear hlt hn hn1
      go_wp2
      go_ret
      exact ⟨_, rfl, HO.out, HB.out⟩
    have p1 : decide ((n : Int) < 7) = true := decide_eq_true (by omega)
    have hE := E.out
    rw [show 7 - n = (6 - n) + 1 by omega, rkRun_succ] at hE
    have q2 : (0 : Int) ≤ (n : Int) := by omega
    have q3 : (n : Int) < 7 := by omega
    have cN := HP.out.at n hlt
    obtain ⟨x, hx⟩ : ∃ x, rkAt p n = x := ⟨_, rfl⟩
    rw [hx] at hE cN
    have hadd : IntKind.i64.wrap ((n : Int) + 1) = (n : Int) + 1 := by rw [IntKind.wrap_i64]; omega
    have IN := Aside0.mk hlt
    by_cases hneg : x < 1
    case pos =>
      rw [if_pos hneg] at hE
      replace hE := Aside0.mk hE
      have n1 : decide (x < 1) = true := decide_eq_true hneg
      clear hlt hn hneg E
      go_wp2
      exact ⟨⟨n + 1, l, by omega, by have := IN.out; omega, by rfl, ⟨by rw [show 7 - (n + 1) = 6 - n by omega]; exact hE.out⟩, HIN, ⟨by have := LN.out; omega⟩, HP, HO, HB⟩, by simp [intOf]; have := IN.out; omega⟩
    rw [if_neg hneg] at hE
    replace hE := Aside0.mk hE
    have n1 : decide (x < 1) = false := decide_eq_false hneg
    obtain ⟨Ao, co, eo⟩ := Kd.R_slice HO.out
    subst eo
    obtain ⟨PP, hPP⟩ : ∃ PP, rkPos p l x l.length = PP := ⟨_, rfl⟩
    have PPE0 := Aside0.mk (show rkPos p l (rkAt p n) l.length = PP by rw [hx]; exact hPP)
    replace hPP := Aside0.mk hPP
    replace hx := Aside0.mk hx
    have LL := Aside0.mk (show l.length ≤ 7 by have := LN.out; omega)
    clear hlt hn hneg E
    go_wp2
    clear p1 n1 cN
    go_loopw [5] (fun v5 wz => ∃ m : Nat, m ≤ l.length ∧ v5 = .int .i64 (m : Int) ∧ Aside0 (rkPos p l x m = PP) ∧ Aside0 (PolL wz g p) ∧ Aside0 (Kd.R (Kd.int .i64) 3 wz w.heap.size (fun _ => True) (.slice Ao l.length co) l) ∧ Aside0 (Below w.heap.size w wz)) (fun v5 _ => (intOf v5).toNat)
    case atStart => exact ⟨l.length, by omega, rfl, hPP, HP, HO, HB⟩
    case round =>
      clear hPP HP HB HO
      obtain ⟨m, hm, rfl, E, HP, HO, HB⟩ := hrel
      by_cases hz : m = 0
      case pos =>
        subst hz
        obtain rfl : 0 = PP := E.out
        have PPE := PPE0
        have HM := Aside0.mk hm
        obtain ⟨m, hm0⟩ : ∃ m, m = 0 := ⟨0, rfl⟩
        rw [← hm0] at PPE HM
        have w1 : decide ((0 : Int) < 0) = false := rfl
        clear hm E PPE0
        go_wp2
        go_quiet (fail)
        go_wp2
        rw [show ((0 : Nat) : Int) = (m : Int) by omega]
        clear w1 hm0
        replace HP := Aside0.mk (show PolL (wr.drewN nq) g p from HP.out.next (by repeat (first | exact Below.refl _ _ | apply pw_below_drewN | apply below_drew1)))
        replace HO := Aside0.mk (show Kd.R (Kd.int .i64) 3 (wr.drewN nq) w.heap.size (fun _ => True) (.slice Ao l.length co) l from Kd.R_below HO.out (by repeat (first | exact Below.refl _ _ | apply pw_below_drewN | apply below_drew1)))
        replace HB := Aside0.mk (show Below w.heap.size w (wr.drewN nq) from (by repeat (first | exact HB.out | apply pw_below_drewN | apply below_drew1)))
        generalize wr.drewN nq = wq at HP HO HB ⊢
        obtain ⟨j0, hj0, _, hjz, _⟩ := info_parts info3
        have hcut1 := cut_to (P := Try.prog) 36 3 .i64 Try.underlying36 hj0 Ao l.length co (m : Int) (by omega) (by have := HM.out; omega) (Kd.R_reads' HO.out).2.1
        have hcut2 := cut_from (P := Try.prog) 36 3 .i64 Try.underlying36 hj0 (Kd.int .i64).sz hjz Ao l.length co (m : Int) (by omega) (by have := HM.out; omega)
        have HCD := Kd.C_drop (m := m) (c := co) (Kd.R_reads' HO.out).2.2 HM.out (Kd.R_reads' HO.out).2.1
        rw [Int.toNat_natCast] at hcut1 hcut2
        rw [List.length_drop] at HCD
        obtain ⟨AD, hAD⟩ : ∃ AD, (if co = m then Ao else Ao.map (·.add (m * (Kd.int .i64).sz))) = AD := ⟨_, rfl⟩
        rw [hAD] at hcut2 HCD
        obtain ⟨cD, hcD⟩ : ∃ cD, co - m = cD := ⟨_, rfl⟩
        rw [hcD] at hcut2
        replace HCD := Aside0.mk HCD
        clear hAD hcD hj0 hjz
        refine start_ (n := 11) (S := (fun _ : World => True)) (ds := [4, 8, 9]) #[false, false, false, false, false, false, false, false, false, false, false] (by kernel_rfl) rfl rfl trivial (fun hHeld => ?_)
        replace HP := Aside0.mk (HP.out.next (below_drew (Below.refl _ _)))
        replace HO := Aside0.mk (Kd.R_below HO.out (below_drew (Below.refl _ _)))
        replace HCD := Aside0.mk (Kd.C_below HCD.out (below_drew (Below.refl _ _)))
        replace HB := Aside0.mk (below_drew HB.out)
        generalize wq.drew = wd_ at HP HO HCD HB hHeld ⊢
        refine pure_ (i := 0) (N := some 36) (v := ?_) (a' := ?_) #[true, false, false, false, false, false, false, false, false, false, false] rfl rfl (by kernel_rfl) (fun _ _ _ h => h) (Or.inl ⟨by rfl, ?_⟩) ?_ ?_
        rotate_left
        · intro w'
          go_simp
          try with_reducible rfl
        rotate_left
        · simp only [Act.put, List.setIfInBounds_toArray, List.set_cons_zero, List.set_cons_succ, i64_w, i32_w]
          rfl
        refine pure_ (i := 1) (N := some 37) (v := ?_) (a' := ?_) #[true, true, false, false, false, false, false, false, false, false, false] rfl rfl (by kernel_rfl) (fun _ _ _ h => h) (Or.inl ⟨by rfl, ?_⟩) ?_ ?_
        rotate_left
        · intro w'
          go_simp
          try with_reducible rfl
        rotate_left
        · simp only [Act.put, List.setIfInBounds_toArray, List.set_cons_zero, List.set_cons_succ, i64_w, i32_w]
          rfl
        refine pure_ (i := 2) (N := some 38) (v := ?_) (a' := ?_) #[true, true, true, false, false, false, false, false, false, false, false] rfl rfl (by kernel_rfl) (fun _ _ _ h => h) (Or.inl ⟨by rfl, ?_⟩) ?_ ?_
        rotate_left
        · intro w'
          go_simp
          try with_reducible rfl
        rotate_left
        · simp only [Act.put, List.setIfInBounds_toArray, List.set_cons_zero, List.set_cons_succ, i64_w, i32_w]
          rfl
        refine pure_ (i := 3) (N := some 39) (v := ?_) (a' := ?_) #[true, true, true, true, false, false, false, false, false, false, false] rfl rfl (by kernel_rfl) (fun _ _ _ h => h) (Or.inl ⟨by rfl, ?_⟩) ?_ ?_
        rotate_left
        · intro w'
          go_simp
          try with_reducible rfl
        rotate_left
        · simp only [Act.put, List.setIfInBounds_toArray, List.set_cons_zero, List.set_cons_succ, i64_w, i32_w]
          rfl
        refine pure_ (i := 5) (N := some 41) (v := ?_) (a' := ?_) #[true, true, true, true, false, true, false, false, false, false, false] rfl rfl (by kernel_rfl) (fun _ _ _ h => h) (Or.inl ⟨by rfl, ?_⟩) ?_ ?_
        rotate_left
        · intro w'
          go_simp
          try with_reducible rfl
        rotate_left
        · simp only [Act.put, List.setIfInBounds_toArray, List.set_cons_zero, List.set_cons_succ, i64_w, i32_w]
          rfl
        refine pure_ (i := 6) (N := some 42) (v := ?_) (a' := ?_) #[true, true, true, true, false, true, true, false, false, false, false] rfl rfl (by kernel_rfl) (fun _ _ _ h => h) (Or.inl ⟨by rfl, ?_⟩) ?_ ?_
        rotate_left
        · intro w'
          go_simp
          try with_reducible rfl
        rotate_left
        · simp only [Act.put, List.setIfInBounds_toArray, List.set_cons_zero, List.set_cons_succ, i64_w, i32_w]
          rfl
        refine pure_ (i := 7) (N := some 43) (v := ?_) (a' := ?_) #[true, true, true, true, false, true, true, true, false, false, false] rfl rfl (by kernel_rfl) (fun _ _ _ h => h) (Or.inl ⟨by rfl, ?_⟩) ?_ ?_
        rotate_left
        · intro w'
          go_simp
          try with_reducible rfl
        rotate_left
        · simp only [Act.put, List.setIfInBounds_toArray, List.set_cons_zero, List.set_cons_succ, i64_w, i32_w]
          rfl
        refine last_ (i := 4) (N := (some 40)) #[true, true, true, true, true, true, true, true, false, false, false] rfl rfl (by kernel_rfl) (by decide) (fun K hK => ?_)
        refine Kd.R_lit_step (Kd.int .i64) _ 3 (by rfl) (N := 40) rfl (xs := [(n : Int)]) (inner := [.int .i64 (n : Int)]) (ok := fun _ => True) (okp := fun _ => True) ?hr4 ?hp4 (fun _ hk => hk) trivial (Below.refl _ _) (Nat.le_refl _) (by simp) ?_
        case hr4 => first | (go_simp; done) | (go_simp; rfl)
        case hp4 => exact Reps.one (show Kd.M (Kd.int .i64) _ _ _ (n : Int) [.int .i64 (n : Int)] from rfl) (Reps.none _ _)
        intro vL wL hoL hb hg_ hnew_
        have n0_ := Aside0.mk (Kd.R_elder' HO.out (Kd.R_base hoL) hb)
        have n1_ := Aside0.mk (Kd.R_lower (Kd.R_new' hoL (Kd.R_lt HO.out)) (below_size HB.out))
        have n2_ := Aside0.mk (below_step HB.out hb)
        have n3_ := Aside0.mk (HP.out.next hb)
        have n4_ := Aside0.mk (Kd.C_below HCD.out hb)
        clear HO HB HP HCD hb hoL hg_ hnew_
        have HO := n0_
        have HI := n1_
        have HB := n2_
        have HP := n3_
        have HCD := n4_
        clear n0_ n1_ n2_ n3_ n4_
        refine hK.out _ _ ?_
        clear hK K
        refine norm_ (a' := ?_) ?_ ?_
        rotate_left
        · show Act.put _ (some 40) _ = _
          simp only [Act.put, List.setIfInBounds_toArray, List.set_cons_zero, List.set_cons_succ, i64_w, i32_w]
          rfl
        refine last_ (i := 8) (N := (some 44)) #[true, true, true, true, true, true, true, true, true, false, false] rfl rfl (by kernel_rfl) (by decide) (fun K hK => ?_)
        refine Kd.R_append_rows_step (Kd.int .i64) (w0 := w) w.heap.size (by rfl) (.tmp 40) (.tmp 43) 36 3 (.int .i64 0) 8 rfl Try.underlying36 info3 rfl (by decide) (by omega) vL [(n : Int)] (l.drop m) AD (l.length - m) cD (fun k_ => some k_ ≠ (.slice Ao l.length co : Value).ownBlock) (fun _ => False) rfl rfl ?aO ?aR (fun _ _ h => h) (fun _ h => h.elim) ?aF ?aB ?aS ?aL ?_
        case aR => exact HCD.out
        case aB => exact HB.out
        case aF => exact fun k_ hk => Kd.fresh' (Kd.R_lt HO.out) k_ hk
        case aO => exact Kd.R_mono HI.out (fun _ hk => hk.2)
        case aS => exact below_size HB.out
        case aL => have h_ := LL.out; show (1 + (l.length - m)) * 8 ≤ _; omega
        intro vI wI ho hb hg hat
        have n0_ := Aside0.mk (Kd.R_after (ok := fun _ => True) HO.out hg hat)
        have n1_ := Aside0.mk ho
        have n2_ := Aside0.mk hb
        have n3_ := Aside0.mk (show PolL wI g p from (hg.block g (blk_lt HP.out) (Kd.R_ne HI.out HP.out (by decide))).trans HP.out)
        clear HO HI HB HP HCD ho hb hg hat
        have HO := n0_
        have HI := n1_
        have HB := n2_
        have HP := n3_
        clear n0_ n1_ n2_ n3_
        obtain ⟨AI, cI, eI⟩ := Kd.R_slice HI.out
        subst eI
        refine hK.out _ _ ?_
        clear hK K
        refine norm_ (a' := ?_) ?_ ?_
        rotate_left
        · show Act.put _ (some 44) _ = _
          simp only [Act.put, List.setIfInBounds_toArray, List.set_cons_zero, List.set_cons_succ, i64_w, i32_w]
          rfl
        refine last_ (i := 9) (N := (some 45)) #[true, true, true, true, true, true, true, true, true, true, false] rfl rfl (by kernel_rfl) (by decide) (fun K hK => ?_)
        refine Kd.R_append_rows_step (Kd.int .i64) (w0 := w) w.heap.size (by rfl) (.tmp 38) (.tmp 44) 36 3 (.int .i64 0) 8 rfl Try.underlying36 info3 rfl (by decide) (by omega) (.slice Ao m co) (l.take m) ([(n : Int)] ++ l.drop m) _ _ _ (fun k_ => some k_ ≠ (.slice AI ([(n : Int)] ++ l.drop m).length cI : Value).ownBlock) (fun _ => False) rfl rfl ?aO ?aR (fun _ _ h => h) (fun _ h => h.elim) ?aF ?aB ?aS ?aL ?_
        case aR => exact (Kd.R_reads' HI.out).2.2
        case aB => exact HB.out
        case aF => exact fun k_ hk => Kd.fresh' (Kd.R_lt HI.out) k_ hk
        case aO => exact Kd.R_mono (Kd.R_take HO.out HM.out) (fun _ hk => hk.2)
        case aS => exact below_size HB.out
        case aL => have h_ := LL.out; rw [List.length_append, List.length_drop, List.length_take]; show (min m l.length + (1 + (l.length - m))) * 8 ≤ _; omega
        intro vO wO ho hb hg hat
        have n0_ := Aside0.mk (show Kd.R (Kd.int .i64) 3 wO w.heap.size (fun _ => True) vO (rkPut p l n) by unfold rkPut; rw [PPE.out]; exact Kd.R_mono ho (fun _ _ => trivial))
        have n2_ := Aside0.mk hb
        have n3_ := Aside0.mk (show PolL wO g p from (hg.block g (blk_lt HP.out) (Kd.R_ne (Kd.R_take HO.out HM.out) HP.out (by decide))).trans HP.out)
        clear HO HI HB HP ho hb hg hat
        have HO := n0_
        have HB := n2_
        have HP := n3_
        clear n0_ n2_ n3_
        refine hK.out _ _ ?_
        clear hK K
        refine norm_ (a' := ?_) ?_ ?_
        rotate_left
        · show Act.put _ (some 45) _ = _
          simp only [Act.put, List.setIfInBounds_toArray, List.set_cons_zero, List.set_cons_succ, i64_w, i32_w]
          rfl
        refine pure_ (i := 10) (N := some 3) (v := ?_) (a' := ?_) #[true, true, true, true, true, true, true, true, true, true, true] rfl rfl (by kernel_rfl) (fun _ _ _ h => h) (Or.inl ⟨by rfl, ?_⟩) ?_ ?_
        rotate_left
        · intro w'
          go_simp
          try with_reducible rfl
        rotate_left
        · simp only [Act.put, List.setIfInBounds_toArray, List.set_cons_zero, List.set_cons_succ, i64_w, i32_w]
          rfl
        refine done_ (by kernel_rfl) ?_
        go_wp2
        refine ⟨⟨n + 1, rkPut p l n, ?_, ?_, by rfl, ?_, ?_, ?_, HP, HO, HB⟩, ?_⟩
        · have := IN.out; omega
        · have := IN.out; omega
        · exact ⟨by rw [show 7 - (n + 1) = 6 - n by omega]; exact hE.out⟩
        · exact ⟨rkPut_in HIN.out IN.out⟩
        · exact ⟨by have := LN.out; have := rkPut_len p l n; omega⟩
        · simp [intOf]; have := IN.out; omega
      obtain ⟨q, rfl⟩ : ∃ q, m = q + 1 := ⟨m - 1, by omega⟩
      obtain ⟨ad, e_, hxc⟩ := Kd.at_int (Kd.R_reads' HO.out).2.2 (q : Int) (by omega) (by omega)
      have hrd : rd l (q : Int) = l.getD q 0 := rfl
      rw [hrd, show ((q : Int)).toNat = q from rfl] at hxc
      have hyin := HIN.out (l.getD q 0) (by rw [List.getD_eq_getElem?_getD, List.getElem?_eq_getElem (by omega)]; exact List.getElem_mem _)
      have cN := HP.out.at n IN.out
      rw [hx.out] at cN
      have hEE := E.out
      rw [rkPos_succ] at hEE
      obtain ⟨y, hy⟩ : ∃ y, l.getD q 0 = y := ⟨_, rfl⟩
      rw [hy] at hxc hyin hEE
      obtain ⟨hy0, hy7⟩ := hyin
      have cY := HP.out.at y.toNat (by omega)
      obtain ⟨z, hz2⟩ : ∃ z, rkAt p y.toNat = z := ⟨_, rfl⟩
      rw [hz2] at cY hEE
      have w1 : decide ((0 : Int) < (q : Int) + 1) = true := decide_eq_true (by omega)
      have w3 : (q : Int) < (l.length : Int) := by omega
      have w4 : q < l.length := by omega
      have w2 : IntKind.i64.wrap (q : Int) = (q : Int) := by
        have := LL.out
        rw [IntKind.wrap_i64]; omega
      have w6 : wrap64 (q : Int) = (q : Int) := by
        have := LL.out
        rw [wrap64]; omega
      have w7 : IntKind.i64.wrap ((q : Int) + 1 - 1) = (q : Int) := by rw [show (q : Int) + 1 - 1 = (q : Int) by omega]; exact w2
      have HM := Aside0.mk hm
      have HAo := Aside0.mk e_
      by_cases hlz : z < x
      case pos =>
        rw [if_pos hlz] at hEE
        replace hEE := Aside0.mk hEE
        have w5 : decide (z < x) = true := decide_eq_true hlz
        clear hz hy hz2 hlz hm E hrd
        go_wp2
        go_quiet (fail)
        go_wp2
        clear w1 w2 w3 w4 w5 w6 w7 hxc cN cY
        exact ⟨⟨q, by have := HM.out; omega, by rfl, hEE, ⟨HP.out.next (by repeat (first | exact Below.refl _ _ | apply pw_below_drewN | apply below_drew1))⟩, ⟨Kd.R_below HO.out (by repeat (first | exact Below.refl _ _ | apply pw_below_drewN | apply below_drew1))⟩, ⟨(by repeat (first | exact HB.out | apply pw_below_drewN | apply below_drew1))⟩⟩, by simp [intOf]⟩
      rw [if_neg hlz] at hEE
      subst hEE
      have PPE := PPE0
      have w5 : decide (z < x) = false := decide_eq_false hlz
      obtain ⟨m, hm0⟩ : ∃ m, m = q + 1 := ⟨_, rfl⟩
      rw [← hm0] at PPE HM
      replace hm0 := Aside0.mk hm0
      clear hz hy hz2 hlz hm E hrd PPE0
      go_wp2
      go_quiet (fail)
      go_wp2
      clear w1 w2 w3 w4 w5 w6 w7 hxc cN cY e_ HAo
      have hm1 : (q : Int) + 1 = (m : Int) := by have := hm0.out; omega
      have hm2 : ((q + 1 : Nat) : Int) = (m : Int) := by have := hm0.out; omega
      try rw [hm1]
      try rw [hm2]
      clear hm0 hm1 hm2
      replace HP := Aside0.mk (show PolL (wr.drewN nq) g p from HP.out.next (by repeat (first | exact Below.refl _ _ | apply pw_below_drewN | apply below_drew1)))
      replace HO := Aside0.mk (show Kd.R (Kd.int .i64) 3 (wr.drewN nq) w.heap.size (fun _ => True) (.slice Ao l.length co) l from Kd.R_below HO.out (by repeat (first | exact Below.refl _ _ | apply pw_below_drewN | apply below_drew1)))
      replace HB := Aside0.mk (show Below w.heap.size w (wr.drewN nq) from (by repeat (first | exact HB.out | apply pw_below_drewN | apply below_drew1)))
      generalize wr.drewN nq = wq at HP HO HB ⊢
      obtain ⟨j0, hj0, _, hjz, _⟩ := info_parts info3
      have hcut1 := cut_to (P := Try.prog) 36 3 .i64 Try.underlying36 hj0 Ao l.length co (m : Int) (by omega) (by have := HM.out; omega) (Kd.R_reads' HO.out).2.1
      have hcut2 := cut_from (P := Try.prog) 36 3 .i64 Try.underlying36 hj0 (Kd.int .i64).sz hjz Ao l.length co (m : Int) (by omega) (by have := HM.out; omega)
      have HCD := Kd.C_drop (m := m) (c := co) (Kd.R_reads' HO.out).2.2 HM.out (Kd.R_reads' HO.out).2.1
      rw [Int.toNat_natCast] at hcut1 hcut2
      rw [List.length_drop] at HCD
      obtain ⟨AD, hAD⟩ : ∃ AD, (if co = m then Ao else Ao.map (·.add (m * (Kd.int .i64).sz))) = AD := ⟨_, rfl⟩
      rw [hAD] at hcut2 HCD
      obtain ⟨cD, hcD⟩ : ∃ cD, co - m = cD := ⟨_, rfl⟩
      rw [hcD] at hcut2
      replace HCD := Aside0.mk HCD
      clear hAD hcD hj0 hjz
      refine start_ (n := 11) (S := (fun _ : World => True)) (ds := [4, 8, 9]) #[false, false, false, false, false, false, false, false, false, false, false] (by kernel_rfl) rfl rfl trivial (fun hHeld => ?_)
      replace HP := Aside0.mk (HP.out.next (below_drew (Below.refl _ _)))
      replace HO := Aside0.mk (Kd.R_below HO.out (below_drew (Below.refl _ _)))
      replace HCD := Aside0.mk (Kd.C_below HCD.out (below_drew (Below.refl _ _)))
      replace HB := Aside0.mk (below_drew HB.out)
      generalize wq.drew = wd_ at HP HO HCD HB hHeld ⊢
      refine pure_ (i := 0) (N := some 36) (v := ?_) (a' := ?_) #[true, false, false, false, false, false, false, false, false, false, false] rfl rfl (by kernel_rfl) (fun _ _ _ h => h) (Or.inl ⟨by rfl, ?_⟩) ?_ ?_
      rotate_left
      · intro w'
        go_simp
        try with_reducible rfl
      rotate_left
      · simp only [Act.put, List.setIfInBounds_toArray, List.set_cons_zero, List.set_cons_succ, i64_w, i32_w]
        rfl
      refine pure_ (i := 1) (N := some 37) (v := ?_) (a' := ?_) #[true, true, false, false, false, false, false, false, false, false, false] rfl rfl (by kernel_rfl) (fun _ _ _ h => h) (Or.inl ⟨by rfl, ?_⟩) ?_ ?_
      rotate_left
      · intro w'
        go_simp
        try with_reducible rfl
      rotate_left
      · simp only [Act.put, List.setIfInBounds_toArray, List.set_cons_zero, List.set_cons_succ, i64_w, i32_w]
        rfl
      refine pure_ (i := 2) (N := some 38) (v := ?_) (a' := ?_) #[true, true, true, false, false, false, false, false, false, false, false] rfl rfl (by kernel_rfl) (fun _ _ _ h => h) (Or.inl ⟨by rfl, ?_⟩) ?_ ?_
      rotate_left
      · intro w'
        go_simp
        try with_reducible rfl
      rotate_left
      · simp only [Act.put, List.setIfInBounds_toArray, List.set_cons_zero, List.set_cons_succ, i64_w, i32_w]
        rfl
      refine pure_ (i := 3) (N := some 39) (v := ?_) (a' := ?_) #[true, true, true, true, false, false, false, false, false, false, false] rfl rfl (by kernel_rfl) (fun _ _ _ h => h) (Or.inl ⟨by rfl, ?_⟩) ?_ ?_
      rotate_left
      · intro w'
        go_simp
        try with_reducible rfl
      rotate_left
      · simp only [Act.put, List.setIfInBounds_toArray, List.set_cons_zero, List.set_cons_succ, i64_w, i32_w]
        rfl
      refine pure_ (i := 5) (N := some 41) (v := ?_) (a' := ?_) #[true, true, true, true, false, true, false, false, false, false, false] rfl rfl (by kernel_rfl) (fun _ _ _ h => h) (Or.inl ⟨by rfl, ?_⟩) ?_ ?_
      rotate_left
      · intro w'
        go_simp
        try with_reducible rfl
      rotate_left
      · simp only [Act.put, List.setIfInBounds_toArray, List.set_cons_zero, List.set_cons_succ, i64_w, i32_w]
        rfl
      refine pure_ (i := 6) (N := some 42) (v := ?_) (a' := ?_) #[true, true, true, true, false, true, true, false, false, false, false] rfl rfl (by kernel_rfl) (fun _ _ _ h => h) (Or.inl ⟨by rfl, ?_⟩) ?_ ?_
      rotate_left
      · intro w'
        go_simp
        try with_reducible rfl
      rotate_left
      · simp only [Act.put, List.setIfInBounds_toArray, List.set_cons_zero, List.set_cons_succ, i64_w, i32_w]
        rfl
      refine pure_ (i := 7) (N := some 43) (v := ?_) (a' := ?_) #[true, true, true, true, false, true, true, true, false, false, false] rfl rfl (by kernel_rfl) (fun _ _ _ h => h) (Or.inl ⟨by rfl, ?_⟩) ?_ ?_
      rotate_left
      · intro w'
        go_simp
        try with_reducible rfl
      rotate_left
      · simp only [Act.put, List.setIfInBounds_toArray, List.set_cons_zero, List.set_cons_succ, i64_w, i32_w]
        rfl
      refine last_ (i := 4) (N := (some 40)) #[true, true, true, true, true, true, true, true, false, false, false] rfl rfl (by kernel_rfl) (by decide) (fun K hK => ?_)
      refine Kd.R_lit_step (Kd.int .i64) _ 3 (by rfl) (N := 40) rfl (xs := [(n : Int)]) (inner := [.int .i64 (n : Int)]) (ok := fun _ => True) (okp := fun _ => True) ?hr4 ?hp4 (fun _ hk => hk) trivial (Below.refl _ _) (Nat.le_refl _) (by simp) ?_
      case hr4 => first | (go_simp; done) | (go_simp; rfl)
      case hp4 => exact Reps.one (show Kd.M (Kd.int .i64) _ _ _ (n : Int) [.int .i64 (n : Int)] from rfl) (Reps.none _ _)
      intro vL wL hoL hb hg_ hnew_
      have n0_ := Aside0.mk (Kd.R_elder' HO.out (Kd.R_base hoL) hb)
      have n1_ := Aside0.mk (Kd.R_lower (Kd.R_new' hoL (Kd.R_lt HO.out)) (below_size HB.out))
      have n2_ := Aside0.mk (below_step HB.out hb)
      have n3_ := Aside0.mk (HP.out.next hb)
      have n4_ := Aside0.mk (Kd.C_below HCD.out hb)
      clear HO HB HP HCD hb hoL hg_ hnew_
      have HO := n0_
      have HI := n1_
      have HB := n2_
      have HP := n3_
      have HCD := n4_
      clear n0_ n1_ n2_ n3_ n4_
      refine hK.out _ _ ?_
      clear hK K
      refine norm_ (a' := ?_) ?_ ?_
      rotate_left
      · show Act.put _ (some 40) _ = _
        simp only [Act.put, List.setIfInBounds_toArray, List.set_cons_zero, List.set_cons_succ, i64_w, i32_w]
        rfl
      refine last_ (i := 8) (N := (some 44)) #[true, true, true, true, true, true, true, true, true, false, false] rfl rfl (by kernel_rfl) (by decide) (fun K hK => ?_)
      refine Kd.R_append_rows_step (Kd.int .i64) (w0 := w) w.heap.size (by rfl) (.tmp 40) (.tmp 43) 36 3 (.int .i64 0) 8 rfl Try.underlying36 info3 rfl (by decide) (by omega) vL [(n : Int)] (l.drop m) AD (l.length - m) cD (fun k_ => some k_ ≠ (.slice Ao l.length co : Value).ownBlock) (fun _ => False) rfl rfl ?aO ?aR (fun _ _ h => h) (fun _ h => h.elim) ?aF ?aB ?aS ?aL ?_
      case aR => exact HCD.out
      case aB => exact HB.out
      case aF => exact fun k_ hk => Kd.fresh' (Kd.R_lt HO.out) k_ hk
      case aO => exact Kd.R_mono HI.out (fun _ hk => hk.2)
      case aS => exact below_size HB.out
      case aL => have h_ := LL.out; show (1 + (l.length - m)) * 8 ≤ _; omega
      intro vI wI ho hb hg hat
      have n0_ := Aside0.mk (Kd.R_after (ok := fun _ => True) HO.out hg hat)
      have n1_ := Aside0.mk ho
      have n2_ := Aside0.mk hb
      have n3_ := Aside0.mk (show PolL wI g p from (hg.block g (blk_lt HP.out) (Kd.R_ne HI.out HP.out (by decide))).trans HP.out)
      clear HO HI HB HP HCD ho hb hg hat
      have HO := n0_
      have HI := n1_
      have HB := n2_
      have HP := n3_
      clear n0_ n1_ n2_ n3_
      obtain ⟨AI, cI, eI⟩ := Kd.R_slice HI.out
      subst eI
      refine hK.out _ _ ?_
      clear hK K
      refine norm_ (a' := ?_) ?_ ?_
      rotate_left
      · show Act.put _ (some 44) _ = _
        simp only [Act.put, List.setIfInBounds_toArray, List.set_cons_zero, List.set_cons_succ, i64_w, i32_w]
        rfl
      refine last_ (i := 9) (N := (some 45)) #[true, true, true, true, true, true, true, true, true, true, false] rfl rfl (by kernel_rfl) (by decide) (fun K hK => ?_)
      refine Kd.R_append_rows_step (Kd.int .i64) (w0 := w) w.heap.size (by rfl) (.tmp 38) (.tmp 44) 36 3 (.int .i64 0) 8 rfl Try.underlying36 info3 rfl (by decide) (by omega) (.slice Ao m co) (l.take m) ([(n : Int)] ++ l.drop m) _ _ _ (fun k_ => some k_ ≠ (.slice AI ([(n : Int)] ++ l.drop m).length cI : Value).ownBlock) (fun _ => False) rfl rfl ?aO ?aR (fun _ _ h => h) (fun _ h => h.elim) ?aF ?aB ?aS ?aL ?_
      case aR => exact (Kd.R_reads' HI.out).2.2
      case aB => exact HB.out
      case aF => exact fun k_ hk => Kd.fresh' (Kd.R_lt HI.out) k_ hk
      case aO => exact Kd.R_mono (Kd.R_take HO.out HM.out) (fun _ hk => hk.2)
      case aS => exact below_size HB.out
      case aL => have h_ := LL.out; rw [List.length_append, List.length_drop, List.length_take]; show (min m l.length + (1 + (l.length - m))) * 8 ≤ _; omega
      intro vO wO ho hb hg hat
      have n0_ := Aside0.mk (show Kd.R (Kd.int .i64) 3 wO w.heap.size (fun _ => True) vO (rkPut p l n) by unfold rkPut; rw [PPE.out]; exact Kd.R_mono ho (fun _ _ => trivial))
      have n2_ := Aside0.mk hb
      have n3_ := Aside0.mk (show PolL wO g p from (hg.block g (blk_lt HP.out) (Kd.R_ne (Kd.R_take HO.out HM.out) HP.out (by decide))).trans HP.out)
      clear HO HI HB HP ho hb hg hat
      have HO := n0_
      have HB := n2_
      have HP := n3_
      clear n0_ n2_ n3_
      refine hK.out _ _ ?_
      clear hK K
      refine norm_ (a' := ?_) ?_ ?_
      rotate_left
      · show Act.put _ (some 45) _ = _
        simp only [Act.put, List.setIfInBounds_toArray, List.set_cons_zero, List.set_cons_succ, i64_w, i32_w]
        rfl
      refine pure_ (i := 10) (N := some 3) (v := ?_) (a' := ?_) #[true, true, true, true, true, true, true, true, true, true, true] rfl rfl (by kernel_rfl) (fun _ _ _ h => h) (Or.inl ⟨by rfl, ?_⟩) ?_ ?_
      rotate_left
      · intro w'
        go_simp
        try with_reducible rfl
      rotate_left
      · simp only [Act.put, List.setIfInBounds_toArray, List.set_cons_zero, List.set_cons_succ, i64_w, i32_w]
        rfl
      refine done_ (by kernel_rfl) ?_
      go_wp2
      refine ⟨⟨n + 1, rkPut p l n, ?_, ?_, by rfl, ?_, ?_, ?_, HP, HO, HB⟩, ?_⟩
      · have := IN.out; omega
      · have := IN.out; omega
      · exact ⟨by rw [show 7 - (n + 1) = 6 - n by omega]; exact hE.out⟩
      · exact ⟨rkPut_in HIN.out IN.out⟩
      · exact ⟨by have := LN.out; have := rkPut_len p l n; omega⟩
      · simp [intOf]; have := IN.out; omega

/-! ### pestlelaw46_awake: function 15 -/
def exP : PV := ⟨3, 1, 8, 1, 32, 16, 0, 0, 0, 3, 0, 2, 0⟩
def exQ : QV := ⟨5, 4, 0, 0, 23⟩
def pestlelaw46_awake.f (k : Nat) : Option Bool := if policy_Behind.f k exP exQ = some (true, 0) then some true else none
theorem pestlelaw46_awake.mono : ∀ k, LeO (pestlelaw46_awake.f k) (pestlelaw46_awake.f (k + 1)) := by
  intro k r h
  unfold pestlelaw46_awake.f at h ⊢
  by_cases q : policy_Behind.f k exP exQ = some (true, 0)
  · rw [if_pos q] at h
    rw [if_pos (policy_Behind.mono exP exQ k _ q)]
    exact h
  · rw [if_neg q] at h; cases h
theorem pestlelaw46_awake.yes {k : Nat} {r : Bool} (h : pestlelaw46_awake.f k = some r) : r = true ∧ policy_Behind.f k exP exQ = some (true, 0) := by
  unfold pestlelaw46_awake.f at h
  by_cases q : policy_Behind.f k exP exQ = some (true, 0)
  · rw [if_pos q] at h; exact ⟨(Option.some.inj h).symm, q⟩
  · rw [if_neg q] at h; cases h
theorem exP_ranked : rkRun exP 6 1 [] = [3, 5] := by decide +kernel
set_option maxHeartbeats 8000000 in
set_option maxRecDepth 100000 in
theorem pestlelaw46_awake.calls (k : Nat) (r : Bool) (w : World) (h : pestlelaw46_awake.f k = some r) :
    Calls Try.prog 15 #[] w fun e w' => e = .returned (.bool r) ∧ Below w.heap.size w w' := by
  obtain ⟨rfl, hB⟩ := pestlelaw46_awake.yes h
  have HB := Aside0.mk (Below.refl w.heap.size w)
  have SM := fun w => policy_Behind.calls k exP exQ true 0 w hB
  have SR := fun w => policy_Ranked.calls exP w
  rw [exP_ranked] at SR
  unfold exP exQ at SM
  unfold exP at SR
  dsimp only at SM SR
  replace SM := Aside0.mk SM
  replace SR := Aside0.mk SR
  clear h hB
  go_enter Try.func15, Try.ntmps15
  go_wp2_with (first | (go_at_call 17; (with_reducible refine (SM.out _).mono ?_); rintro e wn ⟨rfl, hb⟩; have n0_ := Aside0.mk (below_step (below_alloc HB.out _) hb); have HP := Aside0.mk (PolL.next (show PolL (w.alloc _) w.heap.size exP from blk_new w _) hb); clear HB hb; have HB := n0_; clear n0_; have hc := HP.out.cells; unfold exP at hc; dsimp only at hc; obtain ⟨c0, c1, c2, c3, c4, c5, c6, c7, c8, c9, c10, c11, c12⟩ := hc) | (go_at_call 23; (with_reducible refine (SR.out _).mono ?_); rintro e wn ⟨v0_, rfl, hR, hb⟩; have n0_ := Aside0.mk (below_step HB.out hb); clear HB hb; have HB := n0_; clear n0_; obtain ⟨Ad, cd, ed⟩ := Kd.R_slice hR; subst ed; obtain ⟨ad, e1, x0⟩ := Kd.at_int (Kd.R_reads' hR).2.2 0 (by decide) (by decide); obtain ⟨ad', e2, x1⟩ := Kd.at_int (Kd.R_reads' hR).2.2 1 (by decide) (by decide); cases e1; cases e2; rw [show rd [3, 5] 0 = 3 from rfl] at x0; rw [show rd [3, 5] 1 = 5 from rfl] at x1; have y0 : wn.cell? (ad.add 0) = some (.int .i64 3) := x0; have y1 : wn.cell? (ad.add 1) = some (.int .i64 5) := x1; have z0 : wn.cell? ad = some (.int .i64 3) := x0; have z1 : wn.cell? ⟨ad.block, ad.off + 1, none⟩ = some (.int .i64 5) := x1; clear hR x0 x1))
  go_ret
  exact ⟨rfl, HB.out⟩

/-! ### pestlelaw46_PolicyOwn: function 4 -/
def pq (p : PV) : QV := ⟨p.a0, p.a1, p.a2, p.a3, p.a4⟩
/-- a policy's parameters with one of their numbers less -/
def dq (p : PV) (what by_ : Int) : QV := if what = 0 then ⟨p.a0, wrap64 (p.a1 - by_), p.a2, p.a3, p.a4⟩ else if what = 1 then (if p.a0 = 6 then ⟨p.a0, p.a1, p.a2, p.a3, wrap64 (p.a4 - by_)⟩ else ⟨p.a0, p.a1, wrap64 (p.a2 - by_), p.a3, p.a4⟩) else if what = 2 then ⟨p.a0, p.a1, p.a2, wrap64 (p.a3 - by_), p.a4⟩ else ⟨p.a0, p.a1, p.a2, p.a3, wrap64 (p.a4 - by_)⟩
def lowQ (k : Nat) (q : QV) (p : PV) : Option Bool := policy_Lower.f k q.a0 q.a1 q.a2 q.a3 q.a4 p.a0 p.a1 p.a2 p.a3 p.a4
def pestlelaw46_PolicyOwn.tail (k : Nat) (p : PV) (q : QV) : Option Bool := (lowQ k q p).bind fun b2 => (if b2 = true then (policy_Behind.f k p q).bind fun be2 => (if be2.2 ≠ 0 ∨ be2.1 = true then some true else none) else none)
def pestlelaw46_PolicyOwn.fp (k : Nat) (p : PV) (what by_ : Int) : Option Bool := (pestlelaw46_awake.f k).bind fun _ => (policy_Check.f k p).bind fun c => (if c ≠ 0 then some true else (policy_Behind.f k p (pq p)).bind fun be => (if be = (false, 0) then (lowQ k (pq p) p).bind fun b => (if b = false then (policy_Costs.f p.a0 p.a1 p.a2 p.a3 p.a4).bind fun cs => (if what < 0 then some true else (if (cs.length : Int) ≤ what then some true else (if by_ < 1 then some true else (if rd cs what ≤ by_ then some true else pestlelaw46_PolicyOwn.tail k p (dq p what by_))))) else none) else none))
def pestlelaw46_PolicyOwn.f (k : Nat) (a0_0 : Int) (a0_1 : Int) (a0_2 : Int) (a0_3 : Int) (a0_4 : Int) (a0_5 : Int) (a0_6 : Int) (a0_7 : Int) (a0_8 : Int) (a0_9 : Int) (a0_10 : Int) (a0_11 : Int) (a0_12 : Int) (a1 a2 : Int) : Option Bool := pestlelaw46_PolicyOwn.fp k ⟨a0_0, a0_1, a0_2, a0_3, a0_4, a0_5, a0_6, a0_7, a0_8, a0_9, a0_10, a0_11, a0_12⟩ a1 a2
set_option maxHeartbeats 8000000 in
set_option maxRecDepth 100000 in
theorem pestlelaw46_PolicyOwn.go (k : Nat) (p : PV) (what by_ : Int) (r : Bool) (w : World) (h : pestlelaw46_PolicyOwn.fp k p what by_ = some r) :
    Calls Try.prog 4 #[.agg #[.int .i64 p.a0, .int .i64 p.a1, .int .i64 p.a2, .int .i64 p.a3, .int .i64 p.a4, .int .i64 p.s, .int .i64 p.r0, .int .i64 p.r1, .int .i64 p.r2, .int .i64 p.r3, .int .i64 p.r4, .int .i64 p.r5, .int .i64 p.r6], .int .i64 what, .int .i64 by_] w fun e w' => e = .returned (.bool r) ∧ Below w.heap.size w w' := by
  have HB := Aside0.mk (Below.refl w.heap.size w)
  unfold pestlelaw46_PolicyOwn.fp at h
  replace h := Option.bind_eq_some_iff.mp h
  obtain ⟨aw, A0, h⟩ := h
  obtain ⟨rfl, _⟩ := pestlelaw46_awake.yes A0
  replace A0 := Aside0.mk A0
  replace h := Option.bind_eq_some_iff.mp h
  obtain ⟨c, A3, h⟩ := h
  replace A3 := Aside0.mk A3
  by_cases hc : c = 0
  case neg =>
    rw [if_pos hc] at h
    obtain rfl := Option.some.inj h
    have e1 : (c == 0) = false := beq_eq_false_iff_ne.2 hc
    have e2 : (c != 0) = true := bne_iff_ne.2 hc
    clear h hc
    go_enter Try.func4, Try.ntmps4
    go_wp2_with (first | ((with_reducible refine gate_dst (N := 3) rfl ?_); refine box_event ?hg (N := 3) ?hd (cs := #[.int .i64 p.a0, .int .i64 p.a1, .int .i64 p.a2, .int .i64 p.a3, .int .i64 p.a4, .int .i64 p.s, .int .i64 p.r0, .int .i64 p.r1, .int .i64 p.r2, .int .i64 p.r3, .int .i64 p.r4, .int .i64 p.r5, .int .i64 p.r6]) (t := 26) ?hr ?_; (case hd => rfl); (case hg => rfl); (case hr => rfl); intro g hg wn hbox hb; have HP := Aside0.mk (show PolL wn g p from hbox); have n0_ := Aside0.mk (below_step HB.out hb); clear HB; have HB := n0_; clear n0_; obtain ⟨c0, c1, c2, c3, c4, c5, c6, c7, c8, c9, c10, c11, c12⟩ := HP.out.cells; clear hbox hb hg) | (go_at_call 15; (with_reducible refine (pestlelaw46_awake.calls k true _ A0.out).mono ?_); rintro e wn ⟨rfl, hb⟩; clear c0 c1 c2 c3 c4 c5 c6 c7 c8 c9 c10 c11 c12; have n0_ := Aside0.mk (below_step HB.out hb); have n1_ := Aside0.mk (HP.out.next hb); clear HB HP; have HB := n0_; have HP := n1_; clear n0_ n1_; clear hb; obtain ⟨c0, c1, c2, c3, c4, c5, c6, c7, c8, c9, c10, c11, c12⟩ := HP.out.cells) | (go_at_call 18; (with_reducible refine (policy_Check.calls k p c _ A3.out).mono ?_); rintro e wn ⟨rfl, hb⟩; clear c0 c1 c2 c3 c4 c5 c6 c7 c8 c9 c10 c11 c12; have n0_ := Aside0.mk (below_step HB.out hb); have n1_ := Aside0.mk (HP.out.next hb); clear HB HP; have HB := n0_; have HP := n1_; clear n0_ n1_; clear hb; obtain ⟨c0, c1, c2, c3, c4, c5, c6, c7, c8, c9, c10, c11, c12⟩ := HP.out.cells))
    go_ret
    exact ⟨rfl, HB.out⟩
  rw [if_neg (fun q => q hc)] at h
  subst hc
  replace h := Option.bind_eq_some_iff.mp h
  obtain ⟨⟨b0, b1⟩, A2, h⟩ := h
  by_cases hb : (b0, b1) = (false, 0)
  case neg => rw [if_neg hb] at h; cases h
  rw [if_pos hb] at h
  simp only [Prod.mk.injEq] at hb
  obtain ⟨rfl, rfl⟩ := hb
  have S1 := fun w => policy_Behind.calls k p (pq p) false 0 w A2
  unfold pq at S1
  dsimp only at S1
  replace S1 := Aside0.mk S1
  replace h := Option.bind_eq_some_iff.mp h
  obtain ⟨b, A4, h⟩ := h
  cases b
  case true => rw [if_neg (by decide)] at h; cases h
  rw [if_pos rfl] at h
  replace A4 := Aside0.mk (show policy_Lower.f k p.a0 p.a1 p.a2 p.a3 p.a4 p.a0 p.a1 p.a2 p.a3 p.a4 = some false from A4)
  replace h := Option.bind_eq_some_iff.mp h
  obtain ⟨cs, A5, h⟩ := h
  replace A5 := Aside0.mk A5
  clear A2
  by_cases k1 : what < 0
  · rw [if_pos k1] at h
    obtain rfl := Option.some.inj h
    have e1 : decide (what < 0) = true := decide_eq_true k1
    clear h k1
    go_enter Try.func4, Try.ntmps4
    go_wp2_with (first | ((with_reducible refine gate_dst (N := 3) rfl ?_); refine box_event ?hg (N := 3) ?hd (cs := #[.int .i64 p.a0, .int .i64 p.a1, .int .i64 p.a2, .int .i64 p.a3, .int .i64 p.a4, .int .i64 p.s, .int .i64 p.r0, .int .i64 p.r1, .int .i64 p.r2, .int .i64 p.r3, .int .i64 p.r4, .int .i64 p.r5, .int .i64 p.r6]) (t := 26) ?hr ?_; (case hd => rfl); (case hg => rfl); (case hr => rfl); intro g hg wn hbox hb; have HP := Aside0.mk (show PolL wn g p from hbox); have n0_ := Aside0.mk (below_step HB.out hb); clear HB; have HB := n0_; clear n0_; obtain ⟨c0, c1, c2, c3, c4, c5, c6, c7, c8, c9, c10, c11, c12⟩ := HP.out.cells; clear hbox hb hg) | (go_at_call 15; (with_reducible refine (pestlelaw46_awake.calls k true _ A0.out).mono ?_); rintro e wn ⟨rfl, hb⟩; clear c0 c1 c2 c3 c4 c5 c6 c7 c8 c9 c10 c11 c12; have n0_ := Aside0.mk (below_step HB.out hb); have n1_ := Aside0.mk (HP.out.next hb); clear HB HP; have HB := n0_; have HP := n1_; clear n0_ n1_; clear hb; obtain ⟨c0, c1, c2, c3, c4, c5, c6, c7, c8, c9, c10, c11, c12⟩ := HP.out.cells) | (go_at_call 18; (with_reducible refine (policy_Check.calls k p 0 _ A3.out).mono ?_); rintro e wn ⟨rfl, hb⟩; clear c0 c1 c2 c3 c4 c5 c6 c7 c8 c9 c10 c11 c12; have n0_ := Aside0.mk (below_step HB.out hb); have n1_ := Aside0.mk (HP.out.next hb); clear HB HP; have HB := n0_; have HP := n1_; clear n0_ n1_; clear hb; obtain ⟨c0, c1, c2, c3, c4, c5, c6, c7, c8, c9, c10, c11, c12⟩ := HP.out.cells) | (go_at_call 17; (with_reducible refine (S1.out _).mono ?_); rintro e wn ⟨rfl, hb⟩; clear c0 c1 c2 c3 c4 c5 c6 c7 c8 c9 c10 c11 c12; have n0_ := Aside0.mk (below_step HB.out hb); have n1_ := Aside0.mk (HP.out.next hb); clear HB HP; have HB := n0_; have HP := n1_; clear n0_ n1_; clear hb; obtain ⟨c0, c1, c2, c3, c4, c5, c6, c7, c8, c9, c10, c11, c12⟩ := HP.out.cells) | (go_at_call 21; (with_reducible refine (policy_Lower.calls k p.a0 p.a1 p.a2 p.a3 p.a4 p.a0 p.a1 p.a2 p.a3 p.a4 false _ A4.out).mono ?_); rintro e wn ⟨rfl, hb⟩; clear c0 c1 c2 c3 c4 c5 c6 c7 c8 c9 c10 c11 c12; have n0_ := Aside0.mk (below_step HB.out hb); have n1_ := Aside0.mk (HP.out.next hb); clear HB HP; have HB := n0_; have HP := n1_; clear n0_ n1_; clear hb; obtain ⟨c0, c1, c2, c3, c4, c5, c6, c7, c8, c9, c10, c11, c12⟩ := HP.out.cells) | (go_at_call 22; (with_reducible refine (policy_Costs.calls p.a0 p.a1 p.a2 p.a3 p.a4 cs _ A5.out).mono ?_); rintro e wc ⟨v0_, rfl, hR, hb⟩; have n0_ := Aside0.mk (below_step (below_alloc HB.out _) hb); have n1_ := Aside0.mk (PolL.next (HP.out.next (below_alloc (Below.refl _ _) _)) hb); have HQ := Aside0.mk (QolL.next (q := pq p) (show QolL (wn.alloc _) wn.heap.size (pq p) from blk_new wn _) hb); have HZ := Aside0.mk (show w.heap.size ≤ wn.heap.size from HB.out.size); have HNE := Aside0.mk (show g < wn.heap.size from blk_lt HP.out); clear c0 c1 c2 c3 c4 c5 c6 c7 c8 c9 c10 c11 c12 HB HP hb; have HB := n0_; have HP := n1_; clear n0_ n1_; obtain ⟨Ao, co, eo⟩ := Kd.R_slice hR; subst eo; obtain ⟨gq, hgq⟩ : ∃ gq, wn.heap.size = gq := ⟨_, rfl⟩; rw [hgq] at HQ HZ HNE; have hne : ¬ g = gq := (by have := HNE.out; omega); have hne2 : ¬ gq = g := (by have := HNE.out; omega); clear hR))
    go_ret
    exact ⟨rfl, HB.out⟩
  rw [if_neg k1] at h
  have e1 : decide (what < 0) = false := decide_eq_false k1
  by_cases k2 : (cs.length : Int) ≤ what
  · rw [if_pos k2] at h
    obtain rfl := Option.some.inj h
    have e2 : decide ((cs.length : Int) ≤ what) = true := decide_eq_true k2
    clear h k1 k2
    go_enter Try.func4, Try.ntmps4
    go_wp2_with (first | ((with_reducible refine gate_dst (N := 3) rfl ?_); refine box_event ?hg (N := 3) ?hd (cs := #[.int .i64 p.a0, .int .i64 p.a1, .int .i64 p.a2, .int .i64 p.a3, .int .i64 p.a4, .int .i64 p.s, .int .i64 p.r0, .int .i64 p.r1, .int .i64 p.r2, .int .i64 p.r3, .int .i64 p.r4, .int .i64 p.r5, .int .i64 p.r6]) (t := 26) ?hr ?_; (case hd => rfl); (case hg => rfl); (case hr => rfl); intro g hg wn hbox hb; have HP := Aside0.mk (show PolL wn g p from hbox); have n0_ := Aside0.mk (below_step HB.out hb); clear HB; have HB := n0_; clear n0_; obtain ⟨c0, c1, c2, c3, c4, c5, c6, c7, c8, c9, c10, c11, c12⟩ := HP.out.cells; clear hbox hb hg) | (go_at_call 15; (with_reducible refine (pestlelaw46_awake.calls k true _ A0.out).mono ?_); rintro e wn ⟨rfl, hb⟩; clear c0 c1 c2 c3 c4 c5 c6 c7 c8 c9 c10 c11 c12; have n0_ := Aside0.mk (below_step HB.out hb); have n1_ := Aside0.mk (HP.out.next hb); clear HB HP; have HB := n0_; have HP := n1_; clear n0_ n1_; clear hb; obtain ⟨c0, c1, c2, c3, c4, c5, c6, c7, c8, c9, c10, c11, c12⟩ := HP.out.cells) | (go_at_call 18; (with_reducible refine (policy_Check.calls k p 0 _ A3.out).mono ?_); rintro e wn ⟨rfl, hb⟩; clear c0 c1 c2 c3 c4 c5 c6 c7 c8 c9 c10 c11 c12; have n0_ := Aside0.mk (below_step HB.out hb); have n1_ := Aside0.mk (HP.out.next hb); clear HB HP; have HB := n0_; have HP := n1_; clear n0_ n1_; clear hb; obtain ⟨c0, c1, c2, c3, c4, c5, c6, c7, c8, c9, c10, c11, c12⟩ := HP.out.cells) | (go_at_call 17; (with_reducible refine (S1.out _).mono ?_); rintro e wn ⟨rfl, hb⟩; clear c0 c1 c2 c3 c4 c5 c6 c7 c8 c9 c10 c11 c12; have n0_ := Aside0.mk (below_step HB.out hb); have n1_ := Aside0.mk (HP.out.next hb); clear HB HP; have HB := n0_; have HP := n1_; clear n0_ n1_; clear hb; obtain ⟨c0, c1, c2, c3, c4, c5, c6, c7, c8, c9, c10, c11, c12⟩ := HP.out.cells) | (go_at_call 21; (with_reducible refine (policy_Lower.calls k p.a0 p.a1 p.a2 p.a3 p.a4 p.a0 p.a1 p.a2 p.a3 p.a4 false _ A4.out).mono ?_); rintro e wn ⟨rfl, hb⟩; clear c0 c1 c2 c3 c4 c5 c6 c7 c8 c9 c10 c11 c12; have n0_ := Aside0.mk (below_step HB.out hb); have n1_ := Aside0.mk (HP.out.next hb); clear HB HP; have HB := n0_; have HP := n1_; clear n0_ n1_; clear hb; obtain ⟨c0, c1, c2, c3, c4, c5, c6, c7, c8, c9, c10, c11, c12⟩ := HP.out.cells) | (go_at_call 22; (with_reducible refine (policy_Costs.calls p.a0 p.a1 p.a2 p.a3 p.a4 cs _ A5.out).mono ?_); rintro e wc ⟨v0_, rfl, hR, hb⟩; have n0_ := Aside0.mk (below_step (below_alloc HB.out _) hb); have n1_ := Aside0.mk (PolL.next (HP.out.next (below_alloc (Below.refl _ _) _)) hb); have HQ := Aside0.mk (QolL.next (q := pq p) (show QolL (wn.alloc _) wn.heap.size (pq p) from blk_new wn _) hb); have HZ := Aside0.mk (show w.heap.size ≤ wn.heap.size from HB.out.size); have HNE := Aside0.mk (show g < wn.heap.size from blk_lt HP.out); clear c0 c1 c2 c3 c4 c5 c6 c7 c8 c9 c10 c11 c12 HB HP hb; have HB := n0_; have HP := n1_; clear n0_ n1_; obtain ⟨Ao, co, eo⟩ := Kd.R_slice hR; subst eo; obtain ⟨gq, hgq⟩ : ∃ gq, wn.heap.size = gq := ⟨_, rfl⟩; rw [hgq] at HQ HZ HNE; have hne : ¬ g = gq := (by have := HNE.out; omega); have hne2 : ¬ gq = g := (by have := HNE.out; omega); clear hR))
    go_ret
    exact ⟨rfl, HB.out⟩
  rw [if_neg k2] at h
  have e2 : decide ((cs.length : Int) ≤ what) = false := decide_eq_false k2
  by_cases k3 : by_ < 1
  · rw [if_pos k3] at h
    obtain rfl := Option.some.inj h
    have e3 : decide (by_ < 1) = true := decide_eq_true k3
    clear h k1 k2 k3
    go_enter Try.func4, Try.ntmps4
    go_wp2_with (first | ((with_reducible refine gate_dst (N := 3) rfl ?_); refine box_event ?hg (N := 3) ?hd (cs := #[.int .i64 p.a0, .int .i64 p.a1, .int .i64 p.a2, .int .i64 p.a3, .int .i64 p.a4, .int .i64 p.s, .int .i64 p.r0, .int .i64 p.r1, .int .i64 p.r2, .int .i64 p.r3, .int .i64 p.r4, .int .i64 p.r5, .int .i64 p.r6]) (t := 26) ?hr ?_; (case hd => rfl); (case hg => rfl); (case hr => rfl); intro g hg wn hbox hb; have HP := Aside0.mk (show PolL wn g p from hbox); have n0_ := Aside0.mk (below_step HB.out hb); clear HB; have HB := n0_; clear n0_; obtain ⟨c0, c1, c2, c3, c4, c5, c6, c7, c8, c9, c10, c11, c12⟩ := HP.out.cells; clear hbox hb hg) | (go_at_call 15; (with_reducible refine (pestlelaw46_awake.calls k true _ A0.out).mono ?_); rintro e wn ⟨rfl, hb⟩; clear c0 c1 c2 c3 c4 c5 c6 c7 c8 c9 c10 c11 c12; have n0_ := Aside0.mk (below_step HB.out hb); have n1_ := Aside0.mk (HP.out.next hb); clear HB HP; have HB := n0_; have HP := n1_; clear n0_ n1_; clear hb; obtain ⟨c0, c1, c2, c3, c4, c5, c6, c7, c8, c9, c10, c11, c12⟩ := HP.out.cells) | (go_at_call 18; (with_reducible refine (policy_Check.calls k p 0 _ A3.out).mono ?_); rintro e wn ⟨rfl, hb⟩; clear c0 c1 c2 c3 c4 c5 c6 c7 c8 c9 c10 c11 c12; have n0_ := Aside0.mk (below_step HB.out hb); have n1_ := Aside0.mk (HP.out.next hb); clear HB HP; have HB := n0_; have HP := n1_; clear n0_ n1_; clear hb; obtain ⟨c0, c1, c2, c3, c4, c5, c6, c7, c8, c9, c10, c11, c12⟩ := HP.out.cells) | (go_at_call 17; (with_reducible refine (S1.out _).mono ?_); rintro e wn ⟨rfl, hb⟩; clear c0 c1 c2 c3 c4 c5 c6 c7 c8 c9 c10 c11 c12; have n0_ := Aside0.mk (below_step HB.out hb); have n1_ := Aside0.mk (HP.out.next hb); clear HB HP; have HB := n0_; have HP := n1_; clear n0_ n1_; clear hb; obtain ⟨c0, c1, c2, c3, c4, c5, c6, c7, c8, c9, c10, c11, c12⟩ := HP.out.cells) | (go_at_call 21; (with_reducible refine (policy_Lower.calls k p.a0 p.a1 p.a2 p.a3 p.a4 p.a0 p.a1 p.a2 p.a3 p.a4 false _ A4.out).mono ?_); rintro e wn ⟨rfl, hb⟩; clear c0 c1 c2 c3 c4 c5 c6 c7 c8 c9 c10 c11 c12; have n0_ := Aside0.mk (below_step HB.out hb); have n1_ := Aside0.mk (HP.out.next hb); clear HB HP; have HB := n0_; have HP := n1_; clear n0_ n1_; clear hb; obtain ⟨c0, c1, c2, c3, c4, c5, c6, c7, c8, c9, c10, c11, c12⟩ := HP.out.cells) | (go_at_call 22; (with_reducible refine (policy_Costs.calls p.a0 p.a1 p.a2 p.a3 p.a4 cs _ A5.out).mono ?_); rintro e wc ⟨v0_, rfl, hR, hb⟩; have n0_ := Aside0.mk (below_step (below_alloc HB.out _) hb); have n1_ := Aside0.mk (PolL.next (HP.out.next (below_alloc (Below.refl _ _) _)) hb); have HQ := Aside0.mk (QolL.next (q := pq p) (show QolL (wn.alloc _) wn.heap.size (pq p) from blk_new wn _) hb); have HZ := Aside0.mk (show w.heap.size ≤ wn.heap.size from HB.out.size); have HNE := Aside0.mk (show g < wn.heap.size from blk_lt HP.out); clear c0 c1 c2 c3 c4 c5 c6 c7 c8 c9 c10 c11 c12 HB HP hb; have HB := n0_; have HP := n1_; clear n0_ n1_; obtain ⟨Ao, co, eo⟩ := Kd.R_slice hR; subst eo; obtain ⟨gq, hgq⟩ : ∃ gq, wn.heap.size = gq := ⟨_, rfl⟩; rw [hgq] at HQ HZ HNE; have hne : ¬ g = gq := (by have := HNE.out; omega); have hne2 : ¬ gq = g := (by have := HNE.out; omega); clear hR))
    go_ret
    exact ⟨rfl, HB.out⟩
  rw [if_neg k3] at h
  have e3 : decide (by_ < 1) = false := decide_eq_false k3
  have j0 : 0 ≤ what := by omega
  have j1 : what < (cs.length : Int) := by omega
  have J0 := Aside0.mk j0
  have J1 := Aside0.mk j1
  by_cases k4 : rd cs what ≤ by_
  · rw [if_pos k4] at h
    obtain rfl := Option.some.inj h
    obtain ⟨x, hx⟩ : ∃ x, rd cs what = x := ⟨_, rfl⟩
    rw [hx] at k4
    have e4 : decide (x ≤ by_) = true := decide_eq_true k4
    replace hx := Aside0.mk hx
    clear h k1 k2 k3 k4
    go_enter Try.func4, Try.ntmps4
    go_wp2_with (first | ((with_reducible refine gate_dst (N := 3) rfl ?_); refine box_event ?hg (N := 3) ?hd (cs := #[.int .i64 p.a0, .int .i64 p.a1, .int .i64 p.a2, .int .i64 p.a3, .int .i64 p.a4, .int .i64 p.s, .int .i64 p.r0, .int .i64 p.r1, .int .i64 p.r2, .int .i64 p.r3, .int .i64 p.r4, .int .i64 p.r5, .int .i64 p.r6]) (t := 26) ?hr ?_; (case hd => rfl); (case hg => rfl); (case hr => rfl); intro g hg wn hbox hb; have HP := Aside0.mk (show PolL wn g p from hbox); have n0_ := Aside0.mk (below_step HB.out hb); clear HB; have HB := n0_; clear n0_; obtain ⟨c0, c1, c2, c3, c4, c5, c6, c7, c8, c9, c10, c11, c12⟩ := HP.out.cells; clear hbox hb hg) | (go_at_call 15; (with_reducible refine (pestlelaw46_awake.calls k true _ A0.out).mono ?_); rintro e wn ⟨rfl, hb⟩; clear c0 c1 c2 c3 c4 c5 c6 c7 c8 c9 c10 c11 c12; have n0_ := Aside0.mk (below_step HB.out hb); have n1_ := Aside0.mk (HP.out.next hb); clear HB HP; have HB := n0_; have HP := n1_; clear n0_ n1_; clear hb; obtain ⟨c0, c1, c2, c3, c4, c5, c6, c7, c8, c9, c10, c11, c12⟩ := HP.out.cells) | (go_at_call 18; (with_reducible refine (policy_Check.calls k p 0 _ A3.out).mono ?_); rintro e wn ⟨rfl, hb⟩; clear c0 c1 c2 c3 c4 c5 c6 c7 c8 c9 c10 c11 c12; have n0_ := Aside0.mk (below_step HB.out hb); have n1_ := Aside0.mk (HP.out.next hb); clear HB HP; have HB := n0_; have HP := n1_; clear n0_ n1_; clear hb; obtain ⟨c0, c1, c2, c3, c4, c5, c6, c7, c8, c9, c10, c11, c12⟩ := HP.out.cells) | (go_at_call 17; (with_reducible refine (S1.out _).mono ?_); rintro e wn ⟨rfl, hb⟩; clear c0 c1 c2 c3 c4 c5 c6 c7 c8 c9 c10 c11 c12; have n0_ := Aside0.mk (below_step HB.out hb); have n1_ := Aside0.mk (HP.out.next hb); clear HB HP; have HB := n0_; have HP := n1_; clear n0_ n1_; clear hb; obtain ⟨c0, c1, c2, c3, c4, c5, c6, c7, c8, c9, c10, c11, c12⟩ := HP.out.cells) | (go_at_call 21; (with_reducible refine (policy_Lower.calls k p.a0 p.a1 p.a2 p.a3 p.a4 p.a0 p.a1 p.a2 p.a3 p.a4 false _ A4.out).mono ?_); rintro e wn ⟨rfl, hb⟩; clear c0 c1 c2 c3 c4 c5 c6 c7 c8 c9 c10 c11 c12; have n0_ := Aside0.mk (below_step HB.out hb); have n1_ := Aside0.mk (HP.out.next hb); clear HB HP; have HB := n0_; have HP := n1_; clear n0_ n1_; clear hb; obtain ⟨c0, c1, c2, c3, c4, c5, c6, c7, c8, c9, c10, c11, c12⟩ := HP.out.cells) | (go_at_call 22; (with_reducible refine (policy_Costs.calls p.a0 p.a1 p.a2 p.a3 p.a4 cs _ A5.out).mono ?_); rintro e wc ⟨v0_, rfl, hR, hb⟩; have n0_ := Aside0.mk (below_step (below_alloc HB.out _) hb); have n1_ := Aside0.mk (PolL.next (HP.out.next (below_alloc (Below.refl _ _) _)) hb); have HQ := Aside0.mk (QolL.next (q := pq p) (show QolL (wn.alloc _) wn.heap.size (pq p) from blk_new wn _) hb); have HZ := Aside0.mk (show w.heap.size ≤ wn.heap.size from HB.out.size); have HNE := Aside0.mk (show g < wn.heap.size from blk_lt HP.out); clear c0 c1 c2 c3 c4 c5 c6 c7 c8 c9 c10 c11 c12 HB HP hb; have HB := n0_; have HP := n1_; clear n0_ n1_; obtain ⟨Ao, co, eo⟩ := Kd.R_slice hR; subst eo; obtain ⟨gq, hgq⟩ : ∃ gq, wn.heap.size = gq := ⟨_, rfl⟩; rw [hgq] at HQ HZ HNE; have hne : ¬ g = gq := (by have := HNE.out; omega); have hne2 : ¬ gq = g := (by have := HNE.out; omega); obtain ⟨ad, e_, hxc⟩ := Kd.at_int (Kd.R_reads' hR).2.2 what J0.out J1.out; rw [hx.out] at hxc; clear hR))
    go_ret
    exact ⟨rfl, HB.out⟩
  rw [if_neg k4] at h
  obtain ⟨x, hx⟩ : ∃ x, rd cs what = x := ⟨_, rfl⟩
  rw [hx] at k4
  have e4 : decide (x ≤ by_) = false := decide_eq_false k4
  replace hx := Aside0.mk hx
  unfold pestlelaw46_PolicyOwn.tail at h
  replace h := Option.bind_eq_some_iff.mp h
  obtain ⟨b, A6, h⟩ := h
  cases b
  case false => rw [if_neg (by decide)] at h; cases h
  rw [if_pos rfl] at h
  replace h := Option.bind_eq_some_iff.mp h
  obtain ⟨⟨b2, f2⟩, A7, h⟩ := h
  by_cases hb : f2 ≠ 0 ∨ b2 = true
  case neg => rw [if_neg hb] at h; cases h
  rw [if_pos hb] at h
  obtain rfl := Option.some.inj h
  have S6 := fun w => policy_Lower.calls k (dq p what by_).a0 (dq p what by_).a1 (dq p what by_).a2 (dq p what by_).a3 (dq p what by_).a4 p.a0 p.a1 p.a2 p.a3 p.a4 true w A6
  have S7 := fun w => policy_Behind.calls k p (dq p what by_) b2 f2 w A7
  have HF : (if f2 = 0 then b2 else true) = true := by
    by_cases z : f2 = 0
    · rw [if_pos z]; exact hb.resolve_left (fun q => q z)
    · rw [if_neg z]
  obtain ⟨bb, hbb⟩ : ∃ bb, (f2 != 0) = bb := ⟨_, rfl⟩
  have HG : (bb = true ∨ b2 = true) := hb.imp (fun q => by rw [← hbb]; exact bne_iff_ne.2 q) id
  clear h hb A6 A7 HF k1 k2 k3 k4
  have HH := Aside0.mk (show (f2 != 0) = true ∨ ((f2 != 0) = false ∧ b2 = true) by
    cases hz : (f2 != 0) with
    | true => exact Or.inl rfl
    | false => exact Or.inr ⟨rfl, HG.resolve_left (by rw [← hbb, hz]; decide)⟩)
  clear HG hbb
  by_cases w0 : what = 0
  · have hd : dq p what by_ = ⟨p.a0, wrap64 (p.a1 - by_), p.a2, p.a3, p.a4⟩ := if_pos w0
    rw [hd] at S6 S7
    dsimp only at S6 S7
    replace S6 := Aside0.mk S6
    replace S7 := Aside0.mk S7
    have g0 : (what == 0) = true := beq_iff_eq.2 w0
    clear hd w0 
    go_enter Try.func4, Try.ntmps4
    go_wp2_with (first | ((with_reducible refine gate_dst (N := 3) rfl ?_); refine box_event ?hg (N := 3) ?hd (cs := #[.int .i64 p.a0, .int .i64 p.a1, .int .i64 p.a2, .int .i64 p.a3, .int .i64 p.a4, .int .i64 p.s, .int .i64 p.r0, .int .i64 p.r1, .int .i64 p.r2, .int .i64 p.r3, .int .i64 p.r4, .int .i64 p.r5, .int .i64 p.r6]) (t := 26) ?hr ?_; (case hd => rfl); (case hg => rfl); (case hr => rfl); intro g hg wn hbox hb; have HP := Aside0.mk (show PolL wn g p from hbox); have n0_ := Aside0.mk (below_step HB.out hb); clear HB; have HB := n0_; clear n0_; obtain ⟨c0, c1, c2, c3, c4, c5, c6, c7, c8, c9, c10, c11, c12⟩ := HP.out.cells; clear hbox hb hg) | (go_at_call 15; (with_reducible refine (pestlelaw46_awake.calls k true _ A0.out).mono ?_); rintro e wn ⟨rfl, hb⟩; clear c0 c1 c2 c3 c4 c5 c6 c7 c8 c9 c10 c11 c12; have n0_ := Aside0.mk (below_step HB.out hb); have n1_ := Aside0.mk (HP.out.next hb); clear HB HP; have HB := n0_; have HP := n1_; clear n0_ n1_; clear hb; obtain ⟨c0, c1, c2, c3, c4, c5, c6, c7, c8, c9, c10, c11, c12⟩ := HP.out.cells) | (go_at_call 18; (with_reducible refine (policy_Check.calls k p 0 _ A3.out).mono ?_); rintro e wn ⟨rfl, hb⟩; clear c0 c1 c2 c3 c4 c5 c6 c7 c8 c9 c10 c11 c12; have n0_ := Aside0.mk (below_step HB.out hb); have n1_ := Aside0.mk (HP.out.next hb); clear HB HP; have HB := n0_; have HP := n1_; clear n0_ n1_; clear hb; obtain ⟨c0, c1, c2, c3, c4, c5, c6, c7, c8, c9, c10, c11, c12⟩ := HP.out.cells) | (go_at_call 17; (with_reducible refine (S1.out _).mono ?_); rintro e wn ⟨rfl, hb⟩; clear c0 c1 c2 c3 c4 c5 c6 c7 c8 c9 c10 c11 c12; have n0_ := Aside0.mk (below_step HB.out hb); have n1_ := Aside0.mk (HP.out.next hb); clear HB HP; have HB := n0_; have HP := n1_; clear n0_ n1_; clear hb; obtain ⟨c0, c1, c2, c3, c4, c5, c6, c7, c8, c9, c10, c11, c12⟩ := HP.out.cells) | (go_at_call 21; (with_reducible refine (policy_Lower.calls k p.a0 p.a1 p.a2 p.a3 p.a4 p.a0 p.a1 p.a2 p.a3 p.a4 false _ A4.out).mono ?_); rintro e wn ⟨rfl, hb⟩; clear c0 c1 c2 c3 c4 c5 c6 c7 c8 c9 c10 c11 c12; have n0_ := Aside0.mk (below_step HB.out hb); have n1_ := Aside0.mk (HP.out.next hb); clear HB HP; have HB := n0_; have HP := n1_; clear n0_ n1_; clear hb; obtain ⟨c0, c1, c2, c3, c4, c5, c6, c7, c8, c9, c10, c11, c12⟩ := HP.out.cells) | (go_at_call 22; (with_reducible refine (policy_Costs.calls p.a0 p.a1 p.a2 p.a3 p.a4 cs _ A5.out).mono ?_); rintro e wc ⟨v0_, rfl, hR, hb⟩; have n0_ := Aside0.mk (below_step (below_alloc HB.out _) hb); have n1_ := Aside0.mk (PolL.next (HP.out.next (below_alloc (Below.refl _ _) _)) hb); have HQ := Aside0.mk (QolL.next (q := pq p) (show QolL (wn.alloc _) wn.heap.size (pq p) from blk_new wn _) hb); have HZ := Aside0.mk (show w.heap.size ≤ wn.heap.size from HB.out.size); have HNE := Aside0.mk (show g < wn.heap.size from blk_lt HP.out); clear c0 c1 c2 c3 c4 c5 c6 c7 c8 c9 c10 c11 c12 HB HP hb; have HB := n0_; have HP := n1_; clear n0_ n1_; obtain ⟨Ao, co, eo⟩ := Kd.R_slice hR; subst eo; obtain ⟨gq, hgq⟩ : ∃ gq, wn.heap.size = gq := ⟨_, rfl⟩; rw [hgq] at HQ HZ HNE; have hne : ¬ g = gq := (by have := HNE.out; omega); have hne2 : ¬ gq = g := (by have := HNE.out; omega); obtain ⟨ad, e_, hxc⟩ := Kd.at_int (Kd.R_reads' hR).2.2 what J0.out J1.out; rw [hx.out] at hxc; have hd := HQ.out.cells; unfold pq at hd; dsimp only at hd; obtain ⟨d0, d1, d2, d3, d4⟩ := hd; have fz := fun i => blk_frozen HQ.out i; obtain ⟨c0, c1, c2, c3, c4, c5, c6, c7, c8, c9, c10, c11, c12⟩ := HP.out.cells; clear hR) | (go_at_call 21; (with_reducible refine (S6.out _).mono ?_); rintro e wm ⟨rfl, hb⟩; have n0_ := Aside0.mk (below_step (HB.out.setCell (p := ⟨gq, 1, none⟩) HZ.out (.int .i64 (wrap64 (p.a1 - by_)))) hb); have n1_ := Aside0.mk (PolL.next (show PolL (wc.setCell ⟨gq, 1, none⟩ (.int .i64 (wrap64 (p.a1 - by_)))) g p from (Below.heap_setCell wc ⟨gq, 1, none⟩ (.int .i64 (wrap64 (p.a1 - by_))) g hne).trans HP.out) hb); have n2_ := Aside0.mk (QolL.next (q := ⟨p.a0, wrap64 (p.a1 - by_), p.a2, p.a3, p.a4⟩) (show QolL (wc.setCell ⟨gq, 1, none⟩ (.int .i64 (wrap64 (p.a1 - by_)))) gq ⟨p.a0, wrap64 (p.a1 - by_), p.a2, p.a3, p.a4⟩ from blk_set HQ.out 1 (.int .i64 (wrap64 (p.a1 - by_)))) hb); clear HB HP HQ hb c0 c1 c2 c3 c4 c5 c6 c7 c8 c9 c10 c11 c12 d0 d1 d2 d3 d4 fz; have HB := n0_; have HP := n1_; have HQ := n2_; clear n0_ n1_ n2_; obtain ⟨c0, c1, c2, c3, c4, c5, c6, c7, c8, c9, c10, c11, c12⟩ := HP.out.cells; have hd := HQ.out.cells; dsimp only at hd; obtain ⟨d0, d1, d2, d3, d4⟩ := hd) | (go_at_call 17; (with_reducible refine (S7.out _).mono ?_); rintro e wm ⟨rfl, hb⟩; have n0_ := Aside0.mk (below_step HB.out hb); clear HB HP HQ hb c0 c1 c2 c3 c4 c5 c6 c7 c8 c9 c10 c11 c12 d0 d1 d2 d3 d4; have HB := n0_; clear n0_; rcases HH.out with z1 | ⟨z1, rfl⟩))
    all_goals go_ret
    all_goals exact ⟨rfl, HB.out⟩
  by_cases w1 : what = 1
  · by_cases w6 : p.a0 = 6
    · have hd : dq p what by_ = ⟨p.a0, p.a1, p.a2, p.a3, wrap64 (p.a4 - by_)⟩ := (if_neg w0).trans ((if_pos w1).trans (if_pos w6))
      rw [hd] at S6 S7
      dsimp only at S6 S7
      replace S6 := Aside0.mk S6
      replace S7 := Aside0.mk S7
      have g0 : (what == 0) = false := beq_eq_false_iff_ne.2 w0
      have g1 : (what == 1) = true := beq_iff_eq.2 w1
      have g6 : (p.a0 == 6) = true := beq_iff_eq.2 w6
      clear hd w0 w1 w6
      go_enter Try.func4, Try.ntmps4
      go_wp2_with (first | ((with_reducible refine gate_dst (N := 3) rfl ?_); refine box_event ?hg (N := 3) ?hd (cs := #[.int .i64 p.a0, .int .i64 p.a1, .int .i64 p.a2, .int .i64 p.a3, .int .i64 p.a4, .int .i64 p.s, .int .i64 p.r0, .int .i64 p.r1, .int .i64 p.r2, .int .i64 p.r3, .int .i64 p.r4, .int .i64 p.r5, .int .i64 p.r6]) (t := 26) ?hr ?_; (case hd => rfl); (case hg => rfl); (case hr => rfl); intro g hg wn hbox hb; have HP := Aside0.mk (show PolL wn g p from hbox); have n0_ := Aside0.mk (below_step HB.out hb); clear HB; have HB := n0_; clear n0_; obtain ⟨c0, c1, c2, c3, c4, c5, c6, c7, c8, c9, c10, c11, c12⟩ := HP.out.cells; clear hbox hb hg) | (go_at_call 15; (with_reducible refine (pestlelaw46_awake.calls k true _ A0.out).mono ?_); rintro e wn ⟨rfl, hb⟩; clear c0 c1 c2 c3 c4 c5 c6 c7 c8 c9 c10 c11 c12; have n0_ := Aside0.mk (below_step HB.out hb); have n1_ := Aside0.mk (HP.out.next hb); clear HB HP; have HB := n0_; have HP := n1_; clear n0_ n1_; clear hb; obtain ⟨c0, c1, c2, c3, c4, c5, c6, c7, c8, c9, c10, c11, c12⟩ := HP.out.cells) | (go_at_call 18; (with_reducible refine (policy_Check.calls k p 0 _ A3.out).mono ?_); rintro e wn ⟨rfl, hb⟩; clear c0 c1 c2 c3 c4 c5 c6 c7 c8 c9 c10 c11 c12; have n0_ := Aside0.mk (below_step HB.out hb); have n1_ := Aside0.mk (HP.out.next hb); clear HB HP; have HB := n0_; have HP := n1_; clear n0_ n1_; clear hb; obtain ⟨c0, c1, c2, c3, c4, c5, c6, c7, c8, c9, c10, c11, c12⟩ := HP.out.cells) | (go_at_call 17; (with_reducible refine (S1.out _).mono ?_); rintro e wn ⟨rfl, hb⟩; clear c0 c1 c2 c3 c4 c5 c6 c7 c8 c9 c10 c11 c12; have n0_ := Aside0.mk (below_step HB.out hb); have n1_ := Aside0.mk (HP.out.next hb); clear HB HP; have HB := n0_; have HP := n1_; clear n0_ n1_; clear hb; obtain ⟨c0, c1, c2, c3, c4, c5, c6, c7, c8, c9, c10, c11, c12⟩ := HP.out.cells) | (go_at_call 21; (with_reducible refine (policy_Lower.calls k p.a0 p.a1 p.a2 p.a3 p.a4 p.a0 p.a1 p.a2 p.a3 p.a4 false _ A4.out).mono ?_); rintro e wn ⟨rfl, hb⟩; clear c0 c1 c2 c3 c4 c5 c6 c7 c8 c9 c10 c11 c12; have n0_ := Aside0.mk (below_step HB.out hb); have n1_ := Aside0.mk (HP.out.next hb); clear HB HP; have HB := n0_; have HP := n1_; clear n0_ n1_; clear hb; obtain ⟨c0, c1, c2, c3, c4, c5, c6, c7, c8, c9, c10, c11, c12⟩ := HP.out.cells) | (go_at_call 22; (with_reducible refine (policy_Costs.calls p.a0 p.a1 p.a2 p.a3 p.a4 cs _ A5.out).mono ?_); rintro e wc ⟨v0_, rfl, hR, hb⟩; have n0_ := Aside0.mk (below_step (below_alloc HB.out _) hb); have n1_ := Aside0.mk (PolL.next (HP.out.next (below_alloc (Below.refl _ _) _)) hb); have HQ := Aside0.mk (QolL.next (q := pq p) (show QolL (wn.alloc _) wn.heap.size (pq p) from blk_new wn _) hb); have HZ := Aside0.mk (show w.heap.size ≤ wn.heap.size from HB.out.size); have HNE := Aside0.mk (show g < wn.heap.size from blk_lt HP.out); clear c0 c1 c2 c3 c4 c5 c6 c7 c8 c9 c10 c11 c12 HB HP hb; have HB := n0_; have HP := n1_; clear n0_ n1_; obtain ⟨Ao, co, eo⟩ := Kd.R_slice hR; subst eo; obtain ⟨gq, hgq⟩ : ∃ gq, wn.heap.size = gq := ⟨_, rfl⟩; rw [hgq] at HQ HZ HNE; have hne : ¬ g = gq := (by have := HNE.out; omega); have hne2 : ¬ gq = g := (by have := HNE.out; omega); obtain ⟨ad, e_, hxc⟩ := Kd.at_int (Kd.R_reads' hR).2.2 what J0.out J1.out; rw [hx.out] at hxc; have hd := HQ.out.cells; unfold pq at hd; dsimp only at hd; obtain ⟨d0, d1, d2, d3, d4⟩ := hd; have fz := fun i => blk_frozen HQ.out i; obtain ⟨c0, c1, c2, c3, c4, c5, c6, c7, c8, c9, c10, c11, c12⟩ := HP.out.cells; clear hR) | (go_at_call 21; (with_reducible refine (S6.out _).mono ?_); rintro e wm ⟨rfl, hb⟩; have n0_ := Aside0.mk (below_step (HB.out.setCell (p := ⟨gq, 4, none⟩) HZ.out (.int .i64 (wrap64 (p.a4 - by_)))) hb); have n1_ := Aside0.mk (PolL.next (show PolL (wc.setCell ⟨gq, 4, none⟩ (.int .i64 (wrap64 (p.a4 - by_)))) g p from (Below.heap_setCell wc ⟨gq, 4, none⟩ (.int .i64 (wrap64 (p.a4 - by_))) g hne).trans HP.out) hb); have n2_ := Aside0.mk (QolL.next (q := ⟨p.a0, p.a1, p.a2, p.a3, wrap64 (p.a4 - by_)⟩) (show QolL (wc.setCell ⟨gq, 4, none⟩ (.int .i64 (wrap64 (p.a4 - by_)))) gq ⟨p.a0, p.a1, p.a2, p.a3, wrap64 (p.a4 - by_)⟩ from blk_set HQ.out 4 (.int .i64 (wrap64 (p.a4 - by_)))) hb); clear HB HP HQ hb c0 c1 c2 c3 c4 c5 c6 c7 c8 c9 c10 c11 c12 d0 d1 d2 d3 d4 fz; have HB := n0_; have HP := n1_; have HQ := n2_; clear n0_ n1_ n2_; obtain ⟨c0, c1, c2, c3, c4, c5, c6, c7, c8, c9, c10, c11, c12⟩ := HP.out.cells; have hd := HQ.out.cells; dsimp only at hd; obtain ⟨d0, d1, d2, d3, d4⟩ := hd) | (go_at_call 17; (with_reducible refine (S7.out _).mono ?_); rintro e wm ⟨rfl, hb⟩; have n0_ := Aside0.mk (below_step HB.out hb); clear HB HP HQ hb c0 c1 c2 c3 c4 c5 c6 c7 c8 c9 c10 c11 c12 d0 d1 d2 d3 d4; have HB := n0_; clear n0_; rcases HH.out with z1 | ⟨z1, rfl⟩))
      all_goals go_ret
      all_goals exact ⟨rfl, HB.out⟩
    · have hd : dq p what by_ = ⟨p.a0, p.a1, wrap64 (p.a2 - by_), p.a3, p.a4⟩ := (if_neg w0).trans ((if_pos w1).trans (if_neg w6))
      rw [hd] at S6 S7
      dsimp only at S6 S7
      replace S6 := Aside0.mk S6
      replace S7 := Aside0.mk S7
      have g0 : (what == 0) = false := beq_eq_false_iff_ne.2 w0
      have g1 : (what == 1) = true := beq_iff_eq.2 w1
      have g6 : (p.a0 == 6) = false := beq_eq_false_iff_ne.2 w6
      clear hd w0 w1 w6
      go_enter Try.func4, Try.ntmps4
      go_wp2_with (first | ((with_reducible refine gate_dst (N := 3) rfl ?_); refine box_event ?hg (N := 3) ?hd (cs := #[.int .i64 p.a0, .int .i64 p.a1, .int .i64 p.a2, .int .i64 p.a3, .int .i64 p.a4, .int .i64 p.s, .int .i64 p.r0, .int .i64 p.r1, .int .i64 p.r2, .int .i64 p.r3, .int .i64 p.r4, .int .i64 p.r5, .int .i64 p.r6]) (t := 26) ?hr ?_; (case hd => rfl); (case hg => rfl); (case hr => rfl); intro g hg wn hbox hb; have HP := Aside0.mk (show PolL wn g p from hbox); have n0_ := Aside0.mk (below_step HB.out hb); clear HB; have HB := n0_; clear n0_; obtain ⟨c0, c1, c2, c3, c4, c5, c6, c7, c8, c9, c10, c11, c12⟩ := HP.out.cells; clear hbox hb hg) | (go_at_call 15; (with_reducible refine (pestlelaw46_awake.calls k true _ A0.out).mono ?_); rintro e wn ⟨rfl, hb⟩; clear c0 c1 c2 c3 c4 c5 c6 c7 c8 c9 c10 c11 c12; have n0_ := Aside0.mk (below_step HB.out hb); have n1_ := Aside0.mk (HP.out.next hb); clear HB HP; have HB := n0_; have HP := n1_; clear n0_ n1_; clear hb; obtain ⟨c0, c1, c2, c3, c4, c5, c6, c7, c8, c9, c10, c11, c12⟩ := HP.out.cells) | (go_at_call 18; (with_reducible refine (policy_Check.calls k p 0 _ A3.out).mono ?_); rintro e wn ⟨rfl, hb⟩; clear c0 c1 c2 c3 c4 c5 c6 c7 c8 c9 c10 c11 c12; have n0_ := Aside0.mk (below_step HB.out hb); have n1_ := Aside0.mk (HP.out.next hb); clear HB HP; have HB := n0_; have HP := n1_; clear n0_ n1_; clear hb; obtain ⟨c0, c1, c2, c3, c4, c5, c6, c7, c8, c9, c10, c11, c12⟩ := HP.out.cells) | (go_at_call 17; (with_reducible refine (S1.out _).mono ?_); rintro e wn ⟨rfl, hb⟩; clear c0 c1 c2 c3 c4 c5 c6 c7 c8 c9 c10 c11 c12; have n0_ := Aside0.mk (below_step HB.out hb); have n1_ := Aside0.mk (HP.out.next hb); clear HB HP; have HB := n0_; have HP := n1_; clear n0_ n1_; clear hb; obtain ⟨c0, c1, c2, c3, c4, c5, c6, c7, c8, c9, c10, c11, c12⟩ := HP.out.cells) | (go_at_call 21; (with_reducible refine (policy_Lower.calls k p.a0 p.a1 p.a2 p.a3 p.a4 p.a0 p.a1 p.a2 p.a3 p.a4 false _ A4.out).mono ?_); rintro e wn ⟨rfl, hb⟩; clear c0 c1 c2 c3 c4 c5 c6 c7 c8 c9 c10 c11 c12; have n0_ := Aside0.mk (below_step HB.out hb); have n1_ := Aside0.mk (HP.out.next hb); clear HB HP; have HB := n0_; have HP := n1_; clear n0_ n1_; clear hb; obtain ⟨c0, c1, c2, c3, c4, c5, c6, c7, c8, c9, c10, c11, c12⟩ := HP.out.cells) | (go_at_call 22; (with_reducible refine (policy_Costs.calls p.a0 p.a1 p.a2 p.a3 p.a4 cs _ A5.out).mono ?_); rintro e wc ⟨v0_, rfl, hR, hb⟩; have n0_ := Aside0.mk (below_step (below_alloc HB.out _) hb); have n1_ := Aside0.mk (PolL.next (HP.out.next (below_alloc (Below.refl _ _) _)) hb); have HQ := Aside0.mk (QolL.next (q := pq p) (show QolL (wn.alloc _) wn.heap.size (pq p) from blk_new wn _) hb); have HZ := Aside0.mk (show w.heap.size ≤ wn.heap.size from HB.out.size); have HNE := Aside0.mk (show g < wn.heap.size from blk_lt HP.out); clear c0 c1 c2 c3 c4 c5 c6 c7 c8 c9 c10 c11 c12 HB HP hb; have HB := n0_; have HP := n1_; clear n0_ n1_; obtain ⟨Ao, co, eo⟩ := Kd.R_slice hR; subst eo; obtain ⟨gq, hgq⟩ : ∃ gq, wn.heap.size = gq := ⟨_, rfl⟩; rw [hgq] at HQ HZ HNE; have hne : ¬ g = gq := (by have := HNE.out; omega); have hne2 : ¬ gq = g := (by have := HNE.out; omega); obtain ⟨ad, e_, hxc⟩ := Kd.at_int (Kd.R_reads' hR).2.2 what J0.out J1.out; rw [hx.out] at hxc; have hd := HQ.out.cells; unfold pq at hd; dsimp only at hd; obtain ⟨d0, d1, d2, d3, d4⟩ := hd; have fz := fun i => blk_frozen HQ.out i; obtain ⟨c0, c1, c2, c3, c4, c5, c6, c7, c8, c9, c10, c11, c12⟩ := HP.out.cells; clear hR) | (go_at_call 21; (with_reducible refine (S6.out _).mono ?_); rintro e wm ⟨rfl, hb⟩; have n0_ := Aside0.mk (below_step (HB.out.setCell (p := ⟨gq, 2, none⟩) HZ.out (.int .i64 (wrap64 (p.a2 - by_)))) hb); have n1_ := Aside0.mk (PolL.next (show PolL (wc.setCell ⟨gq, 2, none⟩ (.int .i64 (wrap64 (p.a2 - by_)))) g p from (Below.heap_setCell wc ⟨gq, 2, none⟩ (.int .i64 (wrap64 (p.a2 - by_))) g hne).trans HP.out) hb); have n2_ := Aside0.mk (QolL.next (q := ⟨p.a0, p.a1, wrap64 (p.a2 - by_), p.a3, p.a4⟩) (show QolL (wc.setCell ⟨gq, 2, none⟩ (.int .i64 (wrap64 (p.a2 - by_)))) gq ⟨p.a0, p.a1, wrap64 (p.a2 - by_), p.a3, p.a4⟩ from blk_set HQ.out 2 (.int .i64 (wrap64 (p.a2 - by_)))) hb); clear HB HP HQ hb c0 c1 c2 c3 c4 c5 c6 c7 c8 c9 c10 c11 c12 d0 d1 d2 d3 d4 fz; have HB := n0_; have HP := n1_; have HQ := n2_; clear n0_ n1_ n2_; obtain ⟨c0, c1, c2, c3, c4, c5, c6, c7, c8, c9, c10, c11, c12⟩ := HP.out.cells; have hd := HQ.out.cells; dsimp only at hd; obtain ⟨d0, d1, d2, d3, d4⟩ := hd) | (go_at_call 17; (with_reducible refine (S7.out _).mono ?_); rintro e wm ⟨rfl, hb⟩; have n0_ := Aside0.mk (below_step HB.out hb); clear HB HP HQ hb c0 c1 c2 c3 c4 c5 c6 c7 c8 c9 c10 c11 c12 d0 d1 d2 d3 d4; have HB := n0_; clear n0_; rcases HH.out with z1 | ⟨z1, rfl⟩))
      all_goals go_ret
      all_goals exact ⟨rfl, HB.out⟩
  by_cases w2 : what = 2
  · have hd : dq p what by_ = ⟨p.a0, p.a1, p.a2, wrap64 (p.a3 - by_), p.a4⟩ := (if_neg w0).trans ((if_neg w1).trans (if_pos w2))
    rw [hd] at S6 S7
    dsimp only at S6 S7
    replace S6 := Aside0.mk S6
    replace S7 := Aside0.mk S7
    have g0 : (what == 0) = false := beq_eq_false_iff_ne.2 w0
    have g1 : (what == 1) = false := beq_eq_false_iff_ne.2 w1
    have g2 : (what == 2) = true := beq_iff_eq.2 w2
    clear hd w0 w1 w2
    go_enter Try.func4, Try.ntmps4
    go_wp2_with (first | ((with_reducible refine gate_dst (N := 3) rfl ?_); refine box_event ?hg (N := 3) ?hd (cs := #[.int .i64 p.a0, .int .i64 p.a1, .int .i64 p.a2, .int .i64 p.a3, .int .i64 p.a4, .int .i64 p.s, .int .i64 p.r0, .int .i64 p.r1, .int .i64 p.r2, .int .i64 p.r3, .int .i64 p.r4, .int .i64 p.r5, .int .i64 p.r6]) (t := 26) ?hr ?_; (case hd => rfl); (case hg => rfl); (case hr => rfl); intro g hg wn hbox hb; have HP := Aside0.mk (show PolL wn g p from hbox); have n0_ := Aside0.mk (below_step HB.out hb); clear HB; have HB := n0_; clear n0_; obtain ⟨c0, c1, c2, c3, c4, c5, c6, c7, c8, c9, c10, c11, c12⟩ := HP.out.cells; clear hbox hb hg) | (go_at_call 15; (with_reducible refine (pestlelaw46_awake.calls k true _ A0.out).mono ?_); rintro e wn ⟨rfl, hb⟩; clear c0 c1 c2 c3 c4 c5 c6 c7 c8 c9 c10 c11 c12; have n0_ := Aside0.mk (below_step HB.out hb); have n1_ := Aside0.mk (HP.out.next hb); clear HB HP; have HB := n0_; have HP := n1_; clear n0_ n1_; clear hb; obtain ⟨c0, c1, c2, c3, c4, c5, c6, c7, c8, c9, c10, c11, c12⟩ := HP.out.cells) | (go_at_call 18; (with_reducible refine (policy_Check.calls k p 0 _ A3.out).mono ?_); rintro e wn ⟨rfl, hb⟩; clear c0 c1 c2 c3 c4 c5 c6 c7 c8 c9 c10 c11 c12; have n0_ := Aside0.mk (below_step HB.out hb); have n1_ := Aside0.mk (HP.out.next hb); clear HB HP; have HB := n0_; have HP := n1_; clear n0_ n1_; clear hb; obtain ⟨c0, c1, c2, c3, c4, c5, c6, c7, c8, c9, c10, c11, c12⟩ := HP.out.cells) | (go_at_call 17; (with_reducible refine (S1.out _).mono ?_); rintro e wn ⟨rfl, hb⟩; clear c0 c1 c2 c3 c4 c5 c6 c7 c8 c9 c10 c11 c12; have n0_ := Aside0.mk (below_step HB.out hb); have n1_ := Aside0.mk (HP.out.next hb); clear HB HP; have HB := n0_; have HP := n1_; clear n0_ n1_; clear hb; obtain ⟨c0, c1, c2, c3, c4, c5, c6, c7, c8, c9, c10, c11, c12⟩ := HP.out.cells) | (go_at_call 21; (with_reducible refine (policy_Lower.calls k p.a0 p.a1 p.a2 p.a3 p.a4 p.a0 p.a1 p.a2 p.a3 p.a4 false _ A4.out).mono ?_); rintro e wn ⟨rfl, hb⟩; clear c0 c1 c2 c3 c4 c5 c6 c7 c8 c9 c10 c11 c12; have n0_ := Aside0.mk (below_step HB.out hb); have n1_ := Aside0.mk (HP.out.next hb); clear HB HP; have HB := n0_; have HP := n1_; clear n0_ n1_; clear hb; obtain ⟨c0, c1, c2, c3, c4, c5, c6, c7, c8, c9, c10, c11, c12⟩ := HP.out.cells) | (go_at_call 22; (with_reducible refine (policy_Costs.calls p.a0 p.a1 p.a2 p.a3 p.a4 cs _ A5.out).mono ?_); rintro e wc ⟨v0_, rfl, hR, hb⟩; have n0_ := Aside0.mk (below_step (below_alloc HB.out _) hb); have n1_ := Aside0.mk (PolL.next (HP.out.next (below_alloc (Below.refl _ _) _)) hb); have HQ := Aside0.mk (QolL.next (q := pq p) (show QolL (wn.alloc _) wn.heap.size (pq p) from blk_new wn _) hb); have HZ := Aside0.mk (show w.heap.size ≤ wn.heap.size from HB.out.size); have HNE := Aside0.mk (show g < wn.heap.size from blk_lt HP.out); clear c0 c1 c2 c3 c4 c5 c6 c7 c8 c9 c10 c11 c12 HB HP hb; have HB := n0_; have HP := n1_; clear n0_ n1_; obtain ⟨Ao, co, eo⟩ := Kd.R_slice hR; subst eo; obtain ⟨gq, hgq⟩ : ∃ gq, wn.heap.size = gq := ⟨_, rfl⟩; rw [hgq] at HQ HZ HNE; have hne : ¬ g = gq := (by have := HNE.out; omega); have hne2 : ¬ gq = g := (by have := HNE.out; omega); obtain ⟨ad, e_, hxc⟩ := Kd.at_int (Kd.R_reads' hR).2.2 what J0.out J1.out; rw [hx.out] at hxc; have hd := HQ.out.cells; unfold pq at hd; dsimp only at hd; obtain ⟨d0, d1, d2, d3, d4⟩ := hd; have fz := fun i => blk_frozen HQ.out i; obtain ⟨c0, c1, c2, c3, c4, c5, c6, c7, c8, c9, c10, c11, c12⟩ := HP.out.cells; clear hR) | (go_at_call 21; (with_reducible refine (S6.out _).mono ?_); rintro e wm ⟨rfl, hb⟩; have n0_ := Aside0.mk (below_step (HB.out.setCell (p := ⟨gq, 3, none⟩) HZ.out (.int .i64 (wrap64 (p.a3 - by_)))) hb); have n1_ := Aside0.mk (PolL.next (show PolL (wc.setCell ⟨gq, 3, none⟩ (.int .i64 (wrap64 (p.a3 - by_)))) g p from (Below.heap_setCell wc ⟨gq, 3, none⟩ (.int .i64 (wrap64 (p.a3 - by_))) g hne).trans HP.out) hb); have n2_ := Aside0.mk (QolL.next (q := ⟨p.a0, p.a1, p.a2, wrap64 (p.a3 - by_), p.a4⟩) (show QolL (wc.setCell ⟨gq, 3, none⟩ (.int .i64 (wrap64 (p.a3 - by_)))) gq ⟨p.a0, p.a1, p.a2, wrap64 (p.a3 - by_), p.a4⟩ from blk_set HQ.out 3 (.int .i64 (wrap64 (p.a3 - by_)))) hb); clear HB HP HQ hb c0 c1 c2 c3 c4 c5 c6 c7 c8 c9 c10 c11 c12 d0 d1 d2 d3 d4 fz; have HB := n0_; have HP := n1_; have HQ := n2_; clear n0_ n1_ n2_; obtain ⟨c0, c1, c2, c3, c4, c5, c6, c7, c8, c9, c10, c11, c12⟩ := HP.out.cells; have hd := HQ.out.cells; dsimp only at hd; obtain ⟨d0, d1, d2, d3, d4⟩ := hd) | (go_at_call 17; (with_reducible refine (S7.out _).mono ?_); rintro e wm ⟨rfl, hb⟩; have n0_ := Aside0.mk (below_step HB.out hb); clear HB HP HQ hb c0 c1 c2 c3 c4 c5 c6 c7 c8 c9 c10 c11 c12 d0 d1 d2 d3 d4; have HB := n0_; clear n0_; rcases HH.out with z1 | ⟨z1, rfl⟩))
    all_goals go_ret
    all_goals exact ⟨rfl, HB.out⟩
  · have hd : dq p what by_ = ⟨p.a0, p.a1, p.a2, p.a3, wrap64 (p.a4 - by_)⟩ := (if_neg w0).trans ((if_neg w1).trans (if_neg w2))
    rw [hd] at S6 S7
    dsimp only at S6 S7
    replace S6 := Aside0.mk S6
    replace S7 := Aside0.mk S7
    have g0 : (what == 0) = false := beq_eq_false_iff_ne.2 w0
    have g1 : (what == 1) = false := beq_eq_false_iff_ne.2 w1
    have g2 : (what == 2) = false := beq_eq_false_iff_ne.2 w2
    clear hd w0 w1 w2
    go_enter Try.func4, Try.ntmps4
    go_wp2_with (first | ((with_reducible refine gate_dst (N := 3) rfl ?_); refine box_event ?hg (N := 3) ?hd (cs := #[.int .i64 p.a0, .int .i64 p.a1, .int .i64 p.a2, .int .i64 p.a3, .int .i64 p.a4, .int .i64 p.s, .int .i64 p.r0, .int .i64 p.r1, .int .i64 p.r2, .int .i64 p.r3, .int .i64 p.r4, .int .i64 p.r5, .int .i64 p.r6]) (t := 26) ?hr ?_; (case hd => rfl); (case hg => rfl); (case hr => rfl); intro g hg wn hbox hb; have HP := Aside0.mk (show PolL wn g p from hbox); have n0_ := Aside0.mk (below_step HB.out hb); clear HB; have HB := n0_; clear n0_; obtain ⟨c0, c1, c2, c3, c4, c5, c6, c7, c8, c9, c10, c11, c12⟩ := HP.out.cells; clear hbox hb hg) | (go_at_call 15; (with_reducible refine (pestlelaw46_awake.calls k true _ A0.out).mono ?_); rintro e wn ⟨rfl, hb⟩; clear c0 c1 c2 c3 c4 c5 c6 c7 c8 c9 c10 c11 c12; have n0_ := Aside0.mk (below_step HB.out hb); have n1_ := Aside0.mk (HP.out.next hb); clear HB HP; have HB := n0_; have HP := n1_; clear n0_ n1_; clear hb; obtain ⟨c0, c1, c2, c3, c4, c5, c6, c7, c8, c9, c10, c11, c12⟩ := HP.out.cells) | (go_at_call 18; (with_reducible refine (policy_Check.calls k p 0 _ A3.out).mono ?_); rintro e wn ⟨rfl, hb⟩; clear c0 c1 c2 c3 c4 c5 c6 c7 c8 c9 c10 c11 c12; have n0_ := Aside0.mk (below_step HB.out hb); have n1_ := Aside0.mk (HP.out.next hb); clear HB HP; have HB := n0_; have HP := n1_; clear n0_ n1_; clear hb; obtain ⟨c0, c1, c2, c3, c4, c5, c6, c7, c8, c9, c10, c11, c12⟩ := HP.out.cells) | (go_at_call 17; (with_reducible refine (S1.out _).mono ?_); rintro e wn ⟨rfl, hb⟩; clear c0 c1 c2 c3 c4 c5 c6 c7 c8 c9 c10 c11 c12; have n0_ := Aside0.mk (below_step HB.out hb); have n1_ := Aside0.mk (HP.out.next hb); clear HB HP; have HB := n0_; have HP := n1_; clear n0_ n1_; clear hb; obtain ⟨c0, c1, c2, c3, c4, c5, c6, c7, c8, c9, c10, c11, c12⟩ := HP.out.cells) | (go_at_call 21; (with_reducible refine (policy_Lower.calls k p.a0 p.a1 p.a2 p.a3 p.a4 p.a0 p.a1 p.a2 p.a3 p.a4 false _ A4.out).mono ?_); rintro e wn ⟨rfl, hb⟩; clear c0 c1 c2 c3 c4 c5 c6 c7 c8 c9 c10 c11 c12; have n0_ := Aside0.mk (below_step HB.out hb); have n1_ := Aside0.mk (HP.out.next hb); clear HB HP; have HB := n0_; have HP := n1_; clear n0_ n1_; clear hb; obtain ⟨c0, c1, c2, c3, c4, c5, c6, c7, c8, c9, c10, c11, c12⟩ := HP.out.cells) | (go_at_call 22; (with_reducible refine (policy_Costs.calls p.a0 p.a1 p.a2 p.a3 p.a4 cs _ A5.out).mono ?_); rintro e wc ⟨v0_, rfl, hR, hb⟩; have n0_ := Aside0.mk (below_step (below_alloc HB.out _) hb); have n1_ := Aside0.mk (PolL.next (HP.out.next (below_alloc (Below.refl _ _) _)) hb); have HQ := Aside0.mk (QolL.next (q := pq p) (show QolL (wn.alloc _) wn.heap.size (pq p) from blk_new wn _) hb); have HZ := Aside0.mk (show w.heap.size ≤ wn.heap.size from HB.out.size); have HNE := Aside0.mk (show g < wn.heap.size from blk_lt HP.out); clear c0 c1 c2 c3 c4 c5 c6 c7 c8 c9 c10 c11 c12 HB HP hb; have HB := n0_; have HP := n1_; clear n0_ n1_; obtain ⟨Ao, co, eo⟩ := Kd.R_slice hR; subst eo; obtain ⟨gq, hgq⟩ : ∃ gq, wn.heap.size = gq := ⟨_, rfl⟩; rw [hgq] at HQ HZ HNE; have hne : ¬ g = gq := (by have := HNE.out; omega); have hne2 : ¬ gq = g := (by have := HNE.out; omega); obtain ⟨ad, e_, hxc⟩ := Kd.at_int (Kd.R_reads' hR).2.2 what J0.out J1.out; rw [hx.out] at hxc; have hd := HQ.out.cells; unfold pq at hd; dsimp only at hd; obtain ⟨d0, d1, d2, d3, d4⟩ := hd; have fz := fun i => blk_frozen HQ.out i; obtain ⟨c0, c1, c2, c3, c4, c5, c6, c7, c8, c9, c10, c11, c12⟩ := HP.out.cells; clear hR) | (go_at_call 21; (with_reducible refine (S6.out _).mono ?_); rintro e wm ⟨rfl, hb⟩; have n0_ := Aside0.mk (below_step (HB.out.setCell (p := ⟨gq, 4, none⟩) HZ.out (.int .i64 (wrap64 (p.a4 - by_)))) hb); have n1_ := Aside0.mk (PolL.next (show PolL (wc.setCell ⟨gq, 4, none⟩ (.int .i64 (wrap64 (p.a4 - by_)))) g p from (Below.heap_setCell wc ⟨gq, 4, none⟩ (.int .i64 (wrap64 (p.a4 - by_))) g hne).trans HP.out) hb); have n2_ := Aside0.mk (QolL.next (q := ⟨p.a0, p.a1, p.a2, p.a3, wrap64 (p.a4 - by_)⟩) (show QolL (wc.setCell ⟨gq, 4, none⟩ (.int .i64 (wrap64 (p.a4 - by_)))) gq ⟨p.a0, p.a1, p.a2, p.a3, wrap64 (p.a4 - by_)⟩ from blk_set HQ.out 4 (.int .i64 (wrap64 (p.a4 - by_)))) hb); clear HB HP HQ hb c0 c1 c2 c3 c4 c5 c6 c7 c8 c9 c10 c11 c12 d0 d1 d2 d3 d4 fz; have HB := n0_; have HP := n1_; have HQ := n2_; clear n0_ n1_ n2_; obtain ⟨c0, c1, c2, c3, c4, c5, c6, c7, c8, c9, c10, c11, c12⟩ := HP.out.cells; have hd := HQ.out.cells; dsimp only at hd; obtain ⟨d0, d1, d2, d3, d4⟩ := hd) | (go_at_call 17; (with_reducible refine (S7.out _).mono ?_); rintro e wm ⟨rfl, hb⟩; have n0_ := Aside0.mk (below_step HB.out hb); clear HB HP HQ hb c0 c1 c2 c3 c4 c5 c6 c7 c8 c9 c10 c11 c12 d0 d1 d2 d3 d4; have HB := n0_; clear n0_; rcases HH.out with z1 | ⟨z1, rfl⟩))
    all_goals go_ret
    all_goals exact ⟨rfl, HB.out⟩
theorem pestlelaw46_PolicyOwn.calls (k : Nat) (a0_0 : Int) (a0_1 : Int) (a0_2 : Int) (a0_3 : Int) (a0_4 : Int) (a0_5 : Int) (a0_6 : Int) (a0_7 : Int) (a0_8 : Int) (a0_9 : Int) (a0_10 : Int) (a0_11 : Int) (a0_12 : Int) (a1 : Int) (a2 : Int) (r : Bool) (w : World) (h : pestlelaw46_PolicyOwn.f k a0_0 a0_1 a0_2 a0_3 a0_4 a0_5 a0_6 a0_7 a0_8 a0_9 a0_10 a0_11 a0_12 a1 a2 = some r) :
  Calls Try.prog 4 #[.agg #[.int .i64 a0_0, .int .i64 a0_1, .int .i64 a0_2, .int .i64 a0_3, .int .i64 a0_4, .int .i64 a0_5, .int .i64 a0_6, .int .i64 a0_7, .int .i64 a0_8, .int .i64 a0_9, .int .i64 a0_10, .int .i64 a0_11, .int .i64 a0_12], .int .i64 a1, .int .i64 a2] w fun e w' => e = .returned (.bool r) ∧ Below w.heap.size w w' :=
  pestlelaw46_PolicyOwn.go k ⟨a0_0, a0_1, a0_2, a0_3, a0_4, a0_5, a0_6, a0_7, a0_8, a0_9, a0_10, a0_11, a0_12⟩ a1 a2 r w h

end Go.Proofs.Ytiicjhibnobhdaa.Pall
