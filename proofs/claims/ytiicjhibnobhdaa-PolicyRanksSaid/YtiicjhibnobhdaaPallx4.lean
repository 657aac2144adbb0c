-- PRINTED by print.py (a twelfth state) out of the translation. Not trusted: Lean checks it.
import Derived.Test.YtiicjhibnobhdaaPallx0
import Derived.Test.YtiicjhibnobhdaaPallx2
import Derived.Test.YtiicjhibnobhdaaPallx3
namespace Go.Proofs.Ytiicjhibnobhdaa.Pall
open Go.RowKit Go.Proofs.YtiicjhibnobhdaaW.PrintWords Go.Proofs.YtiicjhibnobhdaaW.PrintLast Go.Proofs.YtiicjhibnobhdaaW.PrintMore
attribute [local go_sem] max2_int min2_int max_two min_two max_three min_three max_four min_four   -- for this text's walks alone
set_option linter.unusedVariables false
set_option linter.unusedSimpArgs false

/-! ### policy_Ranked: function 23 -/
/-- where an algorithm stands among those that are there -/
def rkPos (p : PV) (l : List Int) (x : Int) : Nat → Nat
  | 0 => 0
  | m + 1 => if rkAt p (l.getD m 0).toNat < x then rkPos p l x m else m + 1
theorem rkPos_succ (p : PV) (l : List Int) (x : Int) (m : Nat) : rkPos p l x (m + 1) = if rkAt p (l.getD m 0).toNat < x then rkPos p l x m else m + 1 := rfl
def rkPut (p : PV) (l : List Int) (n : Nat) : List Int := l.take (rkPos p l (rkAt p n) l.length) ++ ([(n : Int)] ++ l.drop (rkPos p l (rkAt p n) l.length))
def rkRun (p : PV) : Nat → Nat → List Int → List Int
  | 0, _, l => l
  | d + 1, n, l => rkRun p d (n + 1) (if rkAt p n < 1 then l else rkPut p l n)
theorem rkRun_succ (p : PV) (d n : Nat) (l : List Int) : rkRun p (d + 1) n l = rkRun p d (n + 1) (if rkAt p n < 1 then l else rkPut p l n) := rfl
theorem rkPut_len (p : PV) (l : List Int) (n : Nat) : (rkPut p l n).length = l.length + 1 := by
  unfold rkPut
  rw [List.length_append, List.length_append, List.length_take, List.length_drop]
  show min _ _ + (1 + _) = _
  omega
theorem rkPut_in {p : PV} {l : List Int} {n : Nat} (h : ∀ x ∈ l, 0 ≤ x ∧ x < 7) (hn : n < 7) : ∀ x ∈ rkPut p l n, 0 ≤ x ∧ x < 7 := by
  intro x hx
  unfold rkPut at hx
  rcases List.mem_append.1 hx with hx | hx
  · exact h x (List.mem_of_mem_take hx)
  · rcases List.mem_append.1 hx with hx | hx
    · rw [List.mem_singleton.1 hx]; omega
    · exact h x (List.mem_of_mem_drop hx)
set_option maxHeartbeats 8000000 in
set_option maxRecDepth 100000 in
theorem policy_Ranked.calls (p : PV) (w : World) :
    Calls Try.prog 23 #[.agg #[.int .i64 p.a0, .int .i64 p.a1, .int .i64 p.a2, .int .i64 p.a3, .int .i64 p.a4, .int .i64 p.s, .int .i64 p.r0, .int .i64 p.r1, .int .i64 p.r2, .int .i64 p.r3, .int .i64 p.r4, .int .i64 p.r5, .int .i64 p.r6]] w fun e w' => ∃ v0_ : Value, e = .returned v0_ ∧ Kd.R (Kd.int .i64) 3 w' w.heap.size (fun _ => True) v0_ (rkRun p 6 1 []) ∧ Below w.heap.size w w' := by
  have HB := Aside0.mk (Below.refl w.heap.size w)
  obtain ⟨RR, hRR⟩ : ∃ RR, rkRun p 6 1 [] = RR := ⟨_, rfl⟩
  rw [hRR]
  replace hRR := Aside0.mk hRR
  go_enter Try.func23, Try.ntmps23
  go_wp2_with ((with_reducible refine gate_dst (N := 1) rfl ?_); refine box_event ?hg (N := 1) ?hd (cs := #[.int .i64 p.a0, .int .i64 p.a1, .int .i64 p.a2, .int .i64 p.a3, .int .i64 p.a4, .int .i64 p.s, .int .i64 p.r0, .int .i64 p.r1, .int .i64 p.r2, .int .i64 p.r3, .int .i64 p.r4, .int .i64 p.r5, .int .i64 p.r6]) (t := 26) ?hr ?_; (case hd => rfl); (case hg => rfl); (case hr => rfl); intro g hg wn hbox hb; have HP := Aside0.mk (show PolL wn g p from hbox); have n0_ := Aside0.mk (below_step HB.out hb); clear HB; have HB := n0_; clear n0_; obtain ⟨c0, c1, c2, c3, c4, c5, c6, c7, c8, c9, c10, c11, c12⟩ := HP.out.cells; clear hbox hb hg)
  clear c0 c1 c2 c3 c4 c5 c6 c7 c8 c9 c10 c11 c12
  go_loopw [3, 4] (fun v3 v4 wz => ∃ (n : Nat) (l : List Int), 1 ≤ n ∧ n ≤ 7 ∧ v4 = .int .i64 (n : Int) ∧ Aside0 (rkRun p (7 - n) n l = RR) ∧ Aside0 (∀ x ∈ l, 0 ≤ x ∧ x < 7) ∧ Aside0 (l.length < n) ∧ Aside0 (PolL wz g p) ∧ Aside0 (Kd.R (Kd.int .i64) 3 wz w.heap.size (fun _ => True) v3 l) ∧ Aside0 (Below w.heap.size w wz)) (fun _ v4 _ => 7 - (intOf v4).toNat)
  case atStart => exact ⟨1, [], by omega, by omega, rfl, hRR, ⟨fun x hx => by cases hx⟩, ⟨by decide⟩, HP, ⟨Kd.R_nil _ _ _ _ _⟩, HB⟩
  case round =>
    clear hRR HP HB
    obtain ⟨n, l, hn1, hn, rfl, E, HIN, LN, HP, HO, HB⟩ := hrel
    by_cases hlt : n < 7
    case neg =>
      obtain rfl : n = 7 := by omega
      obtain rfl : l = RR := E.out
      clear hlt hn hn1
      go_wp2
      go_ret
      exact ⟨_, rfl, HO.out, HB.out⟩
    have p1 : decide ((n : Int) < 7) = true := decide_eq_true (by omega)
    have hE := E.out
    rw [show 7 - n = (6 - n) + 1 by omega, rkRun_succ] at hE
    have q2 : (0 : Int) ≤ (n : Int) := by omega
    have q3 : (n : Int) < 7 := by omega
    have cN := HP.out.at n hlt
    obtain ⟨x, hx⟩ : ∃ x, rkAt p n = x := ⟨_, rfl⟩
    rw [hx] at hE cN
    have hadd : IntKind.i64.wrap ((n : Int) + 1) = (n : Int) + 1 := by rw [IntKind.wrap_i64]; omega
    have IN := Aside0.mk hlt
    by_cases hneg : x < 1
    case pos =>
      rw [if_pos hneg] at hE
      replace hE := Aside0.mk hE
      have n1 : decide (x < 1) = true := decide_eq_true hneg
      clear hlt hn hneg E
      go_wp2
      exact ⟨⟨n + 1, l, by omega, by have := IN.out; omega, by rfl, ⟨by rw [show 7 - (n + 1) = 6 - n by omega]; exact hE.out⟩, HIN, ⟨by have := LN.out; omega⟩, HP, HO, HB⟩, by simp [intOf]; have := IN.out; omega⟩
    rw [if_neg hneg] at hE
    replace hE := Aside0.mk hE
    have n1 : decide (x < 1) = false := decide_eq_false hneg
    obtain ⟨Ao, co, eo⟩ := Kd.R_slice HO.out
    subst eo
    obtain ⟨PP, hPP⟩ : ∃ PP, rkPos p l x l.length = PP := ⟨_, rfl⟩
    have PPE0 := Aside0.mk (show rkPos p l (rkAt p n) l.length = PP by rw [hx]; exact hPP)
    replace hPP := Aside0.mk hPP
    replace hx := Aside0.mk hx
    have LL := Aside0.mk (show l.length ≤ 7 by have := LN.out; omega)
    clear hlt hn hneg E
    go_wp2
    clear p1 n1 cN
    go_loopw [5] (fun v5 wz => ∃ m : Nat, m ≤ l.length ∧ v5 = .int .i64 (m : Int) ∧ Aside0 (rkPos p l x m = PP) ∧ Aside0 (PolL wz g p) ∧ Aside0 (Kd.R (Kd.int .i64) 3 wz w.heap.size (fun _ => True) (.slice Ao l.length co) l) ∧ Aside0 (Below w.heap.size w wz)) (fun v5 _ => (intOf v5).toNat)
    case atStart => exact ⟨l.length, by omega, rfl, hPP, HP, HO, HB⟩
    case round =>
      clear hPP HP HB HO
      obtain ⟨m, hm, rfl, E, HP, HO, HB⟩ := hrel
      by_cases hz : m = 0
      case pos =>
        subst hz
        obtain rfl : 0 = PP := E.out
        have PPE := PPE0
        have HM := Aside0.mk hm
        obtain ⟨m, hm0⟩ : ∃ m, m = 0 := ⟨0, rfl⟩
        rw [← hm0] at PPE HM
        have w1 : decide ((0 : Int) < 0) = false := rfl
        clear hm E PPE0
        go_wp2
        go_quiet (fail)
        go_wp2
        rw [show ((0 : Nat) : Int) = (m : Int) by omega]
        clear w1 hm0
        replace HP := Aside0.mk (show PolL (wr.drewN nq) g p from HP.out.next (by repeat (first | exact Below.refl _ _ | apply pw_below_drewN | apply below_drew1)))
        replace HO := Aside0.mk (show Kd.R (Kd.int .i64) 3 (wr.drewN nq) w.heap.size (fun _ => True) (.slice Ao l.length co) l from Kd.R_below HO.out (by repeat (first | exact Below.refl _ _ | apply pw_below_drewN | apply below_drew1)))
        replace HB := Aside0.mk (show Below w.heap.size w (wr.drewN nq) from (by repeat (first | exact HB.out | apply pw_below_drewN | apply below_drew1)))
        generalize wr.drewN nq = wq at HP HO HB ⊢
        obtain ⟨j0, hj0, _, hjz, _⟩ := info_parts info3
        have hcut1 := cut_to (P := Try.prog) 36 3 .i64 Try.underlying36 hj0 Ao l.length co (m : Int) (by omega) (by have := HM.out; omega) (Kd.R_reads' HO.out).2.1
        have hcut2 := cut_from (P := Try.prog) 36 3 .i64 Try.underlying36 hj0 (Kd.int .i64).sz hjz Ao l.length co (m : Int) (by omega) (by have := HM.out; omega)
        have HCD := Kd.C_drop (m := m) (c := co) (Kd.R_reads' HO.out).2.2 HM.out (Kd.R_reads' HO.out).2.1
        rw [Int.toNat_natCast] at hcut1 hcut2
        rw [List.length_drop] at HCD
        obtain ⟨AD, hAD⟩ : ∃ AD, (if co = m then Ao else Ao.map (·.add (m * (Kd.int .i64).sz))) = AD := ⟨_, rfl⟩
        rw [hAD] at hcut2 HCD
        obtain ⟨cD, hcD⟩ : ∃ cD, co - m = cD := ⟨_, rfl⟩
        rw [hcD] at hcut2
        replace HCD := Aside0.mk HCD
        clear hAD hcD hj0 hjz
        refine start_ (n := 11) (S := (fun _ : World => True)) (ds := [4, 8, 9]) #[false, false, false, false, false, false, false, false, false, false, false] (by kernel_rfl) rfl rfl trivial (fun hHeld => ?_)
        replace HP := Aside0.mk (HP.out.next (below_drew (Below.refl _ _)))
        replace HO := Aside0.mk (Kd.R_below HO.out (below_drew (Below.refl _ _)))
        replace HCD := Aside0.mk (Kd.C_below HCD.out (below_drew (Below.refl _ _)))
        replace HB := Aside0.mk (below_drew HB.out)
        generalize wq.drew = wd_ at HP HO HCD HB hHeld ⊢
        refine pure_ (i := 0) (N := some 36) (v := ?_) (a' := ?_) #[true, false, false, false, false, false, false, false, false, false, false] rfl rfl (by kernel_rfl) (fun _ _ _ h => h) (Or.inl ⟨by rfl, ?_⟩) ?_ ?_
        rotate_left
        · intro w'
          go_simp
          try with_reducible rfl
        rotate_left
        · simp only [Act.put, List.setIfInBounds_toArray, List.set_cons_zero, List.set_cons_succ, i64_w, i32_w]
          rfl
        refine pure_ (i := 1) (N := some 37) (v := ?_) (a' := ?_) #[true, true, false, false, false, false, false, false, false, false, false] rfl rfl (by kernel_rfl) (fun _ _ _ h => h) (Or.inl ⟨by rfl, ?_⟩) ?_ ?_
        rotate_left
        · intro w'
          go_simp
          try with_reducible rfl
        rotate_left
        · simp only [Act.put, List.setIfInBounds_toArray, List.set_cons_zero, List.set_cons_succ, i64_w, i32_w]
          rfl
        refine pure_ (i := 2) (N := some 38) (v := ?_) (a' := ?_) #[true, true, true, false, false, false, false, false, false, false, false] rfl rfl (by kernel_rfl) (fun _ _ _ h => h) (Or.inl ⟨by rfl, ?_⟩) ?_ ?_
        rotate_left
        · intro w'
          go_simp
          try with_reducible rfl
        rotate_left
        · simp only [Act.put, List.setIfInBounds_toArray, List.set_cons_zero, List.set_cons_succ, i64_w, i32_w]
          rfl
        refine pure_ (i := 3) (N := some 39) (v := ?_) (a' := ?_) #[true, true, true, true, false, false, false, false, false, false, false] rfl rfl (by kernel_rfl) (fun _ _ _ h => h) (Or.inl ⟨by rfl, ?_⟩) ?_ ?_
        rotate_left
        · intro w'
          go_simp
          try with_reducible rfl
        rotate_left
        · simp only [Act.put, List.setIfInBounds_toArray, List.set_cons_zero, List.set_cons_succ, i64_w, i32_w]
          rfl
        refine pure_ (i := 5) (N := some 41) (v := ?_) (a' := ?_) #[true, true, true, true, false, true, false, false, false, false, false] rfl rfl (by kernel_rfl) (fun _ _ _ h => h) (Or.inl ⟨by rfl, ?_⟩) ?_ ?_
        rotate_left
        · intro w'
          go_simp
          try with_reducible rfl
        rotate_left
        · simp only [Act.put, List.setIfInBounds_toArray, List.set_cons_zero, List.set_cons_succ, i64_w, i32_w]
          rfl
        refine pure_ (i := 6) (N := some 42) (v := ?_) (a' := ?_) #[true, true, true, true, false, true, true, false, false, false, false] rfl rfl (by kernel_rfl) (fun _ _ _ h => h) (Or.inl ⟨by rfl, ?_⟩) ?_ ?_
        rotate_left
        · intro w'
          go_simp
          try with_reducible rfl
        rotate_left
        · simp only [Act.put, List.setIfInBounds_toArray, List.set_cons_zero, List.set_cons_succ, i64_w, i32_w]
          rfl
        refine pure_ (i := 7) (N := some 43) (v := ?_) (a' := ?_) #[true, true, true, true, false, true, true, true, false, false, false] rfl rfl (by kernel_rfl) (fun _ _ _ h => h) (Or.inl ⟨by rfl, ?_⟩) ?_ ?_
        rotate_left
        · intro w'
          go_simp
          try with_reducible rfl
        rotate_left
        · simp only [Act.put, List.setIfInBounds_toArray, List.set_cons_zero, List.set_cons_succ, i64_w, i32_w]
          rfl
        refine last_ (i := 4) (N := (some 40)) #[true, true, true, true, true, true, true, true, false, false, false] rfl rfl (by kernel_rfl) (by decide) (fun K hK => ?_)
        refine Kd.R_lit_step (Kd.int .i64) _ 3 (by rfl) (N := 40) rfl (xs := [(n : Int)]) (inner := [.int .i64 (n : Int)]) (ok := fun _ => True) (okp := fun _ => True) ?hr4 ?hp4 (fun _ hk => hk) trivial (Below.refl _ _) (Nat.le_refl _) (by simp) ?_
        case hr4 => first | (go_simp; done) | (go_simp; rfl)
        case hp4 => exact Reps.one (show Kd.M (Kd.int .i64) _ _ _ (n : Int) [.int .i64 (n : Int)] from rfl) (Reps.none _ _)
        intro vL wL hoL hb hg_ hnew_
        have n0_ := Aside0.mk (Kd.R_elder' HO.out (Kd.R_base hoL) hb)
        have n1_ := Aside0.mk (Kd.R_lower (Kd.R_new' hoL (Kd.R_lt HO.out)) (below_size HB.out))
        have n2_ := Aside0.mk (below_step HB.out hb)
        have n3_ := Aside0.mk (HP.out.next hb)
        have n4_ := Aside0.mk (Kd.C_below HCD.out hb)
        clear HO HB HP HCD hb hoL hg_ hnew_
        have HO := n0_
        have HI := n1_
        have HB := n2_
        have HP := n3_
        have HCD := n4_
        clear n0_ n1_ n2_ n3_ n4_
        refine hK.out _ _ ?_
        clear hK K
        refine norm_ (a' := ?_) ?_ ?_
        rotate_left
        · show Act.put _ (some 40) _ = _
          simp only [Act.put, List.setIfInBounds_toArray, List.set_cons_zero, List.set_cons_succ, i64_w, i32_w]
          rfl
        refine last_ (i := 8) (N := (some 44)) #[true, true, true, true, true, true, true, true, true, false, false] rfl rfl (by kernel_rfl) (by decide) (fun K hK => ?_)
        refine Kd.R_append_rows_step (Kd.int .i64) (w0 := w) w.heap.size (by rfl) (.tmp 40) (.tmp 43) 36 3 (.int .i64 0) 8 rfl Try.underlying36 info3 rfl (by decide) (by omega) vL [(n : Int)] (l.drop m) AD (l.length - m) cD (fun k_ => some k_ ≠ (.slice Ao l.length co : Value).ownBlock) (fun _ => False) rfl rfl ?aO ?aR (fun _ _ h => h) (fun _ h => h.elim) ?aF ?aB ?aS ?aL ?_
        case aR => exact HCD.out
        case aB => exact HB.out
        case aF => exact fun k_ hk => Kd.fresh' (Kd.R_lt HO.out) k_ hk
        case aO => exact Kd.R_mono HI.out (fun _ hk => hk.2)
        case aS => exact below_size HB.out
        case aL => have h_ := LL.out; show (1 + (l.length - m)) * 8 ≤ _; omega
        intro vI wI ho hb hg hat
        have n0_ := Aside0.mk (Kd.R_after (ok := fun _ => True) HO.out hg hat)
        have n1_ := Aside0.mk ho
        have n2_ := Aside0.mk hb
        have n3_ := Aside0.mk (show PolL wI g p from (hg.block g (blk_lt HP.out) (Kd.R_ne HI.out HP.out (by decide))).trans HP.out)
        clear HO HI HB HP HCD ho hb hg hat
        have HO := n0_
        have HI := n1_
        have HB := n2_
        have HP := n3_
        clear n0_ n1_ n2_ n3_
        obtain ⟨AI, cI, eI⟩ := Kd.R_slice HI.out
        subst eI
        refine hK.out _ _ ?_
        clear hK K
        refine norm_ (a' := ?_) ?_ ?_
        rotate_left
        · show Act.put _ (some 44) _ = _
          simp only [Act.put, List.setIfInBounds_toArray, List.set_cons_zero, List.set_cons_succ, i64_w, i32_w]
          rfl
        refine last_ (i := 9) (N := (some 45)) #[true, true, true, true, true, true, true, true, true, true, false] rfl rfl (by kernel_rfl) (by decide) (fun K hK => ?_)
        refine Kd.R_append_rows_step (Kd.int .i64) (w0 := w) w.heap.size (by rfl) (.tmp 38) (.tmp 44) 36 3 (.int .i64 0) 8 rfl Try.underlying36 info3 rfl (by decide) (by omega) (.slice Ao m co) (l.take m) ([(n : Int)] ++ l.drop m) _ _ _ (fun k_ => some k_ ≠ (.slice AI ([(n : Int)] ++ l.drop m).length cI : Value).ownBlock) (fun _ => False) rfl rfl ?aO ?aR (fun _ _ h => h) (fun _ h => h.elim) ?aF ?aB ?aS ?aL ?_
        case aR => exact (Kd.R_reads' HI.out).2.2
        case aB => exact HB.out
        case aF => exact fun k_ hk => Kd.fresh' (Kd.R_lt HI.out) k_ hk
        case aO => exact Kd.R_mono (Kd.R_take HO.out HM.out) (fun _ hk => hk.2)
        case aS => exact below_size HB.out
        case aL => have h_ := LL.out; rw [List.length_append, List.length_drop, List.length_take]; show (min m l.length + (1 + (l.length - m))) * 8 ≤ _; omega
        intro vO wO ho hb hg hat
        have n0_ := Aside0.mk (show Kd.R (Kd.int .i64) 3 wO w.heap.size (fun _ => True) vO (rkPut p l n) by unfold rkPut; rw [PPE.out]; exact Kd.R_mono ho (fun _ _ => trivial))
        have n2_ := Aside0.mk hb
        have n3_ := Aside0.mk (show PolL wO g p from (hg.block g (blk_lt HP.out) (Kd.R_ne (Kd.R_take HO.out HM.out) HP.out (by decide))).trans HP.out)
        clear HO HI HB HP ho hb hg hat
        have HO := n0_
        have HB := n2_
        have HP := n3_
        clear n0_ n2_ n3_
        refine hK.out _ _ ?_
        clear hK K
        refine norm_ (a' := ?_) ?_ ?_
        rotate_left
        · show Act.put _ (some 45) _ = _
          simp only [Act.put, List.setIfInBounds_toArray, List.set_cons_zero, List.set_cons_succ, i64_w, i32_w]
          rfl
        refine pure_ (i := 10) (N := some 3) (v := ?_) (a' := ?_) #[true, true, true, true, true, true, true, true, true, true, true] rfl rfl (by kernel_rfl) (fun _ _ _ h => h) (Or.inl ⟨by rfl, ?_⟩) ?_ ?_
        rotate_left
        · intro w'
          go_simp
          try with_reducible rfl
        rotate_left
        · simp only [Act.put, List.setIfInBounds_toArray, List.set_cons_zero, List.set_cons_succ, i64_w, i32_w]
          rfl
        refine done_ (by kernel_rfl) ?_
        go_wp2
        refine ⟨⟨n + 1, rkPut p l n, ?_, ?_, by rfl, ?_, ?_, ?_, HP, HO, HB⟩, ?_⟩
        · have := IN.out; omega
        · have := IN.out; omega
        · exact ⟨by rw [show 7 - (n + 1) = 6 - n by omega]; exact hE.out⟩
        · exact ⟨rkPut_in HIN.out IN.out⟩
        · exact ⟨by have := LN.out; have := rkPut_len p l n; omega⟩
        · simp [intOf]; have := IN.out; omega
      obtain ⟨q, rfl⟩ : ∃ q, m = q + 1 := ⟨m - 1, by omega⟩
      obtain ⟨ad, e_, hxc⟩ := Kd.at_int (Kd.R_reads' HO.out).2.2 (q : Int) (by omega) (by omega)
      have hrd : rd l (q : Int) = l.getD q 0 := rfl
      rw [hrd, show ((q : Int)).toNat = q from rfl] at hxc
      have hyin := HIN.out (l.getD q 0) (by rw [List.getD_eq_getElem?_getD, List.getElem?_eq_getElem (by omega)]; exact List.getElem_mem _)
      have cN := HP.out.at n IN.out
      rw [hx.out] at cN
      have hEE := E.out
      rw [rkPos_succ] at hEE
      obtain ⟨y, hy⟩ : ∃ y, l.getD q 0 = y := ⟨_, rfl⟩
      rw [hy] at hxc hyin hEE
      obtain ⟨hy0, hy7⟩ := hyin
      have cY := HP.out.at y.toNat (by omega)
      obtain ⟨z, hz2⟩ : ∃ z, rkAt p y.toNat = z := ⟨_, rfl⟩
      rw [hz2] at cY hEE
      have w1 : decide ((0 : Int) < (q : Int) + 1) = true := decide_eq_true (by omega)
      have w3 : (q : Int) < (l.length : Int) := by omega
      have w4 : q < l.length := by omega
      have w2 : IntKind.i64.wrap (q : Int) = (q : Int) := by
        have := LL.out
        rw [IntKind.wrap_i64]; omega
      have w6 : wrap64 (q : Int) = (q : Int) := by
        have := LL.out
        rw [wrap64]; omega
      have w7 : IntKind.i64.wrap ((q : Int) + 1 - 1) = (q : Int) := by rw [show (q : Int) + 1 - 1 = (q : Int) by omega]; exact w2
      have HM := Aside0.mk hm
      have HAo := Aside0.mk e_
      by_cases hlz : z < x
      case pos =>
        rw [if_pos hlz] at hEE
        replace hEE := Aside0.mk hEE
        have w5 : decide (z < x) = true := decide_eq_true hlz
        clear hz hy hz2 hlz hm E hrd
        go_wp2
        go_quiet (fail)
        go_wp2
        clear w1 w2 w3 w4 w5 w6 w7 hxc cN cY
        exact ⟨⟨q, by have := HM.out; omega, by rfl, hEE, ⟨HP.out.next (by repeat (first | exact Below.refl _ _ | apply pw_below_drewN | apply below_drew1))⟩, ⟨Kd.R_below HO.out (by repeat (first | exact Below.refl _ _ | apply pw_below_drewN | apply below_drew1))⟩, ⟨(by repeat (first | exact HB.out | apply pw_below_drewN | apply below_drew1))⟩⟩, by simp [intOf]⟩
      rw [if_neg hlz] at hEE
      subst hEE
      have PPE := PPE0
      have w5 : decide (z < x) = false := decide_eq_false hlz
      obtain ⟨m, hm0⟩ : ∃ m, m = q + 1 := ⟨_, rfl⟩
      rw [← hm0] at PPE HM
      replace hm0 := Aside0.mk hm0
      clear hz hy hz2 hlz hm E hrd PPE0
      go_wp2
      go_quiet (fail)
      go_wp2
      clear w1 w2 w3 w4 w5 w6 w7 hxc cN cY e_ HAo
      have hm1 : (q : Int) + 1 = (m : Int) := by have := hm0.out; omega
      have hm2 : ((q + 1 : Nat) : Int) = (m : Int) := by have := hm0.out; omega
      try rw [hm1]
      try rw [hm2]
      clear hm0 hm1 hm2
      replace HP := Aside0.mk (show PolL (wr.drewN nq) g p from HP.out.next (by repeat (first | exact Below.refl _ _ | apply pw_below_drewN | apply below_drew1)))
      replace HO := Aside0.mk (show Kd.R (Kd.int .i64) 3 (wr.drewN nq) w.heap.size (fun _ => True) (.slice Ao l.length co) l from Kd.R_below HO.out (by repeat (first | exact Below.refl _ _ | apply pw_below_drewN | apply below_drew1)))
      replace HB := Aside0.mk (show Below w.heap.size w (wr.drewN nq) from (by repeat (first | exact HB.out | apply pw_below_drewN | apply below_drew1)))
      generalize wr.drewN nq = wq at HP HO HB ⊢
      obtain ⟨j0, hj0, _, hjz, _⟩ := info_parts info3
      have hcut1 := cut_to (P := Try.prog) 36 3 .i64 Try.underlying36 hj0 Ao l.length co (m : Int) (by omega) (by have := HM.out; omega) (Kd.R_reads' HO.out).2.1
      have hcut2 := cut_from (P := Try.prog) 36 3 .i64 Try.underlying36 hj0 (Kd.int .i64).sz hjz Ao l.length co (m : Int) (by omega) (by have := HM.out; omega)
      have HCD := Kd.C_drop (m := m) (c := co) (Kd.R_reads' HO.out).2.2 HM.out (Kd.R_reads' HO.out).2.1
      rw [Int.toNat_natCast] at hcut1 hcut2
      rw [List.length_drop] at HCD
      obtain ⟨AD, hAD⟩ : ∃ AD, (if co = m then Ao else Ao.map (·.add (m * (Kd.int .i64).sz))) = AD := ⟨_, rfl⟩
      rw [hAD] at hcut2 HCD
      obtain ⟨cD, hcD⟩ : ∃ cD, co - m = cD := ⟨_, rfl⟩
      rw [hcD] at hcut2
      replace HCD := Aside0.mk HCD
      clear hAD hcD hj0 hjz
      refine start_ (n := 11) (S := (fun _ : World => True)) (ds := [4, 8, 9]) #[false, false, false, false, false, false, false, false, false, false, false] (by kernel_rfl) rfl rfl trivial (fun hHeld => ?_)
      replace HP := Aside0.mk (HP.out.next (below_drew (Below.refl _ _)))
      replace HO := Aside0.mk (Kd.R_below HO.out (below_drew (Below.refl _ _)))
      replace HCD := Aside0.mk (Kd.C_below HCD.out (below_drew (Below.refl _ _)))
      replace HB := Aside0.mk (below_drew HB.out)
      generalize wq.drew = wd_ at HP HO HCD HB hHeld ⊢
      refine pure_ (i := 0) (N := some 36) (v := ?_) (a' := ?_) #[true, false, false, false, false, false, false, false, false, false, false] rfl rfl (by kernel_rfl) (fun _ _ _ h => h) (Or.inl ⟨by rfl, ?_⟩) ?_ ?_
      rotate_left
      · intro w'
        go_simp
        try with_reducible rfl
      rotate_left
      · simp only [Act.put, List.setIfInBounds_toArray, List.set_cons_zero, List.set_cons_succ, i64_w, i32_w]
        rfl
      refine pure_ (i := 1) (N := some 37) (v := ?_) (a' := ?_) #[true, true, false, false, false, false, false, false, false, false, false] rfl rfl (by kernel_rfl) (fun _ _ _ h => h) (Or.inl ⟨by rfl, ?_⟩) ?_ ?_
      rotate_left
      · intro w'
        go_simp
        try with_reducible rfl
      rotate_left
      · simp only [Act.put, List.setIfInBounds_toArray, List.set_cons_zero, List.set_cons_succ, i64_w, i32_w]
        rfl
      refine pure_ (i := 2) (N := some 38) (v := ?_) (a' := ?_) #[true, true, true, false, false, false, false, false, false, false, false] rfl rfl (by kernel_rfl) (fun _ _ _ h => h) (Or.inl ⟨by rfl, ?_⟩) ?_ ?_
      rotate_left
      · intro w'
        go_simp
        try with_reducible rfl
      rotate_left
      · simp only [Act.put, List.setIfInBounds_toArray, List.set_cons_zero, List.set_cons_succ, i64_w, i32_w]
        rfl
      refine pure_ (i := 3) (N := some 39) (v := ?_) (a' := ?_) #[true, true, true, true, false, false, false, false, false, false, false] rfl rfl (by kernel_rfl) (fun _ _ _ h => h) (Or.inl ⟨by rfl, ?_⟩) ?_ ?_
      rotate_left
      · intro w'
        go_simp
        try with_reducible rfl
      rotate_left
      · simp only [Act.put, List.setIfInBounds_toArray, List.set_cons_zero, List.set_cons_succ, i64_w, i32_w]
        rfl
      refine pure_ (i := 5) (N := some 41) (v := ?_) (a' := ?_) #[true, true, true, true, false, true, false, false, false, false, false] rfl rfl (by kernel_rfl) (fun _ _ _ h => h) (Or.inl ⟨by rfl, ?_⟩) ?_ ?_
      rotate_left
      · intro w'
        go_simp
        try with_reducible rfl
      rotate_left
      · simp only [Act.put, List.setIfInBounds_toArray, List.set_cons_zero, List.set_cons_succ, i64_w, i32_w]
        rfl
      refine pure_ (i := 6) (N := some 42) (v := ?_) (a' := ?_) #[true, true, true, true, false, true, true, false, false, false, false] rfl rfl (by kernel_rfl) (fun _ _ _ h => h) (Or.inl ⟨by rfl, ?_⟩) ?_ ?_
      rotate_left
      · intro w'
        go_simp
        try with_reducible rfl
      rotate_left
      · simp only [Act.put, List.setIfInBounds_toArray, List.set_cons_zero, List.set_cons_succ, i64_w, i32_w]
        rfl
      refine pure_ (i := 7) (N := some 43) (v := ?_) (a' := ?_) #[true, true, true, true, false, true, true, true, false, false, false] rfl rfl (by kernel_rfl) (fun _ _ _ h => h) (Or.inl ⟨by rfl, ?_⟩) ?_ ?_
      rotate_left
      · intro w'
        go_simp
        try with_reducible rfl
      rotate_left
      · simp only [Act.put, List.setIfInBounds_toArray, List.set_cons_zero, List.set_cons_succ, i64_w, i32_w]
        rfl
      refine last_ (i := 4) (N := (some 40)) #[true, true, true, true, true, true, true, true, false, false, false] rfl rfl (by kernel_rfl) (by decide) (fun K hK => ?_)
      refine Kd.R_lit_step (Kd.int .i64) _ 3 (by rfl) (N := 40) rfl (xs := [(n : Int)]) (inner := [.int .i64 (n : Int)]) (ok := fun _ => True) (okp := fun _ => True) ?hr4 ?hp4 (fun _ hk => hk) trivial (Below.refl _ _) (Nat.le_refl _) (by simp) ?_
      case hr4 => first | (go_simp; done) | (go_simp; rfl)
      case hp4 => exact Reps.one (show Kd.M (Kd.int .i64) _ _ _ (n : Int) [.int .i64 (n : Int)] from rfl) (Reps.none _ _)
      intro vL wL hoL hb hg_ hnew_
      have n0_ := Aside0.mk (Kd.R_elder' HO.out (Kd.R_base hoL) hb)
      have n1_ := Aside0.mk (Kd.R_lower (Kd.R_new' hoL (Kd.R_lt HO.out)) (below_size HB.out))
      have n2_ := Aside0.mk (below_step HB.out hb)
      have n3_ := Aside0.mk (HP.out.next hb)
      have n4_ := Aside0.mk (Kd.C_below HCD.out hb)
      clear HO HB HP HCD hb hoL hg_ hnew_
      have HO := n0_
      have HI := n1_
      have HB := n2_
      have HP := n3_
      have HCD := n4_
      clear n0_ n1_ n2_ n3_ n4_
      refine hK.out _ _ ?_
      clear hK K
      refine norm_ (a' := ?_) ?_ ?_
      rotate_left
      · show Act.put _ (some 40) _ = _
        simp only [Act.put, List.setIfInBounds_toArray, List.set_cons_zero, List.set_cons_succ, i64_w, i32_w]
        rfl
      refine last_ (i := 8) (N := (some 44)) #[true, true, true, true, true, true, true, true, true, false, false] rfl rfl (by kernel_rfl) (by decide) (fun K hK => ?_)
      refine Kd.R_append_rows_step (Kd.int .i64) (w0 := w) w.heap.size (by rfl) (.tmp 40) (.tmp 43) 36 3 (.int .i64 0) 8 rfl Try.underlying36 info3 rfl (by decide) (by omega) vL [(n : Int)] (l.drop m) AD (l.length - m) cD (fun k_ => some k_ ≠ (.slice Ao l.length co : Value).ownBlock) (fun _ => False) rfl rfl ?aO ?aR (fun _ _ h => h) (fun _ h => h.elim) ?aF ?aB ?aS ?aL ?_
      case aR => exact HCD.out
      case aB => exact HB.out
      case aF => exact fun k_ hk => Kd.fresh' (Kd.R_lt HO.out) k_ hk
      case aO => exact Kd.R_mono HI.out (fun _ hk => hk.2)
      case aS => exact below_size HB.out
      case aL => have h_ := LL.out; show (1 + (l.length - m)) * 8 ≤ _; omega
      intro vI wI ho hb hg hat
      have n0_ := Aside0.mk (Kd.R_after (ok := fun _ => True) HO.out hg hat)
      have n1_ := Aside0.mk ho
      have n2_ := Aside0.mk hb
      have n3_ := Aside0.mk (show PolL wI g p from (hg.block g (blk_lt HP.out) (Kd.R_ne HI.out HP.out (by decide))).trans HP.out)
      clear HO HI HB HP HCD ho hb hg hat
      have HO := n0_
      have HI := n1_
      have HB := n2_
      have HP := n3_
      clear n0_ n1_ n2_ n3_
      obtain ⟨AI, cI, eI⟩ := Kd.R_slice HI.out
      subst eI
      refine hK.out _ _ ?_
      clear hK K
      refine norm_ (a' := ?_) ?_ ?_
      rotate_left
      · show Act.put _ (some 44) _ = _
        simp only [Act.put, List.setIfInBounds_toArray, List.set_cons_zero, List.set_cons_succ, i64_w, i32_w]
        rfl
      refine last_ (i := 9) (N := (some 45)) #[true, true, true, true, true, true, true, true, true, true, false] rfl rfl (by kernel_rfl) (by decide) (fun K hK => ?_)
      refine Kd.R_append_rows_step (Kd.int .i64) (w0 := w) w.heap.size (by rfl) (.tmp 38) (.tmp 44) 36 3 (.int .i64 0) 8 rfl Try.underlying36 info3 rfl (by decide) (by omega) (.slice Ao m co) (l.take m) ([(n : Int)] ++ l.drop m) _ _ _ (fun k_ => some k_ ≠ (.slice AI ([(n : Int)] ++ l.drop m).length cI : Value).ownBlock) (fun _ => False) rfl rfl ?aO ?aR (fun _ _ h => h) (fun _ h => h.elim) ?aF ?aB ?aS ?aL ?_
      case aR => exact (Kd.R_reads' HI.out).2.2
      case aB => exact HB.out
      case aF => exact fun k_ hk => Kd.fresh' (Kd.R_lt HI.out) k_ hk
      case aO => exact Kd.R_mono (Kd.R_take HO.out HM.out) (fun _ hk => hk.2)
      case aS => exact below_size HB.out
      case aL => have h_ := LL.out; rw [List.length_append, List.length_drop, List.length_take]; show (min m l.length + (1 + (l.length - m))) * 8 ≤ _; omega
      intro vO wO ho hb hg hat
      have n0_ := Aside0.mk (show Kd.R (Kd.int .i64) 3 wO w.heap.size (fun _ => True) vO (rkPut p l n) by unfold rkPut; rw [PPE.out]; exact Kd.R_mono ho (fun _ _ => trivial))
      have n2_ := Aside0.mk hb
      have n3_ := Aside0.mk (show PolL wO g p from (hg.block g (blk_lt HP.out) (Kd.R_ne (Kd.R_take HO.out HM.out) HP.out (by decide))).trans HP.out)
      clear HO HI HB HP ho hb hg hat
      have HO := n0_
      have HB := n2_
      have HP := n3_
      clear n0_ n2_ n3_
      refine hK.out _ _ ?_
      clear hK K
      refine norm_ (a' := ?_) ?_ ?_
      rotate_left
      · show Act.put _ (some 45) _ = _
        simp only [Act.put, List.setIfInBounds_toArray, List.set_cons_zero, List.set_cons_succ, i64_w, i32_w]
        rfl
      refine pure_ (i := 10) (N := some 3) (v := ?_) (a' := ?_) #[true, true, true, true, true, true, true, true, true, true, true] rfl rfl (by kernel_rfl) (fun _ _ _ h => h) (Or.inl ⟨by rfl, ?_⟩) ?_ ?_
      rotate_left
      · intro w'
        go_simp
        try with_reducible rfl
      rotate_left
      · simp only [Act.put, List.setIfInBounds_toArray, List.set_cons_zero, List.set_cons_succ, i64_w, i32_w]
        rfl
      refine done_ (by kernel_rfl) ?_
      go_wp2
      refine ⟨⟨n + 1, rkPut p l n, ?_, ?_, by rfl, ?_, ?_, ?_, HP, HO, HB⟩, ?_⟩
      · have := IN.out; omega
      · have := IN.out; omega
      · exact ⟨by rw [show 7 - (n + 1) = 6 - n by omega]; exact hE.out⟩
      · exact ⟨rkPut_in HIN.out IN.out⟩
      · exact ⟨by have := LN.out; have := rkPut_len p l n; omega⟩
      · simp [intOf]; have := IN.out; omega

/-! ### pestlelaw46_awake: function 15 -/
def exP : PV := ⟨3, 1, 8, 1, 32, 16, 0, 0, 0, 3, 0, 2, 0⟩
def exQ : QV := ⟨5, 4, 0, 0, 23⟩
def pestlelaw46_awake.f (k : Nat) : Option Bool := if policy_Behind.f k exP exQ = some (true, 0) then some true else none
theorem pestlelaw46_awake.mono : ∀ k, LeO (pestlelaw46_awake.f k) (pestlelaw46_awake.f (k + 1)) := by
  intro k r h
  unfold pestlelaw46_awake.f at h ⊢
  by_cases q : policy_Behind.f k exP exQ = some (true, 0)
  · rw [if_pos q] at h
    rw [if_pos (policy_Behind.mono exP exQ k _ q)]
    exact h
  · rw [if_neg q] at h; cases h
theorem pestlelaw46_awake.yes {k : Nat} {r : Bool} (h : pestlelaw46_awake.f k = some r) : r = true ∧ policy_Behind.f k exP exQ = some (true, 0) := by
  unfold pestlelaw46_awake.f at h
  by_cases q : policy_Behind.f k exP exQ = some (true, 0)
  · rw [if_pos q] at h; exact ⟨(Option.some.inj h).symm, q⟩
  · rw [if_neg q] at h; cases h
theorem exP_ranked : rkRun exP 6 1 [] = [3, 5] := by decide +kernel
set_option maxHeartbeats 8000000 in
set_option maxRecDepth 100000 in
theorem pestlelaw46_awake.calls (k : Nat) (r : Bool) (w : World) (h : pestlelaw46_awake.f k = some r) :
    Calls Try.prog 15 #[] w fun e w' => e = .returned (.bool r) ∧ Below w.heap.size w w' := by
  obtain ⟨rfl, hB⟩ := pestlelaw46_awake.yes h
  have HB := Aside0.mk (Below.refl w.heap.size w)
  have SM := fun w => policy_Behind.calls k exP exQ true 0 w hB
  have SR := fun w => policy_Ranked.calls exP w
  rw [exP_ranked] at SR
  unfold exP exQ at SM
  unfold exP at SR
  dsimp only at SM SR
  replace SM := Aside0.mk SM
  replace SR := Aside0.mk SR
  clear h hB
  go_enter Try.func15, Try.ntmps15
  go_wp2_with (first | (go_at_call 17; (with_reducible refine (SM.out _).mono ?_); rintro e wn ⟨rfl, hb⟩; have n0_ := Aside0.mk (below_step (below_alloc HB.out _) hb); have HP := Aside0.mk (PolL.next (show PolL (w.alloc _) w.heap.size exP from blk_new w _) hb); clear HB hb; have HB := n0_; clear n0_; have hc := HP.out.cells; unfold exP at hc; dsimp only at hc; obtain ⟨c0, c1, c2, c3, c4, c5, c6, c7, c8, c9, c10, c11, c12⟩ := hc) | (go_at_call 23; (with_reducible refine (SR.out _).mono ?_); rintro e wn ⟨v0_, rfl, hR, hb⟩; have n0_ := Aside0.mk (below_step HB.out hb); clear HB hb; have HB := n0_; clear n0_; obtain ⟨Ad, cd, ed⟩ := Kd.R_slice hR; subst ed; obtain ⟨ad, e1, x0⟩ := Kd.at_int (Kd.R_reads' hR).2.2 0 (by decide) (by decide); obtain ⟨ad', e2, x1⟩ := Kd.at_int (Kd.R_reads' hR).2.2 1 (by decide) (by decide); cases e1; cases e2; rw [show rd [3, 5] 0 = 3 from rfl] at x0; rw [show rd [3, 5] 1 = 5 from rfl] at x1; have y0 : wn.cell? (ad.add 0) = some (.int .i64 3) := x0; have y1 : wn.cell? (ad.add 1) = some (.int .i64 5) := x1; have z0 : wn.cell? ad = some (.int .i64 3) := x0; have z1 : wn.cell? ⟨ad.block, ad.off + 1, none⟩ = some (.int .i64 5) := x1; clear hR x0 x1))
  go_ret
  exact ⟨rfl, HB.out⟩

/-! ### pestlelaw46_PolicyRanks: function 5 -/
/-- how many algorithms are ranked, from the a-th on -/
def rkCnt (p : PV) : Nat → Nat → Nat
  | 0, _ => 0
  | d + 1, a => (if 0 < rkAt p a then 1 else 0) + rkCnt p d (a + 1)
theorem rkCnt_succ (p : PV) (d a : Nat) : rkCnt p (d + 1) a = (if 0 < rkAt p a then 1 else 0) + rkCnt p d (a + 1) := rfl
/-- the i-th of those that are ranked may stand there -/
def rkFits (p : PV) (l : List Int) (i : Nat) : Prop := (1 ≤ l.getD i 0 ∧ l.getD i 0 ≤ 6 ∧ 1 ≤ rkAt p (l.getD i 0).toNat) ∧ (0 < i → ¬ rkAt p (l.getD (i - 1) 0).toNat < rkAt p (l.getD i 0).toNat ∧ (rkAt p (l.getD (i - 1) 0).toNat = rkAt p (l.getD i 0).toNat → l.getD (i - 1) 0 < l.getD i 0))
instance (p : PV) (l : List Int) (i : Nat) : Decidable (rkFits p l i) := inferInstanceAs (Decidable (_ ∧ _))
def rkAll (p : PV) (l : List Int) : Prop := l.length = rkCnt p 6 1 ∧ ∀ i, i < l.length → rkFits p l i
instance (p : PV) (l : List Int) : Decidable (rkAll p l) := inferInstanceAs (Decidable (_ ∧ _))
def pestlelaw46_PolicyRanks.fp (k : Nat) (p : PV) : Option Bool := (pestlelaw46_awake.f k).bind fun _ => (if rkAll p (rkRun p 6 1 []) then some true else none)
def pestlelaw46_PolicyRanks.f (k : Nat) (a0_0 : Int) (a0_1 : Int) (a0_2 : Int) (a0_3 : Int) (a0_4 : Int) (a0_5 : Int) (a0_6 : Int) (a0_7 : Int) (a0_8 : Int) (a0_9 : Int) (a0_10 : Int) (a0_11 : Int) (a0_12 : Int) : Option Bool := pestlelaw46_PolicyRanks.fp k ⟨a0_0, a0_1, a0_2, a0_3, a0_4, a0_5, a0_6, a0_7, a0_8, a0_9, a0_10, a0_11, a0_12⟩
set_option maxHeartbeats 8000000 in
set_option maxRecDepth 100000 in
theorem pestlelaw46_PolicyRanks.go (k : Nat) (p : PV) (r : Bool) (w : World) (h : pestlelaw46_PolicyRanks.fp k p = some r) :
    Calls Try.prog 5 #[.agg #[.int .i64 p.a0, .int .i64 p.a1, .int .i64 p.a2, .int .i64 p.a3, .int .i64 p.a4, .int .i64 p.s, .int .i64 p.r0, .int .i64 p.r1, .int .i64 p.r2, .int .i64 p.r3, .int .i64 p.r4, .int .i64 p.r5, .int .i64 p.r6]] w fun e w' => e = .returned (.bool r) ∧ Below w.heap.size w w' := by
  have HB := Aside0.mk (Below.refl w.heap.size w)
  unfold pestlelaw46_PolicyRanks.fp at h
  replace h := Option.bind_eq_some_iff.mp h
  obtain ⟨aw, A0, h⟩ := h
  obtain ⟨rfl, _⟩ := pestlelaw46_awake.yes A0
  replace A0 := Aside0.mk A0
  by_cases hA : rkAll p (rkRun p 6 1 [])
  case neg => rw [if_neg hA] at h; cases h
  rw [if_pos hA] at h
  obtain rfl := Option.some.inj h
  clear h
  have SR := fun w => policy_Ranked.calls p w
  obtain ⟨l, hl⟩ : ∃ l, rkRun p 6 1 [] = l := ⟨_, rfl⟩
  rw [hl] at SR hA
  replace SR := Aside0.mk SR
  obtain ⟨hcnt, hfit⟩ := hA
  have LL := Aside0.mk (show l.length ≤ 6 by
    have b : ∀ d a, rkCnt p d a ≤ d := fun d => by
      induction d with
      | zero => intro a; exact Nat.le_refl _
      | succ d ih =>
        intro a
        rw [rkCnt_succ]
        have := ih (a + 1)
        split <;> omega
    rw [hcnt]
    exact b 6 1)
  have HCN := Aside0.mk (show 0 + rkCnt p (7 - 1) 1 = l.length by rw [hcnt, Nat.zero_add])
  replace hfit := Aside0.mk hfit
  clear hl hcnt
  go_enter Try.func5, Try.ntmps5
  go_wp2_with (first | ((with_reducible refine gate_dst (N := 1) rfl ?_); refine box_event ?hg (N := 1) ?hd (cs := #[.int .i64 p.a0, .int .i64 p.a1, .int .i64 p.a2, .int .i64 p.a3, .int .i64 p.a4, .int .i64 p.s, .int .i64 p.r0, .int .i64 p.r1, .int .i64 p.r2, .int .i64 p.r3, .int .i64 p.r4, .int .i64 p.r5, .int .i64 p.r6]) (t := 26) ?hr ?_; (case hd => rfl); (case hg => rfl); (case hr => rfl); intro g hg wn hbox hb; have HP := Aside0.mk (show PolL wn g p from hbox); have n0_ := Aside0.mk (below_step HB.out hb); clear HB; have HB := n0_; clear n0_; obtain ⟨c0, c1, c2, c3, c4, c5, c6, c7, c8, c9, c10, c11, c12⟩ := HP.out.cells; clear hbox hb hg) | (go_at_call 15; (with_reducible refine (pestlelaw46_awake.calls k true _ A0.out).mono ?_); rintro e wn ⟨rfl, hb⟩; clear c0 c1 c2 c3 c4 c5 c6 c7 c8 c9 c10 c11 c12; have n0_ := Aside0.mk (below_step HB.out hb); have n1_ := Aside0.mk (HP.out.next hb); clear HB HP; have HB := n0_; have HP := n1_; clear n0_ n1_; clear hb; obtain ⟨c0, c1, c2, c3, c4, c5, c6, c7, c8, c9, c10, c11, c12⟩ := HP.out.cells) | (go_at_call 23; (with_reducible refine (SR.out _).mono ?_); rintro e wn ⟨v0_, rfl, hR, hb⟩; have n0_ := Aside0.mk (below_step HB.out hb); have n1_ := Aside0.mk (HP.out.next hb); have n2_ := Aside0.mk (Kd.R_lower hR (below_size HB.out)); clear HB HP hb hR; have HB := n0_; have HP := n1_; have HO := n2_; clear n0_ n1_ n2_; obtain ⟨Ao, co, eo⟩ := Kd.R_slice HO.out; subst eo))
  clear c0 c1 c2 c3 c4 c5 c6 c7 c8 c9 c10 c11 c12
  go_loopw [4, 5] (fun v4 v5 wz => ∃ (c a : Nat), 1 ≤ a ∧ a ≤ 7 ∧ c ≤ 7 ∧ v4 = .int .i64 (c : Int) ∧ v5 = .int .i64 (a : Int) ∧ Aside0 (c + rkCnt p (7 - a) a = l.length) ∧ Aside0 (PolL wz g p) ∧ Aside0 (Kd.R (Kd.int .i64) 3 wz w.heap.size (fun _ => True) (.slice Ao l.length co) l) ∧ Aside0 (Below w.heap.size w wz)) (fun _ v5 _ => 7 - (intOf v5).toNat)
  case atStart => exact ⟨0, 1, by omega, by omega, by omega, rfl, rfl, HCN, HP, HO, HB⟩
  case round =>
    clear HCN HP HO HB
    obtain ⟨c, a, ha1, ha, hc7, rfl, rfl, E, HP, HO, HB⟩ := hrel
    by_cases hlt : a < 7
    case pos =>
      have p1 : decide ((a : Int) < 7) = true := decide_eq_true (by omega)
      have q2 : (0 : Int) ≤ (a : Int) := by omega
      have q3 : (a : Int) < 7 := by omega
      have cA := HP.out.at a hlt
      have hE := E.out
      rw [show 7 - a = (6 - a) + 1 by omega, rkCnt_succ] at hE
      obtain ⟨x, hx⟩ : ∃ x, rkAt p a = x := ⟨_, rfl⟩
      rw [hx] at hE cA
      have hadd : IntKind.i64.wrap ((a : Int) + 1) = (a : Int) + 1 := by rw [IntKind.wrap_i64]; omega
      have IA := Aside0.mk hlt
      have LB := Aside0.mk (show c ≤ l.length by have := E.out; omega)
      by_cases hp : 0 < x
      · rw [if_pos hp] at hE
        have n1 : decide (0 < x) = true := decide_eq_true hp
        have hadd2 : IntKind.i64.wrap ((c : Int) + 1) = (c : Int) + 1 := by rw [IntKind.wrap_i64]; omega
        have E2 := Aside0.mk (show c + 1 + rkCnt p (7 - (a + 1)) (a + 1) = l.length by rw [show 7 - (a + 1) = 6 - a by omega]; omega)
        have C7 := Aside0.mk (show c + 1 ≤ 7 by have := LL.out; omega)
        clear hlt ha ha1 hp hE E hx hc7
        go_wp2
        clear p1 q2 q3 hadd hadd2 n1 cA
        exact ⟨⟨c + 1, a + 1, by omega, by have := IA.out; omega, C7.out, by rfl, by rfl, E2, HP, HO, HB⟩, by simp [intOf]; have := IA.out; omega⟩
      · rw [if_neg hp] at hE
        have n1 : decide (0 < x) = false := decide_eq_false hp
        have E2 := Aside0.mk (show c + rkCnt p (7 - (a + 1)) (a + 1) = l.length by rw [show 7 - (a + 1) = 6 - a by omega]; omega)
        have C7 := Aside0.mk hc7
        clear hlt ha ha1 hp hE E hx hc7
        go_wp2
        clear p1 q2 q3 hadd n1 cA
        exact ⟨⟨c, a + 1, by omega, by have := IA.out; omega, C7.out, rfl, by rfl, E2, HP, HO, HB⟩, by simp [intOf]; have := IA.out; omega⟩
    obtain rfl : a = 7 := by omega
    obtain rfl : c = l.length := E.out
    have e1 : ((l.length : Int) != (l.length : Int)) = false := bne_eq_false_iff_eq.2 rfl
    have e2 : (l.length != l.length) = false := bne_eq_false_iff_eq.2 rfl
    clear hlt ha ha1 hc7 E
    go_wp2
    clear e1 e2
    go_loopw [29] (fun v29 wz => ∃ i : Nat, i ≤ l.length ∧ v29 = .int .i64 (i : Int) ∧ Aside0 (PolL wz g p) ∧ Aside0 (Kd.R (Kd.int .i64) 3 wz w.heap.size (fun _ => True) (.slice Ao l.length co) l) ∧ Aside0 (Below w.heap.size w wz)) (fun v29 _ => l.length - (intOf v29).toNat)
    case atStart => exact ⟨0, by omega, rfl, HP, HO, HB⟩
    case round =>
      clear HP HO HB
      obtain ⟨i, hi, rfl, HP, HO, HB⟩ := hrel
      by_cases hlt : i < l.length
      case neg =>
        obtain rfl : i = l.length := by omega
        have p1 : decide ((l.length : Int) < (l.length : Int)) = false := decide_eq_false (by omega)
        have p2 : decide (l.length < l.length) = false := decide_eq_false (by omega)
        clear hlt hi
        go_wp2
        go_ret
        exact ⟨rfl, HB.out⟩
      have p1 : decide ((i : Int) < (l.length : Int)) = true := decide_eq_true (by omega)
      have p2 : decide (i < l.length) = true := decide_eq_true hlt
      have p3 : (i : Int) < (l.length : Int) := by omega
      have hF := hfit.out i hlt
      have I6 := Aside0.mk (show i ≤ 6 by have := LL.out; omega)
      have IH := Aside0.mk hlt
      have hadd : IntKind.i64.wrap ((i : Int) + 1) = (i : Int) + 1 := by
        have := I6.out
        rw [IntKind.wrap_i64]; omega
      obtain ⟨ad, e_, hxc⟩ := Kd.at_int (Kd.R_reads' HO.out).2.2 (i : Int) (by omega) (by omega)
      rw [show rd l (i : Int) = l.getD i 0 from rfl, show ((i : Int)).toNat = i from rfl] at hxc
      unfold rkFits at hF
      obtain ⟨x, hx⟩ : ∃ x, l.getD i 0 = x := ⟨_, rfl⟩
      rw [hx] at hxc hF
      obtain ⟨⟨f1, f2, f3⟩, f4⟩ := hF
      have g1 : decide (x < 1) = false := decide_eq_false (by omega)
      have g2 : decide (6 < x) = false := decide_eq_false (by omega)
      have g3 : (0 : Int) ≤ x := by omega
      have g4 : x < 7 := by omega
      have cX := HP.out.at x.toNat (by omega)
      obtain ⟨zx, hzx⟩ : ∃ z, rkAt p x.toNat = z := ⟨_, rfl⟩
      rw [hzx] at cX f3 f4
      have g5 : decide (zx < 1) = false := decide_eq_false (by omega)
      by_cases hz : i = 0
      case pos =>
        have v1 : decide ((0 : Int) < (i : Int)) = false := decide_eq_false (by omega)
        have v2 : decide (0 < i) = false := decide_eq_false (by omega)
        clear f1 f2 f3 f4 hlt hi hx hzx hz
        go_wp2
        go_quiet (fail)
        go_wp2
        clear p1 p2 p3 v1 v2 g1 g2 g3 g4 g5 cX hxc e_
        exact ⟨⟨i + 1, by have := IH.out; omega, by rfl, ⟨HP.out.next (by repeat (first | exact Below.refl _ _ | apply pw_below_drewN | apply below_drew1))⟩, ⟨Kd.R_below HO.out (by repeat (first | exact Below.refl _ _ | apply pw_below_drewN | apply below_drew1))⟩, ⟨(by repeat (first | exact HB.out | apply pw_below_drewN | apply below_drew1))⟩⟩, by simp [intOf]; have := IH.out; omega⟩
      obtain ⟨q, hq⟩ : ∃ q, i = q + 1 := ⟨i - 1, by omega⟩
      have hq1 : i - 1 = q := by omega
      obtain ⟨hf1, hf2⟩ := f4 (by omega)
      obtain ⟨ad', e', hyc⟩ := Kd.at_int (Kd.R_reads' HO.out).2.2 (q : Int) (by omega) (by omega)
      obtain rfl : ad = ad' := Option.some.inj (e_.symm.trans e')
      rw [show rd l (q : Int) = l.getD q 0 from rfl, show ((q : Int)).toNat = q from rfl] at hyc
      rw [hq1] at hf1 hf2
      have hG := (hfit.out q (by omega)).1
      obtain ⟨y, hy⟩ : ∃ y, l.getD q 0 = y := ⟨_, rfl⟩
      rw [hy] at hyc hf1 hf2 hG
      have y3 : (0 : Int) ≤ y := by omega
      have y4 : y < 7 := by omega
      have cY := HP.out.at y.toNat (by omega)
      obtain ⟨zy, hzy⟩ : ∃ z, rkAt p y.toNat = z := ⟨_, rfl⟩
      rw [hzy] at cY hf1 hf2
      have u1 : decide (zy < zx) = false := decide_eq_false hf1
      have w1 : decide ((0 : Int) < (i : Int)) = true := decide_eq_true (by omega)
      have w8 : decide (0 < i) = true := decide_eq_true (by omega)
      have HQ1 := Aside0.mk hq
      have w3 : (q : Int) < (l.length : Int) := by omega
      have w4 : q < l.length := by omega
      have Q6 := Aside0.mk (show q ≤ 6 by have := I6.out; omega)
      by_cases heq : zy = zx
      case pos =>
        have u2 : (zy == zx) = true := beq_iff_eq.2 heq
        have u3 : decide (x ≤ y) = false := decide_eq_false (by have := hf2 heq; omega)
        clear f1 f2 f3 f4 hf1 hf2 hG hlt hi hx hzx hy hzy heq hz hq hq1
        have w2 : IntKind.i64.wrap (q : Int) = (q : Int) := by
          have := Q6.out
          rw [IntKind.wrap_i64]; omega
        have w6 : wrap64 (q : Int) = (q : Int) := by
          have := Q6.out
          rw [wrap64]; omega
        have w7 : IntKind.i64.wrap ((i : Int) - 1) = (q : Int) := by
          rw [show (i : Int) - 1 = (q : Int) by have := HQ1.out; omega]; exact w2
        have w9 : wrap64 ((i : Int) - 1) = (q : Int) := (i64_w _).symm.trans w7
        go_wp2
        go_quiet (fail)
        go_wp2
        clear p1 p2 p3 hadd g1 g2 g3 g4 g5 cX hxc e_ e' hyc y3 y4 cY u1 u2 u3 w1 w2 w3 w4 w6 w7 w8 w9
        exact ⟨⟨i + 1, by have := IH.out; omega, by rfl, ⟨HP.out.next (by repeat (first | exact Below.refl _ _ | apply pw_below_drewN | apply below_drew1))⟩, ⟨Kd.R_below HO.out (by repeat (first | exact Below.refl _ _ | apply pw_below_drewN | apply below_drew1))⟩, ⟨(by repeat (first | exact HB.out | apply pw_below_drewN | apply below_drew1))⟩⟩, by simp [intOf]; have := IH.out; omega⟩
      have u2 : (zy == zx) = false := beq_eq_false_iff_ne.2 heq
      clear f1 f2 f3 f4 hf1 hf2 hG hlt hi hx hzx hy hzy heq hz hq hq1
      have w2 : IntKind.i64.wrap (q : Int) = (q : Int) := by
        have := Q6.out
        rw [IntKind.wrap_i64]; omega
      have w6 : wrap64 (q : Int) = (q : Int) := by
        have := Q6.out
        rw [wrap64]; omega
      have w7 : IntKind.i64.wrap ((i : Int) - 1) = (q : Int) := by
        rw [show (i : Int) - 1 = (q : Int) by have := HQ1.out; omega]; exact w2
      have w9 : wrap64 ((i : Int) - 1) = (q : Int) := (i64_w _).symm.trans w7
      go_wp2
      go_quiet (fail)
      go_wp2
      clear p1 p2 p3 hadd g1 g2 g3 g4 g5 cX hxc e_ e' hyc y3 y4 cY u1 u2 w1 w2 w3 w4 w6 w7 w8 w9
      exact ⟨⟨i + 1, by have := IH.out; omega, by rfl, ⟨HP.out.next (by repeat (first | exact Below.refl _ _ | apply pw_below_drewN | apply below_drew1))⟩, ⟨Kd.R_below HO.out (by repeat (first | exact Below.refl _ _ | apply pw_below_drewN | apply below_drew1))⟩, ⟨(by repeat (first | exact HB.out | apply pw_below_drewN | apply below_drew1))⟩⟩, by simp [intOf]; have := IH.out; omega⟩
theorem pestlelaw46_PolicyRanks.calls (k : Nat) (a0_0 : Int) (a0_1 : Int) (a0_2 : Int) (a0_3 : Int) (a0_4 : Int) (a0_5 : Int) (a0_6 : Int) (a0_7 : Int) (a0_8 : Int) (a0_9 : Int) (a0_10 : Int) (a0_11 : Int) (a0_12 : Int) (r : Bool) (w : World) (h : pestlelaw46_PolicyRanks.f k a0_0 a0_1 a0_2 a0_3 a0_4 a0_5 a0_6 a0_7 a0_8 a0_9 a0_10 a0_11 a0_12 = some r) :
  Calls Try.prog 5 #[.agg #[.int .i64 a0_0, .int .i64 a0_1, .int .i64 a0_2, .int .i64 a0_3, .int .i64 a0_4, .int .i64 a0_5, .int .i64 a0_6, .int .i64 a0_7, .int .i64 a0_8, .int .i64 a0_9, .int .i64 a0_10, .int .i64 a0_11, .int .i64 a0_12]] w fun e w' => e = .returned (.bool r) ∧ Below w.heap.size w w' :=
  pestlelaw46_PolicyRanks.go k ⟨a0_0, a0_1, a0_2, a0_3, a0_4, a0_5, a0_6, a0_7, a0_8, a0_9, a0_10, a0_11, a0_12⟩ r w h

end Go.Proofs.Ytiicjhibnobhdaa.Pall
