-- PRINTED by print.py (a twelfth state) out of the translation. Not trusted: Lean checks it.
import Derived.Test.YtimgndceiibaeaaPallx0
namespace Go.Proofs.Ytimgndceiibaeaa.Pall
open Go.RowKit Go.Proofs.YtimgndceiibaeaaW.PrintWords Go.Proofs.YtimgndceiibaeaaW.PrintLast Go.Proofs.YtimgndceiibaeaaW.PrintMore
attribute [local go_sem] max2_int min2_int max_two min_two max_three min_three max_four min_four   -- for this text's walks alone
set_option linter.unusedVariables false
set_option linter.unusedSimpArgs false

/-! ### words_Left32: function 44 -/
def words_Left32.f (a0 : Int) (a1 : Int) : Option (Int) := if 0 ≤ (Int.tmod (IntKind.u64.wrap (a1)) 32) then (if 0 ≤ (IntKind.u64.wrap (32 - (Int.tmod (IntKind.u64.wrap (a1)) 32))) then (some (Go.bits .or .u32 (shl .u32 a0 (Int.tmod (IntKind.u64.wrap (a1)) 32)) (shr .u32 a0 (IntKind.u64.wrap (32 - (Int.tmod (IntKind.u64.wrap (a1)) 32)))))) else (none)) else (none)
set_option maxHeartbeats 8000000 in
set_option maxRecDepth 100000 in
theorem words_Left32.calls (a0 : Int) (a1 : Int) (r : Int) (w : World) (h : words_Left32.f a0 a1 = some r) :
  Calls Try.prog 44 #[.int .u32 a0, .int .i64 a1] w fun e w' => e = .returned (.int .u32 r) ∧ Drawn0 w w' := by
 have H : (if 0 ≤ (Int.tmod (IntKind.u64.wrap (a1)) 32) then (if 0 ≤ (IntKind.u64.wrap (32 - (Int.tmod (IntKind.u64.wrap (a1)) 32))) then (some (Go.bits .or .u32 (shl .u32 a0 (Int.tmod (IntKind.u64.wrap (a1)) 32)) (shr .u32 a0 (IntKind.u64.wrap (32 - (Int.tmod (IntKind.u64.wrap (a1)) 32)))))) else (none)) else (none)) = some r := h
 clear h
 obtain ⟨ji3, hji3⟩ : ∃ j_ : Int, (Int.tmod (IntKind.u64.wrap (a1)) 32) = j_ := ⟨_, rfl⟩
 replace H : (if 0 ≤ (ji3) then (if 0 ≤ (IntKind.u64.wrap (32 - (ji3))) then (some (Go.bits .or .u32 (shl .u32 a0 (ji3)) (shr .u32 a0 (IntKind.u64.wrap (32 - (ji3)))))) else (none)) else (none)) = some r := by first | (rw [hji3] at H; exact H) | (simp only [hji3] at H ⊢; exact H)
 by_cases c4 : 0 ≤ (ji3)
 ·rw [if_pos c4] at H
  have c4b0 := eq_true c4
  have c4b1 : decide (0 ≤ (ji3)) = true := decide_eq_true c4
  clear c4
  obtain ⟨ji5, hji5⟩ : ∃ j_ : Int, (shl .u32 a0 (ji3)) = j_ := ⟨_, rfl⟩
  replace H : (if 0 ≤ (IntKind.u64.wrap (32 - (ji3))) then (some (Go.bits .or .u32 (ji5) (shr .u32 a0 (IntKind.u64.wrap (32 - (ji3)))))) else (none)) = some r := by first | (rw [hji5] at H; exact H) | (simp only [hji5] at H ⊢; exact H)
  have hji5_ : (IntKind.u32.wrap (a0 * 2 ^ min (ji3).toNat 32)) = ji5 := hji5
  have hji5z : (ji3) ≤ 32 → (IntKind.u32.wrap (a0 * 2 ^ (ji3).toNat)) = ji5 := shl_small hji5
  obtain ⟨ji6, hji6⟩ : ∃ j_ : Int, (IntKind.u64.wrap (32 - (ji3))) = j_ := ⟨_, rfl⟩
  replace H : (if 0 ≤ (ji6) then (some (Go.bits .or .u32 (ji5) (shr .u32 a0 (ji6)))) else (none)) = some r := by first | (rw [hji6] at H; exact H) | (simp only [hji6] at H ⊢; exact H)
  by_cases c7 : 0 ≤ (ji6)
  ·rw [if_pos c7] at H
   have c7b0 := eq_true c7
   have c7b1 : decide (0 ≤ (ji6)) = true := decide_eq_true c7
   clear c7
   obtain ⟨ji8, hji8⟩ : ∃ j_ : Int, (shr .u32 a0 (ji6)) = j_ := ⟨_, rfl⟩
   replace H : (some (Go.bits .or .u32 (ji5) (ji8))) = some r := by first | (rw [hji8] at H; exact H) | (simp only [hji8] at H ⊢; exact H)
   have hji8_ : (a0 / 2 ^ min (ji6).toNat 32) = ji8 := hji8
   have hji8z : (ji6) ≤ 32 → (a0 / 2 ^ (ji6).toNat) = ji8 := shr_small hji8
   obtain rfl := Option.some.inj H
   go_enter Try.func44, Try.ntmps44
   go_wp2
   go_ret
   exact ⟨by first | rfl | (simp; done) | (simp only [← hji3, ← hji5, ← hji6, ← hji8] <;> (first | rfl | simp)) | (simp [*]; done), by repeat (first | exact Drawn0.refl _ | apply Drawn0.step)⟩
  ·rw [if_neg c7] at H
   exact absurd H (by simp)
 ·rw [if_neg c4] at H
  exact absurd H (by simp)

/-! ### cipher_Cipher_Sum: function 18 -/
theorem ci_index_part {P : Program} (w : World) (t e : TypeId) (n sz : Nat) (d : TypeDesc) (cs : Array Value) (k : IntKind) (i : Nat) (h : P.underlying t = some (.array n e)) (hd : P.underlying e = some d) (hna : (match d with | .struct _ | .array _ _ => true | _ => false) = true) (hs : (P.info? e).map (·.size) = some sz) (hi : i < n) :
    (Instr.index t (.agg cs) (.int k (i : Int))).run P w = .ok (.agg (cs.extract (i * sz) (i * sz + sz))) w := by
  have hagg : (isAgg e).run P w = .ok true w := by
    unfold isAgg
    rw [Sem.run_bind, run_underlying hd w]
    cases d <;> simp_all
  cases hq : P.info? e with
  | none => simp [hq] at hs
  | some j =>
    have hj : j.size = sz := by simpa [hq] using hs
    simp [Instr.index, asIntOf, Sem.run_bind, run_underlying h w, sizeOf, typeInfo, hq, hj, part, hagg]
    intro hle
    omega
theorem ci_load_part {P : Program} {ops : Array Oper} {rest : List Oper} {o : Oper} {a : Act} {w : World} {Q : Exit → Act → World → Prop} (hgd : o.guard = none) (ty : TypeId) (x : Operand) (ho : o.op = .load ty x)
    (g off : Nat) (hx : a.eval x = .pointer (some ⟨g, off, none⟩)) (cs : List Value) (d : TypeDesc) (hc : ∀ j v, cs[j]? = some v → w.cell? ⟨g, off + j, none⟩ = some v)
    (hu : P.underlying ty = some d) (hd : (match d with | .struct _ | .array _ _ => true | _ => false) = true) (hi : (P.info? ty).map (·.size) = some cs.length)
    (h : wpList P ops Q rest (a.put o.dst (.agg cs.toArray)) w) : wpList P ops Q (o :: rest) a w := by
  refine wpList_plain hgd fun _ hK => ?_
  have hl : (loadCells ⟨g, off, none⟩ cs.length).run P w = .ok cs.toArray w :=
    run_loadCells_list (P := P) w ⟨g, off, none⟩ cs (fun j v hv => by
      have hadd : (⟨g, off, none⟩ : Addr).add j = ⟨g, off + j, none⟩ := by unfold Addr.add; split <;> simp_all
      rw [hadd]
      exact hc j v hv)
  have hrun : (loadVar ty ⟨g, off, none⟩).run P w = .ok (.agg cs.toArray) w := by
    cases hq : P.info? ty with
    | none => simp [hq] at hi
    | some i =>
      have hs : i.size = cs.length := by simpa [hq] using hi
      have hagg : (isAgg ty).run P w = .ok true w := by
        unfold isAgg
        rw [Sem.run_bind, run_underlying hu w]
        cases d <;> simp_all
      simp [loadVar, Sem.run_bind, hagg, sizeOf, typeInfo, hq, hs, hl]
  unfold Oper.wp execOp
  simp only [ho, hx, Instr.loadAt, Instr.sureAddr, Sem.run_bind, Sem.run_pure, Result.andThen_ok, hrun]
  exact hK _ _ h
def ciLeft (x i : Nat) : Int := (words_Left32.f (x : Int) (i : Int)).getD 0
theorem ciLeft_some (x i : Nat) : words_Left32.f (x : Int) (i : Int) = some (ciLeft x i) := by
  unfold ciLeft words_Left32.f
  have h1 : 0 ≤ Int.tmod (IntKind.u64.wrap (i : Int)) 32 := by
    rw [IntKind.wrap_u64]
    exact Int.tmod_nonneg _ (by omega)
  have h2 : ∀ y : Int, 0 ≤ IntKind.u64.wrap y := fun y => by rw [IntKind.wrap_u64]; omega
  rw [if_pos h1, if_pos (h2 _)]
  rfl
/-- what the words from the i-th on add to a sum -/
def ciSumR (t : List Nat) : Nat → Nat → Int → Int
  | 0, _, s => s
  | n + 1, i, s => ciSumR t n (i + 1) ((s + ciLeft (ciW t i) i) % 4294967296)
def ciSum (t : List Nat) : Int := ciSumR t 1042 0 0
theorem ciSumR_succ (t : List Nat) (n i : Nat) (s : Int) : ciSumR t (n + 1) i s = ciSumR t n (i + 1) ((s + ciLeft (ciW t i) i) % 4294967296) := rfl
theorem ciV_at {t : List Nat} (h : t.length = 1042) {m n j : Nat} (hm : m + n ≤ 1042) (hj : j < n) : (ciV t m n).toArray[j]? = some (.int .u32 ((ciW t (m + j) : Nat) : Int)) := by
  have hl := ciV_len h hm
  rw [List.getElem?_toArray, List.getElem?_eq_getElem (by omega)]
  have e := (ciV_get (List.getElem?_eq_getElem (show j < (ciV t m n).length by omega)) h).2
  rw [e]
theorem ciV_part (t : List Nat) (h : t.length = 1042) (k : Nat) (hk : k < 4) : (ciV t 18 1024).toArray.extract (k * 256) (k * 256 + 256) = (ciV t (18 + k * 256) 256).toArray := by
  unfold ciV
  rw [List.extract_toArray, List.extract_eq_take_drop]
  congr 1
  rw [← List.map_drop, ← List.map_take, List.drop_take, List.drop_drop, List.take_take]
  congr 2
  omega
theorem ci_cells {T : TypeId} {w : World} {g : Nat} {t : List Nat} (h : Ci T w g t) (ho : t.length = 1042) (m n : Nat) : ∀ j v, (ciV t m n)[j]? = some v → w.cell? ⟨g, m + j, none⟩ = some v := fun j v hv => by
  obtain ⟨h1, rfl⟩ := ciV_get hv ho
  exact (blk_cell h (m + j)).trans (ciA_get t (m + j) (by omega))
set_option maxHeartbeats 8000000 in
set_option maxRecDepth 100000 in
theorem cipher_Cipher_Sum.nil (w : World) : Calls Try.prog 18 #[.pointer none] w fun e w' => e = .returned (.int .u32 0) ∧ Below w.heap.size w w' := by
  go_enter Try.func18, Try.ntmps18
  go_wp2
  go_ret
  exact ⟨rfl, Below.refl _ _⟩
set_option maxHeartbeats 8000000 in
set_option maxRecDepth 100000 in
theorem cipher_Cipher_Sum.calls (g : Nat) (t : List Nat) (w : World) (hc : Ci 70 w g t) (ho : ciOk t) :
    Calls Try.prog 18 #[.pointer (some ⟨g, 0, none⟩)] w fun e w' => e = .returned (.int .u32 (ciSum t)) ∧ Below w.heap.size w w' := by
  have HC := Aside0.mk hc
  have HO := Aside0.mk ho
  have HB := Aside0.mk (Below.refl w.heap.size w)
  have HG := Aside0.mk hc.lt
  have H1 := ci_cells hc ho.1 0 18
  replace H1 := Aside0.mk H1
  clear hc ho
  go_enter Try.func18, Try.ntmps18
  go_wp2_with ((with_reducible refine gate_dst (N := 15) rfl ?_); refine ci_load_part rfl 66 (.tmp 14) rfl g 0 rfl (ciV t 0 18) _ H1.out Try.underlying66 rfl (by rw [ciV_len HO.out.1 (by omega)]; kernel_rfl) ?_)
  obtain ⟨A1, hA1⟩ : ∃ A1, (ciV t 0 18).toArray = A1 := ⟨_, rfl⟩
  rw [hA1]
  have KX : ∀ (n : Nat) (W : World), n < 18 → (Instr.index 66 (.agg A1) (.int .i64 (n : Int))).run Try.prog W = .ok (.int .u32 ((ciW t n : Nat) : Int)) W := fun n W hn => run_index_agg W 66 23 18 _ A1 .i64 n _ Try.underlying66 Try.underlying23 rfl (by kernel_rfl) hn (by rw [← hA1, ciV_at HO.out.1 (by omega) hn, Nat.zero_add])
  replace KX := Aside0.mk KX
  clear H1 hA1
  go_loopw [16, 3] (fun v16 v3 wz => ∃ (n : Nat) (s : Int), n ≤ 18 ∧ v16 = .int .i64 (n : Int) ∧ v3 = .int .u32 s ∧ Aside0 (ciSumR t (1042 - n) n s = ciSum t) ∧ Aside0 (Ci 70 wz g t) ∧ Aside0 (Below w.heap.size w wz)) (fun v16 _ _ => 18 - (intOf v16).toNat)
  case atStart => exact ⟨0, 0, by omega, rfl, rfl, ⟨rfl⟩, HC, HB⟩
  case round =>
    clear HC HB
    obtain ⟨n, s, hn, rfl, rfl, E, HC, HB⟩ := hrel
    by_cases hlt : n < 18
    · have p1 : (n : Int) < 18 := by omega
      have kx : ∀ W : World, (Instr.index 66 (.agg A1) (.int .i64 (n : Int))).run Try.prog W = .ok (.int .u32 ((ciW t n : Nat) : Int)) W := fun W => KX.out n W hlt
      have hE := E.out
      rw [show 1042 - n = (1041 - n) + 1 by omega, ciSumR_succ, show 1041 - n = 1042 - (n + 1) by omega] at hE
      replace E := Aside0.mk hE
      clear hE
      go_wp2_with (go_at_call 44; refine (words_Left32.calls _ _ _ _ (ciLeft_some (ciW t n) n)).mono ?_; rintro e wn ⟨rfl, hd⟩; have n0_ := Aside0.mk (below_step HB.out (below_of_drawn hd)); have n1_ := Aside0.mk (HC.out.next (below_of_drawn hd)); clear HB HC hd; have HB := n0_; have HC := n1_; clear n0_ n1_)
      exact ⟨⟨n + 1, _, by omega, by go_num, rfl, E, HC, HB⟩, by simp [intOf]; omega⟩
    · obtain rfl : n = 18 := by omega
      clear KX hlt hn
      have H2 := Aside0.mk (ci_cells HC.out HO.out.1 18 1024)
      go_wp2_with ((with_reducible refine gate_dst (N := 29) rfl ?_); refine ci_load_part rfl 68 (.tmp 28) rfl g 18 rfl (ciV t 18 1024) _ H2.out Try.underlying68 rfl (by rw [ciV_len HO.out.1 (by omega)]; kernel_rfl) ?_)
      obtain ⟨A2, hA2⟩ : ∃ A2, (ciV t 18 1024).toArray = A2 := ⟨_, rfl⟩
      rw [hA2]
      have KY : ∀ (k : Nat) (W : World), k < 4 → (Instr.index 68 (.agg A2) (.int .i64 (k : Int))).run Try.prog W = .ok (.agg (ciV t (18 + k * 256) 256).toArray) W := fun k W hk => by
        rw [ci_index_part W 68 67 4 256 _ A2 .i64 k Try.underlying68 Try.underlying67 rfl (by kernel_rfl) hk, ← hA2, ciV_part t HO.out.1 k hk]
      replace KY := Aside0.mk KY
      clear H2 hA2
      go_loopw [30, 3] (fun v30 v3 wz => ∃ (k : Nat) (s : Int), k ≤ 4 ∧ v30 = .int .i64 (k : Int) ∧ v3 = .int .u32 s ∧ Aside0 (ciSumR t (1042 - (18 + k * 256)) (18 + k * 256) s = ciSum t) ∧ Aside0 (Ci 70 wz g t) ∧ Aside0 (Below w.heap.size w wz)) (fun v30 _ _ => 4 - (intOf v30).toNat)
      case atStart => exact ⟨0, s, by omega, rfl, rfl, E, HC, HB⟩
      case round =>
        clear HC HB E
        obtain ⟨k, s, hk, rfl, rfl, E, HC, HB⟩ := hrel
        by_cases hlt : k < 4
        case neg =>
          obtain rfl : k = 4 := by omega
          go_wp2
          go_ret
          exact ⟨congrArg (fun z => Ending.returned (Value.int .u32 z)) E.out, HB.out⟩
        have p1 : (k : Int) < 4 := by omega
        have ky : ∀ W : World, (Instr.index 68 (.agg A2) (.int .i64 (k : Int))).run Try.prog W = .ok (.agg (ciV t (18 + k * 256) 256).toArray) W := fun W => KY.out k W hlt
        have KL := Aside0.mk hlt
        obtain ⟨A3, hA3⟩ : ∃ A3, (ciV t (18 + k * 256) 256).toArray = A3 := ⟨_, rfl⟩
        rw [hA3] at ky
        have S3 := Aside0.mk (show A3.size = 256 by rw [← hA3, List.size_toArray, ciV_len HO.out.1 (by omega)])
        have O3 := Aside0.mk (show A3.all (·.oneCell') = true by rw [← hA3, List.all_toArray, List.all_eq_true]; exact ciV_one _ _ _)
        have KZ : ∀ (i : Nat) (W : World), i < 256 → (Instr.index 67 (.agg A3) (.int .i64 (i : Int))).run Try.prog W = .ok (.int .u32 ((ciW t (18 + k * 256 + i) : Nat) : Int)) W := fun i W hi => run_index_agg W 67 23 256 _ A3 .i64 i _ Try.underlying67 Try.underlying23 rfl (by kernel_rfl) hi (by rw [← hA3, ciV_at HO.out.1 (by omega) hi])
        replace KZ := Aside0.mk KZ
        clear hlt hk hA3
        go_wp2_with (first | ((with_reducible refine gate_dst (N := 7) rfl ?_); refine box_event ?hg (N := 7) ?hd (cs := ciA (List.replicate 256 0)) (t := 67) ?hr ?_; (case hd => rfl); (case hg => rfl); (case hr => kernel_rfl); intro gb hg wn hbox hb; have n0_ := Aside0.mk (below_step HB.out hb); have n1_ := Aside0.mk (HC.out.next hb); have BX := Aside0.mk hbox; have LB := Aside0.mk (show g < gb by rw [hg]; exact HC.out.lt); have LW := Aside0.mk (show w.heap.size ≤ gb by rw [hg]; exact HB.out.size); clear HB HC hbox hb hg; have HB := n0_; have HC := n1_; clear n0_ n1_) | (refine wpList_store_row rfl 67 (.tmp 7) (.tmp 33) rfl gb A3 rfl rfl 67 _ BX.out (by rw [S3.out]; kernel_rfl) (by rw [S3.out]; rfl) O3.out ?_; have n0_ := Aside0.mk (show Below w.heap.size w _ from below_setRow HB.out LW.out A3); have n1_ := Aside0.mk ((setRow_other _ gb g A3 (by have := LB.out; omega)).trans HC.out); have n2_ := Aside0.mk (setRow_heap _ gb _ A3 67 (0, 0) BX.out); clear HB HC BX; have HB := n0_; have HC := n1_; have BX := n2_; clear n0_ n1_ n2_) | ((with_reducible refine gate_dst (N := 34) rfl ?_); refine wpList_load_row rfl 67 (.tmp 7) rfl gb rfl 67 A3 (0, 0) _ BX.out Try.underlying67 rfl (by rw [S3.out]; kernel_rfl) ?_))
        clear BX LB LW S3 O3 ky
        generalize World.setRow _ _ _ = wq at HB HC ⊢
        go_loopw [35, 3] (fun v35 v3 wz => ∃ (i : Nat) (s : Int), i ≤ 256 ∧ v35 = .int .i64 (i : Int) ∧ v3 = .int .u32 s ∧ Aside0 (ciSumR t (1042 - (18 + k * 256 + i)) (18 + k * 256 + i) s = ciSum t) ∧ Aside0 (Ci 70 wz g t) ∧ Aside0 (Below w.heap.size w wz)) (fun v35 _ _ => 256 - (intOf v35).toNat)
        case atStart => exact ⟨0, s, by omega, rfl, rfl, E, HC, HB⟩
        case round =>
          clear HC HB E
          obtain ⟨i, s, hi, rfl, rfl, E, HC, HB⟩ := hrel
          by_cases hlt : i < 256
          case neg =>
            obtain rfl : i = 256 := by omega
            clear hlt hi
            go_wp2
            refine ⟨⟨k + 1, s, by have := KL.out; omega, by go_num, rfl, ⟨?_⟩, HC, HB⟩, by simp [intOf]; have := KL.out; omega⟩
            rw [show 18 + (k + 1) * 256 = 18 + k * 256 + 256 by omega]
            exact E.out
          have q1 : (i : Int) < 256 := by omega
          have kz : ∀ W : World, (Instr.index 67 (.agg A3) (.int .i64 (i : Int))).run Try.prog W = .ok (.int .u32 ((ciW t (18 + k * 256 + i) : Nat) : Int)) W := fun W => KZ.out i W hlt
          have hE := E.out
          have kl := KL.out
          rw [show 1042 - (18 + k * 256 + i) = (1041 - (18 + k * 256 + i)) + 1 by omega, ciSumR_succ, show 1041 - (18 + k * 256 + i) = 1042 - (18 + k * 256 + (i + 1)) by omega] at hE
          replace E := Aside0.mk hE
          have LF := Aside0.mk (show words_Left32.f ((ciW t (18 + k * 256 + i) : Nat) : Int) (18 + 256 * (k : Int) + (i : Int)) = some (ciLeft (ciW t (18 + k * 256 + i)) (18 + k * 256 + i)) by
            rw [← ciLeft_some]; congr 1; omega)
          have v1 : IntKind.i64.wrap (256 * (k : Int)) = 256 * (k : Int) := by rw [IntKind.wrap_i64]; omega
          have v2 : IntKind.i64.wrap (18 + 256 * (k : Int)) = 18 + 256 * (k : Int) := by rw [IntKind.wrap_i64]; omega
          have v3 : IntKind.i64.wrap (18 + 256 * (k : Int) + (i : Int)) = 18 + 256 * (k : Int) + (i : Int) := by rw [IntKind.wrap_i64]; omega
          clear hE kl
          go_wp2_with (go_at_call 44; refine (words_Left32.calls _ _ _ _ LF.out).mono ?_; rintro e wn ⟨rfl, hd⟩; have n0_ := Aside0.mk (below_step HB.out (below_of_drawn hd)); have n1_ := Aside0.mk (HC.out.next (below_of_drawn hd)); clear HB HC hd; have HB := n0_; have HC := n1_; clear n0_ n1_)
          exact ⟨⟨i + 1, _, by omega, by go_num, rfl, E, HC, HB⟩, by simp [intOf]; omega⟩

/-! ### pestleref01_Left: function 45 -/
mutual
def pestleref01_Left.j0 : Nat → Int → Int → Option (Int)
 | 0, _, _ => none
 | k + 1, x0, x5 => pestleref01_Left.l0 k x0 x5 0
def pestleref01_Left.l0 : Nat → Int → Int → Int → Option (Int)
 | 0, _, _, _ => none
 | k + 1, x0, x5, x6 => if x6 < x5 then (pestleref01_Left.l0 k ((((x0 * 2) % 4294967296) + ((Int.tdiv x0 2147483648) % 4294967296)) % 4294967296) x5 (wrap64 (x6 + 1))) else (some x0)
end
def pestleref01_Left.f (k : Nat) (a0 : Int) (a1 : Int) : Option (Int) := if (Int.tmod a1 32) < 0 then (pestleref01_Left.j0 k a0 (wrap64 ((Int.tmod a1 32) + 32))) else (pestleref01_Left.j0 k a0 (Int.tmod a1 32))
theorem pestleref01_Left.mono_l : ∀ k, (∀ y0 y1, LeO (pestleref01_Left.j0 k y0 y1) (pestleref01_Left.j0 (k + 1) y0 y1)) ∧ (∀ y0 y1 y2, LeO (pestleref01_Left.l0 k y0 y1 y2) (pestleref01_Left.l0 (k + 1) y0 y1 y2))
 | 0 => ⟨fun _ _ r h => by simp [pestleref01_Left.j0] at h, fun _ _ _ r h => by simp [pestleref01_Left.l0] at h⟩
 | k + 1 => by
  obtain ⟨ih0, ih1⟩ := pestleref01_Left.mono_l k
  refine ⟨?_, ?_⟩
  ·intro y0 y1
   unfold pestleref01_Left.j0
   repeat' first
   | (with_reducible exact ih0 _ _)
   | (with_reducible exact ih1 _ _ _)
   | (with_reducible exact LeO.refl _)
   | (with_reducible exact LeO.none _)
   | (with_reducible refine LeO.ite ?_ ?_)
   | (with_reducible refine LeO.bind ?_ (fun _ => ?_))
   | exact ih0 _ _
   | exact ih1 _ _ _
   | exact LeO.none _
   | refine LeO.ite ?_ ?_
   | refine LeO.bind ?_ (fun _ => ?_)
  ·intro y0 y1 y2
   unfold pestleref01_Left.l0
   repeat' first
   | (with_reducible exact ih0 _ _)
   | (with_reducible exact ih1 _ _ _)
   | (with_reducible exact LeO.refl _)
   | (with_reducible exact LeO.none _)
   | (with_reducible refine LeO.ite ?_ ?_)
   | (with_reducible refine LeO.bind ?_ (fun _ => ?_))
   | exact ih0 _ _
   | exact ih1 _ _ _
   | exact LeO.none _
   | refine LeO.ite ?_ ?_
   | refine LeO.bind ?_ (fun _ => ?_)
theorem pestleref01_Left.mono : ∀ a0 a1 k, LeO (pestleref01_Left.f k a0 a1) (pestleref01_Left.f (k + 1) a0 a1) := by
 intro a0 a1 k
 obtain ⟨ih0, ih1⟩ := pestleref01_Left.mono_l k
 unfold pestleref01_Left.f
 repeat' first
   | (with_reducible exact ih0 _ _)
   | (with_reducible exact ih1 _ _ _)
   | (with_reducible exact LeO.refl _)
   | (with_reducible exact LeO.none _)
   | (with_reducible refine LeO.ite ?_ ?_)
   | (with_reducible refine LeO.bind ?_ (fun _ => ?_))
   | exact ih0 _ _
   | exact ih1 _ _ _
   | exact LeO.none _
   | refine LeO.ite ?_ ?_
   | refine LeO.bind ?_ (fun _ => ?_)
set_option maxHeartbeats 8000000 in
set_option maxRecDepth 100000 in
theorem pestleref01_Left.calls (k : Nat) (a0 : Int) (a1 : Int) (r : Int) (w : World) (h : pestleref01_Left.f k a0 a1 = some r) :
  Calls Try.prog 45 #[.int .u32 a0, .int .i64 a1] w fun e w' => e = .returned (.int .u32 r) ∧ Drawn0 w w' := by
 have H : (if (Int.tmod a1 32) < 0 then (pestleref01_Left.j0 k a0 (wrap64 ((Int.tmod a1 32) + 32))) else (pestleref01_Left.j0 k a0 (Int.tmod a1 32))) = some r := h
 clear h
 have HC3 := Aside0.mk H
 clear H
 go_enter Try.func45, Try.ntmps45
 go_upto_if 10 with (fail)
 go_cut [5] (fun v5 wc => ∃ (kq : Nat) (x5_2 : Int), v5 = .int .i64 x5_2 ∧ Aside0 (pestleref01_Left.j0 kq a0 x5_2 = some r) ∧ Aside0 (kq ≤ k) ∧ Drawn0 w wc)
 case first =>
  have H := HC3.out
  clear HC3
  by_cases c4 : (Int.tmod a1 32) < 0
  ·rw [if_pos c4] at H
   have c4b0 : decide ((Int.tmod a1 32) < 0) = true := decide_eq_true c4
   clear c4
   (first | rw [c4b0] | (simp only [i64_w, i32_w]; rw [c4b0]) | skip)
   have H' := Aside0.mk H
   clear H
   go_wp2
   go_meet
   case rel => exact ⟨_, (wrap64 ((Int.tmod a1 32) + 32)), (by first | rfl | (simp; done) | (simp [*]; done)), H', ⟨by first | omega | exact Nat.le_refl _⟩, by repeat (first | exact Drawn0.refl _ | apply Drawn0.step)⟩
  ·rw [if_neg c4] at H
   have c4b0 : decide ((Int.tmod a1 32) < 0) = false := decide_eq_false c4
   clear c4
   (first | rw [c4b0] | (simp only [i64_w, i32_w]; rw [c4b0]) | skip)
   have H' := Aside0.mk H
   clear H
   go_wp2
   go_meet
   case rel => exact ⟨_, (Int.tmod a1 32), (by first | rfl | (simp; done) | (simp [*]; done)), H', ⟨by first | omega | exact Nat.le_refl _⟩, by repeat (first | exact Drawn0.refl _ | apply Drawn0.step)⟩
 case rest =>
  clear HC3
  try clear p2
  try clear c4
  try clear c4b0
  obtain ⟨kq, x5_2, rfl, HA, HJ2, ⟨mc2, rfl⟩⟩ := hcut
  cases kq with
  | zero => exact absurd HA.out (by simp [pestleref01_Left.j0])
  | succ kj2 =>
   have H := HA.out
   clear HA
   simp only [pestleref01_Left.j0] at H
   have H' := Aside0.mk H
   clear H
   go_wp2
   go_loopg [0, 6] kj2 (fun kq v0 v6 w' => ∃ (x0_2 : Int) (x6_2 : Int), v0 = .int .u32 x0_2 ∧ v6 = .int .i64 x6_2 ∧ Aside0 (pestleref01_Left.l0 kq x0_2 x5_2 x6_2 = some r) ∧ Aside0 (kq ≤ kj2) ∧ Drawn0 w w')
   case atStart => exact ⟨(a0), (0), (by first | rfl | (simp; done) | (simp [*]; done)), (by first | rfl | (simp; done) | (simp [*]; done)), H', ⟨Nat.le_refl _⟩, by repeat (first | exact Drawn0.refl _ | apply Drawn0.step)⟩
   case round =>
    clear H'
    try clear c2
    try clear p2
    try clear c4
    try clear c4b0
    try clear p2
    obtain ⟨x0_2, x6_2, rfl, rfl, HA, HK2, ⟨m2, rfl⟩⟩ := hrel
    cases gk with
    | zero => exact absurd HA.out (by simp [pestleref01_Left.l0])
    | succ k2 =>
     have H := HA.out
     clear HA
     simp only [pestleref01_Left.l0] at H
     by_cases c5 : x6_2 < x5_2
     ·rw [if_pos c5] at H
      have c5b0 : decide (x6_2 < x5_2) = true := decide_eq_true c5
      clear c5
      have H' := Aside0.mk H
      clear H
      go_wp2
      go_roundg k2
      case measure => have := HJ2.out; have := HK2.out; omega
      case rel => exact ⟨((((x0_2 * 2) % 4294967296) + ((Int.tdiv x0_2 2147483648) % 4294967296)) % 4294967296), (wrap64 (x6_2 + 1)), (by first | rfl | (simp; done) | (simp [*]; done)), (by first | rfl | (simp; done) | (simp [*]; done)), H', ⟨by have := HJ2.out; have := HK2.out; omega⟩, by repeat (first | exact Drawn0.refl _ | apply Drawn0.step)⟩
     ·rw [if_neg c5] at H
      have c5b0 : decide (x6_2 < x5_2) = false := decide_eq_false c5
      clear c5
      obtain rfl := Option.some.inj H
      go_wp2
      go_ret
      exact ⟨by first | rfl | (simp; done) | (simp [*]; done) | (simp [show ∀ l_ : List UInt8, (l_ != []) = !l_.isEmpty from fun l_ => by cases l_ <;> rfl]; done), by repeat (first | exact Drawn0.refl _ | apply Drawn0.step)⟩

/-! ### pestleref10_Sum: function 19 -/
def pestleref10_Sum.l0 : Nat → List Int → Int → Int → Option (Int)
 | 0, _, _, _ => none
 | k + 1, x0, x3, x4 => if x4 < (x0.length : Int) then (if 0 ≤ x4 then ((pestleref01_Left.f k (rd x0 x4) (Int.tmod x4 32)).bind fun t102 => (pestleref10_Sum.l0 k x0 ((x3 + t102) % 4294967296) (wrap64 (x4 + 1)))) else (none)) else (some x3)
def pestleref10_Sum.f (k : Nat) (l0 : List Int) : Option (Int) := pestleref10_Sum.l0 k l0 0 0
theorem pestleref10_Sum.mono_l : ∀ k, (∀ y0 y1 y2, LeO (pestleref10_Sum.l0 k y0 y1 y2) (pestleref10_Sum.l0 (k + 1) y0 y1 y2))
 | 0 => fun _ _ _ r h => by simp [pestleref10_Sum.l0] at h
 | k + 1 => by
  have ih0 := pestleref10_Sum.mono_l k
  ·intro y0 y1 y2
   unfold pestleref10_Sum.l0
   repeat' first
   | (with_reducible exact ih0 _ _ _)
   | (with_reducible exact pestleref01_Left.mono _ _ _)
   | (with_reducible exact LeO.refl _)
   | (with_reducible exact LeO.none _)
   | (with_reducible refine LeO.ite ?_ ?_)
   | (with_reducible refine LeO.bind ?_ (fun _ => ?_))
   | exact ih0 _ _ _
   | exact pestleref01_Left.mono _ _ _
   | exact LeO.none _
   | refine LeO.ite ?_ ?_
   | refine LeO.bind ?_ (fun _ => ?_)
theorem pestleref10_Sum.mono : ∀ a0 k, LeO (pestleref10_Sum.f k a0) (pestleref10_Sum.f (k + 1) a0) := by
 intro a0 k
 have ih0 := pestleref10_Sum.mono_l k
 unfold pestleref10_Sum.f
 repeat' first
   | (with_reducible exact ih0 _ _ _)
   | (with_reducible exact pestleref01_Left.mono _ _ _)
   | (with_reducible exact LeO.refl _)
   | (with_reducible exact LeO.none _)
   | (with_reducible refine LeO.ite ?_ ?_)
   | (with_reducible refine LeO.bind ?_ (fun _ => ?_))
   | exact ih0 _ _ _
   | exact pestleref01_Left.mono _ _ _
   | exact LeO.none _
   | refine LeO.ite ?_ ?_
   | refine LeO.bind ?_ (fun _ => ?_)
set_option maxHeartbeats 8000000 in
set_option maxRecDepth 100000 in
theorem pestleref10_Sum.calls (k : Nat) (A0 : Option Addr) (c0 : Nat) (l0 : List Int) (r : Int) (w : World) (hr0 : Kd.C (Kd.int .u32) w A0 l0.length l0) (hc0 : l0.length ≤ c0) (h : pestleref10_Sum.f k l0 = some r) :
  Calls Try.prog 19 #[.slice A0 l0.length c0] w fun e w' => e = .returned (.int .u32 r) ∧ Drawn0 w w' := by
 have HR0 := Aside0.mk hr0
 have HC0 := Aside0.mk hc0
 clear hr0 hc0
 have H : (pestleref10_Sum.l0 k l0 0 0) = some r := h
 clear h
 have H' := Aside0.mk H
 clear H
 go_enter Try.func19, Try.ntmps19
 go_wp2
 go_loopg [3, 4] k (fun kq v3 v4 w' => ∃ (x3_1 : Int) (x4_1 : Int), v3 = .int .u32 x3_1 ∧ v4 = .int .i64 x4_1 ∧ Aside0 (pestleref10_Sum.l0 kq l0 x3_1 x4_1 = some r) ∧ Aside0 (kq ≤ k) ∧ Drawn0 w w')
 case atStart => exact ⟨(0), (0), (by first | rfl | (simp; done) | (simp [*]; done)), (by first | rfl | (simp; done) | (simp [*]; done)), H', ⟨Nat.le_refl _⟩, by repeat (first | exact Drawn0.refl _ | apply Drawn0.step)⟩
 case round =>
  clear H'
  try clear c1
  obtain ⟨x3_1, x4_1, rfl, rfl, HA, HK1, ⟨m1, rfl⟩⟩ := hrel
  cases gk with
  | zero => exact absurd HA.out (by simp [pestleref10_Sum.l0])
  | succ k1 =>
   have H := HA.out
   clear HA
   simp only [pestleref10_Sum.l0] at H
   by_cases c2 : x4_1 < (l0.length : Int)
   ·rw [if_pos c2] at H
    have c2b0 : decide (x4_1 < (l0.length : Int)) = true := decide_eq_true c2
    clear c2
    by_cases c3 : 0 ≤ x4_1
    ·rw [if_pos c3] at H
     have c3b0 : decide (0 ≤ x4_1) = true := decide_eq_true c3
     clear c3
     replace H := Option.bind_eq_some_iff.mp H
     obtain ⟨t102, A40, H⟩ := H
     replace H : (pestleref10_Sum.l0 k1 l0 ((x3_1 + t102) % 4294967296) (wrap64 (x4_1 + 1))) = some r := H
     have A4 := Aside0.mk A40
     clear A40
     have H' := Aside0.mk H
     clear H
     have p101 : 0 ≤ (x4_1 : Int) := of_decide_eq_true (by first | (with_reducible assumption) | assumption)
     have q101 : x4_1 < (l0.length : Int) := of_decide_eq_true (by first | (with_reducible assumption) | assumption)
     obtain ⟨ad101, e101, hx101_0⟩ := Kd.at_int HR0.out x4_1 p101 q101
     cases e101
     replace p101 := eq_true p101
     replace q101 := eq_true q101
     go_wp2_with (first | ((with_reducible refine gate_callee (f := 45) rfl ?_); refine goesL_ (some 18) rfl rfl Try.func45 (by kernel_rfl) rfl #[.int .u32 (rd l0 x4_1), .int .i64 (Int.tmod x4_1 32)] rfl (by (try simp only [List.map_toArray, List.map_cons, List.map_nil]); first | done | rfl | (simp only [List.length_drop, List.length_take]; rfl)) ?_; (with_reducible refine (pestleref01_Left.calls k1 (rd l0 x4_1) (Int.tmod x4_1 32) t102 _ A4.out).mono ?_); rintro e w' ⟨rfl, ⟨nd, rfl⟩⟩; refine ⟨_, rfl, ?_⟩))
     go_roundg k1
     case measure => have := HK1.out; omega
     case rel => exact ⟨((x3_1 + t102) % 4294967296), (wrap64 (x4_1 + 1)), (by first | rfl | (simp; done) | (simp [*]; done)), (by first | rfl | (simp; done) | (simp [*]; done)), H', ⟨by have := HK1.out; omega⟩, by repeat (first | exact Drawn0.refl _ | apply Drawn0.step)⟩
    ·rw [if_neg c3] at H
     exact absurd H (by simp)
   ·rw [if_neg c2] at H
    have c2b0 : decide (x4_1 < (l0.length : Int)) = false := decide_eq_false c2
    clear c2
    obtain rfl := Option.some.inj H
    go_wp2
    go_ret
    exact ⟨by first | rfl | (simp; done) | (simp [*]; done) | (simp [show ∀ l_ : List UInt8, (l_ != []) = !l_.isEmpty from fun l_ => by cases l_ <;> rfl]; done), by repeat (first | exact Drawn0.refl _ | apply Drawn0.step)⟩

/-! ### pi_value: function 43 -/
def pi_value.f (a0 : Int) : Option (Int) := if a0 ≥ 97 then (some (((a0 - 97) % 256) + 10)) else (some ((a0 - 48) % 256))
set_option maxHeartbeats 8000000 in
set_option maxRecDepth 100000 in
theorem pi_value.calls (a0 : Int) (r : Int) (w : World) (h : pi_value.f a0 = some r) :
  Calls Try.prog 43 #[.int .u8 a0] w fun e w' => e = .returned (.int .i64 r) ∧ Drawn0 w w' := by
 have H : (if a0 ≥ 97 then (some (((a0 - 97) % 256) + 10)) else (some ((a0 - 48) % 256))) = some r := h
 clear h
 by_cases c2 : a0 ≥ 97
 ·rw [if_pos c2] at H
  have c2b0 : decide (97 ≤ a0) = true := decide_eq_true c2
  clear c2
  obtain rfl := Option.some.inj H
  go_enter Try.func43, Try.ntmps43
  go_wp2
  go_ret
  exact ⟨by first | rfl | (simp; done) | (simp [*]; done) | (simp [show ∀ l_ : List UInt8, (l_ != []) = !l_.isEmpty from fun l_ => by cases l_ <;> rfl]; done), by repeat (first | exact Drawn0.refl _ | apply Drawn0.step)⟩
 ·rw [if_neg c2] at H
  have c2b0 : decide (97 ≤ a0) = false := decide_eq_false c2
  clear c2
  obtain rfl := Option.some.inj H
  go_enter Try.func43, Try.ntmps43
  go_wp2
  go_ret
  exact ⟨by first | rfl | (simp; done) | (simp [*]; done) | (simp [show ∀ l_ : List UInt8, (l_ != []) = !l_.isEmpty from fun l_ => by cases l_ <;> rfl]; done), by repeat (first | exact Drawn0.refl _ | apply Drawn0.step)⟩

end Go.Proofs.Ytimgndceiibaeaa.Pall
