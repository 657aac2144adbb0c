-- PRINTED by print.py (a twelfth state) out of the translation. Not trusted: Lean checks it.
import Derived.Test.YtakhikhdbigdaaaPallx0
namespace Go.Proofs.Ytakhikhdbigdaaa.Pall
open Go.RowKit Go.Proofs.YtakhikhdbigdaaaW.PrintWords Go.Proofs.YtakhikhdbigdaaaW.PrintLast Go.Proofs.YtakhikhdbigdaaaW.PrintMore
attribute [local go_sem] max2_int min2_int max_two min_two max_three min_three max_four min_four   -- for this text's walks alone
set_option linter.unusedVariables false
set_option linter.unusedSimpArgs false

/-! ### sextet_New: function 27 -/
set_option maxHeartbeats 8000000 in
set_option maxRecDepth 100000 in
theorem sextet_New.calls (s : ByteArray) (w : World) (hs : s.size ≤ 9223372036854775807) :
    Calls Try.prog 27 #[.string s] w (NewPost 71 s w) := by
  by_cases h64 : s.size = 64
  case neg =>
    have e9 : sxErr s = 9 := if_neg h64
    have hb1 : ((s.size : Int) == 64) = false := by simp; omega
    have hb2 : ((s.size : Int) != 64) = true := by simp; omega
    have hb3 : (s.size == 64) = false := by simp; omega
    have hb4 : (s.size != 64) = true := by simp; omega
    go_enter Try.func27, Try.ntmps27
    go_wp2
    go_ret2
    exact .inr ⟨by rw [e9]; decide, by rw [e9]; rfl, Below.refl _ _⟩
  have hb1 : ((s.size : Int) == 64) = true := by simp; omega
  have hb2 : ((s.size : Int) != 64) = false := by simp; omega
  have hb3 : (s.size == 64) = true := by simp; omega
  have hb4 : (s.size != 64) = false := by simp; omega
  have E := Aside0.mk (show sxErr s = sxErrA [] s.data.toList from if_pos h64)
  have HS := Aside0.mk (show s.data.toList.length = 64 from h64)
  have H64 := Aside0.mk h64
  clear h64
  go_enter Try.func27, Try.ntmps27
  have hz : ∀ W : World, (zeroValue 71).run Try.prog W = .ok (.agg sxZ) W := fun W => by kernel_rfl
  have hz2 := sxZ_ne
  have hz3 := sxZ_set s
  go_wp2_with (((with_reducible refine gate_dst (N := 12) rfl ?_); refine box_event ?hg (N := 12) ?hd (cs := sxCells s []) (t := 71) ?hr ?_; (case hd => rfl); (case hg => rfl); (case hr => rfl); intro gb hg w1 hbox hb; have HB := Aside0.mk (show Below w.heap.size w w1 from hb); have BK := Aside0.mk hbox; have GE := Aside0.mk (show w.heap.size ≤ gb by rw [hg]; exact Nat.le_refl _); clear hb hbox hg))
  clear hz hz2 hz3
  go_loopw [13] (fun v13 wz => ∃ n : Nat, n ≤ 64 ∧ v13 = .int .i64 (n : Int) ∧ Aside0 (sxErrA (s.data.toList.take n) (s.data.toList.drop n) = sxErr s) ∧ Aside0 (wz.heap[gb]? = some (.cells (sxCells s (s.data.toList.take n)) 71 (0, 0))) ∧ Aside0 (Below w.heap.size w wz)) (fun v13 _ => 64 - (intOf v13).toNat)
  case atStart => exact ⟨0, by omega, rfl, ⟨E.out.symm⟩, BK, HB⟩
  case round =>
    clear BK HB E
    obtain ⟨n, hn, rfl, E, BK, HB⟩ := hrel
    by_cases hlt : n < 64
    · have hlen : n < s.data.toList.length := by rw [HS.out]; exact hlt
      obtain ⟨c, hc⟩ : ∃ c, s.data.toList[n] = c := ⟨_, rfl⟩
      have hd : s.data.toList.drop n = c :: s.data.toList.drop (n + 1) := by rw [← hc]; exact List.drop_eq_getElem_cons hlen
      have ht : s.data.toList.take (n + 1) = s.data.toList.take n ++ [c] := by rw [← hc]; exact List.take_succ_eq_append_getElem hlen
      have hL := Aside0.mk (show (s.data.toList.take n).length = n by rw [List.length_take]; omega)
      have e1 := E.out
      rw [hd, sxErrA] at e1
      replace ht := Aside0.mk ht
      replace hc := Aside0.mk hc
      obtain ⟨d, hdn⟩ : ∃ d, s.data.toList.take n = d := ⟨_, rfl⟩
      rw [hdn] at BK hL e1
      have ht' := ht.out
      rw [hdn] at ht'
      replace ht := Aside0.mk ht'
      clear ht' hdn E hd
      have hix : ∀ W : World, (Instr.index 9 (.string s) (.int .i64 (n : Int))).run Try.prog W = .ok (.int .u8 (c.toNat : Int)) W := fun W => by
        rw [run_index_string W 9 s .i64 (n : Int) Try.underlying9, dif_pos (by have := H64.out; omega)]
        have := hc.out
        exact congrArg (fun x : UInt8 => Result.ok (Value.int .u8 (x.toNat : Int)) W) this
      have hc256 := c.toNat_lt
      have hcv := (blk_cell BK.out (1 + c.toNat)).trans (sxCells_val s d c.toNat (by omega))
      have hcf := blk_frozen BK.out (1 + c.toNat)
      by_cases b1 : c.toNat < 33
      · have g1 : decide ((c.toNat : Int) < 33) = true := decide_eq_true (by omega)
        rw [if_pos (.inl b1)] at e1
        have E8 := Aside0.mk e1
        clear e1
        go_wp2
        go_ret2
        exact .inr ⟨by rw [← E8.out]; decide, by rw [← E8.out]; rfl, HB.out⟩
      have g1 : decide ((c.toNat : Int) < 33) = false := decide_eq_false (by omega)
      by_cases b2 : 126 < c.toNat
      · have g2 : decide ((126 : Int) < (c.toNat : Int)) = true := decide_eq_true (by omega)
        rw [if_pos (.inr b2)] at e1
        have E8 := Aside0.mk e1
        clear e1
        go_wp2
        go_ret2
        exact .inr ⟨by rw [← E8.out]; decide, by rw [← E8.out]; rfl, HB.out⟩
      have g2 : decide ((126 : Int) < (c.toNat : Int)) = false := decide_eq_false (by omega)
      rw [if_neg (by omega)] at e1
      by_cases b3 : 0 < sxVal d c.toNat
      · rw [if_pos b3] at e1
        have E8 := Aside0.mk e1
        clear e1
        obtain ⟨v, hv⟩ : ∃ v, sxVal d c.toNat = v := ⟨_, rfl⟩
        rw [hv] at b3 hcv
        clear hv
        have g3 : decide ((0 : Int) < (v : Int)) = true := decide_eq_true (by omega)
        go_wp2
        go_ret2
        exact .inr ⟨by rw [← E8.out]; decide, by rw [← E8.out]; rfl, HB.out⟩
      rw [if_neg b3] at e1
      have z0 : sxVal d c.toNat = 0 := by omega
      rw [z0] at hcv
      have Z := Aside0.mk z0
      have E8 := Aside0.mk e1
      clear e1 z0 b3
      go_wp2
      refine ⟨⟨n + 1, by omega, by go_num, ⟨?_⟩, ⟨?_⟩, ⟨?_⟩⟩, by simp [intOf]; omega⟩
      · rw [ht.out]; exact E8.out
      · rw [ht.out]
        have q := sxCells_set s d c Z.out
        rw [hL.out] at q
        exact q ▸ blk_set BK.out (1 + c.toNat) (.int .i64 ((n : Int) + 1))
      · exact below_set HB.out GE.out
    · obtain rfl : n = 64 := by omega
      rw [List.drop_of_length_le (by rw [HS.out]; exact Nat.le_refl _)] at E
      rw [List.take_of_length_le (by rw [HS.out]; exact Nat.le_refl _)] at BK
      have E0 := Aside0.mk (show sxErr s = 0 from E.out.symm)
      go_wp2
      go_ret2
      exact .inl ⟨E0.out, gb, GE.out, rfl, BK.out, HB.out⟩

/-! ### crypt64_New: function 36 -/
def crypt64_New.f : Option Int := some 0
set_option maxHeartbeats 8000000 in
set_option maxRecDepth 100000 in
theorem crypt64_New.calls (w : World) :
    Calls Try.prog 36 #[] w fun e w' => ∃ g c, w.heap.size ≤ g ∧ w.heap.size ≤ c ∧ e = .returned (.pointer (some ⟨g, 0, none⟩)) ∧ C64 77 71 w' g c ∧ Below w.heap.size w w' := by
  have E0 := Aside0.mk sxCrypt_ok
  have hsz : sxCrypt.size ≤ 9223372036854775807 := by decide +kernel
  have HB := Aside0.mk (Below.refl w.heap.size w)
  go_enter Try.func36, Try.ntmps36
  go_wp2_with (first | (go_at_call 27; refine (sextet_New.calls sxCrypt _ hsz).mono ?_; intro e wn hn; obtain ⟨_, c, hg, rfl, hc, hb⟩ := hn.resolve_right (fun q => q.1 E0.out); have HC := Aside0.mk hc; have HG := Aside0.mk hg; have n0_ := Aside0.mk (below_step HB.out hb); clear HB hb hg hc; have HB := n0_; clear n0_))
  go_ret
  exact ⟨_, c, Nat.le_trans HG.out (Nat.le_of_lt (blk_lt HC.out)), HG.out, rfl, ⟨blk_new _ _, HC.out.alloc _⟩, below_alloc HB.out _⟩

/-! ### sextet_Coder_Encode: function 31 -/
mutual
def sextet_Coder_Encode.l0 : Nat → ByteArray → List Int → Int → Int → List ByteArray → Int → Int → Option (ByteArray)
  | 0, _, _, _, _, _, _, _ => none
  | k + 1, x0, x5, x6, x7, x11, x12, x13 => if x13 < x12 then (if 0 ≤ x13 then (if x13 < (x11.length : Int) then (sextet_Coder_Encode.l1 k x0 x5 x6 x7 (rdOf ByteArray.empty x11 x13) x11 x12 x13 ((rdOf ByteArray.empty x11 x13).size : Int) 0) else (none)) else (none)) else (if x7 > 0 then (if 0 ≤ (wrap64 (6 - x7)) then (if 0 ≤ (Go.bits .and .u32 (shl .u32 x6 (wrap64 (6 - x7))) 63) then (if (Go.bits .and .u32 (shl .u32 x6 (wrap64 (6 - x7))) 63) < (x0.size : Int) then (if x5.length < 140737488355328 then (some (strOfNums (x5 ++ [bt x0 (Go.bits .and .u32 (shl .u32 x6 (wrap64 (6 - x7))) 63)]))) else (none)) else (none)) else (none)) else (none)) else (some (strOfNums x5)))
def sextet_Coder_Encode.l1 : Nat → ByteArray → List Int → Int → Int → ByteArray → List ByteArray → Int → Int → Int → Int → Option (ByteArray)
  | 0, _, _, _, _, _, _, _, _, _, _ => none
  | k + 1, x0, x5, x6, x7, x9, x11, x12, x13, x18, x19 => if x19 < x18 then (if 0 ≤ x19 then (if x19 < (x9.size : Int) then (sextet_Coder_Encode.l2 k x0 x5 (Go.bits .or .u32 ((x6 * 256) % 4294967296) ((bt x9 x19) % 4294967296)) (wrap64 (x7 + 8)) x9 x11 x12 x13 x18 x19) else (none)) else (none)) else (sextet_Coder_Encode.l0 k x0 x5 x6 x7 x11 x12 (wrap64 (x13 + 1)))
def sextet_Coder_Encode.l2 : Nat → ByteArray → List Int → Int → Int → ByteArray → List ByteArray → Int → Int → Int → Int → Option (ByteArray)
  | 0, _, _, _, _, _, _, _, _, _, _ => none
  | k + 1, x0, x5, x6, x7, x9, x11, x12, x13, x18, x19 => if x7 ≥ 6 then (if 0 ≤ (wrap64 (x7 - 6)) then (if 0 ≤ (Go.bits .and .u32 (shr .u32 x6 (wrap64 (x7 - 6))) 63) then (if (Go.bits .and .u32 (shr .u32 x6 (wrap64 (x7 - 6))) 63) < (x0.size : Int) then (if x5.length < 140737488355328 then (sextet_Coder_Encode.l2 k x0 (x5 ++ [bt x0 (Go.bits .and .u32 (shr .u32 x6 (wrap64 (x7 - 6))) 63)]) x6 (wrap64 (x7 - 6)) x9 x11 x12 x13 x18 x19) else (none)) else (none)) else (none)) else (none)) else (sextet_Coder_Encode.l1 k x0 x5 x6 x7 x9 x11 x12 x13 x18 (wrap64 (x19 + 1)))
end
def sextet_Coder_Encode.f (k : Nat) (a0 : ByteArray) (l1 : List ByteArray) : Option (ByteArray) := sextet_Coder_Encode.l0 k a0 ([] : List Int) 0 0 l1 (l1.length : Int) 0
theorem sextet_Coder_Encode.mono_l : ∀ k, (∀ y0 y1 y2 y3 y4 y5 y6, LeO (sextet_Coder_Encode.l0 k y0 y1 y2 y3 y4 y5 y6) (sextet_Coder_Encode.l0 (k + 1) y0 y1 y2 y3 y4 y5 y6)) ∧ (∀ y0 y1 y2 y3 y4 y5 y6 y7 y8 y9, LeO (sextet_Coder_Encode.l1 k y0 y1 y2 y3 y4 y5 y6 y7 y8 y9) (sextet_Coder_Encode.l1 (k + 1) y0 y1 y2 y3 y4 y5 y6 y7 y8 y9)) ∧ (∀ y0 y1 y2 y3 y4 y5 y6 y7 y8 y9, LeO (sextet_Coder_Encode.l2 k y0 y1 y2 y3 y4 y5 y6 y7 y8 y9) (sextet_Coder_Encode.l2 (k + 1) y0 y1 y2 y3 y4 y5 y6 y7 y8 y9))
  | 0 => ⟨fun _ _ _ _ _ _ _ r h => by simp [sextet_Coder_Encode.l0] at h, fun _ _ _ _ _ _ _ _ _ _ r h => by simp [sextet_Coder_Encode.l1] at h, fun _ _ _ _ _ _ _ _ _ _ r h => by simp [sextet_Coder_Encode.l2] at h⟩
  | k + 1 => by
    obtain ⟨ih0, ih1, ih2⟩ := sextet_Coder_Encode.mono_l k
    refine ⟨?_, ?_, ?_⟩
    · intro y0 y1 y2 y3 y4 y5 y6
      unfold sextet_Coder_Encode.l0
      repeat' first
      | (with_reducible exact ih0 _ _ _ _ _ _ _)
      | (with_reducible exact ih1 _ _ _ _ _ _ _ _ _ _)
      | (with_reducible exact ih2 _ _ _ _ _ _ _ _ _ _)
      | (with_reducible exact LeO.refl _)
      | (with_reducible exact LeO.none _)
      | (with_reducible refine LeO.ite ?_ ?_)
      | (with_reducible refine LeO.bind ?_ (fun _ => ?_))
      | exact ih0 _ _ _ _ _ _ _
      | exact ih1 _ _ _ _ _ _ _ _ _ _
      | exact ih2 _ _ _ _ _ _ _ _ _ _
      | exact LeO.none _
      | refine LeO.ite ?_ ?_
      | refine LeO.bind ?_ (fun _ => ?_)
    · intro y0 y1 y2 y3 y4 y5 y6 y7 y8 y9
      unfold sextet_Coder_Encode.l1
      repeat' first
      | (with_reducible exact ih0 _ _ _ _ _ _ _)
      | (with_reducible exact ih1 _ _ _ _ _ _ _ _ _ _)
      | (with_reducible exact ih2 _ _ _ _ _ _ _ _ _ _)
      | (with_reducible exact LeO.refl _)
      | (with_reducible exact LeO.none _)
      | (with_reducible refine LeO.ite ?_ ?_)
      | (with_reducible refine LeO.bind ?_ (fun _ => ?_))
      | exact ih0 _ _ _ _ _ _ _
      | exact ih1 _ _ _ _ _ _ _ _ _ _
      | exact ih2 _ _ _ _ _ _ _ _ _ _
      | exact LeO.none _
      | refine LeO.ite ?_ ?_
      | refine LeO.bind ?_ (fun _ => ?_)
    · intro y0 y1 y2 y3 y4 y5 y6 y7 y8 y9
      unfold sextet_Coder_Encode.l2
      repeat' first
      | (with_reducible exact ih0 _ _ _ _ _ _ _)
      | (with_reducible exact ih1 _ _ _ _ _ _ _ _ _ _)
      | (with_reducible exact ih2 _ _ _ _ _ _ _ _ _ _)
      | (with_reducible exact LeO.refl _)
      | (with_reducible exact LeO.none _)
      | (with_reducible refine LeO.ite ?_ ?_)
      | (with_reducible refine LeO.bind ?_ (fun _ => ?_))
      | exact ih0 _ _ _ _ _ _ _
      | exact ih1 _ _ _ _ _ _ _ _ _ _
      | exact ih2 _ _ _ _ _ _ _ _ _ _
      | exact LeO.none _
      | refine LeO.ite ?_ ?_
      | refine LeO.bind ?_ (fun _ => ?_)
theorem sextet_Coder_Encode.mono : ∀ a0 a1 k, LeO (sextet_Coder_Encode.f k a0 a1) (sextet_Coder_Encode.f (k + 1) a0 a1) := by
  intro a0 a1 k
  obtain ⟨ih0, ih1, ih2⟩ := sextet_Coder_Encode.mono_l k
  unfold sextet_Coder_Encode.f
  repeat' first
      | (with_reducible exact ih0 _ _ _ _ _ _ _)
      | (with_reducible exact ih1 _ _ _ _ _ _ _ _ _ _)
      | (with_reducible exact ih2 _ _ _ _ _ _ _ _ _ _)
      | (with_reducible exact LeO.refl _)
      | (with_reducible exact LeO.none _)
      | (with_reducible refine LeO.ite ?_ ?_)
      | (with_reducible refine LeO.bind ?_ (fun _ => ?_))
      | exact ih0 _ _ _ _ _ _ _
      | exact ih1 _ _ _ _ _ _ _ _ _ _
      | exact ih2 _ _ _ _ _ _ _ _ _ _
      | exact LeO.none _
      | refine LeO.ite ?_ ?_
      | refine LeO.bind ?_ (fun _ => ?_)
set_option maxHeartbeats 8000000 in
set_option maxRecDepth 100000 in
theorem sextet_Coder_Encode.calls (k : Nat) (g : Nat) (a0 : ByteArray) (A1 : Option Addr) (c1 : Nat) (l1 : List ByteArray) (r : ByteArray) (w : World) (hcg : w.cell? ⟨g, 0, none⟩ = some (.string a0)) (hr1 : Kd.C Kd.string w A1 l1.length l1) (hc1 : l1.length ≤ c1) (h : sextet_Coder_Encode.f k a0 l1 = some r) :
    Calls Try.prog 31 #[.pointer (some ⟨g, 0, none⟩), .slice A1 l1.length c1] w fun e w' => e = .returned (.string r) ∧ Below w.heap.size w w' := by
  have HCG := Aside0.mk hcg
  clear hcg
  have HR1 := Aside0.mk hr1
  have HC1 := Aside0.mk hc1
  clear hr1 hc1
  have HB := Aside0.mk (Below.refl w.heap.size w)
  have H : (sextet_Coder_Encode.l0 k a0 ([] : List Int) 0 0 l1 (l1.length : Int) 0) = some r := h
  clear h
  have H' := Aside0.mk H
  clear H
  go_enter Try.func31, Try.ntmps31
  go_wp2
  go_loopg [5, 6, 7, 15] k (fun kq v5 v6 v7 v15 w' => ∃ (x5_1 : List Int) (x6_1 : Int) (x7_1 : Int) (x13_1 : Int), v6 = .int .u32 x6_1 ∧ v7 = .int .i64 x7_1 ∧ v15 = .int .i64 x13_1 ∧ Aside0 (sextet_Coder_Encode.l0 kq a0 x5_1 x6_1 x7_1 l1 (l1.length : Int) x13_1 = some r) ∧ Aside0 (kq ≤ k) ∧ Aside0 (Kd.R (Kd.int .u8) 5 w' w.heap.size (fun _ => True) v5 x5_1) ∧ Aside0 (Below w.heap.size w w'))
  case atStart => exact ⟨(([] : List Int)), (0), (0), (0), (by first | rfl | (simp; done) | (simp [*]; done)), (by first | rfl | (simp; done) | (simp [*]; done)), (by first | rfl | (simp; done) | (simp [*]; done)), H', ⟨Nat.le_refl _⟩, ⟨by first | exact Kd.R_nil _ _ _ _ _ | exact Kd.N_nil _ _ _ _ _ | exact Kd.V_nil _ _ _ _ _ | exact Kd.Q_nil _ _ _ _ _ | exact Kd.S_nil _ _ _ _ _⟩, ⟨by repeat (first | (with_reducible first | exact HB.out | apply below_alloc | apply pw_below_drewN | apply below_drew1) | exact HB.out)⟩⟩
  case round =>
    clear H'
    try clear c1
    try clear p2
    obtain ⟨x5_1, x6_1, x7_1, x13_1, rfl, rfl, rfl, HA, HK1, HO_5, HB⟩ := hrel
    cases gk with
    | zero => exact absurd HA.out (by simp [sextet_Coder_Encode.l0])
    | succ k1 =>
      have H := HA.out
      clear HA
      simp only [sextet_Coder_Encode.l0] at H
      by_cases c3 : x13_1 < (l1.length : Int)
      · rw [if_pos c3] at H
        have c3b0 : decide (x13_1 < (l1.length : Int)) = true := decide_eq_true c3
        clear c3
        by_cases c4 : 0 ≤ x13_1
        · rw [if_pos c4] at H
          have c4b0 : decide (0 ≤ x13_1) = true := decide_eq_true c4
          clear c4
          by_cases c5 : x13_1 < (l1.length : Int)
          · rw [if_pos c5] at H
            have c5b0 : decide (x13_1 < (l1.length : Int)) = true := decide_eq_true c5
            clear c5
            have H' := Aside0.mk H
            clear H
            have p112 : 0 ≤ (x13_1 : Int) := of_decide_eq_true (by first | (with_reducible assumption) | assumption)
            have q112 : x13_1 < (l1.length : Int) := of_decide_eq_true (by first | (with_reducible assumption) | assumption)
            obtain ⟨ad112, e112, hx112_0⟩ := Kd.at_string HR1.out x13_1 p112 q112
            cases e112
            replace hx112_0 := (HB.out.cell (World.block_lt_of_cell? w _ hx112_0)).trans hx112_0
            replace p112 := eq_true p112
            replace q112 := eq_true q112
            go_wp2
            go_loopg [5, 6, 7, 21] k1 (fun kq v5 v6 v7 v21 w' => ∃ (x5_2 : List Int) (x6_2 : Int) (x7_2 : Int) (x19_2 : Int), v6 = .int .u32 x6_2 ∧ v7 = .int .i64 x7_2 ∧ v21 = .int .i64 x19_2 ∧ Aside0 (sextet_Coder_Encode.l1 kq a0 x5_2 x6_2 x7_2 (rdOf ByteArray.empty l1 x13_1) l1 (l1.length : Int) x13_1 ((rdOf ByteArray.empty l1 x13_1).size : Int) x19_2 = some r) ∧ Aside0 (kq ≤ k1) ∧ Aside0 (Kd.R (Kd.int .u8) 5 w' w.heap.size (fun _ => True) v5 x5_2) ∧ Aside0 (Below w.heap.size w w'))
            case atStart => exact ⟨(x5_1), (x6_1), (x7_1), (0), (by first | rfl | (simp; done) | (simp [*]; done)), (by first | rfl | (simp; done) | (simp [*]; done)), (by first | rfl | (simp; done) | (simp [*]; done)), H', ⟨Nat.le_refl _⟩, ⟨by (with_reducible repeat (first | apply Kd.R_alloc | apply Kd.R_drewN | apply Kd.R_drew)); exact HO_5.out⟩, ⟨by repeat (first | (with_reducible first | exact HB.out | apply below_alloc | apply pw_below_drewN | apply below_drew1) | exact HB.out)⟩⟩
            case round =>
              clear H'
              try clear c1
              try clear p1
              try clear q1
              try clear hx1
              try clear p2
              try clear c3
              try clear c3b0
              try clear c4
              try clear c4b0
              try clear c5
              try clear c5b0
              try clear hx112_0
              try clear p112
              try clear p2
              try clear q112
              obtain ⟨x5_2, x6_2, x7_2, x19_2, rfl, rfl, rfl, HA, HK2, HO_5, HB⟩ := hrel
              cases gk with
              | zero => exact absurd HA.out (by simp [sextet_Coder_Encode.l1])
              | succ k2 =>
                have H := HA.out
                clear HA
                simp only [sextet_Coder_Encode.l1] at H
                by_cases c6 : x19_2 < ((rdOf ByteArray.empty l1 x13_1).size : Int)
                · rw [if_pos c6] at H
                  have c6b0 : decide (x19_2 < ((rdOf ByteArray.empty l1 x13_1).size : Int)) = true := decide_eq_true c6
                  clear c6
                  by_cases c7 : 0 ≤ x19_2
                  · rw [if_pos c7] at H
                    have c7b0 : decide (0 ≤ x19_2) = true := decide_eq_true c7
                    clear c7
                    by_cases c8 : x19_2 < ((rdOf ByteArray.empty l1 x13_1).size : Int)
                    · rw [if_pos c8] at H
                      have c8b0 : decide (x19_2 < ((rdOf ByteArray.empty l1 x13_1).size : Int)) = true := decide_eq_true c8
                      clear c8
                      have H' := Aside0.mk H
                      clear H
                      have p9 : 0 ≤ (x19_2 : Int) := of_decide_eq_true (by first | (with_reducible assumption) | assumption)
                      have q9 : x19_2 < ((rdOf ByteArray.empty l1 x13_1).size : Int) := of_decide_eq_true (by first | (with_reducible assumption) | assumption)
                      have hx9 := bt_at (rdOf ByteArray.empty l1 x13_1) x19_2
                      replace p9 := eq_true p9
                      replace q9 := eq_true q9
                      go_wp2
                      go_loopg [5, 7] k2 (fun kq v5 v7 w' => ∃ (x5_3 : List Int) (x7_3 : Int), v7 = .int .i64 x7_3 ∧ Aside0 (sextet_Coder_Encode.l2 kq a0 x5_3 (Go.bits .or .u32 ((x6_2 * 256) % 4294967296) ((bt (rdOf ByteArray.empty l1 x13_1) x19_2) % 4294967296)) x7_3 (rdOf ByteArray.empty l1 x13_1) l1 (l1.length : Int) x13_1 ((rdOf ByteArray.empty l1 x13_1).size : Int) x19_2 = some r) ∧ Aside0 (kq ≤ k2) ∧ Aside0 (Kd.R (Kd.int .u8) 5 w' w.heap.size (fun _ => True) v5 x5_3) ∧ Aside0 (Below w.heap.size w w'))
                      case atStart => exact ⟨(x5_2), (wrap64 (x7_2 + 8)), (by first | rfl | (simp; done) | (simp [*]; done)), H', ⟨Nat.le_refl _⟩, ⟨by (with_reducible repeat (first | apply Kd.R_alloc | apply Kd.R_drewN | apply Kd.R_drew)); exact HO_5.out⟩, ⟨by repeat (first | (with_reducible first | exact HB.out | apply below_alloc | apply pw_below_drewN | apply below_drew1) | exact HB.out)⟩⟩
                      case round =>
                        clear H'
                        try clear c1
                        try clear p1
                        try clear q1
                        try clear hx1
                        try clear p2
                        try clear c3
                        try clear c3b0
                        try clear c4
                        try clear c4b0
                        try clear c5
                        try clear c5b0
                        try clear c6
                        try clear c6b0
                        try clear p6
                        try clear c7
                        try clear c7b0
                        try clear c8
                        try clear c8b0
                        try clear p9
                        try clear q9
                        try clear hx9
                        try clear hx112_0
                        try clear p1
                        try clear p112
                        try clear p2
                        try clear p9
                        try clear q1
                        try clear q112
                        try clear q9
                        obtain ⟨x5_3, x7_3, rfl, HA, HK3, HO_5, HB⟩ := hrel
                        cases gk with
                        | zero => exact absurd HA.out (by simp [sextet_Coder_Encode.l2])
                        | succ k3 =>
                          have H := HA.out
                          clear HA
                          simp only [sextet_Coder_Encode.l2] at H
                          by_cases c10 : x7_3 ≥ 6
                          · rw [if_pos c10] at H
                            have c10b0 : decide (6 ≤ x7_3) = true := decide_eq_true c10
                            clear c10
                            obtain ⟨ji11, hji11⟩ : ∃ j_ : Int, (wrap64 (x7_3 - 6)) = j_ := ⟨_, rfl⟩
                            replace H : (if 0 ≤ (ji11) then (if 0 ≤ (Go.bits .and .u32 (shr .u32 (Go.bits .or .u32 ((x6_2 * 256) % 4294967296) ((bt (rdOf ByteArray.empty l1 x13_1) x19_2) % 4294967296)) (ji11)) 63) then (if (Go.bits .and .u32 (shr .u32 (Go.bits .or .u32 ((x6_2 * 256) % 4294967296) ((bt (rdOf ByteArray.empty l1 x13_1) x19_2) % 4294967296)) (ji11)) 63) < (a0.size : Int) then (if x5_3.length < 140737488355328 then (sextet_Coder_Encode.l2 k3 a0 (x5_3 ++ [bt a0 (Go.bits .and .u32 (shr .u32 (Go.bits .or .u32 ((x6_2 * 256) % 4294967296) ((bt (rdOf ByteArray.empty l1 x13_1) x19_2) % 4294967296)) (ji11)) 63)]) (Go.bits .or .u32 ((x6_2 * 256) % 4294967296) ((bt (rdOf ByteArray.empty l1 x13_1) x19_2) % 4294967296)) ji11 (rdOf ByteArray.empty l1 x13_1) l1 (l1.length : Int) x13_1 ((rdOf ByteArray.empty l1 x13_1).size : Int) x19_2) else (none)) else (none)) else (none)) else (none)) = some r := by first | (rw [hji11] at H; exact H) | (simp only [hji11] at H ⊢; exact H)
                            have hji11w : (IntKind.i64.wrap (x7_3 - 6)) = ji11 := (i64_w _).trans hji11
                            by_cases c12 : 0 ≤ (ji11)
                            · rw [if_pos c12] at H
                              have c12b0 := eq_true c12
                              have c12b1 : decide (0 ≤ (ji11)) = true := decide_eq_true c12
                              clear c12
                              obtain ⟨ji13, hji13⟩ : ∃ j_ : Int, (shr .u32 (Go.bits .or .u32 ((x6_2 * 256) % 4294967296) ((bt (rdOf ByteArray.empty l1 x13_1) x19_2) % 4294967296)) (ji11)) = j_ := ⟨_, rfl⟩
                              replace H : (if 0 ≤ (Go.bits .and .u32 (ji13) 63) then (if (Go.bits .and .u32 (ji13) 63) < (a0.size : Int) then (if x5_3.length < 140737488355328 then (sextet_Coder_Encode.l2 k3 a0 (x5_3 ++ [bt a0 (Go.bits .and .u32 (ji13) 63)]) (Go.bits .or .u32 ((x6_2 * 256) % 4294967296) ((bt (rdOf ByteArray.empty l1 x13_1) x19_2) % 4294967296)) ji11 (rdOf ByteArray.empty l1 x13_1) l1 (l1.length : Int) x13_1 ((rdOf ByteArray.empty l1 x13_1).size : Int) x19_2) else (none)) else (none)) else (none)) = some r := by first | (rw [hji13] at H; exact H) | (simp only [hji13] at H ⊢; exact H)
                              have hji13_ : ((Go.bits .or .u32 ((x6_2 * 256) % 4294967296) ((bt (rdOf ByteArray.empty l1 x13_1) x19_2) % 4294967296)) / 2 ^ min (ji11).toNat 32) = ji13 := hji13
                              have hji13z : (ji11) ≤ 32 → ((Go.bits .or .u32 ((x6_2 * 256) % 4294967296) ((bt (rdOf ByteArray.empty l1 x13_1) x19_2) % 4294967296)) / 2 ^ (ji11).toNat) = ji13 := shr_small hji13
                              by_cases c14 : 0 ≤ (Go.bits .and .u32 (ji13) 63)
                              · rw [if_pos c14] at H
                                have c14b0 : decide (0 ≤ (Go.bits .and .u32 (ji13) 63)) = true := decide_eq_true c14
                                clear c14
                                by_cases c15 : (Go.bits .and .u32 (ji13) 63) < (a0.size : Int)
                                · rw [if_pos c15] at H
                                  have c15b0 : decide ((Go.bits .and .u32 (ji13) 63) < (a0.size : Int)) = true := decide_eq_true c15
                                  clear c15
                                  by_cases c17 : x5_3.length < 140737488355328
                                  · rw [if_pos c17] at H
                                    have LMc17 := Aside0.mk c17
                                    clear c17
                                    obtain ⟨y113, hy113⟩ : ∃ y_ : List Int, y_ = (x5_3 ++ [bt a0 (Go.bits .and .u32 (ji13) 63)]) := ⟨_, rfl⟩
                                    replace H : (sextet_Coder_Encode.l2 k3 a0 y113 (Go.bits .or .u32 ((x6_2 * 256) % 4294967296) ((bt (rdOf ByteArray.empty l1 x13_1) x19_2) % 4294967296)) ji11 (rdOf ByteArray.empty l1 x13_1) l1 (l1.length : Int) x13_1 ((rdOf ByteArray.empty l1 x13_1).size : Int) x19_2) = some r := by first | (rw [hy113]; with_reducible exact H) | (have H2_ := (Option.bind_some _ _).symm.trans H; rw [hy113]; with_reducible exact H2_) | (have H2_ := (Option.bind_some _ _).symm.trans H; with_reducible exact H2_) | with_reducible exact H | (rw [hy113]; exact H) | exact H
                                    have Ny113 := Aside0.mk hy113
                                    clear hy113
                                    have H' := Aside0.mk H
                                    clear H
                                    have p16 : 0 ≤ ((Go.bits .and .u32 (ji13) 63) : Int) := of_decide_eq_true (by first | (with_reducible assumption) | assumption)
                                    have q16 : (Go.bits .and .u32 (ji13) 63) < (a0.size : Int) := of_decide_eq_true (by first | (with_reducible assumption) | assumption)
                                    have hx16 := bt_at a0 (Go.bits .and .u32 (ji13) 63)
                                    replace p16 := eq_true p16
                                    replace q16 := eq_true q16
                                    have hcg := (HB.out.cell (World.block_lt_of_cell? w _ HCG.out)).trans HCG.out
                                    replace HO_5 : Aside0 (Kd.R (Kd.int .u8) 5 wr.drew w.heap.size (fun _ => True) u5 x5_3) := ⟨Kd.R_drew HO_5.out⟩
                                    replace HB : Aside0 (Below w.heap.size w wr.drew) := ⟨below_drew HB.out⟩
                                    go_wp2
                                    refine start_ (n := 14) (S := (fun W : World => W.cell? ⟨g, 0, none⟩ = some (.string a0))) (ds := [11, 12]) #[false, false, false, false, false, false, false, false, false, false, false, false, false, false] (by kernel_rfl) rfl rfl hcg (fun hHeld => ?_)
                                    generalize wr.drew = wd_ at HO_5 HB hHeld ⊢
                                    refine pure_ (i := 0) (N := some 37) (v := ?_) (a' := ?_) #[true, false, false, false, false, false, false, false, false, false, false, false, false, false] rfl rfl (by kernel_rfl) (fun _ _ _ h => h) (Or.inl ⟨by rfl, ?_⟩) ?_ ?_
                                    rotate_left
                                    · intro w'
                                      go_simp
                                      try with_reducible rfl
                                    rotate_left
                                    · simp only [Act.put, List.setIfInBounds_toArray, List.set_cons_zero, List.set_cons_succ, i64_w, i32_w]
                                      rfl
                                    refine pure_ (i := 1) (N := some 38) (v := ?_) (a' := ?_) #[true, true, false, false, false, false, false, false, false, false, false, false, false, false] rfl rfl (by kernel_rfl) (fun _ _ _ h => h) (Or.inl ⟨by rfl, ?_⟩) ?_ ?_
                                    rotate_left
                                    · intro w'
                                      go_simp
                                      try with_reducible rfl
                                    rotate_left
                                    · simp only [Act.put, List.setIfInBounds_toArray, List.set_cons_zero, List.set_cons_succ, i64_w, i32_w]
                                      rfl
                                    refine pure_ (i := 2) (N := some 39) (v := ?_) (a' := ?_) #[true, true, true, false, false, false, false, false, false, false, false, false, false, false] rfl rfl (by kernel_rfl) (fun _ _ _ h => h) (Or.inl ⟨by rfl, ?_⟩) ?_ ?_
                                    rotate_left
                                    · intro w'
                                      go_simp
                                      try with_reducible rfl
                                    rotate_left
                                    · simp only [Act.put, List.setIfInBounds_toArray, List.set_cons_zero, List.set_cons_succ, i64_w, i32_w]
                                      rfl
                                    refine pure_ (i := 3) (N := some 40) (v := ?_) (a' := ?_) #[true, true, true, true, false, false, false, false, false, false, false, false, false, false] rfl rfl (by kernel_rfl) (fun _ _ _ h => h) (Or.inl ⟨by rfl, ?_⟩) ?_ ?_
                                    rotate_left
                                    · intro w'
                                      go_simp
                                      try with_reducible rfl
                                    rotate_left
                                    · simp only [Act.put, List.setIfInBounds_toArray, List.set_cons_zero, List.set_cons_succ, i64_w, i32_w]
                                      rfl
                                    refine take_ (i := 4) (N := some 41) (v := ?_) (a' := ?_) #[true, true, true, true, true, false, false, false, false, false, false, false, false, false] rfl rfl (by kernel_rfl) (fun _ _ _ h => h) (Or.inl ⟨by rfl, ?_⟩) hHeld ?_ ?_
                                    rotate_left
                                    · intro w' hSw
                                      (try simp only [] at hSw)
                                      (repeat obtain ⟨hs_, hSw⟩ := hSw)
                                      go_simp
                                      try with_reducible rfl
                                    rotate_left
                                    · simp only [Act.put, List.setIfInBounds_toArray, List.set_cons_zero, List.set_cons_succ, i64_w, i32_w]
                                      rfl
                                    refine pure_ (i := 5) (N := some 42) (v := ?_) (a' := ?_) #[true, true, true, true, true, true, false, false, false, false, false, false, false, false] rfl rfl (by kernel_rfl) (fun _ _ _ h => h) (Or.inl ⟨by rfl, ?_⟩) ?_ ?_
                                    rotate_left
                                    · intro w'
                                      go_simp
                                      try with_reducible rfl
                                    rotate_left
                                    · simp only [Act.put, List.setIfInBounds_toArray, List.set_cons_zero, List.set_cons_succ, i64_w, i32_w]
                                      rfl
                                    refine pure_ (i := 6) (N := some 43) (v := ?_) (a' := ?_) #[true, true, true, true, true, true, true, false, false, false, false, false, false, false] rfl rfl (by kernel_rfl) (fun _ _ _ h => h) (Or.inl ⟨by rfl, ?_⟩) ?_ ?_
                                    rotate_left
                                    · intro w'
                                      go_simp
                                      try with_reducible rfl
                                    rotate_left
                                    · simp only [Act.put, List.setIfInBounds_toArray, List.set_cons_zero, List.set_cons_succ, i64_w, i32_w]
                                      rfl
                                    refine pure_ (i := 7) (N := some 44) (v := ?_) (a' := ?_) #[true, true, true, true, true, true, true, true, false, false, false, false, false, false] rfl rfl (by kernel_rfl) (fun _ _ _ h => h) (Or.inl ⟨by rfl, ?_⟩) ?_ ?_
                                    rotate_left
                                    · intro w'
                                      go_simp
                                      try with_reducible rfl
                                    rotate_left
                                    · simp only [Act.put, List.setIfInBounds_toArray, List.set_cons_zero, List.set_cons_succ, i64_w, i32_w]
                                      rfl
                                    refine pure_ (i := 8) (N := some 45) (v := ?_) (a' := ?_) #[true, true, true, true, true, true, true, true, true, false, false, false, false, false] rfl rfl (by kernel_rfl) (fun _ _ _ h => h) (Or.inl ⟨by rfl, ?_⟩) ?_ ?_
                                    rotate_left
                                    · intro w'
                                      go_simp
                                      try with_reducible rfl
                                    rotate_left
                                    · simp only [Act.put, List.setIfInBounds_toArray, List.set_cons_zero, List.set_cons_succ, i64_w, i32_w]
                                      rfl
                                    refine pure_ (i := 9) (N := some 46) (v := ?_) (a' := ?_) #[true, true, true, true, true, true, true, true, true, true, false, false, false, false] rfl rfl (by kernel_rfl) (fun _ _ _ h => h) (Or.inl ⟨by rfl, ?_⟩) ?_ ?_
                                    rotate_left
                                    · intro w'
                                      go_simp
                                      try with_reducible rfl
                                    rotate_left
                                    · simp only [Act.put, List.setIfInBounds_toArray, List.set_cons_zero, List.set_cons_succ, i64_w, i32_w]
                                      rfl
                                    refine pure_ (i := 10) (N := some 47) (v := ?_) (a' := ?_) #[true, true, true, true, true, true, true, true, true, true, true, false, false, false] rfl rfl (by kernel_rfl) (fun _ _ _ h => h) (Or.inl ⟨by rfl, ?_⟩) ?_ ?_
                                    rotate_left
                                    · intro w'
                                      go_simp
                                      try with_reducible rfl
                                    rotate_left
                                    · simp only [Act.put, List.setIfInBounds_toArray, List.set_cons_zero, List.set_cons_succ, i64_w, i32_w]
                                      rfl
                                    refine last_ (i := 11) (N := some 48) #[true, true, true, true, true, true, true, true, true, true, true, true, false, false] rfl rfl (by kernel_rfl) (by decide) (fun K hK => ?_)
                                    refine value_ (w1 := ?_) (v := ?_) (by rfl) rfl ?_ ?_
                                    rotate_left 2
                                    · go_simp
                                      constructor
                                      · rfl
                                      · rfl
                                    refine hK.out _ _ ?_
                                    clear hK K
                                    refine norm_ (a' := ?_) ?_ ?_
                                    rotate_left
                                    · show Act.put _ (some 48) _ = _
                                      simp only [Act.put, List.setIfInBounds_toArray, List.set_cons_zero, List.set_cons_succ, i64_w, i32_w]
                                      rfl
                                    refine last_ (i := 12) (N := some 49) #[true, true, true, true, true, true, true, true, true, true, true, true, true, false] rfl rfl (by kernel_rfl) (by decide) (fun K hK => ?_)
                                    refine Kd.R_append_step (Kd.int .u8) (w0 := w) w.heap.size (by rfl) (.tmp 37) (.tmp 48) 66 5 (.int .u8 0) 1 rfl Try.underlying66 info5 rfl (by decide) (by omega) u5 x5_3 (bt a0 (Go.bits .and .u32 (ji13) 63)) [.int .u8 (bt a0 (Go.bits .and .u32 (ji13) 63))] (fun _ => True) (fun _ => False) rfl rfl rfl (fun _ hk => hk.elim) (fun _ _ => trivial) HO_5.out HB.out (below_size HB.out) (by have := LMc17.out; omega) ?_
                                    intro v9_ w9_ ho hb hg hat
                                    rw [← Ny113.out] at ho
                                    have HO115 := Aside0.mk ho
                                    have HB' := Aside0.mk hb
                                    clear HO_5 HB ho hb hg hat
                                    have HB := HB'
                                    clear HB'
                                    refine hK.out _ _ ?_
                                    clear hK K
                                    refine norm_ (a' := ?_) ?_ ?_
                                    rotate_left
                                    · show Act.put _ (some 49) _ = _
                                      simp only [Act.put, List.setIfInBounds_toArray, List.set_cons_zero, List.set_cons_succ, i64_w, i32_w]
                                      rfl
                                    refine pure_ (i := 13) (N := some 5) (v := ?_) (a' := ?_) #[true, true, true, true, true, true, true, true, true, true, true, true, true, true] rfl rfl (by kernel_rfl) (fun _ _ _ h => h) (Or.inl ⟨by rfl, ?_⟩) ?_ ?_
                                    rotate_left
                                    · intro w'
                                      go_simp
                                      try with_reducible rfl
                                    rotate_left
                                    · simp only [Act.put, List.setIfInBounds_toArray, List.set_cons_zero, List.set_cons_succ, i64_w, i32_w]
                                      rfl
                                    refine done_ (by kernel_rfl) ?_
                                    clear hcg hHeld
                                    go_wp2
                                    go_roundg k3
                                    case measure => have := HK1.out; have := HK2.out; have := HK3.out; omega
                                    case rel => exact ⟨(y113), (ji11), (by first | rfl | (simp; done) | (simp only [← hji11] <;> (first | rfl | simp)) | (simp [*]; done)), H', ⟨by have := HK1.out; have := HK2.out; have := HK3.out; omega⟩, ⟨by (with_reducible repeat (first | apply Kd.R_alloc | apply Kd.R_drewN | apply Kd.R_drew)); exact HO115.out⟩, ⟨by repeat (first | (with_reducible first | exact HB.out | apply below_alloc | apply pw_below_drewN | apply below_drew1) | exact HB.out)⟩⟩
                                  · rw [if_neg c17] at H
                                    exact absurd H (by simp)
                                · rw [if_neg c15] at H
                                  exact absurd H (by simp)
                              · rw [if_neg c14] at H
                                exact absurd H (by simp)
                            · rw [if_neg c12] at H
                              exact absurd H (by simp)
                          · rw [if_neg c10] at H
                            have c10b0 : decide (6 ≤ x7_3) = false := decide_eq_false c10
                            clear c10
                            have H' := Aside0.mk H
                            clear H
                            go_wp2
                            go_roundg k3
                            case measure => have := HK1.out; have := HK2.out; have := HK3.out; omega
                            case rel => exact ⟨(x5_3), ((Go.bits .or .u32 ((x6_2 * 256) % 4294967296) ((bt (rdOf ByteArray.empty l1 x13_1) x19_2) % 4294967296))), (x7_3), (wrap64 (x19_2 + 1)), (by first | rfl | (simp; done) | (simp [*]; done)), (by first | rfl | (simp; done) | (simp [*]; done)), (by first | rfl | (simp; done) | (simp [*]; done)), H', ⟨by have := HK1.out; have := HK2.out; have := HK3.out; omega⟩, ⟨by (with_reducible repeat (first | apply Kd.R_alloc | apply Kd.R_drewN | apply Kd.R_drew)); exact HO_5.out⟩, ⟨by repeat (first | (with_reducible first | exact HB.out | apply below_alloc | apply pw_below_drewN | apply below_drew1) | exact HB.out)⟩⟩
                    · rw [if_neg c8] at H
                      exact absurd H (by simp)
                  · rw [if_neg c7] at H
                    exact absurd H (by simp)
                · rw [if_neg c6] at H
                  have c6b0 : decide (x19_2 < ((rdOf ByteArray.empty l1 x13_1).size : Int)) = false := decide_eq_false c6
                  clear c6
                  have H' := Aside0.mk H
                  clear H
                  go_wp2
                  go_roundg k2
                  case measure => have := HK1.out; have := HK2.out; omega
                  case rel => exact ⟨(x5_2), (x6_2), (x7_2), (wrap64 (x13_1 + 1)), (by first | rfl | (simp; done) | (simp [*]; done)), (by first | rfl | (simp; done) | (simp [*]; done)), (by first | rfl | (simp; done) | (simp [*]; done)), H', ⟨by have := HK1.out; have := HK2.out; omega⟩, ⟨by (with_reducible repeat (first | apply Kd.R_alloc | apply Kd.R_drewN | apply Kd.R_drew)); exact HO_5.out⟩, ⟨by repeat (first | (with_reducible first | exact HB.out | apply below_alloc | apply pw_below_drewN | apply below_drew1) | exact HB.out)⟩⟩
          · rw [if_neg c5] at H
            exact absurd H (by simp)
        · rw [if_neg c4] at H
          exact absurd H (by simp)
      · rw [if_neg c3] at H
        have c3b0 : decide (x13_1 < (l1.length : Int)) = false := decide_eq_false c3
        clear c3
        by_cases c19 : x7_1 > 0
        · rw [if_pos c19] at H
          have c19b0 : decide (0 < x7_1) = true := decide_eq_true c19
          clear c19
          obtain ⟨ji20, hji20⟩ : ∃ j_ : Int, (wrap64 (6 - x7_1)) = j_ := ⟨_, rfl⟩
          replace H : (if 0 ≤ (ji20) then (if 0 ≤ (Go.bits .and .u32 (shl .u32 x6_1 (ji20)) 63) then (if (Go.bits .and .u32 (shl .u32 x6_1 (ji20)) 63) < (a0.size : Int) then (if x5_1.length < 140737488355328 then (some (strOfNums (x5_1 ++ [bt a0 (Go.bits .and .u32 (shl .u32 x6_1 (ji20)) 63)]))) else (none)) else (none)) else (none)) else (none)) = some r := by first | (rw [hji20] at H; exact H) | (simp only [hji20] at H ⊢; exact H)
          have hji20w : (IntKind.i64.wrap (6 - x7_1)) = ji20 := (i64_w _).trans hji20
          by_cases c21 : 0 ≤ (ji20)
          · rw [if_pos c21] at H
            have c21b0 := eq_true c21
            have c21b1 : decide (0 ≤ (ji20)) = true := decide_eq_true c21
            clear c21
            obtain ⟨ji22, hji22⟩ : ∃ j_ : Int, (shl .u32 x6_1 (ji20)) = j_ := ⟨_, rfl⟩
            replace H : (if 0 ≤ (Go.bits .and .u32 (ji22) 63) then (if (Go.bits .and .u32 (ji22) 63) < (a0.size : Int) then (if x5_1.length < 140737488355328 then (some (strOfNums (x5_1 ++ [bt a0 (Go.bits .and .u32 (ji22) 63)]))) else (none)) else (none)) else (none)) = some r := by first | (rw [hji22] at H; exact H) | (simp only [hji22] at H ⊢; exact H)
            have hji22_ : (IntKind.u32.wrap (x6_1 * 2 ^ min (ji20).toNat 32)) = ji22 := hji22
            have hji22z : (ji20) ≤ 32 → (IntKind.u32.wrap (x6_1 * 2 ^ (ji20).toNat)) = ji22 := shl_small hji22
            by_cases c23 : 0 ≤ (Go.bits .and .u32 (ji22) 63)
            · rw [if_pos c23] at H
              have c23b0 : decide (0 ≤ (Go.bits .and .u32 (ji22) 63)) = true := decide_eq_true c23
              clear c23
              by_cases c24 : (Go.bits .and .u32 (ji22) 63) < (a0.size : Int)
              · rw [if_pos c24] at H
                have c24b0 : decide ((Go.bits .and .u32 (ji22) 63) < (a0.size : Int)) = true := decide_eq_true c24
                clear c24
                by_cases c26 : x5_1.length < 140737488355328
                · rw [if_pos c26] at H
                  have LMc26 := Aside0.mk c26
                  clear c26
                  obtain ⟨y109, hy109⟩ : ∃ y_ : List Int, y_ = (x5_1 ++ [bt a0 (Go.bits .and .u32 (ji22) 63)]) := ⟨_, rfl⟩
                  replace H : (some (strOfNums y109)) = some r := by first | (rw [hy109]; with_reducible exact H) | (have H2_ := (Option.bind_some _ _).symm.trans H; rw [hy109]; with_reducible exact H2_) | (have H2_ := (Option.bind_some _ _).symm.trans H; with_reducible exact H2_) | with_reducible exact H | (rw [hy109]; exact H) | exact H
                  have Ny109 := Aside0.mk hy109
                  clear hy109
                  obtain rfl := Option.some.inj H
                  have p25 : 0 ≤ ((Go.bits .and .u32 (ji22) 63) : Int) := of_decide_eq_true (by first | (with_reducible assumption) | assumption)
                  have q25 : (Go.bits .and .u32 (ji22) 63) < (a0.size : Int) := of_decide_eq_true (by first | (with_reducible assumption) | assumption)
                  have hx25 := bt_at a0 (Go.bits .and .u32 (ji22) 63)
                  replace p25 := eq_true p25
                  replace q25 := eq_true q25
                  have hcg := (HB.out.cell (World.block_lt_of_cell? w _ HCG.out)).trans HCG.out
                  replace HO_5 : Aside0 (Kd.R (Kd.int .u8) 5 wr.drew w.heap.size (fun _ => True) u5 x5_1) := ⟨Kd.R_drew HO_5.out⟩
                  replace HB : Aside0 (Below w.heap.size w wr.drew) := ⟨below_drew HB.out⟩
                  go_wp2
                  refine start_ (n := 14) (S := (fun W : World => W.cell? ⟨g, 0, none⟩ = some (.string a0))) (ds := [11, 12]) #[false, false, false, false, false, false, false, false, false, false, false, false, false, false] (by kernel_rfl) rfl rfl hcg (fun hHeld => ?_)
                  generalize wr.drew = wd_ at HO_5 HB hHeld ⊢
                  refine pure_ (i := 0) (N := some 54) (v := ?_) (a' := ?_) #[true, false, false, false, false, false, false, false, false, false, false, false, false, false] rfl rfl (by kernel_rfl) (fun _ _ _ h => h) (Or.inl ⟨by rfl, ?_⟩) ?_ ?_
                  rotate_left
                  · intro w'
                    go_simp
                    try with_reducible rfl
                  rotate_left
                  · simp only [Act.put, List.setIfInBounds_toArray, List.set_cons_zero, List.set_cons_succ, i64_w, i32_w]
                    rfl
                  refine pure_ (i := 1) (N := some 55) (v := ?_) (a' := ?_) #[true, true, false, false, false, false, false, false, false, false, false, false, false, false] rfl rfl (by kernel_rfl) (fun _ _ _ h => h) (Or.inl ⟨by rfl, ?_⟩) ?_ ?_
                  rotate_left
                  · intro w'
                    go_simp
                    try with_reducible rfl
                  rotate_left
                  · simp only [Act.put, List.setIfInBounds_toArray, List.set_cons_zero, List.set_cons_succ, i64_w, i32_w]
                    rfl
                  refine pure_ (i := 2) (N := some 56) (v := ?_) (a' := ?_) #[true, true, true, false, false, false, false, false, false, false, false, false, false, false] rfl rfl (by kernel_rfl) (fun _ _ _ h => h) (Or.inl ⟨by rfl, ?_⟩) ?_ ?_
                  rotate_left
                  · intro w'
                    go_simp
                    try with_reducible rfl
                  rotate_left
                  · simp only [Act.put, List.setIfInBounds_toArray, List.set_cons_zero, List.set_cons_succ, i64_w, i32_w]
                    rfl
                  refine pure_ (i := 3) (N := some 57) (v := ?_) (a' := ?_) #[true, true, true, true, false, false, false, false, false, false, false, false, false, false] rfl rfl (by kernel_rfl) (fun _ _ _ h => h) (Or.inl ⟨by rfl, ?_⟩) ?_ ?_
                  rotate_left
                  · intro w'
                    go_simp
                    try with_reducible rfl
                  rotate_left
                  · simp only [Act.put, List.setIfInBounds_toArray, List.set_cons_zero, List.set_cons_succ, i64_w, i32_w]
                    rfl
                  refine take_ (i := 4) (N := some 58) (v := ?_) (a' := ?_) #[true, true, true, true, true, false, false, false, false, false, false, false, false, false] rfl rfl (by kernel_rfl) (fun _ _ _ h => h) (Or.inl ⟨by rfl, ?_⟩) hHeld ?_ ?_
                  rotate_left
                  · intro w' hSw
                    (try simp only [] at hSw)
                    (repeat obtain ⟨hs_, hSw⟩ := hSw)
                    go_simp
                    try with_reducible rfl
                  rotate_left
                  · simp only [Act.put, List.setIfInBounds_toArray, List.set_cons_zero, List.set_cons_succ, i64_w, i32_w]
                    rfl
                  refine pure_ (i := 5) (N := some 59) (v := ?_) (a' := ?_) #[true, true, true, true, true, true, false, false, false, false, false, false, false, false] rfl rfl (by kernel_rfl) (fun _ _ _ h => h) (Or.inl ⟨by rfl, ?_⟩) ?_ ?_
                  rotate_left
                  · intro w'
                    go_simp
                    try with_reducible rfl
                  rotate_left
                  · simp only [Act.put, List.setIfInBounds_toArray, List.set_cons_zero, List.set_cons_succ, i64_w, i32_w]
                    rfl
                  refine pure_ (i := 6) (N := some 60) (v := ?_) (a' := ?_) #[true, true, true, true, true, true, true, false, false, false, false, false, false, false] rfl rfl (by kernel_rfl) (fun _ _ _ h => h) (Or.inl ⟨by rfl, ?_⟩) ?_ ?_
                  rotate_left
                  · intro w'
                    go_simp
                    try with_reducible rfl
                  rotate_left
                  · simp only [Act.put, List.setIfInBounds_toArray, List.set_cons_zero, List.set_cons_succ, i64_w, i32_w]
                    rfl
                  refine pure_ (i := 7) (N := some 61) (v := ?_) (a' := ?_) #[true, true, true, true, true, true, true, true, false, false, false, false, false, false] rfl rfl (by kernel_rfl) (fun _ _ _ h => h) (Or.inl ⟨by rfl, ?_⟩) ?_ ?_
                  rotate_left
                  · intro w'
                    go_simp
                    try with_reducible rfl
                  rotate_left
                  · simp only [Act.put, List.setIfInBounds_toArray, List.set_cons_zero, List.set_cons_succ, i64_w, i32_w]
                    rfl
                  refine pure_ (i := 8) (N := some 62) (v := ?_) (a' := ?_) #[true, true, true, true, true, true, true, true, true, false, false, false, false, false] rfl rfl (by kernel_rfl) (fun _ _ _ h => h) (Or.inl ⟨by rfl, ?_⟩) ?_ ?_
                  rotate_left
                  · intro w'
                    go_simp
                    try with_reducible rfl
                  rotate_left
                  · simp only [Act.put, List.setIfInBounds_toArray, List.set_cons_zero, List.set_cons_succ, i64_w, i32_w]
                    rfl
                  refine pure_ (i := 9) (N := some 63) (v := ?_) (a' := ?_) #[true, true, true, true, true, true, true, true, true, true, false, false, false, false] rfl rfl (by kernel_rfl) (fun _ _ _ h => h) (Or.inl ⟨by rfl, ?_⟩) ?_ ?_
                  rotate_left
                  · intro w'
                    go_simp
                    try with_reducible rfl
                  rotate_left
                  · simp only [Act.put, List.setIfInBounds_toArray, List.set_cons_zero, List.set_cons_succ, i64_w, i32_w]
                    rfl
                  refine pure_ (i := 10) (N := some 64) (v := ?_) (a' := ?_) #[true, true, true, true, true, true, true, true, true, true, true, false, false, false] rfl rfl (by kernel_rfl) (fun _ _ _ h => h) (Or.inl ⟨by rfl, ?_⟩) ?_ ?_
                  rotate_left
                  · intro w'
                    go_simp
                    try with_reducible rfl
                  rotate_left
                  · simp only [Act.put, List.setIfInBounds_toArray, List.set_cons_zero, List.set_cons_succ, i64_w, i32_w]
                    rfl
                  refine last_ (i := 11) (N := some 65) #[true, true, true, true, true, true, true, true, true, true, true, true, false, false] rfl rfl (by kernel_rfl) (by decide) (fun K hK => ?_)
                  refine value_ (w1 := ?_) (v := ?_) (by rfl) rfl ?_ ?_
                  rotate_left 2
                  · go_simp
                    constructor
                    · rfl
                    · rfl
                  refine hK.out _ _ ?_
                  clear hK K
                  refine norm_ (a' := ?_) ?_ ?_
                  rotate_left
                  · show Act.put _ (some 65) _ = _
                    simp only [Act.put, List.setIfInBounds_toArray, List.set_cons_zero, List.set_cons_succ, i64_w, i32_w]
                    rfl
                  refine last_ (i := 12) (N := some 66) #[true, true, true, true, true, true, true, true, true, true, true, true, true, false] rfl rfl (by kernel_rfl) (by decide) (fun K hK => ?_)
                  refine Kd.R_append_step (Kd.int .u8) (w0 := w) w.heap.size (by rfl) (.tmp 54) (.tmp 65) 66 5 (.int .u8 0) 1 rfl Try.underlying66 info5 rfl (by decide) (by omega) u5 x5_1 (bt a0 (Go.bits .and .u32 (ji22) 63)) [.int .u8 (bt a0 (Go.bits .and .u32 (ji22) 63))] (fun _ => True) (fun _ => False) rfl rfl rfl (fun _ hk => hk.elim) (fun _ _ => trivial) HO_5.out HB.out (below_size HB.out) (by have := LMc26.out; omega) ?_
                  intro v9_ w9_ ho hb hg hat
                  rw [← Ny109.out] at ho
                  have HO115 := Aside0.mk ho
                  have HB' := Aside0.mk hb
                  clear HO_5 HB ho hb hg hat
                  have HB := HB'
                  clear HB'
                  refine hK.out _ _ ?_
                  clear hK K
                  refine norm_ (a' := ?_) ?_ ?_
                  rotate_left
                  · show Act.put _ (some 66) _ = _
                    simp only [Act.put, List.setIfInBounds_toArray, List.set_cons_zero, List.set_cons_succ, i64_w, i32_w]
                    rfl
                  refine pure_ (i := 13) (N := some 5) (v := ?_) (a' := ?_) #[true, true, true, true, true, true, true, true, true, true, true, true, true, true] rfl rfl (by kernel_rfl) (fun _ _ _ h => h) (Or.inl ⟨by rfl, ?_⟩) ?_ ?_
                  rotate_left
                  · intro w'
                    go_simp
                    try with_reducible rfl
                  rotate_left
                  · simp only [Act.put, List.setIfInBounds_toArray, List.set_cons_zero, List.set_cons_succ, i64_w, i32_w]
                    rfl
                  refine done_ (by kernel_rfl) ?_
                  clear hcg hHeld
                  have hcv29 := own_string (P := Try.prog) Try.underlying66 Try.underlying5 Try.underlying9 (Kd.own_of_R HO115.out)
                  go_wp2
                  go_ret
                  exact ⟨by first | rfl | (simp [errW_none, errW_some] <;> rfl) | (simp only [← hji20, ← hji22]; first | rfl | (simp [errW_none, errW_some] <;> rfl)) | (simp [*, errW_none, errW_some] <;> rfl), by repeat (first | (with_reducible first | exact HB.out | apply below_alloc | apply pw_below_drewN | apply below_drew1) | exact HB.out)⟩
                · rw [if_neg c26] at H
                  exact absurd H (by simp)
              · rw [if_neg c24] at H
                exact absurd H (by simp)
            · rw [if_neg c23] at H
              exact absurd H (by simp)
          · rw [if_neg c21] at H
            exact absurd H (by simp)
        · rw [if_neg c19] at H
          have c19b0 : decide (0 < x7_1) = false := decide_eq_false c19
          clear c19
          obtain rfl := Option.some.inj H
          have hcv29 := own_string (P := Try.prog) Try.underlying66 Try.underlying5 Try.underlying9 (Kd.own_of_R HO_5.out)
          go_wp2
          go_ret
          exact ⟨by first | rfl | (simp [errW_none, errW_some] <;> rfl) | (simp [*, errW_none, errW_some] <;> rfl), by repeat (first | (with_reducible first | exact HB.out | apply below_alloc | apply pw_below_drewN | apply below_drew1) | exact HB.out)⟩
set_option maxRecDepth 100000 in
theorem sextet_Coder_Encode.nil (v : Value) (w : World) : Calls Try.prog 31 #[.pointer none, v] w fun e w' => e = .returned (.string ⟨#[]⟩) ∧ Drawn0 w w' := by
  go_enter Try.func31, Try.ntmps31
  go_wp2
  go_ret
  exact ⟨rfl, Drawn0.refl _⟩
theorem sextet_Coder_Encode.calls1 (k : Nat) (g : Nat) (a0 : ByteArray) (b : Nat) (x : ByteArray) (r : ByteArray) (w : World) (hcg : w.cell? ⟨g, 0, none⟩ = some (.string a0)) (hr1 : Kd.C Kd.string w (some ⟨b, 0, none⟩) 1 [x]) (h : sextet_Coder_Encode.f k a0 [x] = some r) :
    Calls Try.prog 31 #[.pointer (some ⟨g, 0, none⟩), .slice (some ⟨b, 0, none⟩) 1 1] w fun e w' => e = .returned (.string r) ∧ Below w.heap.size w w' :=
  sextet_Coder_Encode.calls k g a0 (some ⟨b, 0, none⟩) 1 [x] r w hcg hr1 (Nat.le_refl _) h

end Go.Proofs.Ytakhikhdbigdaaa.Pall
