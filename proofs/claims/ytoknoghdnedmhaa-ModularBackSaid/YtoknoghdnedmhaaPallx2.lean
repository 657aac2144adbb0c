-- PRINTED by print.py (a twelfth state) out of the translation. Not trusted: Lean checks it.
import Derived.Test.YtoknoghdnedmhaaPallx0
namespace Go.Proofs.Ytoknoghdnedmhaa.Pall
open Go.RowKit Go.Proofs.YtoknoghdnedmhaaW.PrintWords Go.Proofs.YtoknoghdnedmhaaW.PrintLast Go.Proofs.YtoknoghdnedmhaaW.PrintMore
attribute [local go_sem] max2_int min2_int max_two min_two max_three min_three max_four min_four   -- for this text's walks alone
set_option linter.unusedVariables false
set_option linter.unusedSimpArgs false

/-! ### modular_Is: function 26 -/
def modular_Is.f (a0 : ByteArray) : Option (Bool) := if (a0.size : Int) ≥ 2 then (if 0 ≤ 2 then (if 2 ≤ (a0.size : Int) then (some ((a0.extract 0 2).toList == ([36, 50] : List UInt8))) else (none)) else (none)) else (some false)
set_option maxHeartbeats 8000000 in
set_option maxRecDepth 100000 in
theorem modular_Is.calls (a0 : ByteArray) (r : Bool) (w : World) (h : modular_Is.f a0 = some r) :
  Calls Try.prog 26 #[.string a0] w fun e w' => e = .returned (.bool r) ∧ Drawn0 w w' := by
 have H : (if (a0.size : Int) ≥ 2 then (if 0 ≤ 2 then (if 2 ≤ (a0.size : Int) then (some ((a0.extract 0 2).toList == ([36, 50] : List UInt8))) else (none)) else (none)) else (some false)) = some r := h
 clear h
 by_cases c2 : (a0.size : Int) ≥ 2
 ·rw [if_pos c2] at H
  have c2b0 : decide (2 ≤ (a0.size : Int)) = true := decide_eq_true c2
  have c2b1 : decide (2 ≤ a0.size) = true := decide_eq_true (by omega)
  clear c2
  by_cases c3 : 0 ≤ 2
  ·rw [if_pos c3] at H
   have c3b0 := eq_true c3
   have c3b1 : decide (0 ≤ 2) = true := decide_eq_true c3
   clear c3
   by_cases c4 : 2 ≤ (a0.size : Int)
   ·rw [if_pos c4] at H
    have c4b0 := eq_true c4
    have c4b1 : decide (2 ≤ (a0.size : Int)) = true := decide_eq_true c4
    clear c4
    obtain rfl := Option.some.inj H
    go_enter Try.func26, Try.ntmps26
    go_wp2
    go_ret
    exact ⟨by first | rfl | (simp; done) | (simp [*]; done) | (simp [show ∀ l_ : List UInt8, (l_ != []) = !l_.isEmpty from fun l_ => by cases l_ <;> rfl]; done), by repeat (first | exact Drawn0.refl _ | apply Drawn0.step)⟩
   ·rw [if_neg c4] at H
    exact absurd H (by simp)
  ·rw [if_neg c3] at H
   exact absurd H (by simp)
 ·rw [if_neg c2] at H
  have c2b0 : decide (2 ≤ (a0.size : Int)) = false := decide_eq_false c2
  have c2b1 : decide (2 ≤ a0.size) = false := decide_eq_false (by omega)
  clear c2
  obtain rfl := Option.some.inj H
  go_enter Try.func26, Try.ntmps26
  go_wp2
  go_ret
  exact ⟨by first | rfl | (simp; done) | (simp [*]; done) | (simp [show ∀ l_ : List UInt8, (l_ != []) = !l_.isEmpty from fun l_ => by cases l_ <;> rfl]; done), by repeat (first | exact Drawn0.refl _ | apply Drawn0.step)⟩

/-! ### modular_Minor: function 45 -/
def modular_Minor.f (a0 : Int) : Option (Bool) := if a0 = 97 then (some true) else (some (a0 == 98))
set_option maxHeartbeats 8000000 in
set_option maxRecDepth 100000 in
theorem modular_Minor.calls (a0 : Int) (r : Bool) (w : World) (h : modular_Minor.f a0 = some r) :
  Calls Try.prog 45 #[.int .u8 a0] w fun e w' => e = .returned (.bool r) ∧ Drawn0 w w' := by
 have H : (if a0 = 97 then (some true) else (some (a0 == 98))) = some r := h
 clear h
 by_cases c2 : a0 = 97
 ·rw [if_pos c2] at H
  have c2b0 : (a0 == 97) = true := beq_iff_eq.mpr c2
  have c2b1 : (a0 != 97) = false := bne_eq_false_iff_eq.mpr c2
  clear c2
  obtain rfl := Option.some.inj H
  go_enter Try.func45, Try.ntmps45
  go_wp2
  go_ret
  exact ⟨by first | rfl | (simp; done) | (simp [*]; done) | (simp [show ∀ l_ : List UInt8, (l_ != []) = !l_.isEmpty from fun l_ => by cases l_ <;> rfl]; done), by repeat (first | exact Drawn0.refl _ | apply Drawn0.step)⟩
 ·rw [if_neg c2] at H
  have c2b0 : (a0 == 97) = false := beq_eq_false_iff_ne.mpr c2
  have c2b1 : (a0 != 97) = true := bne_iff_ne.mpr c2
  obtain rfl := Option.some.inj H
  go_enter Try.func45, Try.ntmps45
  go_wp2
  go_ret
  exact ⟨by first | rfl | (simp; done) | (simp [*]; done) | (simp [show ∀ l_ : List UInt8, (l_ != []) = !l_.isEmpty from fun l_ => by cases l_ <;> rfl]; done), by repeat (first | exact Drawn0.refl _ | apply Drawn0.step)⟩

/-! ### dec_ReadTwo: function 63 -/
def dec_ReadTwo.l0 : Nat → ByteArray → Int → Option (Int × Int)
 | 0, _, _ => none
 | k + 1, x0, x8 => if x8 < 2 then (if 0 ≤ x8 then (if x8 < (x0.size : Int) then (if (bt x0 x8) < 48 then (some (0, 7)) else (if (bt x0 x8) > 57 then (some (0, 7)) else (dec_ReadTwo.l0 k x0 (wrap64 (x8 + 1))))) else (none)) else (none)) else (if 0 < (x0.size : Int) then (if 1 < (x0.size : Int) then (some ((10 * (((bt x0 0) - 48) % 256)) + (((bt x0 1) - 48) % 256), 0)) else (none)) else (none))
def dec_ReadTwo.f (k : Nat) (a0 : ByteArray) : Option (Int × Int) := if (a0.size : Int) = 2 then (dec_ReadTwo.l0 k a0 0) else (some (0, 7))
theorem dec_ReadTwo.mono_l : ∀ k, (∀ y0 y1, LeO (dec_ReadTwo.l0 k y0 y1) (dec_ReadTwo.l0 (k + 1) y0 y1))
 | 0 => fun _ _ r h => by simp [dec_ReadTwo.l0] at h
 | k + 1 => by
  have ih0 := dec_ReadTwo.mono_l k
  ·intro y0 y1
   unfold dec_ReadTwo.l0
   repeat' first
   | (with_reducible exact ih0 _ _)
   | (with_reducible exact LeO.refl _)
   | (with_reducible exact LeO.none _)
   | (with_reducible refine LeO.ite ?_ ?_)
   | (with_reducible refine LeO.bind ?_ (fun _ => ?_))
   | exact ih0 _ _
   | exact LeO.none _
   | refine LeO.ite ?_ ?_
   | refine LeO.bind ?_ (fun _ => ?_)
theorem dec_ReadTwo.mono : ∀ a0 k, LeO (dec_ReadTwo.f k a0) (dec_ReadTwo.f (k + 1) a0) := by
 intro a0 k
 have ih0 := dec_ReadTwo.mono_l k
 unfold dec_ReadTwo.f
 repeat' first
   | (with_reducible exact ih0 _ _)
   | (with_reducible exact LeO.refl _)
   | (with_reducible exact LeO.none _)
   | (with_reducible refine LeO.ite ?_ ?_)
   | (with_reducible refine LeO.bind ?_ (fun _ => ?_))
   | exact ih0 _ _
   | exact LeO.none _
   | refine LeO.ite ?_ ?_
   | refine LeO.bind ?_ (fun _ => ?_)
set_option maxHeartbeats 8000000 in
set_option maxRecDepth 100000 in
theorem dec_ReadTwo.calls (k : Nat) (a0 : ByteArray) (r1 : Int) (r2 : Int) (w : World) (h : dec_ReadTwo.f k a0 = some (r1, r2)) :
  Calls Try.prog 63 #[.string a0] w fun e w' => e = .returned (.tuple #[.int .i64 r1, .int .i64 r2]) ∧ Drawn0 w w' := by
 have H : (if (a0.size : Int) = 2 then (dec_ReadTwo.l0 k a0 0) else (some (0, 7))) = some (r1, r2) := h
 clear h
 by_cases c2 : (a0.size : Int) = 2
 ·rw [if_pos c2] at H
  have c2b0 : ((a0.size : Int) == 2) = true := beq_iff_eq.mpr c2
  have c2b1 : ((a0.size : Int) != 2) = false := bne_eq_false_iff_eq.mpr c2
  clear c2
  have H' := Aside0.mk H
  clear H
  go_enter Try.func63, Try.ntmps63
  go_wp2
  repeat (go_quiet (fail); try go_wp2)
  go_loopg [8] k (fun kq v8 w' => ∃ (x8_1 : Int), v8 = .int .i64 x8_1 ∧ Aside0 (dec_ReadTwo.l0 kq a0 x8_1 = some (r1, r2)) ∧ Aside0 (kq ≤ k) ∧ Drawn0 w w')
  case atStart => exact ⟨(0), (by first | rfl | (simp; done) | (simp [*]; done)), H', ⟨Nat.le_refl _⟩, by repeat (first | exact Drawn0.refl _ | apply Drawn0.step)⟩
  case round =>
   clear H'
   try clear c2
   try clear c2b0
   try clear c2b1
   try clear p2
   obtain ⟨x8_1, rfl, HA, HK1, ⟨m1, rfl⟩⟩ := hrel
   cases gk with
   | zero => exact absurd HA.out (by simp [dec_ReadTwo.l0])
   | succ k1 =>
    have H := HA.out
    clear HA
    simp only [dec_ReadTwo.l0] at H
    by_cases c3 : x8_1 < 2
    ·rw [if_pos c3] at H
     have c3b0 : decide (x8_1 < 2) = true := decide_eq_true c3
     clear c3
     by_cases c4 : 0 ≤ x8_1
     ·rw [if_pos c4] at H
      have c4b0 : decide (0 ≤ x8_1) = true := decide_eq_true c4
      clear c4
      by_cases c5 : x8_1 < (a0.size : Int)
      ·rw [if_pos c5] at H
       have c5b0 : decide (x8_1 < (a0.size : Int)) = true := decide_eq_true c5
       clear c5
       by_cases c7 : (bt a0 x8_1) < 48
       ·rw [if_pos c7] at H
        have c7b0 : decide ((bt a0 x8_1) < 48) = true := decide_eq_true c7
        clear c7
        simp only [Option.some.injEq, Prod.mk.injEq] at H
        obtain ⟨rfl, rfl⟩ := H
        have p6 : 0 ≤ (x8_1 : Int) := of_decide_eq_true (by first | (with_reducible assumption) | assumption)
        have q6 : x8_1 < (a0.size : Int) := of_decide_eq_true (by first | (with_reducible assumption) | assumption)
        have hx6 := bt_at a0 x8_1
        replace p6 := eq_true p6
        replace q6 := eq_true q6
        go_wp2
        repeat (go_quiet (fail); try go_wp2)
        go_ret2
        exact ⟨by first | rfl | (simp; done) | (simp [*]; done) | (simp [show ∀ l_ : List UInt8, (l_ != []) = !l_.isEmpty from fun l_ => by cases l_ <;> rfl]; done), by repeat (first | exact Drawn0.refl _ | apply Drawn0.step)⟩
       ·rw [if_neg c7] at H
        have c7b0 : decide ((bt a0 x8_1) < 48) = false := decide_eq_false c7
        clear c7
        by_cases c9 : (bt a0 x8_1) > 57
        ·rw [if_pos c9] at H
         have c9b0 : decide (57 < (bt a0 x8_1)) = true := decide_eq_true c9
         clear c9
         simp only [Option.some.injEq, Prod.mk.injEq] at H
         obtain ⟨rfl, rfl⟩ := H
         have p6 : 0 ≤ (x8_1 : Int) := of_decide_eq_true (by first | (with_reducible assumption) | assumption)
         have q6 : x8_1 < (a0.size : Int) := of_decide_eq_true (by first | (with_reducible assumption) | assumption)
         have hx6 := bt_at a0 x8_1
         replace p6 := eq_true p6
         replace q6 := eq_true q6
         have p8 : 0 ≤ (x8_1 : Int) := of_decide_eq_true (by first | (with_reducible assumption) | assumption)
         have q8 : x8_1 < (a0.size : Int) := of_decide_eq_true (by first | (with_reducible assumption) | assumption)
         have hx8 := bt_at a0 x8_1
         replace p8 := eq_true p8
         replace q8 := eq_true q8
         go_wp2
         repeat (go_quiet (fail); try go_wp2)
         go_ret2
         exact ⟨by first | rfl | (simp; done) | (simp [*]; done) | (simp [show ∀ l_ : List UInt8, (l_ != []) = !l_.isEmpty from fun l_ => by cases l_ <;> rfl]; done), by repeat (first | exact Drawn0.refl _ | apply Drawn0.step)⟩
        ·rw [if_neg c9] at H
         have c9b0 : decide (57 < (bt a0 x8_1)) = false := decide_eq_false c9
         clear c9
         have H' := Aside0.mk H
         clear H
         have p6 : 0 ≤ (x8_1 : Int) := of_decide_eq_true (by first | (with_reducible assumption) | assumption)
         have q6 : x8_1 < (a0.size : Int) := of_decide_eq_true (by first | (with_reducible assumption) | assumption)
         have hx6 := bt_at a0 x8_1
         replace p6 := eq_true p6
         replace q6 := eq_true q6
         have p8 : 0 ≤ (x8_1 : Int) := of_decide_eq_true (by first | (with_reducible assumption) | assumption)
         have q8 : x8_1 < (a0.size : Int) := of_decide_eq_true (by first | (with_reducible assumption) | assumption)
         have hx8 := bt_at a0 x8_1
         replace p8 := eq_true p8
         replace q8 := eq_true q8
         go_wp2
         repeat (go_quiet (fail); try go_wp2)
         go_roundg k1
         case measure => have := HK1.out; omega
         case rel => exact ⟨(wrap64 (x8_1 + 1)), (by first | rfl | (simp; done) | (simp [*]; done)), H', ⟨by have := HK1.out; omega⟩, by repeat (first | exact Drawn0.refl _ | apply Drawn0.step)⟩
      ·rw [if_neg c5] at H
       exact absurd H (by simp)
     ·rw [if_neg c4] at H
      exact absurd H (by simp)
    ·rw [if_neg c3] at H
     have c3b0 : decide (x8_1 < 2) = false := decide_eq_false c3
     clear c3
     by_cases c10 : 0 < (a0.size : Int)
     ·rw [if_pos c10] at H
      have c10b0 : decide (0 < (a0.size : Int)) = true := decide_eq_true c10
      have c10b1 : decide (0 < a0.size) = true := decide_eq_true (by omega)
      clear c10
      by_cases c12 : 1 < (a0.size : Int)
      ·rw [if_pos c12] at H
       have c12b0 : decide (1 < (a0.size : Int)) = true := decide_eq_true c12
       have c12b1 : decide (1 < a0.size) = true := decide_eq_true (by omega)
       clear c12
       simp only [Option.some.injEq, Prod.mk.injEq] at H
       obtain ⟨rfl, rfl⟩ := H
       have p11 : 0 ≤ (0 : Int) := (by omega)
       have q11 : 0 < a0.size := (by have : (0 : Int) < (a0.size : Int) := of_decide_eq_true (by first | (with_reducible assumption) | assumption); omega)
       have hx11 : ∀ h : 0 < a0.size, ((a0[0]'h).toNat : Int) = bt a0 0 := bt_at a0 0
       clear p11
       have qi11 : (0 < (a0.size : Int)) = True := eq_true (of_decide_eq_true (by first | (with_reducible assumption) | assumption))
       replace q11 := eq_true q11
       have p13 : 0 ≤ (1 : Int) := (by omega)
       have q13 : 1 < a0.size := (by have : (1 : Int) < (a0.size : Int) := of_decide_eq_true (by first | (with_reducible assumption) | assumption); omega)
       have hx13 : ∀ h : 1 < a0.size, ((a0[1]'h).toNat : Int) = bt a0 1 := bt_at a0 1
       clear p13
       have qi13 : (1 < (a0.size : Int)) = True := eq_true (of_decide_eq_true (by first | (with_reducible assumption) | assumption))
       replace q13 := eq_true q13
       go_wp2
       repeat (go_quiet (fail); try go_wp2)
       go_ret2
       exact ⟨by first | rfl | (simp; done) | (simp [*]; done) | (simp [show ∀ l_ : List UInt8, (l_ != []) = !l_.isEmpty from fun l_ => by cases l_ <;> rfl]; done), by repeat (first | exact Drawn0.refl _ | apply Drawn0.step)⟩
      ·rw [if_neg c12] at H
       exact absurd H (by simp)
     ·rw [if_neg c10] at H
      exact absurd H (by simp)
 ·rw [if_neg c2] at H
  have c2b0 : ((a0.size : Int) == 2) = false := beq_eq_false_iff_ne.mpr c2
  have c2b1 : ((a0.size : Int) != 2) = true := bne_iff_ne.mpr c2
  simp only [Option.some.injEq, Prod.mk.injEq] at H
  obtain ⟨rfl, rfl⟩ := H
  go_enter Try.func63, Try.ntmps63
  go_wp2
  repeat (go_quiet (fail); try go_wp2)
  go_ret2
  exact ⟨by first | rfl | (simp; done) | (simp [*]; done) | (simp [show ∀ l_ : List UInt8, (l_ != []) = !l_.isEmpty from fun l_ => by cases l_ <;> rfl]; done), by repeat (first | exact Drawn0.refl _ | apply Drawn0.step)⟩

/-! ### sextet_New: function 87 -/
set_option maxHeartbeats 8000000 in
set_option maxRecDepth 100000 in
theorem sextet_New.calls (s : ByteArray) (w : World) (hs : s.size ≤ 9223372036854775807) :
    Calls Try.prog 87 #[.string s] w (NewPost 137 s w) := by
  by_cases h64 : s.size = 64
  case neg =>
    have e9 : sxErr s = 9 := if_neg h64
    have hb1 : ((s.size : Int) == 64) = false := by simp; omega
    have hb2 : ((s.size : Int) != 64) = true := by simp; omega
    have hb3 : (s.size == 64) = false := by simp; omega
    have hb4 : (s.size != 64) = true := by simp; omega
    go_enter Try.func87, Try.ntmps87
    go_wp2
    go_ret2
    exact .inr ⟨by rw [e9]; decide, by rw [e9]; rfl, Below.refl _ _⟩
  have hb1 : ((s.size : Int) == 64) = true := by simp; omega
  have hb2 : ((s.size : Int) != 64) = false := by simp; omega
  have hb3 : (s.size == 64) = true := by simp; omega
  have hb4 : (s.size != 64) = false := by simp; omega
  have E := Aside0.mk (show sxErr s = sxErrA [] s.data.toList from if_pos h64)
  have HS := Aside0.mk (show s.data.toList.length = 64 from h64)
  have H64 := Aside0.mk h64
  clear h64
  go_enter Try.func87, Try.ntmps87
  have hz : ∀ W : World, (zeroValue 137).run Try.prog W = .ok (.agg sxZ) W := fun W => by kernel_rfl
  have hz2 := sxZ_ne
  have hz3 := sxZ_set s
  go_wp2_with (((with_reducible refine gate_dst (N := 12) rfl ?_); refine box_event ?hg (N := 12) ?hd (cs := sxCells s []) (t := 137) ?hr ?_; (case hd => rfl); (case hg => rfl); (case hr => rfl); intro gb hg w1 hbox hb; have HB := Aside0.mk (show Below w.heap.size w w1 from hb); have BK := Aside0.mk hbox; have GE := Aside0.mk (show w.heap.size ≤ gb by rw [hg]; exact Nat.le_refl _); clear hb hbox hg))
  clear hz hz2 hz3
  go_loopw [13] (fun v13 wz => ∃ n : Nat, n ≤ 64 ∧ v13 = .int .i64 (n : Int) ∧ Aside0 (sxErrA (s.data.toList.take n) (s.data.toList.drop n) = sxErr s) ∧ Aside0 (wz.heap[gb]? = some (.cells (sxCells s (s.data.toList.take n)) 137 (0, 0))) ∧ Aside0 (Below w.heap.size w wz)) (fun v13 _ => 64 - (intOf v13).toNat)
  case atStart => exact ⟨0, by omega, rfl, ⟨E.out.symm⟩, BK, HB⟩
  case round =>
    clear BK HB E
    obtain ⟨n, hn, rfl, E, BK, HB⟩ := hrel
    by_cases hlt : n < 64
    · have hlen : n < s.data.toList.length := by rw [HS.out]; exact hlt
      obtain ⟨c, hc⟩ : ∃ c, s.data.toList[n] = c := ⟨_, rfl⟩
      have hd : s.data.toList.drop n = c :: s.data.toList.drop (n + 1) := by rw [← hc]; exact List.drop_eq_getElem_cons hlen
      have ht : s.data.toList.take (n + 1) = s.data.toList.take n ++ [c] := by rw [← hc]; exact List.take_succ_eq_append_getElem hlen
      have hL := Aside0.mk (show (s.data.toList.take n).length = n by rw [List.length_take]; omega)
      have e1 := E.out
      rw [hd, sxErrA] at e1
      replace ht := Aside0.mk ht
      replace hc := Aside0.mk hc
      obtain ⟨d, hdn⟩ : ∃ d, s.data.toList.take n = d := ⟨_, rfl⟩
      rw [hdn] at BK hL e1
      have ht' := ht.out
      rw [hdn] at ht'
      replace ht := Aside0.mk ht'
      clear ht' hdn E hd
      have hix : ∀ W : World, (Instr.index 9 (.string s) (.int .i64 (n : Int))).run Try.prog W = .ok (.int .u8 (c.toNat : Int)) W := fun W => by
        rw [run_index_string W 9 s .i64 (n : Int) Try.underlying9, dif_pos (by have := H64.out; omega)]
        have := hc.out
        exact congrArg (fun x : UInt8 => Result.ok (Value.int .u8 (x.toNat : Int)) W) this
      have hc256 := c.toNat_lt
      have hcv := (blk_cell BK.out (1 + c.toNat)).trans (sxCells_val s d c.toNat (by omega))
      have hcf := blk_frozen BK.out (1 + c.toNat)
      by_cases b1 : c.toNat < 33
      · have g1 : decide ((c.toNat : Int) < 33) = true := decide_eq_true (by omega)
        rw [if_pos (.inl b1)] at e1
        have E8 := Aside0.mk e1
        clear e1
        go_wp2
        go_ret2
        exact .inr ⟨by rw [← E8.out]; decide, by rw [← E8.out]; rfl, HB.out⟩
      have g1 : decide ((c.toNat : Int) < 33) = false := decide_eq_false (by omega)
      by_cases b2 : 126 < c.toNat
      · have g2 : decide ((126 : Int) < (c.toNat : Int)) = true := decide_eq_true (by omega)
        rw [if_pos (.inr b2)] at e1
        have E8 := Aside0.mk e1
        clear e1
        go_wp2
        go_ret2
        exact .inr ⟨by rw [← E8.out]; decide, by rw [← E8.out]; rfl, HB.out⟩
      have g2 : decide ((126 : Int) < (c.toNat : Int)) = false := decide_eq_false (by omega)
      rw [if_neg (by omega)] at e1
      by_cases b3 : 0 < sxVal d c.toNat
      · rw [if_pos b3] at e1
        have E8 := Aside0.mk e1
        clear e1
        obtain ⟨v, hv⟩ : ∃ v, sxVal d c.toNat = v := ⟨_, rfl⟩
        rw [hv] at b3 hcv
        clear hv
        have g3 : decide ((0 : Int) < (v : Int)) = true := decide_eq_true (by omega)
        go_wp2
        go_ret2
        exact .inr ⟨by rw [← E8.out]; decide, by rw [← E8.out]; rfl, HB.out⟩
      rw [if_neg b3] at e1
      have z0 : sxVal d c.toNat = 0 := by omega
      rw [z0] at hcv
      have Z := Aside0.mk z0
      have E8 := Aside0.mk e1
      clear e1 z0 b3
      go_wp2
      refine ⟨⟨n + 1, by omega, by go_num, ⟨?_⟩, ⟨?_⟩, ⟨?_⟩⟩, by simp [intOf]; omega⟩
      · rw [ht.out]; exact E8.out
      · rw [ht.out]
        have q := sxCells_set s d c Z.out
        rw [hL.out] at q
        exact q ▸ blk_set BK.out (1 + c.toNat) (.int .i64 ((n : Int) + 1))
      · exact below_set HB.out GE.out
    · obtain rfl : n = 64 := by omega
      rw [List.drop_of_length_le (by rw [HS.out]; exact Nat.le_refl _)] at E
      rw [List.take_of_length_le (by rw [HS.out]; exact Nat.le_refl _)] at BK
      have E0 := Aside0.mk (show sxErr s = 0 from E.out.symm)
      go_wp2
      go_ret2
      exact .inl ⟨E0.out, gb, GE.out, rfl, BK.out, HB.out⟩

/-! ### crypt64_New: function 64 -/
def crypt64_New.f : Option Int := some 0
set_option maxHeartbeats 8000000 in
set_option maxRecDepth 100000 in
theorem crypt64_New.calls (w : World) :
    Calls Try.prog 64 #[] w fun e w' => ∃ g c, w.heap.size ≤ g ∧ w.heap.size ≤ c ∧ e = .returned (.pointer (some ⟨g, 0, none⟩)) ∧ C64 125 137 w' g c ∧ Below w.heap.size w w' := by
  have E0 := Aside0.mk sxCrypt_ok
  have hsz : sxCrypt.size ≤ 9223372036854775807 := by decide +kernel
  have HB := Aside0.mk (Below.refl w.heap.size w)
  go_enter Try.func64, Try.ntmps64
  go_wp2_with (first | (go_at_call 87; refine (sextet_New.calls sxCrypt _ hsz).mono ?_; intro e wn hn; obtain ⟨_, c, hg, rfl, hc, hb⟩ := hn.resolve_right (fun q => q.1 E0.out); have HC := Aside0.mk hc; have HG := Aside0.mk hg; have n0_ := Aside0.mk (below_step HB.out hb); clear HB hb hg hc; have HB := n0_; clear n0_))
  go_ret
  exact ⟨_, c, Nat.le_trans HG.out (Nat.le_of_lt (blk_lt HC.out)), HG.out, rfl, ⟨blk_new _ _, HC.out.alloc _⟩, below_alloc HB.out _⟩

/-! ### sextet_Coder_Letters: function 88 -/
def sextet_Coder_Letters.f (n : Int) : Option Int := some (sxLetters n)
set_option maxRecDepth 100000 in
theorem sextet_Coder_Letters.nil (n : Int) (w : World) : Calls Try.prog 88 #[.pointer none, .int .i64 n] w fun e w' => e = .returned (.int .i64 0) ∧ Drawn0 w w' := by
  go_enter Try.func88, Try.ntmps88
  go_wp2
  go_ret
  exact ⟨rfl, Drawn0.refl _⟩
set_option maxRecDepth 100000 in
theorem sextet_Coder_Letters.calls (a : Addr) (n : Int) (w : World) : Calls Try.prog 88 #[.pointer (some a), .int .i64 n] w fun e w' => e = .returned (.int .i64 (sxLetters n)) ∧ Drawn0 w w' := by
  by_cases h0 : n < 0
  · rw [show sxLetters n = 0 from if_pos h0]
    go_enter Try.func88, Try.ntmps88
    go_wp2
    go_ret
    exact ⟨rfl, Drawn0.refl _⟩
  by_cases h1 : 576460752303423488 < n
  · rw [show sxLetters n = 0 by unfold sxLetters; rw [if_neg h0, if_pos h1]]
    go_enter Try.func88, Try.ntmps88
    go_wp2
    go_ret
    exact ⟨rfl, Drawn0.refl _⟩
  have e : sxLetters n = (8 * n + 5) / 6 := by unfold sxLetters; rw [if_neg h0, if_neg h1]
  rw [e]
  have g0 : 0 ≤ n := by omega
  have g1 : n ≤ 576460752303423488 := by omega
  clear e
  go_enter Try.func88, Try.ntmps88
  go_wp2
  go_ret
  exact ⟨rfl, Drawn0.refl _⟩

/-! ### sextet_Coder_Decode: function 89 -/
def sextet_Coder_Decode.l0 : Nat → ByteArray → ByteArray → List Int → Int → Int → Int → Int → Option (ByteArray × Int)
  | 0, _, _, _, _, _, _, _ => none
  | k + 1, x0, x1, x6, x7, x8, x12, x13 => if x13 < x12 then (if 0 ≤ x13 then (if x13 < (x1.size : Int) then ((sxF x0 (bt x1 x13)).bind fun t101 => (if t101 = 0 then (some ((⟨#[]⟩ : ByteArray), 8)) else (if (wrap64 (x8 + 6)) ≥ 8 then (if 0 ≤ (wrap64 ((wrap64 (x8 + 6)) - 8)) then (if x6.length < 140737488355328 then (sextet_Coder_Decode.l0 k x0 x1 (x6 ++ [(shr .u32 (Go.bits .or .u32 ((x7 * 64) % 4294967296) ((wrap64 (t101 - 1)) % 4294967296)) (wrap64 ((wrap64 (x8 + 6)) - 8))) % 256]) (Go.bits .or .u32 ((x7 * 64) % 4294967296) ((wrap64 (t101 - 1)) % 4294967296)) (wrap64 ((wrap64 (x8 + 6)) - 8)) x12 (wrap64 (x13 + 1))) else (none)) else (none)) else (sextet_Coder_Decode.l0 k x0 x1 x6 (Go.bits .or .u32 ((x7 * 64) % 4294967296) ((wrap64 (t101 - 1)) % 4294967296)) (wrap64 (x8 + 6)) x12 (wrap64 (x13 + 1)))))) else (none)) else (none)) else (if ((x1.size : Int) % 4) = 1 then (some ((⟨#[]⟩ : ByteArray), 5)) else (if 0 ≤ x8 then (if (Go.bits .and .u32 x7 (((shl .u32 1 x8) - 1) % 4294967296)) = 0 then (some (strOfNums x6, 0)) else (some ((⟨#[]⟩ : ByteArray), 5))) else (none)))
def sextet_Coder_Decode.f (k : Nat) (a0 : ByteArray) (a1 : ByteArray) : Option (ByteArray × Int) := sextet_Coder_Decode.l0 k a0 a1 ([] : List Int) 0 0 (a1.size : Int) 0
theorem sextet_Coder_Decode.mono_l : ∀ k, (∀ y0 y1 y2 y3 y4 y5 y6, LeO (sextet_Coder_Decode.l0 k y0 y1 y2 y3 y4 y5 y6) (sextet_Coder_Decode.l0 (k + 1) y0 y1 y2 y3 y4 y5 y6))
  | 0 => fun _ _ _ _ _ _ _ r h => by simp [sextet_Coder_Decode.l0] at h
  | k + 1 => by
    have ih0 := sextet_Coder_Decode.mono_l k
    · intro y0 y1 y2 y3 y4 y5 y6
      unfold sextet_Coder_Decode.l0
      repeat' first
      | (with_reducible exact ih0 _ _ _ _ _ _ _)
      | (with_reducible exact LeO.refl _)
      | (with_reducible exact LeO.none _)
      | (with_reducible refine LeO.ite ?_ ?_)
      | (with_reducible refine LeO.bind ?_ (fun _ => ?_))
      | exact ih0 _ _ _ _ _ _ _
      | exact LeO.none _
      | refine LeO.ite ?_ ?_
      | refine LeO.bind ?_ (fun _ => ?_)
theorem sextet_Coder_Decode.mono : ∀ a0 a1 k, LeO (sextet_Coder_Decode.f k a0 a1) (sextet_Coder_Decode.f (k + 1) a0 a1) := by
  intro a0 a1 k
  have ih0 := sextet_Coder_Decode.mono_l k
  unfold sextet_Coder_Decode.f
  repeat' first
      | (with_reducible exact ih0 _ _ _ _ _ _ _)
      | (with_reducible exact LeO.refl _)
      | (with_reducible exact LeO.none _)
      | (with_reducible refine LeO.ite ?_ ?_)
      | (with_reducible refine LeO.bind ?_ (fun _ => ?_))
      | exact ih0 _ _ _ _ _ _ _
      | exact LeO.none _
      | refine LeO.ite ?_ ?_
      | refine LeO.bind ?_ (fun _ => ?_)
set_option maxHeartbeats 8000000 in
set_option maxRecDepth 100000 in
theorem sextet_Coder_Decode.calls (k : Nat) (g : Nat) (a0 : ByteArray) (a1 : ByteArray) (r1 : ByteArray) (r2 : Int) (w : World) (hcg : ∀ b : Nat, b < 256 → w.cell? ⟨g, 1 + b, none⟩ = some (.int .i64 (sxVal a0.data.toList b : Nat))) (h : sextet_Coder_Decode.f k a0 a1 = some (r1, r2)) :
    Calls Try.prog 89 #[.pointer (some ⟨g, 0, none⟩), .string a1] w fun e w' => e = .returned (.tuple #[.string r1, .int .i64 r2]) ∧ Below w.heap.size w w' := by
  have HCG := Aside0.mk hcg
  clear hcg
  have HB := Aside0.mk (Below.refl w.heap.size w)
  have H : (sextet_Coder_Decode.l0 k a0 a1 ([] : List Int) 0 0 (a1.size : Int) 0) = some (r1, r2) := h
  clear h
  have H' := Aside0.mk H
  clear H
  go_enter Try.func89, Try.ntmps89
  go_wp2
  go_loopg [6, 7, 8, 15] k (fun kq v6 v7 v8 v15 w' => ∃ (x6_1 : List Int) (x7_1 : Int) (x8_1 : Int) (x13_1 : Int), v7 = .int .u32 x7_1 ∧ v8 = .int .i64 x8_1 ∧ v15 = .int .i64 x13_1 ∧ Aside0 (sextet_Coder_Decode.l0 kq a0 a1 x6_1 x7_1 x8_1 (a1.size : Int) x13_1 = some (r1, r2)) ∧ Aside0 (kq ≤ k) ∧ Aside0 (Kd.R (Kd.int .u8) 5 w' w.heap.size (fun _ => True) v6 x6_1) ∧ Aside0 (Below w.heap.size w w'))
  case atStart => exact ⟨(([] : List Int)), (0), (0), (0), (by first | rfl | (simp; done) | (simp [*]; done)), (by first | rfl | (simp; done) | (simp [*]; done)), (by first | rfl | (simp; done) | (simp [*]; done)), H', ⟨Nat.le_refl _⟩, ⟨by first | exact Kd.R_nil _ _ _ _ _ | exact Kd.N_nil _ _ _ _ _ | exact Kd.V_nil _ _ _ _ _ | exact Kd.Q_nil _ _ _ _ _ | exact Kd.S_nil _ _ _ _ _⟩, ⟨by repeat (first | (with_reducible first | exact HB.out | apply below_alloc | apply pw_below_drewN | apply below_drew1) | exact HB.out)⟩⟩
  case round =>
    clear H'
    try clear p2
    obtain ⟨x6_1, x7_1, x8_1, x13_1, rfl, rfl, rfl, HA, HK1, HO_6, HB⟩ := hrel
    cases gk with
    | zero => exact absurd HA.out (by simp [sextet_Coder_Decode.l0])
    | succ k1 =>
      have H := HA.out
      clear HA
      simp only [sextet_Coder_Decode.l0] at H
      by_cases c3 : x13_1 < (a1.size : Int)
      · rw [if_pos c3] at H
        have c3b0 : decide (x13_1 < (a1.size : Int)) = true := decide_eq_true c3
        clear c3
        by_cases c4 : 0 ≤ x13_1
        · rw [if_pos c4] at H
          have c4b0 : decide (0 ≤ x13_1) = true := decide_eq_true c4
          clear c4
          by_cases c5 : x13_1 < (a1.size : Int)
          · rw [if_pos c5] at H
            have c5b0 : decide (x13_1 < (a1.size : Int)) = true := decide_eq_true c5
            clear c5
            replace H := Option.bind_eq_some_iff.mp H
            obtain ⟨t101, A70, H⟩ := H
            replace H : (if t101 = 0 then (some ((⟨#[]⟩ : ByteArray), 8)) else (if (wrap64 (x8_1 + 6)) ≥ 8 then (if 0 ≤ (wrap64 ((wrap64 (x8_1 + 6)) - 8)) then (if x6_1.length < 140737488355328 then (sextet_Coder_Decode.l0 k1 a0 a1 (x6_1 ++ [(shr .u32 (Go.bits .or .u32 ((x7_1 * 64) % 4294967296) ((wrap64 (t101 - 1)) % 4294967296)) (wrap64 ((wrap64 (x8_1 + 6)) - 8))) % 256]) (Go.bits .or .u32 ((x7_1 * 64) % 4294967296) ((wrap64 (t101 - 1)) % 4294967296)) (wrap64 ((wrap64 (x8_1 + 6)) - 8)) (a1.size : Int) (wrap64 (x13_1 + 1))) else (none)) else (none)) else (sextet_Coder_Decode.l0 k1 a0 a1 x6_1 (Go.bits .or .u32 ((x7_1 * 64) % 4294967296) ((wrap64 (t101 - 1)) % 4294967296)) (wrap64 (x8_1 + 6)) (a1.size : Int) (wrap64 (x13_1 + 1))))) = some (r1, r2) := H
            have A7 := Aside0.mk A70
            clear A70
            by_cases c8 : t101 = 0
            · rw [if_pos c8] at H
              have c8b0 : (t101 == 0) = true := beq_iff_eq.mpr c8
              have c8b1 : (t101 != 0) = false := bne_eq_false_iff_eq.mpr c8
              clear c8
              simp only [Option.some.injEq, Prod.mk.injEq] at H
              obtain ⟨rfl, rfl⟩ := H
              have p6 : 0 ≤ (x13_1 : Int) := of_decide_eq_true (by first | (with_reducible assumption) | assumption)
              have q6 : x13_1 < (a1.size : Int) := of_decide_eq_true (by first | (with_reducible assumption) | assumption)
              have hx6 := bt_at a1 x13_1
              replace p6 := eq_true p6
              replace q6 := eq_true q6
              have hb0_ := (bt_range a1 x13_1).1
              have hb1_ := (bt_range a1 x13_1).2
              have ht_ : sxV a0 (bt a1 x13_1) = t101 := Option.some.inj A7.out
              have hcg := (HB.out.cell (World.block_lt_of_cell? w _ (HCG.out (bt a1 x13_1).toNat (by omega)))).trans (HCG.out (bt a1 x13_1).toNat (by omega))
              change wr.cell? _ = some (.int .i64 (sxV a0 (bt a1 x13_1))) at hcg
              rw [ht_] at hcg
              clear ht_
              replace HO_6 : Aside0 (Kd.R (Kd.int .u8) 5 wr.drew w.heap.size (fun _ => True) u6 x6_1) := ⟨Kd.R_drew HO_6.out⟩
              replace HB : Aside0 (Below w.heap.size w wr.drew) := ⟨below_drew HB.out⟩
              go_wp2
              refine start_ (n := 9) (S := (fun W : World => W.cell? ⟨g, 1 + (bt a1 x13_1).toNat, none⟩ = some (.int .i64 t101))) (ds := []) #[false, false, false, false, false, false, false, false, false] (by kernel_rfl) rfl rfl hcg (fun hHeld => ?_)
              generalize wr.drew = wd_ at HO_6 HB hHeld ⊢
              refine pure_ (i := 0) (N := some 18) (v := ?_) (a' := ?_) #[true, false, false, false, false, false, false, false, false] rfl rfl (by kernel_rfl) (fun _ _ _ h => h) (Or.inl ⟨by rfl, ?_⟩) ?_ ?_
              rotate_left
              · intro w'
                go_simp
                try with_reducible rfl
              rotate_left
              · simp only [Act.put, List.setIfInBounds_toArray, List.set_cons_zero, List.set_cons_succ, i64_w, i32_w]
                rfl
              refine pure_ (i := 1) (N := some 19) (v := ?_) (a' := ?_) #[true, true, false, false, false, false, false, false, false] rfl rfl (by kernel_rfl) (fun _ _ _ h => h) (Or.inl ⟨by rfl, ?_⟩) ?_ ?_
              rotate_left
              · intro w'
                go_simp
                try with_reducible rfl
              rotate_left
              · simp only [Act.put, List.setIfInBounds_toArray, List.set_cons_zero, List.set_cons_succ, i64_w, i32_w]
                rfl
              refine pure_ (i := 2) (N := some 20) (v := ?_) (a' := ?_) #[true, true, true, false, false, false, false, false, false] rfl rfl (by kernel_rfl) (fun _ _ _ h => h) (Or.inl ⟨by rfl, ?_⟩) ?_ ?_
              rotate_left
              · intro w'
                go_simp
                try with_reducible rfl
              rotate_left
              · simp only [Act.put, List.setIfInBounds_toArray, List.set_cons_zero, List.set_cons_succ, i64_w, i32_w]
                rfl
              refine pure_ (i := 3) (N := some 21) (v := ?_) (a' := ?_) #[true, true, true, true, false, false, false, false, false] rfl rfl (by kernel_rfl) (fun _ _ _ h => h) (Or.inl ⟨by rfl, ?_⟩) ?_ ?_
              rotate_left
              · intro w'
                go_simp
                try with_reducible rfl
              rotate_left
              · simp only [Act.put, List.setIfInBounds_toArray, List.set_cons_zero, List.set_cons_succ, i64_w, i32_w]
                rfl
              refine pure_ (i := 4) (N := some 22) (v := ?_) (a' := ?_) #[true, true, true, true, true, false, false, false, false] rfl rfl (by kernel_rfl) (fun _ _ _ h => h) (Or.inl ⟨by rfl, ?_⟩) ?_ ?_
              rotate_left
              · intro w'
                go_simp
                try with_reducible rfl
              rotate_left
              · simp only [Act.put, List.setIfInBounds_toArray, List.set_cons_zero, List.set_cons_succ, i64_w, i32_w]
                rfl
              refine pure_ (i := 5) (N := some 23) (v := ?_) (a' := ?_) #[true, true, true, true, true, true, false, false, false] rfl rfl (by kernel_rfl) (fun _ _ _ h => h) (Or.inl ⟨by rfl, ?_⟩) ?_ ?_
              rotate_left
              · intro w'
                go_simp
                try with_reducible rfl
              rotate_left
              · simp only [Act.put, List.setIfInBounds_toArray, List.set_cons_zero, List.set_cons_succ, i64_w, i32_w]
                rfl
              refine pure_ (i := 6) (N := some 24) (v := ?_) (a' := ?_) #[true, true, true, true, true, true, true, false, false] rfl rfl (by kernel_rfl) (fun _ _ _ h => h) (Or.inl ⟨by rfl, ?_⟩) ?_ ?_
              rotate_left
              · intro w'
                go_simp
                try with_reducible rfl
              rotate_left
              · simp only [Act.put, List.setIfInBounds_toArray, List.set_cons_zero, List.set_cons_succ, i64_w, i32_w]
                rfl
              refine take_ (i := 7) (N := some 25) (v := ?_) (a' := ?_) #[true, true, true, true, true, true, true, true, false] rfl rfl (by kernel_rfl) (fun _ _ _ h => h) (Or.inl ⟨by rfl, ?_⟩) hHeld ?_ ?_
              rotate_left
              · intro w' hSw
                (try simp only [] at hSw)
                (repeat obtain ⟨hs_, hSw⟩ := hSw)
                go_simp
                try with_reducible rfl
              rotate_left
              · simp only [Act.put, List.setIfInBounds_toArray, List.set_cons_zero, List.set_cons_succ, i64_w, i32_w]
                rfl
              refine pure_ (i := 8) (N := some 10) (v := ?_) (a' := ?_) #[true, true, true, true, true, true, true, true, true] rfl rfl (by kernel_rfl) (fun _ _ _ h => h) (Or.inl ⟨by rfl, ?_⟩) ?_ ?_
              rotate_left
              · intro w'
                go_simp
                try with_reducible rfl
              rotate_left
              · simp only [Act.put, List.setIfInBounds_toArray, List.set_cons_zero, List.set_cons_succ, i64_w, i32_w]
                rfl
              refine done_ (by kernel_rfl) ?_
              clear hcg hHeld
              go_wp2
              go_ret2
              exact ⟨by first | rfl | (simp [errW_none, errW_some] <;> rfl) | (simp [*, errW_none, errW_some] <;> rfl), by repeat (first | (with_reducible first | exact HB.out | apply below_alloc | apply pw_below_drewN | apply below_drew1) | exact HB.out)⟩
            · rw [if_neg c8] at H
              have c8b0 : (t101 == 0) = false := beq_eq_false_iff_ne.mpr c8
              have c8b1 : (t101 != 0) = true := bne_iff_ne.mpr c8
              by_cases c9 : (wrap64 (x8_1 + 6)) ≥ 8
              · rw [if_pos c9] at H
                have c9b0 : decide (8 ≤ (wrap64 (x8_1 + 6))) = true := decide_eq_true c9
                clear c9
                obtain ⟨ji10, hji10⟩ : ∃ j_ : Int, (wrap64 ((wrap64 (x8_1 + 6)) - 8)) = j_ := ⟨_, rfl⟩
                replace H : (if 0 ≤ (ji10) then (if x6_1.length < 140737488355328 then (sextet_Coder_Decode.l0 k1 a0 a1 (x6_1 ++ [(shr .u32 (Go.bits .or .u32 ((x7_1 * 64) % 4294967296) ((wrap64 (t101 - 1)) % 4294967296)) (ji10)) % 256]) (Go.bits .or .u32 ((x7_1 * 64) % 4294967296) ((wrap64 (t101 - 1)) % 4294967296)) ji10 (a1.size : Int) (wrap64 (x13_1 + 1))) else (none)) else (none)) = some (r1, r2) := by first | (rw [hji10] at H; exact H) | (simp only [hji10] at H ⊢; exact H)
                (try rw [hji10] at A7)
                have hji10w : (IntKind.i64.wrap ((wrap64 (x8_1 + 6)) - 8)) = ji10 := (i64_w _).trans hji10
                by_cases c11 : 0 ≤ (ji10)
                · rw [if_pos c11] at H
                  have c11b0 := eq_true c11
                  have c11b1 : decide (0 ≤ (ji10)) = true := decide_eq_true c11
                  clear c11
                  obtain ⟨ji12, hji12⟩ : ∃ j_ : Int, (shr .u32 (Go.bits .or .u32 ((x7_1 * 64) % 4294967296) ((wrap64 (t101 - 1)) % 4294967296)) (ji10)) = j_ := ⟨_, rfl⟩
                  replace H : (if x6_1.length < 140737488355328 then (sextet_Coder_Decode.l0 k1 a0 a1 (x6_1 ++ [(ji12) % 256]) (Go.bits .or .u32 ((x7_1 * 64) % 4294967296) ((wrap64 (t101 - 1)) % 4294967296)) ji10 (a1.size : Int) (wrap64 (x13_1 + 1))) else (none)) = some (r1, r2) := by first | (rw [hji12] at H; exact H) | (simp only [hji12] at H ⊢; exact H)
                  (try rw [hji12] at A7)
                  have hji12_ : ((Go.bits .or .u32 ((x7_1 * 64) % 4294967296) ((wrap64 (t101 - 1)) % 4294967296)) / 2 ^ min (ji10).toNat 32) = ji12 := hji12
                  have hji12z : (ji10) ≤ 32 → ((Go.bits .or .u32 ((x7_1 * 64) % 4294967296) ((wrap64 (t101 - 1)) % 4294967296)) / 2 ^ (ji10).toNat) = ji12 := shr_small hji12
                  by_cases c13 : x6_1.length < 140737488355328
                  · rw [if_pos c13] at H
                    have LMc13 := Aside0.mk c13
                    clear c13
                    obtain ⟨y102, hy102⟩ : ∃ y_ : List Int, y_ = (x6_1 ++ [(ji12) % 256]) := ⟨_, rfl⟩
                    replace H : (sextet_Coder_Decode.l0 k1 a0 a1 y102 (Go.bits .or .u32 ((x7_1 * 64) % 4294967296) ((wrap64 (t101 - 1)) % 4294967296)) ji10 (a1.size : Int) (wrap64 (x13_1 + 1))) = some (r1, r2) := by first | (rw [hy102]; with_reducible exact H) | (have H2_ := (Option.bind_some _ _).symm.trans H; rw [hy102]; with_reducible exact H2_) | (have H2_ := (Option.bind_some _ _).symm.trans H; with_reducible exact H2_) | with_reducible exact H | (rw [hy102]; exact H) | exact H
                    have Ny102 := Aside0.mk hy102
                    clear hy102
                    have H' := Aside0.mk H
                    clear H
                    have p6 : 0 ≤ (x13_1 : Int) := of_decide_eq_true (by first | (with_reducible assumption) | assumption)
                    have q6 : x13_1 < (a1.size : Int) := of_decide_eq_true (by first | (with_reducible assumption) | assumption)
                    have hx6 := bt_at a1 x13_1
                    replace p6 := eq_true p6
                    replace q6 := eq_true q6
                    have hb0_ := (bt_range a1 x13_1).1
                    have hb1_ := (bt_range a1 x13_1).2
                    have ht_ : sxV a0 (bt a1 x13_1) = t101 := Option.some.inj A7.out
                    have hcg := (HB.out.cell (World.block_lt_of_cell? w _ (HCG.out (bt a1 x13_1).toNat (by omega)))).trans (HCG.out (bt a1 x13_1).toNat (by omega))
                    change wr.cell? _ = some (.int .i64 (sxV a0 (bt a1 x13_1))) at hcg
                    rw [ht_] at hcg
                    clear ht_
                    replace HO_6 : Aside0 (Kd.R (Kd.int .u8) 5 wr.drew w.heap.size (fun _ => True) u6 x6_1) := ⟨Kd.R_drew HO_6.out⟩
                    replace HB : Aside0 (Below w.heap.size w wr.drew) := ⟨below_drew HB.out⟩
                    go_wp2
                    refine start_ (n := 9) (S := (fun W : World => W.cell? ⟨g, 1 + (bt a1 x13_1).toNat, none⟩ = some (.int .i64 t101))) (ds := []) #[false, false, false, false, false, false, false, false, false] (by kernel_rfl) rfl rfl hcg (fun hHeld => ?_)
                    generalize wr.drew = wd_ at HO_6 HB hHeld ⊢
                    refine pure_ (i := 0) (N := some 18) (v := ?_) (a' := ?_) #[true, false, false, false, false, false, false, false, false] rfl rfl (by kernel_rfl) (fun _ _ _ h => h) (Or.inl ⟨by rfl, ?_⟩) ?_ ?_
                    rotate_left
                    · intro w'
                      go_simp
                      try with_reducible rfl
                    rotate_left
                    · simp only [Act.put, List.setIfInBounds_toArray, List.set_cons_zero, List.set_cons_succ, i64_w, i32_w]
                      rfl
                    refine pure_ (i := 1) (N := some 19) (v := ?_) (a' := ?_) #[true, true, false, false, false, false, false, false, false] rfl rfl (by kernel_rfl) (fun _ _ _ h => h) (Or.inl ⟨by rfl, ?_⟩) ?_ ?_
                    rotate_left
                    · intro w'
                      go_simp
                      try with_reducible rfl
                    rotate_left
                    · simp only [Act.put, List.setIfInBounds_toArray, List.set_cons_zero, List.set_cons_succ, i64_w, i32_w]
                      rfl
                    refine pure_ (i := 2) (N := some 20) (v := ?_) (a' := ?_) #[true, true, true, false, false, false, false, false, false] rfl rfl (by kernel_rfl) (fun _ _ _ h => h) (Or.inl ⟨by rfl, ?_⟩) ?_ ?_
                    rotate_left
                    · intro w'
                      go_simp
                      try with_reducible rfl
                    rotate_left
                    · simp only [Act.put, List.setIfInBounds_toArray, List.set_cons_zero, List.set_cons_succ, i64_w, i32_w]
                      rfl
                    refine pure_ (i := 3) (N := some 21) (v := ?_) (a' := ?_) #[true, true, true, true, false, false, false, false, false] rfl rfl (by kernel_rfl) (fun _ _ _ h => h) (Or.inl ⟨by rfl, ?_⟩) ?_ ?_
                    rotate_left
                    · intro w'
                      go_simp
                      try with_reducible rfl
                    rotate_left
                    · simp only [Act.put, List.setIfInBounds_toArray, List.set_cons_zero, List.set_cons_succ, i64_w, i32_w]
                      rfl
                    refine pure_ (i := 4) (N := some 22) (v := ?_) (a' := ?_) #[true, true, true, true, true, false, false, false, false] rfl rfl (by kernel_rfl) (fun _ _ _ h => h) (Or.inl ⟨by rfl, ?_⟩) ?_ ?_
                    rotate_left
                    · intro w'
                      go_simp
                      try with_reducible rfl
                    rotate_left
                    · simp only [Act.put, List.setIfInBounds_toArray, List.set_cons_zero, List.set_cons_succ, i64_w, i32_w]
                      rfl
                    refine pure_ (i := 5) (N := some 23) (v := ?_) (a' := ?_) #[true, true, true, true, true, true, false, false, false] rfl rfl (by kernel_rfl) (fun _ _ _ h => h) (Or.inl ⟨by rfl, ?_⟩) ?_ ?_
                    rotate_left
                    · intro w'
                      go_simp
                      try with_reducible rfl
                    rotate_left
                    · simp only [Act.put, List.setIfInBounds_toArray, List.set_cons_zero, List.set_cons_succ, i64_w, i32_w]
                      rfl
                    refine pure_ (i := 6) (N := some 24) (v := ?_) (a' := ?_) #[true, true, true, true, true, true, true, false, false] rfl rfl (by kernel_rfl) (fun _ _ _ h => h) (Or.inl ⟨by rfl, ?_⟩) ?_ ?_
                    rotate_left
                    · intro w'
                      go_simp
                      try with_reducible rfl
                    rotate_left
                    · simp only [Act.put, List.setIfInBounds_toArray, List.set_cons_zero, List.set_cons_succ, i64_w, i32_w]
                      rfl
                    refine take_ (i := 7) (N := some 25) (v := ?_) (a' := ?_) #[true, true, true, true, true, true, true, true, false] rfl rfl (by kernel_rfl) (fun _ _ _ h => h) (Or.inl ⟨by rfl, ?_⟩) hHeld ?_ ?_
                    rotate_left
                    · intro w' hSw
                      (try simp only [] at hSw)
                      (repeat obtain ⟨hs_, hSw⟩ := hSw)
                      go_simp
                      try with_reducible rfl
                    rotate_left
                    · simp only [Act.put, List.setIfInBounds_toArray, List.set_cons_zero, List.set_cons_succ, i64_w, i32_w]
                      rfl
                    refine pure_ (i := 8) (N := some 10) (v := ?_) (a' := ?_) #[true, true, true, true, true, true, true, true, true] rfl rfl (by kernel_rfl) (fun _ _ _ h => h) (Or.inl ⟨by rfl, ?_⟩) ?_ ?_
                    rotate_left
                    · intro w'
                      go_simp
                      try with_reducible rfl
                    rotate_left
                    · simp only [Act.put, List.setIfInBounds_toArray, List.set_cons_zero, List.set_cons_succ, i64_w, i32_w]
                      rfl
                    refine done_ (by kernel_rfl) ?_
                    clear hcg hHeld
                    go_wp2_with (((with_reducible refine gate_builtin (b := .append) (xs := #[.tmp 40, .tmp 45]) rfl ?_); at_builtin; refine Kd.R_append (Kd.int .u8) (w0 := w) w.heap.size rfl (.tmp 40) (.tmp 45) 101 5 (.int .u8 0) 1 rfl Try.underlying101 info5 rfl (by decide) (by omega) u6 x6_1 ((ji12) % 256) [.int .u8 ((ji12) % 256)] (fun _ => True) (fun _ => False) rfl rfl ?aP (fun _ hk => hk.elim) ?aF ?aO ?aB ?aS ?aL ?_; (case aP => exact rfl); (case aB => exact (by repeat (first | (with_reducible first | exact HB.out | apply below_alloc | apply pw_below_drewN | apply below_drew1) | exact HB.out))); (case aF => exact (fun _ _ => trivial)); (case aO => exact (by (with_reducible repeat (first | apply Kd.R_alloc | apply Kd.R_drewN | apply Kd.R_drew)); exact HO_6.out)); (case aS => exact (below_size (by repeat (first | (with_reducible first | exact HB.out | apply below_alloc | apply pw_below_drewN | apply below_drew1) | exact HB.out)))); (case aL => have := LMc13.out; omega); intro v103 w14 ho hb hg hat; rw [← Ny102.out] at ho; have n0_ := Aside0.mk (hb); have n1_ := Aside0.mk (ho); clear HB; clear HO_6; have HB := n0_; have HO104 := n1_; clear n0_ n1_; clear ho hb hg hat))
                    go_roundg k1
                    case measure => have := HK1.out; omega
                    case rel => exact ⟨(y102), (Go.bits .or .u32 ((x7_1 * 64) % 4294967296) ((wrap64 (t101 - 1)) % 4294967296)), (ji10), (wrap64 (x13_1 + 1)), (by first | rfl | (simp; done) | (simp [*]; done)), (by first | rfl | (simp; done) | (simp only [← hji10] <;> (first | rfl | simp)) | (simp [*]; done)), (by first | rfl | (simp; done) | (simp [*]; done)), H', ⟨by have := HK1.out; omega⟩, ⟨by (with_reducible repeat (first | apply Kd.R_alloc | apply Kd.R_drewN | apply Kd.R_drew)); exact HO104.out⟩, ⟨by repeat (first | (with_reducible first | exact HB.out | apply below_alloc | apply pw_below_drewN | apply below_drew1) | exact HB.out)⟩⟩
                  · rw [if_neg c13] at H
                    exact absurd H (by simp)
                · rw [if_neg c11] at H
                  exact absurd H (by simp)
              · rw [if_neg c9] at H
                have c9b0 : decide (8 ≤ (wrap64 (x8_1 + 6))) = false := decide_eq_false c9
                clear c9
                have H' := Aside0.mk H
                clear H
                have p6 : 0 ≤ (x13_1 : Int) := of_decide_eq_true (by first | (with_reducible assumption) | assumption)
                have q6 : x13_1 < (a1.size : Int) := of_decide_eq_true (by first | (with_reducible assumption) | assumption)
                have hx6 := bt_at a1 x13_1
                replace p6 := eq_true p6
                replace q6 := eq_true q6
                have hb0_ := (bt_range a1 x13_1).1
                have hb1_ := (bt_range a1 x13_1).2
                have ht_ : sxV a0 (bt a1 x13_1) = t101 := Option.some.inj A7.out
                have hcg := (HB.out.cell (World.block_lt_of_cell? w _ (HCG.out (bt a1 x13_1).toNat (by omega)))).trans (HCG.out (bt a1 x13_1).toNat (by omega))
                change wr.cell? _ = some (.int .i64 (sxV a0 (bt a1 x13_1))) at hcg
                rw [ht_] at hcg
                clear ht_
                replace HO_6 : Aside0 (Kd.R (Kd.int .u8) 5 wr.drew w.heap.size (fun _ => True) u6 x6_1) := ⟨Kd.R_drew HO_6.out⟩
                replace HB : Aside0 (Below w.heap.size w wr.drew) := ⟨below_drew HB.out⟩
                go_wp2
                refine start_ (n := 9) (S := (fun W : World => W.cell? ⟨g, 1 + (bt a1 x13_1).toNat, none⟩ = some (.int .i64 t101))) (ds := []) #[false, false, false, false, false, false, false, false, false] (by kernel_rfl) rfl rfl hcg (fun hHeld => ?_)
                generalize wr.drew = wd_ at HO_6 HB hHeld ⊢
                refine pure_ (i := 0) (N := some 18) (v := ?_) (a' := ?_) #[true, false, false, false, false, false, false, false, false] rfl rfl (by kernel_rfl) (fun _ _ _ h => h) (Or.inl ⟨by rfl, ?_⟩) ?_ ?_
                rotate_left
                · intro w'
                  go_simp
                  try with_reducible rfl
                rotate_left
                · simp only [Act.put, List.setIfInBounds_toArray, List.set_cons_zero, List.set_cons_succ, i64_w, i32_w]
                  rfl
                refine pure_ (i := 1) (N := some 19) (v := ?_) (a' := ?_) #[true, true, false, false, false, false, false, false, false] rfl rfl (by kernel_rfl) (fun _ _ _ h => h) (Or.inl ⟨by rfl, ?_⟩) ?_ ?_
                rotate_left
                · intro w'
                  go_simp
                  try with_reducible rfl
                rotate_left
                · simp only [Act.put, List.setIfInBounds_toArray, List.set_cons_zero, List.set_cons_succ, i64_w, i32_w]
                  rfl
                refine pure_ (i := 2) (N := some 20) (v := ?_) (a' := ?_) #[true, true, true, false, false, false, false, false, false] rfl rfl (by kernel_rfl) (fun _ _ _ h => h) (Or.inl ⟨by rfl, ?_⟩) ?_ ?_
                rotate_left
                · intro w'
                  go_simp
                  try with_reducible rfl
                rotate_left
                · simp only [Act.put, List.setIfInBounds_toArray, List.set_cons_zero, List.set_cons_succ, i64_w, i32_w]
                  rfl
                refine pure_ (i := 3) (N := some 21) (v := ?_) (a' := ?_) #[true, true, true, true, false, false, false, false, false] rfl rfl (by kernel_rfl) (fun _ _ _ h => h) (Or.inl ⟨by rfl, ?_⟩) ?_ ?_
                rotate_left
                · intro w'
                  go_simp
                  try with_reducible rfl
                rotate_left
                · simp only [Act.put, List.setIfInBounds_toArray, List.set_cons_zero, List.set_cons_succ, i64_w, i32_w]
                  rfl
                refine pure_ (i := 4) (N := some 22) (v := ?_) (a' := ?_) #[true, true, true, true, true, false, false, false, false] rfl rfl (by kernel_rfl) (fun _ _ _ h => h) (Or.inl ⟨by rfl, ?_⟩) ?_ ?_
                rotate_left
                · intro w'
                  go_simp
                  try with_reducible rfl
                rotate_left
                · simp only [Act.put, List.setIfInBounds_toArray, List.set_cons_zero, List.set_cons_succ, i64_w, i32_w]
                  rfl
                refine pure_ (i := 5) (N := some 23) (v := ?_) (a' := ?_) #[true, true, true, true, true, true, false, false, false] rfl rfl (by kernel_rfl) (fun _ _ _ h => h) (Or.inl ⟨by rfl, ?_⟩) ?_ ?_
                rotate_left
                · intro w'
                  go_simp
                  try with_reducible rfl
                rotate_left
                · simp only [Act.put, List.setIfInBounds_toArray, List.set_cons_zero, List.set_cons_succ, i64_w, i32_w]
                  rfl
                refine pure_ (i := 6) (N := some 24) (v := ?_) (a' := ?_) #[true, true, true, true, true, true, true, false, false] rfl rfl (by kernel_rfl) (fun _ _ _ h => h) (Or.inl ⟨by rfl, ?_⟩) ?_ ?_
                rotate_left
                · intro w'
                  go_simp
                  try with_reducible rfl
                rotate_left
                · simp only [Act.put, List.setIfInBounds_toArray, List.set_cons_zero, List.set_cons_succ, i64_w, i32_w]
                  rfl
                refine take_ (i := 7) (N := some 25) (v := ?_) (a' := ?_) #[true, true, true, true, true, true, true, true, false] rfl rfl (by kernel_rfl) (fun _ _ _ h => h) (Or.inl ⟨by rfl, ?_⟩) hHeld ?_ ?_
                rotate_left
                · intro w' hSw
                  (try simp only [] at hSw)
                  (repeat obtain ⟨hs_, hSw⟩ := hSw)
                  go_simp
                  try with_reducible rfl
                rotate_left
                · simp only [Act.put, List.setIfInBounds_toArray, List.set_cons_zero, List.set_cons_succ, i64_w, i32_w]
                  rfl
                refine pure_ (i := 8) (N := some 10) (v := ?_) (a' := ?_) #[true, true, true, true, true, true, true, true, true] rfl rfl (by kernel_rfl) (fun _ _ _ h => h) (Or.inl ⟨by rfl, ?_⟩) ?_ ?_
                rotate_left
                · intro w'
                  go_simp
                  try with_reducible rfl
                rotate_left
                · simp only [Act.put, List.setIfInBounds_toArray, List.set_cons_zero, List.set_cons_succ, i64_w, i32_w]
                  rfl
                refine done_ (by kernel_rfl) ?_
                clear hcg hHeld
                go_wp2
                go_roundg k1
                case measure => have := HK1.out; omega
                case rel => exact ⟨(x6_1), (Go.bits .or .u32 ((x7_1 * 64) % 4294967296) ((wrap64 (t101 - 1)) % 4294967296)), (wrap64 (x8_1 + 6)), (wrap64 (x13_1 + 1)), (by first | rfl | (simp; done) | (simp [*]; done)), (by first | rfl | (simp; done) | (simp [*]; done)), (by first | rfl | (simp; done) | (simp [*]; done)), H', ⟨by have := HK1.out; omega⟩, ⟨by (with_reducible repeat (first | apply Kd.R_alloc | apply Kd.R_drewN | apply Kd.R_drew)); exact HO_6.out⟩, ⟨by repeat (first | (with_reducible first | exact HB.out | apply below_alloc | apply pw_below_drewN | apply below_drew1) | exact HB.out)⟩⟩
          · rw [if_neg c5] at H
            exact absurd H (by simp)
        · rw [if_neg c4] at H
          exact absurd H (by simp)
      · rw [if_neg c3] at H
        have c3b0 : decide (x13_1 < (a1.size : Int)) = false := decide_eq_false c3
        clear c3
        by_cases c15 : ((a1.size : Int) % 4) = 1
        · rw [if_pos c15] at H
          have c15b0 : (((a1.size : Int) % 4) == 1) = true := beq_iff_eq.mpr c15
          have c15b1 : (((a1.size : Int) % 4) != 1) = false := bne_eq_false_iff_eq.mpr c15
          clear c15
          simp only [Option.some.injEq, Prod.mk.injEq] at H
          obtain ⟨rfl, rfl⟩ := H
          go_wp2
          go_ret2
          exact ⟨by first | rfl | (simp [errW_none, errW_some] <;> rfl) | (simp [*, errW_none, errW_some] <;> rfl), by repeat (first | (with_reducible first | exact HB.out | apply below_alloc | apply pw_below_drewN | apply below_drew1) | exact HB.out)⟩
        · rw [if_neg c15] at H
          have c15b0 : (((a1.size : Int) % 4) == 1) = false := beq_eq_false_iff_ne.mpr c15
          have c15b1 : (((a1.size : Int) % 4) != 1) = true := bne_iff_ne.mpr c15
          by_cases c16 : 0 ≤ x8_1
          · rw [if_pos c16] at H
            have c16b0 := eq_true c16
            have c16b1 : decide (0 ≤ x8_1) = true := decide_eq_true c16
            clear c16
            obtain ⟨ji17, hji17⟩ : ∃ j_ : Int, (shl .u32 1 x8_1) = j_ := ⟨_, rfl⟩
            replace H : (if (Go.bits .and .u32 x7_1 (((ji17) - 1) % 4294967296)) = 0 then (some (strOfNums x6_1, 0)) else (some ((⟨#[]⟩ : ByteArray), 5))) = some (r1, r2) := by first | (rw [hji17] at H; exact H) | (simp only [hji17] at H ⊢; exact H)
            have hji17_ : (IntKind.u32.wrap (1 * 2 ^ min x8_1.toNat 32)) = ji17 := hji17
            have hji17z : x8_1 ≤ 32 → (IntKind.u32.wrap (1 * 2 ^ x8_1.toNat)) = ji17 := shl_small hji17
            have hji17u : (IntKind.u32.wrap (2 ^ min x8_1.toNat 32)) = ji17 := by have h_ := hji17_; rw [Int.one_mul] at h_; exact h_
            have hji17v : x8_1 ≤ 32 → (IntKind.u32.wrap (2 ^ x8_1.toNat)) = ji17 := fun hle_ => by have h_ := hji17z hle_; rw [Int.one_mul] at h_; exact h_
            by_cases c18 : (Go.bits .and .u32 x7_1 (((ji17) - 1) % 4294967296)) = 0
            · rw [if_pos c18] at H
              have c18b0 : ((Go.bits .and .u32 x7_1 (((ji17) - 1) % 4294967296)) == 0) = true := beq_iff_eq.mpr c18
              have c18b1 : ((Go.bits .and .u32 x7_1 (((ji17) - 1) % 4294967296)) != 0) = false := bne_eq_false_iff_eq.mpr c18
              clear c18
              simp only [Option.some.injEq, Prod.mk.injEq] at H
              obtain ⟨rfl, rfl⟩ := H
              have hcv19 := own_string (P := Try.prog) Try.underlying101 Try.underlying5 Try.underlying9 (Kd.own_of_R HO_6.out)
              go_wp2
              go_ret2
              exact ⟨by first | rfl | (simp [errW_none, errW_some] <;> rfl) | (simp only [← hji17]; first | rfl | (simp [errW_none, errW_some] <;> rfl)) | (simp [*, errW_none, errW_some] <;> rfl), by repeat (first | (with_reducible first | exact HB.out | apply below_alloc | apply pw_below_drewN | apply below_drew1) | exact HB.out)⟩
            · rw [if_neg c18] at H
              have c18b0 : ((Go.bits .and .u32 x7_1 (((ji17) - 1) % 4294967296)) == 0) = false := beq_eq_false_iff_ne.mpr c18
              have c18b1 : ((Go.bits .and .u32 x7_1 (((ji17) - 1) % 4294967296)) != 0) = true := bne_iff_ne.mpr c18
              simp only [Option.some.injEq, Prod.mk.injEq] at H
              obtain ⟨rfl, rfl⟩ := H
              go_wp2
              go_ret2
              exact ⟨by first | rfl | (simp [errW_none, errW_some] <;> rfl) | (simp only [← hji17]; first | rfl | (simp [errW_none, errW_some] <;> rfl)) | (simp [*, errW_none, errW_some] <;> rfl), by repeat (first | (with_reducible first | exact HB.out | apply below_alloc | apply pw_below_drewN | apply below_drew1) | exact HB.out)⟩
          · rw [if_neg c16] at H
            exact absurd H (by simp)
set_option maxRecDepth 100000 in
theorem sextet_Coder_Decode.nil (s : ByteArray) (w : World) : Calls Try.prog 89 #[.pointer none, .string s] w fun e w' => e = .returned (.tuple #[.string ⟨#[]⟩, .int .i64 11]) ∧ Drawn0 w w' := by
  go_enter Try.func89, Try.ntmps89
  go_wp2
  go_ret2
  exact ⟨rfl, Drawn0.refl _⟩

end Go.Proofs.Ytoknoghdnedmhaa.Pall
