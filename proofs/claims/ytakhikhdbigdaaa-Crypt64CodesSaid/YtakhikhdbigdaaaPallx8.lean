-- PRINTED by print.py (a twelfth state) out of the translation. Not trusted: Lean checks it.
import Derived.Test.YtakhikhdbigdaaaPallx0
import Derived.Test.YtakhikhdbigdaaaPallx1
import Derived.Test.YtakhikhdbigdaaaPallx2
import Derived.Test.YtakhikhdbigdaaaPallx3
import Derived.Test.YtakhikhdbigdaaaPallx4
import Derived.Test.YtakhikhdbigdaaaPallx6
import Derived.Test.YtakhikhdbigdaaaPallx7
namespace Go.Proofs.Ytakhikhdbigdaaa.Pall
open Go.RowKit Go.Proofs.YtakhikhdbigdaaaW.PrintWords Go.Proofs.YtakhikhdbigdaaaW.PrintLast Go.Proofs.YtakhikhdbigdaaaW.PrintMore
attribute [local go_sem] max2_int min2_int max_two min_two max_three min_three max_four min_four   -- for this text's walks alone
set_option linter.unusedVariables false
set_option linter.unusedSimpArgs false

/-! ### pestleref17_Part: function 40 -/
def pestleref17_Part.f (k : Nat) (a0 : ByteArray) : Option (ByteArray × ByteArray × Int) := if (a0.size : Int) = 53 then ((pestleref15_Crypt.f).bind fun t122 => (if 0 ≤ 22 then (if 22 ≤ (a0.size : Int) then ((pestleref15_Decode.f k t122 (a0.extract 0 22)).bind fun bt123 => (if bt123.2 = 0 then ((pestleref15_Crypt.f).bind fun t125 => ((pestleref15_Decode.f k t125 (a0.extract 22 a0.size)).bind fun bt126 => (if bt126.2 = 0 then (some (bt123.1, bt126.1, 0)) else (some ((⟨#[]⟩ : ByteArray), (⟨#[]⟩ : ByteArray), bt126.2))))) else (some ((⟨#[]⟩ : ByteArray), (⟨#[]⟩ : ByteArray), bt123.2)))) else (none)) else (none))) else (some ((⟨#[]⟩ : ByteArray), (⟨#[]⟩ : ByteArray), 9))
theorem pestleref17_Part.mono : ∀ a0 k, LeO (pestleref17_Part.f k a0) (pestleref17_Part.f (k + 1) a0) := by
  intro a0 k
  unfold pestleref17_Part.f
  repeat' first
      | (with_reducible exact pestleref15_Decode.mono _ _ _)
      | (with_reducible exact LeO.refl _)
      | (with_reducible exact LeO.none _)
      | (with_reducible refine LeO.ite ?_ ?_)
      | (with_reducible refine LeO.bind ?_ (fun _ => ?_))
      | exact pestleref15_Decode.mono _ _ _
      | exact LeO.none _
      | refine LeO.ite ?_ ?_
      | refine LeO.bind ?_ (fun _ => ?_)
def pestleref17_Part.T3 : Bool × List (List Nat × List Nat) := (true, [([], []), ([], []), ([1], [1]), ([0, 2, 0], [0, 2]), ([3], [3]), ([4], [4]), ([4], [4]), ([5, 3, 0, 1, 2, 3, 4, 5], [5]), ([6, 7, 0, 1, 2, 3, 4, 5, 6, 7], [6])])
def pestleref17_Part.B3 : List Nat := [0, 0, 2, 7, 15, 31, 31, 63, 255]
theorem pestleref17_Part.tab3 : rtab .any (opsOf Try.f40 3) = pestleref17_Part.T3 := by kernel_rfl
theorem pestleref17_Part.bits3 : waitsOk pestleref17_Part.T3.2 pestleref17_Part.B3 = true := by kernel_rfl
def pestleref17_Part.T6 : Bool × List (List Nat × List Nat) := (true, [([], []), ([], []), ([1], [1]), ([0, 2, 0], [0, 2]), ([3], [3]), ([4], [4]), ([4], [4]), ([5, 3, 0, 1, 2, 3, 4, 5], [5]), ([6, 7, 0, 1, 2, 3, 4, 5, 6, 7], [6])])
def pestleref17_Part.B6 : List Nat := [0, 0, 2, 7, 15, 31, 31, 63, 255]
theorem pestleref17_Part.tab6 : rtab .any (opsOf Try.f40 6) = pestleref17_Part.T6 := by kernel_rfl
theorem pestleref17_Part.bits6 : waitsOk pestleref17_Part.T6.2 pestleref17_Part.B6 = true := by kernel_rfl
set_option maxHeartbeats 8000000 in
set_option maxRecDepth 100000 in
theorem pestleref17_Part.calls (k : Nat) (a0 : ByteArray) (r1 : ByteArray) (r2 : ByteArray) (r3 : Int) (w : World) (h : pestleref17_Part.f k a0 = some (r1, r2, r3)) :
    Calls Try.prog 40 #[.string a0] w fun e w' => e = .returned (.tuple #[.string r1, .string r2, .int .i64 r3]) ∧ Below w.heap.size w w' := by
  have HB := Aside0.mk (Below.refl w.heap.size w)
  have H : (if (a0.size : Int) = 53 then ((pestleref15_Crypt.f).bind fun t122 => (if 0 ≤ 22 then (if 22 ≤ (a0.size : Int) then ((pestleref15_Decode.f k t122 (a0.extract 0 22)).bind fun bt123 => (if bt123.2 = 0 then ((pestleref15_Crypt.f).bind fun t125 => ((pestleref15_Decode.f k t125 (a0.extract 22 a0.size)).bind fun bt126 => (if bt126.2 = 0 then (some (bt123.1, bt126.1, 0)) else (some ((⟨#[]⟩ : ByteArray), (⟨#[]⟩ : ByteArray), bt126.2))))) else (some ((⟨#[]⟩ : ByteArray), (⟨#[]⟩ : ByteArray), bt123.2)))) else (none)) else (none))) else (some ((⟨#[]⟩ : ByteArray), (⟨#[]⟩ : ByteArray), 9))) = some (r1, r2, r3) := h
  clear h
  by_cases c2 : (a0.size : Int) = 53
  · rw [if_pos c2] at H
    have c2b0 : ((a0.size : Int) == 53) = true := beq_iff_eq.mpr c2
    have c2b1 : ((a0.size : Int) != 53) = false := bne_eq_false_iff_eq.mpr c2
    clear c2
    replace H := Option.bind_eq_some_iff.mp H
    obtain ⟨t122, A30, H⟩ := H
    replace H : (if 0 ≤ 22 then (if 22 ≤ (a0.size : Int) then ((pestleref15_Decode.f k t122 (a0.extract 0 22)).bind fun bt123 => (if bt123.2 = 0 then ((pestleref15_Crypt.f).bind fun t125 => ((pestleref15_Decode.f k t125 (a0.extract 22 a0.size)).bind fun bt126 => (if bt126.2 = 0 then (some (bt123.1, bt126.1, 0)) else (some ((⟨#[]⟩ : ByteArray), (⟨#[]⟩ : ByteArray), bt126.2))))) else (some ((⟨#[]⟩ : ByteArray), (⟨#[]⟩ : ByteArray), bt123.2)))) else (none)) else (none)) = some (r1, r2, r3) := H
    have A3 := Aside0.mk A30
    clear A30
    by_cases c4 : 0 ≤ 22
    · rw [if_pos c4] at H
      have c4b0 := eq_true c4
      have c4b1 : decide (0 ≤ 22) = true := decide_eq_true c4
      clear c4
      by_cases c5 : 22 ≤ (a0.size : Int)
      · rw [if_pos c5] at H
        have c5b0 := eq_true c5
        have c5b1 : decide (22 ≤ (a0.size : Int)) = true := decide_eq_true c5
        clear c5
        replace H := Option.bind_eq_some_iff.mp H
        obtain ⟨⟨t123, t124⟩, A60, H⟩ := H
        replace H : (if t124 = 0 then ((pestleref15_Crypt.f).bind fun t125 => ((pestleref15_Decode.f k t125 (a0.extract 22 a0.size)).bind fun bt126 => (if bt126.2 = 0 then (some (t123, bt126.1, 0)) else (some ((⟨#[]⟩ : ByteArray), (⟨#[]⟩ : ByteArray), bt126.2))))) else (some ((⟨#[]⟩ : ByteArray), (⟨#[]⟩ : ByteArray), t124))) = some (r1, r2, r3) := H
        have A6 := Aside0.mk A60
        clear A60
        by_cases c7 : t124 = 0
        · rw [if_pos c7] at H
          have c7b0 : (t124 == 0) = true := beq_iff_eq.mpr c7
          have c7b1 : (t124 != 0) = false := bne_eq_false_iff_eq.mpr c7
          clear c7
          replace H := Option.bind_eq_some_iff.mp H
          obtain ⟨t125, A80, H⟩ := H
          replace H : ((pestleref15_Decode.f k t125 (a0.extract 22 a0.size)).bind fun bt126 => (if bt126.2 = 0 then (some (t123, bt126.1, 0)) else (some ((⟨#[]⟩ : ByteArray), (⟨#[]⟩ : ByteArray), bt126.2)))) = some (r1, r2, r3) := H
          have A8 := Aside0.mk A80
          clear A80
          have c9b0 := eq_true (of_decide_eq_true (by first | (with_reducible assumption) | assumption) : 22 ≤ (a0.size : Int))
          replace H := Option.bind_eq_some_iff.mp H
          obtain ⟨⟨t126, t127⟩, A100, H⟩ := H
          replace H : (if t127 = 0 then (some (t123, t126, 0)) else (some ((⟨#[]⟩ : ByteArray), (⟨#[]⟩ : ByteArray), t127))) = some (r1, r2, r3) := H
          have A10 := Aside0.mk A100
          clear A100
          by_cases c11 : t127 = 0
          · rw [if_pos c11] at H
            have c11b0 : (t127 == 0) = true := beq_iff_eq.mpr c11
            have c11b1 : (t127 != 0) = false := bne_eq_false_iff_eq.mpr c11
            clear c11
            simp only [Option.some.injEq, Prod.mk.injEq] at H
            obtain ⟨rfl, rfl, rfl⟩ := H
            go_enter Try.func40, Try.ntmps40
            try go_wp2
            have n0_ := Aside0.mk (below_drew1 HB.out)
            clear HB
            have HB := n0_
            clear n0_
            refine start_ (n := 9) (S := fun w' => True) (ds := []) #[false, false, false, false, false, false, false, false, false] (by kernel_rfl) rfl rfl trivial (fun hHeld => ?_); refine with_tabW pestleref17_Part.tab3 pestleref17_Part.bits3 (fun HT_ HW_ => ?_)
            generalize w.drew = w12 at HB hHeld ⊢
            refine pure_ (i := 1) (N := some 13) (v := ?_) (a' := ?_) #[false, true, false, false, false, false, false, false, false] rfl rfl (any_of HT_.out (by kernel_rfl)) (fun _ _ _ h => h) (Or.inl ⟨by rfl, ?_⟩) ?_ ?_
            rotate_left
            · intro w'
              go_simp
              with_reducible rfl
            rotate_left
            · simp only [Act.put, List.setIfInBounds_toArray, List.set_cons_zero, List.set_cons_succ, i64_w, i32_w]
              rfl
            refine pure_ (i := 2) (N := some 14) (v := ?_) (a' := ?_) #[false, true, true, false, false, false, false, false, false] rfl rfl (any_of HT_.out (by kernel_rfl)) (fun _ _ _ h => h) (Or.inl ⟨by rfl, ?_⟩) ?_ ?_
            rotate_left
            · intro w'
              go_simp
              with_reducible rfl
            rotate_left
            · simp only [Act.put, List.setIfInBounds_toArray, List.set_cons_zero, List.set_cons_succ, i64_w, i32_w]
              rfl
            refine one_ (i := 0) (N := some 12) #[true, true, true, false, false, false, false, false, false] rfl rfl (one_of HT_.out (by kernel_rfl)) (by decide) (fun K hK => ?_)
            refine goes_ Try.func55 (by kernel_rfl) rfl #[] (by rfl) rfl rfl (by (try simp only [List.map_toArray, List.map_cons, List.map_nil]); first | done | rfl | (simp only [List.length_drop, List.length_take]; rfl)) ?_
            with_reducible refine (pestleref15_Crypt.calls  t122 _ A3.out).mono ?_
            rintro e w' ⟨rfl, ⟨nd, rfl⟩⟩
            refine ⟨_, rfl, ?_⟩
            refine hK.out _ _ trivial (fun hHeld => ?_)
            clear hK K
            refine norm_ (a' := ?_) ?_ ?_
            rotate_left
            · show Act.put _ (some 12) _ = _
              simp only [Act.put, List.setIfInBounds_toArray, List.set_cons_zero, List.set_cons_succ, i64_w, i32_w]
              rfl
            refine one_ (i := 3) (N := some 15) #[true, true, true, true, false, false, false, false, false] rfl rfl (one_of HT_.out (by kernel_rfl)) (by decide) (fun K hK => ?_)
            refine goes_ Try.func30 (by kernel_rfl) rfl #[.string t122, .string (a0.extract 0 22)] (by rfl) rfl rfl (by (try simp only [List.map_toArray, List.map_cons, List.map_nil]); first | done | rfl | (simp only [List.length_drop, List.length_take]; rfl)) ?_
            with_reducible refine (pestleref15_Decode.calls k t122 (a0.extract 0 22) t123 t124 _ A6.out).mono ?_
            rintro e w13 ⟨rfl, hb⟩
            refine ⟨_, rfl, ?_⟩
            have n0_ := Aside0.mk (below_step (by repeat (first | (with_reducible first | exact HB.out | apply below_alloc | apply pw_below_drewN | apply below_drew1) | exact HB.out)) hb)
            clear HB
            have HB := n0_
            clear n0_
            (try clear hb)
            (try clear hb2)
            (try clear hk)
            (try clear hi)
            refine hK.out _ _ trivial (fun hHeld => ?_)
            clear hK K
            refine norm_ (a' := ?_) ?_ ?_
            rotate_left
            · show Act.put _ (some 15) _ = _
              simp only [Act.put, List.setIfInBounds_toArray, List.set_cons_zero, List.set_cons_succ, i64_w, i32_w]
              rfl
            refine pure_ (i := 4) (N := some 11) (v := ?_) (a' := ?_) #[true, true, true, true, true, false, false, false, false] rfl rfl (any_of HT_.out (by kernel_rfl)) (fun _ _ _ h => h) (Or.inl ⟨by rfl, ?_⟩) ?_ ?_
            rotate_left
            · intro w'
              go_simp
              with_reducible rfl
            rotate_left
            · simp only [Act.put, List.setIfInBounds_toArray, List.set_cons_zero, List.set_cons_succ, i64_w, i32_w]
              rfl
            refine pure_ (i := 5) (N := some 16) (v := ?_) (a' := ?_) #[true, true, true, true, true, true, false, false, false] rfl rfl (any_of HT_.out (by kernel_rfl)) (fun _ _ _ h => h) (Or.inl ⟨by rfl, ?_⟩) ?_ ?_
            rotate_left
            · intro w'
              go_simp
              with_reducible rfl
            rotate_left
            · simp only [Act.put, List.setIfInBounds_toArray, List.set_cons_zero, List.set_cons_succ, i64_w, i32_w]
              rfl
            refine pure_ (i := 6) (N := some 17) (v := ?_) (a' := ?_) #[true, true, true, true, true, true, true, false, false] rfl rfl (any_of HT_.out (by kernel_rfl)) (fun _ _ _ h => h) (Or.inl ⟨by rfl, ?_⟩) ?_ ?_
            rotate_left
            · intro w'
              go_simp
              with_reducible rfl
            rotate_left
            · simp only [Act.put, List.setIfInBounds_toArray, List.set_cons_zero, List.set_cons_succ, i64_w, i32_w]
              rfl
            refine pure_ (i := 7) (N := some 5) (v := ?_) (a' := ?_) #[true, true, true, true, true, true, true, true, false] rfl rfl (any_of HT_.out (by kernel_rfl)) (fun _ _ _ h => h) (Or.inl ⟨by rfl, ?_⟩) ?_ ?_
            rotate_left
            · intro w'
              go_simp
              with_reducible rfl
            rotate_left
            · simp only [Act.put, List.setIfInBounds_toArray, List.set_cons_zero, List.set_cons_succ, i64_w, i32_w]
              rfl
            refine pure_ (i := 8) (N := some 6) (v := ?_) (a' := ?_) #[true, true, true, true, true, true, true, true, true] rfl rfl (any_of HT_.out (by kernel_rfl)) (fun _ _ _ h => h) (Or.inl ⟨by rfl, ?_⟩) ?_ ?_
            rotate_left
            · intro w'
              go_simp
              with_reducible rfl
            rotate_left
            · simp only [Act.put, List.setIfInBounds_toArray, List.set_cons_zero, List.set_cons_succ, i64_w, i32_w]
              rfl
            refine done_ (done_of HT_.out (by kernel_rfl)) ?_
            try go_wp2
            have n0_ := Aside0.mk (below_drew1 HB.out)
            clear HB
            have HB := n0_
            clear n0_
            refine start_ (n := 9) (S := fun w' => True) (ds := []) #[false, false, false, false, false, false, false, false, false] (by kernel_rfl) rfl rfl trivial (fun hHeld => ?_); refine with_tabW pestleref17_Part.tab6 pestleref17_Part.bits6 (fun HT_ HW_ => ?_)
            generalize w13.drew = w14 at HB hHeld ⊢
            refine pure_ (i := 1) (N := some 23) (v := ?_) (a' := ?_) #[false, true, false, false, false, false, false, false, false] rfl rfl (any_of HT_.out (by kernel_rfl)) (fun _ _ _ h => h) (Or.inl ⟨by rfl, ?_⟩) ?_ ?_
            rotate_left
            · intro w'
              go_simp
              with_reducible rfl
            rotate_left
            · simp only [Act.put, List.setIfInBounds_toArray, List.set_cons_zero, List.set_cons_succ, i64_w, i32_w]
              rfl
            refine pure_ (i := 2) (N := some 24) (v := ?_) (a' := ?_) #[false, true, true, false, false, false, false, false, false] rfl rfl (any_of HT_.out (by kernel_rfl)) (fun _ _ _ h => h) (Or.inl ⟨by rfl, ?_⟩) ?_ ?_
            rotate_left
            · intro w'
              go_simp
              with_reducible rfl
            rotate_left
            · simp only [Act.put, List.setIfInBounds_toArray, List.set_cons_zero, List.set_cons_succ, i64_w, i32_w]
              rfl
            refine one_ (i := 0) (N := some 22) #[true, true, true, false, false, false, false, false, false] rfl rfl (one_of HT_.out (by kernel_rfl)) (by decide) (fun K hK => ?_)
            refine goes_ Try.func55 (by kernel_rfl) rfl #[] (by rfl) rfl rfl (by (try simp only [List.map_toArray, List.map_cons, List.map_nil]); first | done | rfl | (simp only [List.length_drop, List.length_take]; rfl)) ?_
            with_reducible refine (pestleref15_Crypt.calls  t125 _ A8.out).mono ?_
            rintro e w' ⟨rfl, ⟨nd, rfl⟩⟩
            refine ⟨_, rfl, ?_⟩
            refine hK.out _ _ trivial (fun hHeld => ?_)
            clear hK K
            refine norm_ (a' := ?_) ?_ ?_
            rotate_left
            · show Act.put _ (some 22) _ = _
              simp only [Act.put, List.setIfInBounds_toArray, List.set_cons_zero, List.set_cons_succ, i64_w, i32_w]
              rfl
            refine one_ (i := 3) (N := some 25) #[true, true, true, true, false, false, false, false, false] rfl rfl (one_of HT_.out (by kernel_rfl)) (by decide) (fun K hK => ?_)
            refine goes_ Try.func30 (by kernel_rfl) rfl #[.string t125, .string (a0.extract 22 a0.size)] (by rfl) rfl rfl (by (try simp only [List.map_toArray, List.map_cons, List.map_nil]); first | done | rfl | (simp only [List.length_drop, List.length_take]; rfl)) ?_
            with_reducible refine (pestleref15_Decode.calls k t125 (a0.extract 22 a0.size) t126 t127 _ A10.out).mono ?_
            rintro e w15 ⟨rfl, hb⟩
            refine ⟨_, rfl, ?_⟩
            have n0_ := Aside0.mk (below_step (by repeat (first | (with_reducible first | exact HB.out | apply below_alloc | apply pw_below_drewN | apply below_drew1) | exact HB.out)) hb)
            clear HB
            have HB := n0_
            clear n0_
            (try clear hb)
            (try clear hb2)
            (try clear hk)
            (try clear hi)
            refine hK.out _ _ trivial (fun hHeld => ?_)
            clear hK K
            refine norm_ (a' := ?_) ?_ ?_
            rotate_left
            · show Act.put _ (some 25) _ = _
              simp only [Act.put, List.setIfInBounds_toArray, List.set_cons_zero, List.set_cons_succ, i64_w, i32_w]
              rfl
            refine pure_ (i := 4) (N := some 21) (v := ?_) (a' := ?_) #[true, true, true, true, true, false, false, false, false] rfl rfl (any_of HT_.out (by kernel_rfl)) (fun _ _ _ h => h) (Or.inl ⟨by rfl, ?_⟩) ?_ ?_
            rotate_left
            · intro w'
              go_simp
              with_reducible rfl
            rotate_left
            · simp only [Act.put, List.setIfInBounds_toArray, List.set_cons_zero, List.set_cons_succ, i64_w, i32_w]
              rfl
            refine pure_ (i := 5) (N := some 26) (v := ?_) (a' := ?_) #[true, true, true, true, true, true, false, false, false] rfl rfl (any_of HT_.out (by kernel_rfl)) (fun _ _ _ h => h) (Or.inl ⟨by rfl, ?_⟩) ?_ ?_
            rotate_left
            · intro w'
              go_simp
              with_reducible rfl
            rotate_left
            · simp only [Act.put, List.setIfInBounds_toArray, List.set_cons_zero, List.set_cons_succ, i64_w, i32_w]
              rfl
            refine pure_ (i := 6) (N := some 27) (v := ?_) (a' := ?_) #[true, true, true, true, true, true, true, false, false] rfl rfl (any_of HT_.out (by kernel_rfl)) (fun _ _ _ h => h) (Or.inl ⟨by rfl, ?_⟩) ?_ ?_
            rotate_left
            · intro w'
              go_simp
              with_reducible rfl
            rotate_left
            · simp only [Act.put, List.setIfInBounds_toArray, List.set_cons_zero, List.set_cons_succ, i64_w, i32_w]
              rfl
            refine pure_ (i := 7) (N := some 7) (v := ?_) (a' := ?_) #[true, true, true, true, true, true, true, true, false] rfl rfl (any_of HT_.out (by kernel_rfl)) (fun _ _ _ h => h) (Or.inl ⟨by rfl, ?_⟩) ?_ ?_
            rotate_left
            · intro w'
              go_simp
              with_reducible rfl
            rotate_left
            · simp only [Act.put, List.setIfInBounds_toArray, List.set_cons_zero, List.set_cons_succ, i64_w, i32_w]
              rfl
            refine pure_ (i := 8) (N := some 6) (v := ?_) (a' := ?_) #[true, true, true, true, true, true, true, true, true] rfl rfl (any_of HT_.out (by kernel_rfl)) (fun _ _ _ h => h) (Or.inl ⟨by rfl, ?_⟩) ?_ ?_
            rotate_left
            · intro w'
              go_simp
              with_reducible rfl
            rotate_left
            · simp only [Act.put, List.setIfInBounds_toArray, List.set_cons_zero, List.set_cons_succ, i64_w, i32_w]
              rfl
            refine done_ (done_of HT_.out (by kernel_rfl)) ?_
            try go_wp2
            go_ret3
            exact ⟨by first | rfl | (simp [errW_none, errW_some] <;> rfl) | (simp [*, errW_none, errW_some] <;> rfl), by repeat (first | (with_reducible first | exact HB.out | apply below_alloc | apply pw_below_drewN | apply below_drew1) | exact HB.out)⟩
          · rw [if_neg c11] at H
            have c11b0 : (t127 == 0) = false := beq_eq_false_iff_ne.mpr c11
            have c11b1 : (t127 != 0) = true := bne_iff_ne.mpr c11
            simp only [Option.some.injEq, Prod.mk.injEq] at H
            obtain ⟨rfl, rfl, rfl⟩ := H
            go_enter Try.func40, Try.ntmps40
            try go_wp2
            have n0_ := Aside0.mk (below_drew1 HB.out)
            clear HB
            have HB := n0_
            clear n0_
            refine start_ (n := 9) (S := fun w' => True) (ds := []) #[false, false, false, false, false, false, false, false, false] (by kernel_rfl) rfl rfl trivial (fun hHeld => ?_); refine with_tabW pestleref17_Part.tab3 pestleref17_Part.bits3 (fun HT_ HW_ => ?_)
            generalize w.drew = w16 at HB hHeld ⊢
            refine pure_ (i := 1) (N := some 13) (v := ?_) (a' := ?_) #[false, true, false, false, false, false, false, false, false] rfl rfl (any_of HT_.out (by kernel_rfl)) (fun _ _ _ h => h) (Or.inl ⟨by rfl, ?_⟩) ?_ ?_
            rotate_left
            · intro w'
              go_simp
              with_reducible rfl
            rotate_left
            · simp only [Act.put, List.setIfInBounds_toArray, List.set_cons_zero, List.set_cons_succ, i64_w, i32_w]
              rfl
            refine pure_ (i := 2) (N := some 14) (v := ?_) (a' := ?_) #[false, true, true, false, false, false, false, false, false] rfl rfl (any_of HT_.out (by kernel_rfl)) (fun _ _ _ h => h) (Or.inl ⟨by rfl, ?_⟩) ?_ ?_
            rotate_left
            · intro w'
              go_simp
              with_reducible rfl
            rotate_left
            · simp only [Act.put, List.setIfInBounds_toArray, List.set_cons_zero, List.set_cons_succ, i64_w, i32_w]
              rfl
            refine one_ (i := 0) (N := some 12) #[true, true, true, false, false, false, false, false, false] rfl rfl (one_of HT_.out (by kernel_rfl)) (by decide) (fun K hK => ?_)
            refine goes_ Try.func55 (by kernel_rfl) rfl #[] (by rfl) rfl rfl (by (try simp only [List.map_toArray, List.map_cons, List.map_nil]); first | done | rfl | (simp only [List.length_drop, List.length_take]; rfl)) ?_
            with_reducible refine (pestleref15_Crypt.calls  t122 _ A3.out).mono ?_
            rintro e w' ⟨rfl, ⟨nd, rfl⟩⟩
            refine ⟨_, rfl, ?_⟩
            refine hK.out _ _ trivial (fun hHeld => ?_)
            clear hK K
            refine norm_ (a' := ?_) ?_ ?_
            rotate_left
            · show Act.put _ (some 12) _ = _
              simp only [Act.put, List.setIfInBounds_toArray, List.set_cons_zero, List.set_cons_succ, i64_w, i32_w]
              rfl
            refine one_ (i := 3) (N := some 15) #[true, true, true, true, false, false, false, false, false] rfl rfl (one_of HT_.out (by kernel_rfl)) (by decide) (fun K hK => ?_)
            refine goes_ Try.func30 (by kernel_rfl) rfl #[.string t122, .string (a0.extract 0 22)] (by rfl) rfl rfl (by (try simp only [List.map_toArray, List.map_cons, List.map_nil]); first | done | rfl | (simp only [List.length_drop, List.length_take]; rfl)) ?_
            with_reducible refine (pestleref15_Decode.calls k t122 (a0.extract 0 22) t123 t124 _ A6.out).mono ?_
            rintro e w17 ⟨rfl, hb⟩
            refine ⟨_, rfl, ?_⟩
            have n0_ := Aside0.mk (below_step (by repeat (first | (with_reducible first | exact HB.out | apply below_alloc | apply pw_below_drewN | apply below_drew1) | exact HB.out)) hb)
            clear HB
            have HB := n0_
            clear n0_
            (try clear hb)
            (try clear hb2)
            (try clear hk)
            (try clear hi)
            refine hK.out _ _ trivial (fun hHeld => ?_)
            clear hK K
            refine norm_ (a' := ?_) ?_ ?_
            rotate_left
            · show Act.put _ (some 15) _ = _
              simp only [Act.put, List.setIfInBounds_toArray, List.set_cons_zero, List.set_cons_succ, i64_w, i32_w]
              rfl
            refine pure_ (i := 4) (N := some 11) (v := ?_) (a' := ?_) #[true, true, true, true, true, false, false, false, false] rfl rfl (any_of HT_.out (by kernel_rfl)) (fun _ _ _ h => h) (Or.inl ⟨by rfl, ?_⟩) ?_ ?_
            rotate_left
            · intro w'
              go_simp
              with_reducible rfl
            rotate_left
            · simp only [Act.put, List.setIfInBounds_toArray, List.set_cons_zero, List.set_cons_succ, i64_w, i32_w]
              rfl
            refine pure_ (i := 5) (N := some 16) (v := ?_) (a' := ?_) #[true, true, true, true, true, true, false, false, false] rfl rfl (any_of HT_.out (by kernel_rfl)) (fun _ _ _ h => h) (Or.inl ⟨by rfl, ?_⟩) ?_ ?_
            rotate_left
            · intro w'
              go_simp
              with_reducible rfl
            rotate_left
            · simp only [Act.put, List.setIfInBounds_toArray, List.set_cons_zero, List.set_cons_succ, i64_w, i32_w]
              rfl
            refine pure_ (i := 6) (N := some 17) (v := ?_) (a' := ?_) #[true, true, true, true, true, true, true, false, false] rfl rfl (any_of HT_.out (by kernel_rfl)) (fun _ _ _ h => h) (Or.inl ⟨by rfl, ?_⟩) ?_ ?_
            rotate_left
            · intro w'
              go_simp
              with_reducible rfl
            rotate_left
            · simp only [Act.put, List.setIfInBounds_toArray, List.set_cons_zero, List.set_cons_succ, i64_w, i32_w]
              rfl
            refine pure_ (i := 7) (N := some 5) (v := ?_) (a' := ?_) #[true, true, true, true, true, true, true, true, false] rfl rfl (any_of HT_.out (by kernel_rfl)) (fun _ _ _ h => h) (Or.inl ⟨by rfl, ?_⟩) ?_ ?_
            rotate_left
            · intro w'
              go_simp
              with_reducible rfl
            rotate_left
            · simp only [Act.put, List.setIfInBounds_toArray, List.set_cons_zero, List.set_cons_succ, i64_w, i32_w]
              rfl
            refine pure_ (i := 8) (N := some 6) (v := ?_) (a' := ?_) #[true, true, true, true, true, true, true, true, true] rfl rfl (any_of HT_.out (by kernel_rfl)) (fun _ _ _ h => h) (Or.inl ⟨by rfl, ?_⟩) ?_ ?_
            rotate_left
            · intro w'
              go_simp
              with_reducible rfl
            rotate_left
            · simp only [Act.put, List.setIfInBounds_toArray, List.set_cons_zero, List.set_cons_succ, i64_w, i32_w]
              rfl
            refine done_ (done_of HT_.out (by kernel_rfl)) ?_
            try go_wp2
            have n0_ := Aside0.mk (below_drew1 HB.out)
            clear HB
            have HB := n0_
            clear n0_
            refine start_ (n := 9) (S := fun w' => True) (ds := []) #[false, false, false, false, false, false, false, false, false] (by kernel_rfl) rfl rfl trivial (fun hHeld => ?_); refine with_tabW pestleref17_Part.tab6 pestleref17_Part.bits6 (fun HT_ HW_ => ?_)
            generalize w17.drew = w18 at HB hHeld ⊢
            refine pure_ (i := 1) (N := some 23) (v := ?_) (a' := ?_) #[false, true, false, false, false, false, false, false, false] rfl rfl (any_of HT_.out (by kernel_rfl)) (fun _ _ _ h => h) (Or.inl ⟨by rfl, ?_⟩) ?_ ?_
            rotate_left
            · intro w'
              go_simp
              with_reducible rfl
            rotate_left
            · simp only [Act.put, List.setIfInBounds_toArray, List.set_cons_zero, List.set_cons_succ, i64_w, i32_w]
              rfl
            refine pure_ (i := 2) (N := some 24) (v := ?_) (a' := ?_) #[false, true, true, false, false, false, false, false, false] rfl rfl (any_of HT_.out (by kernel_rfl)) (fun _ _ _ h => h) (Or.inl ⟨by rfl, ?_⟩) ?_ ?_
            rotate_left
            · intro w'
              go_simp
              with_reducible rfl
            rotate_left
            · simp only [Act.put, List.setIfInBounds_toArray, List.set_cons_zero, List.set_cons_succ, i64_w, i32_w]
              rfl
            refine one_ (i := 0) (N := some 22) #[true, true, true, false, false, false, false, false, false] rfl rfl (one_of HT_.out (by kernel_rfl)) (by decide) (fun K hK => ?_)
            refine goes_ Try.func55 (by kernel_rfl) rfl #[] (by rfl) rfl rfl (by (try simp only [List.map_toArray, List.map_cons, List.map_nil]); first | done | rfl | (simp only [List.length_drop, List.length_take]; rfl)) ?_
            with_reducible refine (pestleref15_Crypt.calls  t125 _ A8.out).mono ?_
            rintro e w' ⟨rfl, ⟨nd, rfl⟩⟩
            refine ⟨_, rfl, ?_⟩
            refine hK.out _ _ trivial (fun hHeld => ?_)
            clear hK K
            refine norm_ (a' := ?_) ?_ ?_
            rotate_left
            · show Act.put _ (some 22) _ = _
              simp only [Act.put, List.setIfInBounds_toArray, List.set_cons_zero, List.set_cons_succ, i64_w, i32_w]
              rfl
            refine one_ (i := 3) (N := some 25) #[true, true, true, true, false, false, false, false, false] rfl rfl (one_of HT_.out (by kernel_rfl)) (by decide) (fun K hK => ?_)
            refine goes_ Try.func30 (by kernel_rfl) rfl #[.string t125, .string (a0.extract 22 a0.size)] (by rfl) rfl rfl (by (try simp only [List.map_toArray, List.map_cons, List.map_nil]); first | done | rfl | (simp only [List.length_drop, List.length_take]; rfl)) ?_
            with_reducible refine (pestleref15_Decode.calls k t125 (a0.extract 22 a0.size) t126 t127 _ A10.out).mono ?_
            rintro e w19 ⟨rfl, hb⟩
            refine ⟨_, rfl, ?_⟩
            have n0_ := Aside0.mk (below_step (by repeat (first | (with_reducible first | exact HB.out | apply below_alloc | apply pw_below_drewN | apply below_drew1) | exact HB.out)) hb)
            clear HB
            have HB := n0_
            clear n0_
            (try clear hb)
            (try clear hb2)
            (try clear hk)
            (try clear hi)
            refine hK.out _ _ trivial (fun hHeld => ?_)
            clear hK K
            refine norm_ (a' := ?_) ?_ ?_
            rotate_left
            · show Act.put _ (some 25) _ = _
              simp only [Act.put, List.setIfInBounds_toArray, List.set_cons_zero, List.set_cons_succ, i64_w, i32_w]
              rfl
            refine pure_ (i := 4) (N := some 21) (v := ?_) (a' := ?_) #[true, true, true, true, true, false, false, false, false] rfl rfl (any_of HT_.out (by kernel_rfl)) (fun _ _ _ h => h) (Or.inl ⟨by rfl, ?_⟩) ?_ ?_
            rotate_left
            · intro w'
              go_simp
              with_reducible rfl
            rotate_left
            · simp only [Act.put, List.setIfInBounds_toArray, List.set_cons_zero, List.set_cons_succ, i64_w, i32_w]
              rfl
            refine pure_ (i := 5) (N := some 26) (v := ?_) (a' := ?_) #[true, true, true, true, true, true, false, false, false] rfl rfl (any_of HT_.out (by kernel_rfl)) (fun _ _ _ h => h) (Or.inl ⟨by rfl, ?_⟩) ?_ ?_
            rotate_left
            · intro w'
              go_simp
              with_reducible rfl
            rotate_left
            · simp only [Act.put, List.setIfInBounds_toArray, List.set_cons_zero, List.set_cons_succ, i64_w, i32_w]
              rfl
            refine pure_ (i := 6) (N := some 27) (v := ?_) (a' := ?_) #[true, true, true, true, true, true, true, false, false] rfl rfl (any_of HT_.out (by kernel_rfl)) (fun _ _ _ h => h) (Or.inl ⟨by rfl, ?_⟩) ?_ ?_
            rotate_left
            · intro w'
              go_simp
              with_reducible rfl
            rotate_left
            · simp only [Act.put, List.setIfInBounds_toArray, List.set_cons_zero, List.set_cons_succ, i64_w, i32_w]
              rfl
            refine pure_ (i := 7) (N := some 7) (v := ?_) (a' := ?_) #[true, true, true, true, true, true, true, true, false] rfl rfl (any_of HT_.out (by kernel_rfl)) (fun _ _ _ h => h) (Or.inl ⟨by rfl, ?_⟩) ?_ ?_
            rotate_left
            · intro w'
              go_simp
              with_reducible rfl
            rotate_left
            · simp only [Act.put, List.setIfInBounds_toArray, List.set_cons_zero, List.set_cons_succ, i64_w, i32_w]
              rfl
            refine pure_ (i := 8) (N := some 6) (v := ?_) (a' := ?_) #[true, true, true, true, true, true, true, true, true] rfl rfl (any_of HT_.out (by kernel_rfl)) (fun _ _ _ h => h) (Or.inl ⟨by rfl, ?_⟩) ?_ ?_
            rotate_left
            · intro w'
              go_simp
              with_reducible rfl
            rotate_left
            · simp only [Act.put, List.setIfInBounds_toArray, List.set_cons_zero, List.set_cons_succ, i64_w, i32_w]
              rfl
            refine done_ (done_of HT_.out (by kernel_rfl)) ?_
            try go_wp2
            go_ret3
            exact ⟨by first | rfl | (simp [errW_none, errW_some] <;> rfl) | (simp [*, errW_none, errW_some] <;> rfl), by repeat (first | (with_reducible first | exact HB.out | apply below_alloc | apply pw_below_drewN | apply below_drew1) | exact HB.out)⟩
        · rw [if_neg c7] at H
          have c7b0 : (t124 == 0) = false := beq_eq_false_iff_ne.mpr c7
          have c7b1 : (t124 != 0) = true := bne_iff_ne.mpr c7
          simp only [Option.some.injEq, Prod.mk.injEq] at H
          obtain ⟨rfl, rfl, rfl⟩ := H
          go_enter Try.func40, Try.ntmps40
          try go_wp2
          have n0_ := Aside0.mk (below_drew1 HB.out)
          clear HB
          have HB := n0_
          clear n0_
          refine start_ (n := 9) (S := fun w' => True) (ds := []) #[false, false, false, false, false, false, false, false, false] (by kernel_rfl) rfl rfl trivial (fun hHeld => ?_); refine with_tabW pestleref17_Part.tab3 pestleref17_Part.bits3 (fun HT_ HW_ => ?_)
          generalize w.drew = w20 at HB hHeld ⊢
          refine pure_ (i := 1) (N := some 13) (v := ?_) (a' := ?_) #[false, true, false, false, false, false, false, false, false] rfl rfl (any_of HT_.out (by kernel_rfl)) (fun _ _ _ h => h) (Or.inl ⟨by rfl, ?_⟩) ?_ ?_
          rotate_left
          · intro w'
            go_simp
            with_reducible rfl
          rotate_left
          · simp only [Act.put, List.setIfInBounds_toArray, List.set_cons_zero, List.set_cons_succ, i64_w, i32_w]
            rfl
          refine pure_ (i := 2) (N := some 14) (v := ?_) (a' := ?_) #[false, true, true, false, false, false, false, false, false] rfl rfl (any_of HT_.out (by kernel_rfl)) (fun _ _ _ h => h) (Or.inl ⟨by rfl, ?_⟩) ?_ ?_
          rotate_left
          · intro w'
            go_simp
            with_reducible rfl
          rotate_left
          · simp only [Act.put, List.setIfInBounds_toArray, List.set_cons_zero, List.set_cons_succ, i64_w, i32_w]
            rfl
          refine one_ (i := 0) (N := some 12) #[true, true, true, false, false, false, false, false, false] rfl rfl (one_of HT_.out (by kernel_rfl)) (by decide) (fun K hK => ?_)
          refine goes_ Try.func55 (by kernel_rfl) rfl #[] (by rfl) rfl rfl (by (try simp only [List.map_toArray, List.map_cons, List.map_nil]); first | done | rfl | (simp only [List.length_drop, List.length_take]; rfl)) ?_
          with_reducible refine (pestleref15_Crypt.calls  t122 _ A3.out).mono ?_
          rintro e w' ⟨rfl, ⟨nd, rfl⟩⟩
          refine ⟨_, rfl, ?_⟩
          refine hK.out _ _ trivial (fun hHeld => ?_)
          clear hK K
          refine norm_ (a' := ?_) ?_ ?_
          rotate_left
          · show Act.put _ (some 12) _ = _
            simp only [Act.put, List.setIfInBounds_toArray, List.set_cons_zero, List.set_cons_succ, i64_w, i32_w]
            rfl
          refine one_ (i := 3) (N := some 15) #[true, true, true, true, false, false, false, false, false] rfl rfl (one_of HT_.out (by kernel_rfl)) (by decide) (fun K hK => ?_)
          refine goes_ Try.func30 (by kernel_rfl) rfl #[.string t122, .string (a0.extract 0 22)] (by rfl) rfl rfl (by (try simp only [List.map_toArray, List.map_cons, List.map_nil]); first | done | rfl | (simp only [List.length_drop, List.length_take]; rfl)) ?_
          with_reducible refine (pestleref15_Decode.calls k t122 (a0.extract 0 22) t123 t124 _ A6.out).mono ?_
          rintro e w21 ⟨rfl, hb⟩
          refine ⟨_, rfl, ?_⟩
          have n0_ := Aside0.mk (below_step (by repeat (first | (with_reducible first | exact HB.out | apply below_alloc | apply pw_below_drewN | apply below_drew1) | exact HB.out)) hb)
          clear HB
          have HB := n0_
          clear n0_
          (try clear hb)
          (try clear hb2)
          (try clear hk)
          (try clear hi)
          refine hK.out _ _ trivial (fun hHeld => ?_)
          clear hK K
          refine norm_ (a' := ?_) ?_ ?_
          rotate_left
          · show Act.put _ (some 15) _ = _
            simp only [Act.put, List.setIfInBounds_toArray, List.set_cons_zero, List.set_cons_succ, i64_w, i32_w]
            rfl
          refine pure_ (i := 4) (N := some 11) (v := ?_) (a' := ?_) #[true, true, true, true, true, false, false, false, false] rfl rfl (any_of HT_.out (by kernel_rfl)) (fun _ _ _ h => h) (Or.inl ⟨by rfl, ?_⟩) ?_ ?_
          rotate_left
          · intro w'
            go_simp
            with_reducible rfl
          rotate_left
          · simp only [Act.put, List.setIfInBounds_toArray, List.set_cons_zero, List.set_cons_succ, i64_w, i32_w]
            rfl
          refine pure_ (i := 5) (N := some 16) (v := ?_) (a' := ?_) #[true, true, true, true, true, true, false, false, false] rfl rfl (any_of HT_.out (by kernel_rfl)) (fun _ _ _ h => h) (Or.inl ⟨by rfl, ?_⟩) ?_ ?_
          rotate_left
          · intro w'
            go_simp
            with_reducible rfl
          rotate_left
          · simp only [Act.put, List.setIfInBounds_toArray, List.set_cons_zero, List.set_cons_succ, i64_w, i32_w]
            rfl
          refine pure_ (i := 6) (N := some 17) (v := ?_) (a' := ?_) #[true, true, true, true, true, true, true, false, false] rfl rfl (any_of HT_.out (by kernel_rfl)) (fun _ _ _ h => h) (Or.inl ⟨by rfl, ?_⟩) ?_ ?_
          rotate_left
          · intro w'
            go_simp
            with_reducible rfl
          rotate_left
          · simp only [Act.put, List.setIfInBounds_toArray, List.set_cons_zero, List.set_cons_succ, i64_w, i32_w]
            rfl
          refine pure_ (i := 7) (N := some 5) (v := ?_) (a' := ?_) #[true, true, true, true, true, true, true, true, false] rfl rfl (any_of HT_.out (by kernel_rfl)) (fun _ _ _ h => h) (Or.inl ⟨by rfl, ?_⟩) ?_ ?_
          rotate_left
          · intro w'
            go_simp
            with_reducible rfl
          rotate_left
          · simp only [Act.put, List.setIfInBounds_toArray, List.set_cons_zero, List.set_cons_succ, i64_w, i32_w]
            rfl
          refine pure_ (i := 8) (N := some 6) (v := ?_) (a' := ?_) #[true, true, true, true, true, true, true, true, true] rfl rfl (any_of HT_.out (by kernel_rfl)) (fun _ _ _ h => h) (Or.inl ⟨by rfl, ?_⟩) ?_ ?_
          rotate_left
          · intro w'
            go_simp
            with_reducible rfl
          rotate_left
          · simp only [Act.put, List.setIfInBounds_toArray, List.set_cons_zero, List.set_cons_succ, i64_w, i32_w]
            rfl
          refine done_ (done_of HT_.out (by kernel_rfl)) ?_
          try go_wp2
          go_ret3
          exact ⟨by first | rfl | (simp [errW_none, errW_some] <;> rfl) | (simp [*, errW_none, errW_some] <;> rfl), by repeat (first | (with_reducible first | exact HB.out | apply below_alloc | apply pw_below_drewN | apply below_drew1) | exact HB.out)⟩
      · rw [if_neg c5] at H
        exact absurd H (by simp)
    · rw [if_neg c4] at H
      exact absurd H (by simp)
  · rw [if_neg c2] at H
    have c2b0 : ((a0.size : Int) == 53) = false := beq_eq_false_iff_ne.mpr c2
    have c2b1 : ((a0.size : Int) != 53) = true := bne_iff_ne.mpr c2
    simp only [Option.some.injEq, Prod.mk.injEq] at H
    obtain ⟨rfl, rfl, rfl⟩ := H
    go_enter Try.func40, Try.ntmps40
    go_wp2
    go_ret3
    exact ⟨by first | rfl | (simp [errW_none, errW_some] <;> rfl) | (simp [*, errW_none, errW_some] <;> rfl), by repeat (first | (with_reducible first | exact HB.out | apply below_alloc | apply pw_below_drewN | apply below_drew1) | exact HB.out)⟩

/-! ### pestlelaw17_Crypt64Codes: function 9 -/
def pestlelaw17_Crypt64Codes.good (k : Nat) (salt sum s : ByteArray) : Option Bool := (crypt64_Code_Join.f k salt sum).bind fun a => (pestleref17_Join.f k salt sum).bind fun b => (crypt64_Code_Part.f k s).bind fun x => (pestleref17_Part.f k s).bind fun y => (if a = b ∧ x = y then some true else none)
def pestlelaw17_Crypt64Codes.f (k : Nat) (salt sum s : ByteArray) : Option Bool := (pestlelaw17_awake.f k).bind fun _ => (if salt.size > 100 then some true else (if sum.size > 100 then some true else (if s.size > 200 then some true else pestlelaw17_Crypt64Codes.good k salt sum s)))
theorem pestlelaw17_Crypt64Codes.mono : ∀ a0 a1 a2 k, LeO (pestlelaw17_Crypt64Codes.f k a0 a1 a2) (pestlelaw17_Crypt64Codes.f (k + 1) a0 a1 a2) := by
  intro a0 a1 a2 k
  unfold pestlelaw17_Crypt64Codes.f pestlelaw17_Crypt64Codes.good
  exact LeO.bind (pestlelaw17_awake.mono _) (fun _ => LeO.ite (LeO.refl _) (LeO.ite (LeO.refl _) (LeO.ite (LeO.refl _) (LeO.bind (crypt64_Code_Join.mono _ _ _) (fun _ => LeO.bind (pestleref17_Join.mono _ _ _) (fun _ => LeO.bind (crypt64_Code_Part.mono _ _) (fun _ => LeO.bind (pestleref17_Part.mono _ _) (fun _ => LeO.refl _))))))))
theorem pestlelaw17_Crypt64Codes.yes {k : Nat} {salt sum s : ByteArray} {r : Bool} (h : pestlelaw17_Crypt64Codes.f k salt sum s = some r) : r = true := by
  unfold pestlelaw17_Crypt64Codes.f pestlelaw17_Crypt64Codes.good at h
  replace h := Option.bind_eq_some_iff.mp h
  obtain ⟨_, _, h⟩ := h
  split at h
  · exact (Option.some.inj h).symm
  split at h
  · exact (Option.some.inj h).symm
  split at h
  · exact (Option.some.inj h).symm
  replace h := Option.bind_eq_some_iff.mp h
  obtain ⟨_, _, h⟩ := h
  replace h := Option.bind_eq_some_iff.mp h
  obtain ⟨_, _, h⟩ := h
  replace h := Option.bind_eq_some_iff.mp h
  obtain ⟨_, _, h⟩ := h
  replace h := Option.bind_eq_some_iff.mp h
  obtain ⟨_, _, h⟩ := h
  split at h
  · exact (Option.some.inj h).symm
  · cases h
set_option maxHeartbeats 8000000 in
set_option maxRecDepth 100000 in
theorem pestlelaw17_Crypt64Codes.go (k : Nat) (salt sum s : ByteArray) (r : Bool) (w : World) (h : pestlelaw17_Crypt64Codes.f k salt sum s = some r) :
    Calls Try.prog 9 #[.string salt, .string sum, .string s] w fun e w' => e = .returned (.bool r) ∧ Below w.heap.size w w' := by
  have hr := pestlelaw17_Crypt64Codes.yes h
  subst hr
  unfold pestlelaw17_Crypt64Codes.f at h
  replace h := Option.bind_eq_some_iff.mp h
  obtain ⟨aw, A0, h⟩ := h
  obtain rfl := pestlelaw17_awake.yes A0
  replace A0 := Aside0.mk A0
  have HB := Aside0.mk (Below.refl w.heap.size w)
  by_cases g1 : salt.size > 100
  · have g1b : decide ((100 : Int) < ((salt.size : Nat) : Int)) = true := decide_eq_true (by omega)
    have g1d : decide (100 < salt.size) = true := decide_eq_true g1
    clear h
    go_enter Try.func9, Try.ntmps9
    go_wp2_with (first | (go_at_call 35; with_reducible refine (pestlelaw17_awake.calls k true _ A0.out).mono ?_; rintro e wn ⟨rfl, hb⟩; have n0_ := Aside0.mk (below_step HB.out hb); clear hb HB ; have HB := n0_; clear n0_))
    go_ret
    exact ⟨rfl, HB.out⟩
  rw [if_neg g1] at h
  have g1b : decide ((100 : Int) < ((salt.size : Nat) : Int)) = false := decide_eq_false (by omega)
  have g1d : decide (100 < salt.size) = false := decide_eq_false g1
  by_cases g2 : sum.size > 100
  · have g2b : decide ((100 : Int) < ((sum.size : Nat) : Int)) = true := decide_eq_true (by omega)
    have g2d : decide (100 < sum.size) = true := decide_eq_true g2
    clear h
    go_enter Try.func9, Try.ntmps9
    go_wp2_with (first | (go_at_call 35; with_reducible refine (pestlelaw17_awake.calls k true _ A0.out).mono ?_; rintro e wn ⟨rfl, hb⟩; have n0_ := Aside0.mk (below_step HB.out hb); clear hb HB ; have HB := n0_; clear n0_))
    go_ret
    exact ⟨rfl, HB.out⟩
  rw [if_neg g2] at h
  have g2b : decide ((100 : Int) < ((sum.size : Nat) : Int)) = false := decide_eq_false (by omega)
  have g2d : decide (100 < sum.size) = false := decide_eq_false g2
  by_cases g3 : s.size > 200
  · have g3b : decide ((200 : Int) < ((s.size : Nat) : Int)) = true := decide_eq_true (by omega)
    have g3d : decide (200 < s.size) = true := decide_eq_true g3
    clear h
    go_enter Try.func9, Try.ntmps9
    go_wp2_with (first | (go_at_call 35; with_reducible refine (pestlelaw17_awake.calls k true _ A0.out).mono ?_; rintro e wn ⟨rfl, hb⟩; have n0_ := Aside0.mk (below_step HB.out hb); clear hb HB ; have HB := n0_; clear n0_))
    go_ret
    exact ⟨rfl, HB.out⟩
  rw [if_neg g3] at h
  have g3b : decide ((200 : Int) < ((s.size : Nat) : Int)) = false := decide_eq_false (by omega)
  have g3d : decide (200 < s.size) = false := decide_eq_false g3
  unfold pestlelaw17_Crypt64Codes.good at h
  replace h := Option.bind_eq_some_iff.mp h
  obtain ⟨⟨a1, a2⟩, A1, h⟩ := h
  replace h := Option.bind_eq_some_iff.mp h
  obtain ⟨⟨b1, b2⟩, A2, h⟩ := h
  replace h := Option.bind_eq_some_iff.mp h
  obtain ⟨⟨x1, x2, x3⟩, A3, h⟩ := h
  replace h := Option.bind_eq_some_iff.mp h
  obtain ⟨⟨y1, y2, y3⟩, A4, h⟩ := h
  by_cases z : (a1, a2) = (b1, b2) ∧ (x1, x2, x3) = (y1, y2, y3)
  case neg => rw [if_neg z] at h; cases h
  clear h
  simp only [Prod.mk.injEq] at z
  obtain ⟨⟨rfl, rfl⟩, rfl, rfl, rfl⟩ := z
  replace A1 := Aside0.mk A1
  replace A2 := Aside0.mk A2
  replace A3 := Aside0.mk A3
  replace A4 := Aside0.mk A4
  go_enter Try.func9, Try.ntmps9
  go_wp2_with (first | (go_at_call 35; with_reducible refine (pestlelaw17_awake.calls k true _ A0.out).mono ?_; rintro e wn ⟨rfl, hb⟩; have n0_ := Aside0.mk (below_step HB.out hb); clear hb HB ; have HB := n0_; clear n0_) | (go_at_call 36; with_reducible refine (crypt64_New.calls _).mono ?_; rintro e wn ⟨g, c, hg, hc, rfl, hp, hb⟩; have n0_ := Aside0.mk (below_step HB.out hb); have HP := Aside0.mk hp; clear hb HB hg hc hp; have HB := n0_; clear n0_) | (go_at_call 37; with_reducible refine (crypt64_Code_Join.calls k g c salt sum a1 a2 _ HP.out A1.out).mono ?_; rintro e wn ⟨rfl, hb⟩; have n0_ := Aside0.mk (below_step HB.out hb); have n1_ := Aside0.mk (HP.out.next hb); clear hb HB HP ; have HB := n0_; have HP := n1_; clear n0_ n1_) | (go_at_call 38; with_reducible refine (pestleref17_Join.calls k salt sum a1 a2 _ A2.out).mono ?_; rintro e wn ⟨rfl, hb⟩; have n0_ := Aside0.mk (below_step HB.out hb); have n1_ := Aside0.mk (HP.out.next hb); clear hb HB HP ; have HB := n0_; have HP := n1_; clear n0_ n1_) | (go_at_call 39; with_reducible refine (crypt64_Code_Part.calls k g c s x1 x2 x3 _ HP.out A3.out).mono ?_; rintro e wn ⟨rfl, hb⟩; have n0_ := Aside0.mk (below_step HB.out hb); have n1_ := Aside0.mk (HP.out.next hb); clear hb HB HP ; have HB := n0_; have HP := n1_; clear n0_ n1_) | (go_at_call 40; with_reducible refine (pestleref17_Part.calls k s x1 x2 x3 _ A4.out).mono ?_; rintro e wn ⟨rfl, hb⟩; have n0_ := Aside0.mk (below_step HB.out hb); have n1_ := Aside0.mk (HP.out.next hb); clear hb HB HP ; have HB := n0_; have HP := n1_; clear n0_ n1_))
  go_ret
  exact ⟨rfl, HB.out⟩
theorem pestlelaw17_Crypt64Codes.calls (k : Nat) (a0 : ByteArray) (a1 : ByteArray) (a2 : ByteArray) (r : Bool) (w : World) (h : pestlelaw17_Crypt64Codes.f k a0 a1 a2 = some r) :
    Calls Try.prog 9 #[.string a0, .string a1, .string a2] w fun e w' => e = .returned (.bool r) ∧ Below w.heap.size w w' := pestlelaw17_Crypt64Codes.go k a0 a1 a2 r w h

/-! ### pestlelaw17_Crypt64Back: function 10 -/
def pestlelaw17_Crypt64Back.one (k : Nat) (salt sum : ByteArray) (a : ByteArray × Int) : Option Unit := if a.2 = 0 then (crypt64_Code_Part.f k a.1).bind fun b => (if b = (salt, sum, 0) ∧ a.1.size = 53 then some () else none) else some ()
def pestlelaw17_Crypt64Back.good (k : Nat) (salt sum s : ByteArray) : Option Bool := (crypt64_Code_Join.f k salt sum).bind fun a => (pestlelaw17_Crypt64Back.one k salt sum a).bind fun _ => (crypt64_Code_Part.f k s).bind fun x => (if x.2.2 = 0 then (crypt64_Code_Join.f k x.1 x.2.1).bind fun y => (if y = (s, 0) then some true else none) else (if x.1.toList = [] ∧ x.2.1.toList = [] then some true else none))
def pestlelaw17_Crypt64Back.f (k : Nat) (salt sum s : ByteArray) : Option Bool := (pestlelaw17_awake.f k).bind fun _ => pestlelaw17_Crypt64Back.good k salt sum s
theorem pestlelaw17_Crypt64Back.mono : ∀ a0 a1 a2 k, LeO (pestlelaw17_Crypt64Back.f k a0 a1 a2) (pestlelaw17_Crypt64Back.f (k + 1) a0 a1 a2) := by
  intro a0 a1 a2 k
  unfold pestlelaw17_Crypt64Back.f pestlelaw17_Crypt64Back.good pestlelaw17_Crypt64Back.one
  exact LeO.bind (pestlelaw17_awake.mono _) (fun _ => LeO.bind (crypt64_Code_Join.mono _ _ _) (fun _ => LeO.bind (LeO.ite (LeO.bind (crypt64_Code_Part.mono _ _) (fun _ => LeO.refl _)) (LeO.refl _)) (fun _ => LeO.bind (crypt64_Code_Part.mono _ _) (fun _ => LeO.ite (LeO.bind (crypt64_Code_Join.mono _ _ _) (fun _ => LeO.refl _)) (LeO.refl _)))))
theorem pestlelaw17_Crypt64Back.yes {k : Nat} {salt sum s : ByteArray} {r : Bool} (h : pestlelaw17_Crypt64Back.f k salt sum s = some r) : r = true := by
  unfold pestlelaw17_Crypt64Back.f pestlelaw17_Crypt64Back.good at h
  replace h := Option.bind_eq_some_iff.mp h
  obtain ⟨_, _, h⟩ := h
  replace h := Option.bind_eq_some_iff.mp h
  obtain ⟨_, _, h⟩ := h
  replace h := Option.bind_eq_some_iff.mp h
  obtain ⟨_, _, h⟩ := h
  replace h := Option.bind_eq_some_iff.mp h
  obtain ⟨_, _, h⟩ := h
  split at h
  · obtain ⟨_, _, h⟩ := Option.bind_eq_some_iff.mp h
    split at h
    · exact (Option.some.inj h).symm
    · cases h
  · split at h
    · exact (Option.some.inj h).symm
    · cases h
set_option maxHeartbeats 8000000 in
set_option maxRecDepth 100000 in
theorem pestlelaw17_Crypt64Back.go (k : Nat) (salt sum s : ByteArray) (r : Bool) (w : World) (h : pestlelaw17_Crypt64Back.f k salt sum s = some r) :
    Calls Try.prog 10 #[.string salt, .string sum, .string s] w fun e w' => e = .returned (.bool r) ∧ Below w.heap.size w w' := by
  have hr := pestlelaw17_Crypt64Back.yes h
  subst hr
  unfold pestlelaw17_Crypt64Back.f at h
  replace h := Option.bind_eq_some_iff.mp h
  obtain ⟨aw, A0, h⟩ := h
  obtain rfl := pestlelaw17_awake.yes A0
  replace A0 := Aside0.mk A0
  have HB := Aside0.mk (Below.refl w.heap.size w)
  unfold pestlelaw17_Crypt64Back.good at h
  replace h := Option.bind_eq_some_iff.mp h
  obtain ⟨⟨a1, a2⟩, A1, h⟩ := h
  replace h := Option.bind_eq_some_iff.mp h
  obtain ⟨_, O, h⟩ := h
  replace h := Option.bind_eq_some_iff.mp h
  obtain ⟨⟨x1, x2, x3⟩, A3, h⟩ := h
  replace A1 := Aside0.mk A1
  replace A3 := Aside0.mk A3
  unfold pestlelaw17_Crypt64Back.one at O
  by_cases za : a2 = 0
  · subst za
    rw [if_pos rfl] at O
    replace O := Option.bind_eq_some_iff.mp O
    obtain ⟨⟨b1, b2, b3⟩, A2, O⟩ := O
    replace A2 := Aside0.mk A2
    by_cases zb : (b1, b2, b3) = (salt, sum, 0) ∧ a1.size = 53
    case neg => rw [if_neg zb] at O; cases O
    clear O
    obtain ⟨zt, zl⟩ := zb
    simp only [Prod.mk.injEq] at zt
    obtain ⟨rfl, rfl, rfl⟩ := zt
    have f1 : ((a1.size : Int) == 53) = true := by simp; omega
    have f2 : ((a1.size : Int) != 53) = false := by simp; omega
    have f3 : (a1.size == 53) = true := by simp; omega
    have f4 : (a1.size != 53) = false := by simp; omega
    clear zl
    by_cases z : x3 = 0
    · subst z
      rw [if_pos rfl] at h
      replace h := Option.bind_eq_some_iff.mp h
      obtain ⟨⟨y1, y2⟩, A4, h⟩ := h
      replace A4 := Aside0.mk A4
      by_cases z2 : (y1, y2) = (s, 0)
      case neg => rw [if_neg z2] at h; cases h
      clear h
      simp only [Prod.mk.injEq] at z2
      obtain ⟨rfl, rfl⟩ := z2
      go_enter Try.func10, Try.ntmps10
      go_wp2_with (first | (go_at_call 35; with_reducible refine (pestlelaw17_awake.calls k true _ A0.out).mono ?_; rintro e wn ⟨rfl, hb⟩; have n0_ := Aside0.mk (below_step HB.out hb); clear hb HB ; have HB := n0_; clear n0_) | (go_at_call 37; with_reducible refine (crypt64_Code_Join.nil b1 b2 _).mono ?_; rintro e wn ⟨rfl, hb⟩; have n0_ := Aside0.mk (below_step HB.out hb); clear hb HB ; have HB := n0_; clear n0_) | (go_at_call 39; with_reducible refine (crypt64_Code_Part.nil y1 _).mono ?_; rintro e wn ⟨rfl, hb⟩; have n0_ := Aside0.mk (below_step HB.out hb); clear hb HB ; have HB := n0_; clear n0_) | (go_at_call 36; with_reducible refine (crypt64_New.calls _).mono ?_; rintro e wn ⟨g, c, hg, hc, rfl, hp, hb⟩; have n0_ := Aside0.mk (below_step HB.out hb); have HP := Aside0.mk hp; clear hb HB hg hc hp; have HB := n0_; clear n0_) | (go_at_call 37; with_reducible refine (crypt64_Code_Join.calls k g c b1 b2 a1 0 _ HP.out A1.out).mono ?_; rintro e wn ⟨rfl, hb⟩; have n0_ := Aside0.mk (below_step HB.out hb); have n1_ := Aside0.mk (HP.out.next hb); clear hb HB HP ; have HB := n0_; have HP := n1_; clear n0_ n1_) | (go_at_call 39; with_reducible refine (crypt64_Code_Part.calls k g c a1 b1 b2 0 _ HP.out A2.out).mono ?_; rintro e wn ⟨rfl, hb⟩; have n0_ := Aside0.mk (below_step HB.out hb); have n1_ := Aside0.mk (HP.out.next hb); clear hb HB HP ; have HB := n0_; have HP := n1_; clear n0_ n1_) | (go_at_call 39; with_reducible refine (crypt64_Code_Part.calls k g c y1 x1 x2 0 _ HP.out A3.out).mono ?_; rintro e wn ⟨rfl, hb⟩; have n0_ := Aside0.mk (below_step HB.out hb); have n1_ := Aside0.mk (HP.out.next hb); clear hb HB HP ; have HB := n0_; have HP := n1_; clear n0_ n1_) | (go_at_call 37; with_reducible refine (crypt64_Code_Join.calls k g c x1 x2 y1 0 _ HP.out A4.out).mono ?_; rintro e wn ⟨rfl, hb⟩; have n0_ := Aside0.mk (below_step HB.out hb); have n1_ := Aside0.mk (HP.out.next hb); clear hb HB HP ; have HB := n0_; have HP := n1_; clear n0_ n1_))
      go_ret
      exact ⟨rfl, HB.out⟩
    · rw [if_neg z] at h
      by_cases z2 : x1.toList = [] ∧ x2.toList = []
      case neg => rw [if_neg z2] at h; cases h
      clear h
      have z3 : (x3 == 0) = false := by simpa using z
      have z4 : (x3 != 0) = true := by simpa using z
      have z5 : (x1.toList == ([] : List UInt8)) = true := by rw [z2.1]; rfl
      have z7 : x1.toList.isEmpty = true := by rw [z2.1]; rfl
      have z6 : (x2.toList == ([] : List UInt8)) = true := by rw [z2.2]; rfl
      have z8 : x2.toList.isEmpty = true := by rw [z2.2]; rfl
      clear z z2
      go_enter Try.func10, Try.ntmps10
      go_wp2_with (first | (go_at_call 35; with_reducible refine (pestlelaw17_awake.calls k true _ A0.out).mono ?_; rintro e wn ⟨rfl, hb⟩; have n0_ := Aside0.mk (below_step HB.out hb); clear hb HB ; have HB := n0_; clear n0_) | (go_at_call 37; with_reducible refine (crypt64_Code_Join.nil b1 b2 _).mono ?_; rintro e wn ⟨rfl, hb⟩; have n0_ := Aside0.mk (below_step HB.out hb); clear hb HB ; have HB := n0_; clear n0_) | (go_at_call 39; with_reducible refine (crypt64_Code_Part.nil s _).mono ?_; rintro e wn ⟨rfl, hb⟩; have n0_ := Aside0.mk (below_step HB.out hb); clear hb HB ; have HB := n0_; clear n0_) | (go_at_call 36; with_reducible refine (crypt64_New.calls _).mono ?_; rintro e wn ⟨g, c, hg, hc, rfl, hp, hb⟩; have n0_ := Aside0.mk (below_step HB.out hb); have HP := Aside0.mk hp; clear hb HB hg hc hp; have HB := n0_; clear n0_) | (go_at_call 37; with_reducible refine (crypt64_Code_Join.calls k g c b1 b2 a1 0 _ HP.out A1.out).mono ?_; rintro e wn ⟨rfl, hb⟩; have n0_ := Aside0.mk (below_step HB.out hb); have n1_ := Aside0.mk (HP.out.next hb); clear hb HB HP ; have HB := n0_; have HP := n1_; clear n0_ n1_) | (go_at_call 39; with_reducible refine (crypt64_Code_Part.calls k g c a1 b1 b2 0 _ HP.out A2.out).mono ?_; rintro e wn ⟨rfl, hb⟩; have n0_ := Aside0.mk (below_step HB.out hb); have n1_ := Aside0.mk (HP.out.next hb); clear hb HB HP ; have HB := n0_; have HP := n1_; clear n0_ n1_) | (go_at_call 39; with_reducible refine (crypt64_Code_Part.calls k g c s x1 x2 x3 _ HP.out A3.out).mono ?_; rintro e wn ⟨rfl, hb⟩; have n0_ := Aside0.mk (below_step HB.out hb); have n1_ := Aside0.mk (HP.out.next hb); clear hb HB HP ; have HB := n0_; have HP := n1_; clear n0_ n1_))
      go_ret
      exact ⟨rfl, HB.out⟩
  · clear O
    have za1 : (a2 == 0) = false := by simpa using za
    have za2 : (a2 != 0) = true := by simpa using za
    clear za
    by_cases z : x3 = 0
    · subst z
      rw [if_pos rfl] at h
      replace h := Option.bind_eq_some_iff.mp h
      obtain ⟨⟨y1, y2⟩, A4, h⟩ := h
      replace A4 := Aside0.mk A4
      by_cases z2 : (y1, y2) = (s, 0)
      case neg => rw [if_neg z2] at h; cases h
      clear h
      simp only [Prod.mk.injEq] at z2
      obtain ⟨rfl, rfl⟩ := z2
      go_enter Try.func10, Try.ntmps10
      go_wp2_with (first | (go_at_call 35; with_reducible refine (pestlelaw17_awake.calls k true _ A0.out).mono ?_; rintro e wn ⟨rfl, hb⟩; have n0_ := Aside0.mk (below_step HB.out hb); clear hb HB ; have HB := n0_; clear n0_) | (go_at_call 37; with_reducible refine (crypt64_Code_Join.nil salt sum _).mono ?_; rintro e wn ⟨rfl, hb⟩; have n0_ := Aside0.mk (below_step HB.out hb); clear hb HB ; have HB := n0_; clear n0_) | (go_at_call 39; with_reducible refine (crypt64_Code_Part.nil y1 _).mono ?_; rintro e wn ⟨rfl, hb⟩; have n0_ := Aside0.mk (below_step HB.out hb); clear hb HB ; have HB := n0_; clear n0_) | (go_at_call 36; with_reducible refine (crypt64_New.calls _).mono ?_; rintro e wn ⟨g, c, hg, hc, rfl, hp, hb⟩; have n0_ := Aside0.mk (below_step HB.out hb); have HP := Aside0.mk hp; clear hb HB hg hc hp; have HB := n0_; clear n0_) | (go_at_call 37; with_reducible refine (crypt64_Code_Join.calls k g c salt sum a1 a2 _ HP.out A1.out).mono ?_; rintro e wn ⟨rfl, hb⟩; have n0_ := Aside0.mk (below_step HB.out hb); have n1_ := Aside0.mk (HP.out.next hb); clear hb HB HP ; have HB := n0_; have HP := n1_; clear n0_ n1_) | (go_at_call 39; with_reducible refine (crypt64_Code_Part.calls k g c y1 x1 x2 0 _ HP.out A3.out).mono ?_; rintro e wn ⟨rfl, hb⟩; have n0_ := Aside0.mk (below_step HB.out hb); have n1_ := Aside0.mk (HP.out.next hb); clear hb HB HP ; have HB := n0_; have HP := n1_; clear n0_ n1_) | (go_at_call 37; with_reducible refine (crypt64_Code_Join.calls k g c x1 x2 y1 0 _ HP.out A4.out).mono ?_; rintro e wn ⟨rfl, hb⟩; have n0_ := Aside0.mk (below_step HB.out hb); have n1_ := Aside0.mk (HP.out.next hb); clear hb HB HP ; have HB := n0_; have HP := n1_; clear n0_ n1_))
      go_ret
      exact ⟨rfl, HB.out⟩
    · rw [if_neg z] at h
      by_cases z2 : x1.toList = [] ∧ x2.toList = []
      case neg => rw [if_neg z2] at h; cases h
      clear h
      have z3 : (x3 == 0) = false := by simpa using z
      have z4 : (x3 != 0) = true := by simpa using z
      have z5 : (x1.toList == ([] : List UInt8)) = true := by rw [z2.1]; rfl
      have z7 : x1.toList.isEmpty = true := by rw [z2.1]; rfl
      have z6 : (x2.toList == ([] : List UInt8)) = true := by rw [z2.2]; rfl
      have z8 : x2.toList.isEmpty = true := by rw [z2.2]; rfl
      clear z z2
      go_enter Try.func10, Try.ntmps10
      go_wp2_with (first | (go_at_call 35; with_reducible refine (pestlelaw17_awake.calls k true _ A0.out).mono ?_; rintro e wn ⟨rfl, hb⟩; have n0_ := Aside0.mk (below_step HB.out hb); clear hb HB ; have HB := n0_; clear n0_) | (go_at_call 37; with_reducible refine (crypt64_Code_Join.nil salt sum _).mono ?_; rintro e wn ⟨rfl, hb⟩; have n0_ := Aside0.mk (below_step HB.out hb); clear hb HB ; have HB := n0_; clear n0_) | (go_at_call 39; with_reducible refine (crypt64_Code_Part.nil s _).mono ?_; rintro e wn ⟨rfl, hb⟩; have n0_ := Aside0.mk (below_step HB.out hb); clear hb HB ; have HB := n0_; clear n0_) | (go_at_call 36; with_reducible refine (crypt64_New.calls _).mono ?_; rintro e wn ⟨g, c, hg, hc, rfl, hp, hb⟩; have n0_ := Aside0.mk (below_step HB.out hb); have HP := Aside0.mk hp; clear hb HB hg hc hp; have HB := n0_; clear n0_) | (go_at_call 37; with_reducible refine (crypt64_Code_Join.calls k g c salt sum a1 a2 _ HP.out A1.out).mono ?_; rintro e wn ⟨rfl, hb⟩; have n0_ := Aside0.mk (below_step HB.out hb); have n1_ := Aside0.mk (HP.out.next hb); clear hb HB HP ; have HB := n0_; have HP := n1_; clear n0_ n1_) | (go_at_call 39; with_reducible refine (crypt64_Code_Part.calls k g c s x1 x2 x3 _ HP.out A3.out).mono ?_; rintro e wn ⟨rfl, hb⟩; have n0_ := Aside0.mk (below_step HB.out hb); have n1_ := Aside0.mk (HP.out.next hb); clear hb HB HP ; have HB := n0_; have HP := n1_; clear n0_ n1_))
      go_ret
      exact ⟨rfl, HB.out⟩
theorem pestlelaw17_Crypt64Back.calls (k : Nat) (a0 : ByteArray) (a1 : ByteArray) (a2 : ByteArray) (r : Bool) (w : World) (h : pestlelaw17_Crypt64Back.f k a0 a1 a2 = some r) :
    Calls Try.prog 10 #[.string a0, .string a1, .string a2] w fun e w' => e = .returned (.bool r) ∧ Below w.heap.size w w' := pestlelaw17_Crypt64Back.go k a0 a1 a2 r w h

end Go.Proofs.Ytakhikhdbigdaaa.Pall
