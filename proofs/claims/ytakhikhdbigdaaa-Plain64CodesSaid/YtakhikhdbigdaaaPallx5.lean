-- PRINTED by print.py (a twelfth state) out of the translation. Not trusted: Lean checks it.
import Derived.Test.YtakhikhdbigdaaaPallx0
import Derived.Test.YtakhikhdbigdaaaPallx1
import Derived.Test.YtakhikhdbigdaaaPallx2
import Derived.Test.YtakhikhdbigdaaaPallx3
import Derived.Test.YtakhikhdbigdaaaPallx4
namespace Go.Proofs.Ytakhikhdbigdaaa.Pall
open Go.RowKit Go.Proofs.YtakhikhdbigdaaaW.PrintWords Go.Proofs.YtakhikhdbigdaaaW.PrintLast Go.Proofs.YtakhikhdbigdaaaW.PrintMore
attribute [local go_sem] max2_int min2_int max_two min_two max_three min_three max_four min_four   -- for this text's walks alone
set_option linter.unusedVariables false
set_option linter.unusedSimpArgs false

/-! ### plain64_Code_Bounds: function 47 -/
set_option maxRecDepth 100000 in
theorem plain64_Code_Bounds.nil (w : World) : Calls Try.prog 47 #[.pointer none] w fun e w' => e = .returned (.tuple #[.int .i64 0, .int .i64 0]) ∧ Drawn0 w w' := by
  go_enter Try.func47, Try.ntmps47
  go_wp2
  go_ret2
  exact ⟨rfl, Drawn0.refl _⟩
set_option maxHeartbeats 8000000 in
set_option maxRecDepth 100000 in
theorem plain64_Code_Bounds.calls (g c : Nat) (l m : Int) (w : World) (hp : P64 79 71 w g c l m) :
    Calls Try.prog 47 #[.pointer (some ⟨g, 0, none⟩)] w fun e w' => e = .returned (.tuple #[.int .i64 (sxLetters l), .int .i64 (sxLetters m)]) ∧ Below w.heap.size w w' := by
  have c0 := hp.c0
  have c1 := hp.c1
  have c2 := hp.c2
  have HP := Aside0.mk hp
  have HB := Aside0.mk (Below.refl w.heap.size w)
  clear hp
  go_enter Try.func47, Try.ntmps47
  go_wp2
  replace HP : Aside0 (P64 79 71 w.drew g c l m) := ⟨HP.out.next (below_drew (Below.refl _ _))⟩
  replace HB : Aside0 (Below w.heap.size w w.drew) := ⟨below_drew HB.out⟩
  clear c0 c1 c2
  refine start_ (n := 20) (S := (fun W : World => W.cell? ⟨g, 0, none⟩ = some (.pointer (some ⟨c, 0, none⟩)) ∧ W.cell? ⟨g, 1, none⟩ = some (.int .i64 l) ∧ W.cell? ⟨g, 2, none⟩ = some (.int .i64 m))) (ds := []) #[false, false, false, false, false, false, false, false, false, false, false, false, false, false, false, false, false, false, false, false] (by kernel_rfl) rfl rfl ⟨HP.out.c0, HP.out.c1, HP.out.c2⟩ (fun hHeld => ?_)
  generalize w.drew = wd_ at HP HB hHeld ⊢
  refine pure_ (i := 0) (N := some 6) (v := ?_) (a' := ?_) #[true, false, false, false, false, false, false, false, false, false, false, false, false, false, false, false, false, false, false, false] rfl rfl (by kernel_rfl) (fun _ _ _ h => h) (Or.inl ⟨by rfl, ?_⟩) ?_ ?_
  rotate_left
  · intro w'
    go_simp
    try with_reducible rfl
  rotate_left
  · simp only [Act.put, List.setIfInBounds_toArray, List.set_cons_zero, List.set_cons_succ, i64_w, i32_w]
    rfl
  refine pure_ (i := 1) (N := some 7) (v := ?_) (a' := ?_) #[true, true, false, false, false, false, false, false, false, false, false, false, false, false, false, false, false, false, false, false] rfl rfl (by kernel_rfl) (fun _ _ _ h => h) (Or.inl ⟨by rfl, ?_⟩) ?_ ?_
  rotate_left
  · intro w'
    go_simp
    try with_reducible rfl
  rotate_left
  · simp only [Act.put, List.setIfInBounds_toArray, List.set_cons_zero, List.set_cons_succ, i64_w, i32_w]
    rfl
  refine pure_ (i := 2) (N := some 8) (v := ?_) (a' := ?_) #[true, true, true, false, false, false, false, false, false, false, false, false, false, false, false, false, false, false, false, false] rfl rfl (by kernel_rfl) (fun _ _ _ h => h) (Or.inl ⟨by rfl, ?_⟩) ?_ ?_
  rotate_left
  · intro w'
    go_simp
    try with_reducible rfl
  rotate_left
  · simp only [Act.put, List.setIfInBounds_toArray, List.set_cons_zero, List.set_cons_succ, i64_w, i32_w]
    rfl
  refine take_ (i := 3) (N := some 9) (v := ?_) (a' := ?_) #[true, true, true, true, false, false, false, false, false, false, false, false, false, false, false, false, false, false, false, false] rfl rfl (by kernel_rfl) (fun _ _ _ h => h) (Or.inl ⟨by rfl, ?_⟩) hHeld ?_ ?_
  rotate_left
  · intro w' hSw
    (try simp only [] at hSw)
    (repeat obtain ⟨hs_, hSw⟩ := hSw)
    go_simp
    try with_reducible rfl
  rotate_left
  · simp only [Act.put, List.setIfInBounds_toArray, List.set_cons_zero, List.set_cons_succ, i64_w, i32_w]
    rfl
  refine pure_ (i := 4) (N := some 10) (v := ?_) (a' := ?_) #[true, true, true, true, true, false, false, false, false, false, false, false, false, false, false, false, false, false, false, false] rfl rfl (by kernel_rfl) (fun _ _ _ h => h) (Or.inl ⟨by rfl, ?_⟩) ?_ ?_
  rotate_left
  · intro w'
    go_simp
    try with_reducible rfl
  rotate_left
  · simp only [Act.put, List.setIfInBounds_toArray, List.set_cons_zero, List.set_cons_succ, i64_w, i32_w]
    rfl
  refine pure_ (i := 5) (N := some 11) (v := ?_) (a' := ?_) #[true, true, true, true, true, true, false, false, false, false, false, false, false, false, false, false, false, false, false, false] rfl rfl (by kernel_rfl) (fun _ _ _ h => h) (Or.inl ⟨by rfl, ?_⟩) ?_ ?_
  rotate_left
  · intro w'
    go_simp
    try with_reducible rfl
  rotate_left
  · simp only [Act.put, List.setIfInBounds_toArray, List.set_cons_zero, List.set_cons_succ, i64_w, i32_w]
    rfl
  refine pure_ (i := 6) (N := some 12) (v := ?_) (a' := ?_) #[true, true, true, true, true, true, true, false, false, false, false, false, false, false, false, false, false, false, false, false] rfl rfl (by kernel_rfl) (fun _ _ _ h => h) (Or.inl ⟨by rfl, ?_⟩) ?_ ?_
  rotate_left
  · intro w'
    go_simp
    try with_reducible rfl
  rotate_left
  · simp only [Act.put, List.setIfInBounds_toArray, List.set_cons_zero, List.set_cons_succ, i64_w, i32_w]
    rfl
  refine take_ (i := 7) (N := some 13) (v := ?_) (a' := ?_) #[true, true, true, true, true, true, true, true, false, false, false, false, false, false, false, false, false, false, false, false] rfl rfl (by kernel_rfl) (fun _ _ _ h => h) (Or.inl ⟨by rfl, ?_⟩) hHeld ?_ ?_
  rotate_left
  · intro w' hSw
    (try simp only [] at hSw)
    (repeat obtain ⟨hs_, hSw⟩ := hSw)
    go_simp
    try with_reducible rfl
  rotate_left
  · simp only [Act.put, List.setIfInBounds_toArray, List.set_cons_zero, List.set_cons_succ, i64_w, i32_w]
    rfl
  refine pure_ (i := 9) (N := some 15) (v := ?_) (a' := ?_) #[true, true, true, true, true, true, true, true, false, true, false, false, false, false, false, false, false, false, false, false] rfl rfl (by kernel_rfl) (fun _ _ _ h => h) (Or.inl ⟨by rfl, ?_⟩) ?_ ?_
  rotate_left
  · intro w'
    go_simp
    try with_reducible rfl
  rotate_left
  · simp only [Act.put, List.setIfInBounds_toArray, List.set_cons_zero, List.set_cons_succ, i64_w, i32_w]
    rfl
  refine pure_ (i := 10) (N := some 16) (v := ?_) (a' := ?_) #[true, true, true, true, true, true, true, true, false, true, true, false, false, false, false, false, false, false, false, false] rfl rfl (by kernel_rfl) (fun _ _ _ h => h) (Or.inl ⟨by rfl, ?_⟩) ?_ ?_
  rotate_left
  · intro w'
    go_simp
    try with_reducible rfl
  rotate_left
  · simp only [Act.put, List.setIfInBounds_toArray, List.set_cons_zero, List.set_cons_succ, i64_w, i32_w]
    rfl
  refine pure_ (i := 11) (N := some 17) (v := ?_) (a' := ?_) #[true, true, true, true, true, true, true, true, false, true, true, true, false, false, false, false, false, false, false, false] rfl rfl (by kernel_rfl) (fun _ _ _ h => h) (Or.inl ⟨by rfl, ?_⟩) ?_ ?_
  rotate_left
  · intro w'
    go_simp
    try with_reducible rfl
  rotate_left
  · simp only [Act.put, List.setIfInBounds_toArray, List.set_cons_zero, List.set_cons_succ, i64_w, i32_w]
    rfl
  refine take_ (i := 12) (N := some 18) (v := ?_) (a' := ?_) #[true, true, true, true, true, true, true, true, false, true, true, true, true, false, false, false, false, false, false, false] rfl rfl (by kernel_rfl) (fun _ _ _ h => h) (Or.inl ⟨by rfl, ?_⟩) hHeld ?_ ?_
  rotate_left
  · intro w' hSw
    (try simp only [] at hSw)
    (repeat obtain ⟨hs_, hSw⟩ := hSw)
    go_simp
    try with_reducible rfl
  rotate_left
  · simp only [Act.put, List.setIfInBounds_toArray, List.set_cons_zero, List.set_cons_succ, i64_w, i32_w]
    rfl
  refine pure_ (i := 13) (N := some 19) (v := ?_) (a' := ?_) #[true, true, true, true, true, true, true, true, false, true, true, true, true, true, false, false, false, false, false, false] rfl rfl (by kernel_rfl) (fun _ _ _ h => h) (Or.inl ⟨by rfl, ?_⟩) ?_ ?_
  rotate_left
  · intro w'
    go_simp
    try with_reducible rfl
  rotate_left
  · simp only [Act.put, List.setIfInBounds_toArray, List.set_cons_zero, List.set_cons_succ, i64_w, i32_w]
    rfl
  refine pure_ (i := 14) (N := some 20) (v := ?_) (a' := ?_) #[true, true, true, true, true, true, true, true, false, true, true, true, true, true, true, false, false, false, false, false] rfl rfl (by kernel_rfl) (fun _ _ _ h => h) (Or.inl ⟨by rfl, ?_⟩) ?_ ?_
  rotate_left
  · intro w'
    go_simp
    try with_reducible rfl
  rotate_left
  · simp only [Act.put, List.setIfInBounds_toArray, List.set_cons_zero, List.set_cons_succ, i64_w, i32_w]
    rfl
  refine pure_ (i := 15) (N := some 21) (v := ?_) (a' := ?_) #[true, true, true, true, true, true, true, true, false, true, true, true, true, true, true, true, false, false, false, false] rfl rfl (by kernel_rfl) (fun _ _ _ h => h) (Or.inl ⟨by rfl, ?_⟩) ?_ ?_
  rotate_left
  · intro w'
    go_simp
    try with_reducible rfl
  rotate_left
  · simp only [Act.put, List.setIfInBounds_toArray, List.set_cons_zero, List.set_cons_succ, i64_w, i32_w]
    rfl
  refine take_ (i := 16) (N := some 22) (v := ?_) (a' := ?_) #[true, true, true, true, true, true, true, true, false, true, true, true, true, true, true, true, true, false, false, false] rfl rfl (by kernel_rfl) (fun _ _ _ h => h) (Or.inl ⟨by rfl, ?_⟩) hHeld ?_ ?_
  rotate_left
  · intro w' hSw
    (try simp only [] at hSw)
    (repeat obtain ⟨hs_, hSw⟩ := hSw)
    go_simp
    try with_reducible rfl
  rotate_left
  · simp only [Act.put, List.setIfInBounds_toArray, List.set_cons_zero, List.set_cons_succ, i64_w, i32_w]
    rfl
  refine one_ (i := 8) (N := (some 14)) #[true, true, true, true, true, true, true, true, true, true, true, true, true, true, true, true, true, false, false, false] rfl rfl (by kernel_rfl) (by decide) (fun K hK => ?_)
  refine goes_ Try.func33 (by kernel_rfl) rfl #[.pointer (some ⟨c, 0, none⟩), .int .i64 l] (by rfl) rfl rfl (by (try simp only [List.map_toArray, List.map_cons, List.map_nil]); first | done | rfl | (simp only [List.length_drop, List.length_take]; rfl)) ?_
  with_reducible refine (sextet_Coder_Letters.calls ⟨c, 0, none⟩ l _).mono ?_
  rintro e w' ⟨rfl, hdr⟩
  have hb := below_of_drawn hdr
  clear hdr
  have n0_ := Aside0.mk (below_step HB.out hb)
  have n1_ := Aside0.mk (HP.out.next hb)
  clear hb HB HP 
  have HB := n0_
  have HP := n1_
  clear n0_ n1_
  refine ⟨_, rfl, ?_⟩
  refine hK.out _ _ ⟨HP.out.c0, HP.out.c1, HP.out.c2⟩ (fun hHeld => ?_)
  clear hK K
  refine norm_ (a' := ?_) ?_ ?_
  rotate_left
  · show Act.put _ (some 14) _ = _
    simp only [Act.put, List.setIfInBounds_toArray, List.set_cons_zero, List.set_cons_succ, i64_w, i32_w]
    rfl
  refine one_ (i := 17) (N := (some 23)) #[true, true, true, true, true, true, true, true, true, true, true, true, true, true, true, true, true, true, false, false] rfl rfl (by kernel_rfl) (by decide) (fun K hK => ?_)
  refine goes_ Try.func33 (by kernel_rfl) rfl #[.pointer (some ⟨c, 0, none⟩), .int .i64 m] (by rfl) rfl rfl (by (try simp only [List.map_toArray, List.map_cons, List.map_nil]); first | done | rfl | (simp only [List.length_drop, List.length_take]; rfl)) ?_
  with_reducible refine (sextet_Coder_Letters.calls ⟨c, 0, none⟩ m _).mono ?_
  rintro e w' ⟨rfl, hdr⟩
  have hb := below_of_drawn hdr
  clear hdr
  have n0_ := Aside0.mk (below_step HB.out hb)
  have n1_ := Aside0.mk (HP.out.next hb)
  clear hb HB HP 
  have HB := n0_
  have HP := n1_
  clear n0_ n1_
  refine ⟨_, rfl, ?_⟩
  refine hK.out _ _ ⟨HP.out.c0, HP.out.c1, HP.out.c2⟩ (fun hHeld => ?_)
  clear hK K
  refine norm_ (a' := ?_) ?_ ?_
  rotate_left
  · show Act.put _ (some 23) _ = _
    simp only [Act.put, List.setIfInBounds_toArray, List.set_cons_zero, List.set_cons_succ, i64_w, i32_w]
    rfl
  refine pure_ (i := 18) (N := some 2) (v := ?_) (a' := ?_) #[true, true, true, true, true, true, true, true, true, true, true, true, true, true, true, true, true, true, true, false] rfl rfl (by kernel_rfl) (fun _ _ _ h => h) (Or.inl ⟨by rfl, ?_⟩) ?_ ?_
  rotate_left
  · intro w'
    go_simp
    try with_reducible rfl
  rotate_left
  · simp only [Act.put, List.setIfInBounds_toArray, List.set_cons_zero, List.set_cons_succ, i64_w, i32_w]
    rfl
  refine pure_ (i := 19) (N := some 3) (v := ?_) (a' := ?_) #[true, true, true, true, true, true, true, true, true, true, true, true, true, true, true, true, true, true, true, true] rfl rfl (by kernel_rfl) (fun _ _ _ h => h) (Or.inl ⟨by rfl, ?_⟩) ?_ ?_
  rotate_left
  · intro w'
    go_simp
    try with_reducible rfl
  rotate_left
  · simp only [Act.put, List.setIfInBounds_toArray, List.set_cons_zero, List.set_cons_succ, i64_w, i32_w]
    rfl
  refine done_ (by kernel_rfl) ?_
  clear hHeld
  go_wp2
  go_ret2
  exact ⟨rfl, HB.out⟩

/-! ### pestlelaw16_Plain64Codes: function 11 -/
def pestlelaw16_Plain64Codes.good (k : Nat) (l m : Int) (t s : ByteArray) : Option Bool := (plain64_Code_Write.f k l m t).bind fun a => (pestleref16_Write.f k l m t).bind fun b => (plain64_Code_Read.f k l m s).bind fun x => (pestleref16_Read.f k l m s).bind fun y => (pestleref16_Many.f l).bind fun p => (pestleref16_Many.f m).bind fun q => (if a = b ∧ x = y ∧ sxLetters l = p ∧ sxLetters m = q then some true else none)
def pestlelaw16_Plain64Codes.f (k : Nat) (l m : Int) (t s : ByteArray) : Option Bool := (pestlelaw16_awake.f k).bind fun _ => (if l < 0 ∨ m < l ∨ 65536 < m then some true else (if t.size > 500 then some true else (if s.size > 500 then some true else pestlelaw16_Plain64Codes.good k l m t s)))
theorem pestlelaw16_Plain64Codes.mono : ∀ l m t s k, LeO (pestlelaw16_Plain64Codes.f k l m t s) (pestlelaw16_Plain64Codes.f (k + 1) l m t s) := by
  intro l m t s k
  unfold pestlelaw16_Plain64Codes.f pestlelaw16_Plain64Codes.good
  exact LeO.bind (pestlelaw16_awake.mono _) (fun _ => LeO.ite (LeO.refl _) (LeO.ite (LeO.refl _) (LeO.ite (LeO.refl _) (LeO.bind (plain64_Code_Write.mono _ _ _ _) (fun _ => LeO.bind (pestleref16_Write.mono _ _ _ _) (fun _ => LeO.bind (plain64_Code_Read.mono _ _ _ _) (fun _ => LeO.bind (pestleref16_Read.mono _ _ _ _) (fun _ => LeO.refl _))))))))
theorem pestlelaw16_Plain64Codes.yes {k : Nat} {l m : Int} {t s : ByteArray} {r : Bool} (h : pestlelaw16_Plain64Codes.f k l m t s = some r) : r = true := by
  unfold pestlelaw16_Plain64Codes.f pestlelaw16_Plain64Codes.good at h
  replace h := Option.bind_eq_some_iff.mp h
  obtain ⟨_, _, h⟩ := h
  split at h
  · exact (Option.some.inj h).symm
  split at h
  · exact (Option.some.inj h).symm
  split at h
  · exact (Option.some.inj h).symm
  replace h := Option.bind_eq_some_iff.mp h
  obtain ⟨_, _, h⟩ := h
  replace h := Option.bind_eq_some_iff.mp h
  obtain ⟨_, _, h⟩ := h
  replace h := Option.bind_eq_some_iff.mp h
  obtain ⟨_, _, h⟩ := h
  replace h := Option.bind_eq_some_iff.mp h
  obtain ⟨_, _, h⟩ := h
  replace h := Option.bind_eq_some_iff.mp h
  obtain ⟨_, _, h⟩ := h
  replace h := Option.bind_eq_some_iff.mp h
  obtain ⟨_, _, h⟩ := h
  split at h
  · exact (Option.some.inj h).symm
  · cases h
set_option maxHeartbeats 8000000 in
set_option maxRecDepth 100000 in
theorem pestlelaw16_Plain64Codes.go (k : Nat) (l : Int) (m : Int) (t : ByteArray) (s : ByteArray) (r : Bool) (w : World) (h : pestlelaw16_Plain64Codes.f k l m t s = some r) :
    Calls Try.prog 11 #[.int .i64 l, .int .i64 m, .string t, .string s] w fun e w' => e = .returned (.bool r) ∧ Below w.heap.size w w' := by
  have hr := pestlelaw16_Plain64Codes.yes h
  subst hr
  unfold pestlelaw16_Plain64Codes.f at h
  replace h := Option.bind_eq_some_iff.mp h
  obtain ⟨aw, A0, h⟩ := h
  obtain rfl := pestlelaw16_awake.yes A0
  replace A0 := Aside0.mk A0
  have HB := Aside0.mk (Below.refl w.heap.size w)
  by_cases hbad : l < 0 ∨ m < l ∨ 65536 < m
  · clear h
    have HN := Aside0.mk hbad
    by_cases b0 : l < 0
    · have e0 : decide (l < 0) = true := decide_eq_true b0
      clear hbad
      go_enter Try.func11, Try.ntmps11
      go_wp2_with (first | (go_at_call 41; with_reducible refine (pestlelaw16_awake.calls k true _ A0.out).mono ?_; rintro e wn ⟨rfl, hb⟩; have n0_ := Aside0.mk (below_step HB.out hb); clear hb HB ; have HB := n0_; clear n0_) | (go_at_call 42; with_reducible refine (plain64_New.calls l m _ HN.out).mono ?_; rintro e wn ⟨rfl, hb⟩; have n0_ := Aside0.mk (below_step HB.out hb); clear hb HB ; have HB := n0_; clear n0_))
      go_ret
      exact ⟨rfl, HB.out⟩
    have e0 : decide (l < 0) = false := decide_eq_false b0
    by_cases b1 : m < l
    · have e1 : decide (m < l) = true := decide_eq_true b1
      clear hbad
      go_enter Try.func11, Try.ntmps11
      go_wp2_with (first | (go_at_call 41; with_reducible refine (pestlelaw16_awake.calls k true _ A0.out).mono ?_; rintro e wn ⟨rfl, hb⟩; have n0_ := Aside0.mk (below_step HB.out hb); clear hb HB ; have HB := n0_; clear n0_) | (go_at_call 42; with_reducible refine (plain64_New.calls l m _ HN.out).mono ?_; rintro e wn ⟨rfl, hb⟩; have n0_ := Aside0.mk (below_step HB.out hb); clear hb HB ; have HB := n0_; clear n0_))
      go_ret
      exact ⟨rfl, HB.out⟩
    have e1 : decide (m < l) = false := decide_eq_false b1
    have e2 : decide (65536 < m) = true := decide_eq_true (by omega)
    clear hbad
    go_enter Try.func11, Try.ntmps11
    go_wp2_with (first | (go_at_call 41; with_reducible refine (pestlelaw16_awake.calls k true _ A0.out).mono ?_; rintro e wn ⟨rfl, hb⟩; have n0_ := Aside0.mk (below_step HB.out hb); clear hb HB ; have HB := n0_; clear n0_) | (go_at_call 42; with_reducible refine (plain64_New.calls l m _ HN.out).mono ?_; rintro e wn ⟨rfl, hb⟩; have n0_ := Aside0.mk (below_step HB.out hb); clear hb HB ; have HB := n0_; clear n0_))
    go_ret
    exact ⟨rfl, HB.out⟩
  rw [if_neg hbad] at h
  have e0 : decide (l < 0) = false := decide_eq_false (by omega)
  have e1 : decide (m < l) = false := decide_eq_false (by omega)
  have e2 : decide (65536 < m) = false := decide_eq_false (by omega)
  have o0 : 0 ≤ l := by omega
  have o1 : l ≤ m := by omega
  have o2 : m ≤ 65536 := by omega
  by_cases g1 : t.size > 500
  · have g1b : decide ((500 : Int) < ((t.size : Nat) : Int)) = true := decide_eq_true (by omega)
    have g1d : decide (500 < t.size) = true := decide_eq_true g1
    clear h
    go_enter Try.func11, Try.ntmps11
    go_wp2_with (first | (go_at_call 41; with_reducible refine (pestlelaw16_awake.calls k true _ A0.out).mono ?_; rintro e wn ⟨rfl, hb⟩; have n0_ := Aside0.mk (below_step HB.out hb); clear hb HB ; have HB := n0_; clear n0_) | (go_at_call 42; with_reducible refine (plain64_New.good l m _ o0 o1 o2).mono ?_; rintro e wn ⟨g, c, hg, hc, rfl, hp, hb⟩; have n0_ := Aside0.mk (below_step HB.out hb); have HP := Aside0.mk hp; clear hb HB hg hc hp; have HB := n0_; clear n0_))
    go_ret
    exact ⟨rfl, HB.out⟩
  rw [if_neg g1] at h
  have g1b : decide ((500 : Int) < ((t.size : Nat) : Int)) = false := decide_eq_false (by omega)
  have g1d : decide (500 < t.size) = false := decide_eq_false g1
  by_cases g2 : s.size > 500
  · have g2b : decide ((500 : Int) < ((s.size : Nat) : Int)) = true := decide_eq_true (by omega)
    have g2d : decide (500 < s.size) = true := decide_eq_true g2
    clear h
    go_enter Try.func11, Try.ntmps11
    go_wp2_with (first | (go_at_call 41; with_reducible refine (pestlelaw16_awake.calls k true _ A0.out).mono ?_; rintro e wn ⟨rfl, hb⟩; have n0_ := Aside0.mk (below_step HB.out hb); clear hb HB ; have HB := n0_; clear n0_) | (go_at_call 42; with_reducible refine (plain64_New.good l m _ o0 o1 o2).mono ?_; rintro e wn ⟨g, c, hg, hc, rfl, hp, hb⟩; have n0_ := Aside0.mk (below_step HB.out hb); have HP := Aside0.mk hp; clear hb HB hg hc hp; have HB := n0_; clear n0_))
    go_ret
    exact ⟨rfl, HB.out⟩
  rw [if_neg g2] at h
  have g2b : decide ((500 : Int) < ((s.size : Nat) : Int)) = false := decide_eq_false (by omega)
  have g2d : decide (500 < s.size) = false := decide_eq_false g2
  unfold pestlelaw16_Plain64Codes.good at h
  replace h := Option.bind_eq_some_iff.mp h
  obtain ⟨⟨a1, a2⟩, A1, h⟩ := h
  replace h := Option.bind_eq_some_iff.mp h
  obtain ⟨⟨b1, b2⟩, A2, h⟩ := h
  replace h := Option.bind_eq_some_iff.mp h
  obtain ⟨⟨x1, x2⟩, A3, h⟩ := h
  replace h := Option.bind_eq_some_iff.mp h
  obtain ⟨⟨y1, y2⟩, A4, h⟩ := h
  replace h := Option.bind_eq_some_iff.mp h
  obtain ⟨p, A5, h⟩ := h
  replace h := Option.bind_eq_some_iff.mp h
  obtain ⟨q, A6, h⟩ := h
  by_cases z : (a1, a2) = (b1, b2) ∧ (x1, x2) = (y1, y2) ∧ sxLetters l = p ∧ sxLetters m = q
  case neg => rw [if_neg z] at h; cases h
  clear h
  simp only [Prod.mk.injEq] at z
  obtain ⟨⟨rfl, rfl⟩, ⟨rfl, rfl⟩, rfl, rfl⟩ := z
  replace A1 := Aside0.mk A1
  replace A2 := Aside0.mk A2
  replace A3 := Aside0.mk A3
  replace A4 := Aside0.mk A4
  replace A5 := Aside0.mk A5
  replace A6 := Aside0.mk A6
  go_enter Try.func11, Try.ntmps11
  go_wp2_with (first | (go_at_call 41; with_reducible refine (pestlelaw16_awake.calls k true _ A0.out).mono ?_; rintro e wn ⟨rfl, hb⟩; have n0_ := Aside0.mk (below_step HB.out hb); clear hb HB ; have HB := n0_; clear n0_) | (go_at_call 42; with_reducible refine (plain64_New.good l m _ o0 o1 o2).mono ?_; rintro e wn ⟨g, c, hg, hc, rfl, hp, hb⟩; have n0_ := Aside0.mk (below_step HB.out hb); have HP := Aside0.mk hp; clear hb HB hg hc hp; have HB := n0_; clear n0_) | (go_at_call 43; with_reducible refine (plain64_Code_Write.calls k g c l m t a1 a2 _ HP.out A1.out).mono ?_; rintro e wn ⟨rfl, hb⟩; have n0_ := Aside0.mk (below_step HB.out hb); have n1_ := Aside0.mk (HP.out.next hb); clear hb HB HP ; have HB := n0_; have HP := n1_; clear n0_ n1_) | (go_at_call 44; with_reducible refine (pestleref16_Write.calls k l m t a1 a2 _ A2.out).mono ?_; rintro e wn ⟨rfl, hb⟩; have n0_ := Aside0.mk (below_step HB.out hb); have n1_ := Aside0.mk (HP.out.next hb); clear hb HB HP ; have HB := n0_; have HP := n1_; clear n0_ n1_) | (go_at_call 45; with_reducible refine (plain64_Code_Read.calls k g c l m s x1 x2 _ HP.out A3.out).mono ?_; rintro e wn ⟨rfl, hb⟩; have n0_ := Aside0.mk (below_step HB.out hb); have n1_ := Aside0.mk (HP.out.next hb); clear hb HB HP ; have HB := n0_; have HP := n1_; clear n0_ n1_) | (go_at_call 46; with_reducible refine (pestleref16_Read.calls k l m s x1 x2 _ A4.out).mono ?_; rintro e wn ⟨rfl, hb⟩; have n0_ := Aside0.mk (below_step HB.out hb); have n1_ := Aside0.mk (HP.out.next hb); clear hb HB HP ; have HB := n0_; have HP := n1_; clear n0_ n1_) | (go_at_call 47; with_reducible refine (plain64_Code_Bounds.calls g c l m _ HP.out).mono ?_; rintro e wn ⟨rfl, hb⟩; have n0_ := Aside0.mk (below_step HB.out hb); have n1_ := Aside0.mk (HP.out.next hb); clear hb HB HP ; have HB := n0_; have HP := n1_; clear n0_ n1_) | (go_at_call 48; with_reducible refine (pestleref16_Many.calls l _ _ A5.out).mono ?_; rintro e wn ⟨rfl, hdr⟩; have hb := below_of_drawn hdr; clear hdr; have n0_ := Aside0.mk (below_step HB.out hb); have n1_ := Aside0.mk (HP.out.next hb); clear hb HB HP ; have HB := n0_; have HP := n1_; clear n0_ n1_) | (go_at_call 48; with_reducible refine (pestleref16_Many.calls m _ _ A6.out).mono ?_; rintro e wn ⟨rfl, hdr⟩; have hb := below_of_drawn hdr; clear hdr; have n0_ := Aside0.mk (below_step HB.out hb); have n1_ := Aside0.mk (HP.out.next hb); clear hb HB HP ; have HB := n0_; have HP := n1_; clear n0_ n1_))
  go_ret
  exact ⟨rfl, HB.out⟩
theorem pestlelaw16_Plain64Codes.calls (k : Nat) (a0 : Int) (a1 : Int) (a2 : ByteArray) (a3 : ByteArray) (r : Bool) (w : World) (h : pestlelaw16_Plain64Codes.f k a0 a1 a2 a3 = some r) :
    Calls Try.prog 11 #[.int .i64 a0, .int .i64 a1, .string a2, .string a3] w fun e w' => e = .returned (.bool r) ∧ Below w.heap.size w w' := pestlelaw16_Plain64Codes.go k a0 a1 a2 a3 r w h

/-! ### pestlelaw16_Plain64Back: function 12 -/
def pestlelaw16_Plain64Back.one (k : Nat) (l m : Int) (t : ByteArray) (a : ByteArray × Int) : Option Unit := if a.2 = 0 then (plain64_Code_Read.f k l m a.1).bind fun b => (if b = (t, 0) ∧ l ≤ (t.size : Int) ∧ (t.size : Int) ≤ m then some () else none) else some ()
def pestlelaw16_Plain64Back.good (k : Nat) (l m : Int) (t s : ByteArray) : Option Bool := (plain64_Code_Write.f k l m t).bind fun a => (pestlelaw16_Plain64Back.one k l m t a).bind fun _ => (plain64_Code_Read.f k l m s).bind fun x => (plain64_Code_Write.f k l m x.1).bind fun y => (if x.2 = 0 then (if y = (s, 0) then some true else none) else (if x.1.toList = [] then some true else none))
def pestlelaw16_Plain64Back.f (k : Nat) (l m : Int) (t s : ByteArray) : Option Bool := (pestlelaw16_awake.f k).bind fun _ => (if l < 0 ∨ m < l ∨ 65536 < m then some true else (if t.size > 500 then some true else (if s.size > 500 then some true else pestlelaw16_Plain64Back.good k l m t s)))
theorem pestlelaw16_Plain64Back.mono : ∀ l m t s k, LeO (pestlelaw16_Plain64Back.f k l m t s) (pestlelaw16_Plain64Back.f (k + 1) l m t s) := by
  intro l m t s k
  unfold pestlelaw16_Plain64Back.f pestlelaw16_Plain64Back.good pestlelaw16_Plain64Back.one
  exact LeO.bind (pestlelaw16_awake.mono _) (fun _ => LeO.ite (LeO.refl _) (LeO.ite (LeO.refl _) (LeO.ite (LeO.refl _) (LeO.bind (plain64_Code_Write.mono _ _ _ _) (fun _ => LeO.bind (LeO.ite (LeO.bind (plain64_Code_Read.mono _ _ _ _) (fun _ => LeO.refl _)) (LeO.refl _)) (fun _ => LeO.bind (plain64_Code_Read.mono _ _ _ _) (fun _ => LeO.bind (plain64_Code_Write.mono _ _ _ _) (fun _ => LeO.refl _))))))))
theorem pestlelaw16_Plain64Back.yes {k : Nat} {l m : Int} {t s : ByteArray} {r : Bool} (h : pestlelaw16_Plain64Back.f k l m t s = some r) : r = true := by
  unfold pestlelaw16_Plain64Back.f pestlelaw16_Plain64Back.good at h
  replace h := Option.bind_eq_some_iff.mp h
  obtain ⟨_, _, h⟩ := h
  split at h
  · exact (Option.some.inj h).symm
  split at h
  · exact (Option.some.inj h).symm
  split at h
  · exact (Option.some.inj h).symm
  replace h := Option.bind_eq_some_iff.mp h
  obtain ⟨_, _, h⟩ := h
  replace h := Option.bind_eq_some_iff.mp h
  obtain ⟨_, _, h⟩ := h
  replace h := Option.bind_eq_some_iff.mp h
  obtain ⟨_, _, h⟩ := h
  replace h := Option.bind_eq_some_iff.mp h
  obtain ⟨_, _, h⟩ := h
  split at h
  · split at h
    · exact (Option.some.inj h).symm
    · cases h
  · split at h
    · exact (Option.some.inj h).symm
    · cases h
set_option maxHeartbeats 8000000 in
set_option maxRecDepth 100000 in
theorem pestlelaw16_Plain64Back.go (k : Nat) (l : Int) (m : Int) (t : ByteArray) (s : ByteArray) (r : Bool) (w : World) (h : pestlelaw16_Plain64Back.f k l m t s = some r) :
    Calls Try.prog 12 #[.int .i64 l, .int .i64 m, .string t, .string s] w fun e w' => e = .returned (.bool r) ∧ Below w.heap.size w w' := by
  have hr := pestlelaw16_Plain64Back.yes h
  subst hr
  unfold pestlelaw16_Plain64Back.f at h
  replace h := Option.bind_eq_some_iff.mp h
  obtain ⟨aw, A0, h⟩ := h
  obtain rfl := pestlelaw16_awake.yes A0
  replace A0 := Aside0.mk A0
  have HB := Aside0.mk (Below.refl w.heap.size w)
  by_cases hbad : l < 0 ∨ m < l ∨ 65536 < m
  · clear h
    have HN := Aside0.mk hbad
    clear hbad
    go_enter Try.func12, Try.ntmps12
    go_wp2_with (first | (go_at_call 41; with_reducible refine (pestlelaw16_awake.calls k true _ A0.out).mono ?_; rintro e wn ⟨rfl, hb⟩; have n0_ := Aside0.mk (below_step HB.out hb); clear hb HB ; have HB := n0_; clear n0_) | (go_at_call 43; with_reducible refine (plain64_Code_Write.nil t _).mono ?_; rintro e wn ⟨rfl, hb⟩; have n0_ := Aside0.mk (below_step HB.out hb); clear hb HB ; have HB := n0_; clear n0_) | (go_at_call 45; with_reducible refine (plain64_Code_Read.nil s _).mono ?_; rintro e wn ⟨rfl, hb⟩; have n0_ := Aside0.mk (below_step HB.out hb); clear hb HB ; have HB := n0_; clear n0_) | (go_at_call 47; with_reducible refine (plain64_Code_Bounds.nil _).mono ?_; rintro e wn ⟨rfl, hdr⟩; have hb := below_of_drawn hdr; clear hdr; have n0_ := Aside0.mk (below_step HB.out hb); clear hb HB ; have HB := n0_; clear n0_) | (go_at_call 42; with_reducible refine (plain64_New.calls l m _ HN.out).mono ?_; rintro e wn ⟨rfl, hb⟩; have n0_ := Aside0.mk (below_step HB.out hb); clear hb HB ; have HB := n0_; clear n0_))
    go_ret
    exact ⟨rfl, HB.out⟩
  rw [if_neg hbad] at h
  have e0 : decide (l < 0) = false := decide_eq_false (by omega)
  have e1 : decide (m < l) = false := decide_eq_false (by omega)
  have e2 : decide (65536 < m) = false := decide_eq_false (by omega)
  have o0 : 0 ≤ l := by omega
  have o1 : l ≤ m := by omega
  have o2 : m ≤ 65536 := by omega
  by_cases g1 : t.size > 500
  · have g1b : decide ((500 : Int) < ((t.size : Nat) : Int)) = true := decide_eq_true (by omega)
    have g1d : decide (500 < t.size) = true := decide_eq_true g1
    clear h
    go_enter Try.func12, Try.ntmps12
    go_wp2_with (first | (go_at_call 41; with_reducible refine (pestlelaw16_awake.calls k true _ A0.out).mono ?_; rintro e wn ⟨rfl, hb⟩; have n0_ := Aside0.mk (below_step HB.out hb); clear hb HB ; have HB := n0_; clear n0_) | (go_at_call 43; with_reducible refine (plain64_Code_Write.nil t _).mono ?_; rintro e wn ⟨rfl, hb⟩; have n0_ := Aside0.mk (below_step HB.out hb); clear hb HB ; have HB := n0_; clear n0_) | (go_at_call 45; with_reducible refine (plain64_Code_Read.nil s _).mono ?_; rintro e wn ⟨rfl, hb⟩; have n0_ := Aside0.mk (below_step HB.out hb); clear hb HB ; have HB := n0_; clear n0_) | (go_at_call 47; with_reducible refine (plain64_Code_Bounds.nil _).mono ?_; rintro e wn ⟨rfl, hdr⟩; have hb := below_of_drawn hdr; clear hdr; have n0_ := Aside0.mk (below_step HB.out hb); clear hb HB ; have HB := n0_; clear n0_) | (go_at_call 42; with_reducible refine (plain64_New.good l m _ o0 o1 o2).mono ?_; rintro e wn ⟨g, c, hg, hc, rfl, hp, hb⟩; have n0_ := Aside0.mk (below_step HB.out hb); have HP := Aside0.mk hp; clear hb HB hg hc hp; have HB := n0_; clear n0_))
    go_ret
    exact ⟨rfl, HB.out⟩
  rw [if_neg g1] at h
  have g1b : decide ((500 : Int) < ((t.size : Nat) : Int)) = false := decide_eq_false (by omega)
  have g1d : decide (500 < t.size) = false := decide_eq_false g1
  by_cases g2 : s.size > 500
  · have g2b : decide ((500 : Int) < ((s.size : Nat) : Int)) = true := decide_eq_true (by omega)
    have g2d : decide (500 < s.size) = true := decide_eq_true g2
    clear h
    go_enter Try.func12, Try.ntmps12
    go_wp2_with (first | (go_at_call 41; with_reducible refine (pestlelaw16_awake.calls k true _ A0.out).mono ?_; rintro e wn ⟨rfl, hb⟩; have n0_ := Aside0.mk (below_step HB.out hb); clear hb HB ; have HB := n0_; clear n0_) | (go_at_call 43; with_reducible refine (plain64_Code_Write.nil t _).mono ?_; rintro e wn ⟨rfl, hb⟩; have n0_ := Aside0.mk (below_step HB.out hb); clear hb HB ; have HB := n0_; clear n0_) | (go_at_call 45; with_reducible refine (plain64_Code_Read.nil s _).mono ?_; rintro e wn ⟨rfl, hb⟩; have n0_ := Aside0.mk (below_step HB.out hb); clear hb HB ; have HB := n0_; clear n0_) | (go_at_call 47; with_reducible refine (plain64_Code_Bounds.nil _).mono ?_; rintro e wn ⟨rfl, hdr⟩; have hb := below_of_drawn hdr; clear hdr; have n0_ := Aside0.mk (below_step HB.out hb); clear hb HB ; have HB := n0_; clear n0_) | (go_at_call 42; with_reducible refine (plain64_New.good l m _ o0 o1 o2).mono ?_; rintro e wn ⟨g, c, hg, hc, rfl, hp, hb⟩; have n0_ := Aside0.mk (below_step HB.out hb); have HP := Aside0.mk hp; clear hb HB hg hc hp; have HB := n0_; clear n0_))
    go_ret
    exact ⟨rfl, HB.out⟩
  rw [if_neg g2] at h
  have g2b : decide ((500 : Int) < ((s.size : Nat) : Int)) = false := decide_eq_false (by omega)
  have g2d : decide (500 < s.size) = false := decide_eq_false g2
  unfold pestlelaw16_Plain64Back.good at h
  replace h := Option.bind_eq_some_iff.mp h
  obtain ⟨⟨a1, a2⟩, A1, h⟩ := h
  replace h := Option.bind_eq_some_iff.mp h
  obtain ⟨_, O, h⟩ := h
  replace h := Option.bind_eq_some_iff.mp h
  obtain ⟨⟨x1, x2⟩, A3, h⟩ := h
  replace h := Option.bind_eq_some_iff.mp h
  obtain ⟨⟨y1, y2⟩, A4, h⟩ := h
  replace A1 := Aside0.mk A1
  replace A3 := Aside0.mk A3
  replace A4 := Aside0.mk A4
  unfold pestlelaw16_Plain64Back.one at O
  by_cases za : a2 = 0
  · subst za
    rw [if_pos rfl] at O
    replace O := Option.bind_eq_some_iff.mp O
    obtain ⟨⟨b1, b2⟩, A2, O⟩ := O
    replace A2 := Aside0.mk A2
    by_cases zb : (b1, b2) = (t, 0) ∧ l ≤ (t.size : Int) ∧ (t.size : Int) ≤ m
    case neg => rw [if_neg zb] at O; cases O
    clear O
    obtain ⟨zt, zl, zm⟩ := zb
    simp only [Prod.mk.injEq] at zt
    obtain ⟨rfl, rfl⟩ := zt
    have f1 : decide ((b1.size : Int) < l) = false := decide_eq_false (by omega)
    have f2 : decide (m < (b1.size : Int)) = false := decide_eq_false (by omega)
    clear zl zm
    by_cases z : x2 = 0
    · subst z
      rw [if_pos rfl] at h
      by_cases z2 : (y1, y2) = (s, 0)
      case neg => rw [if_neg z2] at h; cases h
      clear h
      simp only [Prod.mk.injEq] at z2
      obtain ⟨rfl, rfl⟩ := z2
      go_enter Try.func12, Try.ntmps12
      go_wp2_with (first | (go_at_call 41; with_reducible refine (pestlelaw16_awake.calls k true _ A0.out).mono ?_; rintro e wn ⟨rfl, hb⟩; have n0_ := Aside0.mk (below_step HB.out hb); clear hb HB ; have HB := n0_; clear n0_) | (go_at_call 43; with_reducible refine (plain64_Code_Write.nil b1 _).mono ?_; rintro e wn ⟨rfl, hb⟩; have n0_ := Aside0.mk (below_step HB.out hb); clear hb HB ; have HB := n0_; clear n0_) | (go_at_call 45; with_reducible refine (plain64_Code_Read.nil y1 _).mono ?_; rintro e wn ⟨rfl, hb⟩; have n0_ := Aside0.mk (below_step HB.out hb); clear hb HB ; have HB := n0_; clear n0_) | (go_at_call 47; with_reducible refine (plain64_Code_Bounds.nil _).mono ?_; rintro e wn ⟨rfl, hdr⟩; have hb := below_of_drawn hdr; clear hdr; have n0_ := Aside0.mk (below_step HB.out hb); clear hb HB ; have HB := n0_; clear n0_) | (go_at_call 42; with_reducible refine (plain64_New.good l m _ o0 o1 o2).mono ?_; rintro e wn ⟨g, c, hg, hc, rfl, hp, hb⟩; have n0_ := Aside0.mk (below_step HB.out hb); have HP := Aside0.mk hp; clear hb HB hg hc hp; have HB := n0_; clear n0_) | (go_at_call 43; with_reducible refine (plain64_Code_Write.calls k g c l m b1 a1 0 _ HP.out A1.out).mono ?_; rintro e wn ⟨rfl, hb⟩; have n0_ := Aside0.mk (below_step HB.out hb); have n1_ := Aside0.mk (HP.out.next hb); clear hb HB HP ; have HB := n0_; have HP := n1_; clear n0_ n1_) | (go_at_call 45; with_reducible refine (plain64_Code_Read.calls k g c l m a1 b1 0 _ HP.out A2.out).mono ?_; rintro e wn ⟨rfl, hb⟩; have n0_ := Aside0.mk (below_step HB.out hb); have n1_ := Aside0.mk (HP.out.next hb); clear hb HB HP ; have HB := n0_; have HP := n1_; clear n0_ n1_) | (go_at_call 45; with_reducible refine (plain64_Code_Read.calls k g c l m y1 x1 0 _ HP.out A3.out).mono ?_; rintro e wn ⟨rfl, hb⟩; have n0_ := Aside0.mk (below_step HB.out hb); have n1_ := Aside0.mk (HP.out.next hb); clear hb HB HP ; have HB := n0_; have HP := n1_; clear n0_ n1_) | (go_at_call 43; with_reducible refine (plain64_Code_Write.calls k g c l m x1 y1 0 _ HP.out A4.out).mono ?_; rintro e wn ⟨rfl, hb⟩; have n0_ := Aside0.mk (below_step HB.out hb); have n1_ := Aside0.mk (HP.out.next hb); clear hb HB HP ; have HB := n0_; have HP := n1_; clear n0_ n1_))
      go_ret
      exact ⟨rfl, HB.out⟩
    · rw [if_neg z] at h
      by_cases z2 : x1.toList = []
      case neg => rw [if_neg z2] at h; cases h
      clear h
      have z3 : (x2 == 0) = false := by simpa using z
      have z4 : (x2 != 0) = true := by simpa using z
      have z5 : (x1.toList == ([] : List UInt8)) = true := by rw [z2]; rfl
      have z6 : x1.toList.isEmpty = true := by rw [z2]; rfl
      clear z z2
      go_enter Try.func12, Try.ntmps12
      go_wp2_with (first | (go_at_call 41; with_reducible refine (pestlelaw16_awake.calls k true _ A0.out).mono ?_; rintro e wn ⟨rfl, hb⟩; have n0_ := Aside0.mk (below_step HB.out hb); clear hb HB ; have HB := n0_; clear n0_) | (go_at_call 43; with_reducible refine (plain64_Code_Write.nil b1 _).mono ?_; rintro e wn ⟨rfl, hb⟩; have n0_ := Aside0.mk (below_step HB.out hb); clear hb HB ; have HB := n0_; clear n0_) | (go_at_call 45; with_reducible refine (plain64_Code_Read.nil s _).mono ?_; rintro e wn ⟨rfl, hb⟩; have n0_ := Aside0.mk (below_step HB.out hb); clear hb HB ; have HB := n0_; clear n0_) | (go_at_call 47; with_reducible refine (plain64_Code_Bounds.nil _).mono ?_; rintro e wn ⟨rfl, hdr⟩; have hb := below_of_drawn hdr; clear hdr; have n0_ := Aside0.mk (below_step HB.out hb); clear hb HB ; have HB := n0_; clear n0_) | (go_at_call 42; with_reducible refine (plain64_New.good l m _ o0 o1 o2).mono ?_; rintro e wn ⟨g, c, hg, hc, rfl, hp, hb⟩; have n0_ := Aside0.mk (below_step HB.out hb); have HP := Aside0.mk hp; clear hb HB hg hc hp; have HB := n0_; clear n0_) | (go_at_call 43; with_reducible refine (plain64_Code_Write.calls k g c l m b1 a1 0 _ HP.out A1.out).mono ?_; rintro e wn ⟨rfl, hb⟩; have n0_ := Aside0.mk (below_step HB.out hb); have n1_ := Aside0.mk (HP.out.next hb); clear hb HB HP ; have HB := n0_; have HP := n1_; clear n0_ n1_) | (go_at_call 45; with_reducible refine (plain64_Code_Read.calls k g c l m a1 b1 0 _ HP.out A2.out).mono ?_; rintro e wn ⟨rfl, hb⟩; have n0_ := Aside0.mk (below_step HB.out hb); have n1_ := Aside0.mk (HP.out.next hb); clear hb HB HP ; have HB := n0_; have HP := n1_; clear n0_ n1_) | (go_at_call 45; with_reducible refine (plain64_Code_Read.calls k g c l m s x1 x2 _ HP.out A3.out).mono ?_; rintro e wn ⟨rfl, hb⟩; have n0_ := Aside0.mk (below_step HB.out hb); have n1_ := Aside0.mk (HP.out.next hb); clear hb HB HP ; have HB := n0_; have HP := n1_; clear n0_ n1_) | (go_at_call 43; with_reducible refine (plain64_Code_Write.calls k g c l m x1 y1 y2 _ HP.out A4.out).mono ?_; rintro e wn ⟨rfl, hb⟩; have n0_ := Aside0.mk (below_step HB.out hb); have n1_ := Aside0.mk (HP.out.next hb); clear hb HB HP ; have HB := n0_; have HP := n1_; clear n0_ n1_))
      go_ret
      exact ⟨rfl, HB.out⟩
  · clear O
    have za1 : (a2 == 0) = false := by simpa using za
    have za2 : (a2 != 0) = true := by simpa using za
    clear za
    by_cases z : x2 = 0
    · subst z
      rw [if_pos rfl] at h
      by_cases z2 : (y1, y2) = (s, 0)
      case neg => rw [if_neg z2] at h; cases h
      clear h
      simp only [Prod.mk.injEq] at z2
      obtain ⟨rfl, rfl⟩ := z2
      go_enter Try.func12, Try.ntmps12
      go_wp2_with (first | (go_at_call 41; with_reducible refine (pestlelaw16_awake.calls k true _ A0.out).mono ?_; rintro e wn ⟨rfl, hb⟩; have n0_ := Aside0.mk (below_step HB.out hb); clear hb HB ; have HB := n0_; clear n0_) | (go_at_call 43; with_reducible refine (plain64_Code_Write.nil t _).mono ?_; rintro e wn ⟨rfl, hb⟩; have n0_ := Aside0.mk (below_step HB.out hb); clear hb HB ; have HB := n0_; clear n0_) | (go_at_call 45; with_reducible refine (plain64_Code_Read.nil y1 _).mono ?_; rintro e wn ⟨rfl, hb⟩; have n0_ := Aside0.mk (below_step HB.out hb); clear hb HB ; have HB := n0_; clear n0_) | (go_at_call 47; with_reducible refine (plain64_Code_Bounds.nil _).mono ?_; rintro e wn ⟨rfl, hdr⟩; have hb := below_of_drawn hdr; clear hdr; have n0_ := Aside0.mk (below_step HB.out hb); clear hb HB ; have HB := n0_; clear n0_) | (go_at_call 42; with_reducible refine (plain64_New.good l m _ o0 o1 o2).mono ?_; rintro e wn ⟨g, c, hg, hc, rfl, hp, hb⟩; have n0_ := Aside0.mk (below_step HB.out hb); have HP := Aside0.mk hp; clear hb HB hg hc hp; have HB := n0_; clear n0_) | (go_at_call 43; with_reducible refine (plain64_Code_Write.calls k g c l m t a1 a2 _ HP.out A1.out).mono ?_; rintro e wn ⟨rfl, hb⟩; have n0_ := Aside0.mk (below_step HB.out hb); have n1_ := Aside0.mk (HP.out.next hb); clear hb HB HP ; have HB := n0_; have HP := n1_; clear n0_ n1_) | (go_at_call 45; with_reducible refine (plain64_Code_Read.calls k g c l m y1 x1 0 _ HP.out A3.out).mono ?_; rintro e wn ⟨rfl, hb⟩; have n0_ := Aside0.mk (below_step HB.out hb); have n1_ := Aside0.mk (HP.out.next hb); clear hb HB HP ; have HB := n0_; have HP := n1_; clear n0_ n1_) | (go_at_call 43; with_reducible refine (plain64_Code_Write.calls k g c l m x1 y1 0 _ HP.out A4.out).mono ?_; rintro e wn ⟨rfl, hb⟩; have n0_ := Aside0.mk (below_step HB.out hb); have n1_ := Aside0.mk (HP.out.next hb); clear hb HB HP ; have HB := n0_; have HP := n1_; clear n0_ n1_))
      go_ret
      exact ⟨rfl, HB.out⟩
    · rw [if_neg z] at h
      by_cases z2 : x1.toList = []
      case neg => rw [if_neg z2] at h; cases h
      clear h
      have z3 : (x2 == 0) = false := by simpa using z
      have z4 : (x2 != 0) = true := by simpa using z
      have z5 : (x1.toList == ([] : List UInt8)) = true := by rw [z2]; rfl
      have z6 : x1.toList.isEmpty = true := by rw [z2]; rfl
      clear z z2
      go_enter Try.func12, Try.ntmps12
      go_wp2_with (first | (go_at_call 41; with_reducible refine (pestlelaw16_awake.calls k true _ A0.out).mono ?_; rintro e wn ⟨rfl, hb⟩; have n0_ := Aside0.mk (below_step HB.out hb); clear hb HB ; have HB := n0_; clear n0_) | (go_at_call 43; with_reducible refine (plain64_Code_Write.nil t _).mono ?_; rintro e wn ⟨rfl, hb⟩; have n0_ := Aside0.mk (below_step HB.out hb); clear hb HB ; have HB := n0_; clear n0_) | (go_at_call 45; with_reducible refine (plain64_Code_Read.nil s _).mono ?_; rintro e wn ⟨rfl, hb⟩; have n0_ := Aside0.mk (below_step HB.out hb); clear hb HB ; have HB := n0_; clear n0_) | (go_at_call 47; with_reducible refine (plain64_Code_Bounds.nil _).mono ?_; rintro e wn ⟨rfl, hdr⟩; have hb := below_of_drawn hdr; clear hdr; have n0_ := Aside0.mk (below_step HB.out hb); clear hb HB ; have HB := n0_; clear n0_) | (go_at_call 42; with_reducible refine (plain64_New.good l m _ o0 o1 o2).mono ?_; rintro e wn ⟨g, c, hg, hc, rfl, hp, hb⟩; have n0_ := Aside0.mk (below_step HB.out hb); have HP := Aside0.mk hp; clear hb HB hg hc hp; have HB := n0_; clear n0_) | (go_at_call 43; with_reducible refine (plain64_Code_Write.calls k g c l m t a1 a2 _ HP.out A1.out).mono ?_; rintro e wn ⟨rfl, hb⟩; have n0_ := Aside0.mk (below_step HB.out hb); have n1_ := Aside0.mk (HP.out.next hb); clear hb HB HP ; have HB := n0_; have HP := n1_; clear n0_ n1_) | (go_at_call 45; with_reducible refine (plain64_Code_Read.calls k g c l m s x1 x2 _ HP.out A3.out).mono ?_; rintro e wn ⟨rfl, hb⟩; have n0_ := Aside0.mk (below_step HB.out hb); have n1_ := Aside0.mk (HP.out.next hb); clear hb HB HP ; have HB := n0_; have HP := n1_; clear n0_ n1_) | (go_at_call 43; with_reducible refine (plain64_Code_Write.calls k g c l m x1 y1 y2 _ HP.out A4.out).mono ?_; rintro e wn ⟨rfl, hb⟩; have n0_ := Aside0.mk (below_step HB.out hb); have n1_ := Aside0.mk (HP.out.next hb); clear hb HB HP ; have HB := n0_; have HP := n1_; clear n0_ n1_))
      go_ret
      exact ⟨rfl, HB.out⟩
theorem pestlelaw16_Plain64Back.calls (k : Nat) (a0 : Int) (a1 : Int) (a2 : ByteArray) (a3 : ByteArray) (r : Bool) (w : World) (h : pestlelaw16_Plain64Back.f k a0 a1 a2 a3 = some r) :
    Calls Try.prog 12 #[.int .i64 a0, .int .i64 a1, .string a2, .string a3] w fun e w' => e = .returned (.bool r) ∧ Below w.heap.size w w' := pestlelaw16_Plain64Back.go k a0 a1 a2 a3 r w h

end Go.Proofs.Ytakhikhdbigdaaa.Pall
