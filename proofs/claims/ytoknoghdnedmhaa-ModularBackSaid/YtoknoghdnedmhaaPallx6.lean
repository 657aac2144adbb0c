-- PRINTED by print.py (a twelfth state) out of the translation. Not trusted: Lean checks it.
import Derived.Test.YtoknoghdnedmhaaPallx0
import Derived.Test.YtoknoghdnedmhaaPallx2
import Derived.Test.YtoknoghdnedmhaaPallx5
namespace Go.Proofs.Ytoknoghdnedmhaa.Pall
open Go.RowKit Go.Proofs.YtoknoghdnedmhaaW.PrintWords Go.Proofs.YtoknoghdnedmhaaW.PrintLast Go.Proofs.YtoknoghdnedmhaaW.PrintMore
attribute [local go_sem] max2_int min2_int max_two min_two max_three min_three max_four min_four   -- for this text's walks alone
set_option linter.unusedVariables false
set_option linter.unusedSimpArgs false

/-! ### crypt64_Code_Join: function 78 -/
def crypt64_Code_Join.f (k : Nat) (salt sum : ByteArray) : Option (ByteArray × Int) := if salt.size = 16 then (if sum.size = 23 then (sextet_Coder_Encode.f k sxCrypt [salt]).bind fun x => (sextet_Coder_Encode.f k sxCrypt [sum]).bind fun y => (if x.size + y.size ≤ 9223372036854775807 then some (x ++ y, 0) else none) else some ((⟨#[]⟩ : ByteArray), 9)) else some ((⟨#[]⟩ : ByteArray), 9)
theorem crypt64_Code_Join.mono : ∀ a0 a1 k, LeO (crypt64_Code_Join.f k a0 a1) (crypt64_Code_Join.f (k + 1) a0 a1) := by
  intro a0 a1 k
  unfold crypt64_Code_Join.f
  exact LeO.ite (LeO.ite (LeO.bind (sextet_Coder_Encode.mono _ _ _) (fun _ => LeO.bind (sextet_Coder_Encode.mono _ _ _) (fun _ => LeO.refl _))) (LeO.refl _)) (LeO.refl _)
set_option maxRecDepth 100000 in
theorem crypt64_Code_Join.nil (salt sum : ByteArray) (w : World) : Calls Try.prog 78 #[.pointer none, .string salt, .string sum] w fun e w' => e = .returned (.tuple #[.string (⟨#[]⟩ : ByteArray), .int .i64 11]) ∧ Below w.heap.size w w' := by
  go_enter Try.func78, Try.ntmps78
  go_wp2
  go_ret2
  exact ⟨rfl, Below.refl _ _⟩
set_option maxHeartbeats 8000000 in
set_option maxRecDepth 100000 in
theorem crypt64_Code_Join.calls (k : Nat) (g c : Nat) (salt sum : ByteArray) (r1 : ByteArray) (r2 : Int) (w : World) (hp : C64 125 137 w g c) (h : crypt64_Code_Join.f k salt sum = some (r1, r2)) :
    Calls Try.prog 78 #[.pointer (some ⟨g, 0, none⟩), .string salt, .string sum] w fun e w' => e = .returned (.tuple #[.string r1, .int .i64 r2]) ∧ Below w.heap.size w w' := by
  have c0 := hp.c0
  have HP := Aside0.mk hp
  have HB := Aside0.mk (Below.refl w.heap.size w)
  clear hp
  unfold crypt64_Code_Join.f at h
  by_cases b1 : salt.size = 16
  case neg =>
    rw [if_neg b1] at h
    simp only [Option.some.injEq, Prod.mk.injEq] at h
    obtain ⟨rfl, rfl⟩ := h
    have d1 : ((salt.size : Int) == 16) = false := by simp; omega
    have d2 : ((salt.size : Int) != 16) = true := by simp; omega
    have d3 : (salt.size == 16) = false := by simp; omega
    have d4 : (salt.size != 16) = true := by simp; omega
    go_enter Try.func78, Try.ntmps78
    go_wp2
    go_ret2
    exact ⟨rfl, Below.refl _ _⟩
  rw [if_pos b1] at h
  have d1 : ((salt.size : Int) == 16) = true := by simp; omega
  have d2 : ((salt.size : Int) != 16) = false := by simp; omega
  have d3 : (salt.size == 16) = true := by simp; omega
  have d4 : (salt.size != 16) = false := by simp; omega
  by_cases b2 : sum.size = 23
  case neg =>
    rw [if_neg b2] at h
    simp only [Option.some.injEq, Prod.mk.injEq] at h
    obtain ⟨rfl, rfl⟩ := h
    have e1 : ((sum.size : Int) == 23) = false := by simp; omega
    have e2 : ((sum.size : Int) != 23) = true := by simp; omega
    have e3 : (sum.size == 23) = false := by simp; omega
    have e4 : (sum.size != 23) = true := by simp; omega
    clear b1
    go_enter Try.func78, Try.ntmps78
    go_wp2
    go_ret2
    exact ⟨rfl, Below.refl _ _⟩
  rw [if_pos b2] at h
  have e1 : ((sum.size : Int) == 23) = true := by simp; omega
  have e2 : ((sum.size : Int) != 23) = false := by simp; omega
  have e3 : (sum.size == 23) = true := by simp; omega
  have e4 : (sum.size != 23) = false := by simp; omega
  obtain ⟨x, A1, h⟩ := Option.bind_eq_some_iff.mp h
  obtain ⟨y, A2, h⟩ := Option.bind_eq_some_iff.mp h
  replace A1 := Aside0.mk A1
  replace A2 := Aside0.mk A2
  by_cases b3 : x.size + y.size ≤ 9223372036854775807
  case neg => rw [if_neg b3] at h; cases h
  rw [if_pos b3] at h
  simp only [Option.some.injEq, Prod.mk.injEq] at h
  obtain ⟨rfl, rfl⟩ := h
  clear b1 b2
  go_enter Try.func78, Try.ntmps78
  go_wp2
  replace HP : Aside0 (C64 125 137 w.drew g c) := ⟨HP.out.next (below_drew (Below.refl _ _))⟩
  replace HB : Aside0 (Below w.heap.size w w.drew) := ⟨below_drew HB.out⟩
  clear c0
  refine start_ (n := 17) (S := (fun W : World => W.cell? ⟨g, 0, none⟩ = some (.pointer (some ⟨c, 0, none⟩)))) (ds := []) #[false, false, false, false, false, false, false, false, false, false, false, false, false, false, false, false, false] (by kernel_rfl) rfl rfl HP.out.c0 (fun hHeld => ?_)
  generalize w.drew = wd_ at HP HB hHeld ⊢
  refine pure_ (i := 0) (N := some 18) (v := ?_) (a' := ?_) #[true, false, false, false, false, false, false, false, false, false, false, false, false, false, false, false, false] rfl rfl (by kernel_rfl) (fun _ _ _ h => h) (Or.inl ⟨by rfl, ?_⟩) ?_ ?_
  rotate_left
  · intro w'
    go_simp
    try with_reducible rfl
  rotate_left
  · simp only [Act.put, List.setIfInBounds_toArray, List.set_cons_zero, List.set_cons_succ, i64_w, i32_w]
    rfl
  refine pure_ (i := 1) (N := some 19) (v := ?_) (a' := ?_) #[true, true, false, false, false, false, false, false, false, false, false, false, false, false, false, false, false] rfl rfl (by kernel_rfl) (fun _ _ _ h => h) (Or.inl ⟨by rfl, ?_⟩) ?_ ?_
  rotate_left
  · intro w'
    go_simp
    try with_reducible rfl
  rotate_left
  · simp only [Act.put, List.setIfInBounds_toArray, List.set_cons_zero, List.set_cons_succ, i64_w, i32_w]
    rfl
  refine pure_ (i := 2) (N := some 20) (v := ?_) (a' := ?_) #[true, true, true, false, false, false, false, false, false, false, false, false, false, false, false, false, false] rfl rfl (by kernel_rfl) (fun _ _ _ h => h) (Or.inl ⟨by rfl, ?_⟩) ?_ ?_
  rotate_left
  · intro w'
    go_simp
    try with_reducible rfl
  rotate_left
  · simp only [Act.put, List.setIfInBounds_toArray, List.set_cons_zero, List.set_cons_succ, i64_w, i32_w]
    rfl
  refine take_ (i := 3) (N := some 21) (v := ?_) (a' := ?_) #[true, true, true, true, false, false, false, false, false, false, false, false, false, false, false, false, false] rfl rfl (by kernel_rfl) (fun _ _ _ h => h) (Or.inl ⟨by rfl, ?_⟩) hHeld ?_ ?_
  rotate_left
  · intro w' hSw
    (try simp only [] at hSw)
    (repeat obtain ⟨hs_, hSw⟩ := hSw)
    go_simp
    try with_reducible rfl
  rotate_left
  · simp only [Act.put, List.setIfInBounds_toArray, List.set_cons_zero, List.set_cons_succ, i64_w, i32_w]
    rfl
  refine pure_ (i := 4) (N := some 22) (v := ?_) (a' := ?_) #[true, true, true, true, true, false, false, false, false, false, false, false, false, false, false, false, false] rfl rfl (by kernel_rfl) (fun _ _ _ h => h) (Or.inl ⟨by rfl, ?_⟩) ?_ ?_
  rotate_left
  · intro w'
    go_simp
    try with_reducible rfl
  rotate_left
  · simp only [Act.put, List.setIfInBounds_toArray, List.set_cons_zero, List.set_cons_succ, i64_w, i32_w]
    rfl
  refine pure_ (i := 7) (N := some 25) (v := ?_) (a' := ?_) #[true, true, true, true, true, false, false, true, false, false, false, false, false, false, false, false, false] rfl rfl (by kernel_rfl) (fun _ _ _ h => h) (Or.inl ⟨by rfl, ?_⟩) ?_ ?_
  rotate_left
  · intro w'
    go_simp
    try with_reducible rfl
  rotate_left
  · simp only [Act.put, List.setIfInBounds_toArray, List.set_cons_zero, List.set_cons_succ, i64_w, i32_w]
    rfl
  refine pure_ (i := 8) (N := some 26) (v := ?_) (a' := ?_) #[true, true, true, true, true, false, false, true, true, false, false, false, false, false, false, false, false] rfl rfl (by kernel_rfl) (fun _ _ _ h => h) (Or.inl ⟨by rfl, ?_⟩) ?_ ?_
  rotate_left
  · intro w'
    go_simp
    try with_reducible rfl
  rotate_left
  · simp only [Act.put, List.setIfInBounds_toArray, List.set_cons_zero, List.set_cons_succ, i64_w, i32_w]
    rfl
  refine pure_ (i := 9) (N := some 27) (v := ?_) (a' := ?_) #[true, true, true, true, true, false, false, true, true, true, false, false, false, false, false, false, false] rfl rfl (by kernel_rfl) (fun _ _ _ h => h) (Or.inl ⟨by rfl, ?_⟩) ?_ ?_
  rotate_left
  · intro w'
    go_simp
    try with_reducible rfl
  rotate_left
  · simp only [Act.put, List.setIfInBounds_toArray, List.set_cons_zero, List.set_cons_succ, i64_w, i32_w]
    rfl
  refine take_ (i := 10) (N := some 28) (v := ?_) (a' := ?_) #[true, true, true, true, true, false, false, true, true, true, true, false, false, false, false, false, false] rfl rfl (by kernel_rfl) (fun _ _ _ h => h) (Or.inl ⟨by rfl, ?_⟩) hHeld ?_ ?_
  rotate_left
  · intro w' hSw
    (try simp only [] at hSw)
    (repeat obtain ⟨hs_, hSw⟩ := hSw)
    go_simp
    try with_reducible rfl
  rotate_left
  · simp only [Act.put, List.setIfInBounds_toArray, List.set_cons_zero, List.set_cons_succ, i64_w, i32_w]
    rfl
  refine pure_ (i := 11) (N := some 29) (v := ?_) (a' := ?_) #[true, true, true, true, true, false, false, true, true, true, true, true, false, false, false, false, false] rfl rfl (by kernel_rfl) (fun _ _ _ h => h) (Or.inl ⟨by rfl, ?_⟩) ?_ ?_
  rotate_left
  · intro w'
    go_simp
    try with_reducible rfl
  rotate_left
  · simp only [Act.put, List.setIfInBounds_toArray, List.set_cons_zero, List.set_cons_succ, i64_w, i32_w]
    rfl
  refine two_ (i := 5) (j := 12) (Ni := (some 23)) (Nj := (some 30)) #[true, true, true, true, true, true, false, true, true, true, true, true, false, false, false, false, false] #[true, true, true, true, true, false, false, true, true, true, true, true, true, false, false, false, false] rfl rfl rfl rfl (by kernel_rfl) (by decide) (by decide) (fun K hK => ?_) (fun K hK => ?_)
  · skip
    refine value_ (w1 := ?_) (v := ?_) (by rfl) rfl ?_ ?_
    rotate_left 2
    · go_simp
      constructor
      · rfl
      · rfl
    refine alloc1_gen (P := K _) (fun w1_ hC hb => ?_)
    have n0_ := Aside0.mk (below_step HB.out hb)
    have n1_ := Aside0.mk (HP.out.next hb)
    have C1 := Aside0.mk (hC)
    clear hb HB HP hC
    have HB := n0_
    have HP := n1_
    clear n0_ n1_
    refine hK.out _ _ HP.out.c0 (fun hHeld => ?_)
    clear hK K
    refine norm_ (a' := ?_) ?_ ?_
    rotate_left
    · show Act.put _ (some 23) _ = _
      simp only [Act.put, List.setIfInBounds_toArray, List.set_cons_zero, List.set_cons_succ, i64_w, i32_w]
      rfl
    refine two_ (i := 6) (j := 12) (Ni := (some 24)) (Nj := (some 30)) #[true, true, true, true, true, true, true, true, true, true, true, true, false, false, false, false, false] #[true, true, true, true, true, true, false, true, true, true, true, true, true, false, false, false, false] rfl rfl rfl rfl (by kernel_rfl) (by decide) (by decide) (fun K hK => ?_) (fun K hK => ?_)
    · skip
      refine goes_ Try.func94 (by kernel_rfl) rfl #[.pointer (some ⟨c, 0, none⟩), .slice (some ⟨_, 0, none⟩) 1 1] (by rfl) rfl rfl (by (try simp only [List.map_toArray, List.map_cons, List.map_nil]); first | done | rfl | (simp only [List.length_drop, List.length_take]; rfl)) ?_
      with_reducible refine (sextet_Coder_Encode.calls1 k c sxCrypt _ salt x _ HP.out.coder.letters C1.out A1.out).mono ?_
      rintro e w' ⟨rfl, hb⟩
      have n0_ := Aside0.mk (below_step HB.out hb)
      have n1_ := Aside0.mk (HP.out.next hb)
      have n2_ := Aside0.mk (Kd.C_below C1.out hb)
      clear hb HB HP C1 
      have HB := n0_
      have HP := n1_
      have C1 := n2_
      clear n0_ n1_ n2_
      refine ⟨_, rfl, ?_⟩
      refine hK.out _ _ HP.out.c0 (fun hHeld => ?_)
      clear hK K
      refine norm_ (a' := ?_) ?_ ?_
      rotate_left
      · show Act.put _ (some 24) _ = _
        simp only [Act.put, List.setIfInBounds_toArray, List.set_cons_zero, List.set_cons_succ, i64_w, i32_w]
        rfl
      refine one_ (i := 12) (N := (some 30)) #[true, true, true, true, true, true, true, true, true, true, true, true, true, false, false, false, false] rfl rfl (by kernel_rfl) (by decide) (fun K hK => ?_)
      refine value_ (w1 := ?_) (v := ?_) (by rfl) rfl ?_ ?_
      rotate_left 2
      · go_simp
        constructor
        · rfl
        · rfl
      refine alloc1_gen (P := K _) (fun w1_ hC hb => ?_)
      have n0_ := Aside0.mk (below_step HB.out hb)
      have n1_ := Aside0.mk (HP.out.next hb)
      have n2_ := Aside0.mk (Kd.C_below C1.out hb)
      have C2 := Aside0.mk (hC)
      clear hb HB HP C1 hC
      have HB := n0_
      have HP := n1_
      have C1 := n2_
      clear n0_ n1_ n2_
      refine hK.out _ _ HP.out.c0 (fun hHeld => ?_)
      clear hK K
      refine norm_ (a' := ?_) ?_ ?_
      rotate_left
      · show Act.put _ (some 30) _ = _
        simp only [Act.put, List.setIfInBounds_toArray, List.set_cons_zero, List.set_cons_succ, i64_w, i32_w]
        rfl
      refine one_ (i := 13) (N := (some 31)) #[true, true, true, true, true, true, true, true, true, true, true, true, true, true, false, false, false] rfl rfl (by kernel_rfl) (by decide) (fun K hK => ?_)
      refine goes_ Try.func94 (by kernel_rfl) rfl #[.pointer (some ⟨c, 0, none⟩), .slice (some ⟨_, 0, none⟩) 1 1] (by rfl) rfl rfl (by (try simp only [List.map_toArray, List.map_cons, List.map_nil]); first | done | rfl | (simp only [List.length_drop, List.length_take]; rfl)) ?_
      with_reducible refine (sextet_Coder_Encode.calls1 k c sxCrypt _ sum y _ HP.out.coder.letters C2.out A2.out).mono ?_
      rintro e w' ⟨rfl, hb⟩
      have n0_ := Aside0.mk (below_step HB.out hb)
      have n1_ := Aside0.mk (HP.out.next hb)
      have n2_ := Aside0.mk (Kd.C_below C1.out hb)
      have n3_ := Aside0.mk (Kd.C_below C2.out hb)
      clear hb HB HP C1 C2 
      have HB := n0_
      have HP := n1_
      have C1 := n2_
      have C2 := n3_
      clear n0_ n1_ n2_ n3_
      refine ⟨_, rfl, ?_⟩
      refine hK.out _ _ HP.out.c0 (fun hHeld => ?_)
      clear hK K
      refine norm_ (a' := ?_) ?_ ?_
      rotate_left
      · show Act.put _ (some 31) _ = _
        simp only [Act.put, List.setIfInBounds_toArray, List.set_cons_zero, List.set_cons_succ, i64_w, i32_w]
        rfl
      refine pure_ (i := 14) (N := some 32) (v := ?_) (a' := ?_) #[true, true, true, true, true, true, true, true, true, true, true, true, true, true, true, false, false] rfl rfl (by kernel_rfl) (fun _ _ _ h => h) (Or.inl ⟨by rfl, ?_⟩) ?_ ?_
      rotate_left
      · intro w'
        go_simp
        rw [if_neg (by omega)]
        try with_reducible rfl
      rotate_left
      · simp only [Act.put, List.setIfInBounds_toArray, List.set_cons_zero, List.set_cons_succ, i64_w, i32_w]
        rfl
      refine pure_ (i := 15) (N := some 6) (v := ?_) (a' := ?_) #[true, true, true, true, true, true, true, true, true, true, true, true, true, true, true, true, false] rfl rfl (by kernel_rfl) (fun _ _ _ h => h) (Or.inl ⟨by rfl, ?_⟩) ?_ ?_
      rotate_left
      · intro w'
        go_simp
        try with_reducible rfl
      rotate_left
      · simp only [Act.put, List.setIfInBounds_toArray, List.set_cons_zero, List.set_cons_succ, i64_w, i32_w]
        rfl
      refine pure_ (i := 16) (N := some 7) (v := ?_) (a' := ?_) #[true, true, true, true, true, true, true, true, true, true, true, true, true, true, true, true, true] rfl rfl (by kernel_rfl) (fun _ _ _ h => h) (Or.inl ⟨by rfl, ?_⟩) ?_ ?_
      rotate_left
      · intro w'
        go_simp
        try with_reducible rfl
      rotate_left
      · simp only [Act.put, List.setIfInBounds_toArray, List.set_cons_zero, List.set_cons_succ, i64_w, i32_w]
        rfl
      refine done_ (by kernel_rfl) ?_
      clear hHeld
      go_wp2
      go_ret2
      exact ⟨rfl, HB.out⟩
    · skip
      refine value_ (w1 := ?_) (v := ?_) (by rfl) rfl ?_ ?_
      rotate_left 2
      · go_simp
        constructor
        · rfl
        · rfl
      refine alloc1_gen (P := K _) (fun w1_ hC hb => ?_)
      have n0_ := Aside0.mk (below_step HB.out hb)
      have n1_ := Aside0.mk (HP.out.next hb)
      have n2_ := Aside0.mk (Kd.C_below C1.out hb)
      have C2 := Aside0.mk (hC)
      clear hb HB HP C1 hC
      have HB := n0_
      have HP := n1_
      have C1 := n2_
      clear n0_ n1_ n2_
      refine hK.out _ _ HP.out.c0 (fun hHeld => ?_)
      clear hK K
      refine norm_ (a' := ?_) ?_ ?_
      rotate_left
      · show Act.put _ (some 30) _ = _
        simp only [Act.put, List.setIfInBounds_toArray, List.set_cons_zero, List.set_cons_succ, i64_w, i32_w]
        rfl
      refine one_ (i := 6) (N := (some 24)) #[true, true, true, true, true, true, true, true, true, true, true, true, true, false, false, false, false] rfl rfl (by kernel_rfl) (by decide) (fun K hK => ?_)
      refine goes_ Try.func94 (by kernel_rfl) rfl #[.pointer (some ⟨c, 0, none⟩), .slice (some ⟨_, 0, none⟩) 1 1] (by rfl) rfl rfl (by (try simp only [List.map_toArray, List.map_cons, List.map_nil]); first | done | rfl | (simp only [List.length_drop, List.length_take]; rfl)) ?_
      with_reducible refine (sextet_Coder_Encode.calls1 k c sxCrypt _ salt x _ HP.out.coder.letters C1.out A1.out).mono ?_
      rintro e w' ⟨rfl, hb⟩
      have n0_ := Aside0.mk (below_step HB.out hb)
      have n1_ := Aside0.mk (HP.out.next hb)
      have n2_ := Aside0.mk (Kd.C_below C1.out hb)
      have n3_ := Aside0.mk (Kd.C_below C2.out hb)
      clear hb HB HP C1 C2 
      have HB := n0_
      have HP := n1_
      have C1 := n2_
      have C2 := n3_
      clear n0_ n1_ n2_ n3_
      refine ⟨_, rfl, ?_⟩
      refine hK.out _ _ HP.out.c0 (fun hHeld => ?_)
      clear hK K
      refine norm_ (a' := ?_) ?_ ?_
      rotate_left
      · show Act.put _ (some 24) _ = _
        simp only [Act.put, List.setIfInBounds_toArray, List.set_cons_zero, List.set_cons_succ, i64_w, i32_w]
        rfl
      refine one_ (i := 13) (N := (some 31)) #[true, true, true, true, true, true, true, true, true, true, true, true, true, true, false, false, false] rfl rfl (by kernel_rfl) (by decide) (fun K hK => ?_)
      refine goes_ Try.func94 (by kernel_rfl) rfl #[.pointer (some ⟨c, 0, none⟩), .slice (some ⟨_, 0, none⟩) 1 1] (by rfl) rfl rfl (by (try simp only [List.map_toArray, List.map_cons, List.map_nil]); first | done | rfl | (simp only [List.length_drop, List.length_take]; rfl)) ?_
      with_reducible refine (sextet_Coder_Encode.calls1 k c sxCrypt _ sum y _ HP.out.coder.letters C2.out A2.out).mono ?_
      rintro e w' ⟨rfl, hb⟩
      have n0_ := Aside0.mk (below_step HB.out hb)
      have n1_ := Aside0.mk (HP.out.next hb)
      have n2_ := Aside0.mk (Kd.C_below C1.out hb)
      have n3_ := Aside0.mk (Kd.C_below C2.out hb)
      clear hb HB HP C1 C2 
      have HB := n0_
      have HP := n1_
      have C1 := n2_
      have C2 := n3_
      clear n0_ n1_ n2_ n3_
      refine ⟨_, rfl, ?_⟩
      refine hK.out _ _ HP.out.c0 (fun hHeld => ?_)
      clear hK K
      refine norm_ (a' := ?_) ?_ ?_
      rotate_left
      · show Act.put _ (some 31) _ = _
        simp only [Act.put, List.setIfInBounds_toArray, List.set_cons_zero, List.set_cons_succ, i64_w, i32_w]
        rfl
      refine pure_ (i := 14) (N := some 32) (v := ?_) (a' := ?_) #[true, true, true, true, true, true, true, true, true, true, true, true, true, true, true, false, false] rfl rfl (by kernel_rfl) (fun _ _ _ h => h) (Or.inl ⟨by rfl, ?_⟩) ?_ ?_
      rotate_left
      · intro w'
        go_simp
        rw [if_neg (by omega)]
        try with_reducible rfl
      rotate_left
      · simp only [Act.put, List.setIfInBounds_toArray, List.set_cons_zero, List.set_cons_succ, i64_w, i32_w]
        rfl
      refine pure_ (i := 15) (N := some 6) (v := ?_) (a' := ?_) #[true, true, true, true, true, true, true, true, true, true, true, true, true, true, true, true, false] rfl rfl (by kernel_rfl) (fun _ _ _ h => h) (Or.inl ⟨by rfl, ?_⟩) ?_ ?_
      rotate_left
      · intro w'
        go_simp
        try with_reducible rfl
      rotate_left
      · simp only [Act.put, List.setIfInBounds_toArray, List.set_cons_zero, List.set_cons_succ, i64_w, i32_w]
        rfl
      refine pure_ (i := 16) (N := some 7) (v := ?_) (a' := ?_) #[true, true, true, true, true, true, true, true, true, true, true, true, true, true, true, true, true] rfl rfl (by kernel_rfl) (fun _ _ _ h => h) (Or.inl ⟨by rfl, ?_⟩) ?_ ?_
      rotate_left
      · intro w'
        go_simp
        try with_reducible rfl
      rotate_left
      · simp only [Act.put, List.setIfInBounds_toArray, List.set_cons_zero, List.set_cons_succ, i64_w, i32_w]
        rfl
      refine done_ (by kernel_rfl) ?_
      clear hHeld
      go_wp2
      go_ret2
      exact ⟨rfl, HB.out⟩
  · skip
    refine value_ (w1 := ?_) (v := ?_) (by rfl) rfl ?_ ?_
    rotate_left 2
    · go_simp
      constructor
      · rfl
      · rfl
    refine alloc1_gen (P := K _) (fun w1_ hC hb => ?_)
    have n0_ := Aside0.mk (below_step HB.out hb)
    have n1_ := Aside0.mk (HP.out.next hb)
    have C2 := Aside0.mk (hC)
    clear hb HB HP hC
    have HB := n0_
    have HP := n1_
    clear n0_ n1_
    refine hK.out _ _ HP.out.c0 (fun hHeld => ?_)
    clear hK K
    refine norm_ (a' := ?_) ?_ ?_
    rotate_left
    · show Act.put _ (some 30) _ = _
      simp only [Act.put, List.setIfInBounds_toArray, List.set_cons_zero, List.set_cons_succ, i64_w, i32_w]
      rfl
    refine one_ (i := 5) (N := (some 23)) #[true, true, true, true, true, true, false, true, true, true, true, true, true, false, false, false, false] rfl rfl (by kernel_rfl) (by decide) (fun K hK => ?_)
    refine value_ (w1 := ?_) (v := ?_) (by rfl) rfl ?_ ?_
    rotate_left 2
    · go_simp
      constructor
      · rfl
      · rfl
    refine alloc1_gen (P := K _) (fun w1_ hC hb => ?_)
    have n0_ := Aside0.mk (below_step HB.out hb)
    have n1_ := Aside0.mk (HP.out.next hb)
    have n2_ := Aside0.mk (Kd.C_below C2.out hb)
    have C1 := Aside0.mk (hC)
    clear hb HB HP C2 hC
    have HB := n0_
    have HP := n1_
    have C2 := n2_
    clear n0_ n1_ n2_
    refine hK.out _ _ HP.out.c0 (fun hHeld => ?_)
    clear hK K
    refine norm_ (a' := ?_) ?_ ?_
    rotate_left
    · show Act.put _ (some 23) _ = _
      simp only [Act.put, List.setIfInBounds_toArray, List.set_cons_zero, List.set_cons_succ, i64_w, i32_w]
      rfl
    refine one_ (i := 6) (N := (some 24)) #[true, true, true, true, true, true, true, true, true, true, true, true, true, false, false, false, false] rfl rfl (by kernel_rfl) (by decide) (fun K hK => ?_)
    refine goes_ Try.func94 (by kernel_rfl) rfl #[.pointer (some ⟨c, 0, none⟩), .slice (some ⟨_, 0, none⟩) 1 1] (by rfl) rfl rfl (by (try simp only [List.map_toArray, List.map_cons, List.map_nil]); first | done | rfl | (simp only [List.length_drop, List.length_take]; rfl)) ?_
    with_reducible refine (sextet_Coder_Encode.calls1 k c sxCrypt _ salt x _ HP.out.coder.letters C1.out A1.out).mono ?_
    rintro e w' ⟨rfl, hb⟩
    have n0_ := Aside0.mk (below_step HB.out hb)
    have n1_ := Aside0.mk (HP.out.next hb)
    have n2_ := Aside0.mk (Kd.C_below C2.out hb)
    have n3_ := Aside0.mk (Kd.C_below C1.out hb)
    clear hb HB HP C2 C1 
    have HB := n0_
    have HP := n1_
    have C2 := n2_
    have C1 := n3_
    clear n0_ n1_ n2_ n3_
    refine ⟨_, rfl, ?_⟩
    refine hK.out _ _ HP.out.c0 (fun hHeld => ?_)
    clear hK K
    refine norm_ (a' := ?_) ?_ ?_
    rotate_left
    · show Act.put _ (some 24) _ = _
      simp only [Act.put, List.setIfInBounds_toArray, List.set_cons_zero, List.set_cons_succ, i64_w, i32_w]
      rfl
    refine one_ (i := 13) (N := (some 31)) #[true, true, true, true, true, true, true, true, true, true, true, true, true, true, false, false, false] rfl rfl (by kernel_rfl) (by decide) (fun K hK => ?_)
    refine goes_ Try.func94 (by kernel_rfl) rfl #[.pointer (some ⟨c, 0, none⟩), .slice (some ⟨_, 0, none⟩) 1 1] (by rfl) rfl rfl (by (try simp only [List.map_toArray, List.map_cons, List.map_nil]); first | done | rfl | (simp only [List.length_drop, List.length_take]; rfl)) ?_
    with_reducible refine (sextet_Coder_Encode.calls1 k c sxCrypt _ sum y _ HP.out.coder.letters C2.out A2.out).mono ?_
    rintro e w' ⟨rfl, hb⟩
    have n0_ := Aside0.mk (below_step HB.out hb)
    have n1_ := Aside0.mk (HP.out.next hb)
    have n2_ := Aside0.mk (Kd.C_below C2.out hb)
    have n3_ := Aside0.mk (Kd.C_below C1.out hb)
    clear hb HB HP C2 C1 
    have HB := n0_
    have HP := n1_
    have C2 := n2_
    have C1 := n3_
    clear n0_ n1_ n2_ n3_
    refine ⟨_, rfl, ?_⟩
    refine hK.out _ _ HP.out.c0 (fun hHeld => ?_)
    clear hK K
    refine norm_ (a' := ?_) ?_ ?_
    rotate_left
    · show Act.put _ (some 31) _ = _
      simp only [Act.put, List.setIfInBounds_toArray, List.set_cons_zero, List.set_cons_succ, i64_w, i32_w]
      rfl
    refine pure_ (i := 14) (N := some 32) (v := ?_) (a' := ?_) #[true, true, true, true, true, true, true, true, true, true, true, true, true, true, true, false, false] rfl rfl (by kernel_rfl) (fun _ _ _ h => h) (Or.inl ⟨by rfl, ?_⟩) ?_ ?_
    rotate_left
    · intro w'
      go_simp
      rw [if_neg (by omega)]
      try with_reducible rfl
    rotate_left
    · simp only [Act.put, List.setIfInBounds_toArray, List.set_cons_zero, List.set_cons_succ, i64_w, i32_w]
      rfl
    refine pure_ (i := 15) (N := some 6) (v := ?_) (a' := ?_) #[true, true, true, true, true, true, true, true, true, true, true, true, true, true, true, true, false] rfl rfl (by kernel_rfl) (fun _ _ _ h => h) (Or.inl ⟨by rfl, ?_⟩) ?_ ?_
    rotate_left
    · intro w'
      go_simp
      try with_reducible rfl
    rotate_left
    · simp only [Act.put, List.setIfInBounds_toArray, List.set_cons_zero, List.set_cons_succ, i64_w, i32_w]
      rfl
    refine pure_ (i := 16) (N := some 7) (v := ?_) (a' := ?_) #[true, true, true, true, true, true, true, true, true, true, true, true, true, true, true, true, true] rfl rfl (by kernel_rfl) (fun _ _ _ h => h) (Or.inl ⟨by rfl, ?_⟩) ?_ ?_
    rotate_left
    · intro w'
      go_simp
      try with_reducible rfl
    rotate_left
    · simp only [Act.put, List.setIfInBounds_toArray, List.set_cons_zero, List.set_cons_succ, i64_w, i32_w]
      rfl
    refine done_ (by kernel_rfl) ?_
    clear hHeld
    go_wp2
    go_ret2
    exact ⟨rfl, HB.out⟩

/-! ### modular_Encode: function 42 -/
def modular_Encode.f (k : Nat) (a0_0 : Int) (a0_1 : Int) (a0_2 : ByteArray) (a0_3 : ByteArray) : Option (ByteArray × Int) := (modular_Check.f k a0_0 a0_1 a0_2 a0_3).bind fun t122 => (if t122 = 0 then ((dec_Two.f a0_1).bind fun bt123 => ((crypt64_New.f).bind fun t125 => ((crypt64_Code_Join.f k a0_2 a0_3).bind fun bt126 => ((some (([a0_0] : List Int) : List Int)).bind fun y128 => (if 2 + (strOfNums y128).size ≤ 9223372036854775807 then (if ((⟨#[36, 50]⟩ : ByteArray) ++ (strOfNums y128)).size + 1 ≤ 9223372036854775807 then (if (((⟨#[36, 50]⟩ : ByteArray) ++ (strOfNums y128)) ++ (⟨#[36]⟩ : ByteArray)).size + bt123.1.size ≤ 9223372036854775807 then (if ((((⟨#[36, 50]⟩ : ByteArray) ++ (strOfNums y128)) ++ (⟨#[36]⟩ : ByteArray)) ++ bt123.1).size + 1 ≤ 9223372036854775807 then (if (((((⟨#[36, 50]⟩ : ByteArray) ++ (strOfNums y128)) ++ (⟨#[36]⟩ : ByteArray)) ++ bt123.1) ++ (⟨#[36]⟩ : ByteArray)).size + bt126.1.size ≤ 9223372036854775807 then (some ((((((⟨#[36, 50]⟩ : ByteArray) ++ (strOfNums y128)) ++ (⟨#[36]⟩ : ByteArray)) ++ bt123.1) ++ (⟨#[36]⟩ : ByteArray)) ++ bt126.1, 0)) else (none)) else (none)) else (none)) else (none)) else (none)))))) else (some ((⟨#[]⟩ : ByteArray), t122)))
theorem modular_Encode.mono : ∀ a0 a1 a2 a3 k, LeO (modular_Encode.f k a0 a1 a2 a3) (modular_Encode.f (k + 1) a0 a1 a2 a3) := by
 intro a0 a1 a2 a3 k
 unfold modular_Encode.f
 repeat' first
   | (with_reducible exact crypt64_Code_Join.mono _ _ _)
   | (with_reducible exact modular_Check.mono _ _ _ _ _)
   | (with_reducible exact LeO.refl _)
   | (with_reducible exact LeO.none _)
   | (with_reducible refine LeO.ite ?_ ?_)
   | (with_reducible refine LeO.bind ?_ (fun _ => ?_))
   | exact crypt64_Code_Join.mono _ _ _
   | exact modular_Check.mono _ _ _ _ _
   | exact LeO.none _
   | refine LeO.ite ?_ ?_
   | refine LeO.bind ?_ (fun _ => ?_)
def modular_Encode.T5 : Bool × List (List Nat × List Nat) := (true, [([], []), ([], []), ([1], [1]), ([], []), ([3], [3]), ([0, 2, 4, 0], [0, 2, 4]), ([5], [5]), ([6], [6]), ([6], [6]), ([7, 5, 0, 1, 2, 3, 4, 5, 6, 7], [7]), ([8, 9, 0, 1, 2, 3, 4, 5, 6, 7, 8, 9], [8])])
def modular_Encode.B5 : List Nat := [0, 0, 2, 0, 8, 31, 63, 127, 127, 255, 1023]
theorem modular_Encode.tab5 : rtab .any (opsOf Try.f42 5) = modular_Encode.T5 := by kernel_rfl
theorem modular_Encode.bits5 : waitsOk modular_Encode.T5.2 modular_Encode.B5 = true := by kernel_rfl
set_option maxHeartbeats 8000000 in
set_option maxRecDepth 100000 in
theorem modular_Encode.calls (k : Nat) (a0_0 : Int) (a0_1 : Int) (a0_2 : ByteArray) (a0_3 : ByteArray) (r1 : ByteArray) (r2 : Int) (w : World) (h : modular_Encode.f k a0_0 a0_1 a0_2 a0_3 = some (r1, r2)) :
  Calls Try.prog 42 #[.agg #[.int .u8 a0_0, .int .i64 a0_1, .string a0_2, .string a0_3]] w fun e w' => e = .returned (.tuple #[.string r1, .int .i64 r2]) ∧ Below w.heap.size w w' := by
 have hu42 := Try.underlying42
 have HB := Aside0.mk (Below.refl w.heap.size w)
 have H : ((modular_Check.f k a0_0 a0_1 a0_2 a0_3).bind fun t122 => (if t122 = 0 then ((dec_Two.f a0_1).bind fun bt123 => ((crypt64_New.f).bind fun t125 => ((crypt64_Code_Join.f k a0_2 a0_3).bind fun bt126 => ((some (([a0_0] : List Int) : List Int)).bind fun y128 => (if 2 + (strOfNums y128).size ≤ 9223372036854775807 then (if ((⟨#[36, 50]⟩ : ByteArray) ++ (strOfNums y128)).size + 1 ≤ 9223372036854775807 then (if (((⟨#[36, 50]⟩ : ByteArray) ++ (strOfNums y128)) ++ (⟨#[36]⟩ : ByteArray)).size + bt123.1.size ≤ 9223372036854775807 then (if ((((⟨#[36, 50]⟩ : ByteArray) ++ (strOfNums y128)) ++ (⟨#[36]⟩ : ByteArray)) ++ bt123.1).size + 1 ≤ 9223372036854775807 then (if (((((⟨#[36, 50]⟩ : ByteArray) ++ (strOfNums y128)) ++ (⟨#[36]⟩ : ByteArray)) ++ bt123.1) ++ (⟨#[36]⟩ : ByteArray)).size + bt126.1.size ≤ 9223372036854775807 then (some ((((((⟨#[36, 50]⟩ : ByteArray) ++ (strOfNums y128)) ++ (⟨#[36]⟩ : ByteArray)) ++ bt123.1) ++ (⟨#[36]⟩ : ByteArray)) ++ bt126.1, 0)) else (none)) else (none)) else (none)) else (none)) else (none)))))) else (some ((⟨#[]⟩ : ByteArray), t122)))) = some (r1, r2) := h
 clear h
 replace H := Option.bind_eq_some_iff.mp H
 obtain ⟨t122, A20, H⟩ := H
 replace H : (if t122 = 0 then ((dec_Two.f a0_1).bind fun bt123 => ((crypt64_New.f).bind fun t125 => ((crypt64_Code_Join.f k a0_2 a0_3).bind fun bt126 => ((some (([a0_0] : List Int) : List Int)).bind fun y128 => (if 2 + (strOfNums y128).size ≤ 9223372036854775807 then (if ((⟨#[36, 50]⟩ : ByteArray) ++ (strOfNums y128)).size + 1 ≤ 9223372036854775807 then (if (((⟨#[36, 50]⟩ : ByteArray) ++ (strOfNums y128)) ++ (⟨#[36]⟩ : ByteArray)).size + bt123.1.size ≤ 9223372036854775807 then (if ((((⟨#[36, 50]⟩ : ByteArray) ++ (strOfNums y128)) ++ (⟨#[36]⟩ : ByteArray)) ++ bt123.1).size + 1 ≤ 9223372036854775807 then (if (((((⟨#[36, 50]⟩ : ByteArray) ++ (strOfNums y128)) ++ (⟨#[36]⟩ : ByteArray)) ++ bt123.1) ++ (⟨#[36]⟩ : ByteArray)).size + bt126.1.size ≤ 9223372036854775807 then (some ((((((⟨#[36, 50]⟩ : ByteArray) ++ (strOfNums y128)) ++ (⟨#[36]⟩ : ByteArray)) ++ bt123.1) ++ (⟨#[36]⟩ : ByteArray)) ++ bt126.1, 0)) else (none)) else (none)) else (none)) else (none)) else (none)))))) else (some ((⟨#[]⟩ : ByteArray), t122))) = some (r1, r2) := H
 have A2 := Aside0.mk A20
 clear A20
 by_cases c3 : t122 = 0
 ·rw [if_pos c3] at H
  have c3b0 : (t122 == 0) = true := beq_iff_eq.mpr c3
  have c3b1 : (t122 != 0) = false := bne_eq_false_iff_eq.mpr c3
  clear c3
  replace H := Option.bind_eq_some_iff.mp H
  obtain ⟨⟨t123, t124⟩, A40, H⟩ := H
  replace H : ((crypt64_New.f).bind fun t125 => ((crypt64_Code_Join.f k a0_2 a0_3).bind fun bt126 => ((some (([a0_0] : List Int) : List Int)).bind fun y128 => (if 2 + (strOfNums y128).size ≤ 9223372036854775807 then (if ((⟨#[36, 50]⟩ : ByteArray) ++ (strOfNums y128)).size + 1 ≤ 9223372036854775807 then (if (((⟨#[36, 50]⟩ : ByteArray) ++ (strOfNums y128)) ++ (⟨#[36]⟩ : ByteArray)).size + t123.size ≤ 9223372036854775807 then (if ((((⟨#[36, 50]⟩ : ByteArray) ++ (strOfNums y128)) ++ (⟨#[36]⟩ : ByteArray)) ++ t123).size + 1 ≤ 9223372036854775807 then (if (((((⟨#[36, 50]⟩ : ByteArray) ++ (strOfNums y128)) ++ (⟨#[36]⟩ : ByteArray)) ++ t123) ++ (⟨#[36]⟩ : ByteArray)).size + bt126.1.size ≤ 9223372036854775807 then (some ((((((⟨#[36, 50]⟩ : ByteArray) ++ (strOfNums y128)) ++ (⟨#[36]⟩ : ByteArray)) ++ t123) ++ (⟨#[36]⟩ : ByteArray)) ++ bt126.1, 0)) else (none)) else (none)) else (none)) else (none)) else (none))))) = some (r1, r2) := H
  have A4 := Aside0.mk A40
  clear A40
  replace H := Option.bind_eq_some_iff.mp H
  obtain ⟨t125, A50, H⟩ := H
  replace H : ((crypt64_Code_Join.f k a0_2 a0_3).bind fun bt126 => ((some (([a0_0] : List Int) : List Int)).bind fun y128 => (if 2 + (strOfNums y128).size ≤ 9223372036854775807 then (if ((⟨#[36, 50]⟩ : ByteArray) ++ (strOfNums y128)).size + 1 ≤ 9223372036854775807 then (if (((⟨#[36, 50]⟩ : ByteArray) ++ (strOfNums y128)) ++ (⟨#[36]⟩ : ByteArray)).size + t123.size ≤ 9223372036854775807 then (if ((((⟨#[36, 50]⟩ : ByteArray) ++ (strOfNums y128)) ++ (⟨#[36]⟩ : ByteArray)) ++ t123).size + 1 ≤ 9223372036854775807 then (if (((((⟨#[36, 50]⟩ : ByteArray) ++ (strOfNums y128)) ++ (⟨#[36]⟩ : ByteArray)) ++ t123) ++ (⟨#[36]⟩ : ByteArray)).size + bt126.1.size ≤ 9223372036854775807 then (some ((((((⟨#[36, 50]⟩ : ByteArray) ++ (strOfNums y128)) ++ (⟨#[36]⟩ : ByteArray)) ++ t123) ++ (⟨#[36]⟩ : ByteArray)) ++ bt126.1, 0)) else (none)) else (none)) else (none)) else (none)) else (none)))) = some (r1, r2) := H
  have A5 := Aside0.mk A50
  clear A50
  replace H := Option.bind_eq_some_iff.mp H
  obtain ⟨⟨t126, t127⟩, A60, H⟩ := H
  replace H : ((some (([a0_0] : List Int) : List Int)).bind fun y128 => (if 2 + (strOfNums y128).size ≤ 9223372036854775807 then (if ((⟨#[36, 50]⟩ : ByteArray) ++ (strOfNums y128)).size + 1 ≤ 9223372036854775807 then (if (((⟨#[36, 50]⟩ : ByteArray) ++ (strOfNums y128)) ++ (⟨#[36]⟩ : ByteArray)).size + t123.size ≤ 9223372036854775807 then (if ((((⟨#[36, 50]⟩ : ByteArray) ++ (strOfNums y128)) ++ (⟨#[36]⟩ : ByteArray)) ++ t123).size + 1 ≤ 9223372036854775807 then (if (((((⟨#[36, 50]⟩ : ByteArray) ++ (strOfNums y128)) ++ (⟨#[36]⟩ : ByteArray)) ++ t123) ++ (⟨#[36]⟩ : ByteArray)).size + t126.size ≤ 9223372036854775807 then (some ((((((⟨#[36, 50]⟩ : ByteArray) ++ (strOfNums y128)) ++ (⟨#[36]⟩ : ByteArray)) ++ t123) ++ (⟨#[36]⟩ : ByteArray)) ++ t126, 0)) else (none)) else (none)) else (none)) else (none)) else (none))) = some (r1, r2) := H
  have A6 := Aside0.mk A60
  clear A60
  obtain ⟨y128, hy128⟩ : ∃ y_ : List Int, y_ = (([a0_0] : List Int)) := ⟨_, rfl⟩
  replace H : (if 2 + (strOfNums y128).size ≤ 9223372036854775807 then (if ((⟨#[36, 50]⟩ : ByteArray) ++ (strOfNums y128)).size + 1 ≤ 9223372036854775807 then (if (((⟨#[36, 50]⟩ : ByteArray) ++ (strOfNums y128)) ++ (⟨#[36]⟩ : ByteArray)).size + t123.size ≤ 9223372036854775807 then (if ((((⟨#[36, 50]⟩ : ByteArray) ++ (strOfNums y128)) ++ (⟨#[36]⟩ : ByteArray)) ++ t123).size + 1 ≤ 9223372036854775807 then (if (((((⟨#[36, 50]⟩ : ByteArray) ++ (strOfNums y128)) ++ (⟨#[36]⟩ : ByteArray)) ++ t123) ++ (⟨#[36]⟩ : ByteArray)).size + t126.size ≤ 9223372036854775807 then (some ((((((⟨#[36, 50]⟩ : ByteArray) ++ (strOfNums y128)) ++ (⟨#[36]⟩ : ByteArray)) ++ t123) ++ (⟨#[36]⟩ : ByteArray)) ++ t126, 0)) else (none)) else (none)) else (none)) else (none)) else (none)) = some (r1, r2) := by first | (rw [hy128]; with_reducible exact H) | (have H2_ := (Option.bind_some _ _).symm.trans H; rw [hy128]; with_reducible exact H2_) | (have H2_ := (Option.bind_some _ _).symm.trans H; with_reducible exact H2_) | with_reducible exact H | (rw [hy128]; exact H) | exact H
  have Ny128 := Aside0.mk hy128
  clear hy128
  by_cases c7 : 2 + (strOfNums y128).size ≤ 9223372036854775807
  ·rw [if_pos c7] at H
   have c7b0 := eq_true c7
   have c7b1 : decide (2 + (strOfNums y128).size ≤ 9223372036854775807) = true := decide_eq_true c7
   try have c7b2 : (9223372036854775807 < 2 + (strOfNums y128).size) = False := eq_false (Nat.not_lt.2 c7)
   by_cases c8 : ((⟨#[36, 50]⟩ : ByteArray) ++ (strOfNums y128)).size + 1 ≤ 9223372036854775807
   ·rw [if_pos c8] at H
    have c8b0 := eq_true c8
    have c8b1 : decide (((⟨#[36, 50]⟩ : ByteArray) ++ (strOfNums y128)).size + 1 ≤ 9223372036854775807) = true := decide_eq_true c8
    try have c8b2 : (9223372036854775807 < ((⟨#[36, 50]⟩ : ByteArray) ++ (strOfNums y128)).size + 1) = False := eq_false (Nat.not_lt.2 c8)
    have c8b3 := c8b0
    simp only [ByteArray.size_append, show (⟨#[36, 50]⟩ : ByteArray).size = 2 from rfl] at c8b3
    have c8b5 := c8b2
    simp only [ByteArray.size_append, show (⟨#[36, 50]⟩ : ByteArray).size = 2 from rfl] at c8b5
    by_cases c9 : (((⟨#[36, 50]⟩ : ByteArray) ++ (strOfNums y128)) ++ (⟨#[36]⟩ : ByteArray)).size + t123.size ≤ 9223372036854775807
    ·rw [if_pos c9] at H
     have c9b0 := eq_true c9
     have c9b1 : decide ((((⟨#[36, 50]⟩ : ByteArray) ++ (strOfNums y128)) ++ (⟨#[36]⟩ : ByteArray)).size + t123.size ≤ 9223372036854775807) = true := decide_eq_true c9
     try have c9b2 : (9223372036854775807 < (((⟨#[36, 50]⟩ : ByteArray) ++ (strOfNums y128)) ++ (⟨#[36]⟩ : ByteArray)).size + t123.size) = False := eq_false (Nat.not_lt.2 c9)
     have c9b3 := c9b0
     simp only [ByteArray.size_append, show (⟨#[36, 50]⟩ : ByteArray).size = 2 from rfl, show (⟨#[36]⟩ : ByteArray).size = 1 from rfl] at c9b3
     have c9b5 := c9b2
     simp only [ByteArray.size_append, show (⟨#[36, 50]⟩ : ByteArray).size = 2 from rfl, show (⟨#[36]⟩ : ByteArray).size = 1 from rfl] at c9b5
     by_cases c10 : ((((⟨#[36, 50]⟩ : ByteArray) ++ (strOfNums y128)) ++ (⟨#[36]⟩ : ByteArray)) ++ t123).size + 1 ≤ 9223372036854775807
     ·rw [if_pos c10] at H
      have c10b0 := eq_true c10
      have c10b1 : decide (((((⟨#[36, 50]⟩ : ByteArray) ++ (strOfNums y128)) ++ (⟨#[36]⟩ : ByteArray)) ++ t123).size + 1 ≤ 9223372036854775807) = true := decide_eq_true c10
      try have c10b2 : (9223372036854775807 < ((((⟨#[36, 50]⟩ : ByteArray) ++ (strOfNums y128)) ++ (⟨#[36]⟩ : ByteArray)) ++ t123).size + 1) = False := eq_false (Nat.not_lt.2 c10)
      have c10b3 := c10b0
      simp only [ByteArray.size_append, show (⟨#[36, 50]⟩ : ByteArray).size = 2 from rfl, show (⟨#[36]⟩ : ByteArray).size = 1 from rfl] at c10b3
      have c10b5 := c10b2
      simp only [ByteArray.size_append, show (⟨#[36, 50]⟩ : ByteArray).size = 2 from rfl, show (⟨#[36]⟩ : ByteArray).size = 1 from rfl] at c10b5
      by_cases c11 : (((((⟨#[36, 50]⟩ : ByteArray) ++ (strOfNums y128)) ++ (⟨#[36]⟩ : ByteArray)) ++ t123) ++ (⟨#[36]⟩ : ByteArray)).size + t126.size ≤ 9223372036854775807
      ·rw [if_pos c11] at H
       have c11b0 := eq_true c11
       have c11b1 : decide ((((((⟨#[36, 50]⟩ : ByteArray) ++ (strOfNums y128)) ++ (⟨#[36]⟩ : ByteArray)) ++ t123) ++ (⟨#[36]⟩ : ByteArray)).size + t126.size ≤ 9223372036854775807) = true := decide_eq_true c11
       try have c11b2 : (9223372036854775807 < (((((⟨#[36, 50]⟩ : ByteArray) ++ (strOfNums y128)) ++ (⟨#[36]⟩ : ByteArray)) ++ t123) ++ (⟨#[36]⟩ : ByteArray)).size + t126.size) = False := eq_false (Nat.not_lt.2 c11)
       have c11b3 := c11b0
       simp only [ByteArray.size_append, show (⟨#[36, 50]⟩ : ByteArray).size = 2 from rfl, show (⟨#[36]⟩ : ByteArray).size = 1 from rfl] at c11b3
       have c11b5 := c11b2
       simp only [ByteArray.size_append, show (⟨#[36, 50]⟩ : ByteArray).size = 2 from rfl, show (⟨#[36]⟩ : ByteArray).size = 1 from rfl] at c11b5
       simp only [Option.some.injEq, Prod.mk.injEq] at H
       obtain ⟨rfl, rfl⟩ := H
       go_enter Try.func42, Try.ntmps42
       try go_wp2_with (first | ((with_reducible refine gate_dst (N := 1) rfl ?_); refine box_event ?hg (N := 1) ?hd (cs := #[.int .u8 a0_0, .int .i64 a0_1, .string a0_2, .string a0_3]) (t := 42) ?hr ?_; (case hd => rfl); (case hg => rfl); (case hr => first | (go_simp; done) | (go_simp; rfl)); intro gb121 hg w12 hbox hb; have n0_ := Aside0.mk (below_step (by repeat (first | (with_reducible first | exact HB.out | apply below_alloc | apply pw_below_drewN | apply below_drew1) | exact HB.out)) hb); have n1_ := Aside0.mk (hbox); have n2_ := Aside0.mk ((by rw [hg]; exact (below_size (by repeat (first | (with_reducible first | exact HB.out | apply below_alloc | apply pw_below_drewN | apply below_drew1) | exact HB.out))) : w.heap.size ≤ gb121)); have n3_ := Aside0.mk ((by rw [hg]; exact (below_size (by repeat (first | (with_reducible first | exact HB.out | apply below_alloc | apply pw_below_drewN | apply below_drew1) | exact HB.out))) : w.heap.size ≤ gb121)); clear HB; have HB := n0_; have BK121 := n1_; have GW121 := n2_; have GE121 := n3_; clear n0_ n1_ n2_ n3_; clear hb hbox hg; have hcz13_0 : w12.cell? ⟨gb121, 0, none⟩ = some (.int .u8 a0_0) := (blk_cell BK121.out 0).trans rfl; have hcz13_1 : w12.cell? ⟨gb121, 1, none⟩ = some (.int .i64 a0_1) := (blk_cell BK121.out 1).trans rfl; have hcz13_2 : w12.cell? ⟨gb121, 2, none⟩ = some (.string a0_2) := (blk_cell BK121.out 2).trans rfl; have hcz13_3 : w12.cell? ⟨gb121, 3, none⟩ = some (.string a0_3) := (blk_cell BK121.out 3).trans rfl; have hfz13_0 := blk_frozen BK121.out 0; have hfz13_1 := blk_frozen BK121.out 1; have hfz13_2 := blk_frozen BK121.out 2; have hfz13_3 := blk_frozen BK121.out 3) | ((with_reducible refine gate_callee (f := 44) rfl ?_); refine goesL_ (some 10) rfl rfl Try.func44 (by kernel_rfl) rfl #[.agg #[.int .u8 a0_0, .int .i64 a0_1, .string a0_2, .string a0_3]] rfl (by (try simp only [List.map_toArray, List.map_cons, List.map_nil]); first | done | rfl | (simp only [List.length_drop, List.length_take]; rfl)) ?_; (with_reducible refine (modular_Check.calls k a0_0 a0_1 a0_2 a0_3 t122 _ A2.out).mono ?_); rintro e w14 ⟨rfl, hb⟩; refine ⟨_, rfl, ?_⟩; have n0_ := Aside0.mk (blk_below (g := gb121) (o := .cells #[.int .u8 a0_0, .int .i64 a0_1, .string a0_2, .string a0_3] 42 (0, 0)) (by (with_reducible repeat (first | refine blk_drewN ?_ _ | refine blk_drew ?_ | refine blk_alloc ?_ _)); exact BK121.out) hb); have n1_ := Aside0.mk (below_step (by repeat (first | (with_reducible first | exact HB.out | apply below_alloc | apply pw_below_drewN | apply below_drew1 | refine below_set ?_ GE121.out) | exact HB.out)) hb); clear BK121; clear HB; have BK121 := n0_; have HB := n1_; clear n0_ n1_; (try clear hb); (try clear hb2); (try clear hk); (try clear hi); have hcz15_0 : w14.cell? ⟨gb121, 0, none⟩ = some (.int .u8 a0_0) := (blk_cell BK121.out 0).trans rfl; have hcz15_1 : w14.cell? ⟨gb121, 1, none⟩ = some (.int .i64 a0_1) := (blk_cell BK121.out 1).trans rfl; have hcz15_2 : w14.cell? ⟨gb121, 2, none⟩ = some (.string a0_2) := (blk_cell BK121.out 2).trans rfl; have hcz15_3 : w14.cell? ⟨gb121, 3, none⟩ = some (.string a0_3) := (blk_cell BK121.out 3).trans rfl; have hfz15_0 := blk_frozen BK121.out 0; have hfz15_1 := blk_frozen BK121.out 1; have hfz15_2 := blk_frozen BK121.out 2; have hfz15_3 := blk_frozen BK121.out 3) | ((with_reducible refine gate_callee (f := 77) rfl ?_); refine goesL_ (some 17) rfl rfl Try.func77 (by kernel_rfl) rfl #[.int .i64 a0_1] rfl (by (try simp only [List.map_toArray, List.map_cons, List.map_nil]); first | done | rfl | (simp only [List.length_drop, List.length_take]; rfl)) ?_; (with_reducible refine (dec_Two.calls a0_1 t123 t124 _ A4.out).mono ?_); rintro e w16 ⟨rfl, hb⟩; refine ⟨_, rfl, ?_⟩; have n0_ := Aside0.mk (blk_below (g := gb121) (o := .cells #[.int .u8 a0_0, .int .i64 a0_1, .string a0_2, .string a0_3] 42 (0, 0)) (by (with_reducible repeat (first | refine blk_drewN ?_ _ | refine blk_drew ?_ | refine blk_alloc ?_ _)); exact BK121.out) hb); have n1_ := Aside0.mk (below_step (by repeat (first | (with_reducible first | exact HB.out | apply below_alloc | apply pw_below_drewN | apply below_drew1 | refine below_set ?_ GE121.out) | exact HB.out)) hb); clear BK121; clear HB; have BK121 := n0_; have HB := n1_; clear n0_ n1_; (try clear hb); (try clear hb2); (try clear hk); (try clear hi)))
       have n0_ := Aside0.mk (blk_drew BK121.out)
       have n1_ := Aside0.mk (below_drew1 HB.out)
       clear BK121
       clear HB
       have BK121 := n0_
       have HB := n1_
       clear n0_ n1_
       refine start_ (n := 11) (S := fun w' => w'.cell? ⟨gb121, 0, none⟩ = some (.int .u8 a0_0) ∧ w'.cell? ⟨gb121, 1, none⟩ = some (.int .i64 a0_1) ∧ w'.cell? ⟨gb121, 2, none⟩ = some (.string a0_2) ∧ w'.cell? ⟨gb121, 3, none⟩ = some (.string a0_3)) (ds := []) #[false, false, false, false, false, false, false, false, false, false, false] (by kernel_rfl) rfl rfl ⟨(blk_cell BK121.out 0).trans rfl, (blk_cell BK121.out 1).trans rfl, (blk_cell BK121.out 2).trans rfl, (blk_cell BK121.out 3).trans rfl⟩ (fun hHeld => ?_); refine with_tabW modular_Encode.tab5 modular_Encode.bits5 (fun HT_ HW_ => ?_)
       generalize w16.drew = w17 at BK121 HB hHeld ⊢
       refine pure_ (i := 1) (N := some 22) (v := ?_) (a' := ?_) #[false, true, false, false, false, false, false, false, false, false, false] rfl rfl (any_of HT_.out (by kernel_rfl)) (fun _ _ _ h => h) (Or.inl ⟨by rfl, ?_⟩) ?_ ?_
       rotate_left
       ·intro w'
        go_simp
        with_reducible rfl
       rotate_left
       ·simp only [Act.put, List.setIfInBounds_toArray, List.set_cons_zero, List.set_cons_succ, i64_w, i32_w]
        rfl
       refine pure_ (i := 3) (N := some 24) (v := ?_) (a' := ?_) #[false, true, false, true, false, false, false, false, false, false, false] rfl rfl (any_of HT_.out (by kernel_rfl)) (fun _ _ _ h => h) (Or.inl ⟨by rfl, ?_⟩) ?_ ?_
       rotate_left
       ·intro w'
        go_simp
        with_reducible rfl
       rotate_left
       ·simp only [Act.put, List.setIfInBounds_toArray, List.set_cons_zero, List.set_cons_succ, i64_w, i32_w]
        rfl
       refine take_ (i := 2) (N := some 23) (v := ?_) (a' := ?_) #[false, true, true, true, false, false, false, false, false, false, false] rfl rfl (take_ofW HT_.out HW_.out (by kernel_rfl)) (fun _ _ _ h => h) (Or.inl ⟨by rfl, ?_⟩) hHeld ?_ ?_
       rotate_left
       ·rintro w' ⟨s0, s1, s2, s3⟩
        go_simp
        with_reducible rfl
       rotate_left
       ·simp only [Act.put, List.setIfInBounds_toArray, List.set_cons_zero, List.set_cons_succ, i64_w, i32_w]
        rfl
       refine take_ (i := 4) (N := some 25) (v := ?_) (a' := ?_) #[false, true, true, true, true, false, false, false, false, false, false] rfl rfl (take_ofW HT_.out HW_.out (by kernel_rfl)) (fun _ _ _ h => h) (Or.inl ⟨by rfl, ?_⟩) hHeld ?_ ?_
       rotate_left
       ·rintro w' ⟨s0, s1, s2, s3⟩
        go_simp
        with_reducible rfl
       rotate_left
       ·simp only [Act.put, List.setIfInBounds_toArray, List.set_cons_zero, List.set_cons_succ, i64_w, i32_w]
        rfl
       refine one_ (i := 0) (N := some 21) #[true, true, true, true, true, false, false, false, false, false, false] rfl rfl (one_of HT_.out (by kernel_rfl)) (by decide) (fun K hK => ?_)
       refine goes_ Try.func64 (by kernel_rfl) rfl #[] (by rfl) rfl rfl (by (try simp only [List.map_toArray, List.map_cons, List.map_nil]); first | done | rfl | (simp only [List.length_drop, List.length_take]; rfl)) ?_
       with_reducible refine (crypt64_New.calls _).mono ?_
       rintro e w18 ⟨gZ_, cZ_, hgZ_, hcZ_, rfl, hpZ_, hb⟩
       have HPZ := Aside0.mk hpZ_
       clear hgZ_ hcZ_ hpZ_
       refine ⟨_, rfl, ?_⟩
       have n0_ := Aside0.mk (blk_below (g := gb121) (o := .cells #[.int .u8 a0_0, .int .i64 a0_1, .string a0_2, .string a0_3] 42 (0, 0)) (by (with_reducible repeat (first | refine blk_drewN ?_ _ | refine blk_drew ?_ | refine blk_alloc ?_ _)); exact BK121.out) hb)
       have n1_ := Aside0.mk (below_step (by repeat (first | (with_reducible first | exact HB.out | apply below_alloc | apply pw_below_drewN | apply below_drew1 | refine below_set ?_ GE121.out) | exact HB.out)) hb)
       clear BK121
       clear HB
       have BK121 := n0_
       have HB := n1_
       clear n0_ n1_
       (try clear hb)
       (try clear hb2)
       (try clear hk)
       (try clear hi)
       refine hK.out _ _ ⟨(blk_cell BK121.out 0).trans rfl, (blk_cell BK121.out 1).trans rfl, (blk_cell BK121.out 2).trans rfl, (blk_cell BK121.out 3).trans rfl⟩ (fun hHeld => ?_)
       clear hK K
       refine norm_ (a' := ?_) ?_ ?_
       rotate_left
       ·show Act.put _ (some 21) _ = _
        simp only [Act.put, List.setIfInBounds_toArray, List.set_cons_zero, List.set_cons_succ, i64_w, i32_w]
        rfl
       refine one_ (i := 5) (N := some 26) #[true, true, true, true, true, true, false, false, false, false, false] rfl rfl (one_of HT_.out (by kernel_rfl)) (by decide) (fun K hK => ?_)
       refine goes_ Try.func78 (by kernel_rfl) rfl #[.pointer (some ⟨gZ_, 0, none⟩), .string a0_2, .string a0_3] (by rfl) rfl rfl (by (try simp only [List.map_toArray, List.map_cons, List.map_nil]); first | done | rfl | (simp only [List.length_drop, List.length_take]; rfl)) ?_
       with_reducible refine (crypt64_Code_Join.calls k _ _ a0_2 a0_3 t126 t127 _ HPZ.out A6.out).mono ?_
       rintro e w19 ⟨rfl, hb⟩
       refine ⟨_, rfl, ?_⟩
       have n0_ := Aside0.mk (blk_below (g := gb121) (o := .cells #[.int .u8 a0_0, .int .i64 a0_1, .string a0_2, .string a0_3] 42 (0, 0)) (by (with_reducible repeat (first | refine blk_drewN ?_ _ | refine blk_drew ?_ | refine blk_alloc ?_ _)); exact BK121.out) hb)
       have n1_ := Aside0.mk (below_step (by repeat (first | (with_reducible first | exact HB.out | apply below_alloc | apply pw_below_drewN | apply below_drew1 | refine below_set ?_ GE121.out) | exact HB.out)) hb)
       clear BK121
       clear HB
       have BK121 := n0_
       have HB := n1_
       clear n0_ n1_
       (try clear hb)
       (try clear hb2)
       (try clear hk)
       (try clear hi)
       refine hK.out _ _ ⟨(blk_cell BK121.out 0).trans rfl, (blk_cell BK121.out 1).trans rfl, (blk_cell BK121.out 2).trans rfl, (blk_cell BK121.out 3).trans rfl⟩ (fun hHeld => ?_)
       clear hK K
       refine norm_ (a' := ?_) ?_ ?_
       rotate_left
       ·show Act.put _ (some 26) _ = _
        simp only [Act.put, List.setIfInBounds_toArray, List.set_cons_zero, List.set_cons_succ, i64_w, i32_w]
        rfl
       refine pure_ (i := 6) (N := some 20) (v := ?_) (a' := ?_) #[true, true, true, true, true, true, true, false, false, false, false] rfl rfl (any_of HT_.out (by kernel_rfl)) (fun _ _ _ h => h) (Or.inl ⟨by rfl, ?_⟩) ?_ ?_
       rotate_left
       ·intro w'
        go_simp
        with_reducible rfl
       rotate_left
       ·simp only [Act.put, List.setIfInBounds_toArray, List.set_cons_zero, List.set_cons_succ, i64_w, i32_w]
        rfl
       refine pure_ (i := 7) (N := some 27) (v := ?_) (a' := ?_) #[true, true, true, true, true, true, true, true, false, false, false] rfl rfl (any_of HT_.out (by kernel_rfl)) (fun _ _ _ h => h) (Or.inl ⟨by rfl, ?_⟩) ?_ ?_
       rotate_left
       ·intro w'
        go_simp
        with_reducible rfl
       rotate_left
       ·simp only [Act.put, List.setIfInBounds_toArray, List.set_cons_zero, List.set_cons_succ, i64_w, i32_w]
        rfl
       refine pure_ (i := 8) (N := some 28) (v := ?_) (a' := ?_) #[true, true, true, true, true, true, true, true, true, false, false] rfl rfl (any_of HT_.out (by kernel_rfl)) (fun _ _ _ h => h) (Or.inl ⟨by rfl, ?_⟩) ?_ ?_
       rotate_left
       ·intro w'
        go_simp
        with_reducible rfl
       rotate_left
       ·simp only [Act.put, List.setIfInBounds_toArray, List.set_cons_zero, List.set_cons_succ, i64_w, i32_w]
        rfl
       refine pure_ (i := 9) (N := some 7) (v := ?_) (a' := ?_) #[true, true, true, true, true, true, true, true, true, true, false] rfl rfl (any_of HT_.out (by kernel_rfl)) (fun _ _ _ h => h) (Or.inl ⟨by rfl, ?_⟩) ?_ ?_
       rotate_left
       ·intro w'
        go_simp
        with_reducible rfl
       rotate_left
       ·simp only [Act.put, List.setIfInBounds_toArray, List.set_cons_zero, List.set_cons_succ, i64_w, i32_w]
        rfl
       refine pure_ (i := 10) (N := some 8) (v := ?_) (a' := ?_) #[true, true, true, true, true, true, true, true, true, true, true] rfl rfl (any_of HT_.out (by kernel_rfl)) (fun _ _ _ h => h) (Or.inl ⟨by rfl, ?_⟩) ?_ ?_
       rotate_left
       ·intro w'
        go_simp
        with_reducible rfl
       rotate_left
       ·simp only [Act.put, List.setIfInBounds_toArray, List.set_cons_zero, List.set_cons_succ, i64_w, i32_w]
        rfl
       refine done_ (done_of HT_.out (by kernel_rfl)) ?_
       have hcz20_0 : w19.cell? ⟨gb121, 0, none⟩ = some (.int .u8 a0_0) := (blk_cell BK121.out 0).trans rfl
       have hcz20_1 : w19.cell? ⟨gb121, 1, none⟩ = some (.int .i64 a0_1) := (blk_cell BK121.out 1).trans rfl
       have hcz20_2 : w19.cell? ⟨gb121, 2, none⟩ = some (.string a0_2) := (blk_cell BK121.out 2).trans rfl
       have hcz20_3 : w19.cell? ⟨gb121, 3, none⟩ = some (.string a0_3) := (blk_cell BK121.out 3).trans rfl
       have hfz20_0 := blk_frozen BK121.out 0
       have hfz20_1 := blk_frozen BK121.out 1
       have hfz20_2 := blk_frozen BK121.out 2
       have hfz20_3 := blk_frozen BK121.out 3
       try go_wp2_with (first | ((with_reducible refine gate_dst (N := 31) rfl ?_); refine Kd.R_lit (Kd.int .u8) _ 5 ?hg (N := 31) ?hd (xs := ([a0_0] : List Int)) (inner := [.int .u8 a0_0]) (ok := fun _ => True) (okp := fun _ => True) ?hr ?hp (fun _ hk => hk) trivial (Below.refl _ _) (Nat.le_refl _) (by simp) ?_; (case hd => rfl); (case hg => rfl); (case hr => first | (go_simp; done) | (go_simp; rfl)); (case hp => exact (Reps.one (show Kd.M (Kd.int .u8) _ _ _ a0_0 [.int .u8 a0_0] from rfl) (Reps.none _ _))); intro v129 w21 ho22 hb hg_ hnew_; clear hg_ hnew_; (first | rw [← Ny128.out] at ho22 | (simp only [Int.reduceToNat] at ho22; rw [← Ny128.out] at ho22)); have n0_ := Aside0.mk (Kd.R_lower ho22 (below_size (by repeat (first | (with_reducible first | exact HB.out | apply below_alloc | apply pw_below_drewN | apply below_drew1 | refine below_set ?_ GE121.out) | exact HB.out)))); have n1_ := Aside0.mk (blk_below (g := gb121) (o := .cells #[.int .u8 a0_0, .int .i64 a0_1, .string a0_2, .string a0_3] 42 (0, 0)) (by (with_reducible repeat (first | refine blk_drewN ?_ _ | refine blk_drew ?_ | refine blk_alloc ?_ _)); exact BK121.out) hb); have n2_ := Aside0.mk (below_step (by repeat (first | (with_reducible first | exact HB.out | apply below_alloc | apply pw_below_drewN | apply below_drew1 | refine below_set ?_ GE121.out) | exact HB.out)) hb); clear BK121; clear HB; have HO130 := n0_; have BK121 := n1_; have HB := n2_; clear n0_ n1_ n2_; clear hb ho22; have hcv23 := own_string (P := Try.prog) Try.underlying101 Try.underlying5 Try.underlying9 (Kd.own_of_R HO130.out)))
       go_ret2
       exact ⟨by first | rfl | (simp [errW_none, errW_some] <;> rfl) | (simp [*, errW_none, errW_some] <;> rfl), by repeat (first | (with_reducible first | exact HB.out | apply below_alloc | apply pw_below_drewN | apply below_drew1 | refine below_set ?_ GE121.out) | exact HB.out)⟩
      ·rw [if_neg c11] at H
       exact absurd H (by simp)
     ·rw [if_neg c10] at H
      exact absurd H (by simp)
    ·rw [if_neg c9] at H
     exact absurd H (by simp)
   ·rw [if_neg c8] at H
    exact absurd H (by simp)
  ·rw [if_neg c7] at H
   exact absurd H (by simp)
 ·rw [if_neg c3] at H
  have c3b0 : (t122 == 0) = false := beq_eq_false_iff_ne.mpr c3
  have c3b1 : (t122 != 0) = true := bne_iff_ne.mpr c3
  simp only [Option.some.injEq, Prod.mk.injEq] at H
  obtain ⟨rfl, rfl⟩ := H
  go_enter Try.func42, Try.ntmps42
  go_wp2_with (first | ((with_reducible refine gate_dst (N := 1) rfl ?_); refine box_event ?hg (N := 1) ?hd (cs := #[.int .u8 a0_0, .int .i64 a0_1, .string a0_2, .string a0_3]) (t := 42) ?hr ?_; (case hd => rfl); (case hg => rfl); (case hr => first | (go_simp; done) | (go_simp; rfl)); intro gb121 hg w24 hbox hb; have n0_ := Aside0.mk (below_step (by repeat (first | (with_reducible first | exact HB.out | apply below_alloc | apply pw_below_drewN | apply below_drew1) | exact HB.out)) hb); have n1_ := Aside0.mk (hbox); have n2_ := Aside0.mk ((by rw [hg]; exact (below_size (by repeat (first | (with_reducible first | exact HB.out | apply below_alloc | apply pw_below_drewN | apply below_drew1) | exact HB.out))) : w.heap.size ≤ gb121)); have n3_ := Aside0.mk ((by rw [hg]; exact (below_size (by repeat (first | (with_reducible first | exact HB.out | apply below_alloc | apply pw_below_drewN | apply below_drew1) | exact HB.out))) : w.heap.size ≤ gb121)); clear HB; have HB := n0_; have BK121 := n1_; have GW121 := n2_; have GE121 := n3_; clear n0_ n1_ n2_ n3_; clear hb hbox hg; have hcz25_0 : w24.cell? ⟨gb121, 0, none⟩ = some (.int .u8 a0_0) := (blk_cell BK121.out 0).trans rfl; have hcz25_1 : w24.cell? ⟨gb121, 1, none⟩ = some (.int .i64 a0_1) := (blk_cell BK121.out 1).trans rfl; have hcz25_2 : w24.cell? ⟨gb121, 2, none⟩ = some (.string a0_2) := (blk_cell BK121.out 2).trans rfl; have hcz25_3 : w24.cell? ⟨gb121, 3, none⟩ = some (.string a0_3) := (blk_cell BK121.out 3).trans rfl; have hfz25_0 := blk_frozen BK121.out 0; have hfz25_1 := blk_frozen BK121.out 1; have hfz25_2 := blk_frozen BK121.out 2; have hfz25_3 := blk_frozen BK121.out 3) | ((with_reducible refine gate_callee (f := 44) rfl ?_); refine goesL_ (some 10) rfl rfl Try.func44 (by kernel_rfl) rfl #[.agg #[.int .u8 a0_0, .int .i64 a0_1, .string a0_2, .string a0_3]] rfl (by (try simp only [List.map_toArray, List.map_cons, List.map_nil]); first | done | rfl | (simp only [List.length_drop, List.length_take]; rfl)) ?_; (with_reducible refine (modular_Check.calls k a0_0 a0_1 a0_2 a0_3 t122 _ A2.out).mono ?_); rintro e w26 ⟨rfl, hb⟩; refine ⟨_, rfl, ?_⟩; have n0_ := Aside0.mk (blk_below (g := gb121) (o := .cells #[.int .u8 a0_0, .int .i64 a0_1, .string a0_2, .string a0_3] 42 (0, 0)) (by (with_reducible repeat (first | refine blk_drewN ?_ _ | refine blk_drew ?_ | refine blk_alloc ?_ _)); exact BK121.out) hb); have n1_ := Aside0.mk (below_step (by repeat (first | (with_reducible first | exact HB.out | apply below_alloc | apply pw_below_drewN | apply below_drew1 | refine below_set ?_ GE121.out) | exact HB.out)) hb); clear BK121; clear HB; have BK121 := n0_; have HB := n1_; clear n0_ n1_; (try clear hb); (try clear hb2); (try clear hk); (try clear hi)))
  go_ret2
  exact ⟨by first | rfl | (simp [errW_none, errW_some] <;> rfl) | (simp [*, errW_none, errW_some] <;> rfl), by repeat (first | (with_reducible first | exact HB.out | apply below_alloc | apply pw_below_drewN | apply below_drew1 | refine below_set ?_ GE121.out) | exact HB.out)⟩

end Go.Proofs.Ytoknoghdnedmhaa.Pall
