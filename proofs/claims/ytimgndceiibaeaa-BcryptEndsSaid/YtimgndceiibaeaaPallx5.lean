-- PRINTED by print.py (a twelfth state) out of the translation. Not trusted: Lean checks it.
import Derived.Test.YtimgndceiibaeaaPallx0
import Derived.Test.YtimgndceiibaeaaPallx1
import Derived.Test.YtimgndceiibaeaaPallx3
import Derived.Test.YtimgndceiibaeaaPallx4
import Derived.Test.YtimgndceiibaeaaPallx8
namespace Go.Proofs.Ytimgndceiibaeaa.Pall
open Go.RowKit Go.Proofs.YtimgndceiibaeaaW.PrintWords Go.Proofs.YtimgndceiibaeaaW.PrintLast Go.Proofs.YtimgndceiibaeaaW.PrintMore
attribute [local go_sem] max2_int min2_int max_two min_two max_three min_three max_four min_four   -- for this text's walks alone
set_option linter.unusedVariables false
set_option linter.unusedSimpArgs false

/-! ### words_take: function 67 -/
def bcB : List Nat := [79, 114, 112, 104, 101, 97, 110, 66, 101, 104, 111, 108, 100, 101, 114, 83, 99, 114, 121, 68, 111, 117, 98, 116]
/-- the words, once so many bytes are put in -/
def bcTk : Nat → List Nat
  | 0 => [0, 0, 0, 0, 0, 0]
  | n + 1 => (bcTk n).set (n / 4) (ciW (bcTk n) (n / 4) ||| ciW bcB n * 2 ^ (8 * (3 - n % 4)))
theorem bcTk_succ (n : Nat) : bcTk (n + 1) = (bcTk n).set (n / 4) (ciW (bcTk n) (n / 4) ||| ciW bcB n * 2 ^ (8 * (3 - n % 4))) := rfl
theorem bcTk_len : ∀ n, (bcTk n).length = 6
  | 0 => rfl
  | n + 1 => by rw [bcTk_succ, List.length_set]; exact bcTk_len n
/-- what holds at the byte n: q the word, m the place in it -/
structure BcF (n q m X : Nat) : Prop where
  lt : q < 6
  lti : (q : Int) < 6
  q0 : wrap64 ((n : Int) / 4) = (q : Int)
  r : wrap64 ((n : Int) % 4) = (m : Int)
  r2 : (n : Int) % 4 = (m : Int)
  r3 : wrap64 (Int.tmod (n : Int) 4) = (m : Int)
  r4 : Int.tmod (n : Int) 4 = (m : Int)
  ml : m < 4
  h : words_highest.f (m : Int) = some ((3 - m : Nat) : Int)
  sh : Op.shift BinOp.shl IntKind.u32 (IntKind.u32.wrap ((ciW bcB n : Nat) : Int)) IntKind.i64 (wrap64 (8 * ((3 - m : Nat) : Int))) = pure (.int .u32 (X : Int))
  o : bits .or .u32 ((ciW (bcTk n) q : Nat) : Int) (X : Int) = ((ciW (bcTk n) q ||| X : Nat) : Int)
  s : bcTk (n + 1) = (bcTk n).set q (ciW (bcTk n) q ||| X)
theorem bc_or (a b : Nat) (ha : a < 4294967296) (hb : b < 4294967296) : bits .or .u32 (a : Int) (b : Int) = ((a ||| b : Nat) : Int) := by
  have hx : a ||| b < 2 ^ 32 := Nat.or_lt_two_pow (by omega) (by omega)
  have h1 : (BitVec.ofInt 32 (a : Int)).toNat = a := by
    rw [BitVec.ofInt_natCast, BitVec.toNat_ofNat]; exact Nat.mod_eq_of_lt (by omega)
  have h2 : (BitVec.ofInt 32 (b : Int)).toNat = b := by
    rw [BitVec.ofInt_natCast, BitVec.toNat_ofNat]; exact Nat.mod_eq_of_lt (by omega)
  show IntKind.u32.wrap ((BitVec.ofInt 32 (a : Int) ||| BitVec.ofInt 32 (b : Int)).toNat : Int) = _
  rw [BitVec.toNat_or, h1, h2, IntKind.wrap_u32]
  omega
theorem bcB_lt : ∀ n, n < 24 → ciW bcB n < 256 := by decide +kernel
theorem bcTk_lt : ∀ n, n < 24 → ∀ q, q < 6 → ciW (bcTk n) q < 4294967296 := by decide +kernel
theorem bc_shl (x e : Nat) (he : e ≤ 24) (hx : x < 256) (v : Int) (hv : wrap64 v = (e : Int)) : Op.shift BinOp.shl IntKind.u32 (IntKind.u32.wrap (x : Int)) IntKind.i64 (wrap64 v) = pure (.int .u32 ((x * 2 ^ e : Nat) : Int)) := by
  have h2 : x * 2 ^ e < 4294967296 := Nat.lt_of_le_of_lt (Nat.mul_le_mul (Nat.le_of_lt_succ hx) (Nat.pow_le_pow_right (by decide) he)) (by decide)
  rw [hv]
  unfold Op.shift
  rw [if_neg (by omega), Int.toNat_natCast]
  show pure (Value.int .u32 (IntKind.u32.wrap (IntKind.u32.wrap (x : Int) * 2 ^ min e 32))) = _
  rw [Nat.min_eq_left (by omega), show IntKind.u32.wrap (x : Int) = (x : Int) by rw [IntKind.wrap_u32]; omega, show (x : Int) * 2 ^ e = ((x * 2 ^ e : Nat) : Int) by rw [Int.natCast_mul, Int.natCast_pow]; rfl, IntKind.wrap_u32]
  generalize x * 2 ^ e = z at h2
  rw [show (z : Int) % 4294967296 = (z : Int) by omega]
theorem bcTk_facts (n : Nat) (h : n < 24) : ∃ q m X, BcF n q m X := by
  refine ⟨n / 4, n % 4, ciW bcB n * 2 ^ (8 * (3 - n % 4)), by omega, by omega, ?_, ?_, by omega, ?_, ?_, by omega, ?_, bc_shl _ _ (by omega) (bcB_lt n h) _ (by rw [wrap64]; omega), bc_or _ _ (bcTk_lt n h _ (by omega)) (Nat.lt_of_le_of_lt (Nat.mul_le_mul (Nat.le_of_lt_succ (bcB_lt n h)) (Nat.pow_le_pow_right (by decide) (show 8 * (3 - n % 4) ≤ 24 by omega))) (by decide)), bcTk_succ n⟩
  · rw [wrap64]; omega
  · rw [wrap64]; omega
  · rw [Int.tmod_eq_emod_of_nonneg (by omega), wrap64]; omega
  · rw [Int.tmod_eq_emod_of_nonneg (by omega)]; omega
  · show some (wrap64 _) = _
    rw [wrap64]
    exact congrArg some (by omega)
theorem bc_cellN {T : TypeId} {w : World} {g : Nat} {t : List Nat} (h : Ci T w g t) (i : Nat) (hi : i < t.length) : w.cell? ⟨g, i, none⟩ = some (.int .u32 (ciW t i : Nat)) := (blk_cell h i).trans (ciA_get t i hi)
theorem ci_of_own {w : World} {base g n : Nat} {xs : List Nat} {cs : List Value} (h : w.ownsRow base 23 1 (.slice (some ⟨g, 0, none⟩) n n) n cs) (e : cs = xs.map fun (k : Nat) => Value.int .u32 (k : Int)) : Ci 23 w g xs := by
  rcases h.2 with ⟨h1, _⟩ | ⟨g', cap, cur, hv, _, hh, _, _, hs, ht⟩
  · cases h1
  · cases hv
    unfold Ci
    rw [hh]
    have q : cur = ciA xs := by
      apply Array.ext'
      unfold ciA
      rw [List.toList_toArray, ← e, ← ht, List.take_of_length_le]
      rw [Array.length_toList, hs]; exact Nat.le_refl _
    rw [q]
theorem ci_goesA {ops : Array Oper} {oi : Oper} {N : Option Tmp} {a : Act} {w : World} {K : Act → World → Prop} {Q : Exit → Act → World → Prop} {f : FuncId} {fn : Func} (n : Tmp) (as_ : Array Operand) (ts : Array TypeId) (hf : Try.prog.funcs[f]? = some fn) (hname : (fn.name == "runtime.NumGoroutine") = false) (hb : fn.body.isSome = true) (args : Array Value)
    (hw : Region.wanted oi (yielded ops a.tmps) = true) (hN : oi.dst = N) (hop : oi.op = .call { callee := .value (.tmp n), args := as_, argTypes := ts }) (hv : a.eval (.tmp n) = .func (.func f) #[] #[]) (hargs : as_.map a.eval = args)
    (h : Calls Try.prog f args w fun e w' => ∃ v, e = .returned v ∧ K (a.put N v) w') : if Region.wanted oi (yielded ops a.tmps) = true then Oper.wp Try.prog oi a w K Q else K (a.put N undef) w := by
  refine call_ f args hw hN ?_ h
  have he := enters_ hf hname hb args w
  unfold execOp
  simp [hop, resolve, Deferred.ofValue, invoke, hv, hargs, he]
set_option maxHeartbeats 8000000 in
set_option maxRecDepth 100000 in
theorem words_take.calls (A : Option Addr) (c : Nat) (w : World) (hC : Kd.C (Kd.int .u8) w A 24 (ciI bcB)) :
    Calls Try.prog 67 #[.slice A 24 c, .func (.func 68) #[] #[]] w fun e w' => ∃ g, w.heap.size ≤ g ∧ e = .returned (.tuple #[.slice (some ⟨g, 0, none⟩) 6 6, .int .i64 0]) ∧ Ci 23 w' g (bcTk 24) ∧ Below w.heap.size w w' := by
  have HC := Aside0.mk hC
  have HB := Aside0.mk (Below.refl w.heap.size w)
  clear hC
  go_enter Try.func67, Try.ntmps67
  obtain ⟨i0, hi, hz0, hz1, hz2⟩ := info_parts info23
  go_wp2_with (at_make; refine wpList_make_full _ rfl _ _ 29 rfl w.heap.size 23 i0 (.int .u32 0) 1 Try.underlying29 hi hz0 hz1 .i64 .i64 _ _ 6 rfl rfl (by first | rfl | simp) (by first | rfl | simp) (by omega) (by simp [maxLen]) (by exact Nat.le_refl _) ?_; intro wn hown hgr; have n0_ := Aside0.mk (ci_of_own (xs := bcTk 0) hown (by kernel_rfl)); clear hown HB; have HB := Aside0.mk ((Below.refl w.heap.size w).grown hgr (Nat.le_refl _) (fun k hk => by cases hk)); have CI := n0_; clear n0_ hgr)
  clear hi hz0 hz1 hz2 i0
  obtain ⟨g, hg⟩ : ∃ g, g = w.heap.size := ⟨_, rfl⟩
  rw [← hg] at CI
  go_loopw [19] (fun v19 wz => ∃ n : Nat, n ≤ 24 ∧ v19 = .int .i64 (n : Int) ∧ Aside0 (Ci 23 wz w.heap.size (bcTk n)) ∧ Aside0 (Below w.heap.size w wz)) (fun v19 _ => 24 - (intOf v19).toNat)
  case atStart => exact ⟨0, by omega, rfl, ⟨by rw [← hg]; exact CI.out⟩, HB⟩
  case round =>
    clear CI HB hg
    obtain ⟨n, hn, rfl, CI, HB⟩ := hrel
    by_cases hlt : n < 24
    case neg =>
      obtain rfl : n = 24 := by omega
      clear hlt hn
      go_wp2
      go_ret2
      exact ⟨_, Nat.le_refl _, rfl, CI.out, HB.out⟩
    have p1 : decide ((n : Int) < 24) = true := decide_eq_true (by omega)
    have p2 : decide (n < 24) = true := decide_eq_true hlt
    obtain ⟨ad, e_, hx⟩ := Kd.at_int (Kd.C_below HC.out HB.out) (n : Int) (by omega) (by omega)
    cases e_
    rw [show rd (ciI bcB) (n : Int) = ((ciW bcB n : Nat) : Int) from ciI_rd bcB n (by exact hlt), show ((n : Int)).toNat = n from rfl] at hx
    have p3 : (n < 24) = True := eq_true hlt
    have p4 : ((n : Int) < (24 : Int)) = True := eq_true (by omega)
    have hadd : IntKind.i64.wrap ((n : Int) + 1) = (n : Int) + 1 := by rw [IntKind.wrap_i64]; omega
    have IH := Aside0.mk hlt
    obtain ⟨q, m, X, F⟩ := bcTk_facts n hlt
    replace F := Aside0.mk F
    clear hlt hn
    go_wp2
    refine start_ (n := 16) (S := (fun W : World => W.cell? ⟨w.heap.size, q, none⟩ = some (.int .u32 ((ciW (bcTk n) q : Nat) : Int)))) (ds := [15]) #[false, false, false, false, false, false, false, false, false, false, false, false, false, false, false, false] (by kernel_rfl) rfl rfl (bc_cellN CI.out q (by rw [bcTk_len]; exact F.out.lt)) (fun hHeld => ?_)
    replace CI := Aside0.mk (CI.out.next (below_drew (Below.refl _ _)))
    replace HB := Aside0.mk (below_step HB.out (below_drew (Below.refl _ _)))
    generalize wr.drew = wd_ at CI HB hHeld ⊢
    refine pure_ (i := 0) (N := some 24) (v := ?_) (a' := ?_) #[true, false, false, false, false, false, false, false, false, false, false, false, false, false, false, false] rfl rfl (by kernel_rfl) (fun _ _ _ h => h) (Or.inl ⟨by rfl, ?_⟩) ?_ ?_
    rotate_left
    · intro w'
      go_simp
      try with_reducible rfl
    rotate_left
    · simp only [Act.put, List.setIfInBounds_toArray, List.set_cons_zero, List.set_cons_succ, i64_w, i32_w]
      rfl
    refine pure_ (i := 1) (N := some 25) (v := ?_) (a' := ?_) #[true, true, false, false, false, false, false, false, false, false, false, false, false, false, false, false] rfl rfl (by kernel_rfl) (fun _ _ _ h => h) (Or.inl ⟨by rfl, ?_⟩) ?_ ?_
    rotate_left
    · intro w'
      go_simp
      try with_reducible rfl
    rotate_left
    · simp only [Act.put, List.setIfInBounds_toArray, List.set_cons_zero, List.set_cons_succ, i64_w, i32_w]
      rfl
    refine pure_ (i := 2) (N := some 26) (v := ?_) (a' := ?_) #[true, true, true, false, false, false, false, false, false, false, false, false, false, false, false, false] rfl rfl (by kernel_rfl) (fun _ _ _ h => h) (Or.inl ⟨by rfl, ?_⟩) ?_ ?_
    rotate_left
    · intro w'
      go_simp
      try with_reducible rfl
    rotate_left
    · simp only [Act.put, List.setIfInBounds_toArray, List.set_cons_zero, List.set_cons_succ, i64_w, i32_w]
      rfl
    refine pure_ (i := 3) (N := some 27) (v := ?_) (a' := ?_) #[true, true, true, true, false, false, false, false, false, false, false, false, false, false, false, false] rfl rfl (by kernel_rfl) (fun _ _ _ h => h) (Or.inl ⟨by rfl, ?_⟩) ?_ ?_
    rotate_left
    · intro w'
      go_simp
      rw [F.out.q0, if_pos ⟨Int.natCast_nonneg q, F.out.lti⟩, Int.toNat_natCast]
      try with_reducible rfl
    rotate_left
    · simp only [Act.put, List.setIfInBounds_toArray, List.set_cons_zero, List.set_cons_succ, i64_w, i32_w]
      rfl
    refine take_ (i := 4) (N := some 28) (v := ?_) (a' := ?_) #[true, true, true, true, true, false, false, false, false, false, false, false, false, false, false, false] rfl rfl (by kernel_rfl) (fun _ _ _ h => h) (Or.inl ⟨by rfl, ?_⟩) hHeld ?_ ?_
    rotate_left
    · intro w' hSw
      (try simp only [] at hSw)
      (repeat obtain ⟨hs_, hSw⟩ := hSw)
      go_simp
      try with_reducible rfl
    rotate_left
    · simp only [Act.put, List.setIfInBounds_toArray, List.set_cons_zero, List.set_cons_succ, i64_w, i32_w]
      rfl
    refine pure_ (i := 5) (N := some 29) (v := ?_) (a' := ?_) #[true, true, true, true, true, true, false, false, false, false, false, false, false, false, false, false] rfl rfl (by kernel_rfl) (fun _ _ _ h => h) (Or.inl ⟨by rfl, ?_⟩) ?_ ?_
    rotate_left
    · intro w'
      go_simp
      try with_reducible rfl
    rotate_left
    · simp only [Act.put, List.setIfInBounds_toArray, List.set_cons_zero, List.set_cons_succ, i64_w, i32_w]
      rfl
    refine pure_ (i := 6) (N := some 30) (v := ?_) (a' := ?_) #[true, true, true, true, true, true, true, false, false, false, false, false, false, false, false, false] rfl rfl (by kernel_rfl) (fun _ _ _ h => h) (Or.inl ⟨by rfl, ?_⟩) ?_ ?_
    rotate_left
    · intro w'
      go_simp
      try with_reducible rfl
    rotate_left
    · simp only [Act.put, List.setIfInBounds_toArray, List.set_cons_zero, List.set_cons_succ, i64_w, i32_w]
      rfl
    refine pure_ (i := 7) (N := some 31) (v := ?_) (a' := ?_) #[true, true, true, true, true, true, true, true, false, false, false, false, false, false, false, false] rfl rfl (by kernel_rfl) (fun _ _ _ h => h) (Or.inl ⟨by rfl, ?_⟩) ?_ ?_
    rotate_left
    · intro w'
      go_simp
      try with_reducible rfl
    rotate_left
    · simp only [Act.put, List.setIfInBounds_toArray, List.set_cons_zero, List.set_cons_succ, i64_w, i32_w]
      rfl
    refine pure_ (i := 8) (N := some 32) (v := ?_) (a' := ?_) #[true, true, true, true, true, true, true, true, true, false, false, false, false, false, false, false] rfl rfl (by kernel_rfl) (fun _ _ _ h => h) (Or.inl ⟨by rfl, ?_⟩) ?_ ?_
    rotate_left
    · intro w'
      go_simp
      try with_reducible rfl
    rotate_left
    · simp only [Act.put, List.setIfInBounds_toArray, List.set_cons_zero, List.set_cons_succ, i64_w, i32_w]
      rfl
    refine pure_ (i := 9) (N := some 33) (v := ?_) (a' := ?_) #[true, true, true, true, true, true, true, true, true, true, false, false, false, false, false, false] rfl rfl (by kernel_rfl) (fun _ _ _ h => h) (Or.inl ⟨by rfl, ?_⟩) ?_ ?_
    rotate_left
    · intro w'
      go_simp
      (first | rw [F.out.r] | rw [F.out.r2] | rw [F.out.r3] | rw [F.out.r4])
      try with_reducible rfl
    rotate_left
    · simp only [Act.put, List.setIfInBounds_toArray, List.set_cons_zero, List.set_cons_succ, i64_w, i32_w]
      rfl
    refine one_ (i := 10) (N := (some 34)) #[true, true, true, true, true, true, true, true, true, true, true, false, false, false, false, false] rfl rfl (by kernel_rfl) (by decide) (fun K hK => ?_)
    refine ci_goesA 31 #[.tmp 33] #[3] Try.func68 (by kernel_rfl) rfl #[.int .i64 ((m : Nat) : Int)] (by rfl) rfl rfl rfl (by (try simp only [List.map_toArray, List.map_cons, List.map_nil]); first | done | rfl) ?_
    with_reducible refine (words_highest.calls _ ((3 - m : Nat) : Int) _ F.out.h).mono ?_
    rintro e w' ⟨rfl, hd⟩
    have hb := below_of_drawn hd
    clear hd
    have n0_ := Aside0.mk (CI.out.next hb)
    have n1_ := Aside0.mk (below_step HB.out hb)
    clear hb CI HB 
    have CI := n0_
    have HB := n1_
    clear n0_ n1_
    refine ⟨_, rfl, ?_⟩
    refine hK.out _ _ (bc_cellN CI.out q (by rw [bcTk_len]; exact F.out.lt)) (fun hHeld => ?_)
    clear hK K
    refine norm_ (a' := ?_) ?_ ?_
    rotate_left
    · show Act.put _ (some 34) _ = _
      simp only [Act.put, List.setIfInBounds_toArray, List.set_cons_zero, List.set_cons_succ, i64_w, i32_w]
      rfl
    refine pure_ (i := 11) (N := some 35) (v := ?_) (a' := ?_) #[true, true, true, true, true, true, true, true, true, true, true, true, false, false, false, false] rfl rfl (by kernel_rfl) (fun _ _ _ h => h) (Or.inl ⟨by rfl, ?_⟩) ?_ ?_
    rotate_left
    · intro w'
      go_simp
      try with_reducible rfl
    rotate_left
    · simp only [Act.put, List.setIfInBounds_toArray, List.set_cons_zero, List.set_cons_succ, i64_w, i32_w]
      rfl
    refine pure_ (i := 12) (N := some 36) (v := ?_) (a' := ?_) #[true, true, true, true, true, true, true, true, true, true, true, true, true, false, false, false] rfl rfl (by kernel_rfl) (fun _ _ _ h => h) (Or.inl ⟨by rfl, ?_⟩) ?_ ?_
    rotate_left
    · intro w'
      go_simp
      rw [F.out.sh]
      rfl
      try with_reducible rfl
    rotate_left
    · simp only [Act.put, List.setIfInBounds_toArray, List.set_cons_zero, List.set_cons_succ, i64_w, i32_w]
      rfl
    refine pure_ (i := 13) (N := some 37) (v := ?_) (a' := ?_) #[true, true, true, true, true, true, true, true, true, true, true, true, true, true, false, false] rfl rfl (by kernel_rfl) (fun _ _ _ h => h) (Or.inl ⟨by rfl, ?_⟩) ?_ ?_
    rotate_left
    · intro w'
      go_simp
      rw [F.out.o]
      try with_reducible rfl
    rotate_left
    · simp only [Act.put, List.setIfInBounds_toArray, List.set_cons_zero, List.set_cons_succ, i64_w, i32_w]
      rfl
    refine pure_ (i := 14) (N := some 38) (v := ?_) (a' := ?_) #[true, true, true, true, true, true, true, true, true, true, true, true, true, true, true, false] rfl rfl (by kernel_rfl) (fun _ _ _ h => h) (Or.inl ⟨by rfl, ?_⟩) ?_ ?_
    rotate_left
    · intro w'
      go_simp
      rw [F.out.q0, if_pos ⟨Int.natCast_nonneg q, F.out.lti⟩, Int.toNat_natCast]
      try with_reducible rfl
    rotate_left
    · simp only [Act.put, List.setIfInBounds_toArray, List.set_cons_zero, List.set_cons_succ, i64_w, i32_w]
      rfl
    refine last_ (i := 15) (N := none) #[true, true, true, true, true, true, true, true, true, true, true, true, true, true, true, true] rfl rfl (by kernel_rfl) (by decide) (fun K hK => ?_)
    refine skip_ (by rfl) rfl (ci_store (A := 38) (B := 37) rfl rfl rfl (bc_cellN CI.out q (by rw [bcTk_len]; exact F.out.lt)) (CI.out.frozen _)) ?_
    refine hK.out _ _ ?_
    clear hK K
    refine done_ (by kernel_rfl) ?_
    have n0_ := Aside0.mk (CI.out.put q (ciW (bcTk n) q ||| X))
    have n1_ := Aside0.mk (HB.out.setCell (p := ⟨w.heap.size, q, none⟩) (Nat.le_refl _) (.int .u32 ((ciW (bcTk n) q ||| X : Nat) : Int)))
    rw [← F.out.s] at n0_
    clear CI HB hHeld
    generalize World.setCell _ _ _ = w9 at n0_ n1_ ⊢
    go_wp2
    exact ⟨⟨n + 1, by have := IH.out; omega, by rfl, n0_, n1_⟩, by simp [intOf]; have := IH.out; omega⟩

/-! ### words_TakeBig32: function 58 -/
def bcMg : List Nat := [1332899944, 1700884034, 1701343084, 1684370003, 1668446532, 1869963892]
theorem bcTk_end : bcTk 24 = bcMg := by decide +kernel
set_option maxHeartbeats 8000000 in
set_option maxRecDepth 100000 in
theorem words_TakeBig32.calls (A : Option Addr) (c : Nat) (w : World) (hC : Kd.C (Kd.int .u8) w A 24 (ciI bcB)) :
    Calls Try.prog 58 #[.slice A 24 c] w fun e w' => ∃ g, w.heap.size ≤ g ∧ e = .returned (.tuple #[.slice (some ⟨g, 0, none⟩) 6 6, .int .i64 0]) ∧ Ci 23 w' g bcMg ∧ Below w.heap.size w w' := by
  have HC := Aside0.mk hC
  clear hC
  go_enter Try.func58, Try.ntmps58
  go_wp2_with (go_at_call 67; with_reducible refine (words_take.calls A c _ HC.out).mono ?_; rintro e wn ⟨g, hg, rfl, hc, hb⟩; rw [bcTk_end] at hc; have CI := Aside0.mk hc; have HB := Aside0.mk hb; have HG := Aside0.mk hg; clear hc hb hg)
  go_ret2
  exact ⟨g, HG.out, rfl, CI.out, HB.out⟩

/-! ### words_Big32: function 59 -/
/-- a word's bytes, the highest one first -/
def bcBy : List Nat → List Int
  | [] => []
  | x :: l => ((x / 16777216 : Nat) : Int) :: ((x / 65536 % 256 : Nat) : Int) :: ((x / 256 % 256 : Nat) : Int) :: ((x % 256 : Nat) : Int) :: bcBy l
theorem bcBy_app : ∀ a b, bcBy (a ++ b) = bcBy a ++ bcBy b
  | [], _ => rfl
  | x :: a, b => by
    show _ :: _ :: _ :: _ :: bcBy (a ++ b) = _
    rw [bcBy_app a b]; rfl
theorem bcBy_len : ∀ a, (bcBy a).length = 4 * a.length
  | [] => rfl
  | x :: a => by
    show (bcBy a).length + 1 + 1 + 1 + 1 = 4 * (a.length + 1)
    rw [bcBy_len a]; omega
theorem bcBy_take {l : List Nat} {i : Nat} (h : i < l.length) : bcBy (l.take (i + 1)) = bcBy (l.take i) ++ [((ciW l i / 16777216 : Nat) : Int), ((ciW l i / 65536 % 256 : Nat) : Int), ((ciW l i / 256 % 256 : Nat) : Int), ((ciW l i % 256 : Nat) : Int)] := by
  rw [List.take_add_one, List.getElem?_eq_getElem h, bcBy_app]
  have e : ciW l i = l[i] := by
    unfold ciW
    rw [List.getD_eq_getElem?_getD, List.getElem?_eq_getElem h]; rfl
  rw [e]
  rfl
set_option maxHeartbeats 8000000 in
set_option maxRecDepth 100000 in
theorem words_Big32.calls (A : Option Addr) (c n : Nat) (l : List Nat) (hl : l.length = n) (h40 : n ≤ 40) (hU : ∀ i, ciW l i < 4294967296) (w : World) (hC : Kd.C (Kd.int .u32) w A n (ciI l)) :
    Calls Try.prog 59 #[.slice A n c] w fun e w' => ∃ v0_ : Value, e = .returned v0_ ∧ Kd.R (Kd.int .u8) 5 w' w.heap.size (fun _ => True) v0_ (bcBy l) ∧ Below w.heap.size w w' := by
  have HC := Aside0.mk hC
  have HL := Aside0.mk hl
  have H40 := Aside0.mk h40
  have HU := Aside0.mk hU
  clear hC hl h40 hU
  have m4 : IntKind.i64.wrap (4 * (n : Int)) = ((4 * n : Nat) : Int) := by
    have := H40.out
    rw [IntKind.wrap_i64]; omega
  go_enter Try.func59, Try.ntmps59
  obtain ⟨i0, hi, hz0, hz1, hz2⟩ := info_parts info5
  go_wp2_with (at_make; refine wpList_make_own _ rfl _ _ 65 rfl w.heap.size 5 i0 (.int .u8 0) 1 Try.underlying65 hi hz0 hz1 .i64 .i64 _ (4 * n) rfl rfl (by first | omega | exact m4) (by have := H40.out; rw [hz2]; omega) (by have := H40.out; simp [maxLen]; omega) (by exact Nat.le_refl _) ?_; intro wn hown hgr; have HO := Aside0.mk (show Kd.R (Kd.int .u8) 5 wn w.heap.size (fun _ => True) (.slice (some ⟨w.heap.size, 0, none⟩) 0 (4 * n)) [] from ⟨fun _ _ => trivial, [], hown, Reps.none _ _⟩); have HB := Aside0.mk ((Below.refl w.heap.size w).grown hgr (Nat.le_refl _) (fun k hk => by cases hk)); clear hown hgr)
  clear hi hz0 hz1 hz2 i0
  go_loopw [3, 12] (fun v3 v12 wz => ∃ i : Nat, i ≤ n ∧ v12 = .int .i64 (i : Int) ∧ Aside0 (Kd.R (Kd.int .u8) 5 wz w.heap.size (fun _ => True) v3 (bcBy (l.take i))) ∧ Aside0 (Below w.heap.size w wz)) (fun _ v12 _ => n - (intOf v12).toNat)
  case atStart => exact ⟨0, by omega, rfl, by rw [List.take_zero]; exact HO, HB⟩
  case round =>
    clear HO HB
    obtain ⟨i, hi, rfl, HO, HB⟩ := hrel
    by_cases hlt : i < n
    case neg =>
      obtain rfl : i = n := by omega
      have p1 : decide ((i : Int) < (i : Int)) = false := decide_eq_false (by omega)
      have p2 : decide (i < i) = false := decide_eq_false (by omega)
      clear hlt hi
      go_wp2
      go_ret
      have q := HO.out
      rw [List.take_of_length_le (by rw [HL.out]; exact Nat.le_refl _)] at q
      exact ⟨_, rfl, q, HB.out⟩
    have p1 : decide ((i : Int) < (n : Int)) = true := decide_eq_true (by omega)
    have p2 : decide (i < n) = true := decide_eq_true hlt
    obtain ⟨ad, e_, hx⟩ := Kd.at_int (Kd.C_below HC.out HB.out) (i : Int) (by omega) (by omega)
    cases e_
    rw [ciI_rd l i (by rw [HL.out]; exact hlt), show ((i : Int)).toNat = i from rfl] at hx
    have p3 : (i < n) = True := eq_true hlt
    have p4 : ((i : Int) < (n : Int)) = True := eq_true (by omega)
    have hadd : IntKind.i64.wrap ((i : Int) + 1) = (i : Int) + 1 := by
      have := H40.out
      rw [IntKind.wrap_i64]; omega
    have IH := Aside0.mk hlt
    have BT := Aside0.mk (bcBy_take (l := l) (i := i) (by rw [HL.out]; exact hlt))
    have hxl := HU.out i
    obtain ⟨x, hx0⟩ : ∃ x, ciW l i = x := ⟨_, rfl⟩
    rw [hx0] at hx hxl BT
    obtain ⟨b0, h0⟩ : ∃ b, x / 16777216 = b := ⟨_, rfl⟩
    obtain ⟨b1, h1⟩ : ∃ b, x / 65536 % 256 = b := ⟨_, rfl⟩
    obtain ⟨b2, h2⟩ : ∃ b, x / 256 % 256 = b := ⟨_, rfl⟩
    obtain ⟨b3, h3⟩ : ∃ b, x % 256 = b := ⟨_, rfl⟩
    rw [h0, h1, h2, h3] at BT
    have w0 : IntKind.u8.wrap ((x : Int) / 16777216) = (b0 : Int) := by rw [IntKind.wrap_u8]; omega
    have w1 : IntKind.u8.wrap ((x : Int) / 65536) = (b1 : Int) := by rw [IntKind.wrap_u8]; omega
    have w2 : IntKind.u8.wrap ((x : Int) / 256) = (b2 : Int) := by rw [IntKind.wrap_u8]; omega
    have w3 : IntKind.u8.wrap (x : Int) = (b3 : Int) := by rw [IntKind.wrap_u8]; omega
    clear hlt hi hx0 hxl h0 h1 h2 h3
    go_wp2_with (first | ((with_reducible refine gate_dst (N := 28) rfl ?_); refine Kd.R_lit (Kd.int .u8) _ 5 ?hg (N := 28) ?hd (xs := ([(b0 : Int), (b1 : Int), (b2 : Int), (b3 : Int)] : List Int)) (inner := [.int .u8 (b0 : Int), .int .u8 (b1 : Int), .int .u8 (b2 : Int), .int .u8 (b3 : Int)]) (ok := fun _ => True) (okp := fun _ => True) ?hr ?hp (fun _ hk => hk) trivial (Below.refl _ _) (Nat.le_refl _) (by simp) ?_; (case hd => rfl); (case hg => rfl); (case hr => first | (go_simp; done) | (go_simp; rfl) | (go_simp; (try rw [w0, w1, w2, w3]); done) | (go_simp; rw [w0, w1, w2, w3])); (case hp => exact (Reps.one (show Kd.M (Kd.int .u8) _ _ _ (b0 : Int) [.int .u8 (b0 : Int)] from rfl) (Reps.one (show Kd.M (Kd.int .u8) _ _ _ (b1 : Int) [.int .u8 (b1 : Int)] from rfl) (Reps.one (show Kd.M (Kd.int .u8) _ _ _ (b2 : Int) [.int .u8 (b2 : Int)] from rfl) (Reps.one (show Kd.M (Kd.int .u8) _ _ _ (b3 : Int) [.int .u8 (b3 : Int)] from rfl) (Reps.none _ _)))))); intro vL wL hoL hb hg_ hnew_; clear hg_ hnew_; have n0_ := Aside0.mk (Kd.R_elder' HO.out (Kd.R_base hoL) hb); have n1_ := Aside0.mk (Kd.R_lower (Kd.R_new' hoL (Kd.R_lt HO.out)) (below_size HB.out)); have n2_ := Aside0.mk (below_step HB.out hb); clear HO HB hb hoL; have HO := n0_; have HL4 := n1_; have HB := n2_; clear n0_ n1_ n2_; obtain ⟨Ao, co, eo⟩ := Kd.R_slice HL4.out; subst eo) | ((with_reducible refine gate_builtin (b := .append) (xs := #[.tmp 16, .tmp 28]) rfl ?_); at_builtin; refine Kd.R_append_rows (Kd.int .u8) (w0 := w) w.heap.size rfl (.tmp 16) (.tmp 28) 65 5 (.int .u8 0) 1 rfl Try.underlying65 info5 rfl (by decide) (by omega) u3 (bcBy (l.take i)) [(b0 : Int), (b1 : Int), (b2 : Int), (b3 : Int)] _ _ _ (fun k_ => some k_ ≠ (.slice Ao ([(b0 : Int), (b1 : Int), (b2 : Int), (b3 : Int)] : List Int).length co : Value).ownBlock) (fun _ => False) rfl rfl ?aO ?aR (fun _ _ h => h) (fun _ h => h.elim) ?aF ?aB ?aS ?aL ?_; (case aR => exact (Kd.R_reads' HL4.out).2.2); (case aB => exact HB.out); (case aF => exact (fun k_ hk => Kd.fresh' (Kd.R_lt HL4.out) k_ hk)); (case aO => exact Kd.R_mono HO.out (fun _ hk => hk.2)); (case aS => exact below_size HB.out); (case aL => have h_ := H40.out; have h2_ := HL.out; have h3_ := IH.out; rw [bcBy_len, List.length_take]; show (4 * min i l.length + 4) * 1 ≤ _; omega); intro vN wN ho hb hg hat; rw [← BT.out] at ho; have n1_ := Aside0.mk hb; have n2_ := Aside0.mk (Kd.R_mono ho (fun _ _ => trivial)); clear HL4 HB HO; have HB := n1_; have HO := n2_; clear n1_ n2_; clear ho hb hg hat))
    exact ⟨⟨i + 1, by have := IH.out; omega, by rfl, HO, HB⟩, by simp [intOf]; have := IH.out; omega⟩

/-! ### bcrypt_Sum: function 41 -/
/-- a sum, out of the tables -/
def bcOut (T : List Nat) : ByteArray := strOfNums ((bcBy (ciSl T 64 3 0 bcMg)).take 23)
theorem bcKey_size (s : ByteArray) (h : s.size ≤ 72) : ¬ ((bcKey s).size = 0 ∨ 72 < (bcKey s).size) := by
  have hz : (s ++ (⟨#[0]⟩ : ByteArray)).size = s.size + 1 := by rw [ByteArray.size_append]; rfl
  unfold bcKey
  split
  · rw [ByteArray.size_extract, hz]; omega
  · rw [hz]; omega
theorem bcMg_u : ciU bcMg := by
  intro i
  by_cases h : i < 6
  · exact (by decide +kernel : ∀ i, i < 6 → ciW bcMg i < 4294967296) i h
  · unfold ciW
    rw [List.getD_eq_getElem?_getD, List.getElem?_eq_none (by show 6 ≤ i; omega)]
    decide
theorem bc_row1 {w : World} {g n : Nat} {l z : List Nat} (h : Ci 23 w g (l ++ z)) (hl : l.length = n) (hn : n ≤ 40) : Kd.C (Kd.int .u32) w (some ⟨g, 0, none⟩) n (ciI l) := by
  refine ⟨by rw [ciI_len]; exact hl, by omega, fun _ => ⟨_, rfl, fun j p hj => ⟨[.int .u32 p], rfl, rfl, fun i u hu => ?_⟩⟩⟩
  obtain ⟨hj1, hj2⟩ := List.getElem?_eq_some_iff.mp hj
  rw [ciI_len] at hj1
  have e := ciI_rd l j hj1
  have hp : p = ((ciW l j : Nat) : Int) := by
    rw [← e]
    unfold rd
    rw [Int.toNat_natCast, List.getD_eq_getElem?_getD, hj]; rfl
  match i, hu with
  | 0, hu =>
    obtain rfl := Option.some.inj hu
    rw [hp]
    have q := h.cellN j (by rw [List.length_append]; omega)
    rw [ciW_app hj1] at q
    have e2 : (⟨g, 0, none⟩ : Addr).add (j * (Kd.int .u32).sz + 0) = ⟨g, j, none⟩ := by
      show (⟨g, 0, none⟩ : Addr).add (j * 1 + 0) = _
      simp [Addr.add]; omega
    rw [e2]
    exact q
def bcL : Array Value := #[.int .u8 79, .int .u8 114, .int .u8 112, .int .u8 104, .int .u8 101, .int .u8 97, .int .u8 110, .int .u8 66, .int .u8 101, .int .u8 104, .int .u8 111, .int .u8 108, .int .u8 100, .int .u8 101, .int .u8 114, .int .u8 83, .int .u8 99, .int .u8 114, .int .u8 121, .int .u8 68, .int .u8 111, .int .u8 117, .int .u8 98, .int .u8 116]
theorem Ci.alloc {T : TypeId} {w : World} {g : Nat} {t : List Nat} (h : Ci T w g t) (o : Obj) : Ci T (w.alloc o) g t := h.next (below_alloc (Below.refl _ _) o)
theorem bc_lit (w : World) : Kd.C (Kd.int .u8) (w.alloc (.cells bcL 5 (24, 25))) (some ⟨w.heap.size, 0, none⟩) 24 (ciI bcB) := by
  refine ⟨rfl, by omega, fun _ => ⟨_, rfl, fun j p hj => ⟨[.int .u8 p], rfl, rfl, fun i u hu => ?_⟩⟩⟩
  obtain ⟨hj1, hj2⟩ := List.getElem?_eq_some_iff.mp hj
  have hj3 : j < 24 := hj1
  have e2 : (⟨w.heap.size, 0, none⟩ : Addr).add (j * (Kd.int .u8).sz + 0) = ⟨w.heap.size, j, none⟩ := by
    show (⟨w.heap.size, 0, none⟩ : Addr).add (j * 1 + 0) = _
    simp [Addr.add]; omega
  match i, hu with
  | 0, hu =>
    obtain rfl := Option.some.inj hu
    rw [e2]
    refine (cell_of_row _ _ j bcL 5 (24, 25) (heap_alloc_new w _)).trans ?_
    have key : bcL = ((ciI bcB).map (Value.int .u8)).toArray := rfl
    rw [key, List.getElem?_toArray, List.getElem?_map, hj]; rfl
theorem bc_row {w : World} {g n : Nat} {l : List Nat} (h : Ci 23 w g l) (hl : l.length = n) (hn : n ≤ 40) : Kd.C (Kd.int .u32) w (some ⟨g, 0, none⟩) n (ciI l) := bc_row1 (z := []) (by rw [List.append_nil]; exact h) hl hn
theorem bc_seal (g g2 : Nat) (t : List Nat) (ho : ciOk t) (w : World) (hc : Ci 70 w g t) (hC : Kd.C (Kd.int .u32) w (some ⟨g2, 0, none⟩) 6 (ciI bcMg)) :
    Calls Try.prog 35 #[.pointer (some ⟨g, 0, none⟩), .int .i64 64, .slice (some ⟨g2, 0, none⟩) 6 6] w fun e w' => ∃ (g' : Nat) (z : List Nat), e = .returned (.tuple #[.slice (some ⟨g', 0, none⟩) 6 (6 + z.length), .int .i64 0]) ∧ Ci 23 w' g' (ciSl t 64 3 0 bcMg ++ z) ∧ Below w.heap.size w w' :=
  (eks_Seal.calls g t ho 64 (by omega) ⟨g2, 0, none⟩ 6 6 bcMg rfl bcMg_u (by omega) (by omega) (by omega) w hc hC).mono (fun e w' ⟨g', z, _, h1, h2, h3⟩ => ⟨g', z, h1, h2, h3⟩)
theorem ciU_sl {t : List Nat} (ho : ciOk t) (m : Nat) : ∀ d i l, ciU l → ciU (ciSl t m d i l)
  | 0, _, _, h => h
  | d + 1, i, l, h => by
    rw [ciSl_succ]
    exact ciU_sl ho m d _ _ (ciU_in ho i m l h)
set_option maxHeartbeats 8000000 in
set_option maxRecDepth 100000 in
theorem bcrypt_Sum.bad (cost : Int) (salt word : ByteArray) (e : Int) (w : World) (hck : bcrypt_Check.f cost salt word = some e) (he : e ≠ 0) :
    Calls Try.prog 41 #[.int .i64 cost, .string salt, .string word] w fun x w' => x = .returned (.tuple #[.string ⟨#[]⟩, .int .i64 e]) ∧ Below w.heap.size w w' := by
  have HCK := Aside0.mk hck
  have HB := Aside0.mk (Below.refl w.heap.size w)
  have e1 : (e == 0) = false := beq_eq_false_iff_ne.2 he
  have e2 : (e != 0) = true := bne_iff_ne.2 he
  clear hck he
  go_enter Try.func41, Try.ntmps41
  go_wp2_with (go_at_call 38; (with_reducible refine (bcrypt_Check.calls cost salt word e _ HCK.out).mono ?_); rintro e wn ⟨rfl, hd⟩; have hb := below_of_drawn hd; have n0_ := Aside0.mk (below_step HB.out hb); clear HB hb hd; have HB := n0_; clear n0_)
  go_ret2
  exact ⟨rfl, HB.out⟩
set_option maxHeartbeats 8000000 in
set_option maxRecDepth 100000 in
theorem bcrypt_Sum.calls (k : Nat) (P : List Nat) (hP : ciOk P) (hpi : pi_Words.f k 0 1042 = some (ciI P, 0)) (cost : Int) (m : Nat) (salt word : ByteArray) (w : World) (hck : bcrypt_Check.f cost salt word = some 0) (hr : eks_Rounds.f cost = some ((m : Int), 0)) (hm : m ≤ 4294967296) (hs : salt.size = 16) (hw : word.size ≤ 72) :
    Calls Try.prog 41 #[.int .i64 cost, .string salt, .string word] w fun e w' => e = .returned (.tuple #[.string (bcOut (ciSet salt (bcKey word) m (ciExpand P (ciWord salt) (ciWord (bcKey word))))), .int .i64 0]) ∧ Below w.heap.size w w' := by
  have HR := Aside0.mk hr
  have HP := Aside0.mk hpi
  have HM := Aside0.mk hm
  have OP := Aside0.mk hP
  have HS := Aside0.mk hs
  have HCK := Aside0.mk hck
  have HB := Aside0.mk (Below.refl w.heap.size w)
  have HK := Aside0.mk (bcKey_size word hw)
  have HKY := Aside0.mk (show bcrypt_Key.f word = some (bcKey word) from if_pos (by omega))
  obtain ⟨key, hkey⟩ : ∃ key, bcKey word = key := ⟨_, rfl⟩
  rw [hkey] at HK HKY ⊢
  have OT := Aside0.mk (ciSet_ok salt key m _ (ciExpand_ok hP (ciWord_lt salt) (ciWord_lt key)))
  obtain ⟨T, hT⟩ : ∃ T, ciSet salt key m (ciExpand P (ciWord salt) (ciWord key)) = T := ⟨_, rfl⟩
  rw [hT] at OT ⊢
  replace hT := Aside0.mk hT
  obtain ⟨L, hL⟩ : ∃ L, ciSl T 64 3 0 bcMg = L := ⟨_, rfl⟩
  have LL := Aside0.mk (show L.length = 6 by rw [← hL, ciSl_len]; rfl)
  have LU := Aside0.mk (show ∀ i, ciW L i < 4294967296 by rw [← hL]; exact ciU_sl OT.out 64 3 0 _ bcMg_u)
  unfold bcOut
  rw [hL]
  replace hL := Aside0.mk hL
  clear hr hpi hm hP hs hck hw hkey
  go_enter Try.func41, Try.ntmps41
  have kc := fun (w : World) (n c : Nat) => Lib.run_convert_bytes_const (P := Try.prog) w 65 5 bcL n c Try.underlying65 Try.underlying5
  rw [show bcL.size = 24 from rfl] at kc
  unfold bcL at kc
  have KL := Aside0.mk bc_lit
  unfold bcL at KL
  go_wp2_with (first | (go_at_call 38; (with_reducible refine (bcrypt_Check.calls cost salt word 0 _ HCK.out).mono ?_); rintro e wn ⟨rfl, hd⟩; have hb := below_of_drawn hd; have n0_ := Aside0.mk (below_step HB.out hb); clear HB hb hd; have HB := n0_; clear n0_) | (go_at_call 39; (with_reducible refine (bcrypt_Key.calls word key _ HKY.out).mono ?_); rintro e wn ⟨rfl, hb⟩; have n0_ := Aside0.mk (below_step HB.out hb); clear HB hb; have HB := n0_; clear n0_) | (go_at_call 33; (with_reducible refine (eks_Setup.calls k P OP.out HP.out cost m salt key _ HR.out HM.out HS.out HK.out).mono ?_); rintro e wn ⟨g, hg, rfl, hc, hb⟩; rw [hT.out] at hc; have HC := Aside0.mk hc; have n0_ := Aside0.mk (below_step HB.out hb); clear HB hb hc hg; have HB := n0_; clear n0_) | (go_at_call 58; (with_reducible refine (words_TakeBig32.calls _ 24 _ (KL.out _)).mono ?_); rintro e wn ⟨g2, hg2, rfl, hc2, hb⟩; have n0_ := Aside0.mk ((HC.out.alloc _).next hb); have n1_ := Aside0.mk (below_step (below_alloc HB.out _) hb); have HC2 := Aside0.mk hc2; have HV := Aside0.mk (bc_row (n := 6) hc2 (by decide) (by omega)); clear HC HB hb hc2 hg2; have HC := n0_; have HB := n1_; clear n0_ n1_) | (go_at_call 35; (with_reducible refine (bc_seal g g2 T OT.out _ HC.out HV.out).mono ?_); rintro e wn ⟨g3, z, rfl, hc3, hb⟩; rw [hL.out] at hc3; have HC3 := Aside0.mk (bc_row1 hc3 LL.out (by omega)); have n1_ := Aside0.mk (below_step HB.out hb); clear HC HB HV HC2 hb hc3; have HB := n1_; clear n1_) | (go_at_call 59; (with_reducible refine (words_Big32.calls (some ⟨g3, 0, none⟩) (6 + z.length) 6 L LL.out (by omega) LU.out _ HC3.out).mono ?_); rintro e wn ⟨v0_, rfl, hR, hb⟩; have n1_ := Aside0.mk (below_step HB.out hb); clear HB HC3 hb; have HB := n1_; clear n1_; obtain ⟨Ad, cd, ed⟩ := Kd.R_slice hR; subst ed; have hroom := (Kd.R_reads' hR).2.1; have hC33 := (Kd.R_reads' hR).2.2; have BL := Aside0.mk (show (bcBy L).length = 24 by rw [bcBy_len, LL.out]); rw [BL.out] at hroom; rw [BL.out]; obtain ⟨i033, hi033, _, hsz33, _⟩ := info_parts info5; have hcut33 := cut_to (P := Try.prog) 65 5 .i64 Try.underlying65 hi033 Ad 24 cd 23 (by omega) (by omega) hroom; have hr33 := Kd.C_take (m := 23) hC33 (by have := BL.out; omega); obtain ⟨Y, hY⟩ : ∃ Y, (bcBy L).take 23 = Y := ⟨_, rfl⟩; rw [hY] at hr33; have hYl : Y.length = 23 := (by rw [← hY, List.length_take, BL.out]; rfl); have hcv := Kd.C_string (P := Try.prog) (A := Ad) (c := cd) Try.underlying65 Try.underlying5 Try.underlying9 hr33; rw [hYl] at hcv; clear hroom hC33 hi033 hsz33 hR hr33))
  go_ret2
  exact ⟨by rw [hY]; rfl, HB.out⟩

/-! ### sextet_New: function 66 -/
set_option maxHeartbeats 8000000 in
set_option maxRecDepth 100000 in
theorem sextet_New.calls (s : ByteArray) (w : World) (hs : s.size ≤ 9223372036854775807) :
    Calls Try.prog 66 #[.string s] w (NewPost 100 s w) := by
  by_cases h64 : s.size = 64
  case neg =>
    have e9 : sxErr s = 9 := if_neg h64
    have hb1 : ((s.size : Int) == 64) = false := by simp; omega
    have hb2 : ((s.size : Int) != 64) = true := by simp; omega
    have hb3 : (s.size == 64) = false := by simp; omega
    have hb4 : (s.size != 64) = true := by simp; omega
    go_enter Try.func66, Try.ntmps66
    go_wp2
    go_ret2
    exact .inr ⟨by rw [e9]; decide, by rw [e9]; rfl, Below.refl _ _⟩
  have hb1 : ((s.size : Int) == 64) = true := by simp; omega
  have hb2 : ((s.size : Int) != 64) = false := by simp; omega
  have hb3 : (s.size == 64) = true := by simp; omega
  have hb4 : (s.size != 64) = false := by simp; omega
  have E := Aside0.mk (show sxErr s = sxErrA [] s.data.toList from if_pos h64)
  have HS := Aside0.mk (show s.data.toList.length = 64 from h64)
  have H64 := Aside0.mk h64
  clear h64
  go_enter Try.func66, Try.ntmps66
  have hz : ∀ W : World, (zeroValue 100).run Try.prog W = .ok (.agg sxZ) W := fun W => by kernel_rfl
  have hz2 := sxZ_ne
  have hz3 := sxZ_set s
  go_wp2_with (((with_reducible refine gate_dst (N := 12) rfl ?_); refine box_event ?hg (N := 12) ?hd (cs := sxCells s []) (t := 100) ?hr ?_; (case hd => rfl); (case hg => rfl); (case hr => rfl); intro gb hg w1 hbox hb; have HB := Aside0.mk (show Below w.heap.size w w1 from hb); have BK := Aside0.mk hbox; have GE := Aside0.mk (show w.heap.size ≤ gb by rw [hg]; exact Nat.le_refl _); clear hb hbox hg))
  clear hz hz2 hz3
  go_loopw [13] (fun v13 wz => ∃ n : Nat, n ≤ 64 ∧ v13 = .int .i64 (n : Int) ∧ Aside0 (sxErrA (s.data.toList.take n) (s.data.toList.drop n) = sxErr s) ∧ Aside0 (wz.heap[gb]? = some (.cells (sxCells s (s.data.toList.take n)) 100 (0, 0))) ∧ Aside0 (Below w.heap.size w wz)) (fun v13 _ => 64 - (intOf v13).toNat)
  case atStart => exact ⟨0, by omega, rfl, ⟨E.out.symm⟩, BK, HB⟩
  case round =>
    clear BK HB E
    obtain ⟨n, hn, rfl, E, BK, HB⟩ := hrel
    by_cases hlt : n < 64
    · have hlen : n < s.data.toList.length := by rw [HS.out]; exact hlt
      obtain ⟨c, hc⟩ : ∃ c, s.data.toList[n] = c := ⟨_, rfl⟩
      have hd : s.data.toList.drop n = c :: s.data.toList.drop (n + 1) := by rw [← hc]; exact List.drop_eq_getElem_cons hlen
      have ht : s.data.toList.take (n + 1) = s.data.toList.take n ++ [c] := by rw [← hc]; exact List.take_succ_eq_append_getElem hlen
      have hL := Aside0.mk (show (s.data.toList.take n).length = n by rw [List.length_take]; omega)
      have e1 := E.out
      rw [hd, sxErrA] at e1
      replace ht := Aside0.mk ht
      replace hc := Aside0.mk hc
      obtain ⟨d, hdn⟩ : ∃ d, s.data.toList.take n = d := ⟨_, rfl⟩
      rw [hdn] at BK hL e1
      have ht' := ht.out
      rw [hdn] at ht'
      replace ht := Aside0.mk ht'
      clear ht' hdn E hd
      have hix : ∀ W : World, (Instr.index 9 (.string s) (.int .i64 (n : Int))).run Try.prog W = .ok (.int .u8 (c.toNat : Int)) W := fun W => by
        rw [run_index_string W 9 s .i64 (n : Int) Try.underlying9, dif_pos (by have := H64.out; omega)]
        have := hc.out
        exact congrArg (fun x : UInt8 => Result.ok (Value.int .u8 (x.toNat : Int)) W) this
      have hc256 := c.toNat_lt
      have hcv := (blk_cell BK.out (1 + c.toNat)).trans (sxCells_val s d c.toNat (by omega))
      have hcf := blk_frozen BK.out (1 + c.toNat)
      by_cases b1 : c.toNat < 33
      · have g1 : decide ((c.toNat : Int) < 33) = true := decide_eq_true (by omega)
        rw [if_pos (.inl b1)] at e1
        have E8 := Aside0.mk e1
        clear e1
        go_wp2
        go_ret2
        exact .inr ⟨by rw [← E8.out]; decide, by rw [← E8.out]; rfl, HB.out⟩
      have g1 : decide ((c.toNat : Int) < 33) = false := decide_eq_false (by omega)
      by_cases b2 : 126 < c.toNat
      · have g2 : decide ((126 : Int) < (c.toNat : Int)) = true := decide_eq_true (by omega)
        rw [if_pos (.inr b2)] at e1
        have E8 := Aside0.mk e1
        clear e1
        go_wp2
        go_ret2
        exact .inr ⟨by rw [← E8.out]; decide, by rw [← E8.out]; rfl, HB.out⟩
      have g2 : decide ((126 : Int) < (c.toNat : Int)) = false := decide_eq_false (by omega)
      rw [if_neg (by omega)] at e1
      by_cases b3 : 0 < sxVal d c.toNat
      · rw [if_pos b3] at e1
        have E8 := Aside0.mk e1
        clear e1
        obtain ⟨v, hv⟩ : ∃ v, sxVal d c.toNat = v := ⟨_, rfl⟩
        rw [hv] at b3 hcv
        clear hv
        have g3 : decide ((0 : Int) < (v : Int)) = true := decide_eq_true (by omega)
        go_wp2
        go_ret2
        exact .inr ⟨by rw [← E8.out]; decide, by rw [← E8.out]; rfl, HB.out⟩
      rw [if_neg b3] at e1
      have z0 : sxVal d c.toNat = 0 := by omega
      rw [z0] at hcv
      have Z := Aside0.mk z0
      have E8 := Aside0.mk e1
      clear e1 z0 b3
      go_wp2
      refine ⟨⟨n + 1, by omega, by go_num, ⟨?_⟩, ⟨?_⟩, ⟨?_⟩⟩, by simp [intOf]; omega⟩
      · rw [ht.out]; exact E8.out
      · rw [ht.out]
        have q := sxCells_set s d c Z.out
        rw [hL.out] at q
        exact q ▸ blk_set BK.out (1 + c.toNat) (.int .i64 ((n : Int) + 1))
      · exact below_set HB.out GE.out
    · obtain rfl : n = 64 := by omega
      rw [List.drop_of_length_le (by rw [HS.out]; exact Nat.le_refl _)] at E
      rw [List.take_of_length_le (by rw [HS.out]; exact Nat.le_refl _)] at BK
      have E0 := Aside0.mk (show sxErr s = 0 from E.out.symm)
      go_wp2
      go_ret2
      exact .inl ⟨E0.out, gb, GE.out, rfl, BK.out, HB.out⟩

/-! ### crypt64_New: function 55 -/
def crypt64_New.f : Option Int := some 0
set_option maxHeartbeats 8000000 in
set_option maxRecDepth 100000 in
theorem crypt64_New.calls (w : World) :
    Calls Try.prog 55 #[] w fun e w' => ∃ g c, w.heap.size ≤ g ∧ w.heap.size ≤ c ∧ e = .returned (.pointer (some ⟨g, 0, none⟩)) ∧ C64 87 100 w' g c ∧ Below w.heap.size w w' := by
  have E0 := Aside0.mk sxCrypt_ok
  have hsz : sxCrypt.size ≤ 9223372036854775807 := by decide +kernel
  have HB := Aside0.mk (Below.refl w.heap.size w)
  go_enter Try.func55, Try.ntmps55
  go_wp2_with (first | (go_at_call 66; refine (sextet_New.calls sxCrypt _ hsz).mono ?_; intro e wn hn; obtain ⟨_, c, hg, rfl, hc, hb⟩ := hn.resolve_right (fun q => q.1 E0.out); have HC := Aside0.mk hc; have HG := Aside0.mk hg; have n0_ := Aside0.mk (below_step HB.out hb); clear HB hb hg hc; have HB := n0_; clear n0_))
  go_ret
  exact ⟨_, c, Nat.le_trans HG.out (Nat.le_of_lt (blk_lt HC.out)), HG.out, rfl, ⟨blk_new _ _, HC.out.alloc _⟩, below_alloc HB.out _⟩

end Go.Proofs.Ytimgndceiibaeaa.Pall
