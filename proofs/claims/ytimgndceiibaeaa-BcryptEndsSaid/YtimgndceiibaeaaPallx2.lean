-- PRINTED by print.py (a twelfth state) out of the translation. Not trusted: Lean checks it.
import Derived.Test.YtimgndceiibaeaaPallx0
import Derived.Test.YtimgndceiibaeaaPallx1
namespace Go.Proofs.Ytimgndceiibaeaa.Pall
open Go.RowKit Go.Proofs.YtimgndceiibaeaaW.PrintWords Go.Proofs.YtimgndceiibaeaaW.PrintLast Go.Proofs.YtimgndceiibaeaaW.PrintMore
attribute [local go_sem] max2_int min2_int max_two min_two max_three min_three max_four min_four   -- for this text's walks alone
set_option linter.unusedVariables false
set_option linter.unusedSimpArgs false

/-! ### cipher_Cipher_Encrypt: function 23 -/
set_option maxHeartbeats 8000000 in
set_option maxRecDepth 100000 in
theorem cipher_Cipher_Encrypt.nil (l r : Int) (w : World) :
    Calls Try.prog 23 #[.pointer none, .int .u32 l, .int .u32 r] w fun e w' => e = .returned (.tuple #[.int .u32 0, .int .u32 0]) ∧ Below w.heap.size w w' := by
  go_enter Try.func23, Try.ntmps23
  go_wp2
  go_ret2
  exact ⟨rfl, Below.refl _ _⟩
theorem ciEncR_succ (t : List Nat) (n i l r : Nat) : ciEncR t (n + 1) i l r = ciEncR t n (i + 1) (r ^^^ ciF t (l ^^^ ciW t i)) (l ^^^ ciW t i) := rfl
set_option maxHeartbeats 8000000 in
set_option maxRecDepth 100000 in
theorem cipher_Cipher_Encrypt.calls (t : List Nat) (g l r : Nat) (w : World) (hc : Ci 70 w g t) (ho : ciOk t) (hl : l < 4294967296) (hr : r < 4294967296) :
    Calls Try.prog 23 #[.pointer (some ⟨g, 0, none⟩), .int .u32 l, .int .u32 r] w fun e w' => e = .returned (.tuple #[.int .u32 ((ciEnc t l r).1 : Nat), .int .u32 ((ciEnc t l r).2 : Nat)]) ∧ Below w.heap.size w w' := by
  have HC := Aside0.mk hc
  have HO := Aside0.mk ho
  have HL := Aside0.mk hl
  have HR := Aside0.mk hr
  have HB := Aside0.mk (Below.refl w.heap.size w)
  have GL := Aside0.mk hc.lt
  clear hc ho hl hr
  go_enter Try.func23, Try.ntmps23
  go_wp2
  go_loopw [11, 1, 2] (fun v11 v1 v2 wz => ∃ n x y : Nat, n ≤ 16 ∧ v11 = .int .i64 (n : Int) ∧ v1 = .int .u32 (x : Int) ∧ v2 = .int .u32 (y : Int) ∧ Aside0 (x < 4294967296) ∧ Aside0 (y < 4294967296) ∧ Aside0 (ciEncR t (16 - n) n x y = ciEncR t 16 0 l r) ∧ Aside0 (Ci 70 wz g t) ∧ Aside0 (Below w.heap.size w wz)) (fun v11 _ _ _ => 16 - (intOf v11).toNat)
  case atStart => exact ⟨0, l, r, by omega, rfl, rfl, rfl, HL, HR, ⟨rfl⟩, HC, HB⟩
  case round =>
    clear HC HB HL HR
    obtain ⟨n, x, y, hn, rfl, rfl, rfl, HX, HY, E, HC, HB⟩ := hrel
    by_cases hlt : n < 16
    · have p1 : (n : Int) < 18 := by omega
      have hcell := HC.out.cell HO.out n (by omega)
      have hx1 := ci_bxor x (ciW t n) HX.out (HO.out.2 _)
      have HM := Aside0.mk (ci_xor HX.out (HO.out.2 n))
      have hE := E.out
      obtain ⟨d, hd⟩ : ∃ d, 16 - n = d + 1 := ⟨15 - n, by omega⟩
      rw [hd, ciEncR_succ] at hE
      have hd2 : 16 - (n + 1) = d := by omega
      obtain ⟨m, hm⟩ : ∃ m, x ^^^ ciW t n = m := ⟨_, rfl⟩
      rw [hm] at hx1 HM hE
      have hx2 := ci_bxor y (ciF t m) HY.out (ciF_lt t m)
      have HZ := Aside0.mk (ci_xor HY.out (ciF_lt t m))
      replace E := Aside0.mk hE
      replace hd := Aside0.mk hd
      replace hd2 := Aside0.mk hd2
      clear hm hE
      go_wp2_with (go_at_call 49; refine (cipher_Cipher_f.calls t g m _ HC.out HO.out HM.out).mono ?_; rintro e wn ⟨rfl, hdr⟩; have n0_ := Aside0.mk (below_step HB.out (below_of_drawn hdr)); have n1_ := Aside0.mk (HC.out.next (below_of_drawn hdr)); clear HB HC hcell; have HB := n0_; have HC := n1_; clear n0_ n1_ hdr)
      refine ⟨⟨n + 1, _, m, by omega, by go_num, rfl, rfl, HZ, HM, ⟨?_⟩, HC, HB⟩, by simp [intOf]; omega⟩
      rw [hd2.out]; exact E.out
    · obtain rfl : n = 16 := by omega
      have h17 := HC.out.cell HO.out 17 (by omega)
      have h16 := HC.out.cell HO.out 16 (by omega)
      have hx1 := ci_bxor y (ciW t 17) HY.out (HO.out.2 _)
      have hx2 := ci_bxor x (ciW t 16) HX.out (HO.out.2 _)
      have hE : (x, y) = ciEncR t 16 0 l r := E.out
      have e1 : (ciEnc t l r).1 = y ^^^ ciW t 17 := by unfold ciEnc; rw [← hE]
      have e2 : (ciEnc t l r).2 = x ^^^ ciW t 16 := by unfold ciEnc; rw [← hE]
      replace e1 := Aside0.mk e1
      replace e2 := Aside0.mk e2
      clear hE
      go_wp2
      go_quiet (fail)
      go_wp2
      go_ret2
      refine ⟨?_, pw_below_drewN HB.out _⟩
      rw [e1.out, e2.out]
      rfl

/-! ### cipher_Cipher_Expand_1: function 47 -/
/-- all blocks that there were but some are as they were -/
structure Exc (X : List Nat) (w w' : World) : Prop where
  os : w'.os = w.os
  tape : w'.tape = w.tape
  output : w'.output = w.output
  size : w.heap.size ≤ w'.heap.size
  block : ∀ k, k < w.heap.size → k ∉ X → w'.heap[k]? = w.heap[k]?
theorem Exc.refl (X : List Nat) (w : World) : Exc X w w := ⟨rfl, rfl, rfl, Nat.le_refl _, fun _ _ _ => rfl⟩
theorem Exc.trans {X : List Nat} {a b c : World} (h : Exc X a b) (k : Exc X b c) : Exc X a c :=
  ⟨k.os.trans h.os, k.tape.trans h.tape, k.output.trans h.output, Nat.le_trans h.size k.size, fun i hi hg => (k.block i (Nat.lt_of_lt_of_le hi h.size) hg).trans (h.block i hi hg)⟩
theorem Exc.of {X : List Nat} {g : Nat} {w w' : World} (h : But g w w') (hg : g ∈ X) : Exc X w w' := ⟨h.os, h.tape, h.output, h.size, fun k hk hx => h.block k hk (fun e => hx (e ▸ hg))⟩
theorem Exc.low {X : List Nat} {w w' : World} (h : Below w.heap.size w w') : Exc X w w' := ⟨h.os, h.tape, h.output, h.size, fun k hk _ => h.block k hk⟩
theorem Exc.put {X : List Nat} {w w' : World} (h : Exc X w w') {g : Nat} (hg : g ∈ X) (i : Nat) (v : Value) : Exc X w (w'.setCell ⟨g, i, none⟩ v) :=
  h.trans (Exc.of ((But.refl g w').put i v) hg)
theorem Exc.sub {X Y : List Nat} {w w' : World} (h : Exc X w w') (hs : ∀ x ∈ X, x ∈ Y) : Exc Y w w' := ⟨h.os, h.tape, h.output, h.size, fun k hk hx => h.block k hk (fun e => hx (hs _ e))⟩
/-- what the closure holds: the cipher, two words, the salt's stream -/
structure Env (w : World) (bc bl bs br g gs : Nat) (x y : Nat) (t : List Nat) : Prop where
  c : w.heap[bc]? = some (.cells #[.pointer (some ⟨g, 0, none⟩)] 33 (0, 0))
  l : w.heap[bl]? = some (.cells #[.int .u32 (x : Int)] 23 (0, 0))
  s : w.heap[bs]? = some (.cells #[.pointer (some ⟨gs, 0, none⟩)] 72 (0, 0))
  r : w.heap[br]? = some (.cells #[.int .u32 (y : Int)] 23 (0, 0))
  t : Ci 70 w g t
/-- which blocks are which -/
structure Dis (bc bl bs br g gs : Nat) : Prop where
  cs : bc ≠ gs
  ls : bl ≠ gs
  ss : bs ≠ gs
  rs : br ≠ gs
  gs : g ≠ gs
  cl : bc ≠ bl
  cr : bc ≠ br
  lr : bl ≠ br
  sl : bs ≠ bl
  sr : bs ≠ br
  gl : g ≠ bl
  gr : g ≠ br
theorem Env.but {w w' : World} {bc bl bs br g gs x y : Nat} {t : List Nat} (h : Env w bc bl bs br g gs x y t) (d : Dis bc bl bs br g gs) (k : But gs w w') : Env w' bc bl bs br g gs x y t :=
  ⟨(k.block _ (blk_lt h.c) d.cs).trans h.c, (k.block _ (blk_lt h.l) d.ls).trans h.l, (k.block _ (blk_lt h.s) d.ss).trans h.s, (k.block _ (blk_lt h.r) d.rs).trans h.r, (k.block _ (blk_lt h.t) d.gs).trans h.t⟩
theorem Env.low {w w' : World} {bc bl bs br g gs x y : Nat} {t : List Nat} (h : Env w bc bl bs br g gs x y t) (k : Below w.heap.size w w') : Env w' bc bl bs br g gs x y t :=
  ⟨(k.block _ (blk_lt h.c)).trans h.c, (k.block _ (blk_lt h.l)).trans h.l, (k.block _ (blk_lt h.s)).trans h.s, (k.block _ (blk_lt h.r)).trans h.r, (k.block _ (blk_lt h.t)).trans h.t⟩
theorem Env.put {w : World} {bc bl bs br g gs x y : Nat} {t : List Nat} (h : Env w bc bl bs br g gs x y t) (d : Dis bc bl bs br g gs) (x' y' : Nat) :
    Env ((w.setCell ⟨bl, 0, none⟩ (.int .u32 (x' : Int))).setCell ⟨br, 0, none⟩ (.int .u32 (y' : Int))) bc bl bs br g gs x' y' t := by
  have o := fun (W : World) (a : Addr) (v : Value) (k : Nat) (hk : k ≠ a.block) => Below.heap_setCell W a v k hk
  refine ⟨?_, ?_, ?_, ?_, ?_⟩
  · rw [o _ _ _ _ (by exact d.cr), o _ _ _ _ (by exact d.cl)]; exact h.c
  · rw [o _ _ _ _ (by exact d.lr)]; exact blk_set h.l 0 (.int .u32 (x' : Int))
  · rw [o _ _ _ _ (by exact d.sr), o _ _ _ _ (by exact d.sl)]; exact h.s
  · exact blk_set ((o w ⟨bl, 0, none⟩ (.int .u32 (x' : Int)) br (by exact Ne.symm d.lr)).trans h.r) 0 (.int .u32 (y' : Int))
  · unfold Ci
    rw [o _ _ _ _ (by exact d.gr), o _ _ _ _ (by exact d.gl)]; exact h.t
theorem Env.cells {w : World} {bc bl bs br g gs x y : Nat} {t : List Nat} (h : Env w bc bl bs br g gs x y t) : w.cell? ⟨bc, 0, none⟩ = some (.pointer (some ⟨g, 0, none⟩)) ∧ w.cell? ⟨bl, 0, none⟩ = some (.int .u32 (x : Int)) ∧ w.cell? ⟨bs, 0, none⟩ = some (.pointer (some ⟨gs, 0, none⟩)) ∧ w.cell? ⟨br, 0, none⟩ = some (.int .u32 (y : Int)) :=
  ⟨(blk_cell h.c 0).trans rfl, (blk_cell h.l 0).trans rfl, (blk_cell h.s 0).trans rfl, (blk_cell h.r 0).trans rfl⟩
theorem ciS_low {w w' : World} {g m : Nat} {s : ByteArray} (h : CiS w g s m) (k : Below w.heap.size w w') : CiS w' g s m := (k.block _ (blk_lt h)).trans h
theorem ciS_set {w : World} {g m : Nat} {s : ByteArray} (h : CiS w g s m) (b i : Nat) (v : Value) (hb : g ≠ b) : CiS (w.setCell ⟨b, i, none⟩ v) g s m := (Below.heap_setCell w ⟨b, i, none⟩ v g hb).trans h
set_option maxHeartbeats 8000000 in
set_option maxRecDepth 100000 in
theorem cipher_Cipher_Expand_1.calls (s : ByteArray) (hs : s.size ≤ 9223372036854775807) (bc bl bs br g gs x y i : Nat) (t : List Nat) (w : World) (hE : Env w bc bl bs br g gs x y t) (hd : Dis bc bl bs br g gs) (hc : CiS w gs s (4 * i)) (ho : ciOk t) (hx : x < 4294967296) (hy : y < 4294967296) :
    Calls Try.prog 47 #[.pointer (some ⟨bc, 0, none⟩), .pointer (some ⟨bl, 0, none⟩), .pointer (some ⟨bs, 0, none⟩), .pointer (some ⟨br, 0, none⟩)] w fun e w' => e = .returned (.tuple #[.int .u32 ((ciEnc t (x ^^^ ciWord s i) (y ^^^ ciWord s (i + 1))).1 : Nat), .int .u32 ((ciEnc t (x ^^^ ciWord s i) (y ^^^ ciWord s (i + 1))).2 : Nat)]) ∧
      Env w' bc bl bs br g gs (ciEnc t (x ^^^ ciWord s i) (y ^^^ ciWord s (i + 1))).1 (ciEnc t (x ^^^ ciWord s i) (y ^^^ ciWord s (i + 1))).2 t ∧ CiS w' gs s (4 * (i + 1 + 1)) ∧ Exc [bl, br, gs] w w' := by
  have HE := Aside0.mk hE
  have D := Aside0.mk hd
  have HX := Aside0.mk (Exc.refl [bl, br, gs] w)
  have C1 := Aside0.mk hc
  have HO := Aside0.mk ho
  have HZ := Aside0.mk hs
  have P1 := Aside0.mk (ciWord_lt s i)
  have P2 := Aside0.mk (ciWord_lt s (i + 1))
  obtain ⟨p, hp⟩ : ∃ p, ciWord s i = p := ⟨_, rfl⟩
  obtain ⟨q, hq⟩ : ∃ q, ciWord s (i + 1) = q := ⟨_, rfl⟩
  rw [hp] at P1 ⊢
  rw [hq] at P2 ⊢
  have A1 := Aside0.mk (ci_xor hx P1.out)
  have A2 := Aside0.mk (ci_xor hy P2.out)
  have hx1 := ci_bxor x p hx P1.out
  have hx2 := ci_bxor y q hy P2.out
  obtain ⟨e1, he1⟩ : ∃ e1, (ciEnc t (x ^^^ p) (y ^^^ q)).1 = e1 := ⟨_, rfl⟩
  obtain ⟨e2, he2⟩ : ∃ e2, (ciEnc t (x ^^^ p) (y ^^^ q)).2 = e2 := ⟨_, rfl⟩
  rw [he1, he2]
  clear hE hd hc ho hs hx hy
  go_enter Try.func47, Try.ntmps47
  go_wp2
  refine start_ (n := 15) (S := (fun W : World => W.cell? ⟨bc, 0, none⟩ = some (.pointer (some ⟨g, 0, none⟩)) ∧ W.cell? ⟨bl, 0, none⟩ = some (.int .u32 (x : Int)) ∧ W.cell? ⟨bs, 0, none⟩ = some (.pointer (some ⟨gs, 0, none⟩)) ∧ W.cell? ⟨br, 0, none⟩ = some (.int .u32 (y : Int)))) (ds := [13, 14]) #[false, false, false, false, false, false, false, false, false, false, false, false, false, false, false] (by kernel_rfl) rfl rfl HE.out.cells (fun hHeld => ?_)
  replace HE := Aside0.mk (HE.out.low (below_drew (Below.refl _ _)))
  replace HX := Aside0.mk (HX.out.trans (Exc.low (below_drew (Below.refl _ _))))
  replace C1 := Aside0.mk (ciS_low C1.out (below_drew (Below.refl _ _)))
  generalize w.drew = wd_ at HE HX C1 hHeld ⊢
  refine take_ (i := 0) (N := some 7) (v := ?_) (a' := ?_) #[true, false, false, false, false, false, false, false, false, false, false, false, false, false, false] rfl rfl (by kernel_rfl) (fun _ _ _ h => h) (Or.inl ⟨by rfl, ?_⟩) hHeld ?_ ?_
  rotate_left
  · intro w' hSw
    (try simp only [] at hSw)
    (repeat obtain ⟨hs_, hSw⟩ := hSw)
    go_simp
    try with_reducible rfl
  rotate_left
  · simp only [Act.put, List.setIfInBounds_toArray, List.set_cons_zero, List.set_cons_succ, i64_w, i32_w]
    rfl
  refine take_ (i := 1) (N := some 8) (v := ?_) (a' := ?_) #[true, true, false, false, false, false, false, false, false, false, false, false, false, false, false] rfl rfl (by kernel_rfl) (fun _ _ _ h => h) (Or.inl ⟨by rfl, ?_⟩) hHeld ?_ ?_
  rotate_left
  · intro w' hSw
    (try simp only [] at hSw)
    (repeat obtain ⟨hs_, hSw⟩ := hSw)
    go_simp
    try with_reducible rfl
  rotate_left
  · simp only [Act.put, List.setIfInBounds_toArray, List.set_cons_zero, List.set_cons_succ, i64_w, i32_w]
    rfl
  refine take_ (i := 2) (N := some 9) (v := ?_) (a' := ?_) #[true, true, true, false, false, false, false, false, false, false, false, false, false, false, false] rfl rfl (by kernel_rfl) (fun _ _ _ h => h) (Or.inl ⟨by rfl, ?_⟩) hHeld ?_ ?_
  rotate_left
  · intro w' hSw
    (try simp only [] at hSw)
    (repeat obtain ⟨hs_, hSw⟩ := hSw)
    go_simp
    try with_reducible rfl
  rotate_left
  · simp only [Act.put, List.setIfInBounds_toArray, List.set_cons_zero, List.set_cons_succ, i64_w, i32_w]
    rfl
  refine take_ (i := 5) (N := some 12) (v := ?_) (a' := ?_) #[true, true, true, false, false, true, false, false, false, false, false, false, false, false, false] rfl rfl (by kernel_rfl) (fun _ _ _ h => h) (Or.inl ⟨by rfl, ?_⟩) hHeld ?_ ?_
  rotate_left
  · intro w' hSw
    (try simp only [] at hSw)
    (repeat obtain ⟨hs_, hSw⟩ := hSw)
    go_simp
    try with_reducible rfl
  rotate_left
  · simp only [Act.put, List.setIfInBounds_toArray, List.set_cons_zero, List.set_cons_succ, i64_w, i32_w]
    rfl
  refine take_ (i := 6) (N := some 13) (v := ?_) (a' := ?_) #[true, true, true, false, false, true, true, false, false, false, false, false, false, false, false] rfl rfl (by kernel_rfl) (fun _ _ _ h => h) (Or.inl ⟨by rfl, ?_⟩) hHeld ?_ ?_
  rotate_left
  · intro w' hSw
    (try simp only [] at hSw)
    (repeat obtain ⟨hs_, hSw⟩ := hSw)
    go_simp
    try with_reducible rfl
  rotate_left
  · simp only [Act.put, List.setIfInBounds_toArray, List.set_cons_zero, List.set_cons_succ, i64_w, i32_w]
    rfl
  refine one_ (i := 3) (N := (some 10)) #[true, true, true, true, false, true, true, false, false, false, false, false, false, false, false] rfl rfl (by kernel_rfl) (by decide) (fun K hK => ?_)
  refine goes_ Try.func46 (by kernel_rfl) rfl #[.pointer (some ⟨gs, 0, none⟩)] (by rfl) rfl rfl (by (try simp only [List.map_toArray, List.map_cons, List.map_nil]); first | done | rfl | (simp only [List.length_drop, List.length_take]; rfl)) ?_
  with_reducible refine (cipher_stream_next.calls s HZ.out gs (i) _ C1.out).mono ?_
  rintro e w' ⟨rfl, hCS, hb⟩
  have n0_ := Aside0.mk (HX.out.trans (Exc.of hb (by simp)))
  have n1_ := Aside0.mk (HE.out.but D.out hb)
  have C1b := Aside0.mk (hCS)
  clear hb HX HE hCS C1
  have HX := n0_
  have HE := n1_
  clear n0_ n1_
  refine ⟨_, rfl, ?_⟩
  refine hK.out _ _ HE.out.cells (fun hHeld => ?_)
  clear hK K
  refine norm_ (a' := ?_) ?_ ?_
  rotate_left
  · show Act.put _ (some 10) _ = _
    simp only [Act.put, List.setIfInBounds_toArray, List.set_cons_zero, List.set_cons_succ, i64_w, i32_w]
    rfl
  refine pure_ (i := 4) (N := some 11) (v := ?_) (a' := ?_) #[true, true, true, true, true, true, true, false, false, false, false, false, false, false, false] rfl rfl (by kernel_rfl) (fun _ _ _ h => h) (Or.inl ⟨by rfl, ?_⟩) ?_ ?_
  rotate_left
  · intro w'
    go_simp
    (try rw [hx1])
    try with_reducible rfl
  rotate_left
  · simp only [Act.put, List.setIfInBounds_toArray, List.set_cons_zero, List.set_cons_succ, i64_w, i32_w]
    rfl
  refine one_ (i := 7) (N := (some 14)) #[true, true, true, true, true, true, true, true, false, false, false, false, false, false, false] rfl rfl (by kernel_rfl) (by decide) (fun K hK => ?_)
  refine goes_ Try.func46 (by kernel_rfl) rfl #[.pointer (some ⟨gs, 0, none⟩)] (by rfl) rfl rfl (by (try simp only [List.map_toArray, List.map_cons, List.map_nil]); first | done | rfl | (simp only [List.length_drop, List.length_take]; rfl)) ?_
  with_reducible refine (cipher_stream_next.calls s HZ.out gs (i + 1) _ C1b.out).mono ?_
  rintro e w' ⟨rfl, hCS, hb⟩
  have n0_ := Aside0.mk (HX.out.trans (Exc.of hb (by simp)))
  have n1_ := Aside0.mk (HE.out.but D.out hb)
  have C2 := Aside0.mk (hCS)
  clear hb HX HE hCS C1b
  have HX := n0_
  have HE := n1_
  clear n0_ n1_
  refine ⟨_, rfl, ?_⟩
  refine hK.out _ _ HE.out.cells (fun hHeld => ?_)
  clear hK K
  refine norm_ (a' := ?_) ?_ ?_
  rotate_left
  · show Act.put _ (some 14) _ = _
    simp only [Act.put, List.setIfInBounds_toArray, List.set_cons_zero, List.set_cons_succ, i64_w, i32_w]
    rfl
  refine pure_ (i := 8) (N := some 15) (v := ?_) (a' := ?_) #[true, true, true, true, true, true, true, true, true, false, false, false, false, false, false] rfl rfl (by kernel_rfl) (fun _ _ _ h => h) (Or.inl ⟨by rfl, ?_⟩) ?_ ?_
  rotate_left
  · intro w'
    go_simp
    (try rw [hx2])
    try with_reducible rfl
  rotate_left
  · simp only [Act.put, List.setIfInBounds_toArray, List.set_cons_zero, List.set_cons_succ, i64_w, i32_w]
    rfl
  refine one_ (i := 9) (N := (some 16)) #[true, true, true, true, true, true, true, true, true, true, false, false, false, false, false] rfl rfl (by kernel_rfl) (by decide) (fun K hK => ?_)
  refine goes_ Try.func23 (by kernel_rfl) rfl #[.pointer (some ⟨g, 0, none⟩), .int .u32 ((x ^^^ p : Nat) : Int), .int .u32 ((y ^^^ q : Nat) : Int)] (by rfl) rfl rfl (by (try simp only [List.map_toArray, List.map_cons, List.map_nil]); first | done | rfl | (simp only [List.length_drop, List.length_take]; rfl)) ?_
  with_reducible refine (cipher_Cipher_Encrypt.calls t g (x ^^^ p) (y ^^^ q) _ HE.out.t HO.out A1.out A2.out).mono ?_
  rintro e w' ⟨rfl, hbb⟩
  have hCS := ciS_low C2.out hbb
  have hb := But.of (g := gs) hbb
  have n0_ := Aside0.mk (HX.out.trans (Exc.of hb (by simp)))
  have n1_ := Aside0.mk (HE.out.but D.out hb)
  have C3 := Aside0.mk (hCS)
  clear hb HX HE hCS C2 hbb
  have HX := n0_
  have HE := n1_
  clear n0_ n1_
  refine ⟨_, rfl, ?_⟩
  refine hK.out _ _ HE.out.cells (fun hHeld => ?_)
  clear hK K
  refine norm_ (a' := ?_) ?_ ?_
  rotate_left
  · show Act.put _ (some 16) _ = _
    simp only [Act.put, List.setIfInBounds_toArray, List.set_cons_zero, List.set_cons_succ, i64_w, i32_w]
    rfl
  refine pure_ (i := 10) (N := some 6) (v := ?_) (a' := ?_) #[true, true, true, true, true, true, true, true, true, true, true, false, false, false, false] rfl rfl (by kernel_rfl) (fun _ _ _ h => h) (Or.inl ⟨by rfl, ?_⟩) ?_ ?_
  rotate_left
  · intro w'
    go_simp
    try with_reducible rfl
  rotate_left
  · simp only [Act.put, List.setIfInBounds_toArray, List.set_cons_zero, List.set_cons_succ, i64_w, i32_w]
    rfl
  refine pure_ (i := 11) (N := some 17) (v := ?_) (a' := ?_) #[true, true, true, true, true, true, true, true, true, true, true, true, false, false, false] rfl rfl (by kernel_rfl) (fun _ _ _ h => h) (Or.inl ⟨by rfl, ?_⟩) ?_ ?_
  rotate_left
  · intro w'
    go_simp
    try with_reducible rfl
  rotate_left
  · simp only [Act.put, List.setIfInBounds_toArray, List.set_cons_zero, List.set_cons_succ, i64_w, i32_w]
    rfl
  refine pure_ (i := 12) (N := some 18) (v := ?_) (a' := ?_) #[true, true, true, true, true, true, true, true, true, true, true, true, true, false, false] rfl rfl (by kernel_rfl) (fun _ _ _ h => h) (Or.inl ⟨by rfl, ?_⟩) ?_ ?_
  rotate_left
  · intro w'
    go_simp
    try with_reducible rfl
  rotate_left
  · simp only [Act.put, List.setIfInBounds_toArray, List.set_cons_zero, List.set_cons_succ, i64_w, i32_w]
    rfl
  refine last_ (i := 13) (N := none) #[true, true, true, true, true, true, true, true, true, true, true, true, true, true, false] rfl rfl (by kernel_rfl) (by decide) (fun K hK => ?_)
  refine skip_ (by rfl) rfl (ci_store (A := 1) (B := 17) rfl rfl rfl ((blk_cell (HE.out.l) _).trans rfl) (blk_frozen (HE.out.l) _)) ?_
  refine hK.out _ _ ?_
  clear hK K
  refine last_ (i := 14) (N := none) #[true, true, true, true, true, true, true, true, true, true, true, true, true, true, true] rfl rfl (by kernel_rfl) (by decide) (fun K hK => ?_)
  refine skip_ (by rfl) rfl (ci_store (A := 3) (B := 18) rfl rfl rfl ((blk_cell ((Below.heap_setCell _ ⟨bl, 0, none⟩ _ br (Ne.symm D.out.lr)).trans HE.out.r) _).trans rfl) (blk_frozen ((Below.heap_setCell _ ⟨bl, 0, none⟩ _ br (Ne.symm D.out.lr)).trans HE.out.r) _)) ?_
  refine hK.out _ _ ?_
  clear hK K
  refine done_ (by kernel_rfl) ?_
  have n0_ := Aside0.mk (HE.out.put D.out e1 e2)
  have n1_ := Aside0.mk ((HX.out.put (show bl ∈ [bl, br, gs] by simp) 0 (.int .u32 (e1 : Int)) : Exc [bl, br, gs] w _).put (show br ∈ [bl, br, gs] by simp) 0 (.int .u32 (e2 : Int)))
  have n2_ := Aside0.mk (ciS_set (ciS_set C3.out bl 0 (.int .u32 (e1 : Int)) (Ne.symm D.out.ls)) br 0 (.int .u32 (e2 : Int)) (Ne.symm D.out.rs))
  clear HE HX C3
  generalize World.setCell _ ⟨br, 0, none⟩ _ = w9 at n0_ n1_ n2_ ⊢
  obtain ⟨c0, c1, c2, c3⟩ := n0_.out.cells
  go_wp2
  go_quiet (fail)
  go_wp2
  go_ret2
  refine ⟨rfl, n0_.out.low (below_of_drawn ⟨_, rfl⟩), n2_.out.drewN _, n1_.out.trans (Exc.low (below_of_drawn ⟨_, rfl⟩))⟩

end Go.Proofs.Ytimgndceiibaeaa.Pall
