-- PRINTED by print.py (a twelfth state) out of the translation. Not trusted: Lean checks it.
import Derived.Test.YtimgndceiibaeaaPallx0
import Derived.Test.YtimgndceiibaeaaPallx1
import Derived.Test.YtimgndceiibaeaaPallx2
namespace Go.Proofs.Ytimgndceiibaeaa.Pall
open Go.RowKit Go.Proofs.YtimgndceiibaeaaW.PrintWords Go.Proofs.YtimgndceiibaeaaW.PrintLast Go.Proofs.YtimgndceiibaeaaW.PrintMore
attribute [local go_sem] max2_int min2_int max_two min_two max_three min_three max_four min_four   -- for this text's walks alone
set_option linter.unusedVariables false
set_option linter.unusedSimpArgs false

/-! ### cipher_Cipher_Expand: function 21 -/
theorem ci_goesC {ops : Array Oper} {oi : Oper} {N : Option Tmp} {a : Act} {w : World} {K : Act → World → Prop} {Q : Exit → Act → World → Prop} {f : FuncId} {fn : Func} (n : Tmp) (hf : Try.prog.funcs[f]? = some fn) (hname : (fn.name == "runtime.NumGoroutine") = false) (hb : fn.body.isSome = true) (cap : Array Value)
    (hw : Region.wanted oi (yielded ops a.tmps) = true) (hN : oi.dst = N) (hop : oi.op = .call { callee := .value (.tmp n), args := #[], argTypes := #[] }) (hv : a.eval (.tmp n) = .func (.func f) #[] cap)
    (h : Calls Try.prog f cap w fun e w' => ∃ v, e = .returned v ∧ K (a.put N v) w') : if Region.wanted oi (yielded ops a.tmps) = true then Oper.wp Try.prog oi a w K Q else K (a.put N undef) w := by
  refine call_ f cap hw hN ?_ h
  have he := enters_ hf hname hb cap w
  unfold execOp
  simp [hop, resolve, Deferred.ofValue, invoke, hv, he]
theorem Exc.own {X Y : List Nat} {w a b : World} (h : Exc X w a) (k : Exc Y a b) (hY : ∀ y ∈ Y, y ∈ X ∨ w.heap.size ≤ y) : Exc X w b :=
  ⟨k.os.trans h.os, k.tape.trans h.tape, k.output.trans h.output, Nat.le_trans h.size k.size, fun i hi hg => (k.block i (Nat.lt_of_lt_of_le hi h.size) (fun hy => (hY i hy).elim hg (fun q => by omega))).trans (h.block i hi hg)⟩
theorem Ci.cellL {T : TypeId} {w : World} {g : Nat} {t : List Nat} (h : Ci T w g t) (hl : t.length = 1042) (i : Nat) (hi : i < 1042) : w.cell? ⟨g, i, none⟩ = some (.int .u32 (ciW t i : Nat)) := (blk_cell h i).trans (ciA_get t i (by omega))
theorem ciKey_succ (kw : Nat → Nat) (n i : Nat) (t : List Nat) : ciKey kw (n + 1) i t = ciKey kw n (i + 1) (t.set i (ciW t i ^^^ kw i)) := rfl
theorem ciChain_succ (sw : Nat → Nat) (n i l r : Nat) (t : List Nat) : ciChain sw (n + 1) i l r t = ciChain sw n (i + 2) (ciEnc t (l ^^^ sw i) (r ^^^ sw (i + 1))).1 (ciEnc t (l ^^^ sw i) (r ^^^ sw (i + 1))).2 ((t.set i (ciEnc t (l ^^^ sw i) (r ^^^ sw (i + 1))).1).set (i + 1) (ciEnc t (l ^^^ sw i) (r ^^^ sw (i + 1))).2) := by
  delta ciChain
  rfl
/-- where the chain stands: n words are written, x and y the last two; t lies there, tt is to lie there -/
structure ExI (w wz : World) (bc bl bs br g gs : Nat) (salt : ByteArray) (fin : List Nat) (n x y : Nat) (t tt : List Nat) : Prop where
  E : Env wz bc bl bs br g gs x y t
  S : CiS wz gs salt (4 * n)
  N : t.length = 1042
  O : ciOk tt
  X : x < 4294967296
  Y : y < 4294967296
  F : ∃ m, n + 2 * m = 1042 ∧ ciChain (ciWord salt) m n x y tt = fin
  B : Exc [g] w wz
  D : Dis bc bl bs br g gs
  L : w.heap.size ≤ bl ∧ w.heap.size ≤ br ∧ w.heap.size ≤ gs
theorem ExI.mid {w wz w' : World} {bc bl bs br g gs : Nat} {salt : ByteArray} {fin : List Nat} {n x y : Nat} {t : List Nat} (h : ExI w wz bc bl bs br g gs salt fin n x y t t) (hn : n < 1042)
    (hE : Env w' bc bl bs br g gs (ciEnc t (x ^^^ ciWord salt n) (y ^^^ ciWord salt (n + 1))).1 (ciEnc t (x ^^^ ciWord salt n) (y ^^^ ciWord salt (n + 1))).2 t) (hS : CiS w' gs salt (4 * (n + 1 + 1))) (hX : Exc [bl, br, gs] wz w') :
    ExI w w' bc bl bs br g gs salt fin (n + 2) (ciEnc t (x ^^^ ciWord salt n) (y ^^^ ciWord salt (n + 1))).1 (ciEnc t (x ^^^ ciWord salt n) (y ^^^ ciWord salt (n + 1))).2 t ((t.set n (ciEnc t (x ^^^ ciWord salt n) (y ^^^ ciWord salt (n + 1))).1).set (n + 1) (ciEnc t (x ^^^ ciWord salt n) (y ^^^ ciWord salt (n + 1))).2) := by
  obtain ⟨m, hm, hF⟩ := h.F
  obtain ⟨m', rfl⟩ : ∃ m', m = m' + 1 := ⟨m - 1, by omega⟩
  have hlt := ciEnc_lt h.O (ci_xor h.X (ciWord_lt salt n)) (ci_xor h.Y (ciWord_lt salt (n + 1)))
  rw [ciChain_succ] at hF
  refine ⟨hE, hS, h.N, ciOk_set (ciOk_set h.O hn hlt.1) (by omega) hlt.2, hlt.1, hlt.2, ⟨m', by omega, hF⟩, h.B.own hX ?_, h.D, h.L⟩
  intro z hz
  have hL := h.L
  simp only [List.mem_cons, List.not_mem_nil, or_false] at hz
  rcases hz with rfl | rfl | rfl
  · exact .inr hL.1
  · exact .inr hL.2.1
  · exact .inr hL.2.2
theorem ExI.low {w wz w' : World} {bc bl bs br g gs : Nat} {salt : ByteArray} {fin : List Nat} {n x y : Nat} {t tt : List Nat} (h : ExI w wz bc bl bs br g gs salt fin n x y t tt) (hb : Below wz.heap.size wz w') : ExI w w' bc bl bs br g gs salt fin n x y t tt :=
  ⟨h.E.low hb, ciS_low h.S hb, h.N, h.O, h.X, h.Y, h.F, h.B.trans (Exc.low hb), h.D, h.L⟩
theorem Env.set {w : World} {bc bl bs br g gs x y : Nat} {t : List Nat} (h : Env w bc bl bs br g gs x y t) (d : Dis bc bl bs br g gs) (hc : bc ≠ g) (hs : bs ≠ g) (i v : Nat) : Env (w.setCell ⟨g, i, none⟩ (.int .u32 (v : Int))) bc bl bs br g gs x y (t.set i v) :=
  have o := fun (k : Nat) (hk : k ≠ g) => Below.heap_setCell w ⟨g, i, none⟩ (.int .u32 (v : Int)) k hk
  ⟨(o _ hc).trans h.c, (o _ (Ne.symm d.gl)).trans h.l, (o _ hs).trans h.s, (o _ (Ne.symm d.gr)).trans h.r, h.t.put i v⟩
theorem ExI.put {w wz : World} {bc bl bs br g gs : Nat} {salt : ByteArray} {fin : List Nat} {n x y : Nat} {t : List Nat} {i a b : Nat} (h : ExI w wz bc bl bs br g gs salt fin n x y t ((t.set i a).set (i + 1) b)) (hc : bc ≠ g) (hs : bs ≠ g) :
    ExI w ((wz.setCell ⟨g, i, none⟩ (.int .u32 (a : Int))).setCell ⟨g, i + 1, none⟩ (.int .u32 (b : Int))) bc bl bs br g gs salt fin n x y ((t.set i a).set (i + 1) b) ((t.set i a).set (i + 1) b) :=
  ⟨(h.E.set h.D hc hs i a).set h.D hc hs (i + 1) b, ciS_set (ciS_set h.S g i _ (Ne.symm h.D.gs)) g (i + 1) _ (Ne.symm h.D.gs), by rw [List.length_set, List.length_set]; exact h.N, h.O, h.X, h.Y, h.F, (h.B.put (by simp) i _).put (by simp) (i + 1) _, h.D, h.L⟩
/-- where the key stands: n words are put in; t lies there, tt is to lie there -/
structure KeyI (w wz : World) (bc g gk gs bs : Nat) (salt key : ByteArray) (fin : List Nat) (n : Nat) (t tt : List Nat) : Prop where
  c : wz.heap[bc]? = some (.cells #[.pointer (some ⟨g, 0, none⟩)] 33 (0, 0))
  q : Ci 70 wz g t
  k : CiS wz gk key (4 * n)
  s : CiS wz gs salt 0
  b : wz.heap[bs]? = some (.cells #[.pointer (some ⟨gs, 0, none⟩)] 72 (0, 0))
  N : t.length = 1042
  O : ciOk tt
  F : ∃ m, n + m = 18 ∧ ciKey (ciWord key) m n tt = fin
  B : Exc [g] w wz
  L : bc < gk ∧ gk < gs ∧ gs < bs ∧ g < bc ∧ w.heap.size ≤ bc
theorem KeyI.low {w wz w' : World} {bc g gk gs bs : Nat} {salt key : ByteArray} {fin : List Nat} {n : Nat} {t tt : List Nat} (h : KeyI w wz bc g gk gs bs salt key fin n t tt) (hb : Below wz.heap.size wz w') : KeyI w w' bc g gk gs bs salt key fin n t tt :=
  ⟨(hb.block _ (blk_lt h.c)).trans h.c, h.q.next hb, ciS_low h.k hb, ciS_low h.s hb, (hb.block _ (blk_lt h.b)).trans h.b, h.N, h.O, h.F, h.B.trans (Exc.low hb), h.L⟩
theorem KeyI.mid {w wz w' : World} {bc g gk gs bs : Nat} {salt key : ByteArray} {fin : List Nat} {n : Nat} {t : List Nat} (h : KeyI w wz bc g gk gs bs salt key fin n t t) (hn : n < 18) (hk : CiS w' gk key (4 * (n + 1))) (hb : But gk wz w') :
    KeyI w w' bc g gk gs bs salt key fin (n + 1) t (t.set n (ciW t n ^^^ ciWord key n)) := by
  obtain ⟨m, hm, hF⟩ := h.F
  obtain ⟨m', rfl⟩ : ∃ m', m = m' + 1 := ⟨m - 1, by omega⟩
  have hL := h.L
  rw [ciKey_succ] at hF
  exact ⟨(hb.block _ (blk_lt h.c) (by omega)).trans h.c, (hb.block _ (blk_lt h.q) (by omega)).trans h.q, hk, (hb.block _ (blk_lt h.s) (by omega)).trans h.s, (hb.block _ (blk_lt h.b) (by omega)).trans h.b, h.N, ciOk_set h.O (by omega) (ci_xor (h.O.2 n) (ciWord_lt key n)), ⟨m', by omega, hF⟩,
    h.B.own (Exc.of hb (X := [gk]) (by simp)) (fun y hy => .inr (by rw [List.mem_singleton] at hy; omega)), hL⟩
theorem KeyI.put {w wz : World} {bc g gk gs bs : Nat} {salt key : ByteArray} {fin : List Nat} {n : Nat} {t : List Nat} {i v : Nat} (h : KeyI w wz bc g gk gs bs salt key fin n t (t.set i v)) : KeyI w (wz.setCell ⟨g, i, none⟩ (.int .u32 (v : Int))) bc g gk gs bs salt key fin n (t.set i v) (t.set i v) := by
  have o := fun (k : Nat) (hk : k ≠ g) => Below.heap_setCell wz ⟨g, i, none⟩ (.int .u32 (v : Int)) k hk
  have hL := h.L
  exact ⟨(o _ (by omega)).trans h.c, h.q.put i v, (o _ (by omega)).trans h.k, (o _ (by omega)).trans h.s, (o _ (by omega)).trans h.b, by rw [List.length_set]; exact h.N, h.O, h.F, h.B.put (by simp) i _, hL⟩
set_option maxHeartbeats 8000000 in
set_option maxRecDepth 100000 in
theorem cipher_Cipher_Expand.nil (salt key : ByteArray) (w : World) : Calls Try.prog 21 #[.pointer none, .string salt, .string key] w fun e w' => e = .returned (.pointer none) ∧ Below w.heap.size w w' := by
  go_enter Try.func21, Try.ntmps21
  go_wp2
  go_ret
  exact ⟨rfl, by repeat (first | exact Below.refl _ _ | apply below_alloc)⟩
set_option maxHeartbeats 8000000 in
set_option maxRecDepth 100000 in
theorem cipher_Cipher_Expand.calls (salt key : ByteArray) (hs : salt.size ≤ 9223372036854775807) (hk : key.size ≤ 9223372036854775807) (g : Nat) (t : List Nat) (w : World) (hc : Ci 70 w g t) (ho : ciOk t) :
    Calls Try.prog 21 #[.pointer (some ⟨g, 0, none⟩), .string salt, .string key] w fun e w' => e = .returned (.pointer (some ⟨g, 0, none⟩)) ∧ Ci 70 w' g (ciExpand t (ciWord salt) (ciWord key)) ∧ But g w w' := by
  have HC := Aside0.mk hc
  have HO := Aside0.mk ho
  have HS := Aside0.mk hs
  have HK := Aside0.mk hk
  have HG := Aside0.mk hc.lt
  clear hc ho hs hk
  go_enter Try.func21, Try.ntmps21
  go_wp2_with (first | ((with_reducible refine gate_dst (N := 3) rfl ?_); refine box_event ?hg (N := 3) ?hd (cs := #[.pointer (some ⟨g, 0, none⟩)]) (t := 33) ?hr ?_; (case hd => rfl); (case hg => rfl); (case hr => rfl); intro bc hg wn hbox hb; have BC := Aside0.mk hbox; have TC := Aside0.mk (HC.out.next hb); have HX := Aside0.mk (Exc.low (X := [g]) hb); have LB := Aside0.mk hg; have cb := (blk_cell hbox 0).trans rfl; clear hbox hb hg HC) | ((with_reducible refine gate_dst (N := 20) rfl ?_); refine box_event ?hg (N := 20) ?hd (cs := #[.string key, .int .i64 0]) (t := 74) ?hr ?_; (case hd => rfl); (case hg => rfl); (case hr => rfl); intro gk hg wn hbox hb; have n0_ := Aside0.mk ((hb.block _ (blk_lt BC.out)).trans BC.out); have n1_ := Aside0.mk (TC.out.next hb); have n2_ := Aside0.mk (HX.out.trans (Exc.low hb)); have GK := Aside0.mk hbox; have LK := Aside0.mk (show bc < gk by rw [hg]; exact blk_lt BC.out); clear BC TC HX cb hbox hb hg; have BC := n0_; have TC := n1_; have HX := n2_; clear n0_ n1_ n2_) | ((with_reducible refine gate_dst (N := 23) rfl ?_); refine box_event ?hg (N := 23) ?hd (cs := #[.string salt, .int .i64 0]) (t := 74) ?hr ?_; (case hd => rfl); (case hg => rfl); (case hr => rfl); intro gs hg wn hbox hb; have n0_ := Aside0.mk ((hb.block _ (blk_lt BC.out)).trans BC.out); have n1_ := Aside0.mk (TC.out.next hb); have n2_ := Aside0.mk (HX.out.trans (Exc.low hb)); have n3_ := Aside0.mk ((hb.block _ (blk_lt GK.out)).trans GK.out); have GS := Aside0.mk hbox; have LS := Aside0.mk (show gk < gs by rw [hg]; exact blk_lt GK.out); clear BC TC HX GK hbox hb hg; have BC := n0_; have TC := n1_; have HX := n2_; have GK := n3_; clear n0_ n1_ n2_ n3_) | ((with_reducible refine gate_dst (N := 8) rfl ?_); refine box_event ?hg (N := 8) ?hd (cs := #[.pointer none]) (t := 72) ?hr ?_; (case hd => rfl); (case hg => rfl); (case hr => rfl); intro bs hg wn hbox hb; have n0_ := Aside0.mk ((hb.block _ (blk_lt BC.out)).trans BC.out); have n1_ := Aside0.mk (TC.out.next hb); have n2_ := Aside0.mk (HX.out.trans (Exc.low hb)); have n3_ := Aside0.mk ((hb.block _ (blk_lt GK.out)).trans GK.out); have n4_ := Aside0.mk ((hb.block _ (blk_lt GS.out)).trans GS.out); have BS := Aside0.mk hbox; have LT := Aside0.mk (show gs < bs by rw [hg]; exact blk_lt GS.out); have c8 := (blk_cell hbox 0).trans rfl; have f8 := blk_frozen hbox 0; clear BC TC HX GK GS hbox hb hg; have BC := n0_; have TC := n1_; have HX := n2_; have GK := n3_; have GS := n4_; clear n0_ n1_ n2_ n3_ n4_))
  have KI := Aside0.mk (show KeyI w (wn.setCell ⟨bs, 0, none⟩ (.pointer (some ⟨gs, 0, none⟩))) bc g gk gs bs salt key (ciKey (ciWord key) 18 0 t) 0 t t from by
    have o := fun (k : Nat) (hk : k ≠ bs) => Below.heap_setCell wn ⟨bs, 0, none⟩ (.pointer (some ⟨gs, 0, none⟩)) k hk
    have l1 := LB.out
    have l2 := LK.out
    have l3 := LS.out
    have l4 := LT.out
    have l5 := HG.out
    refine ⟨(o _ (by omega)).trans BC.out, (o _ (by omega)).trans TC.out, ?_, ?_, blk_set BS.out 0 (.pointer (some ⟨gs, 0, none⟩)), HO.out.1, HO.out, ⟨18, rfl, rfl⟩, HX.out.own (Exc.of ((But.refl bs wn).put 0 _) (X := [bs]) (by simp)) (fun y hy => .inr (by rw [List.mem_singleton] at hy; omega)), ⟨l2, l3, l4, by omega, by omega⟩⟩
    · have e : ciAt key (4 * 0) = 0 := by unfold ciAt; split <;> simp
      unfold CiS
      rw [e]
      exact (o _ (by omega)).trans GK.out
    · have e : ciAt salt 0 = 0 := by unfold ciAt; split <;> simp
      unfold CiS
      rw [e]
      exact (o _ (by omega)).trans GS.out)
  obtain ⟨tk, htk⟩ : ∃ tk, ciKey (ciWord key) 18 0 t = tk := ⟨_, rfl⟩
  rw [htk] at KI
  have HF := Aside0.mk (show ciExpand t (ciWord salt) (ciWord key) = ciChain (ciWord salt) 521 0 0 0 tk by rw [← htk]; rfl)
  clear htk HO BC TC HX GK GS BS c8 f8 LB LK LS LT HG
  generalize World.setCell wn _ _ = wa at KI
  go_loopw [24] (fun v24 wz => ∃ (n : Nat) (tc : List Nat), n ≤ 18 ∧ v24 = .int .i64 (n : Int) ∧ Aside0 (KeyI w wz bc g gk gs bs salt key tk n tc tc)) (fun v24 _ => 18 - (intOf v24).toNat)
  case atStart => exact ⟨0, t, by omega, rfl, KI⟩
  case round =>
    clear KI
    obtain ⟨n, tc, hn, rfl, KI⟩ := hrel
    by_cases hlt : n < 18
    · have p1 : (n : Int) < 18 := by omega
      have hx1 := ci_bxor (ciW tc n) (ciWord key n) (KI.out.O.2 n) (ciWord_lt key n)
      have HN := Aside0.mk (show n < 1042 by omega)
      have HN2 := Aside0.mk hlt
      clear hlt
      go_wp2
      refine start_ (n := 13) (S := (fun W : World => W.cell? ⟨bc, 0, none⟩ = some (.pointer (some ⟨g, 0, none⟩)) ∧ W.cell? ⟨g, n, none⟩ = some (.int .u32 ((ciW tc n : Nat) : Int)))) (ds := [12]) #[false, false, false, false, false, false, false, false, false, false, false, false, false] (by kernel_rfl) rfl rfl ⟨(blk_cell KI.out.c 0).trans rfl, KI.out.q.cellL KI.out.N n HN.out⟩ (fun hHeld => ?_)
      replace KI := Aside0.mk (KI.out.low (below_drew (Below.refl _ _)))
      generalize wr.drew = wd_ at KI hHeld ⊢
      refine take_ (i := 0) (N := some 27) (v := ?_) (a' := ?_) #[true, false, false, false, false, false, false, false, false, false, false, false, false] rfl rfl (by kernel_rfl) (fun _ _ _ h => h) (Or.inl ⟨by rfl, ?_⟩) hHeld ?_ ?_
      rotate_left
      · intro w' hSw
        (try simp only [] at hSw)
        (repeat obtain ⟨hs_, hSw⟩ := hSw)
        go_simp
        try with_reducible rfl
      rotate_left
      · simp only [Act.put, List.setIfInBounds_toArray, List.set_cons_zero, List.set_cons_succ, i64_w, i32_w]
        rfl
      refine pure_ (i := 1) (N := some 28) (v := ?_) (a' := ?_) #[true, true, false, false, false, false, false, false, false, false, false, false, false] rfl rfl (by kernel_rfl) (fun _ _ _ h => h) (Or.inl ⟨by rfl, ?_⟩) ?_ ?_
      rotate_left
      · intro w'
        go_simp
        try with_reducible rfl
      rotate_left
      · simp only [Act.put, List.setIfInBounds_toArray, List.set_cons_zero, List.set_cons_succ, i64_w, i32_w]
        rfl
      refine pure_ (i := 2) (N := some 29) (v := ?_) (a' := ?_) #[true, true, true, false, false, false, false, false, false, false, false, false, false] rfl rfl (by kernel_rfl) (fun _ _ _ h => h) (Or.inl ⟨by rfl, ?_⟩) ?_ ?_
      rotate_left
      · intro w'
        go_simp
        try with_reducible rfl
      rotate_left
      · simp only [Act.put, List.setIfInBounds_toArray, List.set_cons_zero, List.set_cons_succ, i64_w, i32_w]
        rfl
      refine pure_ (i := 3) (N := some 30) (v := ?_) (a' := ?_) #[true, true, true, true, false, false, false, false, false, false, false, false, false] rfl rfl (by kernel_rfl) (fun _ _ _ h => h) (Or.inl ⟨by rfl, ?_⟩) ?_ ?_
      rotate_left
      · intro w'
        go_simp
        try with_reducible rfl
      rotate_left
      · simp only [Act.put, List.setIfInBounds_toArray, List.set_cons_zero, List.set_cons_succ, i64_w, i32_w]
        rfl
      refine pure_ (i := 4) (N := some 31) (v := ?_) (a' := ?_) #[true, true, true, true, true, false, false, false, false, false, false, false, false] rfl rfl (by kernel_rfl) (fun _ _ _ h => h) (Or.inl ⟨by rfl, ?_⟩) ?_ ?_
      rotate_left
      · intro w'
        go_simp
        try with_reducible rfl
      rotate_left
      · simp only [Act.put, List.setIfInBounds_toArray, List.set_cons_zero, List.set_cons_succ, i64_w, i32_w]
        rfl
      refine take_ (i := 5) (N := some 32) (v := ?_) (a' := ?_) #[true, true, true, true, true, true, false, false, false, false, false, false, false] rfl rfl (by kernel_rfl) (fun _ _ _ h => h) (Or.inl ⟨by rfl, ?_⟩) hHeld ?_ ?_
      rotate_left
      · intro w' hSw
        (try simp only [] at hSw)
        (repeat obtain ⟨hs_, hSw⟩ := hSw)
        go_simp
        try with_reducible rfl
      rotate_left
      · simp only [Act.put, List.setIfInBounds_toArray, List.set_cons_zero, List.set_cons_succ, i64_w, i32_w]
        rfl
      refine pure_ (i := 6) (N := some 33) (v := ?_) (a' := ?_) #[true, true, true, true, true, true, true, false, false, false, false, false, false] rfl rfl (by kernel_rfl) (fun _ _ _ h => h) (Or.inl ⟨by rfl, ?_⟩) ?_ ?_
      rotate_left
      · intro w'
        go_simp
        try with_reducible rfl
      rotate_left
      · simp only [Act.put, List.setIfInBounds_toArray, List.set_cons_zero, List.set_cons_succ, i64_w, i32_w]
        rfl
      refine pure_ (i := 9) (N := some 36) (v := ?_) (a' := ?_) #[true, true, true, true, true, true, true, false, false, true, false, false, false] rfl rfl (by kernel_rfl) (fun _ _ _ h => h) (Or.inl ⟨by rfl, ?_⟩) ?_ ?_
      rotate_left
      · intro w'
        go_simp
        try with_reducible rfl
      rotate_left
      · simp only [Act.put, List.setIfInBounds_toArray, List.set_cons_zero, List.set_cons_succ, i64_w, i32_w]
        rfl
      refine pure_ (i := 10) (N := some 37) (v := ?_) (a' := ?_) #[true, true, true, true, true, true, true, false, false, true, true, false, false] rfl rfl (by kernel_rfl) (fun _ _ _ h => h) (Or.inl ⟨by rfl, ?_⟩) ?_ ?_
      rotate_left
      · intro w'
        go_simp
        try with_reducible rfl
      rotate_left
      · simp only [Act.put, List.setIfInBounds_toArray, List.set_cons_zero, List.set_cons_succ, i64_w, i32_w]
        rfl
      refine one_ (i := 7) (N := (some 34)) #[true, true, true, true, true, true, true, true, false, true, true, false, false] rfl rfl (by kernel_rfl) (by decide) (fun K hK => ?_)
      refine goes_ Try.func46 (by kernel_rfl) rfl #[.pointer (some ⟨gk, 0, none⟩)] (by rfl) rfl rfl (by (try simp only [List.map_toArray, List.map_cons, List.map_nil]); first | done | rfl | (simp only [List.length_drop, List.length_take]; rfl)) ?_
      with_reducible refine (cipher_stream_next.calls key HK.out gk n _ KI.out.k).mono ?_
      rintro e w' ⟨rfl, hk, hb⟩
      have K2 := Aside0.mk (KI.out.mid HN2.out hk hb)
      clear hb  hk KI
      refine ⟨_, rfl, ?_⟩
      refine hK.out _ _ ⟨(blk_cell K2.out.c 0).trans rfl, K2.out.q.cellL K2.out.N n HN.out⟩ (fun hHeld => ?_)
      clear hK K
      refine norm_ (a' := ?_) ?_ ?_
      rotate_left
      · show Act.put _ (some 34) _ = _
        simp only [Act.put, List.setIfInBounds_toArray, List.set_cons_zero, List.set_cons_succ, i64_w, i32_w]
        rfl
      refine pure_ (i := 8) (N := some 35) (v := ?_) (a' := ?_) #[true, true, true, true, true, true, true, true, true, true, true, false, false] rfl rfl (by kernel_rfl) (fun _ _ _ h => h) (Or.inl ⟨by rfl, ?_⟩) ?_ ?_
      rotate_left
      · intro w'
        go_simp
        (try rw [hx1])
        try with_reducible rfl
      rotate_left
      · simp only [Act.put, List.setIfInBounds_toArray, List.set_cons_zero, List.set_cons_succ, i64_w, i32_w]
        rfl
      refine pure_ (i := 11) (N := some 38) (v := ?_) (a' := ?_) #[true, true, true, true, true, true, true, true, true, true, true, true, false] rfl rfl (by kernel_rfl) (fun _ _ _ h => h) (Or.inl ⟨by rfl, ?_⟩) ?_ ?_
      rotate_left
      · intro w'
        go_simp
        try with_reducible rfl
      rotate_left
      · simp only [Act.put, List.setIfInBounds_toArray, List.set_cons_zero, List.set_cons_succ, i64_w, i32_w]
        rfl
      refine last_ (i := 12) (N := none) #[true, true, true, true, true, true, true, true, true, true, true, true, true] rfl rfl (by kernel_rfl) (by decide) (fun K hK => ?_)
      refine skip_ (by rfl) rfl (ci_store (A := 38) (B := 35) rfl rfl rfl (K2.out.q.cellL K2.out.N n HN.out) (K2.out.q.frozen n)) ?_
      refine hK.out _ _ ?_
      clear hK K
      refine done_ (by kernel_rfl) ?_
      have n0_ := Aside0.mk K2.out.put
      clear K2
      generalize World.setCell _ ⟨g, n, none⟩ _ = w9 at n0_ ⊢
      go_wp2
      exact ⟨⟨n + 1, _, by omega, by go_num, n0_⟩, by simp [intOf]; omega⟩
    · obtain rfl : n = 18 := by omega
      obtain ⟨m, hm, hF⟩ := KI.out.F
      obtain rfl : m = 0 := by omega
      obtain rfl : tc = tk := hF
      clear hm hn
      go_wp2_with (first | ((with_reducible refine gate_dst (N := 10) rfl ?_); refine box_event ?hg (N := 10) ?hd (cs := #[.int .u32 0]) (t := 23) ?hr ?_; (case hd => rfl); (case hg => rfl); (case hr => rfl); intro bl hg wn hbox hb; have n0_ := Aside0.mk (KI.out.low hb); have LL := Aside0.mk (show bs < bl by rw [hg]; exact blk_lt KI.out.b); have BL := Aside0.mk hbox; clear KI hbox hb hg; have KI := n0_; clear n0_) | ((with_reducible refine gate_dst (N := 11) rfl ?_); refine box_event ?hg (N := 11) ?hd (cs := #[.int .u32 0]) (t := 23) ?hr ?_; (case hd => rfl); (case hg => rfl); (case hr => rfl); intro br hg wn hbox hb; have n0_ := Aside0.mk (KI.out.low hb); have n1_ := Aside0.mk ((hb.block _ (blk_lt BL.out)).trans BL.out); have LR := Aside0.mk (show bl < br by rw [hg]; exact blk_lt BL.out); have BR := Aside0.mk hbox; have c10 := (blk_cell n1_.out 0).trans rfl; have f10 := blk_frozen n1_.out 0; have c11 := (blk_cell hbox 0).trans rfl; have f11 := blk_frozen hbox 0; have hne : ¬ br = bl := (by have := LR.out; omega); have hne2 : ¬ bl = br := (by have := LR.out; omega); clear KI BL hbox hb hg; have KI := n0_; have BL := n1_; clear n0_ n1_))
      have EI := Aside0.mk (show ExI w ((wn.setCell ⟨bl, 0, none⟩ (.int .u32 ((0 : Nat) : Int))).setCell ⟨br, 0, none⟩ (.int .u32 ((0 : Nat) : Int))) bc bl bs br g gs salt (ciChain (ciWord salt) 521 0 0 0 tc) 0 0 0 tc tc from by
        have l0 := KI.out.L
        have l1 := LL.out
        have l2 := LR.out
        have d : Dis bc bl bs br g gs := by constructor <;> omega
        have E0 : Env wn bc bl bs br g gs 0 0 tc := ⟨KI.out.c, BL.out, KI.out.b, BR.out, KI.out.q⟩
        exact ⟨E0.put d 0 0, ciS_set (ciS_set KI.out.s bl 0 _ (Ne.symm d.ls)) br 0 _ (Ne.symm d.rs), KI.out.N, KI.out.O, by omega, by omega, ⟨521, rfl, rfl⟩,
          (KI.out.B.own (Exc.of ((But.refl bl wn).put 0 _) (X := [bl]) (by simp)) (fun y hy => .inr (by rw [List.mem_singleton] at hy; omega))).own (Exc.of ((But.refl br _).put 0 _) (X := [br]) (by simp)) (fun y hy => .inr (by rw [List.mem_singleton] at hy; omega)), d, ⟨by omega, by omega, by omega⟩⟩)
      obtain ⟨fin, hfin⟩ : ∃ fin, ciChain (ciWord salt) 521 0 0 0 tc = fin := ⟨_, rfl⟩
      rw [hfin] at EI HF
      have HCG := Aside0.mk (show bc ≠ g ∧ bs ≠ g from ⟨by have := KI.out.L; omega, by have := KI.out.L; omega⟩)
      clear KI BL BR LL LR c10 f10 c11 f11 hne hne2 hfin
      change Code.wp Try.prog _ _ _ ((wn.setCell ⟨bl, 0, none⟩ (.int .u32 ((0 : Nat) : Int))).setCell ⟨br, 0, none⟩ (.int .u32 ((0 : Nat) : Int)))
      generalize World.setCell (World.setCell wn _ _) _ _ = wb at EI
      go_loopw [13] (fun v13 wz => ∃ (i x y : Nat) (td : List Nat), i ≤ 18 ∧ i % 2 = 0 ∧ v13 = .int .i64 (i : Int) ∧ Aside0 (ExI w wz bc bl bs br g gs salt fin i x y td td)) (fun v13 _ => 18 - (intOf v13).toNat)
      case atStart => exact ⟨0, 0, 0, tc, by omega, rfl, rfl, EI⟩
      case round =>
        clear EI
        obtain ⟨i, x, y, td, hi, hi2, rfl, EI⟩ := hrel
        by_cases hlt : i < 18
        · have p0 : decide ((i : Int) < 18) = true := decide_eq_true (by omega)
          have p1 : (i : Int) < 18 := by omega
          have p2 : (i : Int) + 1 < 18 := by omega
          have hadd : IntKind.i64.wrap ((i : Int) + 1) = (i : Int) + 1 := by rw [IntKind.wrap_i64]; omega
          have hadd2 : IntKind.i64.wrap ((i : Int) + 2) = (i : Int) + 2 := by rw [IntKind.wrap_i64]; omega
          have h0 : 0 ≤ (i : Int) + 1 := by omega
          have htn : ((i : Int) + 1).toNat = i + 1 := by omega
          have HN := Aside0.mk (show i + 1 < 1042 by omega)
          have HN2 := Aside0.mk (show i + 2 ≤ 18 ∧ (i + 2) % 2 = 0 ∧ ((i + 2 : Nat) : Int) = (i : Int) + 2 from ⟨by omega, by omega, by omega⟩)
          clear hlt hi hi2
          go_wp2
          refine start_ (n := 18) (S := (fun W : World => W.cell? ⟨bc, 0, none⟩ = some (.pointer (some ⟨g, 0, none⟩)))) (ds := [17]) #[false, false, false, false, false, false, false, false, false, false, false, false, false, false, false, false, false, false] (by kernel_rfl) rfl rfl ((blk_cell EI.out.E.c 0).trans rfl) (fun hHeld => ?_)
          replace EI := Aside0.mk (EI.out.low (below_drew (Below.refl _ _)))
          generalize World.drew _ = wd_ at EI hHeld ⊢
          refine take_ (i := 0) (N := some 46) (v := ?_) (a' := ?_) #[true, false, false, false, false, false, false, false, false, false, false, false, false, false, false, false, false, false] rfl rfl (by kernel_rfl) (fun _ _ _ h => h) (Or.inl ⟨by rfl, ?_⟩) hHeld ?_ ?_
          rotate_left
          · intro w' hSw
            (try simp only [] at hSw)
            (repeat obtain ⟨hs_, hSw⟩ := hSw)
            go_simp
            try with_reducible rfl
          rotate_left
          · simp only [Act.put, List.setIfInBounds_toArray, List.set_cons_zero, List.set_cons_succ, i64_w, i32_w]
            rfl
          refine pure_ (i := 1) (N := some 47) (v := ?_) (a' := ?_) #[true, true, false, false, false, false, false, false, false, false, false, false, false, false, false, false, false, false] rfl rfl (by kernel_rfl) (fun _ _ _ h => h) (Or.inl ⟨by rfl, ?_⟩) ?_ ?_
          rotate_left
          · intro w'
            go_simp
            try with_reducible rfl
          rotate_left
          · simp only [Act.put, List.setIfInBounds_toArray, List.set_cons_zero, List.set_cons_succ, i64_w, i32_w]
            rfl
          refine take_ (i := 2) (N := some 48) (v := ?_) (a' := ?_) #[true, true, true, false, false, false, false, false, false, false, false, false, false, false, false, false, false, false] rfl rfl (by kernel_rfl) (fun _ _ _ h => h) (Or.inl ⟨by rfl, ?_⟩) hHeld ?_ ?_
          rotate_left
          · intro w' hSw
            (try simp only [] at hSw)
            (repeat obtain ⟨hs_, hSw⟩ := hSw)
            go_simp
            try with_reducible rfl
          rotate_left
          · simp only [Act.put, List.setIfInBounds_toArray, List.set_cons_zero, List.set_cons_succ, i64_w, i32_w]
            rfl
          refine pure_ (i := 3) (N := some 49) (v := ?_) (a' := ?_) #[true, true, true, true, false, false, false, false, false, false, false, false, false, false, false, false, false, false] rfl rfl (by kernel_rfl) (fun _ _ _ h => h) (Or.inl ⟨by rfl, ?_⟩) ?_ ?_
          rotate_left
          · intro w'
            go_simp
            try with_reducible rfl
          rotate_left
          · simp only [Act.put, List.setIfInBounds_toArray, List.set_cons_zero, List.set_cons_succ, i64_w, i32_w]
            rfl
          refine pure_ (i := 4) (N := some 50) (v := ?_) (a' := ?_) #[true, true, true, true, true, false, false, false, false, false, false, false, false, false, false, false, false, false] rfl rfl (by kernel_rfl) (fun _ _ _ h => h) (Or.inl ⟨by rfl, ?_⟩) ?_ ?_
          rotate_left
          · intro w'
            go_simp
            try with_reducible rfl
          rotate_left
          · simp only [Act.put, List.setIfInBounds_toArray, List.set_cons_zero, List.set_cons_succ, i64_w, i32_w]
            rfl
          refine pure_ (i := 5) (N := some 51) (v := ?_) (a' := ?_) #[true, true, true, true, true, true, false, false, false, false, false, false, false, false, false, false, false, false] rfl rfl (by kernel_rfl) (fun _ _ _ h => h) (Or.inl ⟨by rfl, ?_⟩) ?_ ?_
          rotate_left
          · intro w'
            go_simp
            try with_reducible rfl
          rotate_left
          · simp only [Act.put, List.setIfInBounds_toArray, List.set_cons_zero, List.set_cons_succ, i64_w, i32_w]
            rfl
          refine pure_ (i := 10) (N := some 55) (v := ?_) (a' := ?_) #[true, true, true, true, true, true, false, false, false, false, true, false, false, false, false, false, false, false] rfl rfl (by kernel_rfl) (fun _ _ _ h => h) (Or.inl ⟨by rfl, ?_⟩) ?_ ?_
          rotate_left
          · intro w'
            go_simp
            try with_reducible rfl
          rotate_left
          · simp only [Act.put, List.setIfInBounds_toArray, List.set_cons_zero, List.set_cons_succ, i64_w, i32_w]
            rfl
          refine pure_ (i := 11) (N := some 56) (v := ?_) (a' := ?_) #[true, true, true, true, true, true, false, false, false, false, true, true, false, false, false, false, false, false] rfl rfl (by kernel_rfl) (fun _ _ _ h => h) (Or.inl ⟨by rfl, ?_⟩) ?_ ?_
          rotate_left
          · intro w'
            go_simp
            try with_reducible rfl
          rotate_left
          · simp only [Act.put, List.setIfInBounds_toArray, List.set_cons_zero, List.set_cons_succ, i64_w, i32_w]
            rfl
          refine pure_ (i := 14) (N := some 58) (v := ?_) (a' := ?_) #[true, true, true, true, true, true, false, false, false, false, true, true, false, false, true, false, false, false] rfl rfl (by kernel_rfl) (fun _ _ _ h => h) (Or.inl ⟨by rfl, ?_⟩) ?_ ?_
          rotate_left
          · intro w'
            go_simp
            try with_reducible rfl
          rotate_left
          · simp only [Act.put, List.setIfInBounds_toArray, List.set_cons_zero, List.set_cons_succ, i64_w, i32_w]
            rfl
          refine pure_ (i := 15) (N := some 59) (v := ?_) (a' := ?_) #[true, true, true, true, true, true, false, false, false, false, true, true, false, false, true, true, false, false] rfl rfl (by kernel_rfl) (fun _ _ _ h => h) (Or.inl ⟨by rfl, ?_⟩) ?_ ?_
          rotate_left
          · intro w'
            go_simp
            try with_reducible rfl
          rotate_left
          · simp only [Act.put, List.setIfInBounds_toArray, List.set_cons_zero, List.set_cons_succ, i64_w, i32_w]
            rfl
          refine one_ (i := 6) (N := (some 52)) #[true, true, true, true, true, true, true, false, false, false, true, true, false, false, true, true, false, false] rfl rfl (by kernel_rfl) (by decide) (fun K hK => ?_)
          refine ci_goesC 51 Try.func47 (by kernel_rfl) rfl #[.pointer (some ⟨bc, 0, none⟩), .pointer (some ⟨bl, 0, none⟩), .pointer (some ⟨bs, 0, none⟩), .pointer (some ⟨br, 0, none⟩)] (by rfl) rfl rfl rfl ?_
          with_reducible refine (cipher_Cipher_Expand_1.calls salt HS.out bc bl bs br g gs x y (i) td _ EI.out.E EI.out.D EI.out.S EI.out.O EI.out.X EI.out.Y).mono ?_
          rintro e w' ⟨rfl, hE, hSS, hb⟩
          have J := Aside0.mk (EI.out.mid (show i < 1042 by have := HN.out; omega) hE hSS hb)
          clear hb  hE hSS EI
          refine ⟨_, rfl, ?_⟩
          refine hK.out _ _ ((blk_cell J.out.E.c 0).trans rfl) (fun hHeld => ?_)
          clear hK K
          refine norm_ (a' := ?_) ?_ ?_
          rotate_left
          · show Act.put _ (some 52) _ = _
            simp only [Act.put, List.setIfInBounds_toArray, List.set_cons_zero, List.set_cons_succ, i64_w, i32_w]
            rfl
          refine pure_ (i := 7) (N := some 45) (v := ?_) (a' := ?_) #[true, true, true, true, true, true, true, true, false, false, true, true, false, false, true, true, false, false] rfl rfl (by kernel_rfl) (fun _ _ _ h => h) (Or.inl ⟨by rfl, ?_⟩) ?_ ?_
          rotate_left
          · intro w'
            go_simp
            try with_reducible rfl
          rotate_left
          · simp only [Act.put, List.setIfInBounds_toArray, List.set_cons_zero, List.set_cons_succ, i64_w, i32_w]
            rfl
          refine pure_ (i := 8) (N := some 53) (v := ?_) (a' := ?_) #[true, true, true, true, true, true, true, true, true, false, true, true, false, false, true, true, false, false] rfl rfl (by kernel_rfl) (fun _ _ _ h => h) (Or.inl ⟨by rfl, ?_⟩) ?_ ?_
          rotate_left
          · intro w'
            go_simp
            try with_reducible rfl
          rotate_left
          · simp only [Act.put, List.setIfInBounds_toArray, List.set_cons_zero, List.set_cons_succ, i64_w, i32_w]
            rfl
          refine pure_ (i := 9) (N := some 54) (v := ?_) (a' := ?_) #[true, true, true, true, true, true, true, true, true, true, true, true, false, false, true, true, false, false] rfl rfl (by kernel_rfl) (fun _ _ _ h => h) (Or.inl ⟨by rfl, ?_⟩) ?_ ?_
          rotate_left
          · intro w'
            go_simp
            try with_reducible rfl
          rotate_left
          · simp only [Act.put, List.setIfInBounds_toArray, List.set_cons_zero, List.set_cons_succ, i64_w, i32_w]
            rfl
          refine pure_ (i := 12) (N := some 57) (v := ?_) (a' := ?_) #[true, true, true, true, true, true, true, true, true, true, true, true, true, false, true, true, false, false] rfl rfl (by kernel_rfl) (fun _ _ _ h => h) (Or.inl ⟨by rfl, ?_⟩) ?_ ?_
          rotate_left
          · intro w'
            go_simp
            try with_reducible rfl
          rotate_left
          · simp only [Act.put, List.setIfInBounds_toArray, List.set_cons_zero, List.set_cons_succ, i64_w, i32_w]
            rfl
          refine one_ (i := 13) (N := none) #[true, true, true, true, true, true, true, true, true, true, true, true, true, true, true, true, false, false] rfl rfl (by kernel_rfl) (by decide) (fun K hK => ?_)
          refine skip_ (by rfl) rfl (ci_store (A := 57) (B := 53) rfl rfl rfl (J.out.E.t.cellL J.out.N _ (by have := HN.out; omega)) (J.out.E.t.frozen _)) ?_
          refine hK.out _ _ ((blk_cell ((Below.heap_setCell _ ⟨g, _, none⟩ _ bc HCG.out.1).trans J.out.E.c) 0).trans rfl) (fun hHeld => ?_)
          clear hK K
          refine pure_ (i := 16) (N := some 60) (v := ?_) (a' := ?_) #[true, true, true, true, true, true, true, true, true, true, true, true, true, true, true, true, true, false] rfl rfl (by kernel_rfl) (fun _ _ _ h => h) (Or.inl ⟨by rfl, ?_⟩) ?_ ?_
          rotate_left
          · intro w'
            go_simp
            try with_reducible rfl
          rotate_left
          · simp only [Act.put, List.setIfInBounds_toArray, List.set_cons_zero, List.set_cons_succ, i64_w, i32_w]
            rfl
          refine last_ (i := 17) (N := none) #[true, true, true, true, true, true, true, true, true, true, true, true, true, true, true, true, true, true] rfl rfl (by kernel_rfl) (by decide) (fun K hK => ?_)
          refine skip_ (by rfl) rfl (ci_store (A := 60) (B := 54) rfl rfl rfl ((J.out.E.t.put (i) _).cellL (by rw [List.length_set]; exact J.out.N) _ (by have := HN.out; omega)) ((J.out.E.t.put (i) _).frozen _)) ?_
          refine hK.out _ _ ?_
          clear hK K
          refine done_ (by kernel_rfl) ?_
          have n0_ := Aside0.mk (J.out.put HCG.out.1 HCG.out.2)
          clear J
          generalize World.setCell (World.setCell _ _ _) _ _ = w9 at n0_ ⊢
          go_wp2
          exact ⟨⟨i + 2, _, _, _, HN2.out.1, HN2.out.2.1, by rw [HN2.out.2.2], n0_⟩, by simp [intOf]; omega⟩
        · have p0 : decide ((i : Int) < 18) = false := decide_eq_false (by omega)
          obtain rfl : i = 18 := by omega
          clear hlt hi hi2
          go_wp2
          go_loopw [61] (fun v61 wz => ∃ (k x y : Nat) (td : List Nat), k ≤ 4 ∧ v61 = .int .i64 (k : Int) ∧ Aside0 (ExI w wz bc bl bs br g gs salt fin (18 + k * 256) x y td td)) (fun v61 _ => 4 - (intOf v61).toNat)
          case atStart => exact ⟨0, x, y, td, by omega, rfl, EI⟩
          case round =>
            clear EI
            obtain ⟨k, x, y, td, hk, rfl, EI⟩ := hrel
            by_cases hlt : k < 4
            case neg =>
              obtain rfl : k = 4 := by omega
              obtain ⟨m, hm, hF⟩ := EI.out.F
              obtain rfl : m = 0 := by omega
              obtain rfl : td = fin := hF
              have cb := (blk_cell EI.out.E.c 0).trans rfl
              clear hm hk hlt
              go_wp2
              go_ret
              refine ⟨rfl, ?_, ⟨EI.out.B.os, EI.out.B.tape, EI.out.B.output, EI.out.B.size, fun z hz hg => EI.out.B.block z hz (by simp; exact hg)⟩⟩
              rw [HF.out]
              exact EI.out.E.t
            have q1 : (k : Int) < 4 := by omega
            have KL := Aside0.mk hlt
            clear hlt hk
            go_wp2
            go_loopw [15] (fun v15 wz => ∃ (i x y : Nat) (td : List Nat), i ≤ 256 ∧ i % 2 = 0 ∧ v15 = .int .i64 (i : Int) ∧ Aside0 (ExI w wz bc bl bs br g gs salt fin (18 + k * 256 + i) x y td td)) (fun v15 _ => 256 - (intOf v15).toNat)
            case atStart => exact ⟨0, x, y, td, by omega, rfl, rfl, EI⟩
            case round =>
              clear EI
              obtain ⟨i, x, y, td, hi, hi2, rfl, EI⟩ := hrel
              by_cases hlt : i < 256
              case neg =>
                obtain rfl : i = 256 := by omega
                clear hlt hi hi2
                go_wp2
                refine ⟨⟨k + 1, x, y, td, by have := KL.out; omega, by go_num, ⟨?_⟩⟩, by simp [intOf]; have := KL.out; omega⟩
                rw [show 18 + (k + 1) * 256 = 18 + k * 256 + 256 by omega]
                exact EI.out
              have p0 : decide ((i : Int) < 256) = true := decide_eq_true (by omega)
              have p1 : (i : Int) < 256 := by omega
              have p2 : (i : Int) + 1 < 256 := by omega
              have hadd : IntKind.i64.wrap ((i : Int) + 1) = (i : Int) + 1 := by rw [IntKind.wrap_i64]; omega
              have hadd2 : IntKind.i64.wrap ((i : Int) + 2) = (i : Int) + 2 := by rw [IntKind.wrap_i64]; omega
              have h0 : 0 ≤ (i : Int) + 1 := by omega
              have htn : ((i : Int) + 1).toNat = i + 1 := by omega
              have HN := Aside0.mk (show 18 + k * 256 + i + 1 < 1042 by have := KL.out; omega)
              have HN2 := Aside0.mk (show i + 2 ≤ 256 ∧ (i + 2) % 2 = 0 ∧ ((i + 2 : Nat) : Int) = (i : Int) + 2 from ⟨by omega, by omega, by omega⟩)
              clear hlt hi hi2
              go_wp2
              refine start_ (n := 22) (S := (fun W : World => W.cell? ⟨bc, 0, none⟩ = some (.pointer (some ⟨g, 0, none⟩)))) (ds := [21]) #[false, false, false, false, false, false, false, false, false, false, false, false, false, false, false, false, false, false, false, false, false, false] (by kernel_rfl) rfl rfl ((blk_cell EI.out.E.c 0).trans rfl) (fun hHeld => ?_)
              replace EI := Aside0.mk (EI.out.low (below_drew (Below.refl _ _)))
              generalize World.drew _ = wd_ at EI hHeld ⊢
              refine take_ (i := 0) (N := some 69) (v := ?_) (a' := ?_) #[true, false, false, false, false, false, false, false, false, false, false, false, false, false, false, false, false, false, false, false, false, false] rfl rfl (by kernel_rfl) (fun _ _ _ h => h) (Or.inl ⟨by rfl, ?_⟩) hHeld ?_ ?_
              rotate_left
              · intro w' hSw
                (try simp only [] at hSw)
                (repeat obtain ⟨hs_, hSw⟩ := hSw)
                go_simp
                try with_reducible rfl
              rotate_left
              · simp only [Act.put, List.setIfInBounds_toArray, List.set_cons_zero, List.set_cons_succ, i64_w, i32_w]
                rfl
              refine pure_ (i := 1) (N := some 70) (v := ?_) (a' := ?_) #[true, true, false, false, false, false, false, false, false, false, false, false, false, false, false, false, false, false, false, false, false, false] rfl rfl (by kernel_rfl) (fun _ _ _ h => h) (Or.inl ⟨by rfl, ?_⟩) ?_ ?_
              rotate_left
              · intro w'
                go_simp
                try with_reducible rfl
              rotate_left
              · simp only [Act.put, List.setIfInBounds_toArray, List.set_cons_zero, List.set_cons_succ, i64_w, i32_w]
                rfl
              refine pure_ (i := 2) (N := some 71) (v := ?_) (a' := ?_) #[true, true, true, false, false, false, false, false, false, false, false, false, false, false, false, false, false, false, false, false, false, false] rfl rfl (by kernel_rfl) (fun _ _ _ h => h) (Or.inl ⟨by rfl, ?_⟩) ?_ ?_
              rotate_left
              · intro w'
                go_simp
                try with_reducible rfl
              rotate_left
              · simp only [Act.put, List.setIfInBounds_toArray, List.set_cons_zero, List.set_cons_succ, i64_w, i32_w]
                rfl
              refine take_ (i := 3) (N := some 72) (v := ?_) (a' := ?_) #[true, true, true, true, false, false, false, false, false, false, false, false, false, false, false, false, false, false, false, false, false, false] rfl rfl (by kernel_rfl) (fun _ _ _ h => h) (Or.inl ⟨by rfl, ?_⟩) hHeld ?_ ?_
              rotate_left
              · intro w' hSw
                (try simp only [] at hSw)
                (repeat obtain ⟨hs_, hSw⟩ := hSw)
                go_simp
                try with_reducible rfl
              rotate_left
              · simp only [Act.put, List.setIfInBounds_toArray, List.set_cons_zero, List.set_cons_succ, i64_w, i32_w]
                rfl
              refine pure_ (i := 4) (N := some 73) (v := ?_) (a' := ?_) #[true, true, true, true, true, false, false, false, false, false, false, false, false, false, false, false, false, false, false, false, false, false] rfl rfl (by kernel_rfl) (fun _ _ _ h => h) (Or.inl ⟨by rfl, ?_⟩) ?_ ?_
              rotate_left
              · intro w'
                go_simp
                try with_reducible rfl
              rotate_left
              · simp only [Act.put, List.setIfInBounds_toArray, List.set_cons_zero, List.set_cons_succ, i64_w, i32_w]
                rfl
              refine pure_ (i := 5) (N := some 74) (v := ?_) (a' := ?_) #[true, true, true, true, true, true, false, false, false, false, false, false, false, false, false, false, false, false, false, false, false, false] rfl rfl (by kernel_rfl) (fun _ _ _ h => h) (Or.inl ⟨by rfl, ?_⟩) ?_ ?_
              rotate_left
              · intro w'
                go_simp
                try with_reducible rfl
              rotate_left
              · simp only [Act.put, List.setIfInBounds_toArray, List.set_cons_zero, List.set_cons_succ, i64_w, i32_w]
                rfl
              refine pure_ (i := 6) (N := some 75) (v := ?_) (a' := ?_) #[true, true, true, true, true, true, true, false, false, false, false, false, false, false, false, false, false, false, false, false, false, false] rfl rfl (by kernel_rfl) (fun _ _ _ h => h) (Or.inl ⟨by rfl, ?_⟩) ?_ ?_
              rotate_left
              · intro w'
                go_simp
                try with_reducible rfl
              rotate_left
              · simp only [Act.put, List.setIfInBounds_toArray, List.set_cons_zero, List.set_cons_succ, i64_w, i32_w]
                rfl
              refine pure_ (i := 7) (N := some 76) (v := ?_) (a' := ?_) #[true, true, true, true, true, true, true, true, false, false, false, false, false, false, false, false, false, false, false, false, false, false] rfl rfl (by kernel_rfl) (fun _ _ _ h => h) (Or.inl ⟨by rfl, ?_⟩) ?_ ?_
              rotate_left
              · intro w'
                go_simp
                try with_reducible rfl
              rotate_left
              · simp only [Act.put, List.setIfInBounds_toArray, List.set_cons_zero, List.set_cons_succ, i64_w, i32_w]
                rfl
              refine pure_ (i := 12) (N := some 80) (v := ?_) (a' := ?_) #[true, true, true, true, true, true, true, true, false, false, false, false, true, false, false, false, false, false, false, false, false, false] rfl rfl (by kernel_rfl) (fun _ _ _ h => h) (Or.inl ⟨by rfl, ?_⟩) ?_ ?_
              rotate_left
              · intro w'
                go_simp
                try with_reducible rfl
              rotate_left
              · simp only [Act.put, List.setIfInBounds_toArray, List.set_cons_zero, List.set_cons_succ, i64_w, i32_w]
                rfl
              refine pure_ (i := 13) (N := some 81) (v := ?_) (a' := ?_) #[true, true, true, true, true, true, true, true, false, false, false, false, true, true, false, false, false, false, false, false, false, false] rfl rfl (by kernel_rfl) (fun _ _ _ h => h) (Or.inl ⟨by rfl, ?_⟩) ?_ ?_
              rotate_left
              · intro w'
                go_simp
                try with_reducible rfl
              rotate_left
              · simp only [Act.put, List.setIfInBounds_toArray, List.set_cons_zero, List.set_cons_succ, i64_w, i32_w]
                rfl
              refine pure_ (i := 14) (N := some 82) (v := ?_) (a' := ?_) #[true, true, true, true, true, true, true, true, false, false, false, false, true, true, true, false, false, false, false, false, false, false] rfl rfl (by kernel_rfl) (fun _ _ _ h => h) (Or.inl ⟨by rfl, ?_⟩) ?_ ?_
              rotate_left
              · intro w'
                go_simp
                try with_reducible rfl
              rotate_left
              · simp only [Act.put, List.setIfInBounds_toArray, List.set_cons_zero, List.set_cons_succ, i64_w, i32_w]
                rfl
              refine pure_ (i := 17) (N := some 84) (v := ?_) (a' := ?_) #[true, true, true, true, true, true, true, true, false, false, false, false, true, true, true, false, false, true, false, false, false, false] rfl rfl (by kernel_rfl) (fun _ _ _ h => h) (Or.inl ⟨by rfl, ?_⟩) ?_ ?_
              rotate_left
              · intro w'
                go_simp
                try with_reducible rfl
              rotate_left
              · simp only [Act.put, List.setIfInBounds_toArray, List.set_cons_zero, List.set_cons_succ, i64_w, i32_w]
                rfl
              refine pure_ (i := 18) (N := some 85) (v := ?_) (a' := ?_) #[true, true, true, true, true, true, true, true, false, false, false, false, true, true, true, false, false, true, true, false, false, false] rfl rfl (by kernel_rfl) (fun _ _ _ h => h) (Or.inl ⟨by rfl, ?_⟩) ?_ ?_
              rotate_left
              · intro w'
                go_simp
                try with_reducible rfl
              rotate_left
              · simp only [Act.put, List.setIfInBounds_toArray, List.set_cons_zero, List.set_cons_succ, i64_w, i32_w]
                rfl
              refine pure_ (i := 19) (N := some 86) (v := ?_) (a' := ?_) #[true, true, true, true, true, true, true, true, false, false, false, false, true, true, true, false, false, true, true, true, false, false] rfl rfl (by kernel_rfl) (fun _ _ _ h => h) (Or.inl ⟨by rfl, ?_⟩) ?_ ?_
              rotate_left
              · intro w'
                go_simp
                try with_reducible rfl
              rotate_left
              · simp only [Act.put, List.setIfInBounds_toArray, List.set_cons_zero, List.set_cons_succ, i64_w, i32_w]
                rfl
              refine one_ (i := 8) (N := (some 77)) #[true, true, true, true, true, true, true, true, true, false, false, false, true, true, true, false, false, true, true, true, false, false] rfl rfl (by kernel_rfl) (by decide) (fun K hK => ?_)
              refine ci_goesC 76 Try.func47 (by kernel_rfl) rfl #[.pointer (some ⟨bc, 0, none⟩), .pointer (some ⟨bl, 0, none⟩), .pointer (some ⟨bs, 0, none⟩), .pointer (some ⟨br, 0, none⟩)] (by rfl) rfl rfl rfl ?_
              with_reducible refine (cipher_Cipher_Expand_1.calls salt HS.out bc bl bs br g gs x y (18 + k * 256 + i) td _ EI.out.E EI.out.D EI.out.S EI.out.O EI.out.X EI.out.Y).mono ?_
              rintro e w' ⟨rfl, hE, hSS, hb⟩
              have J := Aside0.mk (EI.out.mid (show 18 + k * 256 + i < 1042 by have := HN.out; omega) hE hSS hb)
              clear hb  hE hSS EI
              refine ⟨_, rfl, ?_⟩
              refine hK.out _ _ ((blk_cell J.out.E.c 0).trans rfl) (fun hHeld => ?_)
              clear hK K
              refine norm_ (a' := ?_) ?_ ?_
              rotate_left
              · show Act.put _ (some 77) _ = _
                simp only [Act.put, List.setIfInBounds_toArray, List.set_cons_zero, List.set_cons_succ, i64_w, i32_w]
                rfl
              refine pure_ (i := 9) (N := some 68) (v := ?_) (a' := ?_) #[true, true, true, true, true, true, true, true, true, true, false, false, true, true, true, false, false, true, true, true, false, false] rfl rfl (by kernel_rfl) (fun _ _ _ h => h) (Or.inl ⟨by rfl, ?_⟩) ?_ ?_
              rotate_left
              · intro w'
                go_simp
                try with_reducible rfl
              rotate_left
              · simp only [Act.put, List.setIfInBounds_toArray, List.set_cons_zero, List.set_cons_succ, i64_w, i32_w]
                rfl
              refine pure_ (i := 10) (N := some 78) (v := ?_) (a' := ?_) #[true, true, true, true, true, true, true, true, true, true, true, false, true, true, true, false, false, true, true, true, false, false] rfl rfl (by kernel_rfl) (fun _ _ _ h => h) (Or.inl ⟨by rfl, ?_⟩) ?_ ?_
              rotate_left
              · intro w'
                go_simp
                try with_reducible rfl
              rotate_left
              · simp only [Act.put, List.setIfInBounds_toArray, List.set_cons_zero, List.set_cons_succ, i64_w, i32_w]
                rfl
              refine pure_ (i := 11) (N := some 79) (v := ?_) (a' := ?_) #[true, true, true, true, true, true, true, true, true, true, true, true, true, true, true, false, false, true, true, true, false, false] rfl rfl (by kernel_rfl) (fun _ _ _ h => h) (Or.inl ⟨by rfl, ?_⟩) ?_ ?_
              rotate_left
              · intro w'
                go_simp
                try with_reducible rfl
              rotate_left
              · simp only [Act.put, List.setIfInBounds_toArray, List.set_cons_zero, List.set_cons_succ, i64_w, i32_w]
                rfl
              refine pure_ (i := 15) (N := some 83) (v := ?_) (a' := ?_) #[true, true, true, true, true, true, true, true, true, true, true, true, true, true, true, true, false, true, true, true, false, false] rfl rfl (by kernel_rfl) (fun _ _ _ h => h) (Or.inl ⟨by rfl, ?_⟩) ?_ ?_
              rotate_left
              · intro w'
                go_simp
                try with_reducible rfl
              rotate_left
              · simp only [Act.put, List.setIfInBounds_toArray, List.set_cons_zero, List.set_cons_succ, i64_w, i32_w]
                rfl
              refine one_ (i := 16) (N := none) #[true, true, true, true, true, true, true, true, true, true, true, true, true, true, true, true, true, true, true, true, false, false] rfl rfl (by kernel_rfl) (by decide) (fun K hK => ?_)
              refine skip_ (by rfl) rfl (ci_store (A := 83) (B := 78) rfl rfl rfl (J.out.E.t.cellL J.out.N _ (by have := HN.out; omega)) (J.out.E.t.frozen _)) ?_
              refine hK.out _ _ ((blk_cell ((Below.heap_setCell _ ⟨g, _, none⟩ _ bc HCG.out.1).trans J.out.E.c) 0).trans rfl) (fun hHeld => ?_)
              clear hK K
              refine pure_ (i := 20) (N := some 87) (v := ?_) (a' := ?_) #[true, true, true, true, true, true, true, true, true, true, true, true, true, true, true, true, true, true, true, true, true, false] rfl rfl (by kernel_rfl) (fun _ _ _ h => h) (Or.inl ⟨by rfl, ?_⟩) ?_ ?_
              rotate_left
              · intro w'
                go_simp
                try with_reducible rfl
              rotate_left
              · simp only [Act.put, List.setIfInBounds_toArray, List.set_cons_zero, List.set_cons_succ, i64_w, i32_w]
                rfl
              refine last_ (i := 21) (N := none) #[true, true, true, true, true, true, true, true, true, true, true, true, true, true, true, true, true, true, true, true, true, true] rfl rfl (by kernel_rfl) (by decide) (fun K hK => ?_)
              refine skip_ (by rfl) rfl (ci_store (A := 87) (B := 79) rfl rfl rfl ((J.out.E.t.put (18 + k * 256 + i) _).cellL (by rw [List.length_set]; exact J.out.N) _ (by have := HN.out; omega)) ((J.out.E.t.put (18 + k * 256 + i) _).frozen _)) ?_
              refine hK.out _ _ ?_
              clear hK K
              refine done_ (by kernel_rfl) ?_
              (try rw [show 18 + k * 256 + (i + 1) = 18 + k * 256 + i + 1 from rfl])
              have n0_ := Aside0.mk (J.out.put HCG.out.1 HCG.out.2)
              clear J
              generalize World.setCell (World.setCell _ _ _) _ _ = w9 at n0_ ⊢
              go_wp2
              exact ⟨⟨i + 2, _, _, _, HN2.out.1, HN2.out.2.1, by rw [HN2.out.2.2], n0_⟩, by simp [intOf]; omega⟩

/-! ### size_Within: function 53 -/
def size_Within.f (a0 : Int) (a1 : Int) (a2 : Int) : Option (Bool) := if a0 ≥ a1 then (some (decide (a0 ≤ a2))) else (some false)
set_option maxHeartbeats 8000000 in
set_option maxRecDepth 100000 in
theorem size_Within.calls (a0 : Int) (a1 : Int) (a2 : Int) (r : Bool) (w : World) (h : size_Within.f a0 a1 a2 = some r) :
  Calls Try.prog 53 #[.int .i64 a0, .int .i64 a1, .int .i64 a2] w fun e w' => e = .returned (.bool r) ∧ Drawn0 w w' := by
 have H : (if a0 ≥ a1 then (some (decide (a0 ≤ a2))) else (some false)) = some r := h
 clear h
 by_cases c4 : a0 ≥ a1
 ·rw [if_pos c4] at H
  have c4b0 : decide (a1 ≤ a0) = true := decide_eq_true c4
  clear c4
  obtain rfl := Option.some.inj H
  go_enter Try.func53, Try.ntmps53
  go_wp2
  go_ret
  exact ⟨by first | rfl | (simp; done) | (simp [*]; done) | (simp [show ∀ l_ : List UInt8, (l_ != []) = !l_.isEmpty from fun l_ => by cases l_ <;> rfl]; done), by repeat (first | exact Drawn0.refl _ | apply Drawn0.step)⟩
 ·rw [if_neg c4] at H
  have c4b0 : decide (a1 ≤ a0) = false := decide_eq_false c4
  clear c4
  obtain rfl := Option.some.inj H
  go_enter Try.func53, Try.ntmps53
  go_wp2
  go_ret
  exact ⟨by first | rfl | (simp; done) | (simp [*]; done) | (simp [show ∀ l_ : List UInt8, (l_ != []) = !l_.isEmpty from fun l_ => by cases l_ <;> rfl]; done), by repeat (first | exact Drawn0.refl _ | apply Drawn0.step)⟩

/-! ### size_Power: function 54 -/
def size_Power.f (a0 : Int) : Option (Int × Int) := if a0 < 0 then (some (0, 1)) else (if a0 > 62 then (some (0, 10)) else (if 0 ≤ a0 then (some (shl .i64 1 a0, 0)) else (none)))
set_option maxHeartbeats 8000000 in
set_option maxRecDepth 100000 in
theorem size_Power.calls (a0 : Int) (r1 : Int) (r2 : Int) (w : World) (h : size_Power.f a0 = some (r1, r2)) :
  Calls Try.prog 54 #[.int .i64 a0] w fun e w' => e = .returned (.tuple #[.int .i64 r1, .int .i64 r2]) ∧ Drawn0 w w' := by
 have H : (if a0 < 0 then (some (0, 1)) else (if a0 > 62 then (some (0, 10)) else (if 0 ≤ a0 then (some (shl .i64 1 a0, 0)) else (none)))) = some (r1, r2) := h
 clear h
 by_cases c2 : a0 < 0
 ·rw [if_pos c2] at H
  have c2b0 : decide (a0 < 0) = true := decide_eq_true c2
  clear c2
  simp only [Option.some.injEq, Prod.mk.injEq] at H
  obtain ⟨rfl, rfl⟩ := H
  go_enter Try.func54, Try.ntmps54
  go_wp2
  go_ret2
  exact ⟨by first | rfl | (simp; done) | (simp [*]; done) | (simp [show ∀ l_ : List UInt8, (l_ != []) = !l_.isEmpty from fun l_ => by cases l_ <;> rfl]; done), by repeat (first | exact Drawn0.refl _ | apply Drawn0.step)⟩
 ·rw [if_neg c2] at H
  have c2b0 : decide (a0 < 0) = false := decide_eq_false c2
  clear c2
  by_cases c3 : a0 > 62
  ·rw [if_pos c3] at H
   have c3b0 : decide (62 < a0) = true := decide_eq_true c3
   clear c3
   simp only [Option.some.injEq, Prod.mk.injEq] at H
   obtain ⟨rfl, rfl⟩ := H
   go_enter Try.func54, Try.ntmps54
   go_wp2
   go_ret2
   exact ⟨by first | rfl | (simp; done) | (simp [*]; done) | (simp [show ∀ l_ : List UInt8, (l_ != []) = !l_.isEmpty from fun l_ => by cases l_ <;> rfl]; done), by repeat (first | exact Drawn0.refl _ | apply Drawn0.step)⟩
  ·rw [if_neg c3] at H
   have c3b0 : decide (62 < a0) = false := decide_eq_false c3
   clear c3
   by_cases c4 : 0 ≤ a0
   ·rw [if_pos c4] at H
    have c4b0 := eq_true c4
    have c4b1 : decide (0 ≤ a0) = true := decide_eq_true c4
    clear c4
    obtain ⟨ji5, hji5⟩ : ∃ j_ : Int, (shl .i64 1 a0) = j_ := ⟨_, rfl⟩
    replace H : (some (ji5, 0)) = some (r1, r2) := by first | (rw [hji5] at H; exact H) | (simp only [hji5] at H ⊢; exact H)
    have hji5_ : (IntKind.i64.wrap (1 * 2 ^ min a0.toNat 64)) = ji5 := hji5
    have hji5z : a0 ≤ 64 → (IntKind.i64.wrap (1 * 2 ^ a0.toNat)) = ji5 := shl_small hji5
    have hji5u : (IntKind.i64.wrap (2 ^ min a0.toNat 64)) = ji5 := by have h_ := hji5_; rw [Int.one_mul] at h_; exact h_
    have hji5v : a0 ≤ 64 → (IntKind.i64.wrap (2 ^ a0.toNat)) = ji5 := fun hle_ => by have h_ := hji5z hle_; rw [Int.one_mul] at h_; exact h_
    have hji5y : (wrap64 (1 * 2 ^ min a0.toNat 64)) = ji5 := (i64_w _).symm.trans hji5_
    have hji5x : a0 ≤ 64 → (wrap64 (1 * 2 ^ a0.toNat)) = ji5 := fun h_ => (i64_w _).symm.trans (hji5z h_)
    simp only [Option.some.injEq, Prod.mk.injEq] at H
    obtain ⟨rfl, rfl⟩ := H
    go_enter Try.func54, Try.ntmps54
    go_wp2
    go_ret2
    exact ⟨by first | rfl | (simp; done) | (simp only [← hji5] <;> (first | rfl | simp)) | (simp [*]; done), by repeat (first | exact Drawn0.refl _ | apply Drawn0.step)⟩
   ·rw [if_neg c4] at H
    exact absurd H (by simp)

/-! ### eks_Rounds: function 32 -/
def eks_Rounds.f (a0 : Int) : Option (Int × Int) := (size_Within.f a0 4 31).bind fun t112 => (if t112 = true then ((size_Power.f a0).bind fun bt113 => (some (bt113.1, bt113.2))) else (some (0, 2)))
set_option maxHeartbeats 8000000 in
set_option maxRecDepth 100000 in
theorem eks_Rounds.calls (a0 : Int) (r1 : Int) (r2 : Int) (w : World) (h : eks_Rounds.f a0 = some (r1, r2)) :
  Calls Try.prog 32 #[.int .i64 a0] w fun e w' => e = .returned (.tuple #[.int .i64 r1, .int .i64 r2]) ∧ Drawn0 w w' := by
 have H : ((size_Within.f a0 4 31).bind fun t112 => (if t112 = true then ((size_Power.f a0).bind fun bt113 => (some (bt113.1, bt113.2))) else (some (0, 2)))) = some (r1, r2) := h
 clear h
 replace H := Option.bind_eq_some_iff.mp H
 obtain ⟨t112, A20, H⟩ := H
 replace H : (if t112 = true then ((size_Power.f a0).bind fun bt113 => (some (bt113.1, bt113.2))) else (some (0, 2))) = some (r1, r2) := H
 have A2 := Aside0.mk A20
 clear A20
 by_cases c3 : t112 = true
 ·subst c3
  have H1 : ((size_Power.f a0).bind fun bt113 => (some (bt113.1, bt113.2))) = some (r1, r2) := by rw [if_pos rfl] at H; exact H
  clear H
  have H := H1
  clear H1
  replace H := Option.bind_eq_some_iff.mp H
  obtain ⟨⟨t113, t114⟩, A40, H⟩ := H
  replace H : (some (t113, t114)) = some (r1, r2) := H
  have A4 := Aside0.mk A40
  clear A40
  simp only [Option.some.injEq, Prod.mk.injEq] at H
  obtain ⟨rfl, rfl⟩ := H
  go_enter Try.func32, Try.ntmps32
  go_wp2_with (first | ((with_reducible refine gate_callee (f := 53) rfl ?_); refine goesL_ (some 5) rfl rfl Try.func53 (by kernel_rfl) rfl #[.int .i64 a0, .int .i64 4, .int .i64 31] rfl (by (try simp only [List.map_toArray, List.map_cons, List.map_nil]); first | done | rfl | (simp only [List.length_drop, List.length_take]; rfl)) ?_; (with_reducible refine (size_Within.calls a0 4 31 true _ A2.out).mono ?_); rintro e w' ⟨rfl, ⟨nd, rfl⟩⟩; refine ⟨_, rfl, ?_⟩) | ((with_reducible refine gate_callee (f := 54) rfl ?_); refine goesL_ (some 8) rfl rfl Try.func54 (by kernel_rfl) rfl #[.int .i64 a0] rfl (by (try simp only [List.map_toArray, List.map_cons, List.map_nil]); first | done | rfl | (simp only [List.length_drop, List.length_take]; rfl)) ?_; (with_reducible refine (size_Power.calls a0 t113 t114 _ A4.out).mono ?_); rintro e w' ⟨rfl, ⟨nd, rfl⟩⟩; refine ⟨_, rfl, ?_⟩))
  go_ret2
  exact ⟨by first | rfl | (simp; done) | (simp [*]; done) | (simp [show ∀ l_ : List UInt8, (l_ != []) = !l_.isEmpty from fun l_ => by cases l_ <;> rfl]; done), by repeat (first | exact Drawn0.refl _ | apply Drawn0.step)⟩
 ·replace c3 := Bool.eq_false_iff.mpr c3
  subst c3
  have H1 : (some (0, 2)) = some (r1, r2) := by rw [if_neg (show ¬ (false = true) by decide)] at H; exact H
  clear H
  have H := H1
  clear H1
  simp only [Option.some.injEq, Prod.mk.injEq] at H
  obtain ⟨rfl, rfl⟩ := H
  go_enter Try.func32, Try.ntmps32
  go_wp2_with (first | ((with_reducible refine gate_callee (f := 53) rfl ?_); refine goesL_ (some 5) rfl rfl Try.func53 (by kernel_rfl) rfl #[.int .i64 a0, .int .i64 4, .int .i64 31] rfl (by (try simp only [List.map_toArray, List.map_cons, List.map_nil]); first | done | rfl | (simp only [List.length_drop, List.length_take]; rfl)) ?_; (with_reducible refine (size_Within.calls a0 4 31 false _ A2.out).mono ?_); rintro e w' ⟨rfl, ⟨nd, rfl⟩⟩; refine ⟨_, rfl, ?_⟩))
  go_ret2
  exact ⟨by first | rfl | (simp; done) | (simp [*]; done) | (simp [show ∀ l_ : List UInt8, (l_ != []) = !l_.isEmpty from fun l_ => by cases l_ <;> rfl]; done), by repeat (first | exact Drawn0.refl _ | apply Drawn0.step)⟩

end Go.Proofs.Ytimgndceiibaeaa.Pall
