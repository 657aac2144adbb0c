-- PRINTED by print.py (a twelfth state) out of the translation. Not trusted: Lean checks it.
import Derived.Test.YtimgndceiibaeaaPallx0
import Derived.Test.YtimgndceiibaeaaPallx1
import Derived.Test.YtimgndceiibaeaaPallx2
import Derived.Test.YtimgndceiibaeaaPallx3
import Derived.Test.YtimgndceiibaeaaPallx8
namespace Go.Proofs.Ytimgndceiibaeaa.Pall
open Go.RowKit Go.Proofs.YtimgndceiibaeaaW.PrintWords Go.Proofs.YtimgndceiibaeaaW.PrintLast Go.Proofs.YtimgndceiibaeaaW.PrintMore
attribute [local go_sem] max2_int min2_int max_two min_two max_three min_three max_four min_four   -- for this text's walks alone
set_option linter.unusedVariables false
set_option linter.unusedSimpArgs false

/-! ### eks_Setup: function 33 -/
/-- so many rounds: the key, and the salt -/
def ciSet (salt key : ByteArray) : Nat → List Nat → List Nat
  | 0, t => t
  | n + 1, t => ciSet salt key n (ciExpand (ciExpand t (ciWord (⟨#[]⟩ : ByteArray)) (ciWord key)) (ciWord (⟨#[]⟩ : ByteArray)) (ciWord salt))
theorem ciSet_succ (salt key : ByteArray) (n : Nat) (t : List Nat) : ciSet salt key (n + 1) t = ciSet salt key n (ciExpand (ciExpand t (ciWord (⟨#[]⟩ : ByteArray)) (ciWord key)) (ciWord (⟨#[]⟩ : ByteArray)) (ciWord salt)) := by
  delta ciSet
  rfl
theorem ciSet_ok (salt key : ByteArray) : ∀ n t, ciOk t → ciOk (ciSet salt key n t)
  | 0, _, h => h
  | n + 1, t, h => by
    rw [ciSet_succ]
    exact ciSet_ok salt key n _ (ciExpand_ok (ciExpand_ok h (ciWord_lt _) (ciWord_lt _)) (ciWord_lt _) (ciWord_lt _))
set_option maxHeartbeats 8000000 in
set_option maxRecDepth 100000 in
theorem eks_Setup.cost (cost m e0 : Int) (salt key : ByteArray) (w : World) (hr : eks_Rounds.f cost = some (m, e0)) (h0 : e0 ≠ 0) :
    Calls Try.prog 33 #[.int .i64 cost, .string salt, .string key] w fun e w' => e = .returned (.tuple #[.pointer none, .int .i64 e0]) ∧ Below w.heap.size w w' := by
  have HR := Aside0.mk hr
  have HB := Aside0.mk (Below.refl w.heap.size w)
  have e1 : (e0 == 0) = false := beq_eq_false_iff_ne.2 h0
  have e2 : (e0 != 0) = true := bne_iff_ne.2 h0
  clear hr h0
  go_enter Try.func33, Try.ntmps33
  go_wp2_with (go_at_call 32; with_reducible refine (eks_Rounds.calls cost m e0 _ HR.out).mono ?_; rintro e wn ⟨rfl, hd⟩; have n0_ := Aside0.mk (below_step HB.out (below_of_drawn hd)); clear HB hd; have HB := n0_; clear n0_)
  go_ret2
  exact ⟨rfl, HB.out⟩
set_option maxHeartbeats 8000000 in
set_option maxRecDepth 100000 in
theorem eks_Setup.salt (cost m : Int) (salt key : ByteArray) (w : World) (hr : eks_Rounds.f cost = some (m, 0)) (h0 : salt.size ≠ 16) :
    Calls Try.prog 33 #[.int .i64 cost, .string salt, .string key] w fun e w' => e = .returned (.tuple #[.pointer none, .int .i64 9]) ∧ Below w.heap.size w w' := by
  have HR := Aside0.mk hr
  have HB := Aside0.mk (Below.refl w.heap.size w)
  have e1 : ((salt.size : Int) == 16) = false := beq_eq_false_iff_ne.2 (by omega)
  have e2 : ((salt.size : Int) != 16) = true := bne_iff_ne.2 (by omega)
  have e3 : (salt.size == 16) = false := beq_eq_false_iff_ne.2 h0
  have e4 : (salt.size != 16) = true := bne_iff_ne.2 h0
  clear hr h0
  go_enter Try.func33, Try.ntmps33
  go_wp2_with (go_at_call 32; with_reducible refine (eks_Rounds.calls cost m 0 _ HR.out).mono ?_; rintro e wn ⟨rfl, hd⟩; have n0_ := Aside0.mk (below_step HB.out (below_of_drawn hd)); clear HB hd; have HB := n0_; clear n0_)
  go_ret2
  exact ⟨rfl, HB.out⟩
set_option maxHeartbeats 8000000 in
set_option maxRecDepth 100000 in
theorem eks_Setup.key (cost m : Int) (salt key : ByteArray) (w : World) (hr : eks_Rounds.f cost = some (m, 0)) (hs : salt.size = 16) (h0 : key.size = 0 ∨ 72 < key.size) :
    Calls Try.prog 33 #[.int .i64 cost, .string salt, .string key] w fun e w' => e = .returned (.tuple #[.pointer none, .int .i64 3]) ∧ Below w.heap.size w w' := by
  have HR := Aside0.mk hr
  have HB := Aside0.mk (Below.refl w.heap.size w)
  have e1 : ((salt.size : Int) == 16) = true := beq_iff_eq.2 (by omega)
  have e2 : ((salt.size : Int) != 16) = false := bne_eq_false_iff_eq.2 (by omega)
  have e3 : (salt.size == 16) = true := beq_iff_eq.2 hs
  have e4 : (salt.size != 16) = false := bne_eq_false_iff_eq.2 hs
  have e5 := (ci_empty (s := key)).1
  have e6 := (ci_empty (s := key)).2
  by_cases hz : key.size = 0
  · rw [decide_eq_true hz] at e5 e6
    clear hr hs h0 hz
    go_enter Try.func33, Try.ntmps33
    go_wp2_with (go_at_call 32; with_reducible refine (eks_Rounds.calls cost m 0 _ HR.out).mono ?_; rintro e wn ⟨rfl, hd⟩; have n0_ := Aside0.mk (below_step HB.out (below_of_drawn hd)); clear HB hd; have HB := n0_; clear n0_)
    go_ret2
    exact ⟨rfl, HB.out⟩
  · have e7 : decide ((72 : Int) < (key.size : Int)) = true := decide_eq_true (by omega)
    have e8 : decide (72 < key.size) = true := decide_eq_true (by omega)
    rw [decide_eq_false hz] at e5 e6
    clear hr hs h0 hz
    go_enter Try.func33, Try.ntmps33
    go_wp2_with (go_at_call 32; with_reducible refine (eks_Rounds.calls cost m 0 _ HR.out).mono ?_; rintro e wn ⟨rfl, hd⟩; have n0_ := Aside0.mk (below_step HB.out (below_of_drawn hd)); clear HB hd; have HB := n0_; clear n0_)
    go_ret2
    exact ⟨rfl, HB.out⟩
set_option maxHeartbeats 8000000 in
set_option maxRecDepth 100000 in
theorem eks_Setup.calls (k : Nat) (P : List Nat) (hP : ciOk P) (hpi : pi_Words.f k 0 1042 = some (ciI P, 0)) (cost : Int) (m : Nat) (salt key : ByteArray) (w : World) (hr : eks_Rounds.f cost = some ((m : Int), 0)) (hm : m ≤ 4294967296) (hs : salt.size = 16) (h0 : ¬ (key.size = 0 ∨ 72 < key.size)) :
    Calls Try.prog 33 #[.int .i64 cost, .string salt, .string key] w fun e w' => ∃ g, w.heap.size ≤ g ∧ e = .returned (.tuple #[.pointer (some ⟨g, 0, none⟩), .int .i64 0]) ∧ Ci 70 w' g (ciSet salt key m (ciExpand P (ciWord salt) (ciWord key))) ∧ Below w.heap.size w w' := by
  have HR := Aside0.mk hr
  have HP := Aside0.mk hpi
  have HM := Aside0.mk hm
  have OP := Aside0.mk hP
  have OPL := Aside0.mk hP.1
  have HB := Aside0.mk (Below.refl w.heap.size w)
  have HS := Aside0.mk (show salt.size ≤ 9223372036854775807 by omega)
  have HK := Aside0.mk (show key.size ≤ 9223372036854775807 by omega)
  have HE := Aside0.mk (show (⟨#[]⟩ : ByteArray).size ≤ 9223372036854775807 by decide)
  have OT := Aside0.mk (ciExpand_ok hP (ciWord_lt salt) (ciWord_lt key))
  have e1 : ((salt.size : Int) == 16) = true := beq_iff_eq.2 (by omega)
  have e2 : ((salt.size : Int) != 16) = false := bne_eq_false_iff_eq.2 (by omega)
  have e3 : (salt.size == 16) = true := beq_iff_eq.2 hs
  have e4 : (salt.size != 16) = false := bne_eq_false_iff_eq.2 hs
  have e5 := (ci_empty (s := key)).1
  have e6 := (ci_empty (s := key)).2
  rw [decide_eq_false (show ¬ key.size = 0 by omega)] at e5 e6
  have e7 : decide ((72 : Int) < (key.size : Int)) = false := decide_eq_false (by omega)
  have e8 : decide (72 < key.size) = false := decide_eq_false (by omega)
  obtain ⟨T, hT⟩ : ∃ T, ciExpand P (ciWord salt) (ciWord key) = T := ⟨_, rfl⟩
  rw [hT] at OT ⊢
  replace hT := Aside0.mk hT
  clear hr hpi hm hP hs h0
  go_enter Try.func33, Try.ntmps33
  go_wp2_with (first | (go_at_call 32; with_reducible refine (eks_Rounds.calls cost (m : Int) 0 _ HR.out).mono ?_; rintro e wn ⟨rfl, hd⟩; have n0_ := Aside0.mk (below_step HB.out (below_of_drawn hd)); clear HB hd; have HB := n0_; clear n0_) | (go_at_call 17; with_reducible refine (cipher_Plain.calls k P OPL.out HP.out _).mono ?_; rintro e wn ⟨g, hg, rfl, hc, hb⟩; have HC := Aside0.mk hc; have HG := Aside0.mk (Nat.le_trans HB.out.size hg); have n0_ := Aside0.mk (below_step HB.out hb); clear HB; have HB := n0_; clear n0_; clear hg hc hb) | (go_at_call 21; with_reducible refine (cipher_Cipher_Expand.calls salt key HS.out HK.out g _ _ HC.out OP.out).mono ?_; rintro e wn ⟨rfl, hc, hb⟩; have n0_ := Aside0.mk (But.below HB.out hb HG.out HB.out.size); clear HB HC hb; have HB := n0_; rw [hT.out] at hc; have HC := Aside0.mk hc; clear n0_ hc))
  clear e1 e2 e3 e4 e5 e6 e7 e8
  have HT0 := Aside0.mk (show ciSet salt key m T = ciSet salt key m T from rfl)
  go_loopw [37] (fun v37 wz => ∃ (n : Nat) (t : List Nat), n ≤ m ∧ v37 = .int .i64 (n : Int) ∧ Aside0 (ciOk t) ∧ Aside0 (ciSet salt key (m - n) t = ciSet salt key m T) ∧ Aside0 (Ci 70 wz g t) ∧ Aside0 (Below w.heap.size w wz)) (fun v37 _ => m - (intOf v37).toNat)
  case atStart => exact ⟨0, T, by omega, rfl, OT, ⟨rfl⟩, HC, HB⟩
  case round =>
    clear HC HB HT0
    obtain ⟨n, t, hn, rfl, OU, E, HC, HB⟩ := hrel
    by_cases hlt : n < m
    · have p1 : decide ((n : Int) < (m : Int)) = true := decide_eq_true (by omega)
      have p2 : decide (n < m) = true := decide_eq_true hlt
      have hE := E.out
      rw [show m - n = (m - (n + 1)) + 1 by omega, ciSet_succ] at hE
      replace E := Aside0.mk hE
      have OV := Aside0.mk (ciExpand_ok OU.out (ciWord_lt (⟨#[]⟩ : ByteArray)) (ciWord_lt key))
      have OW := Aside0.mk (ciExpand_ok OV.out (ciWord_lt (⟨#[]⟩ : ByteArray)) (ciWord_lt salt))
      have hadd : IntKind.i64.wrap ((n : Int) + 1) = (n : Int) + 1 := by
        have := HM.out
        rw [IntKind.wrap_i64]; omega
      obtain ⟨u, hu⟩ : ∃ u, ciExpand t (ciWord (⟨#[]⟩ : ByteArray)) (ciWord key) = u := ⟨_, rfl⟩
      rw [hu] at OV OW E
      obtain ⟨v, hv⟩ : ∃ v, ciExpand u (ciWord (⟨#[]⟩ : ByteArray)) (ciWord salt) = v := ⟨_, rfl⟩
      rw [hv] at OW E
      replace hu := Aside0.mk hu
      replace hv := Aside0.mk hv
      have LT := Aside0.mk hlt
      clear hE hlt
      go_wp2_with (first | (go_at_call 21; with_reducible refine (cipher_Cipher_Expand.calls ⟨#[]⟩ key HE.out HK.out g _ _ HC.out OU.out).mono ?_; rintro e wn ⟨rfl, hc, hb⟩; have n0_ := Aside0.mk (But.below HB.out hb HG.out HB.out.size); clear HB HC hb; have HB := n0_; rw [hu.out] at hc; have HC := Aside0.mk hc; clear n0_ hc) | (go_at_call 21; with_reducible refine (cipher_Cipher_Expand.calls ⟨#[]⟩ salt HE.out HS.out g _ _ HC.out OV.out).mono ?_; rintro e wn ⟨rfl, hc, hb⟩; have n0_ := Aside0.mk (But.below HB.out hb HG.out HB.out.size); clear HB HC hb; have HB := n0_; rw [hv.out] at hc; have HC := Aside0.mk hc; clear n0_ hc))
      exact ⟨⟨n + 1, v, by have := LT.out; omega, by rfl, OW, E, HC, HB⟩, by simp [intOf]; have := LT.out; omega⟩
    · obtain rfl : n = m := by omega
      have p1 : decide ((n : Int) < (n : Int)) = false := decide_eq_false (by omega)
      have p2 : decide (n < n) = false := decide_eq_false (by omega)
      have n0_ := Aside0.mk (show Ci 70 wr g (ciSet salt key n T) by have q := E.out; rw [Nat.sub_self] at q; have q2 : t = ciSet salt key n T := q; rw [← q2]; exact HC.out)
      clear HC hlt
      go_wp2
      go_ret2
      exact ⟨g, HG.out, rfl, n0_.out, HB.out⟩

/-! ### eks_Seal: function 35 -/
/-- two words encrypted so many times -/
def ciIn (t : List Nat) (i : Nat) : Nat → List Nat → List Nat
  | 0, l => l
  | m + 1, l => ciIn t i m ((l.set i (ciEnc t (ciW l i) (ciW l (i + 1))).1).set (i + 1) (ciEnc t (ciW l i) (ciW l (i + 1))).2)
theorem ciIn_succ (t : List Nat) (i m : Nat) (l : List Nat) : ciIn t i (m + 1) l = ciIn t i m ((l.set i (ciEnc t (ciW l i) (ciW l (i + 1))).1).set (i + 1) (ciEnc t (ciW l i) (ciW l (i + 1))).2) := by
  delta ciIn
  rfl
/-- so many pairs -/
def ciSl (t : List Nat) (m : Nat) : Nat → Nat → List Nat → List Nat
  | 0, _, l => l
  | d + 1, i, l => ciSl t m d (i + 2) (ciIn t i m l)
theorem ciSl_succ (t : List Nat) (m d i : Nat) (l : List Nat) : ciSl t m (d + 1) i l = ciSl t m d (i + 2) (ciIn t i m l) := by
  delta ciSl
  rfl
theorem ciIn_len (t : List Nat) (i : Nat) : ∀ m l, (ciIn t i m l).length = l.length
  | 0, _ => rfl
  | m + 1, l => by rw [ciIn_succ, ciIn_len t i m, List.length_set, List.length_set]
theorem ciSl_len (t : List Nat) (m : Nat) : ∀ d i l, (ciSl t m d i l).length = l.length
  | 0, _, _ => rfl
  | d + 1, i, l => by rw [ciSl_succ, ciSl_len t m d, ciIn_len]
/-- words of 32 bits -/
def ciU (l : List Nat) : Prop := ∀ i, ciW l i < 4294967296
theorem ciW_set2 (t : List Nat) (i j v : Nat) : ciW (t.set i v) j = if j = i ∧ i < t.length then v else ciW t j := by
  by_cases h : i < t.length
  · rw [ciW_set h]
    by_cases e : j = i
    · rw [if_pos e, if_pos ⟨e, h⟩]
    · rw [if_neg e, if_neg (fun q => e q.1)]
  · rw [List.set_eq_of_length_le (by omega), if_neg (fun q => h q.2)]
theorem ciU_set {l : List Nat} (h : ciU l) {i v : Nat} (hv : v < 4294967296) : ciU (l.set i v) := by
  intro j
  rw [ciW_set2]
  split
  · exact hv
  · exact h j
theorem ciU_in {t : List Nat} (ho : ciOk t) (i : Nat) : ∀ m l, ciU l → ciU (ciIn t i m l)
  | 0, _, h => h
  | m + 1, l, h => by
    rw [ciIn_succ]
    have e := ciEnc_lt ho (h i) (h (i + 1))
    exact ciU_in ho i m _ (ciU_set (ciU_set h e.1) e.2)
theorem ciW_app {u z : List Nat} {i : Nat} (h : i < u.length) : ciW (u ++ z) i = ciW u i := by
  unfold ciW
  rw [List.getD_eq_getElem?_getD, List.getElem?_append_left h, List.getD_eq_getElem?_getD]
theorem ciW_mem {l : List Int} : (∀ i, 0 ≤ rd l i ∧ rd l i < 4294967296) → True := fun _ => trivial
theorem Ci.cellN {T : TypeId} {w : World} {g : Nat} {t : List Nat} (h : Ci T w g t) (i : Nat) (hi : i < t.length) : w.cell? ⟨g, i, none⟩ = some (.int .u32 (ciW t i : Nat)) := (blk_cell h i).trans (ciA_get t i hi)
theorem ci_info23 : ∃ i, Try.prog.info? 23 = some i ∧ i.zero = some (.int .u32 0) ∧ i.size = 1 ∧ i.bytes = 4 := by
  have q := info23
  cases e : Try.prog.info? 23 with
  | none => rw [e] at q; cases q
  | some i =>
    rw [e] at q
    simp only [Option.map_some, Option.some.injEq, Prod.mk.injEq] at q
    exact ⟨i, rfl, q.1, q.2.1, q.2.2⟩
theorem ci_zeros (l : List Nat) (d : Nat) : (l.map fun (n : Nat) => Value.int .u32 (n : Int)).toArray ++ Builtin.zeroCells (Value.int .u32 0).cells d = ciA (l ++ List.replicate d 0) := by
  apply Array.ext'
  unfold ciA Builtin.zeroCells
  rw [Array.toList_append, List.map_append, List.map_replicate]
  congr 1
  rw [Array.toList_map, show (Value.int .u32 0).cells.size = 1 from rfl, Nat.mul_one, Array.toList_range]
  refine List.eq_replicate_iff.mpr ⟨by rw [List.length_map, List.length_range], ?_⟩
  intro v hv
  obtain ⟨j, _, rfl⟩ := List.mem_map.mp hv
  show (Value.int .u32 0).cells[j % 1]! = _
  rw [Nat.mod_one]
  rfl
theorem ci_append {ops : Array Oper} {rest : List Oper} {o : Oper} {a : Act} {Q : Exit → Act → World → Prop} {w : World} (hgd : o.guard = none) (s x : Operand)
    (ho : o.op = .call { callee := .builtin .append, args := #[s, x], argTypes := #[29, 29] }) (ad : Addr) (n c : Nat) (l : List Nat) (hs : a.eval s = .slice none 0 0) (hx : a.eval x = .slice (some ad) n c)
    (hl : l.length = n) (h0 : 0 < n) (h40 : n ≤ 40) (hC : (Kd.int .u32).C w (some ad) n (ciI l))
    (h : ∀ w' g z, w.heap.size ≤ g → Ci 23 w' g (l ++ z) → Below w.heap.size w w' → wpList Try.prog ops Q rest (a.put o.dst (.slice (some ⟨g, 0, none⟩) n (n + z.length))) w') : wpList Try.prog ops Q (o :: rest) a w := by
  obtain ⟨i, hi, hz, hsz, hby⟩ := ci_info23
  have hc : ∀ j v, (l.map fun (n : Nat) => Value.int .u32 (n : Int))[j]? = some v → w.cell? (ad.add j) = some v := by
    intro j v hv
    rw [List.getElem?_map, Option.map_eq_some_iff] at hv
    obtain ⟨y, hy, rfl⟩ := hv
    obtain ⟨h1, h2⟩ := List.getElem?_eq_some_iff.mp hy
    have q := Kd.foot_int hC (j : Int) (by omega) (by omega)
    rw [ciI_rd l j h1, show ((j : Int)).toNat = j from rfl] at q
    rw [q]
    unfold ciW
    rw [List.getD_eq_getElem?_getD, hy]; rfl
  have hr := run_append_nil (P := Try.prog) w 29 o.type 23 i (.int .u32 0) Try.underlying29 hi hz ad n c _ (by rw [List.length_map, hl, hsz, Nat.mul_one]) hc h0 (by omega) (by rw [hby]; omega)
  obtain ⟨d, hd⟩ : ∃ d, grownCap w n 0 23 = n + d := ⟨_, (Nat.add_sub_cancel' (grownCap_ge w n 0 23)).symm⟩
  rw [hd, Nat.add_sub_cancel_left, ci_zeros] at hr
  refine wpList_plain hgd fun _ hK => ?_
  unfold Oper.wp execOp
  simp only [ho, resolve, invoke, builtin, Sem.run_bind, Sem.run_pure, Result.andThen_ok, List.map_toArray, List.map_cons, List.map_nil, hs, hx, hr]
  refine hK _ _ ?_
  have q := h (w.drew.alloc (.cells (ciA (l ++ List.replicate d 0)) 23)) w.heap.size (List.replicate d 0) (Nat.le_refl _) (heap_alloc_new w.drew _) (by repeat (first | exact Below.refl _ _ | apply below_alloc | apply below_drew1 | apply below_drew))
  rw [List.length_replicate] at q
  exact q
set_option maxHeartbeats 8000000 in
set_option maxRecDepth 100000 in
theorem eks_Seal.nul (m : Int) (A : Option Addr) (n c : Nat) (w : World) : Calls Try.prog 35 #[.pointer none, .int .i64 m, .slice A n c] w fun e w' => e = .returned (.tuple #[.slice none 0 0, .int .i64 11]) ∧ Below w.heap.size w w' := by
  go_enter Try.func35, Try.ntmps35
  go_wp2
  go_ret2
  exact ⟨rfl, Below.refl _ _⟩
set_option maxHeartbeats 8000000 in
set_option maxRecDepth 100000 in
theorem eks_Seal.times (g : Nat) (m : Int) (A : Option Addr) (n c : Nat) (w : World) (h : m < 0 ∨ 1024 < m) : Calls Try.prog 35 #[.pointer (some ⟨g, 0, none⟩), .int .i64 m, .slice A n c] w fun e w' => e = .returned (.tuple #[.slice none 0 0, .int .i64 1]) ∧ Below w.heap.size w w' := by
  by_cases h0 : m < 0
  · have e1 : decide (m < 0) = true := decide_eq_true h0
    go_enter Try.func35, Try.ntmps35
    go_wp2
    go_ret2
    exact ⟨rfl, Below.refl _ _⟩
  · have e1 : decide (m < 0) = false := decide_eq_false h0
    have e2 : decide (1024 < m) = true := decide_eq_true (by omega)
    go_enter Try.func35, Try.ntmps35
    go_wp2
    go_ret2
    exact ⟨rfl, Below.refl _ _⟩
set_option maxHeartbeats 8000000 in
set_option maxRecDepth 100000 in
theorem eks_Seal.odd (g : Nat) (m : Int) (A : Option Addr) (n c : Nat) (w : World) (h0 : 0 ≤ m) (h1 : m ≤ 1024) (hn : n % 2 ≠ 0) : Calls Try.prog 35 #[.pointer (some ⟨g, 0, none⟩), .int .i64 m, .slice A n c] w fun e w' => e = .returned (.tuple #[.slice none 0 0, .int .i64 9]) ∧ Below w.heap.size w w' := by
  have e1 : decide (m < 0) = false := decide_eq_false (by omega)
  have e2 : decide (1024 < m) = false := decide_eq_false (by omega)
  have e3 : Int.tmod (n : Int) 2 = 1 := by rw [Int.tmod_eq_emod_of_nonneg (by omega)]; omega
  have e4 : IntKind.i64.wrap (Int.tmod (n : Int) 2) = 1 := by rw [e3]; rfl
  have e5 : (Int.tmod (n : Int) 2 != 0) = true := by rw [e3]; rfl
  have e6 : ((n : Int) % 2 != 0) = true := bne_iff_ne.2 (by omega)
  go_enter Try.func35, Try.ntmps35
  go_wp2
  go_ret2
  exact ⟨rfl, Below.refl _ _⟩
theorem ci_append0 {ops : Array Oper} {rest : List Oper} {o : Oper} {a : Act} {Q : Exit → Act → World → Prop} {w : World} (hgd : o.guard = none) (s x : Operand)
    (ho : o.op = .call { callee := .builtin .append, args := #[s, x], argTypes := #[29, 29] }) (A : Option Addr) (c : Nat) (hs : a.eval s = .slice none 0 0) (hx : a.eval x = .slice A 0 c)
    (h : wpList Try.prog ops Q rest (a.put o.dst (.slice none 0 0)) w) : wpList Try.prog ops Q (o :: rest) a w := by
  obtain ⟨i, hi, hz, hsz, hby⟩ := ci_info23
  have hr : (Builtin.append_ #[29, 29] o.type #[.slice none 0 0, .slice A 0 c]).run Try.prog w = .ok (.slice none 0 0) w := by
    cases A <;> simp [Builtin.append_, run_underlying Try.underlying29, sizeOf, typeInfo, hi, hz, Builtin.lenOf, Builtin.firstCells, loadCells, loadCellsFrom]
  refine wpList_plain hgd fun _ hK => ?_
  unfold Oper.wp execOp
  simp only [ho, resolve, invoke, builtin, Sem.run_bind, Sem.run_pure, Result.andThen_ok, List.map_toArray, List.map_cons, List.map_nil, hs, hx, hr]
  exact hK _ _ h
set_option maxHeartbeats 8000000 in
set_option maxRecDepth 100000 in
theorem eks_Seal.zero (g : Nat) (m : Nat) (hm : m ≤ 1024) (A : Option Addr) (c : Nat) (w : World) : Calls Try.prog 35 #[.pointer (some ⟨g, 0, none⟩), .int .i64 (m : Int), .slice A 0 c] w fun e w' => e = .returned (.tuple #[.slice none 0 0, .int .i64 0]) ∧ Below w.heap.size w w' := by
  have e1 : decide ((m : Int) < 0) = false := decide_eq_false (by omega)
  have e2 : decide (1024 < (m : Int)) = false := decide_eq_false (by omega)
  have e2n : decide (1024 < m) = false := decide_eq_false (by omega)
  have HB := Aside0.mk (Below.refl w.heap.size w)
  clear hm
  go_enter Try.func35, Try.ntmps35
  go_wp2_with ((with_reducible refine gate_builtin (b := .append) (xs := #[.const (.slice none 0 0), .tmp 25]) rfl ?_); at_builtin; refine ci_append0 rfl (.const (.slice none 0 0)) (.tmp 25) rfl A c rfl rfl ?_)
  go_loopw [9] (fun v9 wz => v9 = .int .i64 0 ∧ Aside0 (Below w.heap.size w wz)) (fun v9 _ => 0)
  case atStart => exact ⟨rfl, HB⟩
  case round =>
    clear HB
    obtain ⟨rfl, HB⟩ := hrel
    go_wp2
    go_ret2
    exact ⟨rfl, HB.out⟩
theorem ci_put2 {T : TypeId} {w : World} {g gb : Nat} {t : List Nat} (h : Ci T w g t) (hg : g ≠ gb) (i j : Nat) (u v : Value) : Ci T ((w.setCell ⟨gb, i, none⟩ u).setCell ⟨gb, j, none⟩ v) g t :=
  (Below.heap_setCell _ ⟨gb, j, none⟩ v g hg).trans ((Below.heap_setCell _ ⟨gb, i, none⟩ u g hg).trans h)
theorem ci_below2 {B : Nat} {w0 w : World} {gb : Nat} (h : Below B w0 w) (hg : B ≤ gb) (i j : Nat) (u v : Value) : Below B w0 ((w.setCell ⟨gb, i, none⟩ u).setCell ⟨gb, j, none⟩ v) := by
  refine ⟨h.os, h.tape, h.output, ?_, fun k hk => ?_⟩
  · simpa [World.setCell] using h.size
  · exact (Below.heap_setCell _ ⟨gb, j, none⟩ v k (by show k ≠ gb; omega)).trans ((Below.heap_setCell _ ⟨gb, i, none⟩ u k (by show k ≠ gb; omega)).trans (h.block k hk))
set_option maxHeartbeats 8000000 in
set_option maxRecDepth 100000 in
theorem eks_Seal.calls (g : Nat) (t : List Nat) (ho : ciOk t) (m : Nat) (hm : m ≤ 1024) (ad : Addr) (n c : Nat) (l : List Nat) (hl : l.length = n) (hU : ciU l) (h0 : 0 < n) (h40 : n ≤ 40) (hev : n % 2 = 0) (w : World) (hc : Ci 70 w g t) (hC : (Kd.int .u32).C w (some ad) n (ciI l)) :
    Calls Try.prog 35 #[.pointer (some ⟨g, 0, none⟩), .int .i64 (m : Int), .slice (some ad) n c] w fun e w' => ∃ (g' : Nat) (z : List Nat), w.heap.size ≤ g' ∧ e = .returned (.tuple #[.slice (some ⟨g', 0, none⟩) n (n + z.length), .int .i64 0]) ∧ Ci 23 w' g' (ciSl t m (n / 2) 0 l ++ z) ∧ Below w.heap.size w w' := by
  have HO := Aside0.mk ho
  have HM := Aside0.mk hm
  have HL := Aside0.mk hl
  have HUl := Aside0.mk hU
  have HN := Aside0.mk h0
  have H40 := Aside0.mk h40
  have HC := Aside0.mk hc
  have HK := Aside0.mk hC
  have HB := Aside0.mk (Below.refl w.heap.size w)
  have GL := Aside0.mk hc.lt
  have e1 : decide ((m : Int) < 0) = false := decide_eq_false (by omega)
  have e2 : decide (1024 < (m : Int)) = false := decide_eq_false (by omega)
  have e2n : decide (1024 < m) = false := decide_eq_false (by omega)
  have e3 : Int.tmod (n : Int) 2 = 0 := by rw [Int.tmod_eq_emod_of_nonneg (by omega)]; omega
  have e4 : IntKind.i64.wrap (Int.tmod (n : Int) 2) = 0 := by rw [e3]; rfl
  have e5 : (Int.tmod (n : Int) 2 != 0) = false := by rw [e3]; rfl
  clear ho hm hl hU h0 h40 hc hC
  go_enter Try.func35, Try.ntmps35
  go_wp2_with ((with_reducible refine gate_builtin (b := .append) (xs := #[.const (.slice none 0 0), .tmp 25]) rfl ?_); at_builtin; refine ci_append rfl (.const (.slice none 0 0)) (.tmp 25) rfl ad n c l rfl rfl HL.out HN.out H40.out HK.out ?_; intro wn gb z hg hu hb; have n0_ := Aside0.mk (HC.out.next hb); have HU := Aside0.mk hu; have GN := Aside0.mk (show gb ≠ g by have := GL.out; omega); have GB := Aside0.mk hg; have n1_ := Aside0.mk (below_step HB.out hb); clear HC HK HB hu hg hb; have HC := n0_; have HB := n1_; clear n0_ n1_)
  clear e1 e2 e2n e3 e4 e5
  have E0 := Aside0.mk (show ciSl t m (n / 2) 0 l = ciSl t m (n / 2) 0 l from rfl)
  go_loopw [9] (fun v9 wz => ∃ (i d : Nat) (u : List Nat), i + 2 * d = n ∧ v9 = .int .i64 (i : Int) ∧ Aside0 (u.length = n) ∧ Aside0 (ciU u) ∧ Aside0 (ciSl t m d i u = ciSl t m (n / 2) 0 l) ∧ Aside0 (Ci 23 wz gb (u ++ z)) ∧ Aside0 (Ci 70 wz g t) ∧ Aside0 (Below w.heap.size w wz)) (fun v9 _ => n - (intOf v9).toNat)
  case atStart => exact ⟨0, n / 2, l, by omega, rfl, HL, HUl, E0, HU, HC, HB⟩
  case round =>
    clear HU HC HB E0 HUl HL
    obtain ⟨i, d, u, hd, rfl, UL, UU, E, HU, HC, HB⟩ := hrel
    by_cases hlt : i < n
    case neg =>
      obtain rfl : d = 0 := by omega
      obtain rfl : i = n := by omega
      have p1 : decide ((i : Int) < (i : Int)) = false := decide_eq_false (by omega)
      have p2 : decide (i < i) = false := decide_eq_false (by omega)
      have E2 : u = ciSl t m (i / 2) 0 l := E.out
      rw [E2] at HU
      clear hlt hd hev E UL UU E2
      go_wp2
      go_ret2
      exact ⟨gb, z, GB.out, rfl, HU.out, HB.out⟩
    obtain ⟨d', rfl⟩ : ∃ d', d = d' + 1 := ⟨d - 1, by omega⟩
    have p1 : decide ((i : Int) < (n : Int)) = true := decide_eq_true (by omega)
    have p2 : decide (i < n) = true := decide_eq_true hlt
    have HD := Aside0.mk hd
    have HLT := Aside0.mk hlt
    have hE := E.out
    rw [ciSl_succ] at hE
    replace E := Aside0.mk hE
    clear hE hd hlt
    go_wp2
    clear p1 p2
    go_loopw [34] (fun v34 wz => ∃ (j : Nat) (x : List Nat), j ≤ m ∧ v34 = .int .i64 (j : Int) ∧ Aside0 (x.length = n) ∧ Aside0 (ciU x) ∧ Aside0 (ciIn t i (m - j) x = ciIn t i m u) ∧ Aside0 (Ci 23 wz gb (x ++ z)) ∧ Aside0 (Ci 70 wz g t) ∧ Aside0 (Below w.heap.size w wz)) (fun v34 _ => m - (intOf v34).toNat)
    case atStart => exact ⟨0, u, by omega, rfl, UL, UU, ⟨rfl⟩, HU, HC, HB⟩
    case round =>
      clear HU HC HB UL UU
      obtain ⟨j, x, hj, rfl, XL, XU, EX, HU, HC, HB⟩ := hrel
      by_cases hlt : j < m
      case neg =>
        obtain rfl : j = m := by omega
        have p1 : decide ((j : Int) < (j : Int)) = false := decide_eq_false (by omega)
        have p2 : decide (j < j) = false := decide_eq_false (by omega)
        have q := EX.out
        rw [Nat.sub_self] at q
        have q2 : x = ciIn t i j u := q
        have EY := Aside0.mk (show ciSl t j d' (i + 2) x = ciSl t j (n / 2) 0 l by rw [q2]; exact E.out)
        have hadd : IntKind.i64.wrap ((i : Int) + 2) = (i : Int) + 2 := by
          have := H40.out
          have := HLT.out
          rw [IntKind.wrap_i64]; omega
        clear q q2 EX E hlt hj
        go_wp2
        exact ⟨⟨i + 2, d', x, by have := HD.out; omega, by rfl, XL, XU, EY, HU, HC, HB⟩, by simp [intOf]; have := HLT.out; omega⟩
      have p1 : decide ((j : Int) < (m : Int)) = true := decide_eq_true (by omega)
      have p2 : decide (j < m) = true := decide_eq_true hlt
      have hE := EX.out
      rw [show m - j = (m - (j + 1)) + 1 by omega, ciIn_succ] at hE
      obtain ⟨a, ha⟩ : ∃ a, ciW x i = a := ⟨_, rfl⟩
      obtain ⟨b, hb⟩ : ∃ b, ciW x (i + 1) = b := ⟨_, rfl⟩
      have UA := Aside0.mk (show a < 4294967296 by rw [← ha]; exact XU.out i)
      have UB := Aside0.mk (show b < 4294967296 by rw [← hb]; exact XU.out (i + 1))
      have IL := Aside0.mk (show i < (x ++ z).length by have := HLT.out; have := XL.out; rw [List.length_append]; omega)
      have JL2 := Aside0.mk (show i + 1 < (x ++ z).length by have := HD.out; have := XL.out; rw [List.length_append]; omega)
      have CA := Aside0.mk (show ciW (x ++ z) i = a by rw [ciW_app (by have := HLT.out; have := XL.out; omega)]; exact ha)
      have CB := Aside0.mk (show ciW (x ++ z) (i + 1) = b by rw [ciW_app (by have := HD.out; have := XL.out; omega)]; exact hb)
      have CC : ∀ {W : World}, Ci 23 W gb (x ++ z) → W.cell? ⟨gb, i, none⟩ = some (.int .u32 (a : Int)) ∧ W.cell? ⟨gb, i + 1, none⟩ = some (.int .u32 (b : Int)) := fun {W} h => by
        have h1 := h.cellN i IL.out
        have h2 := h.cellN (i + 1) JL2.out
        rw [CA.out] at h1
        rw [CB.out] at h2
        exact ⟨h1, h2⟩
      rw [ha, hb] at hE
      have lt := ciEnc_lt HO.out UA.out UB.out
      obtain ⟨e1, he1⟩ : ∃ e1, (ciEnc t a b).1 = e1 := ⟨_, rfl⟩
      obtain ⟨e2, he2⟩ : ∃ e2, (ciEnc t a b).2 = e2 := ⟨_, rfl⟩
      rw [he1, he2] at hE lt
      obtain ⟨v, hv⟩ : ∃ v, (x.set i e1).set (i + 1) e2 = v := ⟨_, rfl⟩
      rw [hv] at hE
      have VE := Aside0.mk hE
      have VL := Aside0.mk (show v.length = n by rw [← hv, List.length_set, List.length_set]; exact XL.out)
      have VU := Aside0.mk (show ciU v by rw [← hv]; exact ciU_set (ciU_set XU.out lt.1) lt.2)
      have HV : ∀ {W : World}, Aside0 (Ci 23 W gb (((x ++ z).set i e1).set (i + 1) e2)) → Aside0 (Ci 23 W gb (v ++ z)) := fun {W} h => by
        have l1 := XL.out
        have l2 := HD.out
        rw [List.set_append_left _ _ (by omega), List.set_append_left _ _ (by rw [List.length_set]; omega), hv] at h
        exact h
      have JL := Aside0.mk hlt
      have q1 : decide ((i : Int) < (n : Int)) = true := decide_eq_true (by have := HLT.out; omega)
      have q2 : (i < n) = True := eq_true HLT.out
      have q3 : (i + 1 < n) = True := eq_true (by have := HD.out; omega)
      have q4 : ((i : Int) + 1 < (n : Int)) = True := eq_true (by have := HD.out; omega)
      have q5 : (0 ≤ (i : Int) + 1) = True := eq_true (by omega)
      have hadd : IntKind.i64.wrap ((i : Int) + 1) = (i : Int) + 1 := by
        have := H40.out
        have := HLT.out
        rw [IntKind.wrap_i64]; omega
      have hadj : IntKind.i64.wrap ((j : Int) + 1) = (j : Int) + 1 := by
        have := HM.out
        rw [IntKind.wrap_i64]; omega
      replace he1 := Aside0.mk he1
      replace he2 := Aside0.mk he2
      clear hE lt hv ha hb hlt hj EX XU
      go_wp2
      refine start_ (n := 23) (S := (fun W : World => W.cell? ⟨gb, i, none⟩ = some (.int .u32 (a : Int)) ∧ W.cell? ⟨gb, i + 1, none⟩ = some (.int .u32 (b : Int)))) (ds := [15, 20, 22]) #[false, false, false, false, false, false, false, false, false, false, false, false, false, false, false, false, false, false, false, false, false, false, false] (by kernel_rfl) rfl rfl (CC HU.out) (fun hHeld => ?_)
      replace HU := Aside0.mk (HU.out.next (below_drew (Below.refl _ _)))
      replace HC := Aside0.mk (HC.out.next (below_drew (Below.refl _ _)))
      replace HB := Aside0.mk (below_step HB.out (below_drew (Below.refl _ _)))
      generalize wr.drew = wd_ at HU HC HB hHeld ⊢
      refine pure_ (i := 0) (N := some 37) (v := ?_) (a' := ?_) #[true, false, false, false, false, false, false, false, false, false, false, false, false, false, false, false, false, false, false, false, false, false, false] rfl rfl (by kernel_rfl) (fun _ _ _ h => h) (Or.inl ⟨by rfl, ?_⟩) ?_ ?_
      rotate_left
      · intro w'
        go_simp
        try with_reducible rfl
      rotate_left
      · simp only [Act.put, List.setIfInBounds_toArray, List.set_cons_zero, List.set_cons_succ, i64_w, i32_w]
        rfl
      refine pure_ (i := 1) (N := some 38) (v := ?_) (a' := ?_) #[true, true, false, false, false, false, false, false, false, false, false, false, false, false, false, false, false, false, false, false, false, false, false] rfl rfl (by kernel_rfl) (fun _ _ _ h => h) (Or.inl ⟨by rfl, ?_⟩) ?_ ?_
      rotate_left
      · intro w'
        go_simp
        try with_reducible rfl
      rotate_left
      · simp only [Act.put, List.setIfInBounds_toArray, List.set_cons_zero, List.set_cons_succ, i64_w, i32_w]
        rfl
      refine pure_ (i := 2) (N := some 39) (v := ?_) (a' := ?_) #[true, true, true, false, false, false, false, false, false, false, false, false, false, false, false, false, false, false, false, false, false, false, false] rfl rfl (by kernel_rfl) (fun _ _ _ h => h) (Or.inl ⟨by rfl, ?_⟩) ?_ ?_
      rotate_left
      · intro w'
        go_simp
        try with_reducible rfl
      rotate_left
      · simp only [Act.put, List.setIfInBounds_toArray, List.set_cons_zero, List.set_cons_succ, i64_w, i32_w]
        rfl
      refine pure_ (i := 3) (N := some 40) (v := ?_) (a' := ?_) #[true, true, true, true, false, false, false, false, false, false, false, false, false, false, false, false, false, false, false, false, false, false, false] rfl rfl (by kernel_rfl) (fun _ _ _ h => h) (Or.inl ⟨by rfl, ?_⟩) ?_ ?_
      rotate_left
      · intro w'
        go_simp
        try with_reducible rfl
      rotate_left
      · simp only [Act.put, List.setIfInBounds_toArray, List.set_cons_zero, List.set_cons_succ, i64_w, i32_w]
        rfl
      refine pure_ (i := 4) (N := some 41) (v := ?_) (a' := ?_) #[true, true, true, true, true, false, false, false, false, false, false, false, false, false, false, false, false, false, false, false, false, false, false] rfl rfl (by kernel_rfl) (fun _ _ _ h => h) (Or.inl ⟨by rfl, ?_⟩) ?_ ?_
      rotate_left
      · intro w'
        go_simp
        try with_reducible rfl
      rotate_left
      · simp only [Act.put, List.setIfInBounds_toArray, List.set_cons_zero, List.set_cons_succ, i64_w, i32_w]
        rfl
      refine pure_ (i := 5) (N := some 42) (v := ?_) (a' := ?_) #[true, true, true, true, true, true, false, false, false, false, false, false, false, false, false, false, false, false, false, false, false, false, false] rfl rfl (by kernel_rfl) (fun _ _ _ h => h) (Or.inl ⟨by rfl, ?_⟩) ?_ ?_
      rotate_left
      · intro w'
        go_simp
        try with_reducible rfl
      rotate_left
      · simp only [Act.put, List.setIfInBounds_toArray, List.set_cons_zero, List.set_cons_succ, i64_w, i32_w]
        rfl
      refine pure_ (i := 6) (N := some 43) (v := ?_) (a' := ?_) #[true, true, true, true, true, true, true, false, false, false, false, false, false, false, false, false, false, false, false, false, false, false, false] rfl rfl (by kernel_rfl) (fun _ _ _ h => h) (Or.inl ⟨by rfl, ?_⟩) ?_ ?_
      rotate_left
      · intro w'
        go_simp
        try with_reducible rfl
      rotate_left
      · simp only [Act.put, List.setIfInBounds_toArray, List.set_cons_zero, List.set_cons_succ, i64_w, i32_w]
        rfl
      refine pure_ (i := 7) (N := some 44) (v := ?_) (a' := ?_) #[true, true, true, true, true, true, true, true, false, false, false, false, false, false, false, false, false, false, false, false, false, false, false] rfl rfl (by kernel_rfl) (fun _ _ _ h => h) (Or.inl ⟨by rfl, ?_⟩) ?_ ?_
      rotate_left
      · intro w'
        go_simp
        try with_reducible rfl
      rotate_left
      · simp only [Act.put, List.setIfInBounds_toArray, List.set_cons_zero, List.set_cons_succ, i64_w, i32_w]
        rfl
      refine pure_ (i := 8) (N := some 45) (v := ?_) (a' := ?_) #[true, true, true, true, true, true, true, true, true, false, false, false, false, false, false, false, false, false, false, false, false, false, false] rfl rfl (by kernel_rfl) (fun _ _ _ h => h) (Or.inl ⟨by rfl, ?_⟩) ?_ ?_
      rotate_left
      · intro w'
        go_simp
        try with_reducible rfl
      rotate_left
      · simp only [Act.put, List.setIfInBounds_toArray, List.set_cons_zero, List.set_cons_succ, i64_w, i32_w]
        rfl
      refine take_ (i := 9) (N := some 46) (v := ?_) (a' := ?_) #[true, true, true, true, true, true, true, true, true, true, false, false, false, false, false, false, false, false, false, false, false, false, false] rfl rfl (by kernel_rfl) (fun _ _ _ h => h) (Or.inl ⟨by rfl, ?_⟩) hHeld ?_ ?_
      rotate_left
      · intro w' hSw
        (try simp only [] at hSw)
        (repeat obtain ⟨hs_, hSw⟩ := hSw)
        go_simp
        try with_reducible rfl
      rotate_left
      · simp only [Act.put, List.setIfInBounds_toArray, List.set_cons_zero, List.set_cons_succ, i64_w, i32_w]
        rfl
      refine pure_ (i := 10) (N := some 47) (v := ?_) (a' := ?_) #[true, true, true, true, true, true, true, true, true, true, true, false, false, false, false, false, false, false, false, false, false, false, false] rfl rfl (by kernel_rfl) (fun _ _ _ h => h) (Or.inl ⟨by rfl, ?_⟩) ?_ ?_
      rotate_left
      · intro w'
        go_simp
        try with_reducible rfl
      rotate_left
      · simp only [Act.put, List.setIfInBounds_toArray, List.set_cons_zero, List.set_cons_succ, i64_w, i32_w]
        rfl
      refine pure_ (i := 11) (N := some 48) (v := ?_) (a' := ?_) #[true, true, true, true, true, true, true, true, true, true, true, true, false, false, false, false, false, false, false, false, false, false, false] rfl rfl (by kernel_rfl) (fun _ _ _ h => h) (Or.inl ⟨by rfl, ?_⟩) ?_ ?_
      rotate_left
      · intro w'
        go_simp
        try with_reducible rfl
      rotate_left
      · simp only [Act.put, List.setIfInBounds_toArray, List.set_cons_zero, List.set_cons_succ, i64_w, i32_w]
        rfl
      refine pure_ (i := 12) (N := some 49) (v := ?_) (a' := ?_) #[true, true, true, true, true, true, true, true, true, true, true, true, true, false, false, false, false, false, false, false, false, false, false] rfl rfl (by kernel_rfl) (fun _ _ _ h => h) (Or.inl ⟨by rfl, ?_⟩) ?_ ?_
      rotate_left
      · intro w'
        go_simp
        try with_reducible rfl
      rotate_left
      · simp only [Act.put, List.setIfInBounds_toArray, List.set_cons_zero, List.set_cons_succ, i64_w, i32_w]
        rfl
      refine pure_ (i := 13) (N := some 50) (v := ?_) (a' := ?_) #[true, true, true, true, true, true, true, true, true, true, true, true, true, true, false, false, false, false, false, false, false, false, false] rfl rfl (by kernel_rfl) (fun _ _ _ h => h) (Or.inl ⟨by rfl, ?_⟩) ?_ ?_
      rotate_left
      · intro w'
        go_simp
        try with_reducible rfl
      rotate_left
      · simp only [Act.put, List.setIfInBounds_toArray, List.set_cons_zero, List.set_cons_succ, i64_w, i32_w]
        rfl
      refine take_ (i := 14) (N := some 51) (v := ?_) (a' := ?_) #[true, true, true, true, true, true, true, true, true, true, true, true, true, true, true, false, false, false, false, false, false, false, false] rfl rfl (by kernel_rfl) (fun _ _ _ h => h) (Or.inl ⟨by rfl, ?_⟩) hHeld ?_ ?_
      rotate_left
      · intro w' hSw
        (try simp only [] at hSw)
        (repeat obtain ⟨hs_, hSw⟩ := hSw)
        go_simp
        try with_reducible rfl
      rotate_left
      · simp only [Act.put, List.setIfInBounds_toArray, List.set_cons_zero, List.set_cons_succ, i64_w, i32_w]
        rfl
      refine last_ (i := 15) (N := (some 52)) #[true, true, true, true, true, true, true, true, true, true, true, true, true, true, true, true, false, false, false, false, false, false, false] rfl rfl (by kernel_rfl) (by decide) (fun K hK => ?_)
      refine goes_ Try.func23 (by kernel_rfl) rfl #[.pointer (some ⟨g, 0, none⟩), .int .u32 (a : Int), .int .u32 (b : Int)] (by rfl) rfl rfl (by (try simp only [List.map_toArray, List.map_cons, List.map_nil]); first | done | rfl | (simp only [List.length_drop, List.length_take]; rfl)) ?_
      with_reducible refine (cipher_Cipher_Encrypt.calls t g a b _ HC.out HO.out UA.out UB.out).mono ?_
      rintro e w' ⟨rfl, hb⟩
      have n0_ := Aside0.mk (HU.out.next hb)
      have n1_ := Aside0.mk (HC.out.next hb)
      have n2_ := Aside0.mk (below_step HB.out hb)
      clear hb HU HC HB 
      have HU := n0_
      have HC := n1_
      have HB := n2_
      clear n0_ n1_ n2_
      refine ⟨_, rfl, ?_⟩
      refine hK.out _ _ ?_
      clear hK K
      refine norm_ (a' := ?_) ?_ ?_
      rotate_left
      · show Act.put _ (some 52) _ = _
        simp only [Act.put, List.setIfInBounds_toArray, List.set_cons_zero, List.set_cons_succ, i64_w, i32_w]
        rfl
      refine pure_ (i := 16) (N := some 36) (v := ?_) (a' := ?_) #[true, true, true, true, true, true, true, true, true, true, true, true, true, true, true, true, true, false, false, false, false, false, false] rfl rfl (by kernel_rfl) (fun _ _ _ h => h) (Or.inl ⟨by rfl, ?_⟩) ?_ ?_
      rotate_left
      · intro w'
        go_simp
        try with_reducible rfl
      rotate_left
      · simp only [Act.put, List.setIfInBounds_toArray, List.set_cons_zero, List.set_cons_succ, i64_w, i32_w]
        rfl
      refine pure_ (i := 17) (N := some 53) (v := ?_) (a' := ?_) #[true, true, true, true, true, true, true, true, true, true, true, true, true, true, true, true, true, true, false, false, false, false, false] rfl rfl (by kernel_rfl) (fun _ _ _ h => h) (Or.inl ⟨by rfl, ?_⟩) ?_ ?_
      rotate_left
      · intro w'
        go_simp
        try with_reducible rfl
      rotate_left
      · simp only [Act.put, List.setIfInBounds_toArray, List.set_cons_zero, List.set_cons_succ, i64_w, i32_w]
        rfl
      refine pure_ (i := 18) (N := some 54) (v := ?_) (a' := ?_) #[true, true, true, true, true, true, true, true, true, true, true, true, true, true, true, true, true, true, true, false, false, false, false] rfl rfl (by kernel_rfl) (fun _ _ _ h => h) (Or.inl ⟨by rfl, ?_⟩) ?_ ?_
      rotate_left
      · intro w'
        go_simp
        try with_reducible rfl
      rotate_left
      · simp only [Act.put, List.setIfInBounds_toArray, List.set_cons_zero, List.set_cons_succ, i64_w, i32_w]
        rfl
      refine pure_ (i := 19) (N := some 55) (v := ?_) (a' := ?_) #[true, true, true, true, true, true, true, true, true, true, true, true, true, true, true, true, true, true, true, true, false, false, false] rfl rfl (by kernel_rfl) (fun _ _ _ h => h) (Or.inl ⟨by rfl, ?_⟩) ?_ ?_
      rotate_left
      · intro w'
        go_simp
        try with_reducible rfl
      rotate_left
      · simp only [Act.put, List.setIfInBounds_toArray, List.set_cons_zero, List.set_cons_succ, i64_w, i32_w]
        rfl
      refine last_ (i := 20) (N := none) #[true, true, true, true, true, true, true, true, true, true, true, true, true, true, true, true, true, true, true, true, true, false, false] rfl rfl (by kernel_rfl) (by decide) (fun K hK => ?_)
      refine skip_ (by rfl) rfl (ci_store (A := 55) (B := 53) rfl rfl rfl (HU.out.cellN i IL.out) (HU.out.frozen i)) ?_
      refine hK.out _ _ ?_
      clear hK K
      refine pure_ (i := 21) (N := some 56) (v := ?_) (a' := ?_) #[true, true, true, true, true, true, true, true, true, true, true, true, true, true, true, true, true, true, true, true, true, true, false] rfl rfl (by kernel_rfl) (fun _ _ _ h => h) (Or.inl ⟨by rfl, ?_⟩) ?_ ?_
      rotate_left
      · intro w'
        go_simp
        try with_reducible rfl
      rotate_left
      · simp only [Act.put, List.setIfInBounds_toArray, List.set_cons_zero, List.set_cons_succ, i64_w, i32_w]
        rfl
      refine last_ (i := 22) (N := none) #[true, true, true, true, true, true, true, true, true, true, true, true, true, true, true, true, true, true, true, true, true, true, true] rfl rfl (by kernel_rfl) (by decide) (fun K hK => ?_)
      refine skip_ (by rfl) rfl (ci_store (A := 56) (B := 54) rfl rfl rfl ((HU.out.put i (ciEnc t a b).1).cellN (i + 1) (by rw [List.length_set]; exact JL2.out)) ((HU.out.put i (ciEnc t a b).1).frozen (i + 1))) ?_
      refine hK.out _ _ ?_
      clear hK K
      refine done_ (by kernel_rfl) ?_
      clear hHeld
      have n0_ := Aside0.mk ((HU.out.put i (ciEnc t a b).1).put (i + 1) (ciEnc t a b).2)
      have n1_ := Aside0.mk (ci_put2 HC.out (Ne.symm GN.out) i (i + 1) (.int .u32 (((ciEnc t a b).1 : Nat) : Int)) (.int .u32 (((ciEnc t a b).2 : Nat) : Int)))
      have n2_ := Aside0.mk (ci_below2 HB.out GB.out i (i + 1) (.int .u32 (((ciEnc t a b).1 : Nat) : Int)) (.int .u32 (((ciEnc t a b).2 : Nat) : Int)))
      clear HU HC HB
      generalize World.setCell _ ⟨gb, i + 1, none⟩ _ = w9 at n0_ n1_ n2_ ⊢
      rw [he1.out, he2.out] at n0_
      have HU := n0_
      have HC := n1_
      have HB := n2_
      clear n0_ n1_ n2_
      go_wp2
      exact ⟨⟨j + 1, v, by have := JL.out; omega, by rfl, VL, VU, VE, HV HU, HC, HB⟩, by simp [intOf]; have := JL.out; omega⟩

/-! ### bcrypt_Check: function 38 -/
def bcrypt_Check.f (a0 : Int) (a1 : ByteArray) (a2 : ByteArray) : Option (Int) := (eks_Rounds.f a0).bind fun bt115 => (if bt115.2 = 0 then (if (a1.size : Int) = 16 then (if (a2.size : Int) > 72 then (some 3) else (some 0)) else (some 9)) else (some bt115.2))
set_option maxHeartbeats 8000000 in
set_option maxRecDepth 100000 in
theorem bcrypt_Check.calls (a0 : Int) (a1 : ByteArray) (a2 : ByteArray) (r : Int) (w : World) (h : bcrypt_Check.f a0 a1 a2 = some r) :
  Calls Try.prog 38 #[.int .i64 a0, .string a1, .string a2] w fun e w' => e = .returned (.int .i64 r) ∧ Drawn0 w w' := by
 have H : ((eks_Rounds.f a0).bind fun bt115 => (if bt115.2 = 0 then (if (a1.size : Int) = 16 then (if (a2.size : Int) > 72 then (some 3) else (some 0)) else (some 9)) else (some bt115.2))) = some r := h
 clear h
 replace H := Option.bind_eq_some_iff.mp H
 obtain ⟨⟨t115, t116⟩, A40, H⟩ := H
 replace H : (if t116 = 0 then (if (a1.size : Int) = 16 then (if (a2.size : Int) > 72 then (some 3) else (some 0)) else (some 9)) else (some t116)) = some r := H
 have A4 := Aside0.mk A40
 clear A40
 by_cases c5 : t116 = 0
 ·rw [if_pos c5] at H
  have c5b0 : (t116 == 0) = true := beq_iff_eq.mpr c5
  have c5b1 : (t116 != 0) = false := bne_eq_false_iff_eq.mpr c5
  clear c5
  by_cases c6 : (a1.size : Int) = 16
  ·rw [if_pos c6] at H
   have c6b0 : ((a1.size : Int) == 16) = true := beq_iff_eq.mpr c6
   have c6b1 : ((a1.size : Int) != 16) = false := bne_eq_false_iff_eq.mpr c6
   clear c6
   by_cases c7 : (a2.size : Int) > 72
   ·rw [if_pos c7] at H
    have c7b0 : decide (72 < (a2.size : Int)) = true := decide_eq_true c7
    have c7b1 : decide (72 < a2.size) = true := decide_eq_true (by omega)
    clear c7
    obtain rfl := Option.some.inj H
    go_enter Try.func38, Try.ntmps38
    go_wp2_with (first | ((with_reducible refine gate_callee (f := 32) rfl ?_); refine goesL_ (some 11) rfl rfl Try.func32 (by kernel_rfl) rfl #[.int .i64 a0] rfl (by (try simp only [List.map_toArray, List.map_cons, List.map_nil]); first | done | rfl | (simp only [List.length_drop, List.length_take]; rfl)) ?_; (with_reducible refine (eks_Rounds.calls a0 t115 t116 _ A4.out).mono ?_); rintro e w' ⟨rfl, ⟨nd, rfl⟩⟩; refine ⟨_, rfl, ?_⟩))
    go_ret
    exact ⟨by first | rfl | (simp; done) | (simp [*]; done) | (simp [show ∀ l_ : List UInt8, (l_ != []) = !l_.isEmpty from fun l_ => by cases l_ <;> rfl]; done), by repeat (first | exact Drawn0.refl _ | apply Drawn0.step)⟩
   ·rw [if_neg c7] at H
    have c7b0 : decide (72 < (a2.size : Int)) = false := decide_eq_false c7
    have c7b1 : decide (72 < a2.size) = false := decide_eq_false (by omega)
    clear c7
    obtain rfl := Option.some.inj H
    go_enter Try.func38, Try.ntmps38
    go_wp2_with (first | ((with_reducible refine gate_callee (f := 32) rfl ?_); refine goesL_ (some 11) rfl rfl Try.func32 (by kernel_rfl) rfl #[.int .i64 a0] rfl (by (try simp only [List.map_toArray, List.map_cons, List.map_nil]); first | done | rfl | (simp only [List.length_drop, List.length_take]; rfl)) ?_; (with_reducible refine (eks_Rounds.calls a0 t115 t116 _ A4.out).mono ?_); rintro e w' ⟨rfl, ⟨nd, rfl⟩⟩; refine ⟨_, rfl, ?_⟩))
    go_ret
    exact ⟨by first | rfl | (simp; done) | (simp [*]; done) | (simp [show ∀ l_ : List UInt8, (l_ != []) = !l_.isEmpty from fun l_ => by cases l_ <;> rfl]; done), by repeat (first | exact Drawn0.refl _ | apply Drawn0.step)⟩
  ·rw [if_neg c6] at H
   have c6b0 : ((a1.size : Int) == 16) = false := beq_eq_false_iff_ne.mpr c6
   have c6b1 : ((a1.size : Int) != 16) = true := bne_iff_ne.mpr c6
   obtain rfl := Option.some.inj H
   go_enter Try.func38, Try.ntmps38
   go_wp2_with (first | ((with_reducible refine gate_callee (f := 32) rfl ?_); refine goesL_ (some 11) rfl rfl Try.func32 (by kernel_rfl) rfl #[.int .i64 a0] rfl (by (try simp only [List.map_toArray, List.map_cons, List.map_nil]); first | done | rfl | (simp only [List.length_drop, List.length_take]; rfl)) ?_; (with_reducible refine (eks_Rounds.calls a0 t115 t116 _ A4.out).mono ?_); rintro e w' ⟨rfl, ⟨nd, rfl⟩⟩; refine ⟨_, rfl, ?_⟩))
   go_ret
   exact ⟨by first | rfl | (simp; done) | (simp [*]; done) | (simp [show ∀ l_ : List UInt8, (l_ != []) = !l_.isEmpty from fun l_ => by cases l_ <;> rfl]; done), by repeat (first | exact Drawn0.refl _ | apply Drawn0.step)⟩
 ·rw [if_neg c5] at H
  have c5b0 : (t116 == 0) = false := beq_eq_false_iff_ne.mpr c5
  have c5b1 : (t116 != 0) = true := bne_iff_ne.mpr c5
  obtain rfl := Option.some.inj H
  go_enter Try.func38, Try.ntmps38
  go_wp2_with (first | ((with_reducible refine gate_callee (f := 32) rfl ?_); refine goesL_ (some 11) rfl rfl Try.func32 (by kernel_rfl) rfl #[.int .i64 a0] rfl (by (try simp only [List.map_toArray, List.map_cons, List.map_nil]); first | done | rfl | (simp only [List.length_drop, List.length_take]; rfl)) ?_; (with_reducible refine (eks_Rounds.calls a0 t115 t116 _ A4.out).mono ?_); rintro e w' ⟨rfl, ⟨nd, rfl⟩⟩; refine ⟨_, rfl, ?_⟩))
  go_ret
  exact ⟨by first | rfl | (simp; done) | (simp [*]; done) | (simp [show ∀ l_ : List UInt8, (l_ != []) = !l_.isEmpty from fun l_ => by cases l_ <;> rfl]; done), by repeat (first | exact Drawn0.refl _ | apply Drawn0.step)⟩

/-! ### bcrypt_Key: function 39 -/
def bcrypt_Key.f (a0 : ByteArray) : Option ByteArray := if a0.size + 1 ≤ 9223372036854775807 then some (bcKey a0) else none
set_option maxHeartbeats 8000000 in
set_option maxRecDepth 100000 in
theorem bcrypt_Key.calls (a0 : ByteArray) (r : ByteArray) (w : World) (h : bcrypt_Key.f a0 = some r) :
    Calls Try.prog 39 #[.string a0] w fun e w' => e = .returned (.string r) ∧ Below w.heap.size w w' := by
  unfold bcrypt_Key.f at h
  by_cases c : a0.size + 1 ≤ 9223372036854775807
  case neg => rw [if_neg c] at h; cases h
  rw [if_pos c] at h
  obtain rfl := Option.some.inj h
  clear h
  have c2 : (9223372036854775807 < a0.size + 1) = False := eq_false (Nat.not_lt.2 c)
  have hsz : (a0 ++ (⟨#[0]⟩ : ByteArray)).size = a0.size + 1 := by rw [ByteArray.size_append]; rfl
  have hd1 : Drawn0 w w := ⟨0, rfl⟩
  unfold bcKey
  by_cases c3 : 71 < a0.size
  · rw [if_pos c3]
    have e0 : (72 : Int) < (a0.size : Int) + 1 := by omega
    have e1 : decide ((72 : Int) < (a0.size : Int) + 1) = true := decide_eq_true (by omega)
    have e2 : decide (72 < a0.size + 1) = true := decide_eq_true (by omega)
    have e3 : ((a0.size : Int) + 1 < 72) = False := eq_false (by omega)
    have e4 : ((72 : Int) ≤ (a0.size : Int) + 1) = True := eq_true (by omega)
    have e5 : ((a0.size : Int) + 1 ≤ 72) = False := eq_false (by omega)
    clear c c3
    go_enter Try.func39, Try.ntmps39
    go_wp2
    go_ret
    exact ⟨rfl, below_of_drawn hd1⟩
  · rw [if_neg c3]
    have e0 : (a0.size : Int) + 1 ≤ (72 : Int) := by omega
    have e1 : decide ((72 : Int) < (a0.size : Int) + 1) = false := decide_eq_false (by omega)
    have e2 : decide (72 < a0.size + 1) = false := decide_eq_false (by omega)
    have e5 : ((72 : Int) < (a0.size : Int) + 1) = False := eq_false (by omega)
    have e6 : (a0 ++ (⟨#[0]⟩ : ByteArray)).extract 0 ((a0.size : Int) + 1).toNat = a0 ++ (⟨#[0]⟩ : ByteArray) := by
      rw [show ((a0.size : Int) + 1).toNat = (a0 ++ (⟨#[0]⟩ : ByteArray)).size by omega, ByteArray.extract_zero_size]
    have e7 : (a0 ++ (⟨#[0]⟩ : ByteArray)).extract 0 (a0.size + 1) = a0 ++ (⟨#[0]⟩ : ByteArray) := by
      rw [← hsz, ByteArray.extract_zero_size]
    have e8 : (a0 ++ (⟨#[0]⟩ : ByteArray)).extract 0 72 = a0 ++ (⟨#[0]⟩ : ByteArray) := by
      apply ByteArray.ext
      rw [ByteArray.data_extract]
      exact Array.extract_eq_self_of_le (by have h_ : (a0 ++ (⟨#[0]⟩ : ByteArray)).data.size = a0.size + 1 := hsz; omega)
    clear c c3
    go_enter Try.func39, Try.ntmps39
    go_wp2
    go_ret
    exact ⟨rfl, below_of_drawn hd1⟩

/-! ### words_highest: function 68 -/
def words_highest.f (a0 : Int) : Option (Int) := some (wrap64 (3 - a0))
theorem words_highest.calls (a0 : Int) (r : Int) (w : World) (h : words_highest.f a0 = some r) :
    Calls Try.prog 68 #[.int .i64 a0] w fun e w' => e = .returned (.int .i64 r) ∧ Drawn0 w w' := by
  have H : (some (wrap64 (3 - a0))) = some r := h
  clear h
  obtain rfl := Option.some.inj H
  go_enter Try.func68, Try.ntmps68
  go_wp2
  go_ret
  exact ⟨rfl, 0, rfl⟩

end Go.Proofs.Ytimgndceiibaeaa.Pall
