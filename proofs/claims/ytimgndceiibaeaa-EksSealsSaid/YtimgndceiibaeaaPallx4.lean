-- PRINTED by print.py (a twelfth state) out of the translation. Not trusted: Lean checks it.
import Derived.Test.YtimgndceiibaeaaPallx0
namespace Go.Proofs.Ytimgndceiibaeaa.Pall
open Go.RowKit Go.Proofs.YtimgndceiibaeaaW.PrintWords Go.Proofs.YtimgndceiibaeaaW.PrintLast Go.Proofs.YtimgndceiibaeaaW.PrintMore
attribute [local go_sem] max2_int min2_int max_two min_two max_three min_three max_four min_four   -- for this text's walks alone
set_option linter.unusedVariables false
set_option linter.unusedSimpArgs false

/-! ### cipher_stream_next: function 46 -/
/-- a stream lies at a block, so many bytes on -/
def CiS (w : World) (g : Nat) (s : ByteArray) (m : Nat) : Prop := w.heap[g]? = some (.cells #[.string s, .int .i64 ((ciAt s m : Nat) : Int)] 74 (0, 0))
theorem ciAt_lt {s : ByteArray} (h : 0 < s.size) (m : Nat) : ciAt s m < s.size := by
  unfold ciAt
  rw [if_neg (by omega)]
  exact Nat.mod_lt _ h
theorem ciAt_succ {s : ByteArray} (h : 0 < s.size) (m : Nat) : ciAt s (m + 1) = (ciAt s m + 1) % s.size := by
  unfold ciAt
  rw [if_neg (by omega), if_neg (by omega), Nat.mod_add_mod]
theorem ciB_at {s : ByteArray} (h : 0 < s.size) (m : Nat) (hl : ciAt s m < s.size) : (s[ciAt s m]'hl).toNat = ciB s m := by
  have e : ciAt s m = m % s.size := if_neg (by omega)
  unfold ciB
  rw [if_neg (by omega), ← e, List.getD_eq_getElem?_getD, List.getElem?_eq_getElem (by rw [Array.length_toList]; exact hl)]
  rfl
theorem ciWj_succ (s : ByteArray) (i j : Nat) : ciWj s i (j + 1) = ciWj s i j * 256 + ciB s (4 * i + j) := rfl
theorem ciS_put {w : World} {g : Nat} {s : ByteArray} {m m' : Nat} (h : CiS w g s m) : CiS (w.setCell ⟨g, 1, none⟩ (.int .i64 ((ciAt s m' : Nat) : Int))) g s m' := blk_set h 1 (.int .i64 ((ciAt s m' : Nat) : Int))
theorem CiS.drewN {w : World} {g : Nat} {s : ByteArray} {m : Nat} (h : CiS w g s m) (n : Nat) : CiS (w.drewN n) g s m := by
  have q := (below_of_drawn (w := w) ⟨n, rfl⟩).block g (blk_lt h)
  exact q.trans h
theorem But.refl (g : Nat) (w : World) : But g w w := ⟨rfl, rfl, rfl, Nat.le_refl _, fun _ _ _ => rfl⟩
theorem But.drawn {g : Nat} {w w' w'' : World} (h : But g w w') (k : Drawn0 w' w'') : But g w w'' := h.trans (But.of (below_of_drawn k))
theorem But.put {g : Nat} {w w' : World} (h : But g w w') (i : Nat) (v : Value) : But g w (w'.setCell ⟨g, i, none⟩ v) :=
  h.trans ⟨rfl, rfl, rfl, by simp [World.setCell], fun k _ hk => Below.heap_setCell _ _ _ _ hk⟩
set_option maxHeartbeats 8000000 in
set_option maxRecDepth 100000 in
theorem cipher_stream_next.calls (s : ByteArray) (hs : s.size ≤ 9223372036854775807) (g i : Nat) (w : World) (h : CiS w g s (4 * i)) :
    Calls Try.prog 46 #[.pointer (some ⟨g, 0, none⟩)] w fun e w' => e = .returned (.int .u32 ((ciWord s i : Nat) : Int)) ∧ CiS w' g s (4 * (i + 1)) ∧ But g w w' := by
  have HC := Aside0.mk h
  have HZ := Aside0.mk hs
  have HB := Aside0.mk (But.refl g w)
  clear h hs
  go_enter Try.func46, Try.ntmps46
  go_wp2
  go_loopw [4, 3] (fun v4 v3 wz => ∃ j : Nat, j ≤ 4 ∧ v4 = .int .i64 (j : Int) ∧ v3 = .int .u32 ((ciWj s i j : Nat) : Int) ∧ Aside0 (CiS wz g s (4 * i + j)) ∧ Aside0 (But g w wz)) (fun v4 _ _ => 4 - (intOf v4).toNat)
  case atStart => exact ⟨0, by omega, rfl, rfl, HC, HB⟩
  case round =>
    clear HC HB
    obtain ⟨j, hj, rfl, rfl, HC, HB⟩ := hrel
    by_cases hlt : j < 4
    case neg =>
      obtain rfl : j = 4 := by omega
      go_wp2
      go_ret
      exact ⟨rfl, HC.out, HB.out⟩
    have W := Aside0.mk (ciWj_succ s i j)
    have hv24 : ciWj s i j < 16777216 := by
      have q := ciWj_lt s i j
      have q2 : 256 ^ j ≤ 256 ^ 3 := Nat.pow_le_pow_right (by omega) (by omega)
      omega
    have HV := Aside0.mk hv24
    obtain ⟨v, hv⟩ : ∃ v, ciWj s i j = v := ⟨_, rfl⟩
    rw [hv] at W HV hv24 ⊢
    clear hv
    have hshl : ((v : Int) * 256) % 4294967296 = (v : Int) * 256 := by omega
    have hc0 : wr.cell? ⟨g, 0, none⟩ = some (.string s) := (blk_cell HC.out 0).trans rfl
    by_cases hz : s.size = 0
    · have e0 : s = ⟨#[]⟩ := by
        obtain ⟨d⟩ := s
        have : d = #[] := Array.eq_empty_of_size_eq_zero hz
        rw [this]
      have hne : (s.toList != []) = false := by rw [e0, ByteArray.toList_eq]; rfl
      have W2 : ciWj s i (j + 1) = v * 256 := by
        rw [W.out]
        unfold ciB
        rw [if_pos hz]; rfl
      have A2 : CiS wr g s (4 * i + (j + 1)) := by
        have q := HC.out
        unfold CiS ciAt at q ⊢
        rw [if_pos hz] at q ⊢
        exact q
      replace W2 := Aside0.mk W2
      replace A2 := Aside0.mk A2
      subst e0
      clear hz hne
      go_wp2
      refine ⟨⟨j + 1, by omega, by go_num, ?_, A2, HB⟩, by simp [intOf]; omega⟩
      rw [W2.out]; rfl
    · have hp : 0 < s.size := by omega
      have hne : (s.toList != []) = true := by
        rw [bne_iff_ne]
        intro q
        have : s.toList.length = s.size := by rw [ByteArray.toList_eq]; exact Array.length_toList
        rw [q] at this
        exact hz this.symm
      have hne4 : ¬ s = ByteArray.empty := fun q => hz (by rw [q]; rfl)
      have hne3 : (!s.toList.isEmpty) = true := by
        rw [← hne]
        cases s.toList <;> rfl
      have hc1 : wr.cell? ⟨g, 1, none⟩ = some (.int .i64 ((ciAt s (4 * i + j) : Nat) : Int)) := (blk_cell HC.out 1).trans rfl
      have hf1 : wr.frozen? ⟨g, 1, none⟩ = false := blk_frozen HC.out 1
      have S := Aside0.mk (ciAt_succ hp (4 * i + j))
      have L := Aside0.mk (ciAt_lt hp (4 * i + j))
      have B := Aside0.mk (ciB_at hp (4 * i + j) L.out)
      have B2 := Aside0.mk (ciB_lt s (4 * i + j))
      have P := Aside0.mk (fun W : World => (ciS_put (w := W) (g := g) (s := s) (m := 4 * i + j) (m' := 4 * i + j + 1)))
      obtain ⟨a, ha⟩ : ∃ a, ciAt s (4 * i + j) = a := ⟨_, rfl⟩
      obtain ⟨b, hb⟩ : ∃ b, ciB s (4 * i + j) = b := ⟨_, rfl⟩
      obtain ⟨a', ha'⟩ : ∃ a', ciAt s (4 * i + j + 1) = a' := ⟨_, rfl⟩
      rw [ha] at hc1 S L
      rw [ha'] at S P
      rw [hb] at W B B2
      have hsz : decide (s.size = 0) = false := decide_eq_false hz
      have hix : ∀ W : World, (Instr.index 9 (.string s) (.int .i64 (a : Int))).run Try.prog W = .ok (.int .u8 (b : Int)) W := fun W => by
        rw [run_index_string W 9 s .i64 (a : Int) Try.underlying9, dif_pos (by have := L.out; omega)]
        have q := B.out
        simp only [ha] at q
        exact congrArg (fun x : Nat => Result.ok (Value.int .u8 (x : Int)) W) q
      have hbc : (b : Int) % 4294967296 = (b : Int) := by have := B2.out; omega
      have hor := ci_bor v b HV.out B2.out
      have hn0 : ((s.size : Nat) : Int) ≠ 0 := by omega
      have hn1 : ((s.size : Int) == 0) = false := beq_eq_false_iff_ne.2 hn0
      have hrem : Int.tmod ((a : Int) + 1) (s.size : Int) = (a' : Int) := by
        rw [Int.tmod_eq_emod_of_nonneg (by omega), S.out, Int.natCast_emod]
        rfl
      have hadd : IntKind.i64.wrap ((a : Int) + 1) = (a : Int) + 1 := by
        have := L.out
        have := HZ.out
        rw [IntKind.wrap_i64]; omega
      clear hv24 hp hz
      go_wp2
      go_quiet (fail)
      have n0_ := Aside0.mk (show CiS (wr.drewN nq) g s (4 * i + j) from HC.out.drewN nq)
      have n1_ := Aside0.mk (show But g w (wr.drewN nq) from HB.out.drawn ⟨nq, rfl⟩)
      clear HC HB hc0 hc1 hf1
      generalize wr.drewN nq = wq at n0_ n1_
      have HC := n0_
      have HB := n1_
      clear n0_ n1_
      have hc0 : wq.cell? ⟨g, 0, none⟩ = some (.string s) := (blk_cell HC.out 0).trans rfl
      have hc1 : wq.cell? ⟨g, 1, none⟩ = some (.int .i64 (a : Int)) := by rw [← ha]; exact (blk_cell HC.out 1).trans rfl
      have hf1 : wq.frozen? ⟨g, 1, none⟩ = false := blk_frozen HC.out 1
      go_wp2
      go_still_tail 14, (by kernel_rfl)
      have n0_ := Aside0.mk (show CiS wq.drew g s (4 * i + j) from HC.out)
      have n1_ := Aside0.mk (show But g w wq.drew from HB.out.drawn ⟨1, rfl⟩)
      have hf2 : wq.drew.frozen? ⟨g, 1, none⟩ = false := blk_frozen n0_.out 1
      have hc2 : wq.drew.cell? ⟨g, 1, none⟩ = some (.int .i64 (a : Int)) := by rw [← ha]; exact (blk_cell n0_.out 1).trans rfl
      clear HC HB hc0 hc1 hf1
      change wpList _ _ _ _ _ wq.drew
      generalize wq.drew = wx at n0_ n1_ hf2 hc2
      have HC := n0_
      have HB := n1_
      clear n0_ n1_
      go_wp2
      refine ⟨⟨j + 1, by omega, by go_num, ?_, ⟨P.out _ HC.out⟩, ⟨HB.out.put 1 _⟩⟩, by simp [intOf]; omega⟩
      rw [W.out]; rfl

/-! ### cipher_Cipher_f: function 49 -/
theorem cipher_Cipher_f.at (t : List Nat) (x a b c d : Nat) (ho : ciOk t) (ha : x / 16777216 = a) (hb : x / 65536 % 256 = b) (hc : x / 256 % 256 = c) (hd : x % 256 = d) :
    (bits .xor .u32 ((((ciW t (18 + a) : Nat) : Int) + ((ciW t (274 + b) : Nat) : Int)) % 4294967296) ((ciW t (530 + c) : Nat) : Int) + ((ciW t (786 + d) : Nat) : Int)) % 4294967296 = ((ciF t x : Nat) : Int) := by
  subst ha hb hc hd
  unfold ciF
  rw [show (((ciW t (18 + x / 16777216) : Nat) : Int) + ((ciW t (274 + x / 65536 % 256) : Nat) : Int)) % 4294967296 = (((ciW t (18 + x / 16777216) + ciW t (274 + x / 65536 % 256)) % 4294967296 : Nat) : Int) by omega]
  rw [ci_bxor _ _ (Nat.mod_lt _ (by omega)) (ho.2 _)]
  omega
set_option maxHeartbeats 8000000 in
set_option maxRecDepth 100000 in
theorem cipher_Cipher_f.calls (t : List Nat) (g x : Nat) (w : World) (hc : Ci 70 w g t) (ho : ciOk t) (hx : x < 4294967296) :
    Calls Try.prog 49 #[.pointer (some ⟨g, 0, none⟩), .int .u32 x] w fun e w' => e = .returned (.int .u32 (ciF t x : Nat)) ∧ Drawn0 w w' := by
  have HX := Aside0.mk hx
  have h1 := hc.cell ho (18 + x / 16777216) (by omega)
  have h2 := hc.cell ho (274 + x / 65536 % 256) (by omega)
  have h3 := hc.cell ho (530 + x / 256 % 256) (by omega)
  have h4 := hc.cell ho (786 + x % 256) (by omega)
  have e2 : bits .and .u32 ((x : Int) / 65536) 255 = ((x / 65536 % 256 : Nat) : Int) := ci_band (x / 65536) (by omega)
  have e3 : bits .and .u32 ((x : Int) / 256) 255 = ((x / 256 % 256 : Nat) : Int) := ci_band (x / 256) (by omega)
  have e4 : bits .and .u32 (x : Int) 255 = ((x % 256 : Nat) : Int) := ci_band x hx
  have e1 : (x : Int) / 16777216 = ((x / 16777216 : Nat) : Int) := by omega
  have q1 : x / 16777216 < 256 := by omega
  have q2 : x / 65536 % 256 < 256 := by omega
  have q3 : x / 256 % 256 < 256 := by omega
  have q4 : x % 256 < 256 := by omega
  have hE := fun a b c d => cipher_Cipher_f.at t x a b c d ho
  obtain ⟨a, ha⟩ : ∃ a, x / 16777216 = a := ⟨_, rfl⟩
  obtain ⟨b, hb⟩ : ∃ b, x / 65536 % 256 = b := ⟨_, rfl⟩
  obtain ⟨c, hcc⟩ : ∃ c, x / 256 % 256 = c := ⟨_, rfl⟩
  obtain ⟨d, hd⟩ : ∃ d, x % 256 = d := ⟨_, rfl⟩
  rw [ha] at h1 e1 q1
  rw [hb] at h2 e2 q2
  rw [hcc] at h3 e3 q3
  rw [hd] at h4 e4 q4
  have E := Aside0.mk (hE a b c d ha hb hcc hd)
  have p1 : (a : Int) < 256 := by omega
  have p2 : (b : Int) < 256 := by omega
  have p3 : (c : Int) < 256 := by omega
  have p4 : (d : Int) < 256 := by omega
  clear ha hb hcc hd hE hx
  go_enter Try.func49, Try.ntmps49
  go_wp2
  go_quiet (fail)
  go_wp2
  go_ret
  exact ⟨congrArg (fun z => Ending.returned (Value.int .u32 z)) E.out, _, rfl⟩

/-! ### cipher_Cipher_Encrypt: function 23 -/
set_option maxHeartbeats 8000000 in
set_option maxRecDepth 100000 in
theorem cipher_Cipher_Encrypt.nil (l r : Int) (w : World) :
    Calls Try.prog 23 #[.pointer none, .int .u32 l, .int .u32 r] w fun e w' => e = .returned (.tuple #[.int .u32 0, .int .u32 0]) ∧ Below w.heap.size w w' := by
  go_enter Try.func23, Try.ntmps23
  go_wp2
  go_ret2
  exact ⟨rfl, Below.refl _ _⟩
theorem ciEncR_succ (t : List Nat) (n i l r : Nat) : ciEncR t (n + 1) i l r = ciEncR t n (i + 1) (r ^^^ ciF t (l ^^^ ciW t i)) (l ^^^ ciW t i) := rfl
set_option maxHeartbeats 8000000 in
set_option maxRecDepth 100000 in
theorem cipher_Cipher_Encrypt.calls (t : List Nat) (g l r : Nat) (w : World) (hc : Ci 70 w g t) (ho : ciOk t) (hl : l < 4294967296) (hr : r < 4294967296) :
    Calls Try.prog 23 #[.pointer (some ⟨g, 0, none⟩), .int .u32 l, .int .u32 r] w fun e w' => e = .returned (.tuple #[.int .u32 ((ciEnc t l r).1 : Nat), .int .u32 ((ciEnc t l r).2 : Nat)]) ∧ Below w.heap.size w w' := by
  have HC := Aside0.mk hc
  have HO := Aside0.mk ho
  have HL := Aside0.mk hl
  have HR := Aside0.mk hr
  have HB := Aside0.mk (Below.refl w.heap.size w)
  have GL := Aside0.mk hc.lt
  clear hc ho hl hr
  go_enter Try.func23, Try.ntmps23
  go_wp2
  go_loopw [11, 1, 2] (fun v11 v1 v2 wz => ∃ n x y : Nat, n ≤ 16 ∧ v11 = .int .i64 (n : Int) ∧ v1 = .int .u32 (x : Int) ∧ v2 = .int .u32 (y : Int) ∧ Aside0 (x < 4294967296) ∧ Aside0 (y < 4294967296) ∧ Aside0 (ciEncR t (16 - n) n x y = ciEncR t 16 0 l r) ∧ Aside0 (Ci 70 wz g t) ∧ Aside0 (Below w.heap.size w wz)) (fun v11 _ _ _ => 16 - (intOf v11).toNat)
  case atStart => exact ⟨0, l, r, by omega, rfl, rfl, rfl, HL, HR, ⟨rfl⟩, HC, HB⟩
  case round =>
    clear HC HB HL HR
    obtain ⟨n, x, y, hn, rfl, rfl, rfl, HX, HY, E, HC, HB⟩ := hrel
    by_cases hlt : n < 16
    · have p1 : (n : Int) < 18 := by omega
      have hcell := HC.out.cell HO.out n (by omega)
      have hx1 := ci_bxor x (ciW t n) HX.out (HO.out.2 _)
      have HM := Aside0.mk (ci_xor HX.out (HO.out.2 n))
      have hE := E.out
      obtain ⟨d, hd⟩ : ∃ d, 16 - n = d + 1 := ⟨15 - n, by omega⟩
      rw [hd, ciEncR_succ] at hE
      have hd2 : 16 - (n + 1) = d := by omega
      obtain ⟨m, hm⟩ : ∃ m, x ^^^ ciW t n = m := ⟨_, rfl⟩
      rw [hm] at hx1 HM hE
      have hx2 := ci_bxor y (ciF t m) HY.out (ciF_lt t m)
      have HZ := Aside0.mk (ci_xor HY.out (ciF_lt t m))
      replace E := Aside0.mk hE
      replace hd := Aside0.mk hd
      replace hd2 := Aside0.mk hd2
      clear hm hE
      go_wp2_with (go_at_call 49; refine (cipher_Cipher_f.calls t g m _ HC.out HO.out HM.out).mono ?_; rintro e wn ⟨rfl, hdr⟩; have n0_ := Aside0.mk (below_step HB.out (below_of_drawn hdr)); have n1_ := Aside0.mk (HC.out.next (below_of_drawn hdr)); clear HB HC hcell; have HB := n0_; have HC := n1_; clear n0_ n1_ hdr)
      refine ⟨⟨n + 1, _, m, by omega, by go_num, rfl, rfl, HZ, HM, ⟨?_⟩, HC, HB⟩, by simp [intOf]; omega⟩
      rw [hd2.out]; exact E.out
    · obtain rfl : n = 16 := by omega
      have h17 := HC.out.cell HO.out 17 (by omega)
      have h16 := HC.out.cell HO.out 16 (by omega)
      have hx1 := ci_bxor y (ciW t 17) HY.out (HO.out.2 _)
      have hx2 := ci_bxor x (ciW t 16) HX.out (HO.out.2 _)
      have hE : (x, y) = ciEncR t 16 0 l r := E.out
      have e1 : (ciEnc t l r).1 = y ^^^ ciW t 17 := by unfold ciEnc; rw [← hE]
      have e2 : (ciEnc t l r).2 = x ^^^ ciW t 16 := by unfold ciEnc; rw [← hE]
      replace e1 := Aside0.mk e1
      replace e2 := Aside0.mk e2
      clear hE
      go_wp2
      go_quiet (fail)
      go_wp2
      go_ret2
      refine ⟨?_, pw_below_drewN HB.out _⟩
      rw [e1.out, e2.out]
      rfl

/-! ### cipher_Cipher_Expand_1: function 47 -/
/-- all blocks that there were but some are as they were -/
structure Exc (X : List Nat) (w w' : World) : Prop where
  os : w'.os = w.os
  tape : w'.tape = w.tape
  output : w'.output = w.output
  size : w.heap.size ≤ w'.heap.size
  block : ∀ k, k < w.heap.size → k ∉ X → w'.heap[k]? = w.heap[k]?
theorem Exc.refl (X : List Nat) (w : World) : Exc X w w := ⟨rfl, rfl, rfl, Nat.le_refl _, fun _ _ _ => rfl⟩
theorem Exc.trans {X : List Nat} {a b c : World} (h : Exc X a b) (k : Exc X b c) : Exc X a c :=
  ⟨k.os.trans h.os, k.tape.trans h.tape, k.output.trans h.output, Nat.le_trans h.size k.size, fun i hi hg => (k.block i (Nat.lt_of_lt_of_le hi h.size) hg).trans (h.block i hi hg)⟩
theorem Exc.of {X : List Nat} {g : Nat} {w w' : World} (h : But g w w') (hg : g ∈ X) : Exc X w w' := ⟨h.os, h.tape, h.output, h.size, fun k hk hx => h.block k hk (fun e => hx (e ▸ hg))⟩
theorem Exc.low {X : List Nat} {w w' : World} (h : Below w.heap.size w w') : Exc X w w' := ⟨h.os, h.tape, h.output, h.size, fun k hk _ => h.block k hk⟩
theorem Exc.put {X : List Nat} {w w' : World} (h : Exc X w w') {g : Nat} (hg : g ∈ X) (i : Nat) (v : Value) : Exc X w (w'.setCell ⟨g, i, none⟩ v) :=
  h.trans (Exc.of ((But.refl g w').put i v) hg)
theorem Exc.sub {X Y : List Nat} {w w' : World} (h : Exc X w w') (hs : ∀ x ∈ X, x ∈ Y) : Exc Y w w' := ⟨h.os, h.tape, h.output, h.size, fun k hk hx => h.block k hk (fun e => hx (hs _ e))⟩
/-- what the closure holds: the cipher, two words, the salt's stream -/
structure Env (w : World) (bc bl bs br g gs : Nat) (x y : Nat) (t : List Nat) : Prop where
  c : w.heap[bc]? = some (.cells #[.pointer (some ⟨g, 0, none⟩)] 33 (0, 0))
  l : w.heap[bl]? = some (.cells #[.int .u32 (x : Int)] 23 (0, 0))
  s : w.heap[bs]? = some (.cells #[.pointer (some ⟨gs, 0, none⟩)] 72 (0, 0))
  r : w.heap[br]? = some (.cells #[.int .u32 (y : Int)] 23 (0, 0))
  t : Ci 70 w g t
/-- which blocks are which -/
structure Dis (bc bl bs br g gs : Nat) : Prop where
  cs : bc ≠ gs
  ls : bl ≠ gs
  ss : bs ≠ gs
  rs : br ≠ gs
  gs : g ≠ gs
  cl : bc ≠ bl
  cr : bc ≠ br
  lr : bl ≠ br
  sl : bs ≠ bl
  sr : bs ≠ br
  gl : g ≠ bl
  gr : g ≠ br
theorem Env.but {w w' : World} {bc bl bs br g gs x y : Nat} {t : List Nat} (h : Env w bc bl bs br g gs x y t) (d : Dis bc bl bs br g gs) (k : But gs w w') : Env w' bc bl bs br g gs x y t :=
  ⟨(k.block _ (blk_lt h.c) d.cs).trans h.c, (k.block _ (blk_lt h.l) d.ls).trans h.l, (k.block _ (blk_lt h.s) d.ss).trans h.s, (k.block _ (blk_lt h.r) d.rs).trans h.r, (k.block _ (blk_lt h.t) d.gs).trans h.t⟩
theorem Env.low {w w' : World} {bc bl bs br g gs x y : Nat} {t : List Nat} (h : Env w bc bl bs br g gs x y t) (k : Below w.heap.size w w') : Env w' bc bl bs br g gs x y t :=
  ⟨(k.block _ (blk_lt h.c)).trans h.c, (k.block _ (blk_lt h.l)).trans h.l, (k.block _ (blk_lt h.s)).trans h.s, (k.block _ (blk_lt h.r)).trans h.r, (k.block _ (blk_lt h.t)).trans h.t⟩
theorem Env.put {w : World} {bc bl bs br g gs x y : Nat} {t : List Nat} (h : Env w bc bl bs br g gs x y t) (d : Dis bc bl bs br g gs) (x' y' : Nat) :
    Env ((w.setCell ⟨bl, 0, none⟩ (.int .u32 (x' : Int))).setCell ⟨br, 0, none⟩ (.int .u32 (y' : Int))) bc bl bs br g gs x' y' t := by
  have o := fun (W : World) (a : Addr) (v : Value) (k : Nat) (hk : k ≠ a.block) => Below.heap_setCell W a v k hk
  refine ⟨?_, ?_, ?_, ?_, ?_⟩
  · rw [o _ _ _ _ (by exact d.cr), o _ _ _ _ (by exact d.cl)]; exact h.c
  · rw [o _ _ _ _ (by exact d.lr)]; exact blk_set h.l 0 (.int .u32 (x' : Int))
  · rw [o _ _ _ _ (by exact d.sr), o _ _ _ _ (by exact d.sl)]; exact h.s
  · exact blk_set ((o w ⟨bl, 0, none⟩ (.int .u32 (x' : Int)) br (by exact Ne.symm d.lr)).trans h.r) 0 (.int .u32 (y' : Int))
  · unfold Ci
    rw [o _ _ _ _ (by exact d.gr), o _ _ _ _ (by exact d.gl)]; exact h.t
theorem Env.cells {w : World} {bc bl bs br g gs x y : Nat} {t : List Nat} (h : Env w bc bl bs br g gs x y t) : w.cell? ⟨bc, 0, none⟩ = some (.pointer (some ⟨g, 0, none⟩)) ∧ w.cell? ⟨bl, 0, none⟩ = some (.int .u32 (x : Int)) ∧ w.cell? ⟨bs, 0, none⟩ = some (.pointer (some ⟨gs, 0, none⟩)) ∧ w.cell? ⟨br, 0, none⟩ = some (.int .u32 (y : Int)) :=
  ⟨(blk_cell h.c 0).trans rfl, (blk_cell h.l 0).trans rfl, (blk_cell h.s 0).trans rfl, (blk_cell h.r 0).trans rfl⟩
theorem ciS_low {w w' : World} {g m : Nat} {s : ByteArray} (h : CiS w g s m) (k : Below w.heap.size w w') : CiS w' g s m := (k.block _ (blk_lt h)).trans h
theorem ciS_set {w : World} {g m : Nat} {s : ByteArray} (h : CiS w g s m) (b i : Nat) (v : Value) (hb : g ≠ b) : CiS (w.setCell ⟨b, i, none⟩ v) g s m := (Below.heap_setCell w ⟨b, i, none⟩ v g hb).trans h
set_option maxHeartbeats 8000000 in
set_option maxRecDepth 100000 in
theorem cipher_Cipher_Expand_1.calls (s : ByteArray) (hs : s.size ≤ 9223372036854775807) (bc bl bs br g gs x y i : Nat) (t : List Nat) (w : World) (hE : Env w bc bl bs br g gs x y t) (hd : Dis bc bl bs br g gs) (hc : CiS w gs s (4 * i)) (ho : ciOk t) (hx : x < 4294967296) (hy : y < 4294967296) :
    Calls Try.prog 47 #[.pointer (some ⟨bc, 0, none⟩), .pointer (some ⟨bl, 0, none⟩), .pointer (some ⟨bs, 0, none⟩), .pointer (some ⟨br, 0, none⟩)] w fun e w' => e = .returned (.tuple #[.int .u32 ((ciEnc t (x ^^^ ciWord s i) (y ^^^ ciWord s (i + 1))).1 : Nat), .int .u32 ((ciEnc t (x ^^^ ciWord s i) (y ^^^ ciWord s (i + 1))).2 : Nat)]) ∧
      Env w' bc bl bs br g gs (ciEnc t (x ^^^ ciWord s i) (y ^^^ ciWord s (i + 1))).1 (ciEnc t (x ^^^ ciWord s i) (y ^^^ ciWord s (i + 1))).2 t ∧ CiS w' gs s (4 * (i + 1 + 1)) ∧ Exc [bl, br, gs] w w' := by
  have HE := Aside0.mk hE
  have D := Aside0.mk hd
  have HX := Aside0.mk (Exc.refl [bl, br, gs] w)
  have C1 := Aside0.mk hc
  have HO := Aside0.mk ho
  have HZ := Aside0.mk hs
  have P1 := Aside0.mk (ciWord_lt s i)
  have P2 := Aside0.mk (ciWord_lt s (i + 1))
  obtain ⟨p, hp⟩ : ∃ p, ciWord s i = p := ⟨_, rfl⟩
  obtain ⟨q, hq⟩ : ∃ q, ciWord s (i + 1) = q := ⟨_, rfl⟩
  rw [hp] at P1 ⊢
  rw [hq] at P2 ⊢
  have A1 := Aside0.mk (ci_xor hx P1.out)
  have A2 := Aside0.mk (ci_xor hy P2.out)
  have hx1 := ci_bxor x p hx P1.out
  have hx2 := ci_bxor y q hy P2.out
  obtain ⟨e1, he1⟩ : ∃ e1, (ciEnc t (x ^^^ p) (y ^^^ q)).1 = e1 := ⟨_, rfl⟩
  obtain ⟨e2, he2⟩ : ∃ e2, (ciEnc t (x ^^^ p) (y ^^^ q)).2 = e2 := ⟨_, rfl⟩
  rw [he1, he2]
  clear hE hd hc ho hs hx hy
  go_enter Try.func47, Try.ntmps47
  go_wp2
  refine start_ (n := 15) (S := (fun W : World => W.cell? ⟨bc, 0, none⟩ = some (.pointer (some ⟨g, 0, none⟩)) ∧ W.cell? ⟨bl, 0, none⟩ = some (.int .u32 (x : Int)) ∧ W.cell? ⟨bs, 0, none⟩ = some (.pointer (some ⟨gs, 0, none⟩)) ∧ W.cell? ⟨br, 0, none⟩ = some (.int .u32 (y : Int)))) (ds := [13, 14]) #[false, false, false, false, false, false, false, false, false, false, false, false, false, false, false] (by kernel_rfl) rfl rfl HE.out.cells (fun hHeld => ?_)
  replace HE := Aside0.mk (HE.out.low (below_drew (Below.refl _ _)))
  replace HX := Aside0.mk (HX.out.trans (Exc.low (below_drew (Below.refl _ _))))
  replace C1 := Aside0.mk (ciS_low C1.out (below_drew (Below.refl _ _)))
  generalize w.drew = wd_ at HE HX C1 hHeld ⊢
  refine take_ (i := 0) (N := some 7) (v := ?_) (a' := ?_) #[true, false, false, false, false, false, false, false, false, false, false, false, false, false, false] rfl rfl (by kernel_rfl) (fun _ _ _ h => h) (Or.inl ⟨by rfl, ?_⟩) hHeld ?_ ?_
  rotate_left
  · intro w' hSw
    (try simp only [] at hSw)
    (repeat obtain ⟨hs_, hSw⟩ := hSw)
    go_simp
    try with_reducible rfl
  rotate_left
  · simp only [Act.put, List.setIfInBounds_toArray, List.set_cons_zero, List.set_cons_succ, i64_w, i32_w]
    rfl
  refine take_ (i := 1) (N := some 8) (v := ?_) (a' := ?_) #[true, true, false, false, false, false, false, false, false, false, false, false, false, false, false] rfl rfl (by kernel_rfl) (fun _ _ _ h => h) (Or.inl ⟨by rfl, ?_⟩) hHeld ?_ ?_
  rotate_left
  · intro w' hSw
    (try simp only [] at hSw)
    (repeat obtain ⟨hs_, hSw⟩ := hSw)
    go_simp
    try with_reducible rfl
  rotate_left
  · simp only [Act.put, List.setIfInBounds_toArray, List.set_cons_zero, List.set_cons_succ, i64_w, i32_w]
    rfl
  refine take_ (i := 2) (N := some 9) (v := ?_) (a' := ?_) #[true, true, true, false, false, false, false, false, false, false, false, false, false, false, false] rfl rfl (by kernel_rfl) (fun _ _ _ h => h) (Or.inl ⟨by rfl, ?_⟩) hHeld ?_ ?_
  rotate_left
  · intro w' hSw
    (try simp only [] at hSw)
    (repeat obtain ⟨hs_, hSw⟩ := hSw)
    go_simp
    try with_reducible rfl
  rotate_left
  · simp only [Act.put, List.setIfInBounds_toArray, List.set_cons_zero, List.set_cons_succ, i64_w, i32_w]
    rfl
  refine take_ (i := 5) (N := some 12) (v := ?_) (a' := ?_) #[true, true, true, false, false, true, false, false, false, false, false, false, false, false, false] rfl rfl (by kernel_rfl) (fun _ _ _ h => h) (Or.inl ⟨by rfl, ?_⟩) hHeld ?_ ?_
  rotate_left
  · intro w' hSw
    (try simp only [] at hSw)
    (repeat obtain ⟨hs_, hSw⟩ := hSw)
    go_simp
    try with_reducible rfl
  rotate_left
  · simp only [Act.put, List.setIfInBounds_toArray, List.set_cons_zero, List.set_cons_succ, i64_w, i32_w]
    rfl
  refine take_ (i := 6) (N := some 13) (v := ?_) (a' := ?_) #[true, true, true, false, false, true, true, false, false, false, false, false, false, false, false] rfl rfl (by kernel_rfl) (fun _ _ _ h => h) (Or.inl ⟨by rfl, ?_⟩) hHeld ?_ ?_
  rotate_left
  · intro w' hSw
    (try simp only [] at hSw)
    (repeat obtain ⟨hs_, hSw⟩ := hSw)
    go_simp
    try with_reducible rfl
  rotate_left
  · simp only [Act.put, List.setIfInBounds_toArray, List.set_cons_zero, List.set_cons_succ, i64_w, i32_w]
    rfl
  refine one_ (i := 3) (N := (some 10)) #[true, true, true, true, false, true, true, false, false, false, false, false, false, false, false] rfl rfl (by kernel_rfl) (by decide) (fun K hK => ?_)
  refine goes_ Try.func46 (by kernel_rfl) rfl #[.pointer (some ⟨gs, 0, none⟩)] (by rfl) rfl rfl (by (try simp only [List.map_toArray, List.map_cons, List.map_nil]); first | done | rfl | (simp only [List.length_drop, List.length_take]; rfl)) ?_
  with_reducible refine (cipher_stream_next.calls s HZ.out gs (i) _ C1.out).mono ?_
  rintro e w' ⟨rfl, hCS, hb⟩
  have n0_ := Aside0.mk (HX.out.trans (Exc.of hb (by simp)))
  have n1_ := Aside0.mk (HE.out.but D.out hb)
  have C1b := Aside0.mk (hCS)
  clear hb HX HE hCS C1
  have HX := n0_
  have HE := n1_
  clear n0_ n1_
  refine ⟨_, rfl, ?_⟩
  refine hK.out _ _ HE.out.cells (fun hHeld => ?_)
  clear hK K
  refine norm_ (a' := ?_) ?_ ?_
  rotate_left
  · show Act.put _ (some 10) _ = _
    simp only [Act.put, List.setIfInBounds_toArray, List.set_cons_zero, List.set_cons_succ, i64_w, i32_w]
    rfl
  refine pure_ (i := 4) (N := some 11) (v := ?_) (a' := ?_) #[true, true, true, true, true, true, true, false, false, false, false, false, false, false, false] rfl rfl (by kernel_rfl) (fun _ _ _ h => h) (Or.inl ⟨by rfl, ?_⟩) ?_ ?_
  rotate_left
  · intro w'
    go_simp
    (try rw [hx1])
    try with_reducible rfl
  rotate_left
  · simp only [Act.put, List.setIfInBounds_toArray, List.set_cons_zero, List.set_cons_succ, i64_w, i32_w]
    rfl
  refine one_ (i := 7) (N := (some 14)) #[true, true, true, true, true, true, true, true, false, false, false, false, false, false, false] rfl rfl (by kernel_rfl) (by decide) (fun K hK => ?_)
  refine goes_ Try.func46 (by kernel_rfl) rfl #[.pointer (some ⟨gs, 0, none⟩)] (by rfl) rfl rfl (by (try simp only [List.map_toArray, List.map_cons, List.map_nil]); first | done | rfl | (simp only [List.length_drop, List.length_take]; rfl)) ?_
  with_reducible refine (cipher_stream_next.calls s HZ.out gs (i + 1) _ C1b.out).mono ?_
  rintro e w' ⟨rfl, hCS, hb⟩
  have n0_ := Aside0.mk (HX.out.trans (Exc.of hb (by simp)))
  have n1_ := Aside0.mk (HE.out.but D.out hb)
  have C2 := Aside0.mk (hCS)
  clear hb HX HE hCS C1b
  have HX := n0_
  have HE := n1_
  clear n0_ n1_
  refine ⟨_, rfl, ?_⟩
  refine hK.out _ _ HE.out.cells (fun hHeld => ?_)
  clear hK K
  refine norm_ (a' := ?_) ?_ ?_
  rotate_left
  · show Act.put _ (some 14) _ = _
    simp only [Act.put, List.setIfInBounds_toArray, List.set_cons_zero, List.set_cons_succ, i64_w, i32_w]
    rfl
  refine pure_ (i := 8) (N := some 15) (v := ?_) (a' := ?_) #[true, true, true, true, true, true, true, true, true, false, false, false, false, false, false] rfl rfl (by kernel_rfl) (fun _ _ _ h => h) (Or.inl ⟨by rfl, ?_⟩) ?_ ?_
  rotate_left
  · intro w'
    go_simp
    (try rw [hx2])
    try with_reducible rfl
  rotate_left
  · simp only [Act.put, List.setIfInBounds_toArray, List.set_cons_zero, List.set_cons_succ, i64_w, i32_w]
    rfl
  refine one_ (i := 9) (N := (some 16)) #[true, true, true, true, true, true, true, true, true, true, false, false, false, false, false] rfl rfl (by kernel_rfl) (by decide) (fun K hK => ?_)
  refine goes_ Try.func23 (by kernel_rfl) rfl #[.pointer (some ⟨g, 0, none⟩), .int .u32 ((x ^^^ p : Nat) : Int), .int .u32 ((y ^^^ q : Nat) : Int)] (by rfl) rfl rfl (by (try simp only [List.map_toArray, List.map_cons, List.map_nil]); first | done | rfl | (simp only [List.length_drop, List.length_take]; rfl)) ?_
  with_reducible refine (cipher_Cipher_Encrypt.calls t g (x ^^^ p) (y ^^^ q) _ HE.out.t HO.out A1.out A2.out).mono ?_
  rintro e w' ⟨rfl, hbb⟩
  have hCS := ciS_low C2.out hbb
  have hb := But.of (g := gs) hbb
  have n0_ := Aside0.mk (HX.out.trans (Exc.of hb (by simp)))
  have n1_ := Aside0.mk (HE.out.but D.out hb)
  have C3 := Aside0.mk (hCS)
  clear hb HX HE hCS C2 hbb
  have HX := n0_
  have HE := n1_
  clear n0_ n1_
  refine ⟨_, rfl, ?_⟩
  refine hK.out _ _ HE.out.cells (fun hHeld => ?_)
  clear hK K
  refine norm_ (a' := ?_) ?_ ?_
  rotate_left
  · show Act.put _ (some 16) _ = _
    simp only [Act.put, List.setIfInBounds_toArray, List.set_cons_zero, List.set_cons_succ, i64_w, i32_w]
    rfl
  refine pure_ (i := 10) (N := some 6) (v := ?_) (a' := ?_) #[true, true, true, true, true, true, true, true, true, true, true, false, false, false, false] rfl rfl (by kernel_rfl) (fun _ _ _ h => h) (Or.inl ⟨by rfl, ?_⟩) ?_ ?_
  rotate_left
  · intro w'
    go_simp
    try with_reducible rfl
  rotate_left
  · simp only [Act.put, List.setIfInBounds_toArray, List.set_cons_zero, List.set_cons_succ, i64_w, i32_w]
    rfl
  refine pure_ (i := 11) (N := some 17) (v := ?_) (a' := ?_) #[true, true, true, true, true, true, true, true, true, true, true, true, false, false, false] rfl rfl (by kernel_rfl) (fun _ _ _ h => h) (Or.inl ⟨by rfl, ?_⟩) ?_ ?_
  rotate_left
  · intro w'
    go_simp
    try with_reducible rfl
  rotate_left
  · simp only [Act.put, List.setIfInBounds_toArray, List.set_cons_zero, List.set_cons_succ, i64_w, i32_w]
    rfl
  refine pure_ (i := 12) (N := some 18) (v := ?_) (a' := ?_) #[true, true, true, true, true, true, true, true, true, true, true, true, true, false, false] rfl rfl (by kernel_rfl) (fun _ _ _ h => h) (Or.inl ⟨by rfl, ?_⟩) ?_ ?_
  rotate_left
  · intro w'
    go_simp
    try with_reducible rfl
  rotate_left
  · simp only [Act.put, List.setIfInBounds_toArray, List.set_cons_zero, List.set_cons_succ, i64_w, i32_w]
    rfl
  refine last_ (i := 13) (N := none) #[true, true, true, true, true, true, true, true, true, true, true, true, true, true, false] rfl rfl (by kernel_rfl) (by decide) (fun K hK => ?_)
  refine skip_ (by rfl) rfl (ci_store (A := 1) (B := 17) rfl rfl rfl ((blk_cell (HE.out.l) _).trans rfl) (blk_frozen (HE.out.l) _)) ?_
  refine hK.out _ _ ?_
  clear hK K
  refine last_ (i := 14) (N := none) #[true, true, true, true, true, true, true, true, true, true, true, true, true, true, true] rfl rfl (by kernel_rfl) (by decide) (fun K hK => ?_)
  refine skip_ (by rfl) rfl (ci_store (A := 3) (B := 18) rfl rfl rfl ((blk_cell ((Below.heap_setCell _ ⟨bl, 0, none⟩ _ br (Ne.symm D.out.lr)).trans HE.out.r) _).trans rfl) (blk_frozen ((Below.heap_setCell _ ⟨bl, 0, none⟩ _ br (Ne.symm D.out.lr)).trans HE.out.r) _)) ?_
  refine hK.out _ _ ?_
  clear hK K
  refine done_ (by kernel_rfl) ?_
  have n0_ := Aside0.mk (HE.out.put D.out e1 e2)
  have n1_ := Aside0.mk ((HX.out.put (show bl ∈ [bl, br, gs] by simp) 0 (.int .u32 (e1 : Int)) : Exc [bl, br, gs] w _).put (show br ∈ [bl, br, gs] by simp) 0 (.int .u32 (e2 : Int)))
  have n2_ := Aside0.mk (ciS_set (ciS_set C3.out bl 0 (.int .u32 (e1 : Int)) (Ne.symm D.out.ls)) br 0 (.int .u32 (e2 : Int)) (Ne.symm D.out.rs))
  clear HE HX C3
  generalize World.setCell _ ⟨br, 0, none⟩ _ = w9 at n0_ n1_ n2_ ⊢
  obtain ⟨c0, c1, c2, c3⟩ := n0_.out.cells
  go_wp2
  go_quiet (fail)
  go_wp2
  go_ret2
  refine ⟨rfl, n0_.out.low (below_of_drawn ⟨_, rfl⟩), n2_.out.drewN _, n1_.out.trans (Exc.low (below_of_drawn ⟨_, rfl⟩))⟩

end Go.Proofs.Ytimgndceiibaeaa.Pall
