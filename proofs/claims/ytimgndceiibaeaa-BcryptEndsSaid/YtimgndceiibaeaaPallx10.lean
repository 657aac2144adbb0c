-- PRINTED by print.py (a twelfth state) out of the translation. Not trusted: Lean checks it.
import Derived.Test.YtimgndceiibaeaaPallx0
import Derived.Test.YtimgndceiibaeaaPallx1
import Derived.Test.YtimgndceiibaeaaPallx3
import Derived.Test.YtimgndceiibaeaaPallx4
import Derived.Test.YtimgndceiibaeaaPallx5
import Derived.Test.YtimgndceiibaeaaPallx7
import Derived.Test.YtimgndceiibaeaaPallx8
import Derived.Test.YtimgndceiibaeaaPallx9
namespace Go.Proofs.Ytimgndceiibaeaa.Pall
open Go.RowKit Go.Proofs.YtimgndceiibaeaaW.PrintWords Go.Proofs.YtimgndceiibaeaaW.PrintLast Go.Proofs.YtimgndceiibaeaaW.PrintMore
attribute [local go_sem] max2_int min2_int max_two min_two max_three min_three max_four min_four   -- for this text's walks alone
set_option linter.unusedVariables false
set_option linter.unusedSimpArgs false

/-! ### pestlelaw26_BcryptSums: function 10 -/
theorem bc_rounds {c : Int} (h : c < 4 ∨ 31 < c) : eks_Rounds.f c = some (0, 2) := by
  have e : size_Within.f c 4 31 = some false := by
    unfold size_Within.f
    by_cases h1 : c ≥ 4
    · rw [if_pos h1, decide_eq_false (by omega)]
    · rw [if_neg h1]
  unfold eks_Rounds.f
  rw [e]
  rfl
theorem bc_ck_cost {c : Int} {s w : ByteArray} (h : c < 4 ∨ 31 < c) : bcrypt_Check.f c s w = some 2 := by
  unfold bcrypt_Check.f
  rw [bc_rounds h]
  rfl
theorem bc_ck_in {c : Int} {s w : ByteArray} (h : ¬ (c < 4 ∨ 31 < c)) : bcrypt_Check.f c s w = some (if s.size = 16 then (if 72 < w.size then 3 else 0) else 9) := by
  obtain ⟨n, rfl⟩ : ∃ n : Nat, c = n := ⟨c.toNat, by omega⟩
  unfold bcrypt_Check.f
  rw [eks_in n (by omega) (by omega)]
  rw [Option.bind_some]
  refine Eq.trans (if_pos rfl) ?_
  by_cases h1 : s.size = 16
  · rw [if_pos h1, if_pos (by omega)]
    by_cases h2 : 72 < w.size
    · rw [if_pos h2, if_pos (by omega)]
    · rw [if_neg h2, if_neg (by omega)]
  · rw [if_neg h1, if_neg (by omega)]
noncomputable def pestlelaw26_BcryptSums.good (k : Nat) (a1 a2 : ByteArray) : Option Bool := (pestlelaw10_Plain.f k).bind fun p => (pestleref26_Sum.f k p 16 a1 a2).bind fun s => (if s = bcOut (ciSet a1 (bcKey a2) 16 (ciExpand ciPi (ciWord a1) (ciWord (bcKey a2)))) then some true else none)
noncomputable def pestlelaw26_BcryptSums.f (k : Nat) (a0 : Int) (a1 a2 : ByteArray) : Option Bool := (pestlelaw26_awake.f k).bind fun _ => (if 140737488351232 < a2.size then none else (if a0 < 4 ∨ 31 < a0 then some true else (if a1.size ≠ 16 then some true else (if 72 < a2.size then some true else (if a0 = 4 then pestlelaw26_BcryptSums.good k a1 a2 else some true)))))
theorem pestlelaw26_BcryptSums.yes {k : Nat} {a0 : Int} {a1 a2 : ByteArray} {r : Bool} (h : pestlelaw26_BcryptSums.f k a0 a1 a2 = some r) : r = true := by
  unfold pestlelaw26_BcryptSums.f at h
  replace h := Option.bind_eq_some_iff.mp h
  obtain ⟨_, _, h⟩ := h
  split at h
  · cases h
  split at h
  · exact (Option.some.inj h).symm
  split at h
  · exact (Option.some.inj h).symm
  split at h
  · exact (Option.some.inj h).symm
  split at h
  · unfold pestlelaw26_BcryptSums.good at h
    replace h := Option.bind_eq_some_iff.mp h
    obtain ⟨_, _, h⟩ := h
    replace h := Option.bind_eq_some_iff.mp h
    obtain ⟨_, _, h⟩ := h
    split at h
    · exact (Option.some.inj h).symm
    · cases h
  · exact (Option.some.inj h).symm
set_option maxHeartbeats 8000000 in
set_option maxRecDepth 100000 in
theorem pestlelaw26_BcryptSums.calls (k : Nat) (a0 : Int) (a1 : ByteArray) (a2 : ByteArray) (r : Bool) (w : World) (h : pestlelaw26_BcryptSums.f k a0 a1 a2 = some r) :
    Calls Try.prog 10 #[.int .i64 a0, .string a1, .string a2] w fun e w' => e = .returned (.bool r) ∧ Below w.heap.size w w' := by
  obtain rfl := pestlelaw26_BcryptSums.yes h
  unfold pestlelaw26_BcryptSums.f at h
  replace h := Option.bind_eq_some_iff.mp h
  obtain ⟨aw, A0, h⟩ := h
  obtain ⟨rfl, hpi, _⟩ := pestlelaw26_awake.yes A0
  replace A0 := Aside0.mk A0
  by_cases hz : 140737488351232 < a2.size
  · rw [if_pos hz] at h; cases h
  rw [if_neg hz] at h
  have HB := Aside0.mk (Below.refl w.heap.size w)
  have HK1 := Aside0.mk (show bcrypt_Key.f a2 = some (bcKey a2) from if_pos (by omega))
  have HK2 := Aside0.mk (show pestleref26_Key.f a2 = some (bcKey a2) from if_pos (by omega))
  by_cases hc : a0 < 4 ∨ 31 < a0
  · have HCK := Aside0.mk (bc_ck_cost (s := a1) (w := a2) hc)
    clear h hpi hz
    by_cases h4 : a0 < 4
    · have e1 : decide (a0 < 4) = true := decide_eq_true h4
      clear hc h4
      by_cases h200 : a2.size < 200
      · have l1 : decide ((a2.size : Int) < 200) = true := decide_eq_true (by omega)
        have l2 : decide (a2.size < 200) = true := decide_eq_true h200
        clear h200
        go_enter Try.func10, Try.ntmps10
        go_wp2_with (first | (go_at_call 37; (with_reducible refine (pestlelaw26_awake.calls k true _ A0.out).mono ?_); rintro e wn ⟨rfl, hb⟩; have n0_ := Aside0.mk (below_step HB.out hb); clear HB; have HB := n0_; clear n0_; clear hb) | (go_at_call 38; (with_reducible refine (bcrypt_Check.calls a0 a1 a2 2 _ HCK.out).mono ?_); rintro e wn ⟨rfl, hd⟩; have hb := below_of_drawn hd; have n0_ := Aside0.mk (below_step HB.out hb); clear HB; have HB := n0_; clear n0_; clear hb hd) | (go_at_call 39; (with_reducible refine (bcrypt_Key.calls a2 (bcKey a2) _ HK1.out).mono ?_); rintro e wn ⟨rfl, hb⟩; have n0_ := Aside0.mk (below_step HB.out hb); clear HB; have HB := n0_; clear n0_; clear hb) | (go_at_call 40; (with_reducible refine (pestleref26_Key.calls a2 (bcKey a2) _ HK2.out).mono ?_); rintro e wn ⟨rfl, hd⟩; have hb := below_of_drawn hd; have n0_ := Aside0.mk (below_step HB.out hb); clear HB; have HB := n0_; clear n0_; clear hb hd) | (go_at_call 41; (with_reducible refine (bcrypt_Sum.bad a0 a1 a2 2 _ HCK.out (by decide)).mono ?_); rintro e wn ⟨rfl, hb⟩; have n0_ := Aside0.mk (below_step HB.out hb); clear HB; have HB := n0_; clear n0_; clear hb))
        go_ret
        exact ⟨rfl, HB.out⟩
      · have l1 : decide ((a2.size : Int) < 200) = false := decide_eq_false (by omega)
        have l2 : decide (a2.size < 200) = false := decide_eq_false h200
        clear h200
        go_enter Try.func10, Try.ntmps10
        go_wp2_with (first | (go_at_call 37; (with_reducible refine (pestlelaw26_awake.calls k true _ A0.out).mono ?_); rintro e wn ⟨rfl, hb⟩; have n0_ := Aside0.mk (below_step HB.out hb); clear HB; have HB := n0_; clear n0_; clear hb) | (go_at_call 38; (with_reducible refine (bcrypt_Check.calls a0 a1 a2 2 _ HCK.out).mono ?_); rintro e wn ⟨rfl, hd⟩; have hb := below_of_drawn hd; have n0_ := Aside0.mk (below_step HB.out hb); clear HB; have HB := n0_; clear n0_; clear hb hd) | (go_at_call 39; (with_reducible refine (bcrypt_Key.calls a2 (bcKey a2) _ HK1.out).mono ?_); rintro e wn ⟨rfl, hb⟩; have n0_ := Aside0.mk (below_step HB.out hb); clear HB; have HB := n0_; clear n0_; clear hb) | (go_at_call 40; (with_reducible refine (pestleref26_Key.calls a2 (bcKey a2) _ HK2.out).mono ?_); rintro e wn ⟨rfl, hd⟩; have hb := below_of_drawn hd; have n0_ := Aside0.mk (below_step HB.out hb); clear HB; have HB := n0_; clear n0_; clear hb hd) | (go_at_call 41; (with_reducible refine (bcrypt_Sum.bad a0 a1 a2 2 _ HCK.out (by decide)).mono ?_); rintro e wn ⟨rfl, hb⟩; have n0_ := Aside0.mk (below_step HB.out hb); clear HB; have HB := n0_; clear n0_; clear hb))
        go_ret
        exact ⟨rfl, HB.out⟩
    · have e1 : decide (a0 < 4) = false := decide_eq_false h4
      have e2 : decide (31 < a0) = true := decide_eq_true (by omega)
      clear hc h4
      by_cases h200 : a2.size < 200
      · have l1 : decide ((a2.size : Int) < 200) = true := decide_eq_true (by omega)
        have l2 : decide (a2.size < 200) = true := decide_eq_true h200
        clear h200
        go_enter Try.func10, Try.ntmps10
        go_wp2_with (first | (go_at_call 37; (with_reducible refine (pestlelaw26_awake.calls k true _ A0.out).mono ?_); rintro e wn ⟨rfl, hb⟩; have n0_ := Aside0.mk (below_step HB.out hb); clear HB; have HB := n0_; clear n0_; clear hb) | (go_at_call 38; (with_reducible refine (bcrypt_Check.calls a0 a1 a2 2 _ HCK.out).mono ?_); rintro e wn ⟨rfl, hd⟩; have hb := below_of_drawn hd; have n0_ := Aside0.mk (below_step HB.out hb); clear HB; have HB := n0_; clear n0_; clear hb hd) | (go_at_call 39; (with_reducible refine (bcrypt_Key.calls a2 (bcKey a2) _ HK1.out).mono ?_); rintro e wn ⟨rfl, hb⟩; have n0_ := Aside0.mk (below_step HB.out hb); clear HB; have HB := n0_; clear n0_; clear hb) | (go_at_call 40; (with_reducible refine (pestleref26_Key.calls a2 (bcKey a2) _ HK2.out).mono ?_); rintro e wn ⟨rfl, hd⟩; have hb := below_of_drawn hd; have n0_ := Aside0.mk (below_step HB.out hb); clear HB; have HB := n0_; clear n0_; clear hb hd) | (go_at_call 41; (with_reducible refine (bcrypt_Sum.bad a0 a1 a2 2 _ HCK.out (by decide)).mono ?_); rintro e wn ⟨rfl, hb⟩; have n0_ := Aside0.mk (below_step HB.out hb); clear HB; have HB := n0_; clear n0_; clear hb))
        go_ret
        exact ⟨rfl, HB.out⟩
      · have l1 : decide ((a2.size : Int) < 200) = false := decide_eq_false (by omega)
        have l2 : decide (a2.size < 200) = false := decide_eq_false h200
        clear h200
        go_enter Try.func10, Try.ntmps10
        go_wp2_with (first | (go_at_call 37; (with_reducible refine (pestlelaw26_awake.calls k true _ A0.out).mono ?_); rintro e wn ⟨rfl, hb⟩; have n0_ := Aside0.mk (below_step HB.out hb); clear HB; have HB := n0_; clear n0_; clear hb) | (go_at_call 38; (with_reducible refine (bcrypt_Check.calls a0 a1 a2 2 _ HCK.out).mono ?_); rintro e wn ⟨rfl, hd⟩; have hb := below_of_drawn hd; have n0_ := Aside0.mk (below_step HB.out hb); clear HB; have HB := n0_; clear n0_; clear hb hd) | (go_at_call 39; (with_reducible refine (bcrypt_Key.calls a2 (bcKey a2) _ HK1.out).mono ?_); rintro e wn ⟨rfl, hb⟩; have n0_ := Aside0.mk (below_step HB.out hb); clear HB; have HB := n0_; clear n0_; clear hb) | (go_at_call 40; (with_reducible refine (pestleref26_Key.calls a2 (bcKey a2) _ HK2.out).mono ?_); rintro e wn ⟨rfl, hd⟩; have hb := below_of_drawn hd; have n0_ := Aside0.mk (below_step HB.out hb); clear HB; have HB := n0_; clear n0_; clear hb hd) | (go_at_call 41; (with_reducible refine (bcrypt_Sum.bad a0 a1 a2 2 _ HCK.out (by decide)).mono ?_); rintro e wn ⟨rfl, hb⟩; have n0_ := Aside0.mk (below_step HB.out hb); clear HB; have HB := n0_; clear n0_; clear hb))
        go_ret
        exact ⟨rfl, HB.out⟩
  rw [if_neg hc] at h
  have e1 : decide (a0 < 4) = false := decide_eq_false (by omega)
  have e2 : decide (31 < a0) = false := decide_eq_false (by omega)
  have hck := bc_ck_in (s := a1) (w := a2) hc
  by_cases hs : a1.size = 16
  case neg =>
    rw [if_neg hs] at hck
    have HCK := Aside0.mk hck
    have s1 : ((a1.size : Int) == 16) = false := beq_eq_false_iff_ne.2 (by omega)
    have s2 : ((a1.size : Int) != 16) = true := bne_iff_ne.2 (by omega)
    have s3 : (a1.size == 16) = false := beq_eq_false_iff_ne.2 hs
    have s4 : (a1.size != 16) = true := bne_iff_ne.2 hs
    clear h hpi hz hck hs hc
    by_cases h200 : a2.size < 200
    · have l1 : decide ((a2.size : Int) < 200) = true := decide_eq_true (by omega)
      have l2 : decide (a2.size < 200) = true := decide_eq_true h200
      clear h200
      go_enter Try.func10, Try.ntmps10
      go_wp2_with (first | (go_at_call 37; (with_reducible refine (pestlelaw26_awake.calls k true _ A0.out).mono ?_); rintro e wn ⟨rfl, hb⟩; have n0_ := Aside0.mk (below_step HB.out hb); clear HB; have HB := n0_; clear n0_; clear hb) | (go_at_call 38; (with_reducible refine (bcrypt_Check.calls a0 a1 a2 9 _ HCK.out).mono ?_); rintro e wn ⟨rfl, hd⟩; have hb := below_of_drawn hd; have n0_ := Aside0.mk (below_step HB.out hb); clear HB; have HB := n0_; clear n0_; clear hb hd) | (go_at_call 39; (with_reducible refine (bcrypt_Key.calls a2 (bcKey a2) _ HK1.out).mono ?_); rintro e wn ⟨rfl, hb⟩; have n0_ := Aside0.mk (below_step HB.out hb); clear HB; have HB := n0_; clear n0_; clear hb) | (go_at_call 40; (with_reducible refine (pestleref26_Key.calls a2 (bcKey a2) _ HK2.out).mono ?_); rintro e wn ⟨rfl, hd⟩; have hb := below_of_drawn hd; have n0_ := Aside0.mk (below_step HB.out hb); clear HB; have HB := n0_; clear n0_; clear hb hd) | (go_at_call 41; (with_reducible refine (bcrypt_Sum.bad a0 a1 a2 9 _ HCK.out (by decide)).mono ?_); rintro e wn ⟨rfl, hb⟩; have n0_ := Aside0.mk (below_step HB.out hb); clear HB; have HB := n0_; clear n0_; clear hb))
      go_ret
      exact ⟨rfl, HB.out⟩
    · have l1 : decide ((a2.size : Int) < 200) = false := decide_eq_false (by omega)
      have l2 : decide (a2.size < 200) = false := decide_eq_false h200
      clear h200
      go_enter Try.func10, Try.ntmps10
      go_wp2_with (first | (go_at_call 37; (with_reducible refine (pestlelaw26_awake.calls k true _ A0.out).mono ?_); rintro e wn ⟨rfl, hb⟩; have n0_ := Aside0.mk (below_step HB.out hb); clear HB; have HB := n0_; clear n0_; clear hb) | (go_at_call 38; (with_reducible refine (bcrypt_Check.calls a0 a1 a2 9 _ HCK.out).mono ?_); rintro e wn ⟨rfl, hd⟩; have hb := below_of_drawn hd; have n0_ := Aside0.mk (below_step HB.out hb); clear HB; have HB := n0_; clear n0_; clear hb hd) | (go_at_call 39; (with_reducible refine (bcrypt_Key.calls a2 (bcKey a2) _ HK1.out).mono ?_); rintro e wn ⟨rfl, hb⟩; have n0_ := Aside0.mk (below_step HB.out hb); clear HB; have HB := n0_; clear n0_; clear hb) | (go_at_call 40; (with_reducible refine (pestleref26_Key.calls a2 (bcKey a2) _ HK2.out).mono ?_); rintro e wn ⟨rfl, hd⟩; have hb := below_of_drawn hd; have n0_ := Aside0.mk (below_step HB.out hb); clear HB; have HB := n0_; clear n0_; clear hb hd) | (go_at_call 41; (with_reducible refine (bcrypt_Sum.bad a0 a1 a2 9 _ HCK.out (by decide)).mono ?_); rintro e wn ⟨rfl, hb⟩; have n0_ := Aside0.mk (below_step HB.out hb); clear HB; have HB := n0_; clear n0_; clear hb))
      go_ret
      exact ⟨rfl, HB.out⟩
  rw [if_neg (by omega)] at h
  rw [if_pos hs] at hck
  have s1 : ((a1.size : Int) == 16) = true := beq_iff_eq.2 (by omega)
  have s2 : ((a1.size : Int) != 16) = false := bne_eq_false_iff_eq.2 (by omega)
  have s3 : (a1.size == 16) = true := beq_iff_eq.2 hs
  have s4 : (a1.size != 16) = false := bne_eq_false_iff_eq.2 hs
  by_cases h72 : 72 < a2.size
  · rw [if_pos h72] at hck
    have HCK := Aside0.mk hck
    have t1 : decide ((72 : Int) < (a2.size : Int)) = true := decide_eq_true (by omega)
    have t2 : decide (72 < a2.size) = true := decide_eq_true h72
    clear h hpi hz hck hs hc h72
    by_cases h200 : a2.size < 200
    · have l1 : decide ((a2.size : Int) < 200) = true := decide_eq_true (by omega)
      have l2 : decide (a2.size < 200) = true := decide_eq_true h200
      clear h200
      go_enter Try.func10, Try.ntmps10
      go_wp2_with (first | (go_at_call 37; (with_reducible refine (pestlelaw26_awake.calls k true _ A0.out).mono ?_); rintro e wn ⟨rfl, hb⟩; have n0_ := Aside0.mk (below_step HB.out hb); clear HB; have HB := n0_; clear n0_; clear hb) | (go_at_call 38; (with_reducible refine (bcrypt_Check.calls a0 a1 a2 3 _ HCK.out).mono ?_); rintro e wn ⟨rfl, hd⟩; have hb := below_of_drawn hd; have n0_ := Aside0.mk (below_step HB.out hb); clear HB; have HB := n0_; clear n0_; clear hb hd) | (go_at_call 39; (with_reducible refine (bcrypt_Key.calls a2 (bcKey a2) _ HK1.out).mono ?_); rintro e wn ⟨rfl, hb⟩; have n0_ := Aside0.mk (below_step HB.out hb); clear HB; have HB := n0_; clear n0_; clear hb) | (go_at_call 40; (with_reducible refine (pestleref26_Key.calls a2 (bcKey a2) _ HK2.out).mono ?_); rintro e wn ⟨rfl, hd⟩; have hb := below_of_drawn hd; have n0_ := Aside0.mk (below_step HB.out hb); clear HB; have HB := n0_; clear n0_; clear hb hd) | (go_at_call 41; (with_reducible refine (bcrypt_Sum.bad a0 a1 a2 3 _ HCK.out (by decide)).mono ?_); rintro e wn ⟨rfl, hb⟩; have n0_ := Aside0.mk (below_step HB.out hb); clear HB; have HB := n0_; clear n0_; clear hb))
      go_ret
      exact ⟨rfl, HB.out⟩
    · have l1 : decide ((a2.size : Int) < 200) = false := decide_eq_false (by omega)
      have l2 : decide (a2.size < 200) = false := decide_eq_false h200
      clear h200
      go_enter Try.func10, Try.ntmps10
      go_wp2_with (first | (go_at_call 37; (with_reducible refine (pestlelaw26_awake.calls k true _ A0.out).mono ?_); rintro e wn ⟨rfl, hb⟩; have n0_ := Aside0.mk (below_step HB.out hb); clear HB; have HB := n0_; clear n0_; clear hb) | (go_at_call 38; (with_reducible refine (bcrypt_Check.calls a0 a1 a2 3 _ HCK.out).mono ?_); rintro e wn ⟨rfl, hd⟩; have hb := below_of_drawn hd; have n0_ := Aside0.mk (below_step HB.out hb); clear HB; have HB := n0_; clear n0_; clear hb hd) | (go_at_call 39; (with_reducible refine (bcrypt_Key.calls a2 (bcKey a2) _ HK1.out).mono ?_); rintro e wn ⟨rfl, hb⟩; have n0_ := Aside0.mk (below_step HB.out hb); clear HB; have HB := n0_; clear n0_; clear hb) | (go_at_call 40; (with_reducible refine (pestleref26_Key.calls a2 (bcKey a2) _ HK2.out).mono ?_); rintro e wn ⟨rfl, hd⟩; have hb := below_of_drawn hd; have n0_ := Aside0.mk (below_step HB.out hb); clear HB; have HB := n0_; clear n0_; clear hb hd) | (go_at_call 41; (with_reducible refine (bcrypt_Sum.bad a0 a1 a2 3 _ HCK.out (by decide)).mono ?_); rintro e wn ⟨rfl, hb⟩; have n0_ := Aside0.mk (below_step HB.out hb); clear HB; have HB := n0_; clear n0_; clear hb))
      go_ret
      exact ⟨rfl, HB.out⟩
  rw [if_neg h72] at h hck
  have HCK := Aside0.mk hck
  have t1 : decide ((72 : Int) < (a2.size : Int)) = false := decide_eq_false (by omega)
  have t2 : decide (72 < a2.size) = false := decide_eq_false h72
  have l1 : decide ((a2.size : Int) < 200) = true := decide_eq_true (by omega)
  have l2 : decide (a2.size < 200) = true := decide_eq_true (by omega)
  by_cases h4 : a0 = 4
  case neg =>
    have u1 : decide (4 < a0) = true := decide_eq_true (by omega)
    clear h hpi hz hck hs hc h72 h4
    go_enter Try.func10, Try.ntmps10
    go_wp2_with (first | (go_at_call 37; (with_reducible refine (pestlelaw26_awake.calls k true _ A0.out).mono ?_); rintro e wn ⟨rfl, hb⟩; have n0_ := Aside0.mk (below_step HB.out hb); clear HB; have HB := n0_; clear n0_; clear hb) | (go_at_call 38; (with_reducible refine (bcrypt_Check.calls a0 a1 a2 0 _ HCK.out).mono ?_); rintro e wn ⟨rfl, hd⟩; have hb := below_of_drawn hd; have n0_ := Aside0.mk (below_step HB.out hb); clear HB; have HB := n0_; clear n0_; clear hb hd) | (go_at_call 39; (with_reducible refine (bcrypt_Key.calls a2 (bcKey a2) _ HK1.out).mono ?_); rintro e wn ⟨rfl, hb⟩; have n0_ := Aside0.mk (below_step HB.out hb); clear HB; have HB := n0_; clear n0_; clear hb) | (go_at_call 40; (with_reducible refine (pestleref26_Key.calls a2 (bcKey a2) _ HK2.out).mono ?_); rintro e wn ⟨rfl, hd⟩; have hb := below_of_drawn hd; have n0_ := Aside0.mk (below_step HB.out hb); clear HB; have HB := n0_; clear n0_; clear hb hd))
    go_ret
    exact ⟨rfl, HB.out⟩
  subst h4
  rw [if_pos rfl] at h
  unfold pestlelaw26_BcryptSums.good at h
  replace h := Option.bind_eq_some_iff.mp h
  obtain ⟨p, A1, h⟩ := h
  replace h := Option.bind_eq_some_iff.mp h
  obtain ⟨S, A2, h⟩ := h
  by_cases q : S = bcOut (ciSet a1 (bcKey a2) 16 (ciExpand ciPi (ciWord a1) (ciWord (bcKey a2))))
  case neg => rw [if_neg q] at h; cases h
  have SM := fun (w : World) => bcrypt_Sum.calls k ciPi ciPi_ok hpi 4 16 a1 a2 w hck (eks_in 4 (by omega) (by omega)) (by omega) hs (by omega)
  rw [← q] at SM
  replace SM := Aside0.mk SM
  replace A1 := Aside0.mk A1
  replace A2 := Aside0.mk A2
  clear h hpi hz hck hs hc h72 q e1 e2
  go_enter Try.func10, Try.ntmps10
  go_wp2_with (first | (go_at_call 37; (with_reducible refine (pestlelaw26_awake.calls k true _ A0.out).mono ?_); rintro e wn ⟨rfl, hb⟩; have n0_ := Aside0.mk (below_step HB.out hb); clear HB; have HB := n0_; clear n0_; clear hb) | (go_at_call 38; (with_reducible refine (bcrypt_Check.calls 4 a1 a2 0 _ HCK.out).mono ?_); rintro e wn ⟨rfl, hd⟩; have hb := below_of_drawn hd; have n0_ := Aside0.mk (below_step HB.out hb); clear HB; have HB := n0_; clear n0_; clear hb hd) | (go_at_call 39; (with_reducible refine (bcrypt_Key.calls a2 (bcKey a2) _ HK1.out).mono ?_); rintro e wn ⟨rfl, hb⟩; have n0_ := Aside0.mk (below_step HB.out hb); clear HB; have HB := n0_; clear n0_; clear hb) | (go_at_call 40; (with_reducible refine (pestleref26_Key.calls a2 (bcKey a2) _ HK2.out).mono ?_); rintro e wn ⟨rfl, hd⟩; have hb := below_of_drawn hd; have n0_ := Aside0.mk (below_step HB.out hb); clear HB; have HB := n0_; clear n0_; clear hb hd) | (go_at_call 41; (with_reducible refine (SM.out _).mono ?_); rintro e wn ⟨rfl, hb⟩; have n0_ := Aside0.mk (below_step HB.out hb); clear HB; have HB := n0_; clear n0_; clear hb) | (go_at_call 20; (with_reducible refine (pestlelaw10_Plain.calls k p _ A1.out).mono ?_); rintro e wn ⟨v0_, rfl, hR, hb⟩; obtain ⟨Ad, cd, rfl⟩ := Kd.R_slice hR; have CP := Aside0.mk (Kd.R_reads' hR).2.2; have KP := Aside0.mk (Kd.R_reads' hR).2.1; have n0_ := Aside0.mk (below_step HB.out hb); clear HB; have HB := n0_; clear n0_; clear hb hR) | (go_at_call 42; (with_reducible refine (pestleref26_Sum.calls k _ _ p 16 a1 a2 S _ CP.out KP.out A2.out).mono ?_); rintro e wn ⟨rfl, hb⟩; clear CP KP; have n0_ := Aside0.mk (below_step HB.out hb); clear HB; have HB := n0_; clear n0_; clear hb))
  go_ret
  exact ⟨rfl, HB.out⟩

/-! ### pestlelaw26_BcryptEnds: function 11 -/
noncomputable def pestlelaw26_BcryptEnds.f (k : Nat) (a0 a1 : ByteArray) : Option Bool := (pestlelaw26_awake.f k).bind fun _ => (if a0.size ≠ 16 then some true else (if 71 < a1.size then some true else some true))
def strOf_ : Value → ByteArray
  | .string s => s
  | _ => ⟨#[]⟩
theorem bc_size (T : List Nat) : (bcOut T).size = 23 := by
  unfold bcOut
  have e : ((bcBy (ciSl T 64 3 0 bcMg)).take 23).length = 23 := by
    rw [List.length_take, bcBy_len, ciSl_len]; rfl
  generalize (bcBy (ciSl T 64 3 0 bcMg)).take 23 = l at e
  rw [← e]
  exact strOfNums_size l
theorem bc_end (s : ByteArray) (h : s.size = 71) : bcKey (s ++ (⟨#[0]⟩ : ByteArray)) = bcKey s := by
  have h1 : (s ++ (⟨#[0]⟩ : ByteArray)).size = 72 := by rw [ByteArray.size_append, h]; rfl
  unfold bcKey
  rw [if_pos (by omega), if_neg (by omega), ← h1]
  apply ByteArray.ext
  rw [ByteArray.data_extract, ByteArray.data_append]
  show ((s ++ (⟨#[0]⟩ : ByteArray)).data ++ #[0]).extract 0 (s ++ (⟨#[0]⟩ : ByteArray)).data.size = _
  generalize (s ++ (⟨#[0]⟩ : ByteArray)).data = A
  simp
set_option maxHeartbeats 8000000 in
set_option maxRecDepth 100000 in
theorem pestlelaw26_BcryptEnds.calls (k : Nat) (a0 : ByteArray) (a1 : ByteArray) (r : Bool) (w : World) (h : pestlelaw26_BcryptEnds.f k a0 a1 = some r) :
    Calls Try.prog 11 #[.string a0, .string a1] w fun e w' => e = .returned (.bool r) ∧ Below w.heap.size w w' := by
  unfold pestlelaw26_BcryptEnds.f at h
  replace h := Option.bind_eq_some_iff.mp h
  obtain ⟨aw, A0, h⟩ := h
  obtain ⟨rfl, hpi, _⟩ := pestlelaw26_awake.yes A0
  replace A0 := Aside0.mk A0
  have HB := Aside0.mk (Below.refl w.heap.size w)
  by_cases hs : a0.size = 16
  case neg =>
    rw [if_pos hs] at h
    obtain rfl := Option.some.inj h
    have s1 : ((a0.size : Int) == 16) = false := beq_eq_false_iff_ne.2 (by omega)
    have s2 : ((a0.size : Int) != 16) = true := bne_iff_ne.2 (by omega)
    have s3 : (a0.size == 16) = false := beq_eq_false_iff_ne.2 hs
    have s4 : (a0.size != 16) = true := bne_iff_ne.2 hs
    clear h hs hpi
    go_enter Try.func11, Try.ntmps11
    go_wp2_with (first | (go_at_call 37; (with_reducible refine (pestlelaw26_awake.calls k true _ A0.out).mono ?_); rintro e wn ⟨rfl, hb⟩; have n0_ := Aside0.mk (below_step HB.out hb); clear HB; have HB := n0_; clear n0_; clear hb))
    go_ret
    exact ⟨rfl, HB.out⟩
  rw [if_neg (fun q => q hs)] at h
  have s1 : ((a0.size : Int) == 16) = true := beq_iff_eq.2 (by omega)
  have s2 : ((a0.size : Int) != 16) = false := bne_eq_false_iff_eq.2 (by omega)
  have s3 : (a0.size == 16) = true := beq_iff_eq.2 hs
  have s4 : (a0.size != 16) = false := bne_eq_false_iff_eq.2 hs
  by_cases h71 : 71 < a1.size
  · rw [if_pos h71] at h
    obtain rfl := Option.some.inj h
    have t1 : decide ((71 : Int) < (a1.size : Int)) = true := decide_eq_true (by omega)
    have t2 : decide (71 < a1.size) = true := decide_eq_true h71
    clear h hs hpi h71
    go_enter Try.func11, Try.ntmps11
    go_wp2_with (first | (go_at_call 37; (with_reducible refine (pestlelaw26_awake.calls k true _ A0.out).mono ?_); rintro e wn ⟨rfl, hb⟩; have n0_ := Aside0.mk (below_step HB.out hb); clear HB; have HB := n0_; clear n0_; clear hb))
    go_ret
    exact ⟨rfl, HB.out⟩
  rw [if_neg h71] at h
  obtain rfl := Option.some.inj h
  have t1 : decide ((71 : Int) < (a1.size : Int)) = false := decide_eq_false (by omega)
  have t2 : decide (71 < a1.size) = false := decide_eq_false h71
  have L0 := Aside0.mk (show a1.size ≤ 71 by omega)
  have SM := Aside0.mk (fun (s : ByteArray) (hl : s.size ≤ 72) (w : World) => bcrypt_Sum.calls k ciPi ciPi_ok hpi 4 16 a0 s w (by rw [bc_ck_in (by omega), if_pos hs, if_neg (by omega)]) (eks_in 4 (by omega) (by omega)) (by omega) hs hl)
  clear h hs hpi h71
  go_enter Try.func11, Try.ntmps11
  go_wp2_with (first | (go_at_call 37; (with_reducible refine (pestlelaw26_awake.calls k true _ A0.out).mono ?_); rintro e wn ⟨rfl, hb⟩; have n0_ := Aside0.mk (below_step HB.out hb); clear HB; have HB := n0_; clear n0_; clear hb))
  clear t1 t2
  go_loopw [1] (fun v1 wz => ∃ s : ByteArray, s.size ≤ 71 ∧ v1 = .string s ∧ Aside0 (Below w.heap.size w wz)) (fun v1 _ => 71 - (strOf_ v1).size)
  case atStart => exact ⟨a1, L0.out, rfl, HB⟩
  case round =>
    clear HB
    obtain ⟨s, hl, rfl, HB⟩ := hrel
    by_cases hlt : s.size < 71
    · have p1 : decide ((s.size : Int) < 71) = true := decide_eq_true (by omega)
      have p2 : decide (s.size < 71) = true := decide_eq_true hlt
      have e0 : (s ++ (⟨#[120]⟩ : ByteArray)).size = s.size + 1 := by rw [ByteArray.size_append]; rfl
      have c2 : (9223372036854775807 < s.size + 1) = False := eq_false (by omega)
      have EL := Aside0.mk hlt
      have E0 := Aside0.mk e0
      clear hlt hl
      go_wp2
      exact ⟨⟨_, by have := EL.out; have := E0.out; omega, rfl, HB⟩, by have := EL.out; have := E0.out; simp only [strOf_]; omega⟩
    · have p1 : decide ((s.size : Int) < 71) = false := decide_eq_false (by omega)
      have p2 : decide (s.size < 71) = false := decide_eq_false hlt
      have h1 : s.size = 71 := by omega
      have e0 : (s ++ (⟨#[0]⟩ : ByteArray)).size = 72 := by rw [ByteArray.size_append, h1]; rfl
      have c2 : (9223372036854775807 < s.size + 1) = False := eq_false (by omega)
      have SA := Aside0.mk (SM.out s (by omega))
      have SB := Aside0.mk (SM.out (s ++ (⟨#[0]⟩ : ByteArray)) (by omega))
      rw [bc_end s h1] at SB
      have hz := bc_size (ciSet a0 (bcKey s) 16 (ciExpand ciPi (ciWord a0) (ciWord (bcKey s))))
      obtain ⟨S, hS⟩ : ∃ S, bcOut (ciSet a0 (bcKey s) 16 (ciExpand ciPi (ciWord a0) (ciWord (bcKey s)))) = S := ⟨_, rfl⟩
      rw [hS] at SA SB hz
      have z1 : ((S.size : Int) == 23) = true := beq_iff_eq.2 (by omega)
      have z2 : (S.size == 23) = true := beq_iff_eq.2 hz
      clear hlt hl h1 e0 SM hS hz
      go_wp2_with (first | (go_at_call 41; (with_reducible refine (SA.out _).mono ?_); rintro e wn ⟨rfl, hb⟩; have n0_ := Aside0.mk (below_step HB.out hb); clear HB; have HB := n0_; clear n0_; clear hb) | (go_at_call 41; (with_reducible refine (SB.out _).mono ?_); rintro e wn ⟨rfl, hb⟩; have n0_ := Aside0.mk (below_step HB.out hb); clear HB; have HB := n0_; clear n0_; clear hb))
      go_ret
      exact ⟨rfl, HB.out⟩

end Go.Proofs.Ytimgndceiibaeaa.Pall
