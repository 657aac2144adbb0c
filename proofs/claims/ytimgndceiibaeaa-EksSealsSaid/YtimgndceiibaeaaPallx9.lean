-- PRINTED by print.py (a twelfth state) out of the translation. Not trusted: Lean checks it.
import Derived.Test.YtimgndceiibaeaaPallx0
import Derived.Test.YtimgndceiibaeaaPallx1
import Derived.Test.YtimgndceiibaeaaPallx3
import Derived.Test.YtimgndceiibaeaaPallx6
import Derived.Test.YtimgndceiibaeaaPallx7
import Derived.Test.YtimgndceiibaeaaPallx8
namespace Go.Proofs.Ytimgndceiibaeaa.Pall
open Go.RowKit Go.Proofs.YtimgndceiibaeaaW.PrintWords Go.Proofs.YtimgndceiibaeaaW.PrintLast Go.Proofs.YtimgndceiibaeaaW.PrintMore
attribute [local go_sem] max2_int min2_int max_two min_two max_three min_three max_four min_four   -- for this text's walks alone
set_option linter.unusedVariables false
set_option linter.unusedSimpArgs false

/-! ### pestlelaw11_EksSeals: function 9 -/
noncomputable def ciTs (key : ByteArray) : List Nat := ciExpand ciPi (ciWord ciE) (ciWord key)
/-- whole numbers that are not below 0, as such -/
def ciN (l : List Int) : List Nat := l.map Int.toNat
theorem ciN_is {l : List Int} (h : ∀ x ∈ l, 0 ≤ x ∧ x < 4294967296) : l = ciI (ciN l) := by
  unfold ciI ciN
  rw [List.map_map]
  refine (List.map_id l).symm.trans (List.map_congr_left fun x hx => ?_)
  have := h x hx
  show x = ((x.toNat : Nat) : Int)
  omega
theorem ciN_u {l : List Int} (h : ∀ x ∈ l, 0 ≤ x ∧ x < 4294967296) : ciU (ciN l) := by
  intro i
  unfold ciW ciN
  rw [List.getD_eq_getElem?_getD, List.getElem?_map]
  cases e : l[i]? with
  | none => show 0 < 4294967296; omega
  | some x =>
    have := h x (List.mem_of_getElem? e)
    show x.toNat < 4294967296
    omega
noncomputable def pestlelaw11_EksSeals.good (k : Nat) (a0 : ByteArray) (m : Nat) (l : List Int) : Option Bool := (pestlelaw10_Plain.f k).bind fun p => (pestleref10_Expand.f k p ⟨#[]⟩ a0).bind fun t => (pestleref11_Seal.f k t (m : Int) l).bind fun v => (if (∀ x ∈ l, 0 ≤ x ∧ x < 4294967296) ∧ v = ciI (ciSl (ciTs a0) m (l.length / 2) 0 (ciN l)) then some true else none)
noncomputable def pestlelaw11_EksSeals.f (k : Nat) (a0 : ByteArray) (a1 : Int) (l : List Int) : Option Bool := if a0.size = 0 ∨ 72 < a0.size then some true else (if pi_Words.f k 0 1042 = some (ciI ciPi, 0) then (if 40 < l.length then some true else (if a1 < 0 ∨ 1024 < a1 then some true else (if l.length % 2 ≠ 0 then some true else pestlelaw11_EksSeals.good k a0 a1.toNat l))) else none)
theorem pestlelaw11_EksSeals.yes {k : Nat} {a0 : ByteArray} {a1 : Int} {l : List Int} {r : Bool} (h : pestlelaw11_EksSeals.f k a0 a1 l = some r) : r = true := by
  unfold pestlelaw11_EksSeals.f at h
  split at h
  · exact (Option.some.inj h).symm
  split at h
  case isFalse => cases h
  split at h
  · exact (Option.some.inj h).symm
  split at h
  · exact (Option.some.inj h).symm
  split at h
  · exact (Option.some.inj h).symm
  unfold pestlelaw11_EksSeals.good at h
  replace h := Option.bind_eq_some_iff.mp h
  obtain ⟨_, _, h⟩ := h
  replace h := Option.bind_eq_some_iff.mp h
  obtain ⟨_, _, h⟩ := h
  replace h := Option.bind_eq_some_iff.mp h
  obtain ⟨_, _, h⟩ := h
  split at h
  · exact (Option.some.inj h).symm
  · cases h
theorem pestleref11_Seal.calls0 (k : Nat) (A0 : Option Addr) (c0 : Nat) (l0 : List Int) (a1 : Int) (A2 : Option Addr) (c2 : Nat) (w : World) (hr0 : Kd.C (Kd.int .u32) w A0 l0.length l0) (hc0 : l0.length ≤ c0) (hr2 : Kd.C (Kd.int .u32) w A2 ([] : List Int).length []) (h : pestleref11_Seal.f k l0 a1 [] = some []) :
    Calls Try.prog 36 #[.slice A0 l0.length c0, .int .i64 a1, .slice A2 0 c2] w fun e w' => ∃ v0_ : Value, e = .returned (v0_) ∧ Kd.R (Kd.int .u32) 23 w' w.heap.size (fun _ => True) v0_ [] ∧ Below w.heap.size w w' := pestleref11_Seal.calls k A0 c0 l0 a1 A2 c2 [] [] w hr0 hc0 hr2 (Nat.zero_le _) h
set_option maxHeartbeats 8000000 in
set_option maxRecDepth 100000 in
theorem pestlelaw11_EksSeals.calls (k : Nat) (a0 : ByteArray) (a1 : Int) (A2 : Option Addr) (c2 : Nat) (l2 : List Int) (r : Bool) (w : World) (hr2 : Kd.C (Kd.int .u32) w A2 l2.length l2) (hc2 : l2.length ≤ c2) (h : pestlelaw11_EksSeals.f k a0 a1 l2 = some r) :
    Calls Try.prog 9 #[.string a0, .int .i64 a1, .slice A2 l2.length c2] w fun e w' => e = .returned (.bool r) ∧ Below w.heap.size w w' := by
  obtain rfl := pestlelaw11_EksSeals.yes h
  have A0 := Aside0.mk (show pestlelaw11_awake.f k = some true from rfl)
  have HB := Aside0.mk (Below.refl w.heap.size w)
  have HR2 := Aside0.mk hr2
  have HC2 := Aside0.mk hc2
  clear hr2 hc2
  unfold pestlelaw11_EksSeals.f at h
  by_cases hb : a0.size = 0 ∨ 72 < a0.size
  · have HBAD := Aside0.mk hb
    clear h hb HR2 HC2
    go_enter Try.func9, Try.ntmps9
    go_wp2_with (first | (go_at_call 31; with_reducible refine (pestlelaw11_awake.calls k true _ A0.out).mono ?_; rintro e wn ⟨rfl, hb⟩; have n0_ := Aside0.mk (below_step HB.out hb); clear HB; have HB := n0_; clear n0_; clear hb) | (go_at_call 27; with_reducible refine (cipher_New.bad a0 _ HBAD.out).mono ?_; rintro e wn ⟨rfl, hb⟩; have n0_ := Aside0.mk (below_step HB.out hb); clear HB; have HB := n0_; clear n0_; clear hb) | (go_at_call 35; with_reducible refine (eks_Seal.nul _ A2 _ c2 _).mono ?_; rintro e wn ⟨rfl, hb⟩; have n0_ := Aside0.mk (below_step HB.out hb); clear HB; have HB := n0_; clear n0_; clear hb))
    go_ret
    exact ⟨rfl, HB.out⟩
  rw [if_neg hb] at h
  by_cases hp : pi_Words.f k 0 1042 = some (ciI ciPi, 0)
  case neg => rw [if_neg hp] at h; cases h
  rw [if_pos hp] at h
  have HP := Aside0.mk hp
  have N0 := Aside0.mk (show ¬ a0.size = 0 by omega)
  have N1 := Aside0.mk (show a0.size ≤ 72 by omega)
  have HT := Aside0.mk (ciExpand_pi ciE a0)
  obtain ⟨T, hT⟩ : ∃ T, ciTs a0 = T := ⟨_, rfl⟩
  rw [show ciExpand ciPi (ciWord ciE) (ciWord a0) = T from hT] at HT
  have hTs := Aside0.mk hT
  replace hT := Aside0.mk (show ciExpand ciPi (ciWord ciE) (ciWord a0) = T from hT)
  clear hb hp
  by_cases h40 : 40 < l2.length
  · have e1 : decide ((40 : Int) < (l2.length : Int)) = true := decide_eq_true (by omega)
    have e2 : decide (40 < l2.length) = true := decide_eq_true h40
    clear h h40
    go_enter Try.func9, Try.ntmps9
    go_wp2_with (first | (go_at_call 31; with_reducible refine (pestlelaw11_awake.calls k true _ A0.out).mono ?_; rintro e wn ⟨rfl, hb⟩; have n0_ := Aside0.mk (below_step HB.out hb); clear HB; have HB := n0_; clear n0_; clear hb) | (go_at_call 27; with_reducible refine (cipher_New.calls k ciPi ciPi_ok HP.out a0 _ N0.out N1.out).mono ?_; rintro e wn ⟨g, hg, rfl, hc, hb⟩; rw [hT.out] at hc; have HC := Aside0.mk hc; have n0_ := Aside0.mk (below_step HB.out hb); clear HB; have HB := n0_; clear n0_; clear hb hg hc) | (go_at_call 35; with_reducible refine (eks_Seal.nul _ A2 _ c2 _).mono ?_; rintro e wn ⟨rfl, hb⟩; have n0_ := Aside0.mk (below_step HB.out hb); have n1_ := Aside0.mk (HC.out.next hb); clear HB HC; have HB := n0_; have HC := n1_; clear n0_ n1_; clear hb))
    go_ret
    exact ⟨rfl, HB.out⟩
  rw [if_neg h40] at h
  have e1 : decide ((40 : Int) < (l2.length : Int)) = false := decide_eq_false (by omega)
  have e2 : decide (40 < l2.length) = false := decide_eq_false h40
  have L40 := Aside0.mk (show l2.length ≤ 40 by omega)
  by_cases ht : a1 < 0 ∨ 1024 < a1
  · have HTT := Aside0.mk ht
    by_cases h0 : a1 < 0
    · have e3 : decide (a1 < 0) = true := decide_eq_true h0
      clear h ht h0 h40
      go_enter Try.func9, Try.ntmps9
      go_wp2_with (first | (go_at_call 31; with_reducible refine (pestlelaw11_awake.calls k true _ A0.out).mono ?_; rintro e wn ⟨rfl, hb⟩; have n0_ := Aside0.mk (below_step HB.out hb); clear HB; have HB := n0_; clear n0_; clear hb) | (go_at_call 27; with_reducible refine (cipher_New.calls k ciPi ciPi_ok HP.out a0 _ N0.out N1.out).mono ?_; rintro e wn ⟨g, hg, rfl, hc, hb⟩; rw [hT.out] at hc; have HC := Aside0.mk hc; have n0_ := Aside0.mk (below_step HB.out hb); clear HB; have HB := n0_; clear n0_; clear hb hg hc) | (go_at_call 35; with_reducible refine (eks_Seal.nul _ A2 _ c2 _).mono ?_; rintro e wn ⟨rfl, hb⟩; have n0_ := Aside0.mk (below_step HB.out hb); have n1_ := Aside0.mk (HC.out.next hb); clear HB HC; have HB := n0_; have HC := n1_; clear n0_ n1_; clear hb) | (go_at_call 35; with_reducible refine (eks_Seal.times g a1 A2 _ c2 _ HTT.out).mono ?_; rintro e wn ⟨rfl, hb⟩; have n0_ := Aside0.mk (below_step HB.out hb); have n1_ := Aside0.mk (HC.out.next hb); clear HB HC; have HB := n0_; have HC := n1_; clear n0_ n1_; clear hb))
      go_ret
      exact ⟨rfl, HB.out⟩
    · have e3 : decide (a1 < 0) = false := decide_eq_false h0
      have e4 : decide (1024 < a1) = true := decide_eq_true (by omega)
      clear h ht h0 h40
      go_enter Try.func9, Try.ntmps9
      go_wp2_with (first | (go_at_call 31; with_reducible refine (pestlelaw11_awake.calls k true _ A0.out).mono ?_; rintro e wn ⟨rfl, hb⟩; have n0_ := Aside0.mk (below_step HB.out hb); clear HB; have HB := n0_; clear n0_; clear hb) | (go_at_call 27; with_reducible refine (cipher_New.calls k ciPi ciPi_ok HP.out a0 _ N0.out N1.out).mono ?_; rintro e wn ⟨g, hg, rfl, hc, hb⟩; rw [hT.out] at hc; have HC := Aside0.mk hc; have n0_ := Aside0.mk (below_step HB.out hb); clear HB; have HB := n0_; clear n0_; clear hb hg hc) | (go_at_call 35; with_reducible refine (eks_Seal.nul _ A2 _ c2 _).mono ?_; rintro e wn ⟨rfl, hb⟩; have n0_ := Aside0.mk (below_step HB.out hb); have n1_ := Aside0.mk (HC.out.next hb); clear HB HC; have HB := n0_; have HC := n1_; clear n0_ n1_; clear hb) | (go_at_call 35; with_reducible refine (eks_Seal.times g a1 A2 _ c2 _ HTT.out).mono ?_; rintro e wn ⟨rfl, hb⟩; have n0_ := Aside0.mk (below_step HB.out hb); have n1_ := Aside0.mk (HC.out.next hb); clear HB HC; have HB := n0_; have HC := n1_; clear n0_ n1_; clear hb))
      go_ret
      exact ⟨rfl, HB.out⟩
  rw [if_neg ht] at h
  have e3 : decide (a1 < 0) = false := decide_eq_false (by omega)
  have e4 : decide (1024 < a1) = false := decide_eq_false (by omega)
  have M0 := Aside0.mk (show 0 ≤ a1 by omega)
  have M1 := Aside0.mk (show a1 ≤ 1024 by omega)
  by_cases hodd : l2.length % 2 ≠ 0
  · have HOD := Aside0.mk hodd
    have f3 : Int.tmod (l2.length : Int) 2 = 1 := by rw [Int.tmod_eq_emod_of_nonneg (by omega)]; omega
    have f4 : IntKind.i64.wrap (Int.tmod (l2.length : Int) 2) = 1 := by rw [f3]; rfl
    have f5 : (Int.tmod (l2.length : Int) 2 != 0) = true := by rw [f3]; rfl
    clear h ht h40 hodd
    go_enter Try.func9, Try.ntmps9
    go_wp2_with (first | (go_at_call 31; with_reducible refine (pestlelaw11_awake.calls k true _ A0.out).mono ?_; rintro e wn ⟨rfl, hb⟩; have n0_ := Aside0.mk (below_step HB.out hb); clear HB; have HB := n0_; clear n0_; clear hb) | (go_at_call 27; with_reducible refine (cipher_New.calls k ciPi ciPi_ok HP.out a0 _ N0.out N1.out).mono ?_; rintro e wn ⟨g, hg, rfl, hc, hb⟩; rw [hT.out] at hc; have HC := Aside0.mk hc; have n0_ := Aside0.mk (below_step HB.out hb); clear HB; have HB := n0_; clear n0_; clear hb hg hc) | (go_at_call 35; with_reducible refine (eks_Seal.nul _ A2 _ c2 _).mono ?_; rintro e wn ⟨rfl, hb⟩; have n0_ := Aside0.mk (below_step HB.out hb); have n1_ := Aside0.mk (HC.out.next hb); clear HB HC; have HB := n0_; have HC := n1_; clear n0_ n1_; clear hb) | (go_at_call 35; with_reducible refine (eks_Seal.odd g a1 A2 _ c2 _ M0.out M1.out HOD.out).mono ?_; rintro e wn ⟨rfl, hb⟩; have n0_ := Aside0.mk (below_step HB.out hb); have n1_ := Aside0.mk (HC.out.next hb); clear HB HC; have HB := n0_; have HC := n1_; clear n0_ n1_; clear hb))
    go_ret
    exact ⟨rfl, HB.out⟩
  rw [if_neg hodd] at h
  have f3 : Int.tmod (l2.length : Int) 2 = 0 := by rw [Int.tmod_eq_emod_of_nonneg (by omega)]; omega
  have f4 : IntKind.i64.wrap (Int.tmod (l2.length : Int) 2) = 0 := by rw [f3]; rfl
  have f5 : (Int.tmod (l2.length : Int) 2 != 0) = false := by rw [f3]; rfl
  obtain ⟨m, rfl⟩ : ∃ m : Nat, a1 = m := ⟨a1.toNat, by omega⟩
  rw [Int.toNat_natCast] at h
  have M2 := Aside0.mk (show m ≤ 1024 by omega)
  have e3n : decide (m < 0) = false := decide_eq_false (by omega)
  have e4n : decide (1024 < m) = false := decide_eq_false (by omega)
  have HEV := Aside0.mk (show l2.length % 2 = 0 by omega)
  unfold pestlelaw11_EksSeals.good at h
  replace h := Option.bind_eq_some_iff.mp h
  obtain ⟨p, A1, h⟩ := h
  replace h := Option.bind_eq_some_iff.mp h
  obtain ⟨t, A2_, h⟩ := h
  replace h := Option.bind_eq_some_iff.mp h
  obtain ⟨v, A3, h⟩ := h
  rw [hTs.out] at h
  obtain ⟨V, hV⟩ : ∃ V, ciSl T m (l2.length / 2) 0 (ciN l2) = V := ⟨_, rfl⟩
  rw [hV] at h
  by_cases q : (∀ x ∈ l2, 0 ≤ x ∧ x < 4294967296) ∧ v = ciI V
  case neg => rw [if_neg q] at h; cases h
  obtain ⟨q0, q3⟩ := q
  have q1 := ciN_is q0
  have q2 := ciN_u q0
  have LL := Aside0.mk (show (ciN l2).length = l2.length from List.length_map _)
  have VL := Aside0.mk (show V.length = l2.length by rw [← hV, ciSl_len]; exact LL.out)
  have vl := Aside0.mk (show v.length = l2.length by rw [q3, ciI_len]; exact VL.out)
  have QU := Aside0.mk q2
  have QV := Aside0.mk q3
  have HR3 := Aside0.mk (show Kd.C (Kd.int .u32) w A2 l2.length (ciI (ciN l2)) by rw [← q1]; exact HR2.out)
  replace hV := Aside0.mk hV
  replace A1 := Aside0.mk A1
  replace A2_ := Aside0.mk A2_
  replace A3 := Aside0.mk A3
  clear h ht h40 hodd q0 q1 q2 q3
  by_cases hz : l2.length = 0
  · obtain rfl : l2 = [] := List.eq_nil_of_length_eq_zero hz
    obtain rfl : v = [] := List.eq_nil_of_length_eq_zero vl.out
    clear hz f3 f4 f5 e1 e2
    go_enter Try.func9, Try.ntmps9
    go_wp2_with (first | (go_at_call 31; with_reducible refine (pestlelaw11_awake.calls k true _ A0.out).mono ?_; rintro e wn ⟨rfl, hb⟩; have n0_ := Aside0.mk (below_step HB.out hb); have n1_ := Aside0.mk (Kd.C_below HR2.out hb); clear HB HR2; have HB := n0_; have HR2 := n1_; clear n0_ n1_; clear hb) | (go_at_call 27; with_reducible refine (cipher_New.calls k ciPi ciPi_ok HP.out a0 _ N0.out N1.out).mono ?_; rintro e wn ⟨g, hg, rfl, hc, hb⟩; rw [hT.out] at hc; have HC := Aside0.mk hc; have n0_ := Aside0.mk (below_step HB.out hb); have n1_ := Aside0.mk (Kd.C_below HR2.out hb); clear HB HR2; have HB := n0_; have HR2 := n1_; clear n0_ n1_; clear hb hg hc) | (go_at_call 35; with_reducible refine (eks_Seal.nul _ A2 _ c2 _).mono ?_; rintro e wn ⟨rfl, hb⟩; have n0_ := Aside0.mk (below_step HB.out hb); have n1_ := Aside0.mk (Kd.C_below HR2.out hb); have n2_ := Aside0.mk (HC.out.next hb); clear HB HR2 HC; have HB := n0_; have HR2 := n1_; have HC := n2_; clear n0_ n1_ n2_; clear hb) | (go_at_call 35; with_reducible refine (eks_Seal.zero g m M2.out A2 c2 _).mono ?_; rintro e wn ⟨rfl, hb⟩; have n0_ := Aside0.mk (below_step HB.out hb); have n1_ := Aside0.mk (Kd.C_below HR2.out hb); have n2_ := Aside0.mk (HC.out.next hb); clear HB HR2 HC; have HB := n0_; have HR2 := n1_; have HC := n2_; clear n0_ n1_ n2_; clear hb) | (go_at_call 20; with_reducible refine (pestlelaw10_Plain.calls k p _ A1.out).mono ?_; rintro e wn ⟨v0_, rfl, hR, hb⟩; obtain ⟨Ad, cd, rfl⟩ := Kd.R_slice hR; have CP := Aside0.mk (Kd.R_reads' hR).2.2; have KP := Aside0.mk (Kd.R_reads' hR).2.1; have n0_ := Aside0.mk (below_step HB.out hb); have n1_ := Aside0.mk (Kd.C_below HR2.out hb); have n2_ := Aside0.mk (HC.out.next hb); clear HB HR2 HC; have HB := n0_; have HR2 := n1_; have HC := n2_; clear n0_ n1_ n2_; clear hb hR) | (go_at_call 22; with_reducible refine (pestleref10_Expand.calls k _ _ p ⟨#[]⟩ a0 t _ CP.out KP.out A2_.out).mono ?_; rintro e wn ⟨v0_, rfl, hR, hb⟩; clear CP KP; obtain ⟨Ad, cd, rfl⟩ := Kd.R_slice hR; have CT := Aside0.mk (Kd.R_reads' hR).2.2; have KT := Aside0.mk (Kd.R_reads' hR).2.1; have n0_ := Aside0.mk (below_step HB.out hb); have n1_ := Aside0.mk (Kd.C_below HR2.out hb); have n2_ := Aside0.mk (HC.out.next hb); clear HB HR2 HC; have HB := n0_; have HR2 := n1_; have HC := n2_; clear n0_ n1_ n2_; clear hb hR) | (go_at_call 36; with_reducible refine (pestleref11_Seal.calls0 k _ _ t (m : Int) A2 c2 _ CT.out KT.out HR2.out A3.out).mono ?_; rintro e wn ⟨v0_, rfl, hR, hb⟩; clear CT KT; obtain ⟨Ad, cd, rfl⟩ := Kd.R_slice hR; have CW := Aside0.mk (Kd.R_reads' hR).2.2; have KW := Aside0.mk (Kd.R_reads' hR).2.1; have n0_ := Aside0.mk (below_step HB.out hb); have n1_ := Aside0.mk (Kd.C_below HR2.out hb); have n2_ := Aside0.mk (HC.out.next hb); clear HB HR2 HC; have HB := n0_; have HR2 := n1_; have HC := n2_; clear n0_ n1_ n2_; clear hb hR))
    go_loopw [90] (fun v90 wz => v90 = .int .i64 0 ∧ Aside0 (Below w.heap.size w wz)) (fun v90 _ => 0)
    case atStart => exact ⟨rfl, HB⟩
    case round =>
      clear HB
      obtain ⟨rfl, HB⟩ := hrel
      go_wp2
      go_ret
      exact ⟨rfl, HB.out⟩
  obtain ⟨ad, rfl⟩ : ∃ ad, A2 = some ad := by
    obtain ⟨ad, e, _⟩ := Kd.at_int HR2.out 0 (by omega) (by omega)
    exact ⟨ad, e⟩
  have LP := Aside0.mk (show 0 < l2.length by omega)
  clear hz
  go_enter Try.func9, Try.ntmps9
  go_wp2_with (first | (go_at_call 31; with_reducible refine (pestlelaw11_awake.calls k true _ A0.out).mono ?_; rintro e wn ⟨rfl, hb⟩; have n0_ := Aside0.mk (below_step HB.out hb); have n1_ := Aside0.mk (Kd.C_below HR2.out hb); have n2_ := Aside0.mk (Kd.C_below HR3.out hb); clear HB HR2 HR3; have HB := n0_; have HR2 := n1_; have HR3 := n2_; clear n0_ n1_ n2_; clear hb) | (go_at_call 27; with_reducible refine (cipher_New.calls k ciPi ciPi_ok HP.out a0 _ N0.out N1.out).mono ?_; rintro e wn ⟨g, hg, rfl, hc, hb⟩; rw [hT.out] at hc; have HC := Aside0.mk hc; have n0_ := Aside0.mk (below_step HB.out hb); have n1_ := Aside0.mk (Kd.C_below HR2.out hb); have n2_ := Aside0.mk (Kd.C_below HR3.out hb); clear HB HR2 HR3; have HB := n0_; have HR2 := n1_; have HR3 := n2_; clear n0_ n1_ n2_; clear hb hg hc) | (go_at_call 35; with_reducible refine (eks_Seal.nul _ (some ad) _ c2 _).mono ?_; rintro e wn ⟨rfl, hb⟩; have n0_ := Aside0.mk (below_step HB.out hb); have n1_ := Aside0.mk (Kd.C_below HR2.out hb); have n2_ := Aside0.mk (Kd.C_below HR3.out hb); have n3_ := Aside0.mk (HC.out.next hb); clear HB HR2 HR3 HC; have HB := n0_; have HR2 := n1_; have HR3 := n2_; have HC := n3_; clear n0_ n1_ n2_ n3_; clear hb) | (go_at_call 35; with_reducible refine (eks_Seal.calls g T HT.out m M2.out ad l2.length c2 (ciN l2) LL.out QU.out LP.out L40.out HEV.out _ HC.out HR3.out).mono ?_; rintro e wn ⟨gb, z, hgb, rfl, hu, hb⟩; rw [hV.out] at hu; have HU := Aside0.mk hu; have n0_ := Aside0.mk (below_step HB.out hb); have n1_ := Aside0.mk (Kd.C_below HR2.out hb); have n2_ := Aside0.mk (Kd.C_below HR3.out hb); have n3_ := Aside0.mk (HC.out.next hb); clear HB HR2 HR3 HC; have HB := n0_; have HR2 := n1_; have HR3 := n2_; have HC := n3_; clear n0_ n1_ n2_ n3_; clear hb hu hgb) | (go_at_call 20; with_reducible refine (pestlelaw10_Plain.calls k p _ A1.out).mono ?_; rintro e wn ⟨v0_, rfl, hR, hb⟩; obtain ⟨Ad, cd, rfl⟩ := Kd.R_slice hR; have CP := Aside0.mk (Kd.R_reads' hR).2.2; have KP := Aside0.mk (Kd.R_reads' hR).2.1; have n0_ := Aside0.mk (below_step HB.out hb); have n1_ := Aside0.mk (Kd.C_below HR2.out hb); have n2_ := Aside0.mk (HU.out.next hb); clear HB HR2 HU; have HB := n0_; have HR2 := n1_; have HU := n2_; clear n0_ n1_ n2_; clear hb hR) | (go_at_call 22; with_reducible refine (pestleref10_Expand.calls k _ _ p ⟨#[]⟩ a0 t _ CP.out KP.out A2_.out).mono ?_; rintro e wn ⟨v0_, rfl, hR, hb⟩; clear CP KP; obtain ⟨Ad, cd, rfl⟩ := Kd.R_slice hR; have CT := Aside0.mk (Kd.R_reads' hR).2.2; have KT := Aside0.mk (Kd.R_reads' hR).2.1; have n0_ := Aside0.mk (below_step HB.out hb); have n1_ := Aside0.mk (Kd.C_below HR2.out hb); have n2_ := Aside0.mk (HU.out.next hb); clear HB HR2 HU; have HB := n0_; have HR2 := n1_; have HU := n2_; clear n0_ n1_ n2_; clear hb hR) | (go_at_call 36; with_reducible refine (pestleref11_Seal.calls k _ _ t (m : Int) (some ad) c2 l2 v _ CT.out KT.out HR2.out HC2.out A3.out).mono ?_; rintro e wn ⟨v0_, rfl, hR, hb⟩; clear CT KT; obtain ⟨Ad, cd, rfl⟩ := Kd.R_slice hR; rw [vl.out]; have CW := Aside0.mk (Kd.R_reads' hR).2.2; have KW := Aside0.mk (Kd.R_reads' hR).2.1; have n0_ := Aside0.mk (below_step HB.out hb); have n1_ := Aside0.mk (Kd.C_below HR2.out hb); have n2_ := Aside0.mk (HU.out.next hb); clear HB HR2 HU; have HB := n0_; have HR2 := n1_; have HU := n2_; clear n0_ n1_ n2_; clear hb hR))
  clear HR2 HC f3 f4 f5 e1 e2 e3 e4 e3n e4n
  have LL2 := Aside0.mk (show (l2.length : Int) ≤ 40 by have := L40.out; omega)
  go_loopw [90] (fun v90 wz => ∃ i : Nat, i ≤ l2.length ∧ v90 = .int .i64 (i : Int) ∧ Aside0 (Ci 23 wz gb (V ++ z)) ∧ Aside0 (Kd.C (Kd.int .u32) wz Ad v.length v) ∧ Aside0 (Below w.heap.size w wz)) (fun v90 _ => l2.length - (intOf v90).toNat)
  case atStart => exact ⟨0, by omega, rfl, HU, CW, HB⟩
  case round =>
    clear HU CW HB
    obtain ⟨i, hi, rfl, HU, CW, HB⟩ := hrel
    by_cases hlt : i < l2.length
    · have p1 : decide ((i : Int) < (l2.length : Int)) = true := decide_eq_true (by omega)
      have p2 : decide (i < l2.length) = true := decide_eq_true hlt
      have iv : (i : Int) < (v.length : Int) := by have := vl.out; omega
      obtain ⟨ad', e', hx⟩ := Kd.at_int CW.out (i : Int) (by omega) iv
      cases e'
      have hcell := HU.out.cellN i (by rw [List.length_append, VL.out]; omega)
      rw [ciW_app (by rw [VL.out]; exact hlt)] at hcell
      rw [show rd v (i : Int) = ((ciW V i : Nat) : Int) by rw [QV.out]; exact ciI_rd V i (by rw [VL.out]; exact hlt)] at hx
      rw [show ((i : Int)).toNat = i from rfl] at hx
      have p3 : (i < l2.length) = True := eq_true hlt
      have p4 : ((i : Int) < (l2.length : Int)) = True := eq_true (by omega)
      have hadd : IntKind.i64.wrap ((i : Int) + 1) = (i : Int) + 1 := by
        have := LL2.out
        rw [IntKind.wrap_i64]; omega
      have IH := Aside0.mk hlt
      clear hlt hi iv
      go_wp2
      repeat (go_quiet (fail); try go_wp2)
      exact ⟨⟨i + 1, by have := IH.out; omega, by rfl, ⟨HU.out.next (by repeat (first | exact Below.refl _ _ | apply below_alloc | apply pw_below_drewN | apply below_drew1))⟩, ⟨Kd.C_below CW.out (by repeat (first | exact Below.refl _ _ | apply below_alloc | apply pw_below_drewN | apply below_drew1))⟩, ⟨by repeat (first | exact HB.out | apply below_alloc | apply pw_below_drewN | apply below_drew1)⟩⟩, by simp [intOf]; have := IH.out; omega⟩
    · obtain rfl : i = l2.length := by omega
      have p1 : decide ((l2.length : Int) < (l2.length : Int)) = false := decide_eq_false (by omega)
      have p2 : decide (l2.length < l2.length) = false := decide_eq_false (by omega)
      clear hlt hi
      go_wp2
      go_ret
      exact ⟨rfl, HB.out⟩

end Go.Proofs.Ytimgndceiibaeaa.Pall
