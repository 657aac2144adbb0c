/- policies: the algorithms that are ranked, in order. -/
import Derived.Test.YtiicjhibnobhdaaLib
import Derived.Test.YtiicjhibnobhdaaPallx4
namespace Go.Proofs.Ytiicjhibnobhdaa.Pol2
open Go.RowKit Go.Proofs.Ytiicjhibnobhdaa.Pall Go.Proofs.YtiicjhibnobhdaaW.PrintWords Go.Proofs.YtiicjhibnobhdaaW.PrintLast Go.Proofs.Ytiicjhibnobhdaa.Lib

/-- an algorithm may stand in the list, all being below n -/
def good (p : PV) (n : Nat) (x : Int) : Prop := 1 ≤ x ∧ x < n ∧ 1 ≤ rkAt p x.toNat
/-- one stands ahead of another: it ranks higher, or the same and its number is lower -/
def ahead (p : PV) (x y : Int) : Prop := rkAt p y.toNat < rkAt p x.toNat ∨ (rkAt p x.toNat = rkAt p y.toNat ∧ x < y)
structure Inv (p : PV) (n : Nat) (l : List Int) : Prop where
  good : ∀ x ∈ l, good p n x
  chain : l.Pairwise (ahead p)
theorem ahead_trans {p : PV} {x y z : Int} (h : ahead p x y) (k : ahead p y z) : ahead p x z := by
  unfold ahead at *
  omega
theorem pos_le (p : PV) (l : List Int) (x : Int) : ∀ m, rkPos p l x m ≤ m
  | 0 => Nat.le_refl _
  | m + 1 => by
    rw [rkPos_succ]
    split
    · have := pos_le p l x m; omega
    · exact Nat.le_refl _
/-- behind the place all rank lower, ahead of it the last one doesn't -/
theorem pos_spec (p : PV) (l : List Int) (x : Int) : ∀ m, m ≤ l.length → (∀ i, rkPos p l x m ≤ i → i < m → rkAt p (l.getD i 0).toNat < x) ∧ (0 < rkPos p l x m → ¬ rkAt p (l.getD (rkPos p l x m - 1) 0).toNat < x)
  | 0, _ => ⟨fun i _ h => by omega, fun h => absurd h (Nat.lt_irrefl 0)⟩
  | m + 1, hm => by
    rw [rkPos_succ]
    by_cases q : rkAt p (l.getD m 0).toNat < x
    · rw [if_pos q]
      have ih := pos_spec p l x m (by omega)
      refine ⟨fun i h1 h2 => ?_, ih.2⟩
      by_cases e : i = m
      · subst e; exact q
      · exact ih.1 i h1 (by omega)
    · rw [if_neg q]
      exact ⟨fun i h1 h2 => by omega, fun _ => q⟩
theorem put_inv {p : PV} {n : Nat} {l : List Int} (h : Inv p n l) (hn : 1 ≤ n) (hr : 1 ≤ rkAt p n) : Inv p (n + 1) (rkPut p l n) := by
  have hs := pos_spec p l (rkAt p n) l.length (Nat.le_refl _)
  have hle := pos_le p l (rkAt p n) l.length
  unfold rkPut
  generalize rkPos p l (rkAt p n) l.length = m at hs hle
  have hget : ∀ i (hi : i < l.length), l.getD i 0 = l[i] := fun i hi => by rw [List.getD_eq_getElem?_getD, List.getElem?_eq_getElem hi]; rfl
  have front : ∀ x ∈ l.take m, ahead p x (n : Int) := by
    intro x hx
    obtain ⟨i, hi, rfl⟩ := List.mem_iff_getElem.1 hx
    rw [List.length_take] at hi
    rw [List.getElem_take]
    have h0 := hs.2 (by omega)
    rw [hget (m - 1) (by omega)] at h0
    have gl := h.good l[m - 1] (List.getElem_mem _)
    have last : ahead p l[m - 1] (n : Int) := by
      unfold good at gl
      unfold ahead
      rw [Int.toNat_natCast]
      omega
    by_cases e : i = m - 1
    · subst e; exact last
    · exact ahead_trans (List.pairwise_iff_getElem.1 h.chain i (m - 1) (by omega) (by omega) (by omega)) last
  have back : ∀ x ∈ l.drop m, ahead p (n : Int) x := by
    intro x hx
    obtain ⟨i, hi, rfl⟩ := List.mem_iff_getElem.1 hx
    rw [List.length_drop] at hi
    rw [List.getElem_drop]
    have h0 := hs.1 (m + i) (by omega) (by omega)
    rw [hget (m + i) (by omega)] at h0
    exact Or.inl (by rw [Int.toNat_natCast]; exact h0)
  refine ⟨fun x hx => ?_, ?_⟩
  · have old : ∀ x ∈ l, good p (n + 1) x := fun x hx => by
      have := h.good x hx
      unfold good at this ⊢
      omega
    rcases List.mem_append.1 hx with hx | hx
    · exact old x (List.mem_of_mem_take hx)
    · rcases List.mem_append.1 hx with hx | hx
      · rw [List.mem_singleton.1 hx]
        unfold good
        rw [Int.toNat_natCast]
        omega
      · exact old x (List.mem_of_mem_drop hx)
  · refine List.pairwise_append.2 ⟨h.chain.sublist (List.take_sublist _ _), ?_, ?_⟩
    · refine List.pairwise_append.2 ⟨List.pairwise_singleton _ _, h.chain.sublist (List.drop_sublist _ _), fun a ha b hb => ?_⟩
      rw [List.mem_singleton.1 ha]
      exact back b hb
    · intro a ha b hb
      rcases List.mem_append.1 hb with hb | hb
      · rw [List.mem_singleton.1 hb]; exact front a ha
      · exact ahead_trans (front a ha) (back b hb)
theorem run_inv {p : PV} : ∀ (d n : Nat) (l : List Int), 1 ≤ n → Inv p n l → Inv p (n + d) (rkRun p d n l) ∧ (rkRun p d n l).length = l.length + rkCnt p d n
  | 0, n, l, _, h => ⟨h, rfl⟩
  | d + 1, n, l, hn, h => by
    rw [rkRun_succ, rkCnt_succ]
    by_cases q : rkAt p n < 1
    · rw [if_pos q, if_neg (by omega)]
      have i := run_inv d (n + 1) l (by omega) ⟨fun x hx => (by have := h.good x hx; unfold good at this ⊢; omega), h.chain⟩
      rw [show n + (d + 1) = n + 1 + d by omega, Nat.zero_add]
      exact i
    · rw [if_neg q, if_pos (by omega)]
      have i := run_inv d (n + 1) (rkPut p l n) (by omega) (put_inv h hn (by omega))
      rw [rkPut_len] at i
      rw [show n + (d + 1) = n + 1 + d by omega]
      exact ⟨i.1, by rw [i.2]; omega⟩
theorem all_ok (p : PV) : rkAll p (rkRun p 6 1 []) := by
  obtain ⟨⟨hg, hc⟩, hl⟩ := run_inv (p := p) 6 1 [] (by omega) ⟨fun x hx => (by cases hx), List.Pairwise.nil⟩
  generalize rkRun p 6 1 [] = l at hg hc hl
  have hget : ∀ i (hi : i < l.length), l.getD i 0 = l[i] := fun i hi => by rw [List.getD_eq_getElem?_getD, List.getElem?_eq_getElem hi]; rfl
  refine ⟨by rw [hl]; exact Nat.zero_add _, fun i hi => ?_⟩
  have g := hg l[i] (List.getElem_mem _)
  unfold good at g
  unfold rkFits
  rw [hget i hi]
  refine ⟨by omega, fun h0 => ?_⟩
  rw [hget (i - 1) (by omega)]
  have a := List.pairwise_iff_getElem.1 hc (i - 1) i (by omega) hi (by omega)
  unfold ahead at a
  omega
end Go.Proofs.Ytiicjhibnobhdaa.Pol2
