/- Plain lemmas on rounds, wrapped numbers, lists and bytes: what the proofs of this seat lean on. -/
import Derived.Test.YtiicjhibnobhdaaWWords
import Derived.Test.YtiicjhibnobhdaaWLast
namespace Go.Proofs.Ytiicjhibnobhdaa.Lib
open Go.RowKit Go.Proofs.YtiicjhibnobhdaaW.PrintWords Go.Proofs.YtiicjhibnobhdaaW.PrintLast

/-- With enough rounds g answers r. -/
def To {α : Type} (g : Nat → Option α) (r : α) : Prop := ∃ m, ∀ k, m ≤ k → g k = some r
theorem To.of {α : Type} {g : Nat → Option α} {r : α} (h : ∀ k, g k = some r) : To g r := ⟨0, fun k _ => h k⟩
theorem To.ret {α : Type} (r : α) : To (fun _ => some r) r := ⟨0, fun _ _ => rfl⟩
theorem To.ret' {α : Type} {a r : α} (h : a = r) : To (fun _ => some a) r := ⟨0, fun _ _ => by rw [h]⟩
theorem To.step {α : Type} {g : Nat → Option α} {r : α} (h : To (fun k => g (k + 1)) r) : To g r := by
  obtain ⟨m, h⟩ := h
  refine ⟨m + 1, fun k hk => ?_⟩
  obtain ⟨k, rfl⟩ : ∃ j, k = j + 1 := ⟨k - 1, by omega⟩
  exact h k (by omega)
theorem To.bind {α β : Type} {g : Nat → Option α} {f : Nat → α → Option β} {a : α} {r : β} (h : To g a) (h' : To (fun k => f k a) r) : To (fun k => (g k).bind (f k)) r := by
  obtain ⟨m, h⟩ := h
  obtain ⟨n, h'⟩ := h'
  refine ⟨m + n, fun k hk => ?_⟩
  show (g k).bind (f k) = _
  rw [h k (by omega)]
  exact h' k (by omega)
theorem To.bind0 {α β : Type} {g : Option α} {f : Nat → α → Option β} {a : α} {r : β} (h : g = some a) (h' : To (fun k => f k a) r) : To (fun k => g.bind (f k)) r := To.bind ⟨0, fun _ _ => h⟩ h'
theorem To.pos {α : Type} {c : Prop} [Decidable c] {f g : Nat → Option α} {r : α} (hc : c) (h : To f r) : To (fun k => if c then f k else g k) r := by
  obtain ⟨m, h⟩ := h
  exact ⟨m, fun k hk => (if_pos hc).trans (h k hk)⟩
theorem To.neg {α : Type} {c : Prop} [Decidable c] {f g : Nat → Option α} {r : α} (hc : ¬ c) (h : To g r) : To (fun k => if c then f k else g k) r := by
  obtain ⟨m, h⟩ := h
  exact ⟨m, fun k hk => (if_neg hc).trans (h k hk)⟩
theorem To.ite {α : Type} {c : Prop} [Decidable c] {f g : Nat → Option α} {r : α} (h : c → To f r) (h' : ¬ c → To g r) : To (fun k => if c then f k else g k) r := by
  by_cases hc : c
  · exact To.pos hc (h hc)
  · exact To.neg hc (h' hc)
theorem To.eq {α : Type} {g : Nat → Option α} {r r' : α} (h : To g r) (e : r = r') : To g r' := e ▸ h
theorem To.ends {α : Type} {g : Nat → Option α} {r : α} (h : To g r) : ∃ k, g k = some r := by
  obtain ⟨m, h⟩ := h
  exact ⟨m, h m (Nat.le_refl m)⟩
theorem To.up {α : Type} {g : Nat → Option α} {r : α} (hm : ∀ k, LeO (g k) (g (k + 1))) {k : Nat} (h : g k = some r) : To g r := ⟨k, fun _ hk => at_rounds hm hk h⟩
theorem To.both {α β : Type} {g : Nat → Option α} {f : Nat → Option β} {r : α} {q : β} (h : To g r) (h' : To f q) : ∃ k, g k = some r ∧ f k = some q := by
  obtain ⟨m, h⟩ := h
  obtain ⟨n, h'⟩ := h'
  exact ⟨m + n, h _ (by omega), h' _ (by omega)⟩

theorem wrap_id {x : Int} (h1 : -9223372036854775808 ≤ x) (h2 : x ≤ 9223372036854775807) : wrap64 x = x := by unfold wrap64; omega
theorem wf_i64 {x : Int} (h : (Lit.int .i64 x).wf = true) : -9223372036854775808 ≤ x ∧ x ≤ 9223372036854775807 := by
  simp [Lit.wf, IntKind.min, IntKind.max, IntKind.signed, IntKind.bits] at h
  omega

theorem rd_nat {l : List Int} {n : Nat} (h : n < l.length) : rd l (n : Int) = l[n] := by
  unfold rd
  simp [List.getD_eq_getElem?_getD, h]
theorem rd_mem {l : List Int} {n : Nat} (h : n < l.length) : rd l (n : Int) ∈ l := by rw [rd_nat h]; exact List.getElem_mem h
theorem drop_cons {α : Type} {l : List α} {n : Nat} (h : n < l.length) : l.drop n = l[n] :: l.drop (n + 1) := List.drop_eq_getElem_cons h
end Go.Proofs.Ytiicjhibnobhdaa.Lib
