/- Bytes as numbers below 64 and back, by their places in groups of three and four: plain lists of numbers. -/
import Derived.Test.YtoknoghdnedmhaaLib
namespace Go.Proofs.Ytoknoghdnedmhaa.SexMath

/-- bytes as numbers below 64: so many bytes into a group of three, and what is held of the last one -/
def encP : Nat → Nat → List Nat → List Nat
  | 0, _, [] => []
  | 1, c, [] => [c * 16]
  | _ + 2, c, [] => [c * 4]
  | 0, _, a :: l => a / 4 :: encP 1 (a % 4) l
  | 1, c, a :: l => (c * 16 + a / 16) :: encP 2 (a % 16) l
  | _ + 2, c, a :: l => (c * 4 + a / 64) :: (a % 64) :: encP 0 0 l
/-- numbers below 64 as bytes, if they are bytes' -/
def decP : Nat → Nat → List Nat → Option (List Nat)
  | 0, _, [] => some []
  | 1, _, [] => none
  | _ + 2, c, [] => if c = 0 then some [] else none
  | 0, _, v :: l => decP 1 v l
  | 1, c, v :: l => (decP 2 (v % 16) l).map ((c * 4 + v / 16) :: ·)
  | 2, c, v :: l => (decP 3 (v % 4) l).map ((c * 16 + v / 4) :: ·)
  | _ + 3, c, v :: l => (decP 0 0 l).map ((c * 64 + v) :: ·)
/-- the bytes that are whole, whatever is left -/
def decF : Nat → Nat → List Nat → List Nat
  | _, _, [] => []
  | 0, _, v :: l => decF 1 v l
  | 1, c, v :: l => (c * 4 + v / 16) :: decF 2 (v % 16) l
  | 2, c, v :: l => (c * 16 + v / 4) :: decF 3 (v % 4) l
  | _ + 3, c, v :: l => (c * 64 + v) :: decF 0 0 l

theorem dec_enc (l : List Nat) (h : ∀ x ∈ l, x < 256) : decP 0 0 (encP 0 0 l) = some l ∧ (∀ u c, u < 64 → c < 4 → decP 1 u (encP 1 c l) = some ((u * 4 + c) :: l)) ∧ (∀ u c, u < 16 → c < 16 → decP 2 u (encP 2 c l) = some ((u * 16 + c) :: l)) := by
  induction l with
  | nil =>
    refine ⟨rfl, fun u c hu hc => ?_, fun u c hu hc => ?_⟩
    · have e1 : c * 16 / 16 = c := by omega
      have e2 : c * 16 % 16 = 0 := by omega
      simp only [encP, decP, e1, e2, if_pos, Option.map_some]
    · have e1 : c * 4 / 4 = c := by omega
      have e2 : c * 4 % 4 = 0 := by omega
      simp only [encP, decP, e1, e2, if_pos, Option.map_some]
  | cons a l ih =>
    have ha : a < 256 := h a (List.mem_cons_self ..)
    obtain ⟨i0, i1, i2⟩ := ih (fun x hx => h x (List.mem_cons_of_mem _ hx))
    refine ⟨?_, fun u c hu hc => ?_, fun u c hu hc => ?_⟩
    · simp only [encP, decP]
      rw [i1 _ _ (by omega) (by omega), show a / 4 * 4 + a % 4 = a by omega]
    · simp only [encP, decP]
      rw [i2 _ _ (by omega) (by omega), Option.map_some, show (c * 16 + a / 16) / 16 = c by omega, show (c * 16 + a / 16) % 16 * 16 + a % 16 = a by omega]
    · simp only [encP, decP]
      rw [i0, Option.map_some, Option.map_some, show (c * 4 + a / 64) / 4 = c by omega, show (c * 4 + a / 64) % 4 * 64 + a % 64 = a by omega]

theorem enc_dec (v : List Nat) (h : ∀ x ∈ v, x < 64) :
    (∀ l, decP 0 0 v = some l → encP 0 0 l = v ∧ l = decF 0 0 v) ∧
    (∀ u l, u < 64 → decP 1 u v = some l → encP 0 0 l = u :: v ∧ l = decF 1 u v) ∧
    (∀ b u l, b < 4 → u < 16 → decP 2 u v = some l → encP 1 b l = (b * 16 + u) :: v ∧ l = decF 2 u v) ∧
    (∀ b u l, b < 16 → u < 4 → decP 3 u v = some l → encP 2 b l = (b * 4 + u) :: v ∧ l = decF 3 u v) := by
  induction v with
  | nil =>
    refine ⟨fun l e => ?_, fun u l hu e => ?_, fun b u l hb hu e => ?_, fun b u l hb hu e => ?_⟩
    · simp only [decP] at e; obtain rfl := Option.some.inj e; exact ⟨rfl, rfl⟩
    · simp only [decP] at e; cases e
    · simp only [decP] at e
      by_cases h0 : u = 0
      · rw [if_pos h0] at e; obtain rfl := Option.some.inj e; subst h0; exact ⟨rfl, rfl⟩
      · rw [if_neg h0] at e; cases e
    · simp only [decP] at e
      by_cases h0 : u = 0
      · rw [if_pos h0] at e; obtain rfl := Option.some.inj e; subst h0; exact ⟨rfl, rfl⟩
      · rw [if_neg h0] at e; cases e
  | cons x v ih =>
    have hx : x < 64 := h x (List.mem_cons_self ..)
    obtain ⟨i0, i1, i2, i3⟩ := ih (fun y hy => h y (List.mem_cons_of_mem _ hy))
    refine ⟨fun l e => ?_, fun u l hu e => ?_, fun b u l hb hu e => ?_, fun b u l hb hu e => ?_⟩
    · simp only [decP] at e
      exact i1 x l hx e
    · simp only [decP] at e
      obtain ⟨m, hm, rfl⟩ := Option.map_eq_some_iff.mp e
      have := i2 (u % 4 * 0 + (u * 4 + x / 16) % 4) (x % 16) m (by omega) (by omega) hm
      refine ⟨?_, by simp only [decF]; rw [this.2]⟩
      simp only [encP]
      rw [show (u * 4 + x / 16) / 4 = u by omega]
      have e2 : u % 4 * 0 + (u * 4 + x / 16) % 4 = (u * 4 + x / 16) % 4 := by omega
      rw [e2] at this
      rw [this.1, show (u * 4 + x / 16) % 4 * 16 + x % 16 = x by omega]
    · simp only [decP] at e
      obtain ⟨m, hm, rfl⟩ := Option.map_eq_some_iff.mp e
      have := i3 ((u * 16 + x / 4) % 16) (x % 4) m (by omega) (by omega) hm
      refine ⟨?_, by simp only [decF]; rw [this.2]⟩
      simp only [encP]
      rw [this.1, show b * 16 + (u * 16 + x / 4) / 16 = b * 16 + u by omega, show (u * 16 + x / 4) % 16 * 4 + x % 4 = x by omega]
    · simp only [decP] at e
      obtain ⟨m, hm, rfl⟩ := Option.map_eq_some_iff.mp e
      have := i0 m hm
      refine ⟨?_, by simp only [decF]; rw [this.2]⟩
      simp only [encP]
      rw [this.1, show b * 4 + (u * 64 + x) / 64 = b * 4 + u by omega, show (u * 64 + x) % 64 = x by omega]
theorem dec_bytes (v : List Nat) (h : ∀ x ∈ v, x < 64) : (∀ x ∈ decF 0 0 v, x < 256) ∧ (∀ u, u < 64 → ∀ x ∈ decF 1 u v, x < 256) ∧ (∀ u, u < 16 → ∀ x ∈ decF 2 u v, x < 256) ∧ (∀ u, u < 4 → ∀ x ∈ decF 3 u v, x < 256) := by
  induction v with
  | nil => simp [decF]
  | cons y v ih =>
    have hy : y < 64 := h y (List.mem_cons_self ..)
    obtain ⟨i0, i1, i2, i3⟩ := ih (fun z hz => h z (List.mem_cons_of_mem _ hz))
    refine ⟨fun x hx => ?_, fun u hu x hx => ?_, fun u hu x hx => ?_, fun u hu x hx => ?_⟩
    · simp only [decF] at hx; exact i1 y hy x hx
    · simp only [decF] at hx
      rcases List.mem_cons.mp hx with rfl | hx
      · omega
      · exact i2 _ (by omega) x hx
    · simp only [decF] at hx
      rcases List.mem_cons.mp hx with rfl | hx
      · omega
      · exact i3 _ (by omega) x hx
    · simp only [decF] at hx
      rcases List.mem_cons.mp hx with rfl | hx
      · omega
      · exact i0 x hx
/-- what is written just so is read, and nothing else -/
theorem dec_iff (v : List Nat) (h : ∀ x ∈ v, x < 64) : decP 0 0 v = if encP 0 0 (decF 0 0 v) = v then some (decF 0 0 v) else none := by
  by_cases c : encP 0 0 (decF 0 0 v) = v
  · rw [if_pos c]
    have := (dec_enc (decF 0 0 v) (dec_bytes v h).1).1
    rwa [c] at this
  · rw [if_neg c]
    cases e : decP 0 0 v with
    | none => rfl
    | some l =>
      have := (enc_dec v h).1 l e
      rw [this.2] at this
      exact absurd this.1 c
theorem enc_len (l : List Nat) : (encP 0 0 l).length = (8 * l.length + 5) / 6 ∧ (∀ c, (encP 1 c l).length = (8 * l.length + 7) / 6) ∧ (∀ c, (encP 2 c l).length = (8 * l.length + 9) / 6) := by
  induction l with
  | nil => exact ⟨rfl, fun c => rfl, fun c => rfl⟩
  | cons a l ih =>
    obtain ⟨i0, i1, i2⟩ := ih
    refine ⟨?_, fun c => ?_, fun c => ?_⟩
    · simp only [encP, List.length_cons]; rw [i1]; omega
    · simp only [encP, List.length_cons]; rw [i2]; omega
    · simp only [encP, List.length_cons]; rw [i0]; omega
theorem enc_lt (l : List Nat) (h : ∀ x ∈ l, x < 256) : (∀ x ∈ encP 0 0 l, x < 64) ∧ (∀ c, c < 4 → ∀ x ∈ encP 1 c l, x < 64) ∧ (∀ c, c < 16 → ∀ x ∈ encP 2 c l, x < 64) := by
  induction l with
  | nil =>
    refine ⟨by simp [encP], fun c hc x hx => ?_, fun c hc x hx => ?_⟩
    · simp only [encP, List.mem_singleton] at hx; omega
    · simp only [encP, List.mem_singleton] at hx; omega
  | cons a l ih =>
    have ha : a < 256 := h a (List.mem_cons_self ..)
    obtain ⟨i0, i1, i2⟩ := ih (fun z hz => h z (List.mem_cons_of_mem _ hz))
    refine ⟨fun x hx => ?_, fun c hc x hx => ?_, fun c hc x hx => ?_⟩
    · simp only [encP] at hx
      rcases List.mem_cons.mp hx with rfl | hx
      · omega
      · exact i1 _ (by omega) x hx
    · simp only [encP] at hx
      rcases List.mem_cons.mp hx with rfl | hx
      · omega
      · exact i2 _ (by omega) x hx
    · simp only [encP] at hx
      rcases List.mem_cons.mp hx with rfl | hx
      · omega
      · rcases List.mem_cons.mp hx with rfl | hx
        · omega
        · exact i0 x hx
end Go.Proofs.Ytoknoghdnedmhaa.SexMath
