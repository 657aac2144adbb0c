namespace Go.Proofs.Ytimgndceiibaeaa.PiMath
/-- the sum of f at 0 to n - 1 -/
def sm (f : Nat → Nat) : Nat → Nat
  | 0 => 0
  | n + 1 => sm f n + f n
theorem sm_succ (f : Nat → Nat) (n : Nat) : sm f (n + 1) = sm f n + f n := rfl
theorem sm_congr {f g : Nat → Nat} {n : Nat} (h : ∀ k, k < n → f k = g k) : sm f n = sm g n := by
  induction n with
  | zero => rfl
  | succ n ih => rw [sm_succ, sm_succ, ih (fun k hk => h k (by omega)), h n (by omega)]
def S (j M : Nat) : Nat := sm (fun k => 16 ^ (M - k) / (8 * k + j)) (M + 1)
theorem div_part (a b c : Nat) (hc : 0 < c) : a / c + b / c ≤ (a + b) / c ∧ (a + b) / c ≤ a / c + b / c + 1 := by
  have h1 := Nat.div_add_mod a c
  have h2 := Nat.div_add_mod b c
  have h3 := Nat.div_add_mod (a + b) c
  have m1 := Nat.mod_lt a hc
  have m2 := Nat.mod_lt b hc
  have m3 := Nat.mod_lt (a + b) hc
  constructor
  · rw [Nat.le_div_iff_mul_le hc, Nat.add_mul]
    have := Nat.mul_comm (a / c) c; have := Nat.mul_comm (b / c) c; omega
  · have : (a + b) / c < a / c + b / c + 2 := by
      rw [Nat.div_lt_iff_lt_mul hc, Nat.add_mul, Nat.add_mul]
      have := Nat.mul_comm (a / c) c; have := Nat.mul_comm (b / c) c; omega
    omega
theorem sm_div (f : Nat → Nat) (c : Nat) (hc : 0 < c) (n : Nat) : sm (fun k => f k / c) n ≤ sm f n / c ∧ sm f n / c ≤ sm (fun k => f k / c) n + n := by
  induction n with
  | zero => simp [sm]
  | succ n ih =>
    have := div_part (sm f n) (f n) c hc
    simp only [sm_succ]; omega
/-- what stands behind a place in the series is less than one of that place -/
theorem sm_tail (N j m : Nat) (d : Nat) (hd : m + d = N + 1) (e : Nat) (he : e ≤ d) :
    sm (fun k => 16 ^ (N - k) / (8 * k + j)) (m + e) + 16 ^ (d - e) ≤ sm (fun k => 16 ^ (N - k) / (8 * k + j)) m + 16 ^ d := by
  induction e with
  | zero => simp
  | succ e ih =>
    have ih := ih (by omega)
    have e1 : m + (e + 1) = (m + e) + 1 := by omega
    rw [e1, sm_succ]
    have h2 : 16 ^ (N - (m + e)) / (8 * (m + e) + j) ≤ 16 ^ (N - (m + e)) := Nat.div_le_self _ _
    have e2 : N - (m + e) = d - (e + 1) := by omega
    have e3 : d - e = (d - (e + 1)) + 1 := by omega
    rw [e3, Nat.pow_succ] at ih
    rw [e2] at h2 ⊢
    omega
theorem S_near (N j M : Nat) (h : M ≤ N) : S j M ≤ S j N / 16 ^ (N - M) ∧ S j N / 16 ^ (N - M) ≤ S j M + M + 2 := by
  have hc : 0 < 16 ^ (N - M) := Nat.pow_pos (by omega)
  have e1 : S j M = sm (fun k => 16 ^ (N - k) / (8 * k + j) / 16 ^ (N - M)) (M + 1) := by
    unfold S
    refine sm_congr fun k hk => ?_
    have : N - k = (M - k) + (N - M) := by omega
    rw [this, Nat.pow_add, Nat.div_div_eq_div_mul, Nat.mul_comm (8 * k + j), ← Nat.div_div_eq_div_mul, Nat.mul_div_cancel _ hc]
  have h1 := sm_div (fun k => 16 ^ (N - k) / (8 * k + j)) (16 ^ (N - M)) hc (M + 1)
  rw [← e1] at h1
  have h2 := sm_tail N j (M + 1) (N - M) (by omega) (N - M) (by omega)
  rw [show M + 1 + (N - M) = N + 1 by omega] at h2
  have h3 : sm (fun k => 16 ^ (N - k) / (8 * k + j)) (M + 1) ≤ S j N := by
    have mono : ∀ e, sm (fun k => 16 ^ (N - k) / (8 * k + j)) (M + 1) ≤ sm (fun k => 16 ^ (N - k) / (8 * k + j)) (M + 1 + e) := by
      intro e
      induction e with
      | zero => exact Nat.le_refl _
      | succ e ih => exact Nat.le_trans ih (by rw [← Nat.add_assoc, sm_succ]; exact Nat.le_add_right _ _)
    have := mono (N - M)
    rwa [show M + 1 + (N - M) = N + 1 by omega] at this
  change S j N + _ ≤ _ at h2
  constructor
  · exact Nat.le_trans h1.1 (Nat.div_le_div_right h3)
  · have h4 : S j N ≤ sm (fun k => 16 ^ (N - k) / (8 * k + j)) (M + 1) + 16 ^ (N - M) := Nat.le_trans (Nat.le_add_right _ _) h2
    have h5 := Nat.div_le_div_right (c := 16 ^ (N - M)) h4
    rw [Nat.add_div_right _ hc] at h5
    omega
/-- four, two, one and one of the sums, as they stand at the finest place -/
def D (N : Nat) : Int := 4 * (S 1 N : Int) - 2 * S 4 N - S 5 N - S 6 N
def E (M : Nat) : Int := 4 * (S 1 M : Int) - 2 * S 4 M - S 5 M - S 6 M
theorem E_near (N M : Nat) (L : Nat) (h : M ≤ N) (hD : D N = L) : (L / 16 ^ (N - M) : Nat) - (4 * (M : Int) + 12) ≤ E M ∧ E M ≤ (L / 16 ^ (N - M) : Nat) + (4 * (M : Int) + 12) := by
  have h1 := S_near N 1 M h
  have h4 := S_near N 4 M h
  have h5 := S_near N 5 M h
  have h6 := S_near N 6 M h
  have hc : 0 < 16 ^ (N - M) := Nat.pow_pos (by omega)
  generalize 16 ^ (N - M) = c at *
  unfold D at hD
  unfold E
  -- every sum is c times its quotient and a rest below c
  have a1 := Nat.div_add_mod (S 1 N) c
  have a4 := Nat.div_add_mod (S 4 N) c
  have a5 := Nat.div_add_mod (S 5 N) c
  have a6 := Nat.div_add_mod (S 6 N) c
  have aL := Nat.div_add_mod L c
  have r1 := Nat.mod_lt (S 1 N) hc
  have r4 := Nat.mod_lt (S 4 N) hc
  have r5 := Nat.mod_lt (S 5 N) hc
  have r6 := Nat.mod_lt (S 6 N) hc
  have rL := Nat.mod_lt L hc
  have key : (c : Int) * ((L / c : Nat) - (4 * (S 1 N / c : Nat) - 2 * (S 4 N / c : Nat) - (S 5 N / c : Nat) - (S 6 N / c : Nat))) = 4 * (S 1 N % c : Nat) - 2 * (S 4 N % c : Nat) - (S 5 N % c : Nat) - (S 6 N % c : Nat) - (L % c : Nat) := by
    have b1 : ((c * (S 1 N / c) + S 1 N % c : Nat) : Int) = S 1 N := by rw [a1]
    have b4 : ((c * (S 4 N / c) + S 4 N % c : Nat) : Int) = S 4 N := by rw [a4]
    have b5 : ((c * (S 5 N / c) + S 5 N % c : Nat) : Int) = S 5 N := by rw [a5]
    have b6 : ((c * (S 6 N / c) + S 6 N % c : Nat) : Int) = S 6 N := by rw [a6]
    have bL : ((c * (L / c) + L % c : Nat) : Int) = L := by rw [aL]
    rw [Int.natCast_add, Int.natCast_mul] at b1 b4 b5 b6 bL
    simp only [Int.mul_sub]
    have m1 := Int.mul_left_comm (c : Int) 4 (S 1 N / c : Nat)
    have m4 := Int.mul_left_comm (c : Int) 2 (S 4 N / c : Nat)
    omega
  have hq : ∀ q : Int, (c : Int) * q = 4 * (S 1 N % c : Nat) - 2 * (S 4 N % c : Nat) - (S 5 N % c : Nat) - (S 6 N % c : Nat) - (L % c : Nat) → -5 < q ∧ q < 4 := by
    intro q hq
    have hc' : (0 : Int) < c := by omega
    constructor
    · refine Int.lt_of_mul_lt_mul_left (a := (c : Int)) ?_ (by omega)
      rw [hq]; omega
    · refine Int.lt_of_mul_lt_mul_left (a := (c : Int)) ?_ (by omega)
      rw [hq]; omega
  have hq := hq _ key
  omega
end Go.Proofs.Ytimgndceiibaeaa.PiMath
