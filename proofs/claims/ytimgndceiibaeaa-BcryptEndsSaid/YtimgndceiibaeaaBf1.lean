/- Blowfish's rounds, as the reference walks them. -/
import Derived.Test.YtimgndceiibaeaaPiW
import Derived.Test.YtimgndceiibaeaaPallx1
import Derived.Test.YtimgndceiibaeaaPallx7
import Derived.Test.YtimgndceiibaeaaPallx8
import Derived.Test.YtimgndceiibaeaaPallx1
namespace Go.Proofs.Ytimgndceiibaeaa.Bf1
open Go.RowKit Go.Proofs.Ytimgndceiibaeaa.Pall Go.Proofs.YtimgndceiibaeaaW.PrintWords Go.Proofs.YtimgndceiibaeaaW.PrintLast Go.Proofs.Ytimgndceiibaeaa.Lib Go.Proofs.Ytimgndceiibaeaa.Pi1 Go.Proofs.Ytimgndceiibaeaa.PiW

theorem wordN_is (i : Nat) : ∀ k, 8 * i + k ≤ 8336 → wordN i k = pi_LL / 16 ^ (8336 - (8 * i + k)) % 16 ^ k
  | 0, _ => by rw [Nat.pow_zero, Nat.mod_one]; rfl
  | k + 1, h => by
    have ih := wordN_is i k (by omega)
    have e : wordN i (k + 1) = 16 * wordN i k + digN (8 * i + k) := rfl
    rw [e, ih]
    unfold digN
    generalize pi_LL = X
    obtain ⟨m, hm⟩ : ∃ m, 8336 - (8 * i + (k + 1)) = m := ⟨_, rfl⟩
    rw [hm, show 8336 - (8 * i + k) = m + 1 by omega, show 8335 - (8 * i + k) = m by omega, Nat.pow_succ 16 m, ← Nat.div_div_eq_div_mul, Nat.pow_succ 16 k, Nat.mul_comm (16 ^ k) 16, Nat.mod_mul, Nat.add_comm]
theorem word_pw (i : Nat) (h : i < 1042) : wordN i 8 = ciPw i := by
  rw [wordN_is i 8 (by omega)]
  unfold ciPw
  generalize pi_LL = X
  rw [show (16 : Nat) ^ (8336 - (8 * i + 8)) = 2 ^ (32 * (1041 - i)) by rw [show (16 : Nat) = 2 ^ 4 from rfl, ← Nat.pow_mul]; congr 1; omega]
theorem run_pi : run 0 1042 = ciI ciPi := by
  rw [ciPi_def]
  unfold run ciI
  rw [List.map_map]
  refine List.map_congr_left fun i hi => ?_
  have h := List.mem_range.mp hi
  rw [Int.zero_add, wordS_in h]
  exact congrArg Int.ofNat (word_pw i h)
theorem pi_to : To (fun k => pi_Words.f k 0 1042) (ciI ciPi, 0) := by
  have h := words_yes (f := 0) (m := 1042) ⟨by omega, by omega, by omega, by omega⟩
  rw [run_pi] at h
  exact h
theorem plain_to : To (fun k => pestlelaw10_Plain.f k) (ciI ciPi) := by
  simp only [pestlelaw10_Plain.f]
  exact To.bind pi_to (To.ret _)
theorem f_e1 {x : Nat} (hx : x < 4294967296) : Int.tdiv (x : Int) 16777216 % 4294967296 = ((x / 16777216 : Nat) : Int) := by rw [Int.tdiv_eq_ediv_of_nonneg (by omega)]; omega
theorem f_e2 {x : Nat} (hx : x < 4294967296) : Int.tdiv (x : Int) 65536 % 4294967296 % 256 = ((x / 65536 % 256 : Nat) : Int) := by rw [Int.tdiv_eq_ediv_of_nonneg (by omega)]; omega
theorem f_e3 {x : Nat} (hx : x < 4294967296) : Int.tdiv (x : Int) 256 % 4294967296 % 256 = ((x / 256 % 256 : Nat) : Int) := by rw [Int.tdiv_eq_ediv_of_nonneg (by omega)]; omega
theorem f_e4 (x : Nat) : wrap64 (786 + wrap64 (Int.tmod (x : Int) 256)) = ((786 + x % 256 : Nat) : Int) := by
  rw [Int.tmod_eq_emod_of_nonneg (by omega), wrap_id (x := (x : Int) % 256) (by omega) (by omega), wrap_id (by omega) (by omega)]; omega
section
variable {t : List Nat} (ho : ciOk t)
include ho
theorem rdI (i : Nat) (h : i < 1042) : rd (ciI t) (i : Int) = ((ciW t i : Nat) : Int) := ciI_rd t i (by rw [ho.1]; exact h)
theorem lenI : ((ciI t).length : Int) = 1042 := by rw [ciI_len, ho.1]; rfl
theorem f_is (x : Nat) (hx : x < 4294967296) : pestleref10_f.f (ciI t) (x : Int) = some ((ciF t x : Nat) : Int) := by
  have hat := fun a b c d => cipher_Cipher_f.at t x a b c d ho
  have q1 : x / 16777216 < 256 := by omega
  have q2 : x / 65536 % 256 < 256 := by omega
  have q3 : x / 256 % 256 < 256 := by omega
  have q4 : x % 256 < 256 := by omega
  have e1 := f_e1 hx
  have e2 := f_e2 hx
  have e3 := f_e3 hx
  have e4 := f_e4 x
  obtain ⟨a, ha⟩ : ∃ a, x / 16777216 = a := ⟨_, rfl⟩
  obtain ⟨b, hb⟩ : ∃ b, x / 65536 % 256 = b := ⟨_, rfl⟩
  obtain ⟨c, hc⟩ : ∃ c, x / 256 % 256 = c := ⟨_, rfl⟩
  obtain ⟨d, hd⟩ : ∃ d, x % 256 = d := ⟨_, rfl⟩
  have h := hat a b c d ha hb hc hd
  rw [ha] at e1 q1
  rw [hb] at e2 q2
  rw [hc] at e3 q3
  rw [hd] at e4 q4
  clear hat ha hb hc hd hx
  have E := And.intro e1 (And.intro e2 (And.intro e3 e4))
  replace E := Aside0.mk E
  clear e1 e2 e3 e4
  have f1 : (18 : Int) + (a : Int) = ((18 + a : Nat) : Int) := by omega
  have f2 : (274 : Int) + (b : Int) = ((274 + b : Nat) : Int) := by omega
  have f3 : (530 : Int) + (c : Int) = ((530 + c : Nat) : Int) := by omega
  have r1 := rdI ho (18 + a) (by omega)
  have r2 := rdI ho (274 + b) (by omega)
  have r3 := rdI ho (530 + c) (by omega)
  have r4 := rdI ho (786 + d) (by omega)
  unfold pestleref10_f.f
  obtain ⟨e1, e2, e3, e4⟩ := E.out
  rw [e1, e2, e3, e4, lenI ho, f1, f2, f3, r1, r2, r3, r4]
  clear e1 e2 e3 e4 E f1 f2 f3 r1 r2 r3 r4
  have g : ∀ n : Nat, n < 1042 → (0 : Int) ≤ (n : Int) ∧ (n : Int) < 1042 := fun n hn => ⟨by omega, by omega⟩
  obtain ⟨a1, a2⟩ := g (18 + a) (by omega)
  obtain ⟨b1, b2⟩ := g (274 + b) (by omega)
  obtain ⟨c1, c2⟩ := g (530 + c) (by omega)
  obtain ⟨d1, d2⟩ := g (786 + d) (by omega)
  rw [if_pos a1, if_pos a2, if_pos b1, if_pos b2, if_pos c1, if_pos c2, if_pos d1, if_pos d2]
  exact congrArg some h
theorem enc_l0 (d : Nat) : ∀ n x y : Nat, n + d = 16 → x < 4294967296 → y < 4294967296 →
    To (fun k => pestleref10_Encrypt.l0 k (ciI t) (x : Int) (y : Int) (n : Int)) ((((ciEncR t d n x y).2 ^^^ ciW t 17 : Nat) : Int), (((ciEncR t d n x y).1 ^^^ ciW t 16 : Nat) : Int)) := by
  induction d with
  | zero =>
    intro n x y hn hx hy
    refine To.step ?_
    simp only [pestleref10_Encrypt.l0]
    rw [lenI ho]
    refine To.neg (by omega) (To.pos (by omega) (To.pos (by omega) (To.ret' ?_)))
    have r17 : rd (ciI t) 17 = ((ciW t 17 : Nat) : Int) := rdI ho 17 (by omega)
    have r16 : rd (ciI t) 16 = ((ciW t 16 : Nat) : Int) := rdI ho 16 (by omega)
    rw [r17, r16, ci_bxor _ _ hy (ho.2 _), ci_bxor _ _ hx (ho.2 _)]
    rfl
  | succ d ih =>
    intro n x y hn hx hy
    have hm := ci_xor hx (ho.2 n)
    refine To.step ?_
    simp only [pestleref10_Encrypt.l0]
    rw [lenI ho, rdI ho n (by omega), ci_bxor _ _ hx (ho.2 n), wrap_id (x := (n : Int) + 1) (by omega) (by omega)]
    refine To.pos (by omega) (To.pos (by omega) (To.pos (by omega) (To.bind0 (f_is ho _ hm) ?_)))
    rw [ci_bxor _ _ hy (ciF_lt t _), ciEncR_succ]
    exact ih (n + 1) _ _ (by omega) (ci_xor hy (ciF_lt t _)) hm
theorem enc_to (l r : Nat) (hl : l < 4294967296) (hr : r < 4294967296) : To (fun k => pestleref10_Encrypt.f k (ciI t) (l : Int) (r : Int)) (((ciEnc t l r).1 : Nat), ((ciEnc t l r).2 : Nat)) := by
  simp only [pestleref10_Encrypt.f]
  exact enc_l0 ho 16 0 l r rfl hl hr
end
end Go.Proofs.Ytimgndceiibaeaa.Bf1
