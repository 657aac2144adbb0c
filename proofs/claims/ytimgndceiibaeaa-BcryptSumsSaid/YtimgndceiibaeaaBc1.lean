/- bcrypt: the reference's sum is the one of the tables. -/
import Derived.Test.YtimgndceiibaeaaEks1
import Derived.Test.YtimgndceiibaeaaEks2
import Derived.Test.YtimgndceiibaeaaPallx9
import Derived.Test.YtimgndceiibaeaaPallx5
import Derived.Test.YtimgndceiibaeaaPallx8
namespace Go.Proofs.Ytimgndceiibaeaa.Bc1
open Go.RowKit Go.Proofs.Ytimgndceiibaeaa.Pall Go.Proofs.YtimgndceiibaeaaW.PrintWords Go.Proofs.YtimgndceiibaeaaW.PrintLast Go.Proofs.Ytimgndceiibaeaa.Lib Go.Proofs.Ytimgndceiibaeaa.Bf1 Go.Proofs.Ytimgndceiibaeaa.Bf2 Go.Proofs.Ytimgndceiibaeaa.Eks1 Go.Proofs.Ytimgndceiibaeaa.Eks2

/-- so many rounds taken at once -/
theorem To.more {α : Type} {g : Nat → Option α} {r : α} (n : Nat) (h : To (fun k => g (k + n)) r) : To g r := by
  obtain ⟨m, h⟩ := h
  refine ⟨m + n, fun k hk => ?_⟩
  have q : g (k - n + n) = some r := h (k - n) (by omega)
  rw [show k - n + n = k by omega] at q
  exact q
theorem of32_to (x : Int) : To (fun k => pestleref01_Of32.f k x) [Int.tmod x 256 % 256, Int.tmod (Int.tdiv x 256 % 4294967296) 256 % 256, Int.tmod (Int.tdiv (Int.tdiv x 256 % 4294967296) 256 % 4294967296) 256 % 256, Int.tmod (Int.tdiv (Int.tdiv (Int.tdiv x 256 % 4294967296) 256 % 4294967296) 256 % 4294967296) 256 % 256] := by
  exact To.more 5 (To.of fun k => by kernel_rfl)
theorem of32_is (x : Nat) (hx : x < 4294967296) : To (fun k => pestleref01_Of32.f k (x : Int)) [((x % 256 : Nat) : Int), ((x / 256 % 256 : Nat) : Int), ((x / 65536 % 256 : Nat) : Int), ((x / 16777216 : Nat) : Int)] := by
  refine To.eq (of32_to x) ?_
  have e : ∀ y : Nat, y < 4294967296 → Int.tdiv (y : Int) 256 % 4294967296 = ((y / 256 : Nat) : Int) := fun y hy => by
    rw [Int.tdiv_eq_ediv_of_nonneg (by omega)]; omega
  have f : ∀ y : Nat, Int.tmod (y : Int) 256 % 256 = ((y % 256 : Nat) : Int) := fun y => by
    rw [Int.tmod_eq_emod_of_nonneg (by omega)]; omega
  rw [e x hx, e _ (by omega), e _ (by omega), f, f, f, f]
  rw [show x / 256 / 256 % 256 = x / 65536 % 256 by omega, show x / 256 / 256 / 256 % 256 = x / 16777216 by omega]
theorem turned_to (a b c d : Int) : To (fun k => pestleref01_Turned.f k [a, b, c, d]) [d, c, b, a] := by
  exact To.more 5 (To.of fun k => by kernel_rfl)
theorem l2_to (L : List Nat) (hL : L.length = 6) (hU : ciU L) (d : Nat) : ∀ (i : Nat) (out : List Int), i + d = 6 → out = bcBy (L.take i) →
    To (fun k => pestleref26_Sum.l2 k (ciI L) out (i : Int)) (strOfNums ((bcBy L).take 23)) := by
  have hlen : ((ciI L).length : Int) = 6 := by rw [ciI_len, hL]; rfl
  induction d with
  | zero =>
    intro i out hi ho
    refine To.step ?_
    simp only [pestleref26_Sum.l2]
    rw [List.take_of_length_le (by omega)] at ho
    have hl : out.length = 24 := by rw [ho, bcBy_len, hL]
    refine To.neg (by rw [hlen]; omega) (To.pos (by rw [hl]; decide) (To.ret' ?_))
    rw [ho]
  | succ d ih =>
    intro i out hi ho
    have hl : out.length = 4 * i := by rw [ho, bcBy_len, List.length_take]; omega
    have h := ih (i + 1) (out ++ [((ciW L i / 16777216 : Nat) : Int), ((ciW L i / 65536 % 256 : Nat) : Int), ((ciW L i / 256 % 256 : Nat) : Int), ((ciW L i % 256 : Nat) : Int)]) (by omega) (by rw [bcBy_take (by omega), ho])
    refine To.step ?_
    simp only [pestleref26_Sum.l2]
    rw [wrap_id (x := (i : Int) + 1) (by omega) (by omega), ciI_rd L i (by omega)]
    exact To.pos (by rw [hlen]; omega) (To.pos (by omega) (To.bind (of32_is _ (hU i)) (To.bind (turned_to _ _ _ _) (To.pos (by rw [hl]; show 4 * i + 4 < _; omega) h))))
theorem l0_to (t : List Int) (R : ByteArray) (h : To (fun k => (pestleref11_Seal.f k t 64 (ciI bcMg)).bind fun t172 => pestleref26_Sum.l2 k t172 [] 0) R) :
    To (fun k => pestleref26_Sum.l0 k t (⟨#[79, 114, 112, 104, 101, 97, 110, 66, 101, 104, 111, 108, 100, 101, 114, 83, 99, 114, 121, 68, 111, 117, 98, 116]⟩ : ByteArray) ([] : List Int) 0) R := by
  have e : ∀ k, pestleref26_Sum.l0 (k + 37) t (⟨#[79, 114, 112, 104, 101, 97, 110, 66, 101, 104, 111, 108, 100, 101, 114, 83, 99, 114, 121, 68, 111, 117, 98, 116]⟩ : ByteArray) ([] : List Int) 0 = (pestleref11_Seal.f k t 64 (ciI bcMg)).bind fun t172 => pestleref26_Sum.l2 k t172 [] 0 := fun k => by kernel_rfl
  refine To.more 37 ?_
  simp only [e]
  exact h
theorem sum26_to (salt word : ByteArray) (hs : salt.size ≤ 1000000000) (hw : word.size ≤ 72) :
    To (fun k => pestleref26_Sum.f k (ciI ciPi) 16 salt word) (bcOut (ciSet salt (bcKey word) 16 (ciExpand ciPi (ciWord salt) (ciWord (bcKey word))))) := by
  have hk := bcKey_size word hw
  have ho := ciSet_ok salt (bcKey word) 16 _ (ciExpand_pi salt (bcKey word))
  have h1 := set_to salt (bcKey word) hs (by omega) 16 (by omega) ciPi_ok
  generalize ciSet salt (bcKey word) 16 (ciExpand ciPi (ciWord salt) (ciWord (bcKey word))) = T at ho h1 ⊢
  simp only [pestleref26_Sum.f]
  refine To.bind0 (show pestleref26_Key.f word = some (bcKey word) from if_pos (by omega)) (To.bind h1 (l0_to _ _ ?_))
  have u : ∀ x ∈ bcMg, x < 4294967296 := by decide
  have h2 := seal_to ho 64 (by omega) bcMg (by decide) (by decide) u
  rw [show bcMg.length / 2 = 3 from rfl] at h2
  have h3 := l2_to (ciSl T 64 3 0 bcMg) (by rw [ciSl_len]; rfl) (ciU_sl ho 64 3 0 _ bcMg_u) 6 0 [] (by omega) (by rw [List.take_zero]; rfl)
  exact To.bind h2 h3
end Go.Proofs.Ytimgndceiibaeaa.Bc1
