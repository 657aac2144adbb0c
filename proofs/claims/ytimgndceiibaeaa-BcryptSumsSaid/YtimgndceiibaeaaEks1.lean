/- eks: the rounds of the reference. -/
import Derived.Test.YtimgndceiibaeaaBf2
import Derived.Test.YtimgndceiibaeaaPallx9
import Derived.Test.YtimgndceiibaeaaPallx4
import Derived.Test.YtimgndceiibaeaaPallx3
import Derived.Test.YtimgndceiibaeaaPallx3
namespace Go.Proofs.Ytimgndceiibaeaa.Eks1
open Go.RowKit Go.Proofs.Ytimgndceiibaeaa.Pall Go.Proofs.YtimgndceiibaeaaW.PrintWords Go.Proofs.YtimgndceiibaeaaW.PrintLast Go.Proofs.Ytimgndceiibaeaa.Lib Go.Proofs.Ytimgndceiibaeaa.Bf1 Go.Proofs.Ytimgndceiibaeaa.Bf2

theorem rounds_out {c : Int} (h : c < 4 ∨ 31 < c) : eks_Rounds.f c = some (0, 2) := by
  have e : size_Within.f c 4 31 = some false := by
    unfold size_Within.f
    by_cases h1 : c ≥ 4
    · rw [if_pos h1, decide_eq_false (by omega)]
    · rw [if_neg h1]
  unfold eks_Rounds.f
  rw [e]
  rfl
theorem set_l0 (salt key : ByteArray) (hs : salt.size ≤ 1000000000) (hk : key.size ≤ 1000000000) (m : Nat) (hm : m ≤ 1000000) (d : Nat) : ∀ (n : Nat) (t : List Nat), n + d = m → ciOk t →
    To (fun k => pestleref11_Setup.l0 k (m : Int) salt key (ciI t) (n : Int)) (ciI (ciSet salt key d t)) := by
  induction d with
  | zero =>
    intro n t hn ht
    refine To.step ?_
    simp only [pestleref11_Setup.l0]
    exact To.neg (by omega) (To.ret' rfl)
  | succ d ih =>
    intro n t hn ht
    have o1 := ciExpand_ok ht (ciWord_lt (⟨#[]⟩ : ByteArray)) (ciWord_lt key)
    have o2 := ciExpand_ok o1 (ciWord_lt (⟨#[]⟩ : ByteArray)) (ciWord_lt salt)
    have i1 := ih (n + 1) _ (by omega) o2
    rw [← ciSet_succ] at i1
    refine To.step ?_
    simp only [pestleref11_Setup.l0]
    rw [wrap_id (x := (n : Int) + 1) (by omega) (by omega)]
    exact To.pos (by omega) (To.bind (expand_to ht (⟨#[]⟩ : ByteArray) key (by decide) hk) (To.bind (expand_to o1 (⟨#[]⟩ : ByteArray) salt (by decide) hs) i1))
theorem set_to (salt key : ByteArray) (hs : salt.size ≤ 1000000000) (hk : key.size ≤ 1000000000) (m : Nat) (hm : m ≤ 1000000) {t : List Nat} (ht : ciOk t) :
    To (fun k => pestleref11_Setup.f k (ciI t) (m : Int) salt key) (ciI (ciSet salt key m (ciExpand t (ciWord salt) (ciWord key)))) := by
  simp only [pestleref11_Setup.f]
  exact To.bind (expand_to ht salt key hs hk) (set_l0 salt key hs hk m hm m 0 _ (by omega) (ciExpand_ok ht (ciWord_lt salt) (ciWord_lt key)))
end Go.Proofs.Ytimgndceiibaeaa.Eks1
