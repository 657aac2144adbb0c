/- chapter 26's example, whole -/
import Derived.Test.YtimgndceiibaeaaBcChk1
import Derived.Test.YtimgndceiibaeaaBcChk2
import Derived.Test.YtimgndceiibaeaaBcChk3
import Derived.Test.YtimgndceiibaeaaBcChk4
namespace Go.Proofs.Ytimgndceiibaeaa.BcChk
open Go.RowKit Go.Proofs.Ytimgndceiibaeaa.Pall Go.Proofs.YtimgndceiibaeaaW.PrintWords Go.Proofs.YtimgndceiibaeaaW.PrintLast
def bxWord : ByteArray := ⟨#[85, 42, 85]⟩
def bxKey : ByteArray := ⟨#[85, 42, 85, 0]⟩
theorem bxKey_is : bcKey bxWord = bxKey := by decide +kernel
theorem bx_hk : ∀ i, i < 18 → ciWord bxKey i = blG bxK i := by decide +kernel
set_option maxRecDepth 100000 in
theorem bx_h180 : ∀ i, i < 1042 → 18 ≤ i → blG bxK i = 0 := by decide +kernel
theorem bx_h18 : ∀ i, 18 ≤ i → i < 1042 → blG bxK i = 0 := fun i h h2 => bx_h180 i h2 h
theorem bx_hs : ∀ i, i < 18 → ciWord bxSalt i = blG bxKS i := by decide +kernel
set_option maxRecDepth 100000 in
theorem bx_s180 : ∀ i, i < 1042 → 18 ≤ i → blG bxKS i = 0 := by decide +kernel
theorem bx_s18 : ∀ i, 18 ≤ i → i < 1042 → blG bxKS i = 0 := fun i h h2 => bx_s180 i h2 h
theorem bx_s4 (i : Nat) : ciWord bxSalt i = blG bxS (i % 4) := by
  have e : ciWord bxSalt i = ciWord bxSalt (i % 4) := by
    have b : ∀ j, j < 4 → ciB bxSalt (4 * i + j) = ciB bxSalt (4 * (i % 4) + j) := by
      intro j hj
      unfold ciB
      rw [show bxSalt.size = 16 from rfl, if_neg (by omega), if_neg (by omega), show (4 * i + j) % 16 = (4 * (i % 4) + j) % 16 by omega]
    show (((0 * 256 + ciB bxSalt (4 * i + 0)) * 256 + ciB bxSalt (4 * i + 1)) * 256 + ciB bxSalt (4 * i + 2)) * 256 + ciB bxSalt (4 * i + 3) = (((0 * 256 + ciB bxSalt (4 * (i % 4) + 0)) * 256 + ciB bxSalt (4 * (i % 4) + 1)) * 256 + ciB bxSalt (4 * (i % 4) + 2)) * 256 + ciB bxSalt (4 * (i % 4) + 3)
    rw [b 0 (by omega), b 1 (by omega), b 2 (by omega), b 3 (by omega)]
  rw [e]
  exact (by decide +kernel : ∀ i, i < 4 → ciWord bxSalt i = blG bxS i) (i % 4) (by omega)
theorem bxTab_is : bxTab = ciSet bxSalt bxKey 32 (ciExpand ciPi (ciWord bxSalt) (ciWord bxKey)) := by
  unfold bxTab
  rw [show bcKey (⟨#[85, 42, 85]⟩ : ByteArray) = bxKey from bxKey_is]
theorem bx_rep : BlRep bxTab bxT4 := by
  rw [bxTab_is]
  have h0 := BlRep.expand ciPi_rep (ciWord bxSalt) (ciWord bxKey) bx_hk bx_h18 bx_s4
  rw [bx_1] at h0
  have h := BlRep.set_ bx_hk bx_h18 bx_hs bx_s18 32 _ _ h0
  rw [show 32 = 8 + (8 + (8 + 8)) from rfl, blRun_add, bx_2, blRun_add, bx_3, blRun_add, bx_4, bx_5] at h
  exact h
theorem bx_sl : ciSl bxTab 64 3 0 bcMg = [464949571, 4188590852, 3369221529, 2869205623, 2794335436, 1950484155] := by
  have u0 := bcMg_u
  rw [ciSl_succ, ciSl_succ, ciSl_succ]
  have e0 := BlRep.many bx_rep 0 64 bcMg (by decide) u0
  rw [show ciW bcMg 0 = 1332899944 from rfl, show ciW bcMg (0 + 1) = 1700884034 from rfl, bx_6, bl_pack_div (by omega), bl_pack_mod (by omega), show (bcMg.set 0 464949571).set (0 + 1) 4188590852 = [464949571, 4188590852, 1701343084, 1684370003, 1668446532, 1869963892] from rfl] at e0
  rw [e0]
  have u1 := ciU_in bx_rep.ciok 0 64 _ u0
  rw [e0] at u1
  have e1 := BlRep.many bx_rep 2 64 _ (by decide) u1
  rw [show ciW [464949571, 4188590852, 1701343084, 1684370003, 1668446532, 1869963892] 2 = 1701343084 from rfl, show ciW [464949571, 4188590852, 1701343084, 1684370003, 1668446532, 1869963892] (2 + 1) = 1684370003 from rfl, bx_7, bl_pack_div (by omega), bl_pack_mod (by omega), show (([464949571, 4188590852, 1701343084, 1684370003, 1668446532, 1869963892] : List Nat).set 2 3369221529).set (2 + 1) 2869205623 = [464949571, 4188590852, 3369221529, 2869205623, 1668446532, 1869963892] from rfl] at e1
  rw [e1]
  have u2 := ciU_in bx_rep.ciok 2 64 _ u1
  rw [e1] at u2
  have e2 := BlRep.many bx_rep 4 64 _ (by decide) u2
  rw [show ciW [464949571, 4188590852, 3369221529, 2869205623, 1668446532, 1869963892] 4 = 1668446532 from rfl, show ciW [464949571, 4188590852, 3369221529, 2869205623, 1668446532, 1869963892] (4 + 1) = 1869963892 from rfl, bx_8, bl_pack_div (by omega), bl_pack_mod (by omega), show (([464949571, 4188590852, 3369221529, 2869205623, 1668446532, 1869963892] : List Nat).set 4 2794335436).set (4 + 1) 1950484155 = [464949571, 4188590852, 3369221529, 2869205623, 2794335436, 1950484155] from rfl] at e2
  exact e2
def bxSum : ByteArray := ⟨#[27, 182, 145, 67, 249, 168, 211, 4, 200, 210, 61, 153, 171, 4, 154, 119, 166, 142, 44, 204, 116, 66, 6]⟩
theorem bx_out : bcOut bxTab = bxSum := by
  unfold bcOut
  rw [bx_sl]
  decide +kernel
end Go.Proofs.Ytimgndceiibaeaa.BcChk
