/- ModularBack: whatever the arguments, the plain walk answers yes. -/
import Derived.Test.YtoknoghdnedmhaaStModularBack
import Derived.Test.YtoknoghdnedmhaaMod2
import Derived.Test.YtoknoghdnedmhaaPallx9
import Derived.Test.YtoknoghdnedmhaaPallx4
namespace Go.Proofs.Ytoknoghdnedmhaa.Pure
open Go.RowKit Go.Proofs.Ytoknoghdnedmhaa.Pall Go.Proofs.YtoknoghdnedmhaaW.PrintWords Go.Proofs.YtoknoghdnedmhaaW.PrintLast Go.Proofs.Ytoknoghdnedmhaa.Lib Go.Proofs.Ytoknoghdnedmhaa.Byt Go.Proofs.Ytoknoghdnedmhaa.C64a Go.Proofs.Ytoknoghdnedmhaa.Mod1 Go.Proofs.Ytoknoghdnedmhaa.Mod2

theorem awake43_to : To (fun k => pestlelaw43_awake.f k) true := To.up (fun k => pestlelaw43_awake.mono k) (k := 80) (by decide +kernel)
theorem back_j2 (s : ByteArray) : To (fun k => pestlelaw43_ModularBack.j2 k s) true := by
  refine To.step ?_
  simp only [pestlelaw43_ModularBack.j2]
  refine To.bind (parse_to s) ?_
  by_cases h : (parseM s).2.2.2.2 = 0
  · refine To.pos h (To.bind (encode_to _ _ _ _) ?_)
    rw [parse_enc h]
    refine To.pos rfl (To.ret' ?_)
    exact beq_self_eq_true _
  · refine To.neg h (To.ret' ?_)
    rw [parse_err h]
    show ((0 : Int) == 0 && ((0 : Int) == 0 && (eB.toList == ([] : List UInt8) && eB.toList == ([] : List UInt8)))) = true
    rw [toList_L]
    rfl
theorem back_j1 (s : ByteArray) (a : ByteArray) (m c : Int) (salt sum : ByteArray) (x : Int) (hx : x = chkM m c salt sum) (ha : x = 0 → a = encM m c salt sum) :
    To (fun k => pestlelaw43_ModularBack.j1 k s a x false m c salt sum m c salt sum) true := by
  subst hx
  refine To.step ?_
  simp only [pestlelaw43_ModularBack.j1]
  refine To.neg (by decide) (To.ite (fun h => ?_) (fun _ => back_j2 s))
  obtain rfl := ha h
  refine To.bind (parse_to _) ?_
  rw [enc_parse h]
  refine To.bind (ref_encode_to h) (To.pos rfl (To.pos rfl (To.neg ?_ (back_j2 s))))
  simp only [beq_self_eq_true, Bool.not_true, Bool.or_self]
  decide
theorem minor_ok (m : Int) (k : Nat → Bool → Option Bool) (h : To (fun n => k n false) true) :
    To (fun n => (modular_Minor.f m).bind fun t => (if m = 97 then k n (t != true) else k n (t != (m == 98)))) true := by
  refine To.bind0 (minor_f m) ?_
  by_cases h1 : m = 97
  · refine To.pos h1 ?_
    rw [decide_eq_true (Or.inl h1)]; exact h
  · refine To.neg h1 ?_
    by_cases h2 : m = 98
    · subst h2; exact h
    · rw [decide_eq_false (by omega), beq_eq_false_iff_ne.2 h2]; exact h
theorem back_j0 (s : ByteArray) (m c : Int) (salt sum : ByteArray) : To (fun k => pestlelaw43_ModularBack.j0 k s false m c salt sum) true := by
  refine To.step ?_
  simp only [pestlelaw43_ModularBack.j0]
  refine To.neg (by decide) (To.bind (encode_to m c salt sum) (To.bind (ref_check_to m c salt sum) ?_))
  have e2 : (encE m c salt sum).2 = chkM m c salt sum := by
    unfold encE
    by_cases h : chkM m c salt sum = 0
    · rw [if_pos h, h]
    · rw [if_neg h]
  refine To.pos e2 (To.bind (check_to m c salt sum) (To.pos rfl ?_))
  by_cases h : chkM m c salt sum = 0
  · refine To.pos h ?_
    have e1 : (encE m c salt sum).1 = encM m c salt sum := by unfold encE; rw [if_pos h]
    exact minor_ok m (fun k b => pestlelaw43_ModularBack.j1 k s (encE m c salt sum).1 (chkM m c salt sum) b m c salt sum m c salt sum) (back_j1 s _ m c salt sum _ rfl fun _ => e1)
  · refine To.neg h ?_
    have e1 : (encE m c salt sum).1 = eB := by unfold encE; rw [if_neg h]
    refine To.pos (by rw [e1, toList_L]; rfl) ?_
    exact minor_ok m (fun k b => pestlelaw43_ModularBack.j1 k s (encE m c salt sum).1 (chkM m c salt sum) b m c salt sum m c salt sum) (back_j1 s _ m c salt sum _ rfl fun q => absurd q h)
theorem ModularBack : St.ModularBack_Pure := by
  intro y s _ _
  obtain ⟨m, c, salt, sum⟩ := y
  refine To.ends ?_
  simp only [pestlelaw43_ModularBack.f]
  have big : To (fun k => pestlelaw43_ModularBack.j0 k s true m c salt sum) true := by
    refine To.step ?_
    simp only [pestlelaw43_ModularBack.j0]
    exact To.pos trivial (To.ret _)
  refine To.bind awake43_to (To.pos rfl (To.ite (fun _ => big) (fun _ => To.ite (fun _ => big) (fun _ => ?_))))
  by_cases h : (s.size : Int) > 1000
  · rw [decide_eq_true h]; exact big
  · rw [decide_eq_false h]; exact back_j0 s m c salt sum
end Go.Proofs.Ytoknoghdnedmhaa.Pure
