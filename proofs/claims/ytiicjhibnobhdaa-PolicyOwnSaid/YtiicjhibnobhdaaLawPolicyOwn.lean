/- The row of the law PolicyOwn: every argument read as what the walk speaks of, the pure statement, the printed walk. -/
import Derived.Test.YtiicjhibnobhdaaRows
import Derived.Test.YtiicjhibnobhdaaStPolicyOwn
import Derived.Test.YtiicjhibnobhdaaPurePolicyOwn
import Derived.WalkKit
import Derived.ProofKit
import Derived.OpenShut
import Derived.ShutString
import Derived.ChangeOld
import Derived.Below
import Derived.SizedLaws
import Derived.WideShapes
namespace Go.Proofs.Ytiicjhibnobhdaa.policyOwn
open Go.ChangeShapes Go.WideShapes Go.ChangeAt Go.RowKit Go.Proofs.Ytiicjhibnobhdaa.Pall Go.Proofs.YtiicjhibnobhdaaW.PrintWords Go.Proofs.Ytiicjhibnobhdaa.Opn
open Go.ChangeMaps (open_string shut_string)
set_option linter.unusedVariables false
theorem own : ownKnob Try.prog.godebug = none := by kernel_rfl
theorem laidOut : laidOutB Try.prog = true := by kernel_rfl
set_option maxRecDepth 100000 in
theorem lifted (os : Os) (started : os.Started) (H : Type) (enc : TypeId × Value → H) :
    ReturnsInHanded {} Try.checked os 4 .any (Rows.policyOwnSpec.pre6 enc Try.prog Try.f4 Rows.policyOwnRow.domain false) (Rows.policyOwnSpec.post enc Try.prog Try.f4 false true false false) := by
  refine returnsInHanded_of_change_sized (C := Try.checked) own started (by kernel_rfl) Try.func4
    (ChangeSpec.witness6 (enc := enc) (C := Try.checked) false ⟨#[], #[.agg #[.int .i64 0, .int .i64 0, .int .i64 0, .int .i64 0, .int .i64 0, .int .i64 0, .int .i64 0, .int .i64 0, .int .i64 0, .int .i64 0, .int .i64 0, .int .i64 0, .int .i64 0], .int .i64 0, .int .i64 0], []⟩ 8 (by kernel_rfl) (by kernel_rfl) (by kernel_rfl) (by kernel_rfl)) ?_
  intro W base args ds gs before hval0 hW hcnd hsz0 _
  have hsz : (DataW.weightsEach Try.prog (Try.f4.params.toList ++ Rows.policyOwnSpec.plain.varTypes Try.prog) (ds ++ gs)).all (· ≤ reachBytes) = true := hsz0
  have hval : ∀ (j : Nat) t v, Try.f4.params[j]? = some t → args[j]? = some v → Value.okWide Try.prog W .any base t v := hval0
  have hW' := hW
  obtain ⟨p, q, hA0, hV, rfl, hfz, hnd⟩ := hW
  have hA : DataW.TrodAll enc Try.prog W 0 (fun _ => true) true Try.f4.params.toList args.toList ds p := hA0
  rw [Try.params4] at hA hval hsz
  obtain ⟨v0, vs0, d0, ds0, p0, q0, hargs, rfl, rfl, h0, r0⟩ := trodAll_cons hA
  obtain ⟨v1, vs1, d1, ds1, p1, q1, rfl, rfl, rfl, h1, r1⟩ := trodAll_cons r0
  obtain ⟨v2, vs2, d2, ds2, p2, q2, rfl, rfl, rfl, h2, r2⟩ := trodAll_cons r1
  obtain ⟨rfl, rfl, rfl⟩ := trodAll_nil r2
  obtain rfl : args = #[v0, v1, v2] := by cases args; simp_all
  obtain ⟨rfl, rfl⟩ := trodVars_none hV
  have k0 := h0
  have lt0 : ∀ x ∈ p0, x.block < W.heap.size := by obtain ⟨m, hm⟩ := k0; exact DataW.trod_lt m _ _ _ hm
  obtain ⟨y0, K0, ok0⟩ := St.PolicyOwn_opens0.arg hsz (j := 0) (t := 26) rfl rfl h0
  obtain ⟨cs0, rfl, hl0⟩ := okWide_struct Try.underlying26 (hval 0 26 v0 rfl rfl)
  have e0 := k26_open K0
  obtain rfl : cs0 = #[.int .i64 y0.f0.f0, .int .i64 y0.f0.f1, .int .i64 y0.f0.f2, .int .i64 y0.f0.f3, .int .i64 y0.f0.f4, .int .i64 y0.f1, .int .i64 y0.f2.f0, .int .i64 y0.f2.f1, .int .i64 y0.f2.f2, .int .i64 y0.f2.f3, .int .i64 y0.f2.f4, .int .i64 y0.f2.f5, .int .i64 y0.f2.f6] := Array.ext' e0
  obtain ⟨y1, rfl, rfl, rfl, w1⟩ := open_int Try.underlying3 (hval 1 3 v1 rfl rfl) h1
  obtain ⟨y2, rfl, rfl, rfl, w2⟩ := open_int Try.underlying3 (hval 2 3 v2 rfl rfl) h2
  clear hA0 hval0 hsz0 hsz
  obtain ⟨k, h⟩ := Pure.PolicyOwn y0 y1 y2 ok0 w1 w2
  refine (Pall.pestlelaw46_PolicyOwn.calls k (y0.f0.f0) (y0.f0.f1) (y0.f0.f2) (y0.f0.f3) (y0.f0.f4) (y0.f1) (y0.f2.f0) (y0.f2.f1) (y0.f2.f2) (y0.f2.f3) (y0.f2.f4) (y0.f2.f5) (y0.f2.f6) y1 y2 true W h).mono fun e W' ⟨he, bel⟩ => ?_
  subst he
  exact ⟨_, rfl, _, _, _, [], _, [], hW', trodAll_mk1 (shut_bool Try.underlying4 _), (trodAll_cons_mk (Below.trod laidOut (by kernel_rfl) (of_decide_eq_true (by kernel_rfl)) k0 bel lt0) (trodAll_cons_mk (shut_int Try.underlying3 w1) (trodAll_cons_mk (shut_int Try.underlying3 w2) trodAll_mk0))), rfl, bel.frame _, fun h => by cases h⟩
theorem over : Rows.policyOwnRow.holds Try.pinned (OpenSpec.ofChange Rows.policyOwnSpec) :=
  OpenClaim.holds_of_wide 4 Try.f4 rfl rfl rfl rfl rfl rfl rfl ⟨rfl, rfl, rfl, rfl, rfl⟩ rfl rfl rfl rfl rfl (by kernel_rfl) Try.func4 (by kernel_rfl)
    (of_decide_eq_true (by kernel_rfl)) (by unfold Func.isWrapper; first | (rw [if_pos (by decide +kernel)]; kernel_rfl) | (rw [if_neg (by decide +kernel)]; exact ⟨rfl, rfl⟩))
    (fun os started H enc _ => lifted os started H enc)
theorem proved : Rows.PolicyOwnSaid := over
#print axioms proved
end Go.Proofs.Ytiicjhibnobhdaa.policyOwn
namespace Go.Proofs.Ytiicjhibnobhdaa
/-- The row, under a short name, for the claim. -/
theorem policyOwn_holds : Rows.PolicyOwnSaid := policyOwn.proved
end Go.Proofs.Ytiicjhibnobhdaa
