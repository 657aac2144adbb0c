/- The pure statement of the law NeedOf, and how its arguments are read. -/
import Derived.Test.YtiicjhibnobhdaaOpn
import Derived.Test.YtiicjhibnobhdaaPallx55
import Derived.KernelRfl
namespace Go.Proofs.Ytiicjhibnobhdaa.St
open Go.RowKit Go.Proofs.Ytiicjhibnobhdaa.Pall Go.Proofs.YtiicjhibnobhdaaW.PrintWords Go.Proofs.YtiicjhibnobhdaaW.PrintLast Go.Proofs.Ytiicjhibnobhdaa.Opn
set_option linter.unusedVariables false
def NeedOf_Pure : Prop := ∀ (y0 : (List S23)) (y1 : Int), (fun l : List S23 => (∀ x ∈ l, (fun x : S23 => (fun x : Int => (Lit.int .i64 x).wf = true) x.f0 ∧ (fun x : Int => (Lit.int .i64 x).wf = true) x.f1 ∧ (fun x : Int => (Lit.int .i64 x).wf = true) x.f2 ∧ (fun x : Int => (Lit.int .i64 x).wf = true) x.f3 ∧ (fun x : Int => (Lit.int .i64 x).wf = true) x.f4) x) ∧ l.length * 40 ≤ 140737488351232 ∧ l.length ≤ 9223372036854775807) y0 → (fun x : Int => (Lit.int .i64 x).wf = true) y1 → ∃ k, pestlelaw45_NeedOf.f k (y0) (y1) = some true
set_option maxRecDepth 100000 in
theorem NeedOf_opens0 : Opens Try.prog 45 (Kd.slice 23 k23) (fun l : List S23 => (∀ x ∈ l, (fun x : S23 => (fun x : Int => (Lit.int .i64 x).wf = true) x.f0 ∧ (fun x : Int => (Lit.int .i64 x).wf = true) x.f1 ∧ (fun x : Int => (Lit.int .i64 x).wf = true) x.f2 ∧ (fun x : Int => (Lit.int .i64 x).wf = true) x.f3 ∧ (fun x : Int => (Lit.int .i64 x).wf = true) x.f4) x) ∧ l.length * 40 ≤ 140737488351232 ∧ l.length ≤ 9223372036854775807) := (opens_slice Try.underlying45 (show Opens Try.prog 23 k23 (fun x : S23 => (fun x : Int => (Lit.int .i64 x).wf = true) x.f0 ∧ (fun x : Int => (Lit.int .i64 x).wf = true) x.f1 ∧ (fun x : Int => (Lit.int .i64 x).wf = true) x.f2 ∧ (fun x : Int => (Lit.int .i64 x).wf = true) x.f3 ∧ (fun x : Int => (Lit.int .i64 x).wf = true) x.f4) from opens_struct (d := (Kd.pair (Kd.int .i64) (Kd.pair (Kd.int .i64) (Kd.pair (Kd.int .i64) (Kd.pair (Kd.int .i64) (Kd.int .i64)))))) Try.underlying23 (by kernel_rfl) (opensL_cons rfl (by kernel_rfl) (opens_int Try.underlying3) (opensL_cons rfl (by kernel_rfl) (opens_int Try.underlying3) (opensL_cons rfl (by kernel_rfl) (opens_int Try.underlying3) (opensL_cons rfl (by kernel_rfl) (opens_int Try.underlying3) (opensL_last rfl (by kernel_rfl) (opens_int Try.underlying3)))))) (fun x : S23 => (x.f0, x.f1, x.f2, x.f3, x.f4)) (fun p => (⟨p.1, p.2.1, p.2.2.1, p.2.2.2.1, p.2.2.2.2⟩ : S23)) (fun _ => rfl)) (by kernel_rfl))
set_option maxRecDepth 100000 in
theorem NeedOf_opens1 : Opens Try.prog 3 (Kd.int .i64) (fun x : Int => (Lit.int .i64 x).wf = true) := (opens_int Try.underlying3)
end Go.Proofs.Ytiicjhibnobhdaa.St
