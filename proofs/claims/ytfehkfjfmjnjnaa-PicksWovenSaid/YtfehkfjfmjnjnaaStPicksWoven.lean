/- The pure statement of the law PicksWoven, and how its arguments are read. -/
import Derived.Test.YtfehkfjfmjnjnaaOpn
import Derived.Test.YtfehkfjfmjnjnaaPallx12
import Derived.KernelRfl
namespace Go.Proofs.Ytfehkfjfmjnjnaa.St
open Go.RowKit Go.Proofs.Ytfehkfjfmjnjnaa.Pall Go.Proofs.YtfehkfjfmjnjnaaW.PrintWords Go.Proofs.YtfehkfjfmjnjnaaW.PrintLast Go.Proofs.Ytfehkfjfmjnjnaa.Opn
set_option linter.unusedVariables false
def PicksWoven_Pure : Prop := ∀ (y0 : (List (List Int))), (fun l : List (List Int) => (∀ x ∈ l, (fun l : List Int => (∀ x ∈ l, (fun x : Int => (Lit.int .i64 x).wf = true) x) ∧ l.length * 8 ≤ 140737488351232 ∧ l.length ≤ 9223372036854775807) x) ∧ l.length * 24 ≤ 140737488351232 ∧ l.length ≤ 9223372036854775807) y0 → ∃ k, pestlelaw36_PicksWoven.f k (y0) = some true
set_option maxRecDepth 100000 in
theorem PicksWoven_opens0 : Opens Try.prog 22 (Kd.slice 24 (Kd.slice 3 (Kd.int .i64))) (fun l : List (List Int) => (∀ x ∈ l, (fun l : List Int => (∀ x ∈ l, (fun x : Int => (Lit.int .i64 x).wf = true) x) ∧ l.length * 8 ≤ 140737488351232 ∧ l.length ≤ 9223372036854775807) x) ∧ l.length * 24 ≤ 140737488351232 ∧ l.length ≤ 9223372036854775807) := (opens_slice Try.underlying22 (opens_slice Try.underlying24 (opens_int Try.underlying3) (by kernel_rfl)) (by kernel_rfl))
end Go.Proofs.Ytfehkfjfmjnjnaa.St
