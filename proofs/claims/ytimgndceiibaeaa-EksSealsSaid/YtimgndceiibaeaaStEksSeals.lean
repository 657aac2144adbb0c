/- The pure statement of the law EksSeals, and how its arguments are read. -/
import Derived.Test.YtimgndceiibaeaaOpn
import Derived.Test.YtimgndceiibaeaaPallx9
import Derived.KernelRfl
namespace Go.Proofs.Ytimgndceiibaeaa.St
open Go.RowKit Go.Proofs.Ytimgndceiibaeaa.Pall Go.Proofs.YtimgndceiibaeaaW.PrintWords Go.Proofs.YtimgndceiibaeaaW.PrintLast Go.Proofs.Ytimgndceiibaeaa.Opn
set_option linter.unusedVariables false
def EksSeals_Pure : Prop := ∀ (y0 : ByteArray) (y1 : Int) (y2 : (List Int)), (fun s : ByteArray => s.size ≤ 140737488351232) y0 → (fun x : Int => (Lit.int .i64 x).wf = true) y1 → (fun l : List Int => (∀ x ∈ l, (fun x : Int => (Lit.int .u32 x).wf = true) x) ∧ l.length * 4 ≤ 140737488351232 ∧ l.length ≤ 9223372036854775807) y2 → ∃ k, pestlelaw11_EksSeals.f k (y0) (y1) (y2) = some true
set_option maxRecDepth 100000 in
theorem EksSeals_opens0 : Opens Try.prog 9 Kd.string (fun s : ByteArray => s.size ≤ 140737488351232) := (opens_string Try.underlying9)
set_option maxRecDepth 100000 in
theorem EksSeals_opens1 : Opens Try.prog 3 (Kd.int .i64) (fun x : Int => (Lit.int .i64 x).wf = true) := (opens_int Try.underlying3)
set_option maxRecDepth 100000 in
theorem EksSeals_opens2 : Opens Try.prog 29 (Kd.slice 23 (Kd.int .u32)) (fun l : List Int => (∀ x ∈ l, (fun x : Int => (Lit.int .u32 x).wf = true) x) ∧ l.length * 4 ≤ 140737488351232 ∧ l.length ≤ 9223372036854775807) := (opens_slice Try.underlying29 (opens_int Try.underlying23) (by kernel_rfl))
end Go.Proofs.Ytimgndceiibaeaa.St
