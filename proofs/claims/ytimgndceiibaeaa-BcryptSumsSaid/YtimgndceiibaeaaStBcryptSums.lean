/- The pure statement of the law BcryptSums, and how its arguments are read. -/
import Derived.Test.YtimgndceiibaeaaOpn
import Derived.Test.YtimgndceiibaeaaPallx10
import Derived.KernelRfl
namespace Go.Proofs.Ytimgndceiibaeaa.St
open Go.RowKit Go.Proofs.Ytimgndceiibaeaa.Pall Go.Proofs.YtimgndceiibaeaaW.PrintWords Go.Proofs.YtimgndceiibaeaaW.PrintLast Go.Proofs.Ytimgndceiibaeaa.Opn
set_option linter.unusedVariables false
def BcryptSums_Pure : Prop := ∀ (y0 : Int) (y1 : ByteArray) (y2 : ByteArray), (fun x : Int => (Lit.int .i64 x).wf = true) y0 → (fun s : ByteArray => s.size ≤ 140737488351232) y1 → (fun s : ByteArray => s.size ≤ 140737488351232) y2 → ∃ k, pestlelaw26_BcryptSums.f k (y0) (y1) (y2) = some true
set_option maxRecDepth 100000 in
theorem BcryptSums_opens0 : Opens Try.prog 3 (Kd.int .i64) (fun x : Int => (Lit.int .i64 x).wf = true) := (opens_int Try.underlying3)
set_option maxRecDepth 100000 in
theorem BcryptSums_opens1 : Opens Try.prog 9 Kd.string (fun s : ByteArray => s.size ≤ 140737488351232) := (opens_string Try.underlying9)
set_option maxRecDepth 100000 in
theorem BcryptSums_opens2 : Opens Try.prog 9 Kd.string (fun s : ByteArray => s.size ≤ 140737488351232) := (opens_string Try.underlying9)
end Go.Proofs.Ytimgndceiibaeaa.St
