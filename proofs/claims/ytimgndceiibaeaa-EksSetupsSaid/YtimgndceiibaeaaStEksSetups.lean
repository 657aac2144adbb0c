/- The pure statement of the law EksSetups, and how its arguments are read. -/
import Derived.Test.YtimgndceiibaeaaOpn
import Derived.Test.YtimgndceiibaeaaPallx8
import Derived.KernelRfl
namespace Go.Proofs.Ytimgndceiibaeaa.St
open Go.RowKit Go.Proofs.Ytimgndceiibaeaa.Pall Go.Proofs.YtimgndceiibaeaaW.PrintWords Go.Proofs.YtimgndceiibaeaaW.PrintLast Go.Proofs.Ytimgndceiibaeaa.Opn
set_option linter.unusedVariables false
def EksSetups_Pure : Prop := ∀ (y0 : Int) (y1 : ByteArray) (y2 : ByteArray) (y3 : Int) (y4 : Int), (fun x : Int => (Lit.int .i64 x).wf = true) y0 → (fun s : ByteArray => s.size ≤ 140737488351232) y1 → (fun s : ByteArray => s.size ≤ 140737488351232) y2 → (fun x : Int => (Lit.int .u32 x).wf = true) y3 → (fun x : Int => (Lit.int .u32 x).wf = true) y4 → ∃ k, pestlelaw11_EksSetups.f k (y0) (y1) (y2) (y3) (y4) = some true
set_option maxRecDepth 100000 in
theorem EksSetups_opens0 : Opens Try.prog 3 (Kd.int .i64) (fun x : Int => (Lit.int .i64 x).wf = true) := (opens_int Try.underlying3)
set_option maxRecDepth 100000 in
theorem EksSetups_opens1 : Opens Try.prog 9 Kd.string (fun s : ByteArray => s.size ≤ 140737488351232) := (opens_string Try.underlying9)
set_option maxRecDepth 100000 in
theorem EksSetups_opens2 : Opens Try.prog 9 Kd.string (fun s : ByteArray => s.size ≤ 140737488351232) := (opens_string Try.underlying9)
set_option maxRecDepth 100000 in
theorem EksSetups_opens3 : Opens Try.prog 23 (Kd.int .u32) (fun x : Int => (Lit.int .u32 x).wf = true) := (opens_int Try.underlying23)
set_option maxRecDepth 100000 in
theorem EksSetups_opens4 : Opens Try.prog 23 (Kd.int .u32) (fun x : Int => (Lit.int .u32 x).wf = true) := (opens_int Try.underlying23)
end Go.Proofs.Ytimgndceiibaeaa.St
