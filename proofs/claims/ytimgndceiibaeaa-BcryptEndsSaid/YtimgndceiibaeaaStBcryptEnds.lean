/- The pure statement of the law BcryptEnds, and how its arguments are read. -/
import Derived.Test.YtimgndceiibaeaaOpn
import Derived.Test.YtimgndceiibaeaaPallx10
import Derived.KernelRfl
namespace Go.Proofs.Ytimgndceiibaeaa.St
open Go.RowKit Go.Proofs.Ytimgndceiibaeaa.Pall Go.Proofs.YtimgndceiibaeaaW.PrintWords Go.Proofs.YtimgndceiibaeaaW.PrintLast Go.Proofs.Ytimgndceiibaeaa.Opn
set_option linter.unusedVariables false
def BcryptEnds_Pure : Prop := ∀ (y0 : ByteArray) (y1 : ByteArray), (fun s : ByteArray => s.size ≤ 140737488351232) y0 → (fun s : ByteArray => s.size ≤ 140737488351232) y1 → ∃ k, pestlelaw26_BcryptEnds.f k (y0) (y1) = some true
set_option maxRecDepth 100000 in
theorem BcryptEnds_opens0 : Opens Try.prog 9 Kd.string (fun s : ByteArray => s.size ≤ 140737488351232) := (opens_string Try.underlying9)
set_option maxRecDepth 100000 in
theorem BcryptEnds_opens1 : Opens Try.prog 9 Kd.string (fun s : ByteArray => s.size ≤ 140737488351232) := (opens_string Try.underlying9)
end Go.Proofs.Ytimgndceiibaeaa.St
