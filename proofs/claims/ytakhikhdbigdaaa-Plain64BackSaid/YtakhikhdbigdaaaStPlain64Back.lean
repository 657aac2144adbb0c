/- The pure statement of the law Plain64Back, and how its arguments are read. -/
import Derived.Test.YtakhikhdbigdaaaOpn
import Derived.Test.YtakhikhdbigdaaaPallx5
import Derived.KernelRfl
namespace Go.Proofs.Ytakhikhdbigdaaa.St
open Go.RowKit Go.Proofs.Ytakhikhdbigdaaa.Pall Go.Proofs.YtakhikhdbigdaaaW.PrintWords Go.Proofs.YtakhikhdbigdaaaW.PrintLast Go.Proofs.Ytakhikhdbigdaaa.Opn
set_option linter.unusedVariables false
def Plain64Back_Pure : Prop := ∀ (y0 : Int) (y1 : Int) (y2 : ByteArray) (y3 : ByteArray), (fun x : Int => (Lit.int .i64 x).wf = true) y0 → (fun x : Int => (Lit.int .i64 x).wf = true) y1 → (fun s : ByteArray => s.size ≤ 140737488351232) y2 → (fun s : ByteArray => s.size ≤ 140737488351232) y3 → ∃ k, pestlelaw16_Plain64Back.f k (y0) (y1) (y2) (y3) = some true
set_option maxRecDepth 100000 in
theorem Plain64Back_opens0 : Opens Try.prog 3 (Kd.int .i64) (fun x : Int => (Lit.int .i64 x).wf = true) := (opens_int Try.underlying3)
set_option maxRecDepth 100000 in
theorem Plain64Back_opens1 : Opens Try.prog 3 (Kd.int .i64) (fun x : Int => (Lit.int .i64 x).wf = true) := (opens_int Try.underlying3)
set_option maxRecDepth 100000 in
theorem Plain64Back_opens2 : Opens Try.prog 9 Kd.string (fun s : ByteArray => s.size ≤ 140737488351232) := (opens_string Try.underlying9)
set_option maxRecDepth 100000 in
theorem Plain64Back_opens3 : Opens Try.prog 9 Kd.string (fun s : ByteArray => s.size ≤ 140737488351232) := (opens_string Try.underlying9)
end Go.Proofs.Ytakhikhdbigdaaa.St
