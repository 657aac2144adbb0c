/- The pure statement of the law Crypt64Back, and how its arguments are read. -/
import Derived.Test.YtakhikhdbigdaaaOpn
import Derived.Test.YtakhikhdbigdaaaPallx8
import Derived.KernelRfl
namespace Go.Proofs.Ytakhikhdbigdaaa.St
open Go.RowKit Go.Proofs.Ytakhikhdbigdaaa.Pall Go.Proofs.YtakhikhdbigdaaaW.PrintWords Go.Proofs.YtakhikhdbigdaaaW.PrintLast Go.Proofs.Ytakhikhdbigdaaa.Opn
set_option linter.unusedVariables false
def Crypt64Back_Pure : Prop := ∀ (y0 : ByteArray) (y1 : ByteArray) (y2 : ByteArray), (fun s : ByteArray => s.size ≤ 140737488351232) y0 → (fun s : ByteArray => s.size ≤ 140737488351232) y1 → (fun s : ByteArray => s.size ≤ 140737488351232) y2 → ∃ k, pestlelaw17_Crypt64Back.f k (y0) (y1) (y2) = some true
set_option maxRecDepth 100000 in
theorem Crypt64Back_opens0 : Opens Try.prog 9 Kd.string (fun s : ByteArray => s.size ≤ 140737488351232) := (opens_string Try.underlying9)
set_option maxRecDepth 100000 in
theorem Crypt64Back_opens1 : Opens Try.prog 9 Kd.string (fun s : ByteArray => s.size ≤ 140737488351232) := (opens_string Try.underlying9)
set_option maxRecDepth 100000 in
theorem Crypt64Back_opens2 : Opens Try.prog 9 Kd.string (fun s : ByteArray => s.size ≤ 140737488351232) := (opens_string Try.underlying9)
end Go.Proofs.Ytakhikhdbigdaaa.St
