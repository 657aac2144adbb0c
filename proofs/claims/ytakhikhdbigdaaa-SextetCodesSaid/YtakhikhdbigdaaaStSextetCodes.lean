/- The pure statement of the law SextetCodes, and how its arguments are read. -/
import Derived.Test.YtakhikhdbigdaaaOpn
import Derived.Test.YtakhikhdbigdaaaPallx4
import Derived.KernelRfl
namespace Go.Proofs.Ytakhikhdbigdaaa.St
open Go.RowKit Go.Proofs.Ytakhikhdbigdaaa.Pall Go.Proofs.YtakhikhdbigdaaaW.PrintWords Go.Proofs.YtakhikhdbigdaaaW.PrintLast Go.Proofs.Ytakhikhdbigdaaa.Opn
set_option linter.unusedVariables false
def SextetCodes_Pure : Prop := ∀ (y0 : ByteArray) (y1 : (List ByteArray)) (y2 : ByteArray), (fun s : ByteArray => s.size ≤ 140737488351232) y0 → (fun l : List ByteArray => (∀ x ∈ l, (fun s : ByteArray => s.size ≤ 140737488351232) x) ∧ l.length * 16 ≤ 140737488351232 ∧ l.length ≤ 9223372036854775807) y1 → (fun s : ByteArray => s.size ≤ 140737488351232) y2 → ∃ k, pestlelaw15_SextetCodes.f k (y0) (y1) (y2) = some true
set_option maxRecDepth 100000 in
theorem SextetCodes_opens0 : Opens Try.prog 9 Kd.string (fun s : ByteArray => s.size ≤ 140737488351232) := (opens_string Try.underlying9)
set_option maxRecDepth 100000 in
theorem SextetCodes_opens1 : Opens Try.prog 32 (Kd.slice 9 Kd.string) (fun l : List ByteArray => (∀ x ∈ l, (fun s : ByteArray => s.size ≤ 140737488351232) x) ∧ l.length * 16 ≤ 140737488351232 ∧ l.length ≤ 9223372036854775807) := (opens_slice Try.underlying32 (opens_string Try.underlying9) (by kernel_rfl))
set_option maxRecDepth 100000 in
theorem SextetCodes_opens2 : Opens Try.prog 9 Kd.string (fun s : ByteArray => s.size ≤ 140737488351232) := (opens_string Try.underlying9)
end Go.Proofs.Ytakhikhdbigdaaa.St
