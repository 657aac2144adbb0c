/- The pure statement of the law HexesWrites, and how its arguments are read. -/
import Derived.Test.YtakhikhdbigdaaaOpn
import Derived.Test.YtakhikhdbigdaaaPallx5
import Derived.KernelRfl
namespace Go.Proofs.Ytakhikhdbigdaaa.St
open Go.RowKit Go.Proofs.Ytakhikhdbigdaaa.Pall Go.Proofs.YtakhikhdbigdaaaW.PrintWords Go.Proofs.YtakhikhdbigdaaaW.PrintLast Go.Proofs.Ytakhikhdbigdaaa.Opn
set_option linter.unusedVariables false
def HexesWrites_Pure : Prop := ∀ (y0 : (List ByteArray)) (y1 : (List Int)), (fun l : List ByteArray => (∀ x ∈ l, (fun s : ByteArray => s.size ≤ 140737488351232) x) ∧ l.length * 16 ≤ 140737488351232 ∧ l.length ≤ 9223372036854775807) y0 → (fun l : List Int => (∀ x ∈ l, (fun x : Int => (Lit.int .u32 x).wf = true) x) ∧ l.length * 4 ≤ 140737488351232 ∧ l.length ≤ 9223372036854775807) y1 → ∃ k, pestlelaw14_HexesWrites.f k (y0) (y1) = some true
set_option maxRecDepth 100000 in
theorem HexesWrites_opens0 : Opens Try.prog 32 (Kd.slice 9 Kd.string) (fun l : List ByteArray => (∀ x ∈ l, (fun s : ByteArray => s.size ≤ 140737488351232) x) ∧ l.length * 16 ≤ 140737488351232 ∧ l.length ≤ 9223372036854775807) := (opens_slice Try.underlying32 (opens_string Try.underlying9) (by kernel_rfl))
set_option maxRecDepth 100000 in
theorem HexesWrites_opens1 : Opens Try.prog 33 (Kd.slice 68 (Kd.int .u32)) (fun l : List Int => (∀ x ∈ l, (fun x : Int => (Lit.int .u32 x).wf = true) x) ∧ l.length * 4 ≤ 140737488351232 ∧ l.length ≤ 9223372036854775807) := (opens_slice Try.underlying33 (opens_int Try.underlying68) (by kernel_rfl))
end Go.Proofs.Ytakhikhdbigdaaa.St
