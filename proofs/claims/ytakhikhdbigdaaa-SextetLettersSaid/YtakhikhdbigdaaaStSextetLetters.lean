/- The pure statement of the law SextetLetters, and how its arguments are read. -/
import Derived.Test.YtakhikhdbigdaaaOpn
import Derived.Test.YtakhikhdbigdaaaPallx5
import Derived.KernelRfl
namespace Go.Proofs.Ytakhikhdbigdaaa.St
open Go.RowKit Go.Proofs.Ytakhikhdbigdaaa.Pall Go.Proofs.YtakhikhdbigdaaaW.PrintWords Go.Proofs.YtakhikhdbigdaaaW.PrintLast Go.Proofs.Ytakhikhdbigdaaa.Opn
set_option linter.unusedVariables false
def SextetLetters_Pure : Prop := ∀ (y0 : (List ByteArray)) (y1 : Int), (fun l : List ByteArray => (∀ x ∈ l, (fun s : ByteArray => s.size ≤ 140737488351232) x) ∧ l.length * 16 ≤ 140737488351232 ∧ l.length ≤ 9223372036854775807) y0 → (fun x : Int => (Lit.int .i64 x).wf = true) y1 → ∃ k, pestlelaw15_SextetLetters.f k (y0) (y1) = some true
set_option maxRecDepth 100000 in
theorem SextetLetters_opens0 : Opens Try.prog 32 (Kd.slice 9 Kd.string) (fun l : List ByteArray => (∀ x ∈ l, (fun s : ByteArray => s.size ≤ 140737488351232) x) ∧ l.length * 16 ≤ 140737488351232 ∧ l.length ≤ 9223372036854775807) := (opens_slice Try.underlying32 (opens_string Try.underlying9) (by kernel_rfl))
set_option maxRecDepth 100000 in
theorem SextetLetters_opens1 : Opens Try.prog 3 (Kd.int .i64) (fun x : Int => (Lit.int .i64 x).wf = true) := (opens_int Try.underlying3)
end Go.Proofs.Ytakhikhdbigdaaa.St
