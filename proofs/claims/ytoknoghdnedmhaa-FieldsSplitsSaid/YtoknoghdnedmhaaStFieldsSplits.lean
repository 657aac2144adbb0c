/- The pure statement of the law FieldsSplits, and how its arguments are read. -/
import Derived.Test.YtoknoghdnedmhaaOpn
import Derived.Test.YtoknoghdnedmhaaPallx8
import Derived.KernelRfl
namespace Go.Proofs.Ytoknoghdnedmhaa.St
open Go.RowKit Go.Proofs.Ytoknoghdnedmhaa.Pall Go.Proofs.YtoknoghdnedmhaaW.PrintWords Go.Proofs.YtoknoghdnedmhaaW.PrintLast Go.Proofs.Ytoknoghdnedmhaa.Opn
set_option linter.unusedVariables false
def FieldsSplits_Pure : Prop := ∀ (y0 : ByteArray) (y1 : Int) (y2 : (List ByteArray)), (fun s : ByteArray => s.size ≤ 140737488351232) y0 → (fun x : Int => (Lit.int .u8 x).wf = true) y1 → (fun l : List ByteArray => (∀ x ∈ l, (fun s : ByteArray => s.size ≤ 140737488351232) x) ∧ l.length * 16 ≤ 140737488351232 ∧ l.length ≤ 9223372036854775807) y2 → ∃ k, pestlelaw41_FieldsSplits.f k (y0) (y1) (y2) = some true
set_option maxRecDepth 100000 in
theorem FieldsSplits_opens0 : Opens Try.prog 9 Kd.string (fun s : ByteArray => s.size ≤ 140737488351232) := (opens_string Try.underlying9)
set_option maxRecDepth 100000 in
theorem FieldsSplits_opens1 : Opens Try.prog 5 (Kd.int .u8) (fun x : Int => (Lit.int .u8 x).wf = true) := (opens_int Try.underlying5)
set_option maxRecDepth 100000 in
theorem FieldsSplits_opens2 : Opens Try.prog 37 (Kd.slice 9 Kd.string) (fun l : List ByteArray => (∀ x ∈ l, (fun s : ByteArray => s.size ≤ 140737488351232) x) ∧ l.length * 16 ≤ 140737488351232 ∧ l.length ≤ 9223372036854775807) := (opens_slice Try.underlying37 (opens_string Try.underlying9) (by kernel_rfl))
end Go.Proofs.Ytoknoghdnedmhaa.St
