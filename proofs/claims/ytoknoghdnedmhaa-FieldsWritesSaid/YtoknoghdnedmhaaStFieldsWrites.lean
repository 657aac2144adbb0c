/- The pure statement of the law FieldsWrites, and how its arguments are read. -/
import Derived.Test.YtoknoghdnedmhaaOpn
import Derived.Test.YtoknoghdnedmhaaPallx11
import Derived.KernelRfl
namespace Go.Proofs.Ytoknoghdnedmhaa.St
open Go.RowKit Go.Proofs.Ytoknoghdnedmhaa.Pall Go.Proofs.YtoknoghdnedmhaaW.PrintWords Go.Proofs.YtoknoghdnedmhaaW.PrintLast Go.Proofs.Ytoknoghdnedmhaa.Opn
set_option linter.unusedVariables false
def FieldsWrites_Pure : Prop := ∀ (y0 : (List S24)) (y1 : (List ByteArray)), (fun l : List S24 => (∀ x ∈ l, (fun x : S24 => (fun s : ByteArray => s.size ≤ 140737488351232) x.f0 ∧ (fun x : Int => (Lit.int .i64 x).wf = true) x.f1) x) ∧ l.length * 24 ≤ 140737488351232 ∧ l.length ≤ 9223372036854775807) y0 → (fun l : List ByteArray => (∀ x ∈ l, (fun s : ByteArray => s.size ≤ 140737488351232) x) ∧ l.length * 16 ≤ 140737488351232 ∧ l.length ≤ 9223372036854775807) y1 → ∃ k, pestlelaw41_FieldsWrites.f k (y0) (y1) = some true
set_option maxRecDepth 100000 in
theorem FieldsWrites_opens0 : Opens Try.prog 30 (Kd.slice 24 k24) (fun l : List S24 => (∀ x ∈ l, (fun x : S24 => (fun s : ByteArray => s.size ≤ 140737488351232) x.f0 ∧ (fun x : Int => (Lit.int .i64 x).wf = true) x.f1) x) ∧ l.length * 24 ≤ 140737488351232 ∧ l.length ≤ 9223372036854775807) := (opens_slice Try.underlying30 (show Opens Try.prog 24 k24 (fun x : S24 => (fun s : ByteArray => s.size ≤ 140737488351232) x.f0 ∧ (fun x : Int => (Lit.int .i64 x).wf = true) x.f1) from opens_struct (d := (Kd.pair Kd.string (Kd.int .i64))) Try.underlying24 (by kernel_rfl) (opensL_cons rfl (by kernel_rfl) (opens_string Try.underlying9) (opensL_last rfl (by kernel_rfl) (opens_int Try.underlying3))) (fun x : S24 => (x.f0, x.f1)) (fun p => (⟨p.1, p.2⟩ : S24)) (fun _ => rfl)) (by kernel_rfl))
set_option maxRecDepth 100000 in
theorem FieldsWrites_opens1 : Opens Try.prog 37 (Kd.slice 9 Kd.string) (fun l : List ByteArray => (∀ x ∈ l, (fun s : ByteArray => s.size ≤ 140737488351232) x) ∧ l.length * 16 ≤ 140737488351232 ∧ l.length ≤ 9223372036854775807) := (opens_slice Try.underlying37 (opens_string Try.underlying9) (by kernel_rfl))
end Go.Proofs.Ytoknoghdnedmhaa.St
