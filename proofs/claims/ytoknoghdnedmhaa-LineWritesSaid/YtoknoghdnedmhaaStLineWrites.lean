/- The pure statement of the law LineWrites, and how its arguments are read. -/
import Derived.Test.YtoknoghdnedmhaaOpn
import Derived.Test.YtoknoghdnedmhaaPallx11
import Derived.KernelRfl
namespace Go.Proofs.Ytoknoghdnedmhaa.St
open Go.RowKit Go.Proofs.Ytoknoghdnedmhaa.Pall Go.Proofs.YtoknoghdnedmhaaW.PrintWords Go.Proofs.YtoknoghdnedmhaaW.PrintLast Go.Proofs.Ytoknoghdnedmhaa.Opn
set_option linter.unusedVariables false
def LineWrites_Pure : Prop := ∀ (y0 : (List S49)) (y1 : ByteArray), (fun l : List S49 => (∀ x ∈ l, (fun x : S49 => (fun x : Int => (Lit.int .i64 x).wf = true) x.f0 ∧ (fun s : ByteArray => s.size ≤ 140737488351232) x.f1 ∧ (fun s : ByteArray => s.size ≤ 140737488351232) x.f2) x) ∧ l.length * 40 ≤ 140737488351232 ∧ l.length ≤ 9223372036854775807) y0 → (fun s : ByteArray => s.size ≤ 140737488351232) y1 → ∃ k, pestlelaw53_LineWrites.f k (y0) (y1) = some true
set_option maxRecDepth 100000 in
theorem LineWrites_opens0 : Opens Try.prog 68 (Kd.slice 49 k49) (fun l : List S49 => (∀ x ∈ l, (fun x : S49 => (fun x : Int => (Lit.int .i64 x).wf = true) x.f0 ∧ (fun s : ByteArray => s.size ≤ 140737488351232) x.f1 ∧ (fun s : ByteArray => s.size ≤ 140737488351232) x.f2) x) ∧ l.length * 40 ≤ 140737488351232 ∧ l.length ≤ 9223372036854775807) := (opens_slice Try.underlying68 (show Opens Try.prog 49 k49 (fun x : S49 => (fun x : Int => (Lit.int .i64 x).wf = true) x.f0 ∧ (fun s : ByteArray => s.size ≤ 140737488351232) x.f1 ∧ (fun s : ByteArray => s.size ≤ 140737488351232) x.f2) from opens_struct (d := (Kd.pair (Kd.int .i64) (Kd.pair Kd.string Kd.string))) Try.underlying49 (by kernel_rfl) (opensL_cons rfl (by kernel_rfl) (opens_int Try.underlying3) (opensL_cons rfl (by kernel_rfl) (opens_string Try.underlying9) (opensL_last rfl (by kernel_rfl) (opens_string Try.underlying9)))) (fun x : S49 => (x.f0, x.f1, x.f2)) (fun p => (⟨p.1, p.2.1, p.2.2⟩ : S49)) (fun _ => rfl)) (by kernel_rfl))
set_option maxRecDepth 100000 in
theorem LineWrites_opens1 : Opens Try.prog 9 Kd.string (fun s : ByteArray => s.size ≤ 140737488351232) := (opens_string Try.underlying9)
end Go.Proofs.Ytoknoghdnedmhaa.St
