/- The pure statement of the law ModularBack, and how its arguments are read. -/
import Derived.Test.YtoknoghdnedmhaaOpn
import Derived.Test.YtoknoghdnedmhaaPallx9
import Derived.KernelRfl
namespace Go.Proofs.Ytoknoghdnedmhaa.St
open Go.RowKit Go.Proofs.Ytoknoghdnedmhaa.Pall Go.Proofs.YtoknoghdnedmhaaW.PrintWords Go.Proofs.YtoknoghdnedmhaaW.PrintLast Go.Proofs.Ytoknoghdnedmhaa.Opn
set_option linter.unusedVariables false
def ModularBack_Pure : Prop := ∀ (y0 : S45) (y1 : ByteArray), (fun x : S45 => (fun x : Int => (Lit.int .u8 x).wf = true) x.f0 ∧ (fun x : Int => (Lit.int .i64 x).wf = true) x.f1 ∧ (fun s : ByteArray => s.size ≤ 140737488351232) x.f2 ∧ (fun s : ByteArray => s.size ≤ 140737488351232) x.f3) y0 → (fun s : ByteArray => s.size ≤ 140737488351232) y1 → ∃ k, pestlelaw43_ModularBack.f k (y0.f0) (y0.f1) (y0.f2) (y0.f3) (y1) = some true
set_option maxRecDepth 100000 in
theorem ModularBack_opens0 : Opens Try.prog 45 k45 (fun x : S45 => (fun x : Int => (Lit.int .u8 x).wf = true) x.f0 ∧ (fun x : Int => (Lit.int .i64 x).wf = true) x.f1 ∧ (fun s : ByteArray => s.size ≤ 140737488351232) x.f2 ∧ (fun s : ByteArray => s.size ≤ 140737488351232) x.f3) := (show Opens Try.prog 45 k45 (fun x : S45 => (fun x : Int => (Lit.int .u8 x).wf = true) x.f0 ∧ (fun x : Int => (Lit.int .i64 x).wf = true) x.f1 ∧ (fun s : ByteArray => s.size ≤ 140737488351232) x.f2 ∧ (fun s : ByteArray => s.size ≤ 140737488351232) x.f3) from opens_struct (d := (Kd.pair (Kd.int .u8) (Kd.pair (Kd.int .i64) (Kd.pair Kd.string Kd.string)))) Try.underlying45 (by kernel_rfl) (opensL_cons rfl (by kernel_rfl) (opens_int Try.underlying5) (opensL_cons rfl (by kernel_rfl) (opens_int Try.underlying3) (opensL_cons rfl (by kernel_rfl) (opens_string Try.underlying9) (opensL_last rfl (by kernel_rfl) (opens_string Try.underlying9))))) (fun x : S45 => (x.f0, x.f1, x.f2, x.f3)) (fun p => (⟨p.1, p.2.1, p.2.2.1, p.2.2.2⟩ : S45)) (fun _ => rfl))
set_option maxRecDepth 100000 in
theorem ModularBack_opens1 : Opens Try.prog 9 Kd.string (fun s : ByteArray => s.size ≤ 140737488351232) := (opens_string Try.underlying9)
end Go.Proofs.Ytoknoghdnedmhaa.St
