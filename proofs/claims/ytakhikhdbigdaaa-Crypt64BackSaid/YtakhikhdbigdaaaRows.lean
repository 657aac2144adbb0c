/-
  No cell of these rows narrows 'for every input' (looked for: loops, veiled, ifaces, maps, wideKeys, modest, calm, conditions, laid).
  DERIVED. THE GIVEN ROWS OF THIS SEAT. 10 by the template 'for every input the law returns true; each argument reads behind the call as it read before'; 0 by the template 'total and deterministic' (their statements: YtakhikhdbigdaaaTotals.lean).
  GIVEN WITH THE SEED: the statements are not yours to turn. If you find one false, say at which input.
  Laid BY PROGRAM, IN A SANDBOX (cutbox-rows.mjs): the forced cells as the released guide's own fill.sh prints them over the translation 34469b9c46b5c9fe… (all of the seat's roots in one cut). By AI agents, Wed Nov 11 2026. No macro, syntax, notation, axiom, sorry.
-/
import Derived.Test.YtakhikhdbigdaaaChecked
import GoSem.Claim
import GoSem.ClaimJoined
import GoSem.ClaimMapViews
import Derived.JoinedTies
import Derived.KernelRfl
namespace Go.Proofs.Ytakhikhdbigdaaa
/- THE CELL 'sum', in the pinned program and in every row, IS THE sha256 OF THE DUMP (.gsa) THAT YtakhikhdbigdaaaProg.lean LOADS. Nothing in Lean hashes anything: it is a label: what it is worth is what the hold of that sum in a sandbox is worth. -/
noncomputable def Try.pinned : Pinned := { name := "ytakhikhdbigdaaa", sum := "34469b9c46b5c9fe7a40fa2bf8915253963581f59b12018b20bcb1989cf846fb", checked := Try.checked }
namespace Rows
def none {H : Type} : Left H := { results := [], args := [] }

/-- 'pestlelaw14.HexesReads': WHATEVER THE INPUT: true; the input reads as it did. -/
def hexesReadsSpec : ChangeSpec := { name := "hexesReads", fn := fun _ => fun
  | [d] => { results := [.lit (.bool true)], args := [d] }
  | _ => none }
def hexesReadsRow : OpenClaim := { program := "ytakhikhdbigdaaa", sum := "34469b9c46b5c9fe7a40fa2bf8915253963581f59b12018b20bcb1989cf846fb", func := "pestle/pestlelaw14.HexesReads", spec := "hexesReads", apart := false }
def HexesReadsSaid : Prop := hexesReadsRow.holds Try.pinned (OpenSpec.ofChange hexesReadsSpec)

/-- ITS FALSE NEIGHBOUR: 'it returns false'. Refute it at one input. -/
def hexesReadsWrong : ChangeSpec := { name := "hexesReads", fn := fun _ => fun
  | [d] => { results := [.lit (.bool false)], args := [d] }
  | _ => none }
def HexesReadsWrongFalsely : Prop := hexesReadsRow.holds Try.pinned (OpenSpec.ofChange hexesReadsWrong)

/-- 'pestlelaw14.HexesBack': WHATEVER THE INPUT: true; the input reads as it did. -/
def hexesBackSpec : ChangeSpec := { name := "hexesBack", fn := fun _ => fun
  | [d1, d2] => { results := [.lit (.bool true)], args := [d1, d2] }
  | _ => none }
def hexesBackRow : OpenClaim := { program := "ytakhikhdbigdaaa", sum := "34469b9c46b5c9fe7a40fa2bf8915253963581f59b12018b20bcb1989cf846fb", func := "pestle/pestlelaw14.HexesBack", spec := "hexesBack", apart := false }
def HexesBackSaid : Prop := hexesBackRow.holds Try.pinned (OpenSpec.ofChange hexesBackSpec)

/-- ITS FALSE NEIGHBOUR: 'it returns false'. Refute it at one input. -/
def hexesBackWrong : ChangeSpec := { name := "hexesBack", fn := fun _ => fun
  | [d1, d2] => { results := [.lit (.bool false)], args := [d1, d2] }
  | _ => none }
def HexesBackWrongFalsely : Prop := hexesBackRow.holds Try.pinned (OpenSpec.ofChange hexesBackWrong)

/-- 'pestlelaw14.HexesWrites': WHATEVER THE INPUT: true; the input reads as it did. -/
def hexesWritesSpec : ChangeSpec := { name := "hexesWrites", fn := fun _ => fun
  | [d1, d2] => { results := [.lit (.bool true)], args := [d1, d2] }
  | _ => none }
def hexesWritesRow : OpenClaim := { program := "ytakhikhdbigdaaa", sum := "34469b9c46b5c9fe7a40fa2bf8915253963581f59b12018b20bcb1989cf846fb", func := "pestle/pestlelaw14.HexesWrites", spec := "hexesWrites", apart := false }
def HexesWritesSaid : Prop := hexesWritesRow.holds Try.pinned (OpenSpec.ofChange hexesWritesSpec)

/-- ITS FALSE NEIGHBOUR: 'it returns false'. Refute it at one input. -/
def hexesWritesWrong : ChangeSpec := { name := "hexesWrites", fn := fun _ => fun
  | [d1, d2] => { results := [.lit (.bool false)], args := [d1, d2] }
  | _ => none }
def HexesWritesWrongFalsely : Prop := hexesWritesRow.holds Try.pinned (OpenSpec.ofChange hexesWritesWrong)

/-- 'pestlelaw15.SextetCodes': WHATEVER THE INPUT: true; the input reads as it did. -/
def sextetCodesSpec : ChangeSpec := { name := "sextetCodes", fn := fun _ => fun
  | [d1, d2, d3] => { results := [.lit (.bool true)], args := [d1, d2, d3] }
  | _ => none }
def sextetCodesRow : OpenClaim := { program := "ytakhikhdbigdaaa", sum := "34469b9c46b5c9fe7a40fa2bf8915253963581f59b12018b20bcb1989cf846fb", func := "pestle/pestlelaw15.SextetCodes", spec := "sextetCodes", apart := false }
def SextetCodesSaid : Prop := sextetCodesRow.holds Try.pinned (OpenSpec.ofChange sextetCodesSpec)

/-- ITS FALSE NEIGHBOUR: 'it returns false'. Refute it at one input. -/
def sextetCodesWrong : ChangeSpec := { name := "sextetCodes", fn := fun _ => fun
  | [d1, d2, d3] => { results := [.lit (.bool false)], args := [d1, d2, d3] }
  | _ => none }
def SextetCodesWrongFalsely : Prop := sextetCodesRow.holds Try.pinned (OpenSpec.ofChange sextetCodesWrong)

/-- 'pestlelaw15.SextetBack': WHATEVER THE INPUT: true; the input reads as it did. -/
def sextetBackSpec : ChangeSpec := { name := "sextetBack", fn := fun _ => fun
  | [d1, d2, d3] => { results := [.lit (.bool true)], args := [d1, d2, d3] }
  | _ => none }
def sextetBackRow : OpenClaim := { program := "ytakhikhdbigdaaa", sum := "34469b9c46b5c9fe7a40fa2bf8915253963581f59b12018b20bcb1989cf846fb", func := "pestle/pestlelaw15.SextetBack", spec := "sextetBack", apart := false }
def SextetBackSaid : Prop := sextetBackRow.holds Try.pinned (OpenSpec.ofChange sextetBackSpec)

/-- ITS FALSE NEIGHBOUR: 'it returns false'. Refute it at one input. -/
def sextetBackWrong : ChangeSpec := { name := "sextetBack", fn := fun _ => fun
  | [d1, d2, d3] => { results := [.lit (.bool false)], args := [d1, d2, d3] }
  | _ => none }
def SextetBackWrongFalsely : Prop := sextetBackRow.holds Try.pinned (OpenSpec.ofChange sextetBackWrong)

/-- 'pestlelaw15.SextetLetters': WHATEVER THE INPUT: true; the input reads as it did. -/
def sextetLettersSpec : ChangeSpec := { name := "sextetLetters", fn := fun _ => fun
  | [d1, d2] => { results := [.lit (.bool true)], args := [d1, d2] }
  | _ => none }
def sextetLettersRow : OpenClaim := { program := "ytakhikhdbigdaaa", sum := "34469b9c46b5c9fe7a40fa2bf8915253963581f59b12018b20bcb1989cf846fb", func := "pestle/pestlelaw15.SextetLetters", spec := "sextetLetters", apart := false }
def SextetLettersSaid : Prop := sextetLettersRow.holds Try.pinned (OpenSpec.ofChange sextetLettersSpec)

/-- ITS FALSE NEIGHBOUR: 'it returns false'. Refute it at one input. -/
def sextetLettersWrong : ChangeSpec := { name := "sextetLetters", fn := fun _ => fun
  | [d1, d2] => { results := [.lit (.bool false)], args := [d1, d2] }
  | _ => none }
def SextetLettersWrongFalsely : Prop := sextetLettersRow.holds Try.pinned (OpenSpec.ofChange sextetLettersWrong)

/-- 'pestlelaw17.Crypt64Codes': WHATEVER THE INPUT: true; the input reads as it did. -/
def crypt64CodesSpec : ChangeSpec := { name := "crypt64Codes", fn := fun _ => fun
  | [d1, d2, d3] => { results := [.lit (.bool true)], args := [d1, d2, d3] }
  | _ => none }
def crypt64CodesRow : OpenClaim := { program := "ytakhikhdbigdaaa", sum := "34469b9c46b5c9fe7a40fa2bf8915253963581f59b12018b20bcb1989cf846fb", func := "pestle/pestlelaw17.Crypt64Codes", spec := "crypt64Codes", apart := false }
def Crypt64CodesSaid : Prop := crypt64CodesRow.holds Try.pinned (OpenSpec.ofChange crypt64CodesSpec)

/-- ITS FALSE NEIGHBOUR: 'it returns false'. Refute it at one input. -/
def crypt64CodesWrong : ChangeSpec := { name := "crypt64Codes", fn := fun _ => fun
  | [d1, d2, d3] => { results := [.lit (.bool false)], args := [d1, d2, d3] }
  | _ => none }
def Crypt64CodesWrongFalsely : Prop := crypt64CodesRow.holds Try.pinned (OpenSpec.ofChange crypt64CodesWrong)

/-- 'pestlelaw17.Crypt64Back': WHATEVER THE INPUT: true; the input reads as it did. -/
def crypt64BackSpec : ChangeSpec := { name := "crypt64Back", fn := fun _ => fun
  | [d1, d2, d3] => { results := [.lit (.bool true)], args := [d1, d2, d3] }
  | _ => none }
def crypt64BackRow : OpenClaim := { program := "ytakhikhdbigdaaa", sum := "34469b9c46b5c9fe7a40fa2bf8915253963581f59b12018b20bcb1989cf846fb", func := "pestle/pestlelaw17.Crypt64Back", spec := "crypt64Back", apart := false }
def Crypt64BackSaid : Prop := crypt64BackRow.holds Try.pinned (OpenSpec.ofChange crypt64BackSpec)

/-- ITS FALSE NEIGHBOUR: 'it returns false'. Refute it at one input. -/
def crypt64BackWrong : ChangeSpec := { name := "crypt64Back", fn := fun _ => fun
  | [d1, d2, d3] => { results := [.lit (.bool false)], args := [d1, d2, d3] }
  | _ => none }
def Crypt64BackWrongFalsely : Prop := crypt64BackRow.holds Try.pinned (OpenSpec.ofChange crypt64BackWrong)

/-- 'pestlelaw16.Plain64Codes': WHATEVER THE INPUT: true; the input reads as it did. -/
def plain64CodesSpec : ChangeSpec := { name := "plain64Codes", fn := fun _ => fun
  | [d1, d2, d3, d4] => { results := [.lit (.bool true)], args := [d1, d2, d3, d4] }
  | _ => none }
def plain64CodesRow : OpenClaim := { program := "ytakhikhdbigdaaa", sum := "34469b9c46b5c9fe7a40fa2bf8915253963581f59b12018b20bcb1989cf846fb", func := "pestle/pestlelaw16.Plain64Codes", spec := "plain64Codes", apart := false }
def Plain64CodesSaid : Prop := plain64CodesRow.holds Try.pinned (OpenSpec.ofChange plain64CodesSpec)

/-- ITS FALSE NEIGHBOUR: 'it returns false'. Refute it at one input. -/
def plain64CodesWrong : ChangeSpec := { name := "plain64Codes", fn := fun _ => fun
  | [d1, d2, d3, d4] => { results := [.lit (.bool false)], args := [d1, d2, d3, d4] }
  | _ => none }
def Plain64CodesWrongFalsely : Prop := plain64CodesRow.holds Try.pinned (OpenSpec.ofChange plain64CodesWrong)

/-- 'pestlelaw16.Plain64Back': WHATEVER THE INPUT: true; the input reads as it did. -/
def plain64BackSpec : ChangeSpec := { name := "plain64Back", fn := fun _ => fun
  | [d1, d2, d3, d4] => { results := [.lit (.bool true)], args := [d1, d2, d3, d4] }
  | _ => none }
def plain64BackRow : OpenClaim := { program := "ytakhikhdbigdaaa", sum := "34469b9c46b5c9fe7a40fa2bf8915253963581f59b12018b20bcb1989cf846fb", func := "pestle/pestlelaw16.Plain64Back", spec := "plain64Back", apart := false }
def Plain64BackSaid : Prop := plain64BackRow.holds Try.pinned (OpenSpec.ofChange plain64BackSpec)

/-- ITS FALSE NEIGHBOUR: 'it returns false'. Refute it at one input. -/
def plain64BackWrong : ChangeSpec := { name := "plain64Back", fn := fun _ => fun
  | [d1, d2, d3, d4] => { results := [.lit (.bool false)], args := [d1, d2, d3, d4] }
  | _ => none }
def Plain64BackWrongFalsely : Prop := plain64BackRow.holds Try.pinned (OpenSpec.ofChange plain64BackWrong)

/- THE SECOND FORM. 'bulk': how many values and letters a reading holds, each counted each time it is reached (what is shared counts as often as it is met; a slice's spare places count too). A statement '..UptoSaid' is the law's where the arguments, and the package variables that the reading takes, are together of bulk at most 1048576: NARROWER than '..Said'. Prove '..Said' where nothing that the law and all that it calls make is longer than what came in: it says more and counts as full. Else prove '..UptoSaid'. A law counts once. -/
mutual
def uptoBulk {H : Type} : DataW H → Nat
  | .lit (.string bytes) => bytes.length + 1
  | .lit _ => 1
  | .nil => 1
  | .ptr d => uptoBulk d + 1
  | .slice elems spare => uptoBulkAll elems + uptoBulkAll spare + 1
  | .agg parts => uptoBulkAll parts + 1
  | .iface _ d => uptoBulk d + 1
  | .map entries => uptoBulkEntries entries + 1
  | .held _ => 1
def uptoBulkAll {H : Type} : List (DataW H) → Nat
  | [] => 0
  | d :: r => uptoBulk d + uptoBulkAll r
def uptoBulkEntries {H : Type} : List (Lit × DataW H) → Nat
  | [] => 0
  | x :: r => uptoBulkEntry x + uptoBulkEntries r
def uptoBulkEntry {H : Type} : Lit × DataW H → Nat
  | (.string bytes, d) => bytes.length + uptoBulk d + 1
  | (_, d) => uptoBulk d + 1
 end
def uptoSmall : (H : Type) → List (DataW H) → Bool := fun _ ds => decide (uptoBulkAll ds ≤ 1048576)
def OpenSpec.upto (s : _root_.Go.ChangeSpec) : _root_.Go.OpenSpec := { _root_.Go.OpenSpec.ofChange s with cond := some uptoSmall }

/-- 'pestlelaw14.HexesReads', WHERE WHAT IT READS IS OF BULK AT MOST 1048576: true; the input reads as it did. -/
def hexesReadsUptoRow : OpenClaim := { program := "ytakhikhdbigdaaa", sum := "34469b9c46b5c9fe7a40fa2bf8915253963581f59b12018b20bcb1989cf846fb", func := "pestle/pestlelaw14.HexesReads", spec := "hexesReads", apart := false, narrowed := true }
def HexesReadsUptoSaid : Prop := hexesReadsUptoRow.holds Try.pinned (OpenSpec.upto hexesReadsSpec)

/-- 'pestlelaw14.HexesBack', WHERE WHAT IT READS IS OF BULK AT MOST 1048576: true; the input reads as it did. -/
def hexesBackUptoRow : OpenClaim := { program := "ytakhikhdbigdaaa", sum := "34469b9c46b5c9fe7a40fa2bf8915253963581f59b12018b20bcb1989cf846fb", func := "pestle/pestlelaw14.HexesBack", spec := "hexesBack", apart := false, narrowed := true }
def HexesBackUptoSaid : Prop := hexesBackUptoRow.holds Try.pinned (OpenSpec.upto hexesBackSpec)

/-- 'pestlelaw14.HexesWrites', WHERE WHAT IT READS IS OF BULK AT MOST 1048576: true; the input reads as it did. -/
def hexesWritesUptoRow : OpenClaim := { program := "ytakhikhdbigdaaa", sum := "34469b9c46b5c9fe7a40fa2bf8915253963581f59b12018b20bcb1989cf846fb", func := "pestle/pestlelaw14.HexesWrites", spec := "hexesWrites", apart := false, narrowed := true }
def HexesWritesUptoSaid : Prop := hexesWritesUptoRow.holds Try.pinned (OpenSpec.upto hexesWritesSpec)

/-- 'pestlelaw15.SextetCodes', WHERE WHAT IT READS IS OF BULK AT MOST 1048576: true; the input reads as it did. -/
def sextetCodesUptoRow : OpenClaim := { program := "ytakhikhdbigdaaa", sum := "34469b9c46b5c9fe7a40fa2bf8915253963581f59b12018b20bcb1989cf846fb", func := "pestle/pestlelaw15.SextetCodes", spec := "sextetCodes", apart := false, narrowed := true }
def SextetCodesUptoSaid : Prop := sextetCodesUptoRow.holds Try.pinned (OpenSpec.upto sextetCodesSpec)

/-- 'pestlelaw15.SextetBack', WHERE WHAT IT READS IS OF BULK AT MOST 1048576: true; the input reads as it did. -/
def sextetBackUptoRow : OpenClaim := { program := "ytakhikhdbigdaaa", sum := "34469b9c46b5c9fe7a40fa2bf8915253963581f59b12018b20bcb1989cf846fb", func := "pestle/pestlelaw15.SextetBack", spec := "sextetBack", apart := false, narrowed := true }
def SextetBackUptoSaid : Prop := sextetBackUptoRow.holds Try.pinned (OpenSpec.upto sextetBackSpec)

/-- 'pestlelaw15.SextetLetters', WHERE WHAT IT READS IS OF BULK AT MOST 1048576: true; the input reads as it did. -/
def sextetLettersUptoRow : OpenClaim := { program := "ytakhikhdbigdaaa", sum := "34469b9c46b5c9fe7a40fa2bf8915253963581f59b12018b20bcb1989cf846fb", func := "pestle/pestlelaw15.SextetLetters", spec := "sextetLetters", apart := false, narrowed := true }
def SextetLettersUptoSaid : Prop := sextetLettersUptoRow.holds Try.pinned (OpenSpec.upto sextetLettersSpec)

/-- 'pestlelaw17.Crypt64Codes', WHERE WHAT IT READS IS OF BULK AT MOST 1048576: true; the input reads as it did. -/
def crypt64CodesUptoRow : OpenClaim := { program := "ytakhikhdbigdaaa", sum := "34469b9c46b5c9fe7a40fa2bf8915253963581f59b12018b20bcb1989cf846fb", func := "pestle/pestlelaw17.Crypt64Codes", spec := "crypt64Codes", apart := false, narrowed := true }
def Crypt64CodesUptoSaid : Prop := crypt64CodesUptoRow.holds Try.pinned (OpenSpec.upto crypt64CodesSpec)

/-- 'pestlelaw17.Crypt64Back', WHERE WHAT IT READS IS OF BULK AT MOST 1048576: true; the input reads as it did. -/
def crypt64BackUptoRow : OpenClaim := { program := "ytakhikhdbigdaaa", sum := "34469b9c46b5c9fe7a40fa2bf8915253963581f59b12018b20bcb1989cf846fb", func := "pestle/pestlelaw17.Crypt64Back", spec := "crypt64Back", apart := false, narrowed := true }
def Crypt64BackUptoSaid : Prop := crypt64BackUptoRow.holds Try.pinned (OpenSpec.upto crypt64BackSpec)

/-- 'pestlelaw16.Plain64Codes', WHERE WHAT IT READS IS OF BULK AT MOST 1048576: true; the input reads as it did. -/
def plain64CodesUptoRow : OpenClaim := { program := "ytakhikhdbigdaaa", sum := "34469b9c46b5c9fe7a40fa2bf8915253963581f59b12018b20bcb1989cf846fb", func := "pestle/pestlelaw16.Plain64Codes", spec := "plain64Codes", apart := false, narrowed := true }
def Plain64CodesUptoSaid : Prop := plain64CodesUptoRow.holds Try.pinned (OpenSpec.upto plain64CodesSpec)

/-- 'pestlelaw16.Plain64Back', WHERE WHAT IT READS IS OF BULK AT MOST 1048576: true; the input reads as it did. -/
def plain64BackUptoRow : OpenClaim := { program := "ytakhikhdbigdaaa", sum := "34469b9c46b5c9fe7a40fa2bf8915253963581f59b12018b20bcb1989cf846fb", func := "pestle/pestlelaw16.Plain64Back", spec := "plain64Back", apart := false, narrowed := true }
def Plain64BackUptoSaid : Prop := plain64BackUptoRow.holds Try.pinned (OpenSpec.upto plain64BackSpec)

end Rows
end Go.Proofs.Ytakhikhdbigdaaa
