/-
  No cell of these rows narrows 'for every input' (looked for: loops, veiled, ifaces, maps, wideKeys, modest, calm, conditions, laid).
  DERIVED. THE GIVEN ROWS OF THIS SEAT. 9 by the template 'for every input the law returns true; each argument reads behind the call as it read before'; 0 by the template 'total and deterministic' (their statements: YtoknoghdnedmhaaTotals.lean).
  GIVEN WITH THE SEED: the statements are not yours to turn. If you find one false, say at which input.
  Laid BY PROGRAM, IN A SANDBOX (cutbox-rows.mjs): the forced cells as the released guide's own fill.sh prints them over the translation 8eb578f276d34709… (all of the seat's roots in one cut). By AI agents, Wed Nov 11 2026. No macro, syntax, notation, axiom, sorry.
-/
import Derived.Test.YtoknoghdnedmhaaChecked
import GoSem.Claim
import GoSem.ClaimJoined
import GoSem.ClaimMapViews
import Derived.JoinedTies
import Derived.KernelRfl
namespace Go.Proofs.Ytoknoghdnedmhaa
/- THE CELL 'sum', in the pinned program and in every row, IS THE sha256 OF THE DUMP (.gsa) THAT YtoknoghdnedmhaaProg.lean LOADS. Nothing in Lean hashes anything: it is a label: what it is worth is what the hold of that sum in a sandbox is worth. -/
noncomputable def Try.pinned : Pinned := { name := "ytoknoghdnedmhaa", sum := "8eb578f276d34709cb10d3ceacbceef92cfe2d5d17e617f3652e8f17091f7370", checked := Try.checked }
namespace Rows
def none {H : Type} : Left H := { results := [], args := [] }

/-- 'pestlelaw41.FieldsReads': WHATEVER THE INPUT: true; the input reads as it did. -/
def fieldsReadsSpec : ChangeSpec := { name := "fieldsReads", fn := fun _ => fun
  | [d] => { results := [.lit (.bool true)], args := [d] }
  | _ => none }
def fieldsReadsRow : OpenClaim := { program := "ytoknoghdnedmhaa", sum := "8eb578f276d34709cb10d3ceacbceef92cfe2d5d17e617f3652e8f17091f7370", func := "pestle/pestlelaw41.FieldsReads", spec := "fieldsReads", apart := false }
def FieldsReadsSaid : Prop := fieldsReadsRow.holds Try.pinned (OpenSpec.ofChange fieldsReadsSpec)

/-- ITS FALSE NEIGHBOUR: 'it returns false'. Refute it at one input. -/
def fieldsReadsWrong : ChangeSpec := { name := "fieldsReads", fn := fun _ => fun
  | [d] => { results := [.lit (.bool false)], args := [d] }
  | _ => none }
def FieldsReadsWrongFalsely : Prop := fieldsReadsRow.holds Try.pinned (OpenSpec.ofChange fieldsReadsWrong)

/-- 'pestlelaw41.FieldsSplits': WHATEVER THE INPUT: true; the input reads as it did. -/
def fieldsSplitsSpec : ChangeSpec := { name := "fieldsSplits", fn := fun _ => fun
  | [d1, d2, d3] => { results := [.lit (.bool true)], args := [d1, d2, d3] }
  | _ => none }
def fieldsSplitsRow : OpenClaim := { program := "ytoknoghdnedmhaa", sum := "8eb578f276d34709cb10d3ceacbceef92cfe2d5d17e617f3652e8f17091f7370", func := "pestle/pestlelaw41.FieldsSplits", spec := "fieldsSplits", apart := false }
def FieldsSplitsSaid : Prop := fieldsSplitsRow.holds Try.pinned (OpenSpec.ofChange fieldsSplitsSpec)

/-- ITS FALSE NEIGHBOUR: 'it returns false'. Refute it at one input. -/
def fieldsSplitsWrong : ChangeSpec := { name := "fieldsSplits", fn := fun _ => fun
  | [d1, d2, d3] => { results := [.lit (.bool false)], args := [d1, d2, d3] }
  | _ => none }
def FieldsSplitsWrongFalsely : Prop := fieldsSplitsRow.holds Try.pinned (OpenSpec.ofChange fieldsSplitsWrong)

/-- 'pestlelaw43.ModularParses': WHATEVER THE INPUT: true; the input reads as it did. -/
def modularParsesSpec : ChangeSpec := { name := "modularParses", fn := fun _ => fun
  | [d] => { results := [.lit (.bool true)], args := [d] }
  | _ => none }
def modularParsesRow : OpenClaim := { program := "ytoknoghdnedmhaa", sum := "8eb578f276d34709cb10d3ceacbceef92cfe2d5d17e617f3652e8f17091f7370", func := "pestle/pestlelaw43.ModularParses", spec := "modularParses", apart := false }
def ModularParsesSaid : Prop := modularParsesRow.holds Try.pinned (OpenSpec.ofChange modularParsesSpec)

/-- ITS FALSE NEIGHBOUR: 'it returns false'. Refute it at one input. -/
def modularParsesWrong : ChangeSpec := { name := "modularParses", fn := fun _ => fun
  | [d] => { results := [.lit (.bool false)], args := [d] }
  | _ => none }
def ModularParsesWrongFalsely : Prop := modularParsesRow.holds Try.pinned (OpenSpec.ofChange modularParsesWrong)

/-- 'pestlelaw54.ReportReplies': WHATEVER THE INPUT: true; the input reads as it did. -/
def reportRepliesSpec : ChangeSpec := { name := "reportReplies", fn := fun _ => fun
  | [d1, d2, d3, d4] => { results := [.lit (.bool true)], args := [d1, d2, d3, d4] }
  | _ => none }
def reportRepliesRow : OpenClaim := { program := "ytoknoghdnedmhaa", sum := "8eb578f276d34709cb10d3ceacbceef92cfe2d5d17e617f3652e8f17091f7370", func := "pestle/pestlelaw54.ReportReplies", spec := "reportReplies", recurses := true, apart := false }
def ReportRepliesSaid : Prop := reportRepliesRow.holds Try.pinned (OpenSpec.ofChange reportRepliesSpec)

/-- ITS FALSE NEIGHBOUR: 'it returns false'. Refute it at one input. -/
def reportRepliesWrong : ChangeSpec := { name := "reportReplies", fn := fun _ => fun
  | [d1, d2, d3, d4] => { results := [.lit (.bool false)], args := [d1, d2, d3, d4] }
  | _ => none }
def ReportRepliesWrongFalsely : Prop := reportRepliesRow.holds Try.pinned (OpenSpec.ofChange reportRepliesWrong)

/-- 'pestlelaw41.FieldsWrites': WHATEVER THE INPUT: true; the input reads as it did. -/
def fieldsWritesSpec : ChangeSpec := { name := "fieldsWrites", fn := fun _ => fun
  | [d1, d2] => { results := [.lit (.bool true)], args := [d1, d2] }
  | _ => none }
def fieldsWritesRow : OpenClaim := { program := "ytoknoghdnedmhaa", sum := "8eb578f276d34709cb10d3ceacbceef92cfe2d5d17e617f3652e8f17091f7370", func := "pestle/pestlelaw41.FieldsWrites", spec := "fieldsWrites", recurses := true, apart := false }
def FieldsWritesSaid : Prop := fieldsWritesRow.holds Try.pinned (OpenSpec.ofChange fieldsWritesSpec)

/-- ITS FALSE NEIGHBOUR: 'it returns false'. Refute it at one input. -/
def fieldsWritesWrong : ChangeSpec := { name := "fieldsWrites", fn := fun _ => fun
  | [d1, d2] => { results := [.lit (.bool false)], args := [d1, d2] }
  | _ => none }
def FieldsWritesWrongFalsely : Prop := fieldsWritesRow.holds Try.pinned (OpenSpec.ofChange fieldsWritesWrong)

/-- 'pestlelaw54.ReportPairs': WHATEVER THE INPUT: true; the input reads as it did. -/
def reportPairsSpec : ChangeSpec := { name := "reportPairs", fn := fun _ => fun
  | [d1, d2] => { results := [.lit (.bool true)], args := [d1, d2] }
  | _ => none }
def reportPairsRow : OpenClaim := { program := "ytoknoghdnedmhaa", sum := "8eb578f276d34709cb10d3ceacbceef92cfe2d5d17e617f3652e8f17091f7370", func := "pestle/pestlelaw54.ReportPairs", spec := "reportPairs", recurses := true, apart := false }
def ReportPairsSaid : Prop := reportPairsRow.holds Try.pinned (OpenSpec.ofChange reportPairsSpec)

/-- ITS FALSE NEIGHBOUR: 'it returns false'. Refute it at one input. -/
def reportPairsWrong : ChangeSpec := { name := "reportPairs", fn := fun _ => fun
  | [d1, d2] => { results := [.lit (.bool false)], args := [d1, d2] }
  | _ => none }
def ReportPairsWrongFalsely : Prop := reportPairsRow.holds Try.pinned (OpenSpec.ofChange reportPairsWrong)

/-- 'pestlelaw43.ModularBack': WHATEVER THE INPUT: true; the input reads as it did. -/
def modularBackSpec : ChangeSpec := { name := "modularBack", fn := fun _ => fun
  | [d1, d2] => { results := [.lit (.bool true)], args := [d1, d2] }
  | _ => none }
def modularBackRow : OpenClaim := { program := "ytoknoghdnedmhaa", sum := "8eb578f276d34709cb10d3ceacbceef92cfe2d5d17e617f3652e8f17091f7370", func := "pestle/pestlelaw43.ModularBack", spec := "modularBack", recurses := true, apart := false }
def ModularBackSaid : Prop := modularBackRow.holds Try.pinned (OpenSpec.ofChange modularBackSpec)

/-- ITS FALSE NEIGHBOUR: 'it returns false'. Refute it at one input. -/
def modularBackWrong : ChangeSpec := { name := "modularBack", fn := fun _ => fun
  | [d1, d2] => { results := [.lit (.bool false)], args := [d1, d2] }
  | _ => none }
def ModularBackWrongFalsely : Prop := modularBackRow.holds Try.pinned (OpenSpec.ofChange modularBackWrong)

/-- 'pestlelaw53.LineReads': WHATEVER THE INPUT: true; the input reads as it did. -/
def lineReadsSpec : ChangeSpec := { name := "lineReads", fn := fun _ => fun
  | [d1, d2] => { results := [.lit (.bool true)], args := [d1, d2] }
  | _ => none }
def lineReadsRow : OpenClaim := { program := "ytoknoghdnedmhaa", sum := "8eb578f276d34709cb10d3ceacbceef92cfe2d5d17e617f3652e8f17091f7370", func := "pestle/pestlelaw53.LineReads", spec := "lineReads", apart := false }
def LineReadsSaid : Prop := lineReadsRow.holds Try.pinned (OpenSpec.ofChange lineReadsSpec)

/-- ITS FALSE NEIGHBOUR: 'it returns false'. Refute it at one input. -/
def lineReadsWrong : ChangeSpec := { name := "lineReads", fn := fun _ => fun
  | [d1, d2] => { results := [.lit (.bool false)], args := [d1, d2] }
  | _ => none }
def LineReadsWrongFalsely : Prop := lineReadsRow.holds Try.pinned (OpenSpec.ofChange lineReadsWrong)

/-- 'pestlelaw53.LineWrites': WHATEVER THE INPUT: true; the input reads as it did. -/
def lineWritesSpec : ChangeSpec := { name := "lineWrites", fn := fun _ => fun
  | [d1, d2] => { results := [.lit (.bool true)], args := [d1, d2] }
  | _ => none }
def lineWritesRow : OpenClaim := { program := "ytoknoghdnedmhaa", sum := "8eb578f276d34709cb10d3ceacbceef92cfe2d5d17e617f3652e8f17091f7370", func := "pestle/pestlelaw53.LineWrites", spec := "lineWrites", apart := false }
def LineWritesSaid : Prop := lineWritesRow.holds Try.pinned (OpenSpec.ofChange lineWritesSpec)

/-- ITS FALSE NEIGHBOUR: 'it returns false'. Refute it at one input. -/
def lineWritesWrong : ChangeSpec := { name := "lineWrites", fn := fun _ => fun
  | [d1, d2] => { results := [.lit (.bool false)], args := [d1, d2] }
  | _ => none }
def LineWritesWrongFalsely : Prop := lineWritesRow.holds Try.pinned (OpenSpec.ofChange lineWritesWrong)

/- THE SECOND FORM. 'bulk': how many values and letters a reading holds, each counted each time it is reached (what is shared counts as often as it is met; a slice's spare places count too). A statement '..UptoSaid' is the law's where the arguments, and the package variables that the reading takes, are together of bulk at most 1048576: NARROWER than '..Said'. Prove '..Said' where nothing that the law and all that it calls make is longer than what came in: it says more and counts as full. Else prove '..UptoSaid'. A law counts once. -/
mutual
def uptoBulk {H : Type} : DataW H → Nat
  | .lit (.string bytes) => bytes.length + 1
  | .lit _ => 1
  | .nil => 1
  | .ptr d => uptoBulk d + 1
  | .slice elems spare => uptoBulkAll elems + uptoBulkAll spare + 1
  | .agg parts => uptoBulkAll parts + 1
  | .iface _ d => uptoBulk d + 1
  | .map entries => uptoBulkEntries entries + 1
  | .held _ => 1
def uptoBulkAll {H : Type} : List (DataW H) → Nat
  | [] => 0
  | d :: r => uptoBulk d + uptoBulkAll r
def uptoBulkEntries {H : Type} : List (Lit × DataW H) → Nat
  | [] => 0
  | x :: r => uptoBulkEntry x + uptoBulkEntries r
def uptoBulkEntry {H : Type} : Lit × DataW H → Nat
  | (.string bytes, d) => bytes.length + uptoBulk d + 1
  | (_, d) => uptoBulk d + 1
 end
def uptoSmall : (H : Type) → List (DataW H) → Bool := fun _ ds => decide (uptoBulkAll ds ≤ 1048576)
def OpenSpec.upto (s : _root_.Go.ChangeSpec) : _root_.Go.OpenSpec := { _root_.Go.OpenSpec.ofChange s with cond := some uptoSmall }

/-- 'pestlelaw41.FieldsReads', WHERE WHAT IT READS IS OF BULK AT MOST 1048576: true; the input reads as it did. -/
def fieldsReadsUptoRow : OpenClaim := { program := "ytoknoghdnedmhaa", sum := "8eb578f276d34709cb10d3ceacbceef92cfe2d5d17e617f3652e8f17091f7370", func := "pestle/pestlelaw41.FieldsReads", spec := "fieldsReads", apart := false, narrowed := true }
def FieldsReadsUptoSaid : Prop := fieldsReadsUptoRow.holds Try.pinned (OpenSpec.upto fieldsReadsSpec)

/-- 'pestlelaw41.FieldsSplits', WHERE WHAT IT READS IS OF BULK AT MOST 1048576: true; the input reads as it did. -/
def fieldsSplitsUptoRow : OpenClaim := { program := "ytoknoghdnedmhaa", sum := "8eb578f276d34709cb10d3ceacbceef92cfe2d5d17e617f3652e8f17091f7370", func := "pestle/pestlelaw41.FieldsSplits", spec := "fieldsSplits", apart := false, narrowed := true }
def FieldsSplitsUptoSaid : Prop := fieldsSplitsUptoRow.holds Try.pinned (OpenSpec.upto fieldsSplitsSpec)

/-- 'pestlelaw43.ModularParses', WHERE WHAT IT READS IS OF BULK AT MOST 1048576: true; the input reads as it did. -/
def modularParsesUptoRow : OpenClaim := { program := "ytoknoghdnedmhaa", sum := "8eb578f276d34709cb10d3ceacbceef92cfe2d5d17e617f3652e8f17091f7370", func := "pestle/pestlelaw43.ModularParses", spec := "modularParses", apart := false, narrowed := true }
def ModularParsesUptoSaid : Prop := modularParsesUptoRow.holds Try.pinned (OpenSpec.upto modularParsesSpec)

/-- 'pestlelaw54.ReportReplies', WHERE WHAT IT READS IS OF BULK AT MOST 1048576: true; the input reads as it did. -/
def reportRepliesUptoRow : OpenClaim := { program := "ytoknoghdnedmhaa", sum := "8eb578f276d34709cb10d3ceacbceef92cfe2d5d17e617f3652e8f17091f7370", func := "pestle/pestlelaw54.ReportReplies", spec := "reportReplies", recurses := true, apart := false, narrowed := true }
def ReportRepliesUptoSaid : Prop := reportRepliesUptoRow.holds Try.pinned (OpenSpec.upto reportRepliesSpec)

/-- 'pestlelaw41.FieldsWrites', WHERE WHAT IT READS IS OF BULK AT MOST 1048576: true; the input reads as it did. -/
def fieldsWritesUptoRow : OpenClaim := { program := "ytoknoghdnedmhaa", sum := "8eb578f276d34709cb10d3ceacbceef92cfe2d5d17e617f3652e8f17091f7370", func := "pestle/pestlelaw41.FieldsWrites", spec := "fieldsWrites", recurses := true, apart := false, narrowed := true }
def FieldsWritesUptoSaid : Prop := fieldsWritesUptoRow.holds Try.pinned (OpenSpec.upto fieldsWritesSpec)

/-- 'pestlelaw54.ReportPairs', WHERE WHAT IT READS IS OF BULK AT MOST 1048576: true; the input reads as it did. -/
def reportPairsUptoRow : OpenClaim := { program := "ytoknoghdnedmhaa", sum := "8eb578f276d34709cb10d3ceacbceef92cfe2d5d17e617f3652e8f17091f7370", func := "pestle/pestlelaw54.ReportPairs", spec := "reportPairs", recurses := true, apart := false, narrowed := true }
def ReportPairsUptoSaid : Prop := reportPairsUptoRow.holds Try.pinned (OpenSpec.upto reportPairsSpec)

/-- 'pestlelaw43.ModularBack', WHERE WHAT IT READS IS OF BULK AT MOST 1048576: true; the input reads as it did. -/
def modularBackUptoRow : OpenClaim := { program := "ytoknoghdnedmhaa", sum := "8eb578f276d34709cb10d3ceacbceef92cfe2d5d17e617f3652e8f17091f7370", func := "pestle/pestlelaw43.ModularBack", spec := "modularBack", recurses := true, apart := false, narrowed := true }
def ModularBackUptoSaid : Prop := modularBackUptoRow.holds Try.pinned (OpenSpec.upto modularBackSpec)

/-- 'pestlelaw53.LineReads', WHERE WHAT IT READS IS OF BULK AT MOST 1048576: true; the input reads as it did. -/
def lineReadsUptoRow : OpenClaim := { program := "ytoknoghdnedmhaa", sum := "8eb578f276d34709cb10d3ceacbceef92cfe2d5d17e617f3652e8f17091f7370", func := "pestle/pestlelaw53.LineReads", spec := "lineReads", apart := false, narrowed := true }
def LineReadsUptoSaid : Prop := lineReadsUptoRow.holds Try.pinned (OpenSpec.upto lineReadsSpec)

/-- 'pestlelaw53.LineWrites', WHERE WHAT IT READS IS OF BULK AT MOST 1048576: true; the input reads as it did. -/
def lineWritesUptoRow : OpenClaim := { program := "ytoknoghdnedmhaa", sum := "8eb578f276d34709cb10d3ceacbceef92cfe2d5d17e617f3652e8f17091f7370", func := "pestle/pestlelaw53.LineWrites", spec := "lineWrites", apart := false, narrowed := true }
def LineWritesUptoSaid : Prop := lineWritesUptoRow.holds Try.pinned (OpenSpec.upto lineWritesSpec)

end Rows
end Go.Proofs.Ytoknoghdnedmhaa
