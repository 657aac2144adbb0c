/-
  No cell of these rows narrows 'for every input' (looked for: loops, veiled, ifaces, maps, wideKeys, modest, calm, conditions, laid).
  DERIVED. THE GIVEN ROWS OF THIS SEAT. 12 by the template 'for every input the law returns true; each argument reads behind the call as it read before'; 0 by the template 'total and deterministic' (their statements: YtiicjhibnobhdaaTotals.lean).
  GIVEN WITH THE SEED: the statements are not yours to turn. If you find one false, say at which input.
  Laid BY PROGRAM, IN A SANDBOX (cutbox-rows.mjs): the forced cells as the released guide's own fill.sh prints them over the translation 9b79c6ec29861df5… (all of the seat's roots in one cut). By AI agents, Wed Nov 11 2026. No macro, syntax, notation, axiom, sorry.
-/
import Derived.Test.YtiicjhibnobhdaaChecked
import GoSem.Claim
import GoSem.ClaimJoined
import GoSem.ClaimMapViews
import Derived.JoinedTies
import Derived.KernelRfl
namespace Go.Proofs.Ytiicjhibnobhdaa
/- THE CELL 'sum', in the pinned program and in every row, IS THE sha256 OF THE DUMP (.gsa) THAT YtiicjhibnobhdaaProg.lean LOADS. Nothing in Lean hashes anything: it is a label: what it is worth is what the hold of that sum in a sandbox is worth. -/
noncomputable def Try.pinned : Pinned := { name := "ytiicjhibnobhdaa", sum := "9b79c6ec29861df5b31c065b7a2d4dd37c1f67ff9d27aac5d6914a0bfd9d4bc9", checked := Try.checked }
namespace Rows
def none {H : Type} : Left H := { results := [], args := [] }

/-- 'pestlelaw46.PolicyTells': WHATEVER THE INPUT: true; the input reads as it did. -/
def policyTellsSpec : ChangeSpec := { name := "policyTells", fn := fun _ => fun
  | [d1, d2] => { results := [.lit (.bool true)], args := [d1, d2] }
  | _ => none }
def policyTellsRow : OpenClaim := { program := "ytiicjhibnobhdaa", sum := "9b79c6ec29861df5b31c065b7a2d4dd37c1f67ff9d27aac5d6914a0bfd9d4bc9", func := "pestle/pestlelaw46.PolicyTells", spec := "policyTells", apart := false }
def PolicyTellsSaid : Prop := policyTellsRow.holds Try.pinned (OpenSpec.ofChange policyTellsSpec)

/-- ITS FALSE NEIGHBOUR: 'it returns false'. Refute it at one input. -/
def policyTellsWrong : ChangeSpec := { name := "policyTells", fn := fun _ => fun
  | [d1, d2] => { results := [.lit (.bool false)], args := [d1, d2] }
  | _ => none }
def PolicyTellsWrongFalsely : Prop := policyTellsRow.holds Try.pinned (OpenSpec.ofChange policyTellsWrong)

/-- 'pestlelaw46.PolicyOwn': WHATEVER THE INPUT: true; the input reads as it did. -/
def policyOwnSpec : ChangeSpec := { name := "policyOwn", fn := fun _ => fun
  | [d1, d2, d3] => { results := [.lit (.bool true)], args := [d1, d2, d3] }
  | _ => none }
def policyOwnRow : OpenClaim := { program := "ytiicjhibnobhdaa", sum := "9b79c6ec29861df5b31c065b7a2d4dd37c1f67ff9d27aac5d6914a0bfd9d4bc9", func := "pestle/pestlelaw46.PolicyOwn", spec := "policyOwn", apart := false }
def PolicyOwnSaid : Prop := policyOwnRow.holds Try.pinned (OpenSpec.ofChange policyOwnSpec)

/-- ITS FALSE NEIGHBOUR: 'it returns false'. Refute it at one input. -/
def policyOwnWrong : ChangeSpec := { name := "policyOwn", fn := fun _ => fun
  | [d1, d2, d3] => { results := [.lit (.bool false)], args := [d1, d2, d3] }
  | _ => none }
def PolicyOwnWrongFalsely : Prop := policyOwnRow.holds Try.pinned (OpenSpec.ofChange policyOwnWrong)

/-- 'pestlelaw46.PolicyRanks': WHATEVER THE INPUT: true; the input reads as it did. -/
def policyRanksSpec : ChangeSpec := { name := "policyRanks", fn := fun _ => fun
  | [d] => { results := [.lit (.bool true)], args := [d] }
  | _ => none }
def policyRanksRow : OpenClaim := { program := "ytiicjhibnobhdaa", sum := "9b79c6ec29861df5b31c065b7a2d4dd37c1f67ff9d27aac5d6914a0bfd9d4bc9", func := "pestle/pestlelaw46.PolicyRanks", spec := "policyRanks", apart := false }
def PolicyRanksSaid : Prop := policyRanksRow.holds Try.pinned (OpenSpec.ofChange policyRanksSpec)

/-- ITS FALSE NEIGHBOUR: 'it returns false'. Refute it at one input. -/
def policyRanksWrong : ChangeSpec := { name := "policyRanks", fn := fun _ => fun
  | [d] => { results := [.lit (.bool false)], args := [d] }
  | _ => none }
def PolicyRanksWrongFalsely : Prop := policyRanksRow.holds Try.pinned (OpenSpec.ofChange policyRanksWrong)

/-- 'pestlelaw45.NeedMemory': WHATEVER THE INPUT: true; the input reads as it did. -/
def needMemorySpec : ChangeSpec := { name := "needMemory", fn := fun _ => fun
  | [d1, d2] => { results := [.lit (.bool true)], args := [d1, d2] }
  | _ => none }
def needMemoryRow : OpenClaim := { program := "ytiicjhibnobhdaa", sum := "9b79c6ec29861df5b31c065b7a2d4dd37c1f67ff9d27aac5d6914a0bfd9d4bc9", func := "pestle/pestlelaw45.NeedMemory", spec := "needMemory", apart := false }
def NeedMemorySaid : Prop := needMemoryRow.holds Try.pinned (OpenSpec.ofChange needMemorySpec)

/-- ITS FALSE NEIGHBOUR: 'it returns false'. Refute it at one input. -/
def needMemoryWrong : ChangeSpec := { name := "needMemory", fn := fun _ => fun
  | [d1, d2] => { results := [.lit (.bool false)], args := [d1, d2] }
  | _ => none }
def NeedMemoryWrongFalsely : Prop := needMemoryRow.holds Try.pinned (OpenSpec.ofChange needMemoryWrong)

/-- 'pestlelaw45.NeedOf': WHATEVER THE INPUT: true; the input reads as it did. -/
def needOfSpec : ChangeSpec := { name := "needOf", fn := fun _ => fun
  | [d1, d2] => { results := [.lit (.bool true)], args := [d1, d2] }
  | _ => none }
def needOfRow : OpenClaim := { program := "ytiicjhibnobhdaa", sum := "9b79c6ec29861df5b31c065b7a2d4dd37c1f67ff9d27aac5d6914a0bfd9d4bc9", func := "pestle/pestlelaw45.NeedOf", spec := "needOf", apart := false }
def NeedOfSaid : Prop := needOfRow.holds Try.pinned (OpenSpec.ofChange needOfSpec)

/-- ITS FALSE NEIGHBOUR: 'it returns false'. Refute it at one input. -/
def needOfWrong : ChangeSpec := { name := "needOf", fn := fun _ => fun
  | [d1, d2] => { results := [.lit (.bool false)], args := [d1, d2] }
  | _ => none }
def NeedOfWrongFalsely : Prop := needOfRow.holds Try.pinned (OpenSpec.ofChange needOfWrong)

/-- 'pestlelaw42.PhcParses': WHATEVER THE INPUT: true; the input reads as it did. -/
def phcParsesSpec : ChangeSpec := { name := "phcParses", fn := fun _ => fun
  | [d] => { results := [.lit (.bool true)], args := [d] }
  | _ => none }
def phcParsesRow : OpenClaim := { program := "ytiicjhibnobhdaa", sum := "9b79c6ec29861df5b31c065b7a2d4dd37c1f67ff9d27aac5d6914a0bfd9d4bc9", func := "pestle/pestlelaw42.PhcParses", spec := "phcParses", apart := false }
def PhcParsesSaid : Prop := phcParsesRow.holds Try.pinned (OpenSpec.ofChange phcParsesSpec)

/-- ITS FALSE NEIGHBOUR: 'it returns false'. Refute it at one input. -/
def phcParsesWrong : ChangeSpec := { name := "phcParses", fn := fun _ => fun
  | [d] => { results := [.lit (.bool false)], args := [d] }
  | _ => none }
def PhcParsesWrongFalsely : Prop := phcParsesRow.holds Try.pinned (OpenSpec.ofChange phcParsesWrong)

/-- 'pestlelaw42.PhcWrites': WHATEVER THE INPUT: true; the input reads as it did. -/
def phcWritesSpec : ChangeSpec := { name := "phcWrites", fn := fun _ => fun
  | [d] => { results := [.lit (.bool true)], args := [d] }
  | _ => none }
def phcWritesRow : OpenClaim := { program := "ytiicjhibnobhdaa", sum := "9b79c6ec29861df5b31c065b7a2d4dd37c1f67ff9d27aac5d6914a0bfd9d4bc9", func := "pestle/pestlelaw42.PhcWrites", spec := "phcWrites", recurses := true, apart := false }
def PhcWritesSaid : Prop := phcWritesRow.holds Try.pinned (OpenSpec.ofChange phcWritesSpec)

/-- ITS FALSE NEIGHBOUR: 'it returns false'. Refute it at one input. -/
def phcWritesWrong : ChangeSpec := { name := "phcWrites", fn := fun _ => fun
  | [d] => { results := [.lit (.bool false)], args := [d] }
  | _ => none }
def PhcWritesWrongFalsely : Prop := phcWritesRow.holds Try.pinned (OpenSpec.ofChange phcWritesWrong)

/-- 'pestlelaw42.PhcBack': WHATEVER THE INPUT: true; the input reads as it did. -/
def phcBackSpec : ChangeSpec := { name := "phcBack", fn := fun _ => fun
  | [d1, d2] => { results := [.lit (.bool true)], args := [d1, d2] }
  | _ => none }
def phcBackRow : OpenClaim := { program := "ytiicjhibnobhdaa", sum := "9b79c6ec29861df5b31c065b7a2d4dd37c1f67ff9d27aac5d6914a0bfd9d4bc9", func := "pestle/pestlelaw42.PhcBack", spec := "phcBack", apart := false }
def PhcBackSaid : Prop := phcBackRow.holds Try.pinned (OpenSpec.ofChange phcBackSpec)

/-- ITS FALSE NEIGHBOUR: 'it returns false'. Refute it at one input. -/
def phcBackWrong : ChangeSpec := { name := "phcBack", fn := fun _ => fun
  | [d1, d2] => { results := [.lit (.bool false)], args := [d1, d2] }
  | _ => none }
def PhcBackWrongFalsely : Prop := phcBackRow.holds Try.pinned (OpenSpec.ofChange phcBackWrong)

/-- 'pestlelaw44.RecordParses': WHATEVER THE INPUT: true; the input reads as it did. -/
def recordParsesSpec : ChangeSpec := { name := "recordParses", fn := fun _ => fun
  | [d] => { results := [.lit (.bool true)], args := [d] }
  | _ => none }
def recordParsesRow : OpenClaim := { program := "ytiicjhibnobhdaa", sum := "9b79c6ec29861df5b31c065b7a2d4dd37c1f67ff9d27aac5d6914a0bfd9d4bc9", func := "pestle/pestlelaw44.RecordParses", spec := "recordParses", apart := false }
def RecordParsesSaid : Prop := recordParsesRow.holds Try.pinned (OpenSpec.ofChange recordParsesSpec)

/-- ITS FALSE NEIGHBOUR: 'it returns false'. Refute it at one input. -/
def recordParsesWrong : ChangeSpec := { name := "recordParses", fn := fun _ => fun
  | [d] => { results := [.lit (.bool false)], args := [d] }
  | _ => none }
def RecordParsesWrongFalsely : Prop := recordParsesRow.holds Try.pinned (OpenSpec.ofChange recordParsesWrong)

/-- 'pestlelaw44.RecordBack': WHATEVER THE INPUT: true; the input reads as it did. -/
def recordBackSpec : ChangeSpec := { name := "recordBack", fn := fun _ => fun
  | [d1, d2] => { results := [.lit (.bool true)], args := [d1, d2] }
  | _ => none }
def recordBackRow : OpenClaim := { program := "ytiicjhibnobhdaa", sum := "9b79c6ec29861df5b31c065b7a2d4dd37c1f67ff9d27aac5d6914a0bfd9d4bc9", func := "pestle/pestlelaw44.RecordBack", spec := "recordBack", apart := false }
def RecordBackSaid : Prop := recordBackRow.holds Try.pinned (OpenSpec.ofChange recordBackSpec)

/-- ITS FALSE NEIGHBOUR: 'it returns false'. Refute it at one input. -/
def recordBackWrong : ChangeSpec := { name := "recordBack", fn := fun _ => fun
  | [d1, d2] => { results := [.lit (.bool false)], args := [d1, d2] }
  | _ => none }
def RecordBackWrongFalsely : Prop := recordBackRow.holds Try.pinned (OpenSpec.ofChange recordBackWrong)

/-- 'pestlelaw44.RecordWrites': WHATEVER THE INPUT: true; the input reads as it did. -/
def recordWritesSpec : ChangeSpec := { name := "recordWrites", fn := fun _ => fun
  | [d] => { results := [.lit (.bool true)], args := [d] }
  | _ => none }
def recordWritesRow : OpenClaim := { program := "ytiicjhibnobhdaa", sum := "9b79c6ec29861df5b31c065b7a2d4dd37c1f67ff9d27aac5d6914a0bfd9d4bc9", func := "pestle/pestlelaw44.RecordWrites", spec := "recordWrites", recurses := true, apart := false }
def RecordWritesSaid : Prop := recordWritesRow.holds Try.pinned (OpenSpec.ofChange recordWritesSpec)

/-- ITS FALSE NEIGHBOUR: 'it returns false'. Refute it at one input. -/
def recordWritesWrong : ChangeSpec := { name := "recordWrites", fn := fun _ => fun
  | [d] => { results := [.lit (.bool false)], args := [d] }
  | _ => none }
def RecordWritesWrongFalsely : Prop := recordWritesRow.holds Try.pinned (OpenSpec.ofChange recordWritesWrong)

/-- 'pestlelaw62.PlanCounts': WHATEVER THE INPUT: true; the input reads as it did. -/
def planCountsSpec : ChangeSpec := { name := "planCounts", fn := fun _ => fun
  | [d1, d2] => { results := [.lit (.bool true)], args := [d1, d2] }
  | _ => none }
def planCountsRow : OpenClaim := { program := "ytiicjhibnobhdaa", sum := "9b79c6ec29861df5b31c065b7a2d4dd37c1f67ff9d27aac5d6914a0bfd9d4bc9", func := "pestle/pestlelaw62.PlanCounts", spec := "planCounts", apart := false }
def PlanCountsSaid : Prop := planCountsRow.holds Try.pinned (OpenSpec.ofChange planCountsSpec)

/-- ITS FALSE NEIGHBOUR: 'it returns false'. Refute it at one input. -/
def planCountsWrong : ChangeSpec := { name := "planCounts", fn := fun _ => fun
  | [d1, d2] => { results := [.lit (.bool false)], args := [d1, d2] }
  | _ => none }
def PlanCountsWrongFalsely : Prop := planCountsRow.holds Try.pinned (OpenSpec.ofChange planCountsWrong)

/- THE SECOND FORM. 'bulk': how many values and letters a reading holds, each counted each time it is reached (what is shared counts as often as it is met; a slice's spare places count too). A statement '..UptoSaid' is the law's where the arguments, and the package variables that the reading takes, are together of bulk at most 1048576: NARROWER than '..Said'. Prove '..Said' where nothing that the law and all that it calls make is longer than what came in: it says more and counts as full. Else prove '..UptoSaid'. A law counts once. -/
mutual
def uptoBulk {H : Type} : DataW H → Nat
  | .lit (.string bytes) => bytes.length + 1
  | .lit _ => 1
  | .nil => 1
  | .ptr d => uptoBulk d + 1
  | .slice elems spare => uptoBulkAll elems + uptoBulkAll spare + 1
  | .agg parts => uptoBulkAll parts + 1
  | .iface _ d => uptoBulk d + 1
  | .map entries => uptoBulkEntries entries + 1
  | .held _ => 1
def uptoBulkAll {H : Type} : List (DataW H) → Nat
  | [] => 0
  | d :: r => uptoBulk d + uptoBulkAll r
def uptoBulkEntries {H : Type} : List (Lit × DataW H) → Nat
  | [] => 0
  | x :: r => uptoBulkEntry x + uptoBulkEntries r
def uptoBulkEntry {H : Type} : Lit × DataW H → Nat
  | (.string bytes, d) => bytes.length + uptoBulk d + 1
  | (_, d) => uptoBulk d + 1
 end
def uptoSmall : (H : Type) → List (DataW H) → Bool := fun _ ds => decide (uptoBulkAll ds ≤ 1048576)
def OpenSpec.upto (s : _root_.Go.ChangeSpec) : _root_.Go.OpenSpec := { _root_.Go.OpenSpec.ofChange s with cond := some uptoSmall }

/-- 'pestlelaw46.PolicyTells', WHERE WHAT IT READS IS OF BULK AT MOST 1048576: true; the input reads as it did. -/
def policyTellsUptoRow : OpenClaim := { program := "ytiicjhibnobhdaa", sum := "9b79c6ec29861df5b31c065b7a2d4dd37c1f67ff9d27aac5d6914a0bfd9d4bc9", func := "pestle/pestlelaw46.PolicyTells", spec := "policyTells", apart := false, narrowed := true }
def PolicyTellsUptoSaid : Prop := policyTellsUptoRow.holds Try.pinned (OpenSpec.upto policyTellsSpec)

/-- 'pestlelaw46.PolicyOwn', WHERE WHAT IT READS IS OF BULK AT MOST 1048576: true; the input reads as it did. -/
def policyOwnUptoRow : OpenClaim := { program := "ytiicjhibnobhdaa", sum := "9b79c6ec29861df5b31c065b7a2d4dd37c1f67ff9d27aac5d6914a0bfd9d4bc9", func := "pestle/pestlelaw46.PolicyOwn", spec := "policyOwn", apart := false, narrowed := true }
def PolicyOwnUptoSaid : Prop := policyOwnUptoRow.holds Try.pinned (OpenSpec.upto policyOwnSpec)

/-- 'pestlelaw46.PolicyRanks', WHERE WHAT IT READS IS OF BULK AT MOST 1048576: true; the input reads as it did. -/
def policyRanksUptoRow : OpenClaim := { program := "ytiicjhibnobhdaa", sum := "9b79c6ec29861df5b31c065b7a2d4dd37c1f67ff9d27aac5d6914a0bfd9d4bc9", func := "pestle/pestlelaw46.PolicyRanks", spec := "policyRanks", apart := false, narrowed := true }
def PolicyRanksUptoSaid : Prop := policyRanksUptoRow.holds Try.pinned (OpenSpec.upto policyRanksSpec)

/-- 'pestlelaw45.NeedMemory', WHERE WHAT IT READS IS OF BULK AT MOST 1048576: true; the input reads as it did. -/
def needMemoryUptoRow : OpenClaim := { program := "ytiicjhibnobhdaa", sum := "9b79c6ec29861df5b31c065b7a2d4dd37c1f67ff9d27aac5d6914a0bfd9d4bc9", func := "pestle/pestlelaw45.NeedMemory", spec := "needMemory", apart := false, narrowed := true }
def NeedMemoryUptoSaid : Prop := needMemoryUptoRow.holds Try.pinned (OpenSpec.upto needMemorySpec)

/-- 'pestlelaw45.NeedOf', WHERE WHAT IT READS IS OF BULK AT MOST 1048576: true; the input reads as it did. -/
def needOfUptoRow : OpenClaim := { program := "ytiicjhibnobhdaa", sum := "9b79c6ec29861df5b31c065b7a2d4dd37c1f67ff9d27aac5d6914a0bfd9d4bc9", func := "pestle/pestlelaw45.NeedOf", spec := "needOf", apart := false, narrowed := true }
def NeedOfUptoSaid : Prop := needOfUptoRow.holds Try.pinned (OpenSpec.upto needOfSpec)

/-- 'pestlelaw42.PhcParses', WHERE WHAT IT READS IS OF BULK AT MOST 1048576: true; the input reads as it did. -/
def phcParsesUptoRow : OpenClaim := { program := "ytiicjhibnobhdaa", sum := "9b79c6ec29861df5b31c065b7a2d4dd37c1f67ff9d27aac5d6914a0bfd9d4bc9", func := "pestle/pestlelaw42.PhcParses", spec := "phcParses", apart := false, narrowed := true }
def PhcParsesUptoSaid : Prop := phcParsesUptoRow.holds Try.pinned (OpenSpec.upto phcParsesSpec)

/-- 'pestlelaw42.PhcWrites', WHERE WHAT IT READS IS OF BULK AT MOST 1048576: true; the input reads as it did. -/
def phcWritesUptoRow : OpenClaim := { program := "ytiicjhibnobhdaa", sum := "9b79c6ec29861df5b31c065b7a2d4dd37c1f67ff9d27aac5d6914a0bfd9d4bc9", func := "pestle/pestlelaw42.PhcWrites", spec := "phcWrites", recurses := true, apart := false, narrowed := true }
def PhcWritesUptoSaid : Prop := phcWritesUptoRow.holds Try.pinned (OpenSpec.upto phcWritesSpec)

/-- 'pestlelaw42.PhcBack', WHERE WHAT IT READS IS OF BULK AT MOST 1048576: true; the input reads as it did. -/
def phcBackUptoRow : OpenClaim := { program := "ytiicjhibnobhdaa", sum := "9b79c6ec29861df5b31c065b7a2d4dd37c1f67ff9d27aac5d6914a0bfd9d4bc9", func := "pestle/pestlelaw42.PhcBack", spec := "phcBack", apart := false, narrowed := true }
def PhcBackUptoSaid : Prop := phcBackUptoRow.holds Try.pinned (OpenSpec.upto phcBackSpec)

/-- 'pestlelaw44.RecordParses', WHERE WHAT IT READS IS OF BULK AT MOST 1048576: true; the input reads as it did. -/
def recordParsesUptoRow : OpenClaim := { program := "ytiicjhibnobhdaa", sum := "9b79c6ec29861df5b31c065b7a2d4dd37c1f67ff9d27aac5d6914a0bfd9d4bc9", func := "pestle/pestlelaw44.RecordParses", spec := "recordParses", apart := false, narrowed := true }
def RecordParsesUptoSaid : Prop := recordParsesUptoRow.holds Try.pinned (OpenSpec.upto recordParsesSpec)

/-- 'pestlelaw44.RecordBack', WHERE WHAT IT READS IS OF BULK AT MOST 1048576: true; the input reads as it did. -/
def recordBackUptoRow : OpenClaim := { program := "ytiicjhibnobhdaa", sum := "9b79c6ec29861df5b31c065b7a2d4dd37c1f67ff9d27aac5d6914a0bfd9d4bc9", func := "pestle/pestlelaw44.RecordBack", spec := "recordBack", apart := false, narrowed := true }
def RecordBackUptoSaid : Prop := recordBackUptoRow.holds Try.pinned (OpenSpec.upto recordBackSpec)

/-- 'pestlelaw44.RecordWrites', WHERE WHAT IT READS IS OF BULK AT MOST 1048576: true; the input reads as it did. -/
def recordWritesUptoRow : OpenClaim := { program := "ytiicjhibnobhdaa", sum := "9b79c6ec29861df5b31c065b7a2d4dd37c1f67ff9d27aac5d6914a0bfd9d4bc9", func := "pestle/pestlelaw44.RecordWrites", spec := "recordWrites", recurses := true, apart := false, narrowed := true }
def RecordWritesUptoSaid : Prop := recordWritesUptoRow.holds Try.pinned (OpenSpec.upto recordWritesSpec)

/-- 'pestlelaw62.PlanCounts', WHERE WHAT IT READS IS OF BULK AT MOST 1048576: true; the input reads as it did. -/
def planCountsUptoRow : OpenClaim := { program := "ytiicjhibnobhdaa", sum := "9b79c6ec29861df5b31c065b7a2d4dd37c1f67ff9d27aac5d6914a0bfd9d4bc9", func := "pestle/pestlelaw62.PlanCounts", spec := "planCounts", apart := false, narrowed := true }
def PlanCountsUptoSaid : Prop := planCountsUptoRow.holds Try.pinned (OpenSpec.upto planCountsSpec)

end Rows
end Go.Proofs.Ytiicjhibnobhdaa
