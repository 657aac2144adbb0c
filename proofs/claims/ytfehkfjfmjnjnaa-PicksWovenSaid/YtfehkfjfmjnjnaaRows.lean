/-
  No cell of these rows narrows 'for every input' (looked for: loops, veiled, ifaces, maps, wideKeys, modest, calm, conditions, laid).
  DERIVED. THE GIVEN ROWS OF THIS SEAT. 11 by the template 'for every input the law returns true; each argument reads behind the call as it read before'; 0 by the template 'total and deterministic' (their statements: YtfehkfjfmjnjnaaTotals.lean).
  GIVEN WITH THE SEED: the statements are not yours to turn. If you find one false, say at which input.
  Laid BY PROGRAM, IN A SANDBOX (cutbox-rows.mjs): the forced cells as the released guide's own fill.sh prints them over the translation 89d83b65eea571b9… (all of the seat's roots in one cut). By AI agents, Wed Nov 11 2026. No macro, syntax, notation, axiom, sorry.
-/
import Derived.Test.YtfehkfjfmjnjnaaChecked
import GoSem.Claim
import GoSem.ClaimJoined
import GoSem.ClaimMapViews
import Derived.JoinedTies
import Derived.KernelRfl
namespace Go.Proofs.Ytfehkfjfmjnjnaa
/- THE CELL 'sum', in the pinned program and in every row, IS THE sha256 OF THE DUMP (.gsa) THAT YtfehkfjfmjnjnaaProg.lean LOADS. Nothing in Lean hashes anything: it is a label: what it is worth is what the hold of that sum in a sandbox is worth. -/
noncomputable def Try.pinned : Pinned := { name := "ytfehkfjfmjnjnaa", sum := "89d83b65eea571b99001d4520c93feee353ead2546b0aaa43320952bd6d9eb1b", checked := Try.checked }
namespace Rows
def none {H : Type} : Left H := { results := [], args := [] }

/-- 'pestlelaw36.PicksWoven': WHATEVER THE INPUT: true; the input reads as it did. -/
def picksWovenSpec : ChangeSpec := { name := "picksWoven", fn := fun _ => fun
  | [d] => { results := [.lit (.bool true)], args := [d] }
  | _ => none }
def picksWovenRow : OpenClaim := { program := "ytfehkfjfmjnjnaa", sum := "89d83b65eea571b99001d4520c93feee353ead2546b0aaa43320952bd6d9eb1b", func := "pestle/pestlelaw36.PicksWoven", spec := "picksWoven", apart := false }
def PicksWovenSaid : Prop := picksWovenRow.holds Try.pinned (OpenSpec.ofChange picksWovenSpec)

/-- ITS FALSE NEIGHBOUR: 'it returns false'. Refute it at one input. -/
def picksWovenWrong : ChangeSpec := { name := "picksWoven", fn := fun _ => fun
  | [d] => { results := [.lit (.bool false)], args := [d] }
  | _ => none }
def PicksWovenWrongFalsely : Prop := picksWovenRow.holds Try.pinned (OpenSpec.ofChange picksWovenWrong)

/-- 'pestlelaw18.DecCodes': WHATEVER THE INPUT: true; the input reads as it did. -/
def decCodesSpec : ChangeSpec := { name := "decCodes", fn := fun _ => fun
  | [d1, d2] => { results := [.lit (.bool true)], args := [d1, d2] }
  | _ => none }
def decCodesRow : OpenClaim := { program := "ytfehkfjfmjnjnaa", sum := "89d83b65eea571b99001d4520c93feee353ead2546b0aaa43320952bd6d9eb1b", func := "pestle/pestlelaw18.DecCodes", spec := "decCodes", recurses := true, apart := false }
def DecCodesSaid : Prop := decCodesRow.holds Try.pinned (OpenSpec.ofChange decCodesSpec)

/-- ITS FALSE NEIGHBOUR: 'it returns false'. Refute it at one input. -/
def decCodesWrong : ChangeSpec := { name := "decCodes", fn := fun _ => fun
  | [d1, d2] => { results := [.lit (.bool false)], args := [d1, d2] }
  | _ => none }
def DecCodesWrongFalsely : Prop := decCodesRow.holds Try.pinned (OpenSpec.ofChange decCodesWrong)

/-- 'pestlelaw18.DecBack': WHATEVER THE INPUT: true; the input reads as it did. -/
def decBackSpec : ChangeSpec := { name := "decBack", fn := fun _ => fun
  | [d1, d2] => { results := [.lit (.bool true)], args := [d1, d2] }
  | _ => none }
def decBackRow : OpenClaim := { program := "ytfehkfjfmjnjnaa", sum := "89d83b65eea571b99001d4520c93feee353ead2546b0aaa43320952bd6d9eb1b", func := "pestle/pestlelaw18.DecBack", spec := "decBack", apart := false }
def DecBackSaid : Prop := decBackRow.holds Try.pinned (OpenSpec.ofChange decBackSpec)

/-- ITS FALSE NEIGHBOUR: 'it returns false'. Refute it at one input. -/
def decBackWrong : ChangeSpec := { name := "decBack", fn := fun _ => fun
  | [d1, d2] => { results := [.lit (.bool false)], args := [d1, d2] }
  | _ => none }
def DecBackWrongFalsely : Prop := decBackRow.holds Try.pinned (OpenSpec.ofChange decBackWrong)

/-- 'pestlelaw36.PicksTurns': WHATEVER THE INPUT: true; the input reads as it did. -/
def picksTurnsSpec : ChangeSpec := { name := "picksTurns", fn := fun _ => fun
  | [d1, d2, d3] => { results := [.lit (.bool true)], args := [d1, d2, d3] }
  | _ => none }
def picksTurnsRow : OpenClaim := { program := "ytfehkfjfmjnjnaa", sum := "89d83b65eea571b99001d4520c93feee353ead2546b0aaa43320952bd6d9eb1b", func := "pestle/pestlelaw36.PicksTurns", spec := "picksTurns", apart := false }
def PicksTurnsSaid : Prop := picksTurnsRow.holds Try.pinned (OpenSpec.ofChange picksTurnsSpec)

/-- ITS FALSE NEIGHBOUR: 'it returns false'. Refute it at one input. -/
def picksTurnsWrong : ChangeSpec := { name := "picksTurns", fn := fun _ => fun
  | [d1, d2, d3] => { results := [.lit (.bool false)], args := [d1, d2, d3] }
  | _ => none }
def PicksTurnsWrongFalsely : Prop := picksTurnsRow.holds Try.pinned (OpenSpec.ofChange picksTurnsWrong)

/-- 'pestlelaw18.DecBetween': WHATEVER THE INPUT: true; the input reads as it did. -/
def decBetweenSpec : ChangeSpec := { name := "decBetween", fn := fun _ => fun
  | [d1, d2, d3] => { results := [.lit (.bool true)], args := [d1, d2, d3] }
  | _ => none }
def decBetweenRow : OpenClaim := { program := "ytfehkfjfmjnjnaa", sum := "89d83b65eea571b99001d4520c93feee353ead2546b0aaa43320952bd6d9eb1b", func := "pestle/pestlelaw18.DecBetween", spec := "decBetween", apart := false }
def DecBetweenSaid : Prop := decBetweenRow.holds Try.pinned (OpenSpec.ofChange decBetweenSpec)

/-- ITS FALSE NEIGHBOUR: 'it returns false'. Refute it at one input. -/
def decBetweenWrong : ChangeSpec := { name := "decBetween", fn := fun _ => fun
  | [d1, d2, d3] => { results := [.lit (.bool false)], args := [d1, d2, d3] }
  | _ => none }
def DecBetweenWrongFalsely : Prop := decBetweenRow.holds Try.pinned (OpenSpec.ofChange decBetweenWrong)

/-- 'pestlelaw02.SizeParts': WHATEVER THE INPUT: true; the input reads as it did. -/
def sizePartsSpec : ChangeSpec := { name := "sizeParts", fn := fun _ => fun
  | [d1, d2] => { results := [.lit (.bool true)], args := [d1, d2] }
  | _ => none }
def sizePartsRow : OpenClaim := { program := "ytfehkfjfmjnjnaa", sum := "89d83b65eea571b99001d4520c93feee353ead2546b0aaa43320952bd6d9eb1b", func := "pestle/pestlelaw02.SizeParts", spec := "sizeParts", apart := false }
def SizePartsSaid : Prop := sizePartsRow.holds Try.pinned (OpenSpec.ofChange sizePartsSpec)

/-- ITS FALSE NEIGHBOUR: 'it returns false'. Refute it at one input. -/
def sizePartsWrong : ChangeSpec := { name := "sizeParts", fn := fun _ => fun
  | [d1, d2] => { results := [.lit (.bool false)], args := [d1, d2] }
  | _ => none }
def SizePartsWrongFalsely : Prop := sizePartsRow.holds Try.pinned (OpenSpec.ofChange sizePartsWrong)

/-- 'pestlelaw02.SizePowers': WHATEVER THE INPUT: true; the input reads as it did. -/
def sizePowersSpec : ChangeSpec := { name := "sizePowers", fn := fun _ => fun
  | [d1, d2, d3] => { results := [.lit (.bool true)], args := [d1, d2, d3] }
  | _ => none }
def sizePowersRow : OpenClaim := { program := "ytfehkfjfmjnjnaa", sum := "89d83b65eea571b99001d4520c93feee353ead2546b0aaa43320952bd6d9eb1b", func := "pestle/pestlelaw02.SizePowers", spec := "sizePowers", apart := false }
def SizePowersSaid : Prop := sizePowersRow.holds Try.pinned (OpenSpec.ofChange sizePowersSpec)

/-- ITS FALSE NEIGHBOUR: 'it returns false'. Refute it at one input. -/
def sizePowersWrong : ChangeSpec := { name := "sizePowers", fn := fun _ => fun
  | [d1, d2, d3] => { results := [.lit (.bool false)], args := [d1, d2, d3] }
  | _ => none }
def SizePowersWrongFalsely : Prop := sizePowersRow.holds Try.pinned (OpenSpec.ofChange sizePowersWrong)

/-- 'pestlelaw02.SizeSums': WHATEVER THE INPUT: true; the input reads as it did. -/
def sizeSumsSpec : ChangeSpec := { name := "sizeSums", fn := fun _ => fun
  | [d] => { results := [.lit (.bool true)], args := [d] }
  | _ => none }
def sizeSumsRow : OpenClaim := { program := "ytfehkfjfmjnjnaa", sum := "89d83b65eea571b99001d4520c93feee353ead2546b0aaa43320952bd6d9eb1b", func := "pestle/pestlelaw02.SizeSums", spec := "sizeSums", apart := false }
def SizeSumsSaid : Prop := sizeSumsRow.holds Try.pinned (OpenSpec.ofChange sizeSumsSpec)

/-- ITS FALSE NEIGHBOUR: 'it returns false'. Refute it at one input. -/
def sizeSumsWrong : ChangeSpec := { name := "sizeSums", fn := fun _ => fun
  | [d] => { results := [.lit (.bool false)], args := [d] }
  | _ => none }
def SizeSumsWrongFalsely : Prop := sizeSumsRow.holds Try.pinned (OpenSpec.ofChange sizeSumsWrong)

/-- 'pestlelaw02.SizeKept': WHATEVER THE INPUT: true; the input reads as it did. -/
def sizeKeptSpec : ChangeSpec := { name := "sizeKept", fn := fun _ => fun
  | [d] => { results := [.lit (.bool true)], args := [d] }
  | _ => none }
def sizeKeptRow : OpenClaim := { program := "ytfehkfjfmjnjnaa", sum := "89d83b65eea571b99001d4520c93feee353ead2546b0aaa43320952bd6d9eb1b", func := "pestle/pestlelaw02.SizeKept", spec := "sizeKept", apart := false }
def SizeKeptSaid : Prop := sizeKeptRow.holds Try.pinned (OpenSpec.ofChange sizeKeptSpec)

/-- ITS FALSE NEIGHBOUR: 'it returns false'. Refute it at one input. -/
def sizeKeptWrong : ChangeSpec := { name := "sizeKept", fn := fun _ => fun
  | [d] => { results := [.lit (.bool false)], args := [d] }
  | _ => none }
def SizeKeptWrongFalsely : Prop := sizeKeptRow.holds Try.pinned (OpenSpec.ofChange sizeKeptWrong)

/-- 'pestlelaw18.DecTwos': WHATEVER THE INPUT: true; the input reads as it did. -/
def decTwosSpec : ChangeSpec := { name := "decTwos", fn := fun _ => fun
  | [d1, d2, d3] => { results := [.lit (.bool true)], args := [d1, d2, d3] }
  | _ => none }
def decTwosRow : OpenClaim := { program := "ytfehkfjfmjnjnaa", sum := "89d83b65eea571b99001d4520c93feee353ead2546b0aaa43320952bd6d9eb1b", func := "pestle/pestlelaw18.DecTwos", spec := "decTwos", recurses := true, apart := false }
def DecTwosSaid : Prop := decTwosRow.holds Try.pinned (OpenSpec.ofChange decTwosSpec)

/-- ITS FALSE NEIGHBOUR: 'it returns false'. Refute it at one input. -/
def decTwosWrong : ChangeSpec := { name := "decTwos", fn := fun _ => fun
  | [d1, d2, d3] => { results := [.lit (.bool false)], args := [d1, d2, d3] }
  | _ => none }
def DecTwosWrongFalsely : Prop := decTwosRow.holds Try.pinned (OpenSpec.ofChange decTwosWrong)

/-- 'pestlelaw36.PicksCodes': WHATEVER THE INPUT: true; the input reads as it did. -/
def picksCodesSpec : ChangeSpec := { name := "picksCodes", fn := fun _ => fun
  | [d1, d2] => { results := [.lit (.bool true)], args := [d1, d2] }
  | _ => none }
def picksCodesRow : OpenClaim := { program := "ytfehkfjfmjnjnaa", sum := "89d83b65eea571b99001d4520c93feee353ead2546b0aaa43320952bd6d9eb1b", func := "pestle/pestlelaw36.PicksCodes", spec := "picksCodes", recurses := true, apart := false }
def PicksCodesSaid : Prop := picksCodesRow.holds Try.pinned (OpenSpec.ofChange picksCodesSpec)

/-- ITS FALSE NEIGHBOUR: 'it returns false'. Refute it at one input. -/
def picksCodesWrong : ChangeSpec := { name := "picksCodes", fn := fun _ => fun
  | [d1, d2] => { results := [.lit (.bool false)], args := [d1, d2] }
  | _ => none }
def PicksCodesWrongFalsely : Prop := picksCodesRow.holds Try.pinned (OpenSpec.ofChange picksCodesWrong)

/- THE SECOND FORM. 'bulk': how many values and letters a reading holds, each counted each time it is reached (what is shared counts as often as it is met; a slice's spare places count too). A statement '..UptoSaid' is the law's where the arguments, and the package variables that the reading takes, are together of bulk at most 1048576: NARROWER than '..Said'. Prove '..Said' where nothing that the law and all that it calls make is longer than what came in: it says more and counts as full. Else prove '..UptoSaid'. A law counts once. -/
mutual
def uptoBulk {H : Type} : DataW H → Nat
  | .lit (.string bytes) => bytes.length + 1
  | .lit _ => 1
  | .nil => 1
  | .ptr d => uptoBulk d + 1
  | .slice elems spare => uptoBulkAll elems + uptoBulkAll spare + 1
  | .agg parts => uptoBulkAll parts + 1
  | .iface _ d => uptoBulk d + 1
  | .map entries => uptoBulkEntries entries + 1
  | .held _ => 1
def uptoBulkAll {H : Type} : List (DataW H) → Nat
  | [] => 0
  | d :: r => uptoBulk d + uptoBulkAll r
def uptoBulkEntries {H : Type} : List (Lit × DataW H) → Nat
  | [] => 0
  | x :: r => uptoBulkEntry x + uptoBulkEntries r
def uptoBulkEntry {H : Type} : Lit × DataW H → Nat
  | (.string bytes, d) => bytes.length + uptoBulk d + 1
  | (_, d) => uptoBulk d + 1
 end
def uptoSmall : (H : Type) → List (DataW H) → Bool := fun _ ds => decide (uptoBulkAll ds ≤ 1048576)
def OpenSpec.upto (s : _root_.Go.ChangeSpec) : _root_.Go.OpenSpec := { _root_.Go.OpenSpec.ofChange s with cond := some uptoSmall }

/-- 'pestlelaw36.PicksWoven', WHERE WHAT IT READS IS OF BULK AT MOST 1048576: true; the input reads as it did. -/
def picksWovenUptoRow : OpenClaim := { program := "ytfehkfjfmjnjnaa", sum := "89d83b65eea571b99001d4520c93feee353ead2546b0aaa43320952bd6d9eb1b", func := "pestle/pestlelaw36.PicksWoven", spec := "picksWoven", apart := false, narrowed := true }
def PicksWovenUptoSaid : Prop := picksWovenUptoRow.holds Try.pinned (OpenSpec.upto picksWovenSpec)

/-- 'pestlelaw18.DecCodes', WHERE WHAT IT READS IS OF BULK AT MOST 1048576: true; the input reads as it did. -/
def decCodesUptoRow : OpenClaim := { program := "ytfehkfjfmjnjnaa", sum := "89d83b65eea571b99001d4520c93feee353ead2546b0aaa43320952bd6d9eb1b", func := "pestle/pestlelaw18.DecCodes", spec := "decCodes", recurses := true, apart := false, narrowed := true }
def DecCodesUptoSaid : Prop := decCodesUptoRow.holds Try.pinned (OpenSpec.upto decCodesSpec)

/-- 'pestlelaw18.DecBack', WHERE WHAT IT READS IS OF BULK AT MOST 1048576: true; the input reads as it did. -/
def decBackUptoRow : OpenClaim := { program := "ytfehkfjfmjnjnaa", sum := "89d83b65eea571b99001d4520c93feee353ead2546b0aaa43320952bd6d9eb1b", func := "pestle/pestlelaw18.DecBack", spec := "decBack", apart := false, narrowed := true }
def DecBackUptoSaid : Prop := decBackUptoRow.holds Try.pinned (OpenSpec.upto decBackSpec)

/-- 'pestlelaw36.PicksTurns', WHERE WHAT IT READS IS OF BULK AT MOST 1048576: true; the input reads as it did. -/
def picksTurnsUptoRow : OpenClaim := { program := "ytfehkfjfmjnjnaa", sum := "89d83b65eea571b99001d4520c93feee353ead2546b0aaa43320952bd6d9eb1b", func := "pestle/pestlelaw36.PicksTurns", spec := "picksTurns", apart := false, narrowed := true }
def PicksTurnsUptoSaid : Prop := picksTurnsUptoRow.holds Try.pinned (OpenSpec.upto picksTurnsSpec)

/-- 'pestlelaw18.DecBetween', WHERE WHAT IT READS IS OF BULK AT MOST 1048576: true; the input reads as it did. -/
def decBetweenUptoRow : OpenClaim := { program := "ytfehkfjfmjnjnaa", sum := "89d83b65eea571b99001d4520c93feee353ead2546b0aaa43320952bd6d9eb1b", func := "pestle/pestlelaw18.DecBetween", spec := "decBetween", apart := false, narrowed := true }
def DecBetweenUptoSaid : Prop := decBetweenUptoRow.holds Try.pinned (OpenSpec.upto decBetweenSpec)

/-- 'pestlelaw02.SizeParts', WHERE WHAT IT READS IS OF BULK AT MOST 1048576: true; the input reads as it did. -/
def sizePartsUptoRow : OpenClaim := { program := "ytfehkfjfmjnjnaa", sum := "89d83b65eea571b99001d4520c93feee353ead2546b0aaa43320952bd6d9eb1b", func := "pestle/pestlelaw02.SizeParts", spec := "sizeParts", apart := false, narrowed := true }
def SizePartsUptoSaid : Prop := sizePartsUptoRow.holds Try.pinned (OpenSpec.upto sizePartsSpec)

/-- 'pestlelaw02.SizePowers', WHERE WHAT IT READS IS OF BULK AT MOST 1048576: true; the input reads as it did. -/
def sizePowersUptoRow : OpenClaim := { program := "ytfehkfjfmjnjnaa", sum := "89d83b65eea571b99001d4520c93feee353ead2546b0aaa43320952bd6d9eb1b", func := "pestle/pestlelaw02.SizePowers", spec := "sizePowers", apart := false, narrowed := true }
def SizePowersUptoSaid : Prop := sizePowersUptoRow.holds Try.pinned (OpenSpec.upto sizePowersSpec)

/-- 'pestlelaw02.SizeSums', WHERE WHAT IT READS IS OF BULK AT MOST 1048576: true; the input reads as it did. -/
def sizeSumsUptoRow : OpenClaim := { program := "ytfehkfjfmjnjnaa", sum := "89d83b65eea571b99001d4520c93feee353ead2546b0aaa43320952bd6d9eb1b", func := "pestle/pestlelaw02.SizeSums", spec := "sizeSums", apart := false, narrowed := true }
def SizeSumsUptoSaid : Prop := sizeSumsUptoRow.holds Try.pinned (OpenSpec.upto sizeSumsSpec)

/-- 'pestlelaw02.SizeKept', WHERE WHAT IT READS IS OF BULK AT MOST 1048576: true; the input reads as it did. -/
def sizeKeptUptoRow : OpenClaim := { program := "ytfehkfjfmjnjnaa", sum := "89d83b65eea571b99001d4520c93feee353ead2546b0aaa43320952bd6d9eb1b", func := "pestle/pestlelaw02.SizeKept", spec := "sizeKept", apart := false, narrowed := true }
def SizeKeptUptoSaid : Prop := sizeKeptUptoRow.holds Try.pinned (OpenSpec.upto sizeKeptSpec)

/-- 'pestlelaw18.DecTwos', WHERE WHAT IT READS IS OF BULK AT MOST 1048576: true; the input reads as it did. -/
def decTwosUptoRow : OpenClaim := { program := "ytfehkfjfmjnjnaa", sum := "89d83b65eea571b99001d4520c93feee353ead2546b0aaa43320952bd6d9eb1b", func := "pestle/pestlelaw18.DecTwos", spec := "decTwos", recurses := true, apart := false, narrowed := true }
def DecTwosUptoSaid : Prop := decTwosUptoRow.holds Try.pinned (OpenSpec.upto decTwosSpec)

/-- 'pestlelaw36.PicksCodes', WHERE WHAT IT READS IS OF BULK AT MOST 1048576: true; the input reads as it did. -/
def picksCodesUptoRow : OpenClaim := { program := "ytfehkfjfmjnjnaa", sum := "89d83b65eea571b99001d4520c93feee353ead2546b0aaa43320952bd6d9eb1b", func := "pestle/pestlelaw36.PicksCodes", spec := "picksCodes", recurses := true, apart := false, narrowed := true }
def PicksCodesUptoSaid : Prop := picksCodesUptoRow.holds Try.pinned (OpenSpec.upto picksCodesSpec)

end Rows
end Go.Proofs.Ytfehkfjfmjnjnaa
