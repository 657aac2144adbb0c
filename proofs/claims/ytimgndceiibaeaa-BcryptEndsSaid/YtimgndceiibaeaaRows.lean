/-
  No cell of these rows narrows 'for every input' (looked for: loops, veiled, ifaces, maps, wideKeys, modest, calm, conditions, laid).
  DERIVED. THE GIVEN ROWS OF THIS SEAT. 9 by the template 'for every input the law returns true; each argument reads behind the call as it read before'; 0 by the template 'total and deterministic' (their statements: YtimgndceiibaeaaTotals.lean).
  GIVEN WITH THE SEED: the statements are not yours to turn. If you find one false, say at which input.
  Laid BY PROGRAM, IN A SANDBOX (cutbox-rows.mjs): the forced cells as the released guide's own fill.sh prints them over the translation 083cfd4510744ebe… (all of the seat's roots in one cut). By AI agents, Wed Nov 11 2026. No macro, syntax, notation, axiom, sorry.
-/
import Derived.Test.YtimgndceiibaeaaChecked
import GoSem.Claim
import GoSem.ClaimJoined
import GoSem.ClaimMapViews
import Derived.JoinedTies
import Derived.KernelRfl
namespace Go.Proofs.Ytimgndceiibaeaa
/- THE CELL 'sum', in the pinned program and in every row, IS THE sha256 OF THE DUMP (.gsa) THAT YtimgndceiibaeaaProg.lean LOADS. Nothing in Lean hashes anything: it is a label: what it is worth is what the hold of that sum in a sandbox is worth. -/
noncomputable def Try.pinned : Pinned := { name := "ytimgndceiibaeaa", sum := "083cfd4510744ebef9bca25bad0c8bd23d4bf5b73e2e55a685c77f02c6a4d668", checked := Try.checked }
namespace Rows
def none {H : Type} : Left H := { results := [], args := [] }

/-- 'pestlelaw09.PiWords': WHATEVER THE INPUT: true; the input reads as it did. -/
def piWordsSpec : ChangeSpec := { name := "piWords", fn := fun _ => fun
  | [d1, d2, d3] => { results := [.lit (.bool true)], args := [d1, d2, d3] }
  | _ => none }
def piWordsRow : OpenClaim := { program := "ytimgndceiibaeaa", sum := "083cfd4510744ebef9bca25bad0c8bd23d4bf5b73e2e55a685c77f02c6a4d668", func := "pestle/pestlelaw09.PiWords", spec := "piWords", apart := false }
def PiWordsSaid : Prop := piWordsRow.holds Try.pinned (OpenSpec.ofChange piWordsSpec)

/-- ITS FALSE NEIGHBOUR: 'it returns false'. Refute it at one input. -/
def piWordsWrong : ChangeSpec := { name := "piWords", fn := fun _ => fun
  | [d1, d2, d3] => { results := [.lit (.bool false)], args := [d1, d2, d3] }
  | _ => none }
def PiWordsWrongFalsely : Prop := piWordsRow.holds Try.pinned (OpenSpec.ofChange piWordsWrong)

/-- 'pestlelaw10.CipherExpands': WHATEVER THE INPUT: true; the input reads as it did. -/
def cipherExpandsSpec : ChangeSpec := { name := "cipherExpands", fn := fun _ => fun
  | [d1, d2, d3, d4] => { results := [.lit (.bool true)], args := [d1, d2, d3, d4] }
  | _ => none }
def cipherExpandsRow : OpenClaim := { program := "ytimgndceiibaeaa", sum := "083cfd4510744ebef9bca25bad0c8bd23d4bf5b73e2e55a685c77f02c6a4d668", func := "pestle/pestlelaw10.CipherExpands", spec := "cipherExpands", unfollowed := true, recurses := true, apart := false }
def CipherExpandsSaid : Prop := cipherExpandsRow.holds Try.pinned (OpenSpec.ofChange cipherExpandsSpec)

/-- ITS FALSE NEIGHBOUR: 'it returns false'. Refute it at one input. -/
def cipherExpandsWrong : ChangeSpec := { name := "cipherExpands", fn := fun _ => fun
  | [d1, d2, d3, d4] => { results := [.lit (.bool false)], args := [d1, d2, d3, d4] }
  | _ => none }
def CipherExpandsWrongFalsely : Prop := cipherExpandsRow.holds Try.pinned (OpenSpec.ofChange cipherExpandsWrong)

/-- 'pestlelaw09.PiDigits': WHATEVER THE INPUT: true; the input reads as it did. -/
def piDigitsSpec : ChangeSpec := { name := "piDigits", fn := fun _ => fun
  | [d] => { results := [.lit (.bool true)], args := [d] }
  | _ => none }
def piDigitsRow : OpenClaim := { program := "ytimgndceiibaeaa", sum := "083cfd4510744ebef9bca25bad0c8bd23d4bf5b73e2e55a685c77f02c6a4d668", func := "pestle/pestlelaw09.PiDigits", spec := "piDigits", named := ["math/bits.divideError", "math/bits.overflowError"], apart := false }
def PiDigitsSaid : Prop := piDigitsRow.holds Try.pinned (OpenSpec.ofChange piDigitsSpec)

/-- ITS FALSE NEIGHBOUR: 'it returns false'. Refute it at one input. -/
def piDigitsWrong : ChangeSpec := { name := "piDigits", fn := fun _ => fun
  | [d] => { results := [.lit (.bool false)], args := [d] }
  | _ => none }
def PiDigitsWrongFalsely : Prop := piDigitsRow.holds Try.pinned (OpenSpec.ofChange piDigitsWrong)

/-- 'pestlelaw10.CipherKeys': WHATEVER THE INPUT: true; the input reads as it did. -/
def cipherKeysSpec : ChangeSpec := { name := "cipherKeys", fn := fun _ => fun
  | [d1, d2, d3] => { results := [.lit (.bool true)], args := [d1, d2, d3] }
  | _ => none }
def cipherKeysRow : OpenClaim := { program := "ytimgndceiibaeaa", sum := "083cfd4510744ebef9bca25bad0c8bd23d4bf5b73e2e55a685c77f02c6a4d668", func := "pestle/pestlelaw10.CipherKeys", spec := "cipherKeys", unfollowed := true, recurses := true, apart := false }
def CipherKeysSaid : Prop := cipherKeysRow.holds Try.pinned (OpenSpec.ofChange cipherKeysSpec)

/-- ITS FALSE NEIGHBOUR: 'it returns false'. Refute it at one input. -/
def cipherKeysWrong : ChangeSpec := { name := "cipherKeys", fn := fun _ => fun
  | [d1, d2, d3] => { results := [.lit (.bool false)], args := [d1, d2, d3] }
  | _ => none }
def CipherKeysWrongFalsely : Prop := cipherKeysRow.holds Try.pinned (OpenSpec.ofChange cipherKeysWrong)

/-- 'pestlelaw10.CipherBack': WHATEVER THE INPUT: true; the input reads as it did. -/
def cipherBackSpec : ChangeSpec := { name := "cipherBack", fn := fun _ => fun
  | [d1, d2, d3, d4] => { results := [.lit (.bool true)], args := [d1, d2, d3, d4] }
  | _ => none }
def cipherBackRow : OpenClaim := { program := "ytimgndceiibaeaa", sum := "083cfd4510744ebef9bca25bad0c8bd23d4bf5b73e2e55a685c77f02c6a4d668", func := "pestle/pestlelaw10.CipherBack", spec := "cipherBack", unfollowed := true, recurses := true, apart := false }
def CipherBackSaid : Prop := cipherBackRow.holds Try.pinned (OpenSpec.ofChange cipherBackSpec)

/-- ITS FALSE NEIGHBOUR: 'it returns false'. Refute it at one input. -/
def cipherBackWrong : ChangeSpec := { name := "cipherBack", fn := fun _ => fun
  | [d1, d2, d3, d4] => { results := [.lit (.bool false)], args := [d1, d2, d3, d4] }
  | _ => none }
def CipherBackWrongFalsely : Prop := cipherBackRow.holds Try.pinned (OpenSpec.ofChange cipherBackWrong)

/-- 'pestlelaw11.EksSetups': WHATEVER THE INPUT: true; the input reads as it did. -/
def eksSetupsSpec : ChangeSpec := { name := "eksSetups", fn := fun _ => fun
  | [d1, d2, d3, d4, d5] => { results := [.lit (.bool true)], args := [d1, d2, d3, d4, d5] }
  | _ => none }
def eksSetupsRow : OpenClaim := { program := "ytimgndceiibaeaa", sum := "083cfd4510744ebef9bca25bad0c8bd23d4bf5b73e2e55a685c77f02c6a4d668", func := "pestle/pestlelaw11.EksSetups", spec := "eksSetups", unfollowed := true, recurses := true, apart := false }
def EksSetupsSaid : Prop := eksSetupsRow.holds Try.pinned (OpenSpec.ofChange eksSetupsSpec)

/-- ITS FALSE NEIGHBOUR: 'it returns false'. Refute it at one input. -/
def eksSetupsWrong : ChangeSpec := { name := "eksSetups", fn := fun _ => fun
  | [d1, d2, d3, d4, d5] => { results := [.lit (.bool false)], args := [d1, d2, d3, d4, d5] }
  | _ => none }
def EksSetupsWrongFalsely : Prop := eksSetupsRow.holds Try.pinned (OpenSpec.ofChange eksSetupsWrong)

/-- 'pestlelaw11.EksSeals': WHATEVER THE INPUT: true; the input reads as it did. -/
def eksSealsSpec : ChangeSpec := { name := "eksSeals", fn := fun _ => fun
  | [d1, d2, d3] => { results := [.lit (.bool true)], args := [d1, d2, d3] }
  | _ => none }
def eksSealsRow : OpenClaim := { program := "ytimgndceiibaeaa", sum := "083cfd4510744ebef9bca25bad0c8bd23d4bf5b73e2e55a685c77f02c6a4d668", func := "pestle/pestlelaw11.EksSeals", spec := "eksSeals", unfollowed := true, recurses := true, apart := false }
def EksSealsSaid : Prop := eksSealsRow.holds Try.pinned (OpenSpec.ofChange eksSealsSpec)

/-- ITS FALSE NEIGHBOUR: 'it returns false'. Refute it at one input. -/
def eksSealsWrong : ChangeSpec := { name := "eksSeals", fn := fun _ => fun
  | [d1, d2, d3] => { results := [.lit (.bool false)], args := [d1, d2, d3] }
  | _ => none }
def EksSealsWrongFalsely : Prop := eksSealsRow.holds Try.pinned (OpenSpec.ofChange eksSealsWrong)

/-- 'pestlelaw26.BcryptSums': WHATEVER THE INPUT: true; the input reads as it did. -/
def bcryptSumsSpec : ChangeSpec := { name := "bcryptSums", fn := fun _ => fun
  | [d1, d2, d3] => { results := [.lit (.bool true)], args := [d1, d2, d3] }
  | _ => none }
def bcryptSumsRow : OpenClaim := { program := "ytimgndceiibaeaa", sum := "083cfd4510744ebef9bca25bad0c8bd23d4bf5b73e2e55a685c77f02c6a4d668", func := "pestle/pestlelaw26.BcryptSums", spec := "bcryptSums", unfollowed := true, recurses := true, apart := false }
def BcryptSumsSaid : Prop := bcryptSumsRow.holds Try.pinned (OpenSpec.ofChange bcryptSumsSpec)

/-- ITS FALSE NEIGHBOUR: 'it returns false'. Refute it at one input. -/
def bcryptSumsWrong : ChangeSpec := { name := "bcryptSums", fn := fun _ => fun
  | [d1, d2, d3] => { results := [.lit (.bool false)], args := [d1, d2, d3] }
  | _ => none }
def BcryptSumsWrongFalsely : Prop := bcryptSumsRow.holds Try.pinned (OpenSpec.ofChange bcryptSumsWrong)

/-- 'pestlelaw26.BcryptEnds': WHATEVER THE INPUT: true; the input reads as it did. -/
def bcryptEndsSpec : ChangeSpec := { name := "bcryptEnds", fn := fun _ => fun
  | [d1, d2] => { results := [.lit (.bool true)], args := [d1, d2] }
  | _ => none }
def bcryptEndsRow : OpenClaim := { program := "ytimgndceiibaeaa", sum := "083cfd4510744ebef9bca25bad0c8bd23d4bf5b73e2e55a685c77f02c6a4d668", func := "pestle/pestlelaw26.BcryptEnds", spec := "bcryptEnds", unfollowed := true, recurses := true, apart := false }
def BcryptEndsSaid : Prop := bcryptEndsRow.holds Try.pinned (OpenSpec.ofChange bcryptEndsSpec)

/-- ITS FALSE NEIGHBOUR: 'it returns false'. Refute it at one input. -/
def bcryptEndsWrong : ChangeSpec := { name := "bcryptEnds", fn := fun _ => fun
  | [d1, d2] => { results := [.lit (.bool false)], args := [d1, d2] }
  | _ => none }
def BcryptEndsWrongFalsely : Prop := bcryptEndsRow.holds Try.pinned (OpenSpec.ofChange bcryptEndsWrong)

/- THE SECOND FORM. 'bulk': how many values and letters a reading holds, each counted each time it is reached (what is shared counts as often as it is met; a slice's spare places count too). A statement '..UptoSaid' is the law's where the arguments, and the package variables that the reading takes, are together of bulk at most 1048576: NARROWER than '..Said'. Prove '..Said' where nothing that the law and all that it calls make is longer than what came in: it says more and counts as full. Else prove '..UptoSaid'. A law counts once. -/
mutual
def uptoBulk {H : Type} : DataW H → Nat
  | .lit (.string bytes) => bytes.length + 1
  | .lit _ => 1
  | .nil => 1
  | .ptr d => uptoBulk d + 1
  | .slice elems spare => uptoBulkAll elems + uptoBulkAll spare + 1
  | .agg parts => uptoBulkAll parts + 1
  | .iface _ d => uptoBulk d + 1
  | .map entries => uptoBulkEntries entries + 1
  | .held _ => 1
def uptoBulkAll {H : Type} : List (DataW H) → Nat
  | [] => 0
  | d :: r => uptoBulk d + uptoBulkAll r
def uptoBulkEntries {H : Type} : List (Lit × DataW H) → Nat
  | [] => 0
  | x :: r => uptoBulkEntry x + uptoBulkEntries r
def uptoBulkEntry {H : Type} : Lit × DataW H → Nat
  | (.string bytes, d) => bytes.length + uptoBulk d + 1
  | (_, d) => uptoBulk d + 1
 end
def uptoSmall : (H : Type) → List (DataW H) → Bool := fun _ ds => decide (uptoBulkAll ds ≤ 1048576)
def OpenSpec.upto (s : _root_.Go.ChangeSpec) : _root_.Go.OpenSpec := { _root_.Go.OpenSpec.ofChange s with cond := some uptoSmall }

/-- 'pestlelaw09.PiWords', WHERE WHAT IT READS IS OF BULK AT MOST 1048576: true; the input reads as it did. -/
def piWordsUptoRow : OpenClaim := { program := "ytimgndceiibaeaa", sum := "083cfd4510744ebef9bca25bad0c8bd23d4bf5b73e2e55a685c77f02c6a4d668", func := "pestle/pestlelaw09.PiWords", spec := "piWords", apart := false, narrowed := true }
def PiWordsUptoSaid : Prop := piWordsUptoRow.holds Try.pinned (OpenSpec.upto piWordsSpec)

/-- 'pestlelaw10.CipherExpands', WHERE WHAT IT READS IS OF BULK AT MOST 1048576: true; the input reads as it did. -/
def cipherExpandsUptoRow : OpenClaim := { program := "ytimgndceiibaeaa", sum := "083cfd4510744ebef9bca25bad0c8bd23d4bf5b73e2e55a685c77f02c6a4d668", func := "pestle/pestlelaw10.CipherExpands", spec := "cipherExpands", unfollowed := true, recurses := true, apart := false, narrowed := true }
def CipherExpandsUptoSaid : Prop := cipherExpandsUptoRow.holds Try.pinned (OpenSpec.upto cipherExpandsSpec)

/-- 'pestlelaw09.PiDigits', WHERE WHAT IT READS IS OF BULK AT MOST 1048576: true; the input reads as it did. -/
def piDigitsUptoRow : OpenClaim := { program := "ytimgndceiibaeaa", sum := "083cfd4510744ebef9bca25bad0c8bd23d4bf5b73e2e55a685c77f02c6a4d668", func := "pestle/pestlelaw09.PiDigits", spec := "piDigits", named := ["math/bits.divideError", "math/bits.overflowError"], apart := false, narrowed := true }
def PiDigitsUptoSaid : Prop := piDigitsUptoRow.holds Try.pinned (OpenSpec.upto piDigitsSpec)

/-- 'pestlelaw10.CipherKeys', WHERE WHAT IT READS IS OF BULK AT MOST 1048576: true; the input reads as it did. -/
def cipherKeysUptoRow : OpenClaim := { program := "ytimgndceiibaeaa", sum := "083cfd4510744ebef9bca25bad0c8bd23d4bf5b73e2e55a685c77f02c6a4d668", func := "pestle/pestlelaw10.CipherKeys", spec := "cipherKeys", unfollowed := true, recurses := true, apart := false, narrowed := true }
def CipherKeysUptoSaid : Prop := cipherKeysUptoRow.holds Try.pinned (OpenSpec.upto cipherKeysSpec)

/-- 'pestlelaw10.CipherBack', WHERE WHAT IT READS IS OF BULK AT MOST 1048576: true; the input reads as it did. -/
def cipherBackUptoRow : OpenClaim := { program := "ytimgndceiibaeaa", sum := "083cfd4510744ebef9bca25bad0c8bd23d4bf5b73e2e55a685c77f02c6a4d668", func := "pestle/pestlelaw10.CipherBack", spec := "cipherBack", unfollowed := true, recurses := true, apart := false, narrowed := true }
def CipherBackUptoSaid : Prop := cipherBackUptoRow.holds Try.pinned (OpenSpec.upto cipherBackSpec)

/-- 'pestlelaw11.EksSetups', WHERE WHAT IT READS IS OF BULK AT MOST 1048576: true; the input reads as it did. -/
def eksSetupsUptoRow : OpenClaim := { program := "ytimgndceiibaeaa", sum := "083cfd4510744ebef9bca25bad0c8bd23d4bf5b73e2e55a685c77f02c6a4d668", func := "pestle/pestlelaw11.EksSetups", spec := "eksSetups", unfollowed := true, recurses := true, apart := false, narrowed := true }
def EksSetupsUptoSaid : Prop := eksSetupsUptoRow.holds Try.pinned (OpenSpec.upto eksSetupsSpec)

/-- 'pestlelaw11.EksSeals', WHERE WHAT IT READS IS OF BULK AT MOST 1048576: true; the input reads as it did. -/
def eksSealsUptoRow : OpenClaim := { program := "ytimgndceiibaeaa", sum := "083cfd4510744ebef9bca25bad0c8bd23d4bf5b73e2e55a685c77f02c6a4d668", func := "pestle/pestlelaw11.EksSeals", spec := "eksSeals", unfollowed := true, recurses := true, apart := false, narrowed := true }
def EksSealsUptoSaid : Prop := eksSealsUptoRow.holds Try.pinned (OpenSpec.upto eksSealsSpec)

/-- 'pestlelaw26.BcryptSums', WHERE WHAT IT READS IS OF BULK AT MOST 1048576: true; the input reads as it did. -/
def bcryptSumsUptoRow : OpenClaim := { program := "ytimgndceiibaeaa", sum := "083cfd4510744ebef9bca25bad0c8bd23d4bf5b73e2e55a685c77f02c6a4d668", func := "pestle/pestlelaw26.BcryptSums", spec := "bcryptSums", unfollowed := true, recurses := true, apart := false, narrowed := true }
def BcryptSumsUptoSaid : Prop := bcryptSumsUptoRow.holds Try.pinned (OpenSpec.upto bcryptSumsSpec)

/-- 'pestlelaw26.BcryptEnds', WHERE WHAT IT READS IS OF BULK AT MOST 1048576: true; the input reads as it did. -/
def bcryptEndsUptoRow : OpenClaim := { program := "ytimgndceiibaeaa", sum := "083cfd4510744ebef9bca25bad0c8bd23d4bf5b73e2e55a685c77f02c6a4d668", func := "pestle/pestlelaw26.BcryptEnds", spec := "bcryptEnds", unfollowed := true, recurses := true, apart := false, narrowed := true }
def BcryptEndsUptoSaid : Prop := bcryptEndsUptoRow.holds Try.pinned (OpenSpec.upto bcryptEndsSpec)

end Rows
end Go.Proofs.Ytimgndceiibaeaa
