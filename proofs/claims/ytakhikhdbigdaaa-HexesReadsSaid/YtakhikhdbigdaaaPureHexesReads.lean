/- For every text: the bytes whose digits it is, or why it is none, with a dash likewise, are what the document's reference says.
   Conditions: the text is one that Go can hold in memory (as the row says); nothing else. -/
import Derived.Test.YtakhikhdbigdaaaHex1
import Derived.Test.YtakhikhdbigdaaaPallx3
import Derived.Test.YtakhikhdbigdaaaPallx2
namespace Go.Proofs.Ytakhikhdbigdaaa.Pure
open Go.RowKit Go.Proofs.Ytakhikhdbigdaaa.Pall Go.Proofs.YtakhikhdbigdaaaW.PrintWords Go.Proofs.YtakhikhdbigdaaaW.PrintLast Go.Proofs.Ytakhikhdbigdaaa.Lib Go.Proofs.Ytakhikhdbigdaaa.Byt Go.Proofs.Ytakhikhdbigdaaa.Hex1

theorem awake14_to : To (fun k => pestlelaw14_awake.f k) true := To.up (fun k => pestlelaw14_awake.mono k) (k := 30) (by decide +kernel)
theorem HexesReads : pestlelaw14_HexesReads.Pure := by
  intro s _
  refine To.ends ?_
  simp only [pestlelaw14_HexesReads.f]
  refine To.bind awake14_to (To.pos rfl (To.ite (fun _ => To.ret _) (fun h => ?_)))
  have hs : s.size ≤ 1000000000 := by omega
  exact To.bind (dec_to s hs) (To.bind (ref_dec_to s hs) (To.bind (undash_to s hs) (To.bind (ref_undash_to s hs) (To.pos rfl (To.pos rfl (To.pos rfl (To.ret' (by simp))))))))
end Go.Proofs.Ytakhikhdbigdaaa.Pure
