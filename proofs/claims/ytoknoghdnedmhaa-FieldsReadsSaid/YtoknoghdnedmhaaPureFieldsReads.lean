/- For every text: whether it is a name, a pair, or pairs, and which, is what the document's reference says.
   Conditions: the text is one that Go can hold in memory (as the row says); nothing else. -/
import Derived.Test.YtoknoghdnedmhaaFld2
import Derived.Test.YtoknoghdnedmhaaPallx7
import Derived.Test.YtoknoghdnedmhaaPallx4
namespace Go.Proofs.Ytoknoghdnedmhaa.Pure
open Go.RowKit Go.Proofs.Ytoknoghdnedmhaa.Pall Go.Proofs.YtoknoghdnedmhaaW.PrintWords Go.Proofs.YtoknoghdnedmhaaW.PrintLast Go.Proofs.Ytoknoghdnedmhaa.Lib Go.Proofs.Ytoknoghdnedmhaa.Byt Go.Proofs.Ytoknoghdnedmhaa.Fld1 Go.Proofs.Ytoknoghdnedmhaa.Fld2

theorem awake41_to : To (fun k => pestlelaw41_awake.f k) true := To.up (fun k => pestlelaw41_awake.mono k) (k := 60) (by decide +kernel)
theorem FieldsReads : pestlelaw41_FieldsReads.Pure := by
  intro s _
  refine To.ends ?_
  simp only [pestlelaw41_FieldsReads.f]
  refine To.bind awake41_to (To.pos rfl (To.ite (fun _ => To.ret _) (fun h => ?_)))
  have hs : s.size ≤ 1000000 := by omega
  have hl : (pairsS s).1.length ≤ 2000000 := by
    have a := pairsA_len (parts 44 s) []
    have b := parts_len 44 s
    unfold pairsS
    simp only [List.length_nil] at a
    omega
  exact To.bind (pair_to s hs) (To.bind (ref_pair_to s hs) (To.bind (pairs_to s hs) (To.bind (ref_pairs_to s hs) (To.bind (name_to s hs) (To.bind (ref_name_to s hs) (To.pos (by simp) (To.pos (by simp) (To.pos rfl (To.bind (same_to _ hl) (To.pos rfl (To.ret' (by simp))))))))))))
end Go.Proofs.Ytoknoghdnedmhaa.Pure
