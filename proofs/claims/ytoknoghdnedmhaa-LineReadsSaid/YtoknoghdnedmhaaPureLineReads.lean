/- For every text: it is the call that the document says, or it is told why it is none; and every text of lines is the calls that the document says, or it is told why it is none, and where.
   Conditions: the arguments are strings that memory holds, of at most 1000 bytes as the statement's guard says; nothing else. -/
import Derived.Test.YtoknoghdnedmhaaLine2
import Derived.Test.YtoknoghdnedmhaaPallx9
import Derived.Test.YtoknoghdnedmhaaPallx5
namespace Go.Proofs.Ytoknoghdnedmhaa.Pure
open Go.RowKit Go.Proofs.Ytoknoghdnedmhaa.Pall Go.Proofs.YtoknoghdnedmhaaW.PrintWords Go.Proofs.YtoknoghdnedmhaaW.PrintLast Go.Proofs.Ytoknoghdnedmhaa.Lib Go.Proofs.Ytoknoghdnedmhaa.Byt Go.Proofs.Ytoknoghdnedmhaa.Line1 Go.Proofs.Ytoknoghdnedmhaa.Line2

theorem awake53_to : To (fun k => pestlelaw53_awake.f k) true := To.up (fun k => pestlelaw53_awake.mono k) (k := 60) (by decide +kernel)
theorem reads_j1 (s t : ByteArray) (hs : s.size ≤ 1000000) (ht : t.size ≤ 1000000) :
    To (fun k => pestlelaw53_LineReads.j1 k s (readS s).2.2.2 (readS s).2.2.2 (allS t).1 (allS t).2.1 (allS t).2.2 (allS t).1 (allS t).2.1 (allS t).2.2 false (readS s).1 (readS s).2.1 (readS s).2.2.1 (readS s).1 (readS s).2.1 (readS s).2.2.1) true := by
  refine To.step ?_
  simp only [pestlelaw53_LineReads.j1]
  refine To.neg (by decide) (To.pos ?_ (To.pos trivial (To.bind (same_to _ (allS_len t ht)) (To.pos rfl (To.pos trivial (To.pos trivial (To.bind (plain_to s hs) (To.bind (ref_plain_to s hs) (To.ret' ?_)))))))))
  · simp only [beq_self_eq_true, Bool.and_self]
  · exact beq_self_eq_true _
theorem LineReads : pestlelaw53_LineReads.Pure := by
  intro s t _ _
  refine To.ends ?_
  simp only [pestlelaw53_LineReads.f]
  refine To.bind awake53_to (To.pos rfl ?_)
  refine To.ite (fun _ => To.step ?_) (fun h1 => To.step ?_)
  · simp only [pestlelaw53_LineReads.j0]; exact To.pos trivial (To.ret _)
  simp only [pestlelaw53_LineReads.j0]
  by_cases h2 : (t.size : Int) > 1000
  · exact To.pos (decide_eq_true h2) (To.ret _)
  have hs : s.size ≤ 1000000 := by omega
  have ht : t.size ≤ 1000000 := by omega
  refine To.neg (by simp only [decide_eq_true_eq]; exact h2) (To.bind (read_to s hs) (To.bind (ref_read_to s hs) (To.bind (all_to t ht) (To.bind (ref_all_to t ht) ?_))))
  rw [kind_f]
  refine To.bind0 rfl ?_
  rw [word_f]
  refine To.bind0 rfl ?_
  by_cases k0 : kindS s = 0
  · rw [k0]
    exact To.neg (by decide) (To.pos rfl (To.pos rfl (reads_j1 s t hs ht)))
  · have hk : 1 ≤ kindS s ∧ kindS s ≤ 3 := by rcases kind_cases s with q | ⟨q, _⟩ | ⟨q, _⟩ | ⟨q, _⟩ <;> omega
    exact To.pos (if_neg k0) (To.pos (kind_eq hk rfl) (To.pos (if_pos hk) (reads_j1 s t hs ht)))
end Go.Proofs.Ytoknoghdnedmhaa.Pure
