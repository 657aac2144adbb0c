/- ReportPairs: whatever the arguments, the plain walk answers yes. -/
import Derived.Test.YtoknoghdnedmhaaStReportPairs
import Derived.Test.YtoknoghdnedmhaaRep2
import Derived.Test.YtoknoghdnedmhaaPallx9
import Derived.Test.YtoknoghdnedmhaaPallx3
namespace Go.Proofs.Ytoknoghdnedmhaa.Pure
open Go.RowKit Go.Proofs.Ytoknoghdnedmhaa.Pall Go.Proofs.YtoknoghdnedmhaaW.PrintWords Go.Proofs.YtoknoghdnedmhaaW.PrintLast Go.Proofs.Ytoknoghdnedmhaa.Lib Go.Proofs.Ytoknoghdnedmhaa.Byt Go.Proofs.Ytoknoghdnedmhaa.Rep2
open Go.Proofs.Ytoknoghdnedmhaa.LineW (Cl rdT_nat)

theorem awake54_to : To (fun k => pestlelaw54_awake.f k) true := To.up (fun k => pestlelaw54_awake.mono k) (k := 60) (by decide +kernel)
theorem last_to (l0 : List Cl) (l1 : List Rp) (h0 : l0.length ≤ 30) (h1 : l1.length ≤ 30) (hc : ∀ c ∈ l0, okC c) (hw : ∀ r ∈ l1, r.f3 ≤ 9223372036854775807) (d : Nat) : ∀ n : Nat, n + d = l1.length → (∀ r ∈ l1.take n, r.f1.size ≤ 300) →
    To (fun k => pestlelaw54_ReportPairs.l1 k l0 l1 l1 (l1.length : Int) (n : Int)) true := by
  induction d with
  | zero =>
    intro n hn hr
    rw [List.take_of_length_le (by omega)] at hr
    refine To.step ?_
    simp only [pestlelaw54_ReportPairs.l1]
    refine To.neg (by omega) ?_
    by_cases hl : l0.length = l1.length
    · have ok : ∀ r ∈ l1, okR r := fun r m => ⟨hr r m, hw r m⟩
      refine To.bind (pairs_to l0 l1 hl h0 hc ok) (To.bind (tally_to l1 h1) (To.bind (ref_tally_to l1 h1) (To.pos rfl (To.pos (by omega) (To.pos rfl (To.bind (ref_pairs_to l0 l1 hl h0 hc ok) (To.ret' ?_)))))))
      exact beq_self_eq_true _
    · refine To.bind (pairs_ne l0 l1 hl) (To.bind (tally_to l1 h1) (To.bind (ref_tally_to l1 h1) (To.pos rfl (To.neg (by omega) (To.pos rfl (To.ret' ?_))))))
      rw [toList_L]; rfl
  | succ d ih =>
    intro n hn hr
    have h : n < l1.length := by omega
    refine To.step ?_
    simp only [pestlelaw54_ReportPairs.l1]
    rw [rdR_nat h, wrap_id (x := (n : Int) + 1) (by omega) (by omega)]
    refine To.pos (by omega) (To.pos (by omega) (To.pos (by omega) (To.ite (fun _ => To.ret _) (fun q => ?_))))
    refine ih (n + 1) (by omega) ?_
    intro r hm
    rw [List.take_succ_eq_append_getElem h, List.mem_append, List.mem_singleton] at hm
    rcases hm with hm | rfl
    · exact hr r hm
    · omega
theorem first_to (l0 : List Cl) (l1 : List Rp) (h0 : l0.length ≤ 30) (h1 : l1.length ≤ 30) (hw : ∀ r ∈ l1, r.f3 ≤ 9223372036854775807) (d : Nat) : ∀ n : Nat, n + d = l0.length → (∀ c ∈ l0.take n, okC c) →
    To (fun k => pestlelaw54_ReportPairs.l0 k l0 l1 l0 (l0.length : Int) (n : Int)) true := by
  induction d with
  | zero =>
    intro n hn hc
    rw [List.take_of_length_le (by omega)] at hc
    refine To.step ?_
    simp only [pestlelaw54_ReportPairs.l0]
    exact To.neg (by omega) (last_to l0 l1 h0 h1 hc hw l1.length 0 (by omega) (by simp))
  | succ d ih =>
    intro n hn hc
    have h : n < l0.length := by omega
    refine To.step ?_
    simp only [pestlelaw54_ReportPairs.l0]
    rw [rdT_nat h, wrap_id (x := (n : Int) + 1) (by omega) (by omega)]
    refine To.pos (by omega) (To.pos (by omega) (To.pos (by omega) (To.ite (fun _ => To.ret _) (fun q => To.ite (fun _ => To.ret _) (fun q2 => ?_)))))
    refine ih (n + 1) (by omega) ?_
    intro c hm
    rw [List.take_succ_eq_append_getElem h, List.mem_append, List.mem_singleton] at hm
    rcases hm with hm | rfl
    · exact hc c hm
    · exact ⟨by omega, by omega⟩
theorem ReportPairs : St.ReportPairs_Pure := by
  intro l0 l1 hl0 hl1
  obtain ⟨hr, _, _⟩ := hl1
  have hw : ∀ r ∈ l1, r.f3 ≤ 9223372036854775807 := fun r m => (wf_i64 (hr r m).2.2.2).2
  refine To.ends ?_
  simp only [pestlelaw54_ReportPairs.f]
  refine To.bind awake54_to (To.pos rfl ?_)
  refine To.ite (fun _ => To.step ?_) (fun h1 => To.step ?_)
  · simp only [pestlelaw54_ReportPairs.j0]; exact To.pos trivial (To.ret _)
  simp only [pestlelaw54_ReportPairs.j0]
  refine To.ite (fun _ => To.ret _) (fun h2 => ?_)
  simp only [decide_eq_true_eq] at h2
  exact first_to l0 l1 (by omega) (by omega) hw l0.length 0 (by omega) (by simp)
end Go.Proofs.Ytoknoghdnedmhaa.Pure
