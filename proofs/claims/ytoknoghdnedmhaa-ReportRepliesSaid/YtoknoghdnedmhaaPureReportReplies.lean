/- For every reply to every call, all parameters and every error: they are told in lines as the document says.
   Conditions: the arguments are such as memory holds (as the row says), within the statement's own guards; nothing else. -/
import Derived.Test.YtoknoghdnedmhaaStReportReplies
import Derived.Test.YtoknoghdnedmhaaRep1
import Derived.Test.YtoknoghdnedmhaaPallx7
import Derived.Test.YtoknoghdnedmhaaPallx3
namespace Go.Proofs.Ytoknoghdnedmhaa.Pure
open Go.RowKit Go.Proofs.Ytoknoghdnedmhaa.Pall Go.Proofs.YtoknoghdnedmhaaW.PrintWords Go.Proofs.YtoknoghdnedmhaaW.PrintLast Go.Proofs.Ytoknoghdnedmhaa.Lib Go.Proofs.Ytoknoghdnedmhaa.Byt Go.Proofs.Ytoknoghdnedmhaa.Rep1

theorem awake54_to : To (fun k => pestlelaw54_awake.f k) true := To.up (fun k => pestlelaw54_awake.mono k) (k := 60) (by decide +kernel)
theorem ReportReplies : St.ReportReplies_Pure := by
  intro c r p e hc hr hp _
  obtain ⟨hr0, hr1, hr2, hr3⟩ := hr
  obtain ⟨hp0, hp1, hp2, hp3, hp4⟩ := hp
  refine To.ends ?_
  simp only [pestlelaw54_ReportReplies.f]
  have g3 := (wf_i64 hr3).2
  have gt := (wf_i64 hp1).2
  have gm := (wf_i64 hp2).2
  have gl := (wf_i64 hp3).2
  have gs := (wf_i64 hp4).2
  refine To.bind awake54_to (To.pos rfl ?_)
  refine To.ite (fun _ => To.step ?_) (fun h1 => ?_)
  · simp only [pestlelaw54_ReportReplies.j0]; exact To.pos trivial (To.ret _)
  refine To.ite (fun _ => To.step ?_) (fun h2 => To.step ?_)
  · simp only [pestlelaw54_ReportReplies.j0]; exact To.pos trivial (To.ret _)
  simp only [pestlelaw54_ReportReplies.j0]
  refine To.ite (fun _ => To.ret _) (fun h3 => ?_)
  simp only [decide_eq_true_eq] at h3
  refine To.bind (reply_to c.f0 c.f1 c.f2 r.f0 r.f1 r.f2 r.f3 (by omega) g3) (To.bind (ref_reply_to c.f0 c.f1 c.f2 r.f0 r.f1 r.f2 r.f3 (by omega) g3) (To.pos rfl (To.bind (params_to p.f0 p.f1 p.f2 p.f3 p.f4 gt gm gl gs) (To.bind (ref_params_to p.f0 p.f1 p.f2 p.f3 p.f4 gt gm gl gs) (To.pos rfl ?_)))))
  rw [name_f, ref_name_f]
  exact To.bind0 rfl (To.bind0 rfl (To.ret' (beq_self_eq_true _)))
end Go.Proofs.Ytoknoghdnedmhaa.Pure
