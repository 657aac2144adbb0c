/- Plain64Back: whatever the arguments, the plain walk answers yes. -/
import Derived.Test.YtakhikhdbigdaaaStPlain64Back
import Derived.Test.YtakhikhdbigdaaaP64a
import Derived.Test.YtakhikhdbigdaaaPallx5
import Derived.Test.YtakhikhdbigdaaaPallx3
namespace Go.Proofs.Ytakhikhdbigdaaa.Pure
open Go.RowKit Go.Proofs.Ytakhikhdbigdaaa.Pall Go.Proofs.YtakhikhdbigdaaaW.PrintWords Go.Proofs.YtakhikhdbigdaaaW.PrintLast Go.Proofs.Ytakhikhdbigdaaa.Lib Go.Proofs.Ytakhikhdbigdaaa.Byt Go.Proofs.Ytakhikhdbigdaaa.Sex1 Go.Proofs.Ytakhikhdbigdaaa.Sex2 Go.Proofs.Ytakhikhdbigdaaa.Sex3 Go.Proofs.Ytakhikhdbigdaaa.P64a

theorem awake16_to : To (fun k => pestlelaw16_awake.f k) true := To.up (fun k => pestlelaw16_awake.mono k) (k := 80) (by decide +kernel)
theorem Plain64Back : St.Plain64Back_Pure := by
  intro l m t s hl hm ht0 hs0
  refine To.ends ?_
  simp only [pestlelaw16_Plain64Back.f]
  refine To.bind awake16_to ?_
  refine To.ite (fun _ => To.ret _) (fun h1 => ?_)
  refine To.ite (fun _ => To.ret _) (fun h2 => ?_)
  refine To.ite (fun _ => To.ret _) (fun h3 => ?_)
  simp only [pestlelaw16_Plain64Back.good]
  have hw := write_size (l := l) (m := m) (t := t) (by omega)
  have hr := read_size (l := l) (m := m) (s := s) (by omega)
  have one : To (fun k => pestlelaw16_Plain64Back.one k l m t (writeS l m t)) () := by
    simp only [pestlelaw16_Plain64Back.one]
    refine To.ite (fun e => ?_) (fun _ => To.ret _)
    exact To.bind (read_to l m _ (by omega)) (To.pos (write_read (by omega) e) (To.ret _))
  refine To.bind (write_to l m t (by omega)) (To.bind one (To.bind (read_to l m s (by omega)) (To.bind (write_to l m _ (by omega)) ?_)))
  refine To.ite (fun e => ?_) (fun e => ?_)
  · exact To.pos (read_write (by omega) (by omega) (by omega) e) (To.ret _)
  · rw [read_err e]
    exact To.pos (toList_L _) (To.ret _)
end Go.Proofs.Ytakhikhdbigdaaa.Pure
