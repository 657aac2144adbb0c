/- Texts joined by a byte, by the reference's way. -/
import Derived.Test.YtoknoghdnedmhaaFldJ
import Derived.Test.YtoknoghdnedmhaaPallx5
namespace Go.Proofs.Ytoknoghdnedmhaa.FldR
open Go.RowKit Go.Proofs.Ytoknoghdnedmhaa.Pall Go.Proofs.YtoknoghdnedmhaaW.PrintWords Go.Proofs.YtoknoghdnedmhaaW.PrintLast Go.Proofs.Ytoknoghdnedmhaa.Lib Go.Proofs.Ytoknoghdnedmhaa.Byt Go.Proofs.Ytoknoghdnedmhaa.Spl Go.Proofs.Ytoknoghdnedmhaa.FldS Go.Proofs.Ytoknoghdnedmhaa.FldJ

theorem ref_join_l0 (b : ByteArray) (c : UInt8) (hbc : L b = [c]) (ps : List ByteArray) (hb : sizes ps + ps.length ≤ 1000000000) (d : Nat) : ∀ n : Nat, n + d = ps.length →
    To (fun k => pestleref41_Join.l0 k b ps (mkB (joinB c (ps.take n))) (n : Int)) (joinS c ps) := by
  have hbs : b.size = 1 := by rw [size_L, hbc]; rfl
  induction d with
  | zero =>
    intro n hn
    refine To.step ?_
    simp only [pestleref41_Join.l0]
    rw [List.take_of_length_le (by omega)]
    exact To.neg (by omega) (To.ret _)
  | succ d ih =>
    intro n hn
    have hlt : n < ps.length := by omega
    have hl := joinB_len c (ps.take n)
    have hst := sizes_take ps (n + 1)
    have hss : sizes (ps.take (n + 1)) = sizes (ps.take n) + ps[n].size := by rw [List.take_succ_eq_append_getElem hlt, sizes_append]; simp [sizes]
    have htl : (ps.take n).length = n := by rw [List.length_take]; omega
    have hms : (mkB (joinB c (ps.take n))).size = (joinB c (ps.take n)).length := by rw [size_L, L_mk]
    refine To.step ?_
    simp only [pestleref41_Join.l0]
    rw [rdOf_nat hlt, wrap_id (x := (n : Int) + 1) (by omega) (by omega)]
    have hi := ih (n + 1) (by omega)
    refine To.pos (by omega) (To.ite (fun h => ?_) (fun h => ?_))
    · have hne : ps.take n ≠ [] := by intro e; rw [e] at htl; simp at htl; omega
      rw [List.take_succ_eq_append_getElem hlt, joinB_snoc c hne] at hi
      refine To.pos (by omega) (To.pos (by omega) (To.pos (by rw [ByteArray.size_append]; omega) ?_))
      have e : (mkB (joinB c (ps.take n)) ++ b) ++ ps[n] = mkB (joinB c (ps.take n) ++ c :: L ps[n]) := by
        apply L_inj
        rw [L_append, L_append, L_mk, L_mk, hbc]
        simp
      rw [e]
      exact hi
    · have hn0 : n = 0 := by omega
      subst hn0
      rw [List.take_succ_eq_append_getElem hlt, List.take_zero, List.nil_append, joinB_one] at hi
      refine To.pos (by omega) (To.pos (by omega) ?_)
      have e : mkB (joinB c (ps.take 0)) ++ ps[0] = mkB (L ps[0]) := by
        apply L_inj
        rw [L_append, L_mk, L_mk]
        rfl
      rw [e]
      exact hi
theorem ref_join_to (b : ByteArray) (c : UInt8) (hbc : L b = [c]) (ps : List ByteArray) (hb : sizes ps + ps.length ≤ 1000000000) : To (fun k => pestleref41_Join.f k b ps) (joinS c ps) := by
  simp only [pestleref41_Join.f]
  exact ref_join_l0 b c hbc ps hb ps.length 0 (by omega)

end Go.Proofs.Ytoknoghdnedmhaa.FldR
