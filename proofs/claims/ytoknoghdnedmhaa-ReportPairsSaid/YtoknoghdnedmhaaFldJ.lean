/- Texts joined by a byte, by the program's way and by the reference's. -/
import Derived.Test.YtoknoghdnedmhaaFldS
import Derived.Test.YtoknoghdnedmhaaPallx2
namespace Go.Proofs.Ytoknoghdnedmhaa.FldJ
open Go.RowKit Go.Proofs.Ytoknoghdnedmhaa.Pall Go.Proofs.YtoknoghdnedmhaaW.PrintWords Go.Proofs.YtoknoghdnedmhaaW.PrintLast Go.Proofs.Ytoknoghdnedmhaa.Lib Go.Proofs.Ytoknoghdnedmhaa.Byt Go.Proofs.Ytoknoghdnedmhaa.Spl Go.Proofs.Ytoknoghdnedmhaa.FldS

def joinB (c : UInt8) (ps : List ByteArray) : List UInt8 := joinL c (ps.map L)
def joinS (c : UInt8) (ps : List ByteArray) : ByteArray := mkB (joinB c ps)
def sizes : List ByteArray → Nat
  | [] => 0
  | p :: l => p.size + sizes l
theorem sizes_append (a b : List ByteArray) : sizes (a ++ b) = sizes a + sizes b := by
  induction a with
  | nil => simp [sizes]
  | cons x a ih => simp only [List.cons_append, sizes, ih]; omega
theorem sizes_take (a : List ByteArray) (n : Nat) : sizes (a.take n) ≤ sizes a := by
  have : sizes a = sizes (a.take n) + sizes (a.drop n) := by rw [← sizes_append, List.take_append_drop]
  omega
theorem sizes_le {l : List ByteArray} {m : Nat} (h : ∀ p ∈ l, p.size ≤ m) : sizes l ≤ l.length * m := by
  induction l with
  | nil => exact Nat.zero_le _
  | cons p l ih =>
    have h1 := h p (by simp)
    have h2 := ih (fun q hq => h q (by simp [hq]))
    simp only [sizes, List.length_cons, Nat.succ_mul]
    omega
theorem joinB_len (c : UInt8) (ps : List ByteArray) : (joinB c ps).length ≤ sizes ps + ps.length := by
  unfold joinB
  induction ps with
  | nil => simp [joinL]
  | cons p ps ih =>
    have hp : p.size = (L p).length := size_L p
    cases ps with
    | nil =>
      show (L p).length ≤ sizes [p] + 1
      simp only [sizes]; omega
    | cons q qs =>
      rw [List.map_cons, joinL_cons c (L p) (by simp)]
      simp only [List.length_append, List.length_cons, sizes] at ih ⊢
      omega
theorem joinB_snoc (c : UInt8) {ps : List ByteArray} (h : ps ≠ []) (p : ByteArray) : joinB c (ps ++ [p]) = joinB c ps ++ c :: L p := by
  unfold joinB
  induction ps with
  | nil => exact absurd rfl h
  | cons q qs ih =>
    by_cases hq : qs = []
    · subst hq; rfl
    · rw [List.cons_append, List.map_cons, List.map_cons, joinL_cons c (L q) (by simp), joinL_cons c (L q) (by simp [hq]), ih hq]
      simp
theorem joinB_one (c : UInt8) (p : ByteArray) : joinB c [p] = L p := rfl
theorem join_l0 (c : UInt8) (ps : List ByteArray) (hb : sizes ps + ps.length ≤ 1000000000) (d : Nat) : ∀ n : Nat, n + d = ps.length →
    To (fun k => fields_Join.l0 k (c.toNat : Int) (U (joinB c (ps.take n))) ps (ps.length : Int) (n : Int)) (joinS c ps) := by
  induction d with
  | zero =>
    intro n hn
    refine To.step ?_
    simp only [fields_Join.l0]
    rw [List.take_of_length_le (by omega), str_U]
    exact To.neg (by omega) (To.ret _)
  | succ d ih =>
    intro n hn
    have hlt : n < ps.length := by omega
    have hl := joinB_len c (ps.take n)
    have hst := sizes_take ps (n + 1)
    have hss : sizes (ps.take (n + 1)) = sizes (ps.take n) + ps[n].size := by rw [List.take_succ_eq_append_getElem hlt, sizes_append]; simp [sizes]
    have htl : (ps.take n).length = n := by rw [List.length_take]; omega
    refine To.step ?_
    simp only [fields_Join.l0]
    rw [rdOf_nat hlt, wrap_id (x := (n : Int) + 1) (by omega) (by omega)]
    have hi := ih (n + 1) (by omega)
    refine To.pos (by omega) (To.pos (by omega) (To.pos (by omega) (To.ite (fun h => ?_) (fun h => ?_))))
    · have hne : ps.take n ≠ [] := by intro e; rw [e] at htl; simp at htl; omega
      rw [List.take_succ_eq_append_getElem hlt, joinB_snoc c hne, U_append] at hi
      refine To.pos (by rw [U_length]; omega) (To.bind0 rfl (To.pos ?_ ?_))
      · rw [List.length_append, U_length]
        show _ + 1 + _ < _
        omega
      · have e : (U (joinB c (ps.take n)) ++ [(c.toNat : Int)]) ++ bytesOf ps[n] = U (joinB c (ps.take n)) ++ U (c :: L ps[n]) := by
          rw [List.append_assoc]; rfl
        rw [e]
        exact hi
    · have hn0 : n = 0 := by omega
      subst hn0
      rw [List.take_succ_eq_append_getElem hlt, List.take_zero, List.nil_append, joinB_one] at hi
      refine To.pos ?_ ?_
      · rw [U_length, List.take_zero]
        show 0 + _ < _
        omega
      · rw [List.take_zero]
        exact hi
theorem join_to (c : UInt8) (ps : List ByteArray) (hb : sizes ps + ps.length ≤ 1000000000) : To (fun k => fields_Join.f k (c.toNat : Int) ps) (joinS c ps) := by
  simp only [fields_Join.f]
  exact join_l0 c ps hb ps.length 0 (by omega)
theorem join_parts (c : UInt8) (s : ByteArray) : joinS c (parts c s) = s := by
  apply L_inj
  unfold joinS joinB parts
  rw [L_mk, List.map_map]
  have : (L ∘ mkB) = id := by funext x; rfl
  rw [this, List.map_id]
  unfold splitL
  rw [join_split, List.nil_append]
/-- what is joined is split again -/
theorem parts_join (c : UInt8) (ps : List ByteArray) (hne : ps ≠ []) (h : ∀ p ∈ ps, c ∉ L p) : parts c (joinS c ps) = ps := by
  unfold parts joinS joinB
  rw [L_mk, split_join c _ (by simp [hne]) ?_, List.map_map]
  · have : (mkB ∘ L) = id := by funext x; exact mk_L x
    rw [this, List.map_id]
  · intro q hq
    rw [List.mem_map] at hq
    obtain ⟨p, hp, rfl⟩ := hq
    exact h p hp
/-- a text without the byte is its own only part -/
theorem parts_none (c : UInt8) (s : ByteArray) (h : c ∉ L s) : parts c s = [s] := by
  have := parts_join c [s] (by simp) (by simpa using h)
  have e : joinS c [s] = s := by apply L_inj; unfold joinS; rw [L_mk, joinB_one]
  rwa [e] at this
theorem parts_many (c : UInt8) (s : ByteArray) (h : (parts c s).length ≤ 1) : c ∉ L s := by
  intro hc
  have hj := join_parts c s
  match e : parts c s, h with
  | [], _ => exact absurd (List.map_eq_nil_iff.1 e) (splitA_ne c [] (L s))
  | [p], _ =>
    rw [e] at hj
    have : L s = L p := by rw [← hj]; unfold joinS; rw [L_mk, joinB_one]
    have hm : p ∈ parts c s := by rw [e]; simp
    unfold parts at hm
    rw [List.mem_map] at hm
    obtain ⟨q, hq, rfl⟩ := hm
    rw [this, L_mk] at hc
    exact split_none c [] (L s) (by simp) q hq hc
end Go.Proofs.Ytoknoghdnedmhaa.FldJ
