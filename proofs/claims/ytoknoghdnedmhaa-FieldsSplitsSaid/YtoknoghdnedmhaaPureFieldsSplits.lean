/- For every text, byte and list of parts: a text is split as the document says and joined again as it was; what is joined is split again, if no part has the byte.
   Conditions: the byte is a byte, the arguments are such as Go can hold in memory (as the row says); nothing else. -/
import Derived.Test.YtoknoghdnedmhaaStFieldsSplits
import Derived.Test.YtoknoghdnedmhaaFld3
import Derived.Test.YtoknoghdnedmhaaPallx8
import Derived.Test.YtoknoghdnedmhaaPallx4
namespace Go.Proofs.Ytoknoghdnedmhaa.Pure
open Go.RowKit Go.Proofs.Ytoknoghdnedmhaa.Pall Go.Proofs.YtoknoghdnedmhaaW.PrintWords Go.Proofs.YtoknoghdnedmhaaW.PrintLast Go.Proofs.Ytoknoghdnedmhaa.Lib Go.Proofs.Ytoknoghdnedmhaa.Byt Go.Proofs.Ytoknoghdnedmhaa.Spl Go.Proofs.Ytoknoghdnedmhaa.Fld1 Go.Proofs.Ytoknoghdnedmhaa.Fld3

theorem awake41s_to : To (fun k => pestlelaw41_awake.f k) true := To.up (fun k => pestlelaw41_awake.mono k) (k := 60) (by decide +kernel)
theorem splits_l2 (ps : List ByteArray) (hp : ps.length ≤ 50) (d : Nat) : ∀ n : Nat, n + d = ps.length → To (fun k => pestlelaw41_FieldsSplits.l2 k ps ps (ps.length : Int) (n : Int)) true := by
  induction d with
  | zero =>
    intro n hn
    refine To.step ?_
    simp only [pestlelaw41_FieldsSplits.l2]
    exact To.neg (by omega) (To.ret _)
  | succ d ih =>
    intro n hn
    refine To.step ?_
    simp only [pestlelaw41_FieldsSplits.l2]
    rw [wrap_id (x := (n : Int) + 1) (by omega) (by omega)]
    exact To.pos (by omega) (To.pos (by omega) (To.pos (by omega) (To.pos (by omega) (To.pos trivial (ih (n + 1) (by omega))))))
theorem splits_end (c : UInt8) (ps : List ByteArray) (hp : ps.length ≤ 50) (hs : ∀ p ∈ ps, p.size ≤ 100 ∧ c ∉ L p) :
    To (fun k => (fields_Join.f k (c.toNat : Int) ps).bind fun t232 => ((fields_Split.f k t232 (c.toNat : Int)).bind fun t233 => (if (ps.length : Int) = 0 then (if (t233.length : Int) = 1 then (if 0 < (t233.length : Int) then (some ((rdOf ByteArray.empty t233 0).toList == ([] : List UInt8))) else (none)) else (some false)) else (if (t233.length : Int) = (ps.length : Int) then (pestlelaw41_FieldsSplits.l2 k ps t233 (ps.length : Int) 0) else (some false))))) true := by
  have hsz := sizes_le (l := ps) (m := 100) (fun p h => (hs p h).1)
  have hjl := joinB_len c ps
  have hjs : (joinS c ps).size ≤ 1000000 := by unfold joinS; rw [size_L, L_mk]; omega
  refine To.bind (join_to c ps (by omega)) (To.bind (split_to c _ hjs) ?_)
  refine To.ite (fun h => ?_) (fun h => ?_)
  · have e : ps = [] := List.length_eq_zero_iff.1 (by omega)
    subst e
    have e2 : parts c (joinS c []) = [⟨#[]⟩] := rfl
    rw [e2]
    exact To.pos rfl (To.pos (by decide) (To.ret' (by decide +kernel)))
  · rw [parts_join c ps (fun e => by rw [e] at h; exact h rfl) (fun p hp => (hs p hp).2)]
    exact To.pos rfl (splits_l2 ps hp ps.length 0 (by omega))
theorem splits_l1 (c : UInt8) (ps : List ByteArray) (hp : ps.length ≤ 50) (d : Nat) : ∀ n : Nat, n + d = ps.length → (∀ p ∈ ps.take n, p.size ≤ 100 ∧ c ∉ L p) →
    To (fun k => pestlelaw41_FieldsSplits.l1 k (c.toNat : Int) ps ps (ps.length : Int) (n : Int)) true := by
  induction d with
  | zero =>
    intro n hn ht
    rw [List.take_of_length_le (by omega)] at ht
    refine To.step ?_
    simp only [pestlelaw41_FieldsSplits.l1]
    exact To.neg (by omega) (splits_end c ps hp ht)
  | succ d ih =>
    intro n hn ht
    have hlt : n < ps.length := by omega
    refine To.step ?_
    simp only [pestlelaw41_FieldsSplits.l1]
    rw [rdOf_nat hlt, wrap_id (x := (n : Int) + 1) (by omega) (by omega)]
    refine To.pos (by omega) (To.pos (by omega) (To.pos (by omega) (To.ite (fun _ => To.ret _) (fun h => To.bind (ref_split_to c _ (by omega)) (To.ite (fun _ => To.ret _) (fun h1 => ?_))))))
    refine ih (n + 1) (by omega) ?_
    intro p hp'
    rw [List.take_succ_eq_append_getElem hlt, List.mem_append, List.mem_singleton] at hp'
    rcases hp' with h' | rfl
    · exact ht p h'
    · exact ⟨by omega, parts_many c _ (by omega)⟩
theorem splits_l0 (c : UInt8) (ps l : List ByteArray) (hp : ps.length ≤ 50) (hl : l.length ≤ 1000) (d : Nat) : ∀ n : Nat, n + d = l.length →
    To (fun k => pestlelaw41_FieldsSplits.l0 k (c.toNat : Int) ps l l (l.length : Int) (n : Int)) true := by
  induction d with
  | zero =>
    intro n hn
    refine To.step ?_
    simp only [pestlelaw41_FieldsSplits.l0]
    exact To.neg (by omega) (splits_l1 c ps hp ps.length 0 (by omega) (by simp))
  | succ d ih =>
    intro n hn
    refine To.step ?_
    simp only [pestlelaw41_FieldsSplits.l0]
    rw [wrap_id (x := (n : Int) + 1) (by omega) (by omega)]
    exact To.pos (by omega) (To.pos (by omega) (To.pos (by omega) (To.pos (by omega) (To.pos trivial (ih (n + 1) (by omega))))))
theorem sizes_parts (c : UInt8) (s : ByteArray) : sizes (parts c s) ≤ s.size := by
  unfold parts
  rw [size_L]
  have : ∀ (l cur : List UInt8), sizes ((splitA c cur l).map mkB) ≤ cur.length + l.length := by
    intro l
    induction l with
    | nil => intro cur; simp only [splitA, List.map_cons, List.map_nil, sizes, size_L, L_mk]; omega
    | cons x l ih =>
      intro cur
      simp only [splitA]
      split
      · have := ih []; simp only [List.map_cons, sizes, size_L, L_mk, List.length_cons, List.length_nil] at this ⊢; omega
      · have := ih (cur ++ [x]); simp only [List.length_append, List.length_cons, List.length_nil] at this ⊢; omega
  have := this (L s) []
  simpa [splitL] using this
theorem FieldsSplits : St.FieldsSplits_Pure := by
  intro s b ps hs hb hps
  obtain ⟨c, rfl⟩ : ∃ c : UInt8, b = (c.toNat : Int) := by
    have hb' : (Lit.int .u8 b).wf = true := hb
    simp [Lit.wf, IntKind.min, IntKind.max, IntKind.signed, IntKind.bits] at hb'
    exact ⟨UInt8.ofNat b.toNat, by rw [u8_of (by omega)]; omega⟩
  refine To.ends ?_
  simp only [pestlelaw41_FieldsSplits.f]
  refine To.bind awake41s_to (To.pos rfl (To.ite (fun _ => To.step ?_) (fun h => To.step ?_)))
  · simp only [pestlelaw41_FieldsSplits.j0]
    exact To.pos trivial (To.ret _)
  simp only [pestlelaw41_FieldsSplits.j0]
  refine To.ite (fun _ => To.ret _) (fun h1 => ?_)
  have hp : ps.length ≤ 50 := by
    have : ¬ ((ps.length : Int) > 50) := by simpa using h1
    omega
  have hsz := sizes_parts c s
  have hpl := parts_len c s
  refine To.bind (split_to c s (by omega)) (To.bind (ref_split_to c s (by omega)) (To.pos rfl (To.bind (join_to c _ (by omega)) (To.step ?_))))
  simp only [pestlelaw41_FieldsSplits.j1]
  rw [join_parts]
  exact To.neg (by simp) (splits_l0 c ps (parts c s) hp (by omega) (parts c s).length 0 (by omega))
end Go.Proofs.Ytoknoghdnedmhaa.Pure
