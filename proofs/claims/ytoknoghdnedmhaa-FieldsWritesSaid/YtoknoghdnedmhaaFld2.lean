/- Pairs: whether they may be, and which a text is. -/
import Derived.Test.YtoknoghdnedmhaaFld1
import Derived.Test.YtoknoghdnedmhaaPallx4
import Derived.Test.YtoknoghdnedmhaaPallx6
namespace Go.Proofs.Ytoknoghdnedmhaa.Fld2
open Go.RowKit Go.Proofs.Ytoknoghdnedmhaa.Pall Go.Proofs.YtoknoghdnedmhaaW.PrintWords Go.Proofs.YtoknoghdnedmhaaW.PrintLast Go.Proofs.Ytoknoghdnedmhaa.Lib Go.Proofs.Ytoknoghdnedmhaa.Byt Go.Proofs.Ytoknoghdnedmhaa.Dec1 Go.Proofs.Ytoknoghdnedmhaa.Dec2 Go.Proofs.Ytoknoghdnedmhaa.Dec3 Go.Proofs.Ytoknoghdnedmhaa.Spl Go.Proofs.Ytoknoghdnedmhaa.Fld1

/-- a pair -/
abbrev Pr := S24
theorem rdT_nat {l : List Pr} {n : Nat} (h : n < l.length) : rd_T24 l (n : Int) = l[n] := by
  unfold rd_T24
  simp [List.getD_eq_getElem?_getD, h]
def Val (n : Int) : Prop := 0 ≤ n ∧ n ≤ 4611686018427387904
instance (n : Int) : Decidable (Val n) := inferInstanceAs (Decidable (_ ∧ _))
def seen (l : List Pr) (a : ByteArray) : Bool := l.any fun q => decide (q.f0 = a)
/-- those ahead, those to come -/
def checkA : List Pr → List Pr → Int
  | _, [] => 0
  | prev, p :: l => if nameS p.f0 = true then (if Val p.f1 then (if seen prev p.f0 = true then 15 else checkA (prev ++ [p]) l) else 7) else 6
def checkS (l : List Pr) : Int := if l.length > 8 then 14 else checkA [] l
theorem check_l1 (l : List Pr) (hl : l.length ≤ 8) (n : Nat) (hn : n < l.length) (r : Int) (v : Int) (next : seen (l.take n) l[n].f0 = false → To (fun k => fields_Check.l0 k l l (l.length : Int) ((n : Int) + 1)) r) (dup : seen (l.take n) l[n].f0 = true → r = 15) (d : Nat) :
    ∀ m : Nat, m + d = n → seen (l.take m) l[n].f0 = false → To (fun k => fields_Check.l1 k l l (l.length : Int) (n : Int) (l.take n) (n : Int) (m : Int) l[n].f0 v) r := by
  induction d with
  | zero =>
    intro m hm hs
    obtain rfl : m = n := by omega
    refine To.step ?_
    simp only [fields_Check.l1]
    rw [wrap_id (x := (m : Int) + 1) (by omega) (by omega)]
    exact To.neg (by omega) (next hs)
  | succ d ih =>
    intro m hm hs
    have hml : m < l.length := by omega
    have hmt : m < (l.take n).length := by rw [List.length_take]; omega
    refine To.step ?_
    simp only [fields_Check.l1]
    rw [rdT_nat hmt, List.getElem_take, wrap_id (x := (m : Int) + 1) (by omega) (by omega)]
    have es : seen (l.take (m + 1)) l[n].f0 = (seen (l.take m) l[n].f0 || decide (l[m].f0 = l[n].f0)) := by
      unfold seen
      rw [List.take_succ_eq_append_getElem hml, List.any_append]
      simp
    refine To.pos (by omega) (To.pos (by omega) (To.pos (by omega) (To.ite (fun h => To.ret' ?_) (fun h => ?_))))
    · have e : l[m].f0 = l[n].f0 := L_inj (by rw [← toList_L, ← toList_L]; exact h)
      rw [dup]
      unfold seen
      rw [List.any_eq_true]
      refine ⟨l[m], ?_, decide_eq_true e⟩
      rw [List.mem_take_iff_getElem]
      exact ⟨m, by omega, rfl⟩
    · refine ih (m + 1) (by omega) ?_
      rw [es, hs, Bool.false_or, decide_eq_false_iff_not]
      intro e
      exact h (by rw [e])
theorem check_l0 (l : List Pr) (hl : l.length ≤ 8) (hsz : ∀ p ∈ l, p.f0.size ≤ 1000000) (d : Nat) : ∀ n : Nat, n + d = l.length →
    To (fun k => fields_Check.l0 k l l (l.length : Int) (n : Int)) (checkA (l.take n) (l.drop n)) := by
  induction d with
  | zero =>
    intro n hn
    refine To.step ?_
    simp only [fields_Check.l0]
    rw [List.drop_of_length_le (by omega)]
    exact To.neg (by omega) (To.ret _)
  | succ d ih =>
    intro n hn
    have hlt : n < l.length := by omega
    have hs := hsz _ (List.getElem_mem hlt)
    refine To.step ?_
    simp only [fields_Check.l0]
    rw [rdT_nat hlt, drop_cons hlt, checkA]
    refine To.pos (by omega) (To.pos (by omega) (To.pos (by omega) (To.bind (name_to _ hs) (To.ite (fun h1 => ?_) (fun h1 => ?_)))))
    · rw [if_pos h1]
      refine To.ite (fun h2 => To.ret' ?_) (fun h2 => To.ite (fun h3 => To.ret' ?_) (fun h3 => To.pos (by omega) (To.bind0 rfl ?_)))
      · rw [if_neg]; rintro ⟨_, _⟩; omega
      · rw [if_neg]; rintro ⟨_, _⟩; omega
      · have hv : Val l[n].f1 := ⟨by omega, by omega⟩
        rw [if_pos hv, Int.toNat_natCast]
        have hlen : ((l.take n).length : Int) = (n : Int) := by rw [List.length_take]; omega
        rw [hlen]
        refine check_l1 l hl n hlt _ _ ?_ ?_ n 0 (by omega) (by simp [seen])
        · intro hs
          rw [if_neg (by rw [hs]; decide)]
          have := ih (n + 1) (by omega)
          rw [List.take_succ_eq_append_getElem hlt] at this
          exact this
        · intro hs
          rw [if_pos hs]
    · rw [if_neg h1]; exact To.ret _
theorem check_to (l : List Pr) (hsz : ∀ p ∈ l, p.f0.size ≤ 1000000) : To (fun k => fields_Check.f k l) (checkS l) := by
  unfold checkS
  simp only [fields_Check.f]
  refine To.ite (fun h => To.ret' (by rw [if_pos (by omega)])) (fun h => ?_)
  rw [if_neg (by omega)]
  exact check_l0 l (by omega) hsz l.length 0 (by omega)
theorem ref_check_l1 (l : List Pr) (hl : l.length ≤ 8) (n : Nat) (hn : n < l.length) (r : Int) (next : seen (l.take n) l[n].f0 = false → To (fun k => pestleref41_Check.l0 k l ((n : Int) + 1)) r) (dup : seen (l.take n) l[n].f0 = true → r = 15) (d : Nat) :
    ∀ m : Nat, m + d = n → seen (l.take m) l[n].f0 = false → To (fun k => pestleref41_Check.l1 k l (n : Int) (m : Int)) r := by
  induction d with
  | zero =>
    intro m hm hs
    obtain rfl : m = n := by omega
    refine To.step ?_
    simp only [pestleref41_Check.l1]
    rw [wrap_id (x := (m : Int) + 1) (by omega) (by omega)]
    exact To.neg (by omega) (next hs)
  | succ d ih =>
    intro m hm hs
    have hml : m < l.length := by omega
    refine To.step ?_
    simp only [pestleref41_Check.l1]
    rw [rdT_nat hml, rdT_nat hn, wrap_id (x := (m : Int) + 1) (by omega) (by omega)]
    have es : seen (l.take (m + 1)) l[n].f0 = (seen (l.take m) l[n].f0 || decide (l[m].f0 = l[n].f0)) := by
      unfold seen
      rw [List.take_succ_eq_append_getElem hml, List.any_append]
      simp
    refine To.pos (by omega) (To.pos (by omega) (To.pos (by omega) (To.pos (by omega) (To.pos (by omega) (To.ite (fun h => To.ret' ?_) (fun h => ?_))))))
    · have e : l[m].f0 = l[n].f0 := L_inj (by rw [← toList_L, ← toList_L]; exact h)
      rw [dup]
      unfold seen
      rw [List.any_eq_true]
      refine ⟨l[m], ?_, decide_eq_true e⟩
      rw [List.mem_take_iff_getElem]
      exact ⟨m, by omega, rfl⟩
    · refine ih (m + 1) (by omega) ?_
      rw [es, hs, Bool.false_or, decide_eq_false_iff_not]
      intro e
      exact h (by rw [e])
theorem ref_check_l0 (l : List Pr) (hl : l.length ≤ 8) (hsz : ∀ p ∈ l, p.f0.size ≤ 1000000) (d : Nat) : ∀ n : Nat, n + d = l.length →
    To (fun k => pestleref41_Check.l0 k l (n : Int)) (checkA (l.take n) (l.drop n)) := by
  induction d with
  | zero =>
    intro n hn
    refine To.step ?_
    simp only [pestleref41_Check.l0]
    rw [List.drop_of_length_le (by omega)]
    exact To.neg (by omega) (To.ret _)
  | succ d ih =>
    intro n hn
    have hlt : n < l.length := by omega
    have hs := hsz _ (List.getElem_mem hlt)
    refine To.step ?_
    simp only [pestleref41_Check.l0]
    rw [rdT_nat hlt, drop_cons hlt, checkA]
    refine To.pos (by omega) (To.pos (by omega) (To.bind (ref_name_to _ hs) (To.ite (fun h1 => ?_) (fun h1 => ?_))))
    · rw [if_pos h1]
      refine To.ite (fun h2 => To.step ?_) (fun h2 => To.step ?_)
      · simp only [pestleref41_Check.j1]
        refine To.pos trivial (To.ret' ?_)
        rw [if_neg]; rintro ⟨_, _⟩; omega
      · simp only [pestleref41_Check.j1]
        by_cases h3 : l[n].f1 > 4611686018427387904
        · refine To.pos (decide_eq_true h3) (To.ret' ?_)
          rw [if_neg]; rintro ⟨_, _⟩; omega
        · refine To.neg (by simpa using h3) ?_
          have hv : Val l[n].f1 := ⟨by omega, by omega⟩
          rw [if_pos hv]
          refine ref_check_l1 l hl n hlt _ ?_ ?_ n 0 (by omega) (by simp [seen])
          · intro hs
            rw [if_neg (by rw [hs]; decide)]
            have := ih (n + 1) (by omega)
            rw [List.take_succ_eq_append_getElem hlt] at this
            exact this
          · intro hs
            rw [if_pos hs]
    · rw [if_neg h1]; exact To.ret _
theorem ref_check_to (l : List Pr) (hsz : ∀ p ∈ l, p.f0.size ≤ 1000000) : To (fun k => pestleref41_Check.f k l) (checkS l) := by
  unfold checkS
  simp only [pestleref41_Check.f]
  refine To.ite (fun h => To.ret' (by rw [if_pos (by omega)])) (fun h => ?_)
  rw [if_neg (by omega)]
  exact ref_check_l0 l (by omega) hsz l.length 0 (by omega)

/-! ### pairs -/
def pairsE (acc : List Pr) : List Pr × Int := if checkS acc = 0 then (acc, 0) else ([], checkS acc)
def pairsA : List Pr → List ByteArray → List Pr × Int
  | acc, [] => pairsE acc
  | acc, p :: ps => if (pairS p).2.2 = 0 then pairsA (acc ++ [⟨(pairS p).1, (pairS p).2.1⟩]) ps else ([], (pairS p).2.2)
def pairsS (s : ByteArray) : List Pr × Int := pairsA [] (parts 44 s)
theorem pairS_size (p : ByteArray) : (pairS p).1.size ≤ p.size := by
  by_cases h : (parts 61 p).length = 2
  · obtain ⟨a, b, e⟩ := two_parts h
    have ha := parts_size 61 p a (by rw [e]; simp)
    rw [pair_two e]
    split
    · split
      · exact ha
      · exact Nat.zero_le _
    · exact Nat.zero_le _
  · rw [pair_not h]; exact Nat.zero_le _
theorem pairs_l0 (ps : List ByteArray) (hps : ps.length ≤ 2000000) (hsz : ∀ p ∈ ps, p.size ≤ 1000000) (d : Nat) : ∀ (n : Nat) (acc : List Pr), n + d = ps.length → acc.length ≤ n → (∀ p ∈ acc, p.f0.size ≤ 1000000) →
    To (fun k => fields_Pairs.l0 k acc ps (ps.length : Int) (n : Int)) (pairsA acc (ps.drop n)) := by
  induction d with
  | zero =>
    intro n acc hn ha hz
    refine To.step ?_
    simp only [fields_Pairs.l0]
    rw [List.drop_of_length_le (by omega)]
    refine To.neg (by omega) (To.bind (check_to acc hz) ?_)
    show To _ (pairsE acc)
    unfold pairsE
    refine To.ite (fun h => ?_) (fun h => ?_)
    · rw [if_pos h]; exact To.ret _
    · rw [if_neg h]; exact To.ret _
  | succ d ih =>
    intro n acc hn ha hz
    have hlt : n < ps.length := by omega
    have hs := hsz _ (List.getElem_mem hlt)
    refine To.step ?_
    simp only [fields_Pairs.l0]
    rw [rdOf_nat hlt, drop_cons hlt, pairsA, wrap_id (x := (n : Int) + 1) (by omega) (by omega)]
    refine To.pos (by omega) (To.pos (by omega) (To.pos (by omega) (To.bind (pair_to _ hs) ?_)))
    by_cases h : (pairS ps[n]).2.2 = 0
    · rw [if_pos h]
      refine To.pos h (To.pos (by omega) ?_)
      refine ih (n + 1) _ (by omega) (by simp; omega) ?_
      intro p hp
      rw [List.mem_append, List.mem_singleton] at hp
      rcases hp with hp | rfl
      · exact hz p hp
      · exact Nat.le_trans (pairS_size _) hs
    · rw [if_neg h]
      exact To.neg h (To.ret _)
theorem pairs_to (s : ByteArray) (hs : s.size ≤ 1000000) : To (fun k => fields_Pairs.f k s) (pairsS s) := by
  simp only [fields_Pairs.f]
  refine To.bind (split_to 44 s hs) ?_
  exact pairs_l0 (parts 44 s) (by have := parts_len 44 s; omega) (fun p hp => by have := parts_size 44 s p hp; omega) (parts 44 s).length 0 [] (by omega) (by simp) (by simp)
theorem ref_pairs_l0 (ps : List ByteArray) (hps : ps.length ≤ 2000000) (hsz : ∀ p ∈ ps, p.size ≤ 1000000) (d : Nat) : ∀ (n : Nat) (acc : List Pr), n + d = ps.length → acc.length ≤ n → (∀ p ∈ acc, p.f0.size ≤ 1000000) →
    To (fun k => pestleref41_Pairs.l0 k acc ps (n : Int)) (pairsA acc (ps.drop n)) := by
  induction d with
  | zero =>
    intro n acc hn ha hz
    refine To.step ?_
    simp only [pestleref41_Pairs.l0]
    rw [List.drop_of_length_le (by omega)]
    refine To.neg (by omega) (To.bind (ref_check_to acc hz) ?_)
    show To _ (pairsE acc)
    unfold pairsE
    refine To.ite (fun h => ?_) (fun h => ?_)
    · rw [if_pos h]; exact To.ret _
    · rw [if_neg h]; exact To.ret _
  | succ d ih =>
    intro n acc hn ha hz
    have hlt : n < ps.length := by omega
    have hs := hsz _ (List.getElem_mem hlt)
    refine To.step ?_
    simp only [pestleref41_Pairs.l0]
    rw [rdOf_nat hlt, drop_cons hlt, pairsA, wrap_id (x := (n : Int) + 1) (by omega) (by omega)]
    refine To.pos (by omega) (To.pos (by omega) (To.bind (ref_pair_to _ hs) ?_))
    by_cases h : (pairS ps[n]).2.2 = 0
    · rw [if_pos h]
      refine To.pos h (To.pos (by omega) ?_)
      refine ih (n + 1) _ (by omega) (by simp; omega) ?_
      intro p hp
      rw [List.mem_append, List.mem_singleton] at hp
      rcases hp with hp | rfl
      · exact hz p hp
      · exact Nat.le_trans (pairS_size _) hs
    · rw [if_neg h]
      exact To.neg h (To.ret _)
theorem ref_pairs_to (s : ByteArray) (hs : s.size ≤ 1000000) : To (fun k => pestleref41_Pairs.f k s) (pairsS s) := by
  simp only [pestleref41_Pairs.f]
  refine To.bind (ref_split_to 44 s hs) ?_
  exact ref_pairs_l0 (parts 44 s) (by have := parts_len 44 s; omega) (fun p hp => by have := parts_size 44 s p hp; omega) (parts 44 s).length 0 [] (by omega) (by simp) (by simp)
theorem same_l0 (l : List Pr) (hl : l.length ≤ 2000000) (d : Nat) : ∀ n : Nat, n + d = l.length → To (fun k => pestleref41_Same.l0 k l l (n : Int)) true := by
  induction d with
  | zero =>
    intro n hn
    refine To.step ?_
    simp only [pestleref41_Same.l0]
    exact To.neg (by omega) (To.ret _)
  | succ d ih =>
    intro n hn
    refine To.step ?_
    simp only [pestleref41_Same.l0]
    rw [wrap_id (x := (n : Int) + 1) (by omega) (by omega)]
    exact To.pos (by omega) (To.pos (by omega) (To.pos (by omega) (To.neg (by simp) (ih (n + 1) (by omega)))))
theorem same_to (l : List Pr) (hl : l.length ≤ 2000000) : To (fun k => pestleref41_Same.f k l l) true := by
  simp only [pestleref41_Same.f]
  exact To.pos trivial (same_l0 l hl l.length 0 (by omega))
theorem pairsA_len (ps : List ByteArray) : ∀ acc, (pairsA acc ps).1.length ≤ acc.length + ps.length := by
  induction ps with
  | nil =>
    intro acc
    show (pairsE acc).1.length ≤ _
    unfold pairsE
    split <;> simp
  | cons p ps ih =>
    intro acc
    rw [pairsA]
    split
    · have := ih (acc ++ [⟨(pairS p).1, (pairS p).2.1⟩])
      simp only [List.length_append, List.length_cons, List.length_nil] at this ⊢
      omega
    · simp
end Go.Proofs.Ytoknoghdnedmhaa.Fld2
