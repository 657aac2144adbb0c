/- For all calls and every text: each call is written as the document says, or it is told why not; what is written is read again, line by line and together, and what is read is written just so.
   Conditions: the arguments are such as memory holds (as the row says), within the statement's own guards; nothing else. -/
import Derived.Test.YtoknoghdnedmhaaStLineWrites
import Derived.Test.YtoknoghdnedmhaaLine3
import Derived.Test.YtoknoghdnedmhaaPallx11
import Derived.Test.YtoknoghdnedmhaaPallx5
import Derived.Test.YtoknoghdnedmhaaPallx10
namespace Go.Proofs.Ytoknoghdnedmhaa.Pure
open Go.RowKit Go.Proofs.Ytoknoghdnedmhaa.Pall Go.Proofs.YtoknoghdnedmhaaW.PrintWords Go.Proofs.YtoknoghdnedmhaaW.PrintLast Go.Proofs.Ytoknoghdnedmhaa.Lib Go.Proofs.Ytoknoghdnedmhaa.Byt Go.Proofs.Ytoknoghdnedmhaa.Spl Go.Proofs.Ytoknoghdnedmhaa.Hex1 Go.Proofs.Ytoknoghdnedmhaa.Line1 Go.Proofs.Ytoknoghdnedmhaa.Line2 Go.Proofs.Ytoknoghdnedmhaa.Line3 Go.Proofs.Ytoknoghdnedmhaa.FldJ
open Go.Proofs.Ytoknoghdnedmhaa.FldS (parts parts_size)
open Go.Proofs.Ytoknoghdnedmhaa.Hex2 (dashS)

theorem awake53w_to : To (fun k => pestlelaw53_awake.f k) true := To.up (fun k => pestlelaw53_awake.mono k) (k := 60) (by decide +kernel)
def lineB (c : Cl) : List UInt8 := L (lineS c).1 ++ [10]
def textOf : List Cl → List UInt8
  | [] => []
  | c :: l => lineB c ++ textOf l
def firstWhy : List Cl → Int
  | [] => 0
  | c :: l => if (lineS c).2 = 0 then firstWhy l else (lineS c).2
theorem textOf_snoc (l : List Cl) (c : Cl) : textOf (l ++ [c]) = textOf l ++ lineB c := by
  induction l with
  | nil => simp [textOf]
  | cons a l ih => rw [List.cons_append, textOf, ih, textOf, List.append_assoc]
theorem firstWhy_snoc (l : List Cl) (c : Cl) : firstWhy (l ++ [c]) = if firstWhy l = 0 then (lineS c).2 else firstWhy l := by
  induction l with
  | nil =>
    show (if (lineS c).2 = 0 then (0 : Int) else (lineS c).2) = _
    rw [show firstWhy [] = 0 from rfl, if_pos rfl]
    by_cases h : (lineS c).2 = 0
    · rw [if_pos h, h]
    · rw [if_neg h]
  | cons a l ih =>
    rw [List.cons_append, firstWhy, ih, firstWhy]
    by_cases h : (lineS a).2 = 0
    · rw [if_pos h, if_pos h]
    · rw [if_neg h, if_neg h, if_neg h]
theorem firstWhy_zero : ∀ l : List Cl, firstWhy l = 0 → ∀ c ∈ l, (lineS c).2 = 0
  | [], _, c, hc => by cases hc
  | a :: l, h, c, hc => by
    rw [firstWhy] at h
    by_cases e : (lineS a).2 = 0
    · rw [if_pos e] at h
      rcases List.mem_cons.mp hc with rfl | hc
      · exact e
      · exact firstWhy_zero l h c hc
    · rw [if_neg e] at h; exact absurd h e
def Small (c : Cl) : Prop := c.f1.size ≤ 300 ∧ c.f2.size ≤ 300
theorem joinS_size (ps : List ByteArray) : (joinS 32 ps).size ≤ sizes ps + ps.length := by
  rw [size_L]; exact joinB_len 32 ps
theorem lineS_size {c : Cl} (h : Small c) : (lineS c).1.size ≤ 1000 := by
  obtain ⟨f0, f1, f2⟩ := c
  obtain ⟨h1, h2⟩ := h
  change f1.size ≤ _ at h1
  change f2.size ≤ _ at h2
  have hd := dash_sz f1
  have hw : eB.size = 0 := rfl
  unfold lineS
  split
  · split
    · have := joinS_size [hashB, dashS f1]
      rw [sizes2, hashB_size] at this
      simp only [List.length_cons, List.length_nil] at this
      show (joinS 32 [hashB, dashS f1]).size ≤ _; omega
    · show eB.size ≤ _; omega
  · split
    · split
      · have := joinS_size [verB, dashS f1, f2]
        rw [sizes3, verB_size] at this
        simp only [List.length_cons, List.length_nil] at this
        show (joinS 32 [verB, dashS f1, f2]).size ≤ _; omega
      · show eB.size ≤ _; omega
    · split
      · split
        · split
          · have := joinS_size [staB, f2]
            rw [sizes2, staB_size] at this
            simp only [List.length_cons, List.length_nil] at this
            show (joinS 32 [staB, f2]).size ≤ _; omega
          · show eB.size ≤ _; omega
        · show eB.size ≤ _; omega
      · show eB.size ≤ _; omega
theorem textOf_len : ∀ l : List Cl, (∀ c ∈ l, Small c) → (textOf l).length ≤ l.length * 1001
  | [], _ => Nat.zero_le _
  | a :: l, h => by
    have := textOf_len l fun c hc => h c (List.mem_cons_of_mem _ hc)
    have := lineS_size (h a (List.mem_cons_self ..))
    rw [size_L] at this
    rw [textOf, List.length_append, lineB, List.length_append, List.length_singleton, List.length_cons, Nat.succ_mul]
    omega
theorem small_to {c : Cl} (h : Small c) : c.f1.size ≤ 1000000 ∧ c.f2.size ≤ 1000000 := ⟨Nat.le_trans h.1 (by decide), Nat.le_trans h.2 (by decide)⟩
def linesS (l : List Cl) : ByteArray × Int := if firstWhy l = 0 then (mkB (textOf l), 0) else (eB, firstWhy l)
theorem take_of {α : Type} {p : α → Prop} {l : List α} (h : ∀ c ∈ l, p c) (n : Nat) : ∀ c ∈ l.take n, p c := fun c hc => h c (List.mem_of_mem_take hc)
theorem firstWhy_app (l m : List Cl) (h : firstWhy l ≠ 0) : firstWhy (l ++ m) = firstWhy l := by
  induction l with
  | nil => exact absurd rfl h
  | cons a l ih =>
    rw [List.cons_append, firstWhy, firstWhy]
    rw [firstWhy] at h
    by_cases e : (lineS a).2 = 0
    · rw [if_pos e] at h ⊢; rw [if_pos e]; exact ih h
    · rw [if_neg e, if_neg e]
theorem lines_l0 (l : List Cl) (hl : l.length ≤ 20) (hs : ∀ c ∈ l, Small c) (d : Nat) : ∀ n : Nat, n + d = l.length → firstWhy (l.take n) = 0 →
    To (fun k => line_Lines.l0 k (U (textOf (l.take n))) l (l.length : Int) (n : Int)) (linesS l) := by
  induction d with
  | zero =>
    intro n hn hw
    refine To.step ?_
    simp only [line_Lines.l0]
    rw [List.take_of_length_le (l := l) (by omega)] at hw ⊢
    refine To.neg (by omega) (To.ret' ?_)
    rw [linesS, if_pos hw, str_U]
  | succ d ih =>
    intro n hn hw
    have hlt : n < l.length := by omega
    refine To.step ?_
    simp only [line_Lines.l0]
    have hc := hs _ (List.getElem_mem hlt)
    have ht := textOf_len (l.take n) (take_of hs n)
    have hz := lineS_size hc
    rw [List.length_take] at ht
    have htk : l.take (n + 1) = l.take n ++ [l[n]] := List.take_succ_eq_append_getElem hlt
    rw [rdT_nat hlt, wrap_id (x := (n : Int) + 1) (by omega) (by omega)]
    refine To.pos (by omega) (To.pos (by omega) (To.pos (by omega) (To.bind (line_to l[n] (small_to hc).1 (small_to hc).2) ?_)))
    by_cases e : (lineS l[n]).2 = 0
    · refine To.pos e (To.pos (by rw [U_length]; omega) (To.bind0 rfl (To.pos (by rw [List.length_append, U_length, bytesOf_length]; omega) ?_)))
      have := ih (n + 1) (by omega) (by rw [htk, firstWhy_snoc, if_pos hw, e])
      have eb : bytesOf (lineS l[n]).1 = U (L (lineS l[n]).1) := rfl
      rw [htk, textOf_snoc, lineB, U_append, U_append] at this
      rw [eb, List.append_assoc]
      exact this
    · refine To.neg e (To.ret' ?_)
      have hall : firstWhy l = (lineS l[n]).2 := by
        have hne : firstWhy (l.take (n + 1)) = (lineS l[n]).2 := by rw [htk, firstWhy_snoc, if_pos hw]
        have h2 := firstWhy_app (l.take (n + 1)) (l.drop (n + 1)) (by rw [hne]; exact e)
        rw [List.take_append_drop] at h2
        rw [h2, hne]
      rw [linesS, if_neg (by rw [hall]; exact e), hall]; rfl
theorem lines_to (l : List Cl) (hl : l.length ≤ 20) (hs : ∀ c ∈ l, Small c) : To (fun k => line_Lines.f k l) (linesS l) := by
  simp only [line_Lines.f]
  exact lines_l0 l hl hs l.length 0 (by omega) rfl
theorem joinL_chars {p : UInt8 → Prop} (hp : p 32) : ∀ ps : List (List UInt8), (∀ q ∈ ps, ∀ x ∈ q, p x) → ∀ x ∈ joinL 32 ps, p x
  | [], _, x, hx => by simp [joinL] at hx
  | [q], h, x, hx => h q (by simp) x hx
  | q :: r :: ps, h, x, hx => by
    rw [joinL_cons 32 q (by simp)] at hx
    rcases List.mem_append.mp hx with hx | hx
    · exact h q (by simp) x hx
    · rcases List.mem_cons.mp hx with rfl | hx
      · exact hp
      · exact joinL_chars hp (r :: ps) (fun q hq => h q (List.mem_cons_of_mem _ hq)) x hx
theorem line_no10 {c : Cl} (h : (lineS c).2 = 0) : (10 : UInt8) ∉ L (lineS c).1 := by
  obtain ⟨f0, f1, f2⟩ := c
  have key : ∀ ps : List ByteArray, (∀ q ∈ ps, ∀ x ∈ L q, plainC x) → (10 : UInt8) ∉ L (joinS 32 ps) := by
    intro ps hps hm
    have := joinL_chars (p := fun x => 32 ≤ x.toNat) (by decide) (ps.map L) (fun q hq x hx => by
      obtain ⟨b, hb, rfl⟩ := List.mem_map.mp hq
      have := (hps b hb x hx).1
      omega) 10 hm
    revert this; decide
  unfold lineS at h ⊢
  by_cases k1 : f0 = 1
  · rw [if_pos k1] at h ⊢
    by_cases t : L f2 = []
    · rw [if_pos t]
      refine key _ fun q hq => ?_
      rcases List.mem_cons.mp hq with rfl | hq
      · exact word_chars _ (.inl rfl)
      · rw [List.mem_singleton] at hq; rw [hq]; exact dash_chars f1
    · rw [if_neg t] at h; cases h
  rw [if_neg k1] at h ⊢
  by_cases k2 : f0 = 2
  · rw [if_pos k2] at h ⊢
    by_cases t : plainS f2 = true
    · rw [if_pos t]
      refine key _ fun q hq => ?_
      rcases List.mem_cons.mp hq with rfl | hq
      · exact word_chars _ (.inr (.inl rfl))
      · rcases List.mem_cons.mp hq with rfl | hq
        · exact dash_chars f1
        · rw [List.mem_singleton] at hq; rw [hq]; exact plain_chars t
    · rw [if_neg t] at h; cases h
  rw [if_neg k2] at h ⊢
  by_cases k3 : f0 = 3
  · rw [if_pos k3] at h ⊢
    by_cases t1 : L f1 = []
    · rw [if_pos t1] at h ⊢
      by_cases t : plainS f2 = true
      · rw [if_pos t]
        refine key _ fun q hq => ?_
        rcases List.mem_cons.mp hq with rfl | hq
        · exact word_chars _ (.inr (.inr rfl))
        · rw [List.mem_singleton] at hq; rw [hq]; exact plain_chars t
      · rw [if_neg t] at h; cases h
    · rw [if_neg t1] at h; cases h
  rw [if_neg k3] at h; cases h
theorem toC_line {c : Cl} (h : (lineS c).2 = 0) : toC (readS (lineS c).1) = c := by
  rw [line_read c h]; rfl
theorem allA_text : ∀ (l out : List Cl) (n : Nat), (∀ c ∈ l, (lineS c).2 = 0) → allA out n ((splitA 10 [] (textOf l)).map mkB) = (out ++ l, 0, 0)
  | [], out, n, _ => by
    rw [textOf, splitA, List.append_nil]; rfl
  | c :: l, out, n, h => by
    have hc := h c (List.mem_cons_self ..)
    have e : textOf (c :: l) = L (lineS c).1 ++ (10 :: textOf l) := by rw [textOf, lineB, List.append_assoc]; rfl
    rw [e, split_plain 10 [] _ _ (line_no10 hc), List.nil_append, splitA, if_pos rfl, List.map_cons, mk_L, allA_cons _ _ _ (fun q => splitA_ne 10 _ _ (List.map_eq_nil_iff.mp q)), toC_line hc]
    rw [if_pos (by rw [line_read c hc]), allA_text l (out ++ [c]) (n + 1) fun x hx => h x (List.mem_cons_of_mem _ hx), List.append_assoc]; rfl
theorem allS_text (l : List Cl) (h : ∀ c ∈ l, (lineS c).2 = 0) : allS (mkB (textOf l)) = (l, 0, 0) := allA_text l [] 0 h
theorem hexL_le : ∀ l : List UInt8, (hexL l).length ≤ l.length
  | [] => Nat.le_refl _
  | [a] => Nat.zero_le _
  | a :: b :: l => by
    have := hexL_le l
    rw [hexL_cons, List.length_cons, List.length_cons, List.length_cons]; omega
theorem undash_le (s : ByteArray) : (undashS s).1.size ≤ s.size := by
  have z : (⟨#[]⟩ : ByteArray).size = 0 := rfl
  unfold undashS decS decL
  split
  · show (⟨#[]⟩ : ByteArray).size ≤ _; omega
  · split
    · show (⟨#[]⟩ : ByteArray).size ≤ _; omega
    · split
      · split
        · show (mkB (hexL (L s))).size ≤ _
          rw [size_L, size_L, L_mk]; exact hexL_le _
        · show (⟨#[]⟩ : ByteArray).size ≤ _; omega
      · show (⟨#[]⟩ : ByteArray).size ≤ _; omega
theorem read_sizes (s : ByteArray) : (readS s).2.1.size ≤ s.size ∧ (readS s).2.2.1.size ≤ s.size := by
  have z : eB.size = 0 := rfl
  by_cases h : (readS s).2.2.2 = 0
  case neg =>
    have := read_bad s h
    rw [this.2.1, this.2.2]; omega
  have hne := parts_ne 32 s
  have hp := parts_size 32 s
  unfold readS at h ⊢
  generalize parts 32 s = ps at *
  cases ps with
  | nil => exact absurd rfl hne
  | cons a l =>
    rcases kind_cases a with k0 | ⟨k0, rfl⟩ | ⟨k0, rfl⟩ | ⟨k0, rfl⟩
    · rw [readP_no k0] at h; cases h
    · by_cases hl : l.length = 1
      · obtain ⟨b, rfl⟩ : ∃ b, l = [b] := List.length_eq_one_iff.mp hl
        have hb := hp b (by simp)
        have hu' := undash_le b
        rw [readP_1 k0] at h ⊢
        by_cases hu : (undashS b).2 = 0
        · rw [if_pos hu]; exact ⟨by show (undashS b).1.size ≤ _; omega, by show eB.size ≤ _; omega⟩
        · rw [if_neg hu] at h; exact absurd h (bad_ne hu)
      · rw [readP_many (by omega) (.inr ⟨by omega, hl⟩)] at h; cases h
    · by_cases hl : l.length = 2
      · obtain ⟨b, c, rfl⟩ : ∃ b c, l = [b, c] := Go.Proofs.Ytoknoghdnedmhaa.FldS.two_parts hl
        have hb := hp b (by simp)
        have hcc := hp c (by simp)
        have hu' := undash_le b
        rw [readP_2 k0] at h ⊢
        by_cases hu : (undashS b).2 = 0
        · rw [if_pos hu] at h ⊢
          unfold textP at h ⊢
          by_cases t : plainS c = true
          · rw [if_pos t]; exact ⟨by show (undashS b).1.size ≤ _; omega, hcc⟩
          · rw [if_neg t] at h; cases h
        · rw [if_neg hu] at h; exact absurd h (bad_ne hu)
      · rw [readP_many (by omega) (.inl ⟨k0, hl⟩)] at h; cases h
    · by_cases hl : l.length = 1
      · obtain ⟨b, rfl⟩ : ∃ b, l = [b] := List.length_eq_one_iff.mp hl
        have hb := hp b (by simp)
        rw [readP_3 k0] at h ⊢
        unfold textP at h ⊢
        by_cases t : plainS b = true
        · rw [if_pos t]; exact ⟨by show eB.size ≤ _; omega, hb⟩
        · rw [if_neg t] at h; cases h
      · rw [readP_many (by omega) (.inr ⟨by omega, hl⟩)] at h; cases h
theorem writes_j5 (s : ByteArray) (hs : s.size ≤ 1000000) : To (fun k => pestlelaw53_LineWrites.j5 k s false) true := by
  refine To.step ?_
  simp only [pestlelaw53_LineWrites.j5]
  refine To.neg (by decide) (To.bind (read_to s hs) ?_)
  by_cases h : (readS s).2.2.2 = 0
  · have hz := read_sizes s
    have := line_to (toC (readS s)) (Nat.le_trans hz.1 hs) (Nat.le_trans hz.2 hs)
    rw [read_line s h] at this
    refine To.pos h (To.bind this (To.pos rfl (To.ret' ?_)))
    exact beq_self_eq_true _
  · have := read_bad s h
    refine To.neg h (To.ret' ?_)
    rw [this.1, this.2.1, this.2.2, toList_L]; rfl
theorem writes_l0 (l : List Cl) (hl : l.length ≤ 20) (s : ByteArray) (hss : s.size ≤ 1000000) (d : Nat) : ∀ n : Nat, n + d = l.length → (∀ c ∈ l.take n, Small c) →
    To (fun k => pestlelaw53_LineWrites.l0 k l s (mkB (textOf (l.take n))) (firstWhy (l.take n)) l (l.length : Int) (n : Int)) true := by
  induction d with
  | zero =>
    intro n hn hs
    refine To.step ?_
    simp only [pestlelaw53_LineWrites.l0]
    rw [List.take_of_length_le (l := l) (by omega)] at hs ⊢
    refine To.neg (by omega) (To.bind (lines_to l hl hs) ?_)
    by_cases hw : firstWhy l = 0
    · have e : linesS l = (mkB (textOf l), 0) := by rw [linesS, if_pos hw]
      have ht := textOf_len l hs
      have ha := all_to (mkB (textOf l)) (by rw [size_L, L_mk]; omega)
      rw [allS_text l (firstWhy_zero l hw)] at ha
      rw [e, hw]
      refine To.pos rfl (To.bind ha (To.pos rfl (To.pos rfl (To.pos rfl (To.pos rfl (To.bind (same_to l (by omega)) ?_))))))
      exact writes_j5 s hss
    · have e : linesS l = (eB, firstWhy l) := by rw [linesS, if_neg hw]
      rw [e]
      exact To.neg hw (To.pos rfl (To.ret' (by rw [toList_L]; rfl)))
  | succ d ih =>
    intro n hn hs
    have hlt : n < l.length := by omega
    refine To.step ?_
    simp only [pestlelaw53_LineWrites.l0]
    rw [rdT_nat hlt]
    refine To.pos (by omega) (To.pos (by omega) (To.pos (by omega) ?_))
    refine To.ite (fun _ => To.step ?_) (fun g1 => To.step ?_)
    · simp only [pestlelaw53_LineWrites.j2]; exact To.pos trivial (To.ret _)
    simp only [pestlelaw53_LineWrites.j2]
    refine To.ite (fun _ => To.ret _) (fun g2 => ?_)
    have hc : Small l[n] := by
      simp only [decide_eq_true_eq] at g2
      exact ⟨by omega, by omega⟩
    have hz := lineS_size hc
    have htk : l.take (n + 1) = l.take n ++ [l[n]] := List.take_succ_eq_append_getElem hlt
    have hs' : ∀ c ∈ l.take (n + 1), Small c := by
      intro c hm
      rw [htk, List.mem_append, List.mem_singleton] at hm
      rcases hm with hm | hm
      · exact hs c hm
      · rw [hm]; exact hc
    have ht := textOf_len (l.take n) hs
    rw [List.length_take] at ht
    have i := ih (n + 1) (by omega) hs'
    have q1 : (mkB (textOf (l.take n))).size + (lineS l[n]).1.size ≤ 9223372036854775807 := by rw [size_L, L_mk]; omega
    have q2 : (mkB (textOf (l.take n)) ++ (lineS l[n]).1).size + 1 ≤ 9223372036854775807 := by rw [ByteArray.size_append, size_L, L_mk]; omega
    have e5 : (mkB (textOf (l.take n)) ++ (lineS l[n]).1) ++ (⟨#[10]⟩ : ByteArray) = mkB (textOf (l.take (n + 1))) := by
      refine L_inj ?_
      rw [L_append, L_append, L_mk, L_mk, htk, textOf_snoc, lineB, List.append_assoc]; rfl
    refine To.bind (line_to l[n] (small_to hc).1 (small_to hc).2) (To.bind (ref_line_to l[n] (small_to hc).1 (small_to hc).2) (To.pos rfl (To.step ?_)))
    simp only [pestlelaw53_LineWrites.j3]
    rw [e5, wrap_id (x := (n : Int) + 1) (by omega) (by omega)]
    refine To.neg (by simp) ?_
    by_cases e : (lineS l[n]).2 = 0
    · have hr := read_to (lineS l[n]).1 (by omega)
      rw [line_read _ e] at hr
      refine To.pos e (To.bind hr (To.pos rfl (To.step ?_)))
      simp only [pestlelaw53_LineWrites.j4]
      rw [e5, wrap_id (x := (n : Int) + 1) (by omega) (by omega)]
      refine To.neg (by simp) ?_
      rw [htk, firstWhy_snoc, ← htk] at i
      by_cases w : firstWhy (l.take n) = 0
      · rw [if_pos w] at i
        exact To.pos w (To.pos q1 (To.pos q2 i))
      · rw [if_neg w] at i
        exact To.neg w (To.pos q1 (To.pos q2 i))
    · refine To.neg e ?_
      rw [htk, firstWhy_snoc, ← htk] at i
      by_cases w : firstWhy (l.take n) = 0
      · rw [if_pos w] at i
        exact To.pos w (To.pos q1 (To.pos q2 i))
      · rw [if_neg w] at i
        exact To.neg w (To.pos q1 (To.pos q2 i))
theorem LineWrites : St.LineWrites_Pure := by
  intro l s _ _
  refine To.ends ?_
  simp only [pestlelaw53_LineWrites.f]
  refine To.bind awake53w_to (To.pos rfl ?_)
  refine To.ite (fun _ => To.step ?_) (fun h1 => To.step ?_)
  · simp only [pestlelaw53_LineWrites.j0]; exact To.pos trivial (To.ret _)
  simp only [pestlelaw53_LineWrites.j0]
  refine To.ite (fun _ => To.ret _) (fun h2 => ?_)
  simp only [decide_eq_true_eq] at h2
  exact writes_l0 l (by omega) s (by omega) l.length 0 (by omega) (by simp)
end Go.Proofs.Ytoknoghdnedmhaa.Pure
