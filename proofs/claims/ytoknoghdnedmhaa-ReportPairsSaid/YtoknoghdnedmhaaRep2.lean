/- Calls with their replies as lines, and how many have which error: by the program's way and by the reference's. -/
import Derived.Test.YtoknoghdnedmhaaLineW
import Derived.Test.YtoknoghdnedmhaaRep1
import Derived.Test.YtoknoghdnedmhaaFldR
import Derived.Test.YtoknoghdnedmhaaPallx2
import Derived.Test.YtoknoghdnedmhaaPallx4
import Derived.Test.YtoknoghdnedmhaaPallx5
import Derived.Test.YtoknoghdnedmhaaPallx8
namespace Go.Proofs.Ytoknoghdnedmhaa.Rep2
open Go.RowKit Go.Proofs.YtoknoghdnedmhaaW.PrintWords Go.Proofs.YtoknoghdnedmhaaW.PrintLast Go.Proofs.Ytoknoghdnedmhaa.Pall Go.Proofs.Ytoknoghdnedmhaa.Lib Go.Proofs.Ytoknoghdnedmhaa.Byt
open Go.Proofs.Ytoknoghdnedmhaa.FldJ (joinS sizes sizes_le join_to)
open Go.Proofs.Ytoknoghdnedmhaa.FldR (ref_join_to)
open Go.Proofs.Ytoknoghdnedmhaa.Hex2 (dashS)
open Go.Proofs.Ytoknoghdnedmhaa.LineW (hashB verB staB plainS Cl rdT_nat lineS dash_sz line_to ref_line_to join2 join3 hashB_size verB_size staB_size)
open Go.Proofs.Ytoknoghdnedmhaa.Rep1 (nameS name_f ref_name_f nameS_size replyS replyS_size reply_to ref_reply_to)
open Go.Proofs.Ytoknoghdnedmhaa.Dec1 (textS text_to ref_text_to)
open Go.Proofs.Ytoknoghdnedmhaa.DecL (textS_size)

abbrev Rp := S51
theorem rdR_nat {l : List Rp} {n : Nat} (h : n < l.length) : rd_T51 l (n : Int) = l[n] := by
  unfold rd_T51
  simp [List.getD_eq_getElem?_getD, h]
theorem sp_size : Go.Proofs.Ytoknoghdnedmhaa.LineW.sp.size = 1 := rfl
theorem lineS_size (c : Cl) (h1 : c.f1.size ≤ 300) (h2 : c.f2.size ≤ 300) : (lineS c).1.size ≤ 2000 := by
  have hd := dash_sz c.f1
  have e0 : Go.Proofs.Ytoknoghdnedmhaa.LineW.eB.size = 0 := rfl
  unfold lineS
  split
  · split
    · show (joinS 32 [hashB, dashS c.f1]).size ≤ _
      rw [join2, ByteArray.size_append, ByteArray.size_append, hashB_size, sp_size]; omega
    · show Go.Proofs.Ytoknoghdnedmhaa.LineW.eB.size ≤ _; omega
  split
  · split
    · show (joinS 32 [verB, dashS c.f1, c.f2]).size ≤ _
      rw [join3, ByteArray.size_append, ByteArray.size_append, ByteArray.size_append, ByteArray.size_append, verB_size, sp_size]; omega
    · show Go.Proofs.Ytoknoghdnedmhaa.LineW.eB.size ≤ _; omega
  split
  · split
    · split
      · show (joinS 32 [staB, c.f2]).size ≤ _
        rw [join2, ByteArray.size_append, ByteArray.size_append, staB_size, sp_size]; omega
      · show Go.Proofs.Ytoknoghdnedmhaa.LineW.eB.size ≤ _; omega
    · show Go.Proofs.Ytoknoghdnedmhaa.LineW.eB.size ≤ _; omega
  · show Go.Proofs.Ytoknoghdnedmhaa.LineW.eB.size ≤ _; omega
def qB : ByteArray := ⟨#[63, 32]⟩
def arB : ByteArray := ⟨#[32, 45, 62, 32]⟩
def nlB : ByteArray := ⟨#[10]⟩
theorem qB_size : qB.size = 2 := rfl
theorem arB_size : arB.size = 4 := rfl
theorem nlB_size : nlB.size = 1 := rfl
def headS (c : Cl) : ByteArray := if (lineS c).2 = 0 then (lineS c).1 else qB ++ nameS (lineS c).2
def rS (c : Cl) (r : Rp) : ByteArray := replyS c.f0 r.f0 r.f1 r.f2 r.f3
def pairL (c : Cl) (r : Rp) : ByteArray := ((headS c ++ arB) ++ rS c r) ++ nlB
def pairsL : List Cl → List Rp → List UInt8
  | c :: l0, r :: l1 => L (pairL c r) ++ pairsL l0 l1
  | _, _ => []
def okC (c : Cl) : Prop := c.f1.size ≤ 300 ∧ c.f2.size ≤ 300
def okR (r : Rp) : Prop := r.f1.size ≤ 300 ∧ r.f3 ≤ 9223372036854775807
theorem headS_size {c : Cl} (h : okC c) : (headS c).size ≤ 2000 := by
  unfold headS
  split
  · exact lineS_size c h.1 h.2
  · have := nameS_size (lineS c).2
    rw [ByteArray.size_append, qB_size]; omega
theorem rS_size (c : Cl) {r : Rp} (h : okR r) : (rS c r).size ≤ 400 := by
  have h1 := h.1
  have := replyS_size c.f0 r.f0 r.f1 r.f2 r.f3 h.2
  unfold rS; omega
theorem pairL_size {c : Cl} {r : Rp} (hc : okC c) (hr : okR r) : (pairL c r).size ≤ 2500 := by
  have := headS_size hc
  have := rS_size c hr
  unfold pairL
  rw [ByteArray.size_append, ByteArray.size_append, ByteArray.size_append, arB_size, nlB_size]; omega
theorem bytes_U (s : ByteArray) : bytesOf s = U (L s) := rfl
theorem one_to {c : Cl} (h : okC c) : To (fun k => report_Pairs.one k c) (headS c) := by
  have h1 := h.1
  have h2 := h.2
  simp only [report_Pairs.one]
  refine To.bind (line_to c (by omega) (by omega)) ?_
  by_cases e : (lineS c).2 = 0
  · exact To.eq (To.pos e (To.ret _)) (if_pos e).symm
  · refine To.eq (To.neg e (To.bind0 (name_f _) (To.pos ?_ (To.ret _)))) (if_neg e).symm
    have := nameS_size (lineS c).2
    omega
theorem pairs_out (l0 : List Cl) (l1 : List Rp) (hl : l0.length = l1.length) (hn : l0.length ≤ 30) (hc : ∀ c ∈ l0, okC c) (hr : ∀ r ∈ l1, okR r) (d : Nat) : ∀ (n : Nat) (acc : List UInt8), n + d = l0.length → acc.length ≤ n * 2500 →
    To (fun k => report_Pairs.out k l0 l1 d (U acc)) (mkB (acc ++ pairsL (l0.drop n) (l1.drop n)), 0) := by
  induction d with
  | zero =>
    intro n acc hd ha
    simp only [report_Pairs.out]
    rw [List.drop_of_length_le (by omega), pairsL, List.append_nil, str_U]
    · exact To.ret _
    · intro c l0 r l1 q; cases q
  | succ d ih =>
    intro n acc hd ha
    have h0 : n < l0.length := by omega
    have h1 : n < l1.length := by omega
    have oc := hc _ (List.getElem_mem h0)
    have or_ := hr _ (List.getElem_mem h1)
    have i := ih (n + 1) (acc ++ L (pairL l0[n] l1[n])) (by omega) (by
      have := pairL_size oc or_
      rw [size_L] at this
      rw [List.length_append, Nat.succ_mul]; omega)
    simp only [report_Pairs.out]
    rw [drop_cons h0, drop_cons h1, pairsL, show l0.length - (d + 1) = n by omega, rdT_nat h0, rdR_nat h1]
    have z1 := headS_size oc
    have z2 := rS_size l0[n] or_
    have or1 := or_.1
    have sz : ∀ a b : ByteArray, (a ++ b).size = a.size + b.size := fun a b => ByteArray.size_append
    refine To.bind (one_to oc) (To.pos (by omega) (To.bind (reply_to l0[n].f0 l0[n].f1 l0[n].f2 l1[n].f0 l1[n].f1 l1[n].f2 l1[n].f3 (by omega) or_.2) ?_))
    show To (fun k => if ((headS l0[n] ++ arB).size + (rS l0[n] l1[n]).size ≤ 9223372036854775807) then (if (((headS l0[n] ++ arB) ++ rS l0[n] l1[n]).size + 1 ≤ 9223372036854775807) then (if (U acc).length + (pairL l0[n] l1[n]).size < 140737488355328 then report_Pairs.out k l0 l1 d (U acc ++ U (L (pairL l0[n] l1[n]))) else none) else none) else none) _
    rw [← U_append, ← List.append_assoc]
    have z3 := pairL_size oc or_
    exact To.pos (by rw [sz, arB_size]; omega) (To.pos (by rw [sz, sz, arB_size]; omega) (To.pos (by rw [U_length]; omega) i))
theorem pairs_to (l0 : List Cl) (l1 : List Rp) (hl : l0.length = l1.length) (hn : l0.length ≤ 30) (hc : ∀ c ∈ l0, okC c) (hr : ∀ r ∈ l1, okR r) : To (fun k => report_Pairs.f k l0 l1) (mkB (pairsL l0 l1), 0) := by
  simp only [report_Pairs.f]
  have := pairs_out l0 l1 hl hn hc hr l0.length 0 [] (by omega) (by simp)
  exact To.pos hl (To.pos (by omega) this)
theorem pairs_ne (l0 : List Cl) (l1 : List Rp) (hl : l0.length ≠ l1.length) : To (fun k => report_Pairs.f k l0 l1) (⟨#[]⟩, 9) := by
  simp only [report_Pairs.f]
  exact To.neg hl (To.ret _)
theorem ref_pairs_l0 (l0 : List Cl) (l1 : List Rp) (hl : l0.length = l1.length) (hn : l0.length ≤ 30) (hc : ∀ c ∈ l0, okC c) (hr : ∀ r ∈ l1, okR r) (d : Nat) : ∀ (n : Nat) (acc : ByteArray), n + d = l0.length → acc.size ≤ n * 2500 →
    To (fun k => pestleref54_Pairs.l0 k l0 l1 acc (n : Int)) (mkB (L acc ++ pairsL (l0.drop n) (l1.drop n))) := by
  have sz : ∀ a b : ByteArray, (a ++ b).size = a.size + b.size := fun a b => ByteArray.size_append
  induction d with
  | zero =>
    intro n acc hd ha
    refine To.step ?_
    simp only [pestleref54_Pairs.l0]
    rw [List.drop_of_length_le (by omega), pairsL, List.append_nil, mk_L]
    · exact To.neg (by omega) (To.ret _)
    · intro c l0 r l1 q; cases q
  | succ d ih =>
    intro n acc hd ha
    have h0 : n < l0.length := by omega
    have h1 : n < l1.length := by omega
    have oc := hc _ (List.getElem_mem h0)
    have oc1 := oc.1
    have oc2 := oc.2
    have or_ := hr _ (List.getElem_mem h1)
    have or1 := or_.1
    have z1 := headS_size oc
    have z2 := rS_size l0[n] or_
    have z3 := pairL_size oc or_
    have i := ih (n + 1) (((acc ++ headS l0[n] ++ arB) ++ rS l0[n] l1[n]) ++ nlB) (by omega) (by
      unfold pairL at z3
      rw [sz, sz, sz] at z3
      rw [sz, sz, sz, sz, Nat.succ_mul]; omega)
    have e : L (((acc ++ headS l0[n] ++ arB) ++ rS l0[n] l1[n]) ++ nlB) = L acc ++ L (pairL l0[n] l1[n]) := by
      unfold pairL
      simp only [L_append, List.append_assoc]
    rw [e] at i
    refine To.step ?_
    simp only [pestleref54_Pairs.l0]
    rw [drop_cons h0, drop_cons h1, pairsL, ← List.append_assoc, rdT_nat h0, rdR_nat h1, wrap_id (x := (n : Int) + 1) (by omega) (by omega)]
    refine To.pos (by omega) (To.pos (by omega) (To.bind (ref_line_to l0[n] (by omega) (by omega)) ?_))
    have hR := ref_reply_to l0[n].f0 l0[n].f1 l0[n].f2 l1[n].f0 l1[n].f1 l1[n].f2 l1[n].f3 (by omega) or_.2
    by_cases q : (lineS l0[n]).2 = 0
    · have hh : headS l0[n] = (lineS l0[n]).1 := if_pos q
      rw [hh] at i z1
      refine To.pos q (To.pos (by omega) (To.pos (by rw [sz]; omega) (To.pos (by omega) (To.bind hR ?_))))
      refine To.pos ?_ (To.pos ?_ i)
      · show ((acc ++ (lineS l0[n]).1) ++ arB).size + (rS l0[n] l1[n]).size ≤ _
        rw [sz, sz, arB_size]; omega
      · show (((acc ++ (lineS l0[n]).1) ++ arB) ++ (rS l0[n] l1[n])).size + 1 ≤ _
        rw [sz, sz, sz, arB_size]; omega
    · have hh : headS l0[n] = qB ++ nameS (lineS l0[n]).2 := if_neg q
      have nz := nameS_size (lineS l0[n]).2
      rw [hh] at i z1
      refine To.neg q (To.bind0 (ref_name_f _) (To.pos (by omega) (To.pos ?_ (To.pos ?_ (To.pos (by omega) (To.bind hR ?_))))))
      · show acc.size + (qB ++ nameS (lineS l0[n]).2).size ≤ _
        omega
      · show (acc ++ (qB ++ nameS (lineS l0[n]).2)).size + 4 ≤ _
        rw [sz]; omega
      refine To.pos ?_ (To.pos ?_ i)
      · show ((acc ++ (qB ++ nameS (lineS l0[n]).2)) ++ arB).size + (rS l0[n] l1[n]).size ≤ _
        rw [sz, sz, arB_size]; omega
      · show (((acc ++ (qB ++ nameS (lineS l0[n]).2)) ++ arB) ++ (rS l0[n] l1[n])).size + 1 ≤ _
        rw [sz, sz, sz, arB_size]; omega
theorem ref_pairs_to (l0 : List Cl) (l1 : List Rp) (hl : l0.length = l1.length) (hn : l0.length ≤ 30) (hc : ∀ c ∈ l0, okC c) (hr : ∀ r ∈ l1, okR r) : To (fun k => pestleref54_Pairs.f k l0 l1) (mkB (pairsL l0 l1)) := by
  simp only [pestleref54_Pairs.f]
  exact ref_pairs_l0 l0 l1 hl hn hc hr l0.length 0 ⟨#[]⟩ (by omega) (Nat.zero_le _)

/-! ### tallies -/
def cn (l : List Rp) (i : Nat) : Nat := l.countP fun r => report_Tally.slot r.f0 == i
theorem slot_lt (e : Int) : report_Tally.slot e < 18 := by
  unfold report_Tally.slot
  split
  · omega
  · split <;> omega
theorem cnt_fold (i : Nat) (hi : i < 18) : ∀ (l : List Rp) (xs : List Int), xs.length = 18 → 0 ≤ xs.getD i 0 → xs.getD i 0 + l.length ≤ 1000000 → (l.foldl report_Tally.step xs).getD i 0 = xs.getD i 0 + (cn l i : Int)
  | [], xs, _, _, _ => by show xs.getD i 0 = xs.getD i 0 + ((0 : Nat) : Int); omega
  | r :: l, xs, hx, h0, hb => by
    rw [List.length_cons] at hb
    have hs := slot_lt r.f0
    have e : (report_Tally.step xs r).getD i 0 = if report_Tally.slot r.f0 = i then xs.getD i 0 + 1 else xs.getD i 0 := by
      unfold report_Tally.step
      simp only [List.getD_eq_getElem?_getD]
      rw [List.getElem?_set]
      by_cases q : report_Tally.slot r.f0 = i
      · rw [if_pos q, if_pos q, if_pos (by omega), q]
        rw [List.getD_eq_getElem?_getD] at h0 hb
        show wrap64 _ = _
        exact wrap_id (by omega) (by omega)
      · rw [if_neg q, if_neg q]
    have hc : (cn (r :: l) i : Int) = (if report_Tally.slot r.f0 = i then 1 else 0) + (cn l i : Int) := by
      unfold cn
      rw [List.countP_cons]
      by_cases q : report_Tally.slot r.f0 = i
      · rw [if_pos (by simpa using q), if_pos q]; omega
      · rw [if_neg (by simpa using q), if_neg q]; omega
    have hlen : (report_Tally.step xs r).length = 18 := by unfold report_Tally.step; rw [List.length_set]; exact hx
    rw [List.foldl_cons, hc]
    by_cases q : report_Tally.slot r.f0 = i
    · rw [if_pos q] at e
      rw [cnt_fold i hi l _ hlen (by omega) (by omega), e, if_pos q]; omega
    · rw [if_neg q] at e
      rw [cnt_fold i hi l _ hlen (by omega) (by omega), e, if_neg q]; omega
theorem cnt_is (l : List Rp) (hl : l.length ≤ 30) (i : Nat) (hi : i < 18) : (report_Tally.cnt l).getD i 0 = (cn l i : Int) := by
  have z : (List.replicate 18 (0 : Int)).getD i 0 = 0 := by
    rw [List.getD_eq_getElem?_getD, List.getElem?_replicate]
    split <;> rfl
  have := cnt_fold i hi l (List.replicate 18 0) rfl (by omega) (by omega)
  unfold report_Tally.cnt
  rw [this, z, Int.zero_add]
theorem cn_le (l : List Rp) (i : Nat) : cn l i ≤ l.length := List.countP_le_length
def itemT (i c : Nat) : ByteArray := (nameS (i : Int) ++ ⟨#[32]⟩) ++ textS (c : Int)
def tallyA (l : List Rp) : Nat → List ByteArray → List ByteArray
  | 0, out => out
  | d + 1, out => tallyA l d (if cn l (17 - d) > 0 then out ++ [itemT (17 - d) (cn l (17 - d))] else out)
theorem item_sz {i c : Nat} (h : c ≤ 30) : (itemT i c).size ≤ 30 := by
  have h1 := nameS_size (i : Int)
  have h2 := textS_size (n := (c : Int)) (by omega)
  unfold itemT
  rw [ByteArray.size_append, ByteArray.size_append]
  show _ + 1 + _ ≤ _
  omega
theorem tally_out (l : List Rp) (hl : l.length ≤ 30) (xs : List Int) (hxs : ∀ i, i < 18 → xs.getD i 0 = (cn l i : Int)) (d : Nat) (hd : d ≤ 18) : ∀ out : List ByteArray, out.length ≤ 18 - d → (∀ p ∈ out, p.size ≤ 30) →
    To (fun k => report_Tally.out k xs d out) (joinS 44 (tallyA l d out)) := by
  induction d with
  | zero =>
    intro out ho hp
    simp only [report_Tally.out]
    have := sizes_le hp
    exact join_to 44 out (by omega)
  | succ d ih =>
    intro out ho hp
    have hc := cn_le l (17 - d)
    simp only [report_Tally.out, tallyA]
    rw [hxs (17 - d) (by omega)]
    by_cases q : cn l (17 - d) > 0
    · rw [if_pos q]
      have h1 := nameS_size ((17 - d : Nat) : Int)
      have h2 := textS_size (n := (cn l (17 - d) : Int)) (by omega)
      refine To.pos (by omega) (To.bind0 (name_f _) (To.pos (by omega) (To.bind (text_to _ (by omega)) (To.pos ?_ ?_))))
      · rw [ByteArray.size_append]
        show _ + 1 + _ ≤ _
        omega
      · refine ih (by omega) _ (by rw [List.length_append, List.length_singleton]; omega) ?_
        intro p hp'
        rcases List.mem_append.mp hp' with h | h
        · exact hp p h
        · obtain rfl := List.mem_singleton.mp h
          exact item_sz (by omega)
    · rw [if_neg q]
      exact To.neg (by omega) (ih (by omega) out (by omega) hp)
def tallyS (l : List Rp) : ByteArray := joinS 44 (tallyA l 18 [])
theorem tally_to (l : List Rp) (hl : l.length ≤ 30) : To (fun k => report_Tally.f k l) (tallyS l) := by
  simp only [report_Tally.f]
  exact To.pos (by omega) (tally_out l hl _ (cnt_is l hl) 18 (by omega) [] (by simp) (by simp))
theorem ref_l1 (l : List Rp) (hl : l.length ≤ 30) (out : List ByteArray) (i : Nat) (hi : i < 18) (r : ByteArray) (next : To (fun k => pestleref54_Tally.l1 k l out (i : Int) (cn l i : Int) (l.length : Int)) r) (d : Nat) : ∀ n c : Nat, n + d = l.length → c + cn (l.drop n) i = cn l i →
    To (fun k => pestleref54_Tally.l1 k l out (i : Int) (c : Int) (n : Int)) r := by
  induction d with
  | zero =>
    intro n c hd hc
    rw [List.drop_of_length_le (by omega)] at hc
    have : cn ([] : List Rp) i = 0 := rfl
    rw [this] at hc
    rw [show c = cn l i by omega, show n = l.length by omega]
    exact next
  | succ d ih =>
    intro n c hd hc
    have h : n < l.length := by omega
    have hle := cn_le l i
    have hcc : cn (l.drop n) i = (if report_Tally.slot l[n].f0 = i then 1 else 0) + cn (l.drop (n + 1)) i := by
      rw [drop_cons h]
      unfold cn
      rw [List.countP_cons]
      by_cases q : report_Tally.slot l[n].f0 = i
      · rw [if_pos (by simpa using q), if_pos q]; omega
      · rw [if_neg (by simpa using q), if_neg q]; omega
    rw [hcc] at hc
    have go : ∀ b : Bool, (b = true ↔ report_Tally.slot l[n].f0 = 17 ∧ (l[n].f0 < 0 ∨ l[n].f0 > 16)) → To (fun k => pestleref54_Tally.j2 k l out (i : Int) (c : Int) (n : Int) l[n].f0 b) r := by
      intro b hb
      refine To.step ?_
      simp only [pestleref54_Tally.j2]
      rw [wrap_id (x := (n : Int) + 1) (by omega) (by omega), wrap_id (x := (c : Int) + 1) (by omega) (by omega)]
      have yes : report_Tally.slot l[n].f0 = i → To (fun k => pestleref54_Tally.l1 k l out (i : Int) ((c : Int) + 1) ((n : Int) + 1)) r := by
        intro q
        rw [if_pos q] at hc
        exact ih (n + 1) (c + 1) (by omega) (by omega)
      have no : report_Tally.slot l[n].f0 ≠ i → To (fun k => pestleref54_Tally.l1 k l out (i : Int) (c : Int) ((n : Int) + 1)) r := by
        intro q
        rw [if_neg q] at hc
        exact ih (n + 1) c (by omega) (by omega)
      refine To.ite (fun hbt => ?_) (fun hbf => ?_)
      · have s := (hb.1 hbt).1
        exact To.ite (fun q => yes (by omega)) (fun q => no (by omega))
      · have s : report_Tally.slot l[n].f0 = l[n].f0.toNat ∧ 0 ≤ l[n].f0 := by
          by_cases a1 : l[n].f0 < 0
          · exact absurd (hb.2 ⟨by unfold report_Tally.slot; rw [if_pos a1], .inl a1⟩) hbf
          by_cases a2 : l[n].f0 > 16
          · exact absurd (hb.2 ⟨by unfold report_Tally.slot; rw [if_neg a1, if_pos a2], .inr a2⟩) hbf
          exact ⟨by unfold report_Tally.slot; rw [if_neg a1, if_neg a2], by omega⟩
        exact To.ite (fun q => yes (by omega)) (fun q => no (by omega))
    refine To.step ?_
    simp only [pestleref54_Tally.l1]
    rw [rdR_nat h]
    refine To.pos (by omega) (To.pos (by omega) ?_)
    by_cases a1 : l[n].f0 < 0
    · refine To.pos a1 (go true ⟨fun _ => ⟨by unfold report_Tally.slot; rw [if_pos a1], .inl a1⟩, fun _ => rfl⟩)
    · refine To.neg a1 (go _ ?_)
      constructor
      · intro q
        have a2 := of_decide_eq_true q
        exact ⟨by unfold report_Tally.slot; rw [if_neg a1, if_pos a2], .inr a2⟩
      · rintro ⟨_, a2 | a2⟩
        · exact absurd a2 a1
        · exact decide_eq_true a2
theorem ref_tally_l0 (l : List Rp) (hl : l.length ≤ 30) (d : Nat) (hd : d ≤ 18) : ∀ out : List ByteArray, out.length ≤ 18 - d → (∀ p ∈ out, p.size ≤ 30) →
    To (fun k => pestleref54_Tally.l0 k l out ((18 - d : Nat) : Int)) (joinS 44 (tallyA l d out)) := by
  induction d with
  | zero =>
    intro out ho hp
    refine To.step ?_
    simp only [pestleref54_Tally.l0]
    have := sizes_le hp
    exact To.neg (by omega) (To.bind (ref_join_to (⟨#[44]⟩ : ByteArray) 44 rfl out (by omega)) (To.ret _))
  | succ d ih =>
    intro out ho hp
    refine To.step ?_
    simp only [pestleref54_Tally.l0]
    refine To.pos (by omega) ?_
    rw [show 18 - (d + 1) = 17 - d by omega, tallyA]
    refine ref_l1 l hl out (17 - d) (by omega) _ ?_ l.length 0 0 (by omega) (by rw [List.drop_zero]; omega)
    have hc := cn_le l (17 - d)
    refine To.step ?_
    simp only [pestleref54_Tally.l1]
    rw [wrap_id (x := ((17 - d : Nat) : Int) + 1) (by omega) (by omega), show ((17 - d : Nat) : Int) + 1 = ((18 - d : Nat) : Int) by omega]
    refine To.neg (by omega) ?_
    by_cases q : cn l (17 - d) > 0
    · rw [if_pos q]
      have h1 := nameS_size ((17 - d : Nat) : Int)
      have h2 := textS_size (n := (cn l (17 - d) : Int)) (by omega)
      refine To.pos (by omega) (To.bind0 (ref_name_f _) (To.pos (by omega) (To.bind (ref_text_to _ (by omega)) (To.pos ?_ (To.pos (by omega) ?_)))))
      · rw [ByteArray.size_append]
        show _ + 1 + _ ≤ _
        omega
      · refine ih (by omega) _ (by rw [List.length_append, List.length_singleton]; omega) ?_
        intro p hp'
        rcases List.mem_append.mp hp' with h | h
        · exact hp p h
        · obtain rfl := List.mem_singleton.mp h
          exact item_sz (by omega)
    · rw [if_neg q]
      exact To.neg (by omega) (ih (by omega) out (by omega) hp)
theorem ref_tally_to (l : List Rp) (hl : l.length ≤ 30) : To (fun k => pestleref54_Tally.f k l) (tallyS l) := by
  simp only [pestleref54_Tally.f]
  exact ref_tally_l0 l hl 18 (by omega) [] (by simp) (by simp)
end Go.Proofs.Ytoknoghdnedmhaa.Rep2
