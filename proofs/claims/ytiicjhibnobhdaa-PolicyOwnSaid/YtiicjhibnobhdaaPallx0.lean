-- PRINTED by print.py (a twelfth state) out of the translation. Not trusted: Lean checks it.
import Derived.Test.YtiicjhibnobhdaaProg
import Derived.Below
import Derived.StillTailTactics
import Derived.Deep.Draws
import Derived.Deep.AppendLies
import Derived.Maps.AppendAt
import Derived.OwnWalk
import Derived.Laws.BytesArg
import Derived.Laws.MakeOwn
import Derived.Laws.OwnMore
import Derived.Deep.OwnRows
import Derived.Tactics
import Derived.Lib.ConvBytes
import Derived.Laws.Slices
import Derived.WalkKit
import Derived.KernelRfl
import Derived.RowKit3
import Derived.Deep.LoopGhost
import Derived.Deep.QuietTactic
import Derived.BigQuiet
import Derived.WideLaws
import Derived.Deep.DeepCutAuto
import Derived.Deep.CutBlock
import Derived.Deep.RegionHeld3
import Derived.Laws.Rows
import Derived.Lib.AppendStr
import Derived.ArgAppend
import Derived.Laws.IdiomCopy
import Derived.OrdersHeld
import Derived.Laws.BitsLemmas
import Derived.RowKit
import Derived.Test.YtiicjhibnobhdaaWWords
import Derived.Test.YtiicjhibnobhdaaWLast
import Derived.Test.YtiicjhibnobhdaaWTab
import Derived.Test.YtiicjhibnobhdaaWFour
import Derived.Test.YtiicjhibnobhdaaWQPut
import Derived.Test.YtiicjhibnobhdaaWApart
import Derived.Test.YtiicjhibnobhdaaWArr
import Derived.Test.YtiicjhibnobhdaaWZeros
import Derived.Test.YtiicjhibnobhdaaWFoot
import Derived.Test.YtiicjhibnobhdaaWKept
import Derived.Test.YtiicjhibnobhdaaWShare
import Derived.Test.YtiicjhibnobhdaaWN
import Derived.Test.YtiicjhibnobhdaaWFootNe
import Derived.Test.YtiicjhibnobhdaaWAt
import Derived.Test.YtiicjhibnobhdaaWEqStruct
import Derived.Test.YtiicjhibnobhdaaWRepsOne
import Derived.Test.YtiicjhibnobhdaaWInv
import Derived.Test.YtiicjhibnobhdaaWInvWords
import Derived.Test.YtiicjhibnobhdaaWGuard
import Derived.Test.YtiicjhibnobhdaaWNEv
import Derived.Test.YtiicjhibnobhdaaWMore
namespace Go.Proofs.Ytiicjhibnobhdaa.Pall
open Go.RowKit Go.Proofs.YtiicjhibnobhdaaW.PrintWords Go.Proofs.YtiicjhibnobhdaaW.PrintLast Go.Proofs.YtiicjhibnobhdaaW.PrintMore
attribute [local go_sem] max2_int min2_int max_two min_two max_three min_three max_four min_four   -- for this text's walks alone
set_option linter.unusedVariables false
set_option linter.unusedSimpArgs false



def errW : Option Int → Value
  | none => .nilIface
  | some c => .iface 0 (.int .i64 c)
theorem errW_none : errW none = .nilIface := rfl
theorem errW_some (c : Int) : errW (some c) = .iface 0 (.int .i64 c) := rfl

theorem info3 : (Try.prog.info? 3).map (fun i => (i.zero, i.size, i.bytes)) = some (some (.int .i64 0), 1, 8) := by kernel_rfl
-- the values' own types
/-! #### struct type 23 -/
structure S23 where
  f0 : Int
  f1 : Int
  f2 : Int
  f3 : Int
  f4 : Int
def z23 : S23 := ⟨(0 : Int), (0 : Int), (0 : Int), (0 : Int), (0 : Int)⟩
def k23 : Kd S23 := Kd.iso (Kd.pair (Kd.int .i64) (Kd.pair (Kd.int .i64) (Kd.pair (Kd.int .i64) (Kd.pair (Kd.int .i64) (Kd.int .i64))))) (fun x : S23 => (x.f0, x.f1, x.f2, x.f3, x.f4))
theorem k23_open {w : World} {x : S23} {cs : List Value} (h : k23.K w x cs) : cs = [.int .i64 x.f0, .int .i64 x.f1, .int .i64 x.f2, .int .i64 x.f3, .int .i64 x.f4] := by
  obtain ⟨_, _, rfl, rfl, ⟨_, _, rfl, rfl, ⟨_, _, rfl, rfl, ⟨_, _, rfl, rfl, rfl⟩⟩⟩⟩ := h
  exact rfl
theorem k23_openM {w : World} {base : Nat} {ok : Nat → Prop} {x : S23} {cs : List Value} (h : k23.M w base ok x cs) : cs = [.int .i64 x.f0, .int .i64 x.f1, .int .i64 x.f2, .int .i64 x.f3, .int .i64 x.f4] := by
  obtain ⟨_, _, rfl, rfl, ⟨_, _, rfl, rfl, ⟨_, _, rfl, rfl, ⟨_, _, rfl, rfl, rfl⟩⟩⟩⟩ := h
  exact rfl
theorem k23_mk (w : World) (x : S23)  : k23.K w x [.int .i64 x.f0, .int .i64 x.f1, .int .i64 x.f2, .int .i64 x.f3, .int .i64 x.f4] := ⟨[.int .i64 x.f0], [.int .i64 x.f1, .int .i64 x.f2, .int .i64 x.f3, .int .i64 x.f4], rfl, rfl, ⟨[.int .i64 x.f1], [.int .i64 x.f2, .int .i64 x.f3, .int .i64 x.f4], rfl, rfl, ⟨[.int .i64 x.f2], [.int .i64 x.f3, .int .i64 x.f4], rfl, rfl, ⟨[.int .i64 x.f3], [.int .i64 x.f4], rfl, rfl, rfl⟩⟩⟩⟩
theorem k23_mkM (w : World) (base : Nat) (ok : Nat → Prop) (x : S23)  : k23.M w base ok x [.int .i64 x.f0, .int .i64 x.f1, .int .i64 x.f2, .int .i64 x.f3, .int .i64 x.f4] := ⟨[.int .i64 x.f0], [.int .i64 x.f1, .int .i64 x.f2, .int .i64 x.f3, .int .i64 x.f4], rfl, rfl, ⟨[.int .i64 x.f1], [.int .i64 x.f2, .int .i64 x.f3, .int .i64 x.f4], rfl, rfl, ⟨[.int .i64 x.f2], [.int .i64 x.f3, .int .i64 x.f4], rfl, rfl, ⟨[.int .i64 x.f3], [.int .i64 x.f4], rfl, rfl, rfl⟩⟩⟩⟩
def rd_T23 (xs : List S23) (i : Int) : S23 := xs.getD i.toNat z23
theorem at_T23 {w : World} {A : Option Addr} {n : Nat} {xs : List S23} (h : Kd.C k23 w A n xs) (i : Int) (h0 : 0 ≤ i) (h1 : i < n) : ∃ ad , A = some ad ∧ w.cell? (ad.add (i.toNat * 5)) = some (.int .i64 (rd_T23 xs i).f0) ∧ w.cell? ⟨(ad.add (i.toNat * 5)).block, (ad.add (i.toNat * 5)).off + 1, none⟩ = some (.int .i64 (rd_T23 xs i).f1) ∧ w.cell? ⟨(ad.add (i.toNat * 5)).block, (ad.add (i.toNat * 5)).off + 2, none⟩ = some (.int .i64 (rd_T23 xs i).f2) ∧ w.cell? ⟨(ad.add (i.toNat * 5)).block, (ad.add (i.toNat * 5)).off + 3, none⟩ = some (.int .i64 (rd_T23 xs i).f3) ∧ w.cell? ⟨(ad.add (i.toNat * 5)).block, (ad.add (i.toNat * 5)).off + 4, none⟩ = some (.int .i64 (rd_T23 xs i).f4) := by
  obtain ⟨ad, c, e, _, hK, hc0⟩ := Kd.C_get h z23 i h0 h1
  have hc : ∀ j u, c[j]? = some u → w.cell? (ad.add (i.toNat * 5 + j)) = some u := hc0
  obtain rfl := k23_open hK
  exact ⟨ad, e, hc 0 _ rfl, by rw [← add_field _ _ 1 (by omega)]; exact hc 1 _ rfl, by rw [← add_field _ _ 2 (by omega)]; exact hc 2 _ rfl, by rw [← add_field _ _ 3 (by omega)]; exact hc 3 _ rfl, by rw [← add_field _ _ 4 (by omega)]; exact hc 4 _ rfl⟩

/-! ### words of the prover's: an array's elements, and a block whose cells are whole numbers -/
theorem run_index_agg {P : Program} (w : World) (t e : TypeId) (n : Nat) (d : TypeDesc) (cs : Array Value) (k : IntKind) (i : Nat) (v : Value) (h : P.underlying t = some (.array n e)) (hd : P.underlying e = some d) (hna : (match d with | .struct _ | .array _ _ => true | _ => false) = false) (hs : (P.info? e).map (·.size) = some 1) (hi : i < n) (hv : cs[i]? = some v) :
    (Instr.index t (.agg cs) (.int k (i : Int))).run P w = .ok v w := by
  have hagg : (isAgg e).run P w = .ok false w := by
    unfold isAgg
    rw [Sem.run_bind, run_underlying hd w]
    cases d <;> simp_all
  cases hq : P.info? e with
  | none => simp [hq] at hs
  | some j =>
    have hj : j.size = 1 := by simpa [hq] using hs
    simp [Instr.index, asIntOf, Sem.run_bind, run_underlying h w, sizeOf, typeInfo, hq, hj, part, hagg, hv]
    intro hle
    omega
def intsA (xs : List Int) : Array Value := (xs.map (Value.int .i64)).toArray
theorem intsA_size (xs : List Int) : (intsA xs).size = xs.length := by
  unfold intsA
  rw [List.size_toArray, List.length_map]
theorem intsA_get (xs : List Int) (i : Nat) (h : i < xs.length) : (intsA xs)[i]? = some (.int .i64 (xs.getD i 0)) := by
  unfold intsA
  rw [List.getElem?_toArray, List.getElem?_map, List.getElem?_eq_getElem h, List.getD_eq_getElem?_getD, List.getElem?_eq_getElem h]; rfl
theorem intsA_set (xs : List Int) (i : Nat) (v : Int) : (intsA xs).setIfInBounds i (.int .i64 v) = intsA (xs.set i v) := by
  unfold intsA
  rw [List.setIfInBounds_toArray, List.map_set]
theorem blk_ints {w : World} {g : Nat} {t : TypeId} {xs : List Int} (h : w.heap[g]? = some (.cells (intsA xs) t (0, 0))) (i : Nat) (hi : i < xs.length) : w.cell? ⟨g, i, none⟩ = some (.int .i64 (xs.getD i 0)) := (blk_cell h i).trans (intsA_get xs i hi)
theorem blk_ints_set {w : World} {g : Nat} {t : TypeId} {xs : List Int} (h : w.heap[g]? = some (.cells (intsA xs) t (0, 0))) (i : Nat) (v : Int) : (w.setCell ⟨g, i, none⟩ (.int .i64 v)).heap[g]? = some (.cells (intsA (xs.set i v)) t (0, 0)) := intsA_set xs i v ▸ blk_set h i (.int .i64 v)
section
variable {P : Program} {ops : Array Oper} {o : Oper} {a : Act} {Q : Exit → Act → World → Prop} {Kc : Act → World → Prop}
/-- append(b, s..), as one step of a region that draws its order. -/
theorem append_str_step {w0 W : World} (base : Nat) (hw : Region.wanted o (yielded ops a.tmps) = true) (s x : Operand) (t u e : TypeId)
    (ho : o.op = .call { callee := .builtin .append, args := #[s, x], argTypes := #[t, u] })
    (ht : P.underlying t = some (.slice e)) (hu : P.underlying u = some .string) (hinfo : (P.info? e).map (fun i => (i.zero, i.size, i.bytes)) = some (some (.int .u8 0), 1, 1))
    (v : Value) (xs : List Int) (y : ByteArray) (hs : a.eval s = v) (hx : a.eval x = .string y)
    (HO : W.ownsRow base e 1 v xs.length (nums .u8 xs)) (HB : Below base w0 W) (hbase : base ≤ W.heap.size) (hl : xs.length + y.size ≤ 140737488355328)
    (h : ∀ v1 w1, w1.ownsRow base e 1 v1 (xs ++ bytesOf y).length (nums .u8 (xs ++ bytesOf y)) → Below base w0 w1 → W.grownBy w1 v.ownBlock → Kc (a.put o.dst v1) w1) :
    if Region.wanted o (yielded ops a.tmps) = true then Oper.wp P o a W Kc Q else Kc (a.put o.dst undef) W := by
  rw [if_pos hw]
  obtain ⟨i0, hi, hzz⟩ := Option.map_eq_some_iff.1 hinfo
  simp only [Prod.mk.injEq] at hzz
  obtain ⟨hz0, hz1, hz2⟩ := hzz
  obtain ⟨v1, w1, hr, hown, hg, _⟩ := Lib.run_append_own_string (P := P) W base t u o.type e i0 ht hu hi hz0 hz1 hz2 v xs.length (nums .u8 xs) HO y (by simp only [maxLen]; omega) hl hbase
  have hl2 : (xs ++ bytesOf y).length = xs.length + y.size := by rw [List.length_append, bytesOf_length]
  have hc : nums .u8 (xs ++ bytesOf y) = nums .u8 xs ++ Lib.strCells y := by
    rw [nums_append]
    congr 1
    simp [nums, bytesOf, Lib.strCells]
  unfold Oper.wp execOp
  simp only [ho, resolve, invoke, builtin, Sem.run_bind, Sem.run_pure, Result.andThen_ok, List.map_toArray, List.map_cons, List.map_nil, hs, hx, hr]
  exact h v1 w1 (by rw [hl2, hc]; exact hown) (HB.grown hg hbase (own_base HO)) hg
end
/-- a letter's place and 1; 0: it is none -/
def sxVal : List UInt8 → Nat → Nat
  | [], _ => 0
  | c :: l, b => if c.toNat = b then 1 else if sxVal l b = 0 then 0 else sxVal l b + 1
def sxV (s : ByteArray) (b : Int) : Int := (sxVal s.data.toList b.toNat : Nat)
def sxF (s : ByteArray) (b : Int) : Option Int := some (sxV s b)
/-- the table of letters -/
def sxTab (l : List UInt8) : List Int := (List.range 256).map fun b => ((sxVal l b : Nat) : Int)
theorem sxTab_len (l : List UInt8) : (sxTab l).length = 256 := by unfold sxTab; rw [List.length_map, List.length_range]
theorem sxTab_get (l : List UInt8) (b : Nat) (h : b < 256) : (sxTab l).getD b 0 = ((sxVal l b : Nat) : Int) := by
  unfold sxTab
  rw [List.getD_eq_getElem?_getD, List.getElem?_map, List.getElem?_range h]; rfl
def sxCells (s : ByteArray) (l : List UInt8) : Array Value := (Value.string s :: (sxTab l).map (Value.int .i64)).toArray
/-- a coder lies at a block -/
def Coder (T : TypeId) (w : World) (g : Nat) (s : ByteArray) : Prop := w.heap[g]? = some (.cells (sxCells s s.data.toList) T (0, 0))
theorem sxCells_val (s : ByteArray) (l : List UInt8) (b : Nat) (h : b < 256) : (sxCells s l)[1 + b]? = some (.int .i64 (sxVal l b : Nat)) := by
  unfold sxCells
  rw [List.getElem?_toArray, Nat.add_comm, List.getElem?_cons_succ, List.getElem?_map, List.getElem?_eq_getElem (by rw [sxTab_len]; exact h)]
  have e := sxTab_get l b h
  rw [List.getD_eq_getElem?_getD, List.getElem?_eq_getElem (by rw [sxTab_len]; exact h)] at e
  simp only [Option.getD_some] at e
  rw [e]; rfl
theorem Coder.letters {T : TypeId} {w : World} {g : Nat} {s : ByteArray} (h : Coder T w g s) : w.cell? ⟨g, 0, none⟩ = some (.string s) := (blk_cell h 0).trans rfl
theorem Coder.value {T : TypeId} {w : World} {g : Nat} {s : ByteArray} (h : Coder T w g s) (b : Nat) (hb : b < 256) : w.cell? ⟨g, 1 + b, none⟩ = some (.int .i64 (sxVal s.data.toList b : Nat)) := (blk_cell h (1 + b)).trans (sxCells_val s _ b hb)
theorem Coder.below {T : TypeId} {w w' : World} {B g : Nat} {s : ByteArray} (h : Coder T w g s) (hb : Below B w w') (hg : g < B) : Coder T w' g s := (hb.block g hg).trans h
theorem bt_range (s : ByteArray) (i : Int) : 0 ≤ bt s i ∧ bt s i < 256 := by
  unfold bt
  split
  · rename_i h
    have := (s[i.toNat]'h).toNat_lt
    exact ⟨Int.natCast_nonneg _, by omega⟩
  · exact ⟨Int.le_refl _, by decide⟩
theorem sxVal_snoc (l : List UInt8) (c : UInt8) (b : Nat) : sxVal (l ++ [c]) b = if sxVal l b = 0 then (if c.toNat = b then l.length + 1 else 0) else sxVal l b := by
  induction l with
  | nil =>
    show (if c.toNat = b then 1 else if (0 : Nat) = 0 then 0 else 0 + 1) = if (0 : Nat) = 0 then (if c.toNat = b then 1 else 0) else 0
    rw [if_pos rfl, if_pos rfl]
  | cons a l ih =>
    rw [List.cons_append, sxVal, ih, sxVal]
    by_cases h : a.toNat = b
    · rw [if_pos h, if_pos h, if_neg (by decide)]
    · rw [if_neg h, if_neg h]
      by_cases z : sxVal l b = 0
      · rw [if_pos z, if_pos z, if_pos rfl]
        by_cases e : c.toNat = b
        · rw [if_pos e, if_pos e, if_neg (by omega), List.length_cons]
        · rw [if_neg e, if_neg e, if_pos rfl]
      · rw [if_neg z, if_neg z, if_neg (by omega)]
theorem sxTab_set (l : List UInt8) (c : UInt8) (h : sxVal l c.toNat = 0) : (sxTab l).set c.toNat ((l.length : Int) + 1) = sxTab (l ++ [c]) := by
  have hc := c.toNat_lt
  refine List.ext_getElem (by rw [List.length_set, sxTab_len, sxTab_len]) fun i h1 h2 => ?_
  rw [List.length_set, sxTab_len] at h1
  have g : ∀ m (hm : i < (sxTab m).length), (sxTab m)[i] = ((sxVal m i : Nat) : Int) := fun m hm => by
    simp only [sxTab, List.getElem_map, List.getElem_range]
  rw [List.getElem_set, g _ h2, sxVal_snoc]
  by_cases e : c.toNat = i
  · rw [if_pos e, if_pos (by rw [← e]; exact h), if_pos e]; omega
  · rw [if_neg e, g _ (by rw [sxTab_len]; exact h1), if_neg e]
    by_cases z : sxVal l i = 0
    · rw [if_pos z, z]
    · rw [if_neg z]
theorem sxCells_set (s : ByteArray) (l : List UInt8) (c : UInt8) (h : sxVal l c.toNat = 0) : (sxCells s l).setIfInBounds (1 + c.toNat) (.int .i64 ((l.length : Int) + 1)) = sxCells s (l ++ [c]) := by
  unfold sxCells
  rw [List.setIfInBounds_toArray, Nat.add_comm, List.set_cons_succ, ← sxTab_set l c h, List.map_set]
def sxZ : Array Value := sxCells ⟨#[]⟩ []
theorem sxZ_ne : ¬ (sxZ = #[]) := fun h => by
  have := congrArg Array.size h
  unfold sxZ sxCells at this
  simp at this
theorem sxZ_set (s : ByteArray) : sxZ.setIfInBounds 0 (.string s) = sxCells s [] := by
  unfold sxZ sxCells
  rw [List.setIfInBounds_toArray, List.set_cons_zero]
/-- why letters are none for a coder -/
def sxErrA : List UInt8 → List UInt8 → Int
  | _, [] => 0
  | d, c :: l => if c.toNat < 33 ∨ 126 < c.toNat then 8 else if 0 < sxVal d c.toNat then 15 else sxErrA (d ++ [c]) l
def sxErr (s : ByteArray) : Int := if s.size = 64 then sxErrA [] s.data.toList else 9
def NewPost (T : TypeId) (s : ByteArray) (w : World) (e : Ending) (w' : World) : Prop :=
  (sxErr s = 0 ∧ ∃ g, w.heap.size ≤ g ∧ e = .returned (.tuple #[.pointer (some ⟨g, 0, none⟩), .int .i64 0]) ∧ Coder T w' g s ∧ Below w.heap.size w w') ∨ (sxErr s ≠ 0 ∧ e = .returned (.tuple #[.pointer none, .int .i64 (sxErr s)]) ∧ Below w.heap.size w w')
theorem below_of_drawn {w w' : World} (h : Drawn0 w w') : Below w.heap.size w w' := by
  obtain ⟨n, rfl⟩ := h
  exact pw_below_drewN (Below.refl _ _) n
theorem one_string (W : World) (x : ByteArray) (t : TypeId) : Kd.C Kd.string (W.alloc (.cells #[.string x] t)) (some ⟨W.heap.size, 0, none⟩) 1 [x] := by
  refine ⟨rfl, by decide, fun _ => ⟨_, rfl, fun j p hj => ?_⟩⟩
  have hj0 : j = 0 := by
    have := (List.getElem?_eq_some_iff.1 hj).1
    simp at this; exact this
  subst hj0
  obtain rfl : x = p := Option.some.inj hj
  refine ⟨[.string x], rfl, rfl, fun i u hi => ?_⟩
  have hi0 : i = 0 := by
    have := (List.getElem?_eq_some_iff.1 hi).1
    simp at this; exact this
  subst hi0
  obtain rfl : Value.string x = u := Option.some.inj hi
  exact (blk_cell (blk_new W (.cells #[.string x] t)) 0).trans rfl
theorem Coder.alloc {T : TypeId} {w : World} {g : Nat} {s : ByteArray} (h : Coder T w g s) (o : Obj) : Coder T (w.alloc o) g s := blk_alloc h o
/-- how many letters bytes have -/
def sxLetters (n : Int) : Int := if n < 0 then 0 else if 576460752303423488 < n then 0 else (8 * n + 5) / 6
def sxPlain : ByteArray := (⟨#[65, 66, 67, 68, 69, 70, 71, 72, 73, 74, 75, 76, 77, 78, 79, 80, 81, 82, 83, 84, 85, 86, 87, 88, 89, 90, 97, 98, 99, 100, 101, 102, 103, 104, 105, 106, 107, 108, 109, 110, 111, 112, 113, 114, 115, 116, 117, 118, 119, 120, 121, 122, 48, 49, 50, 51, 52, 53, 54, 55, 56, 57, 43, 47]⟩ : ByteArray)
theorem sxPlain_ok : sxErr sxPlain = 0 := by decide +kernel
def sxCrypt : ByteArray := (⟨#[46, 47, 65, 66, 67, 68, 69, 70, 71, 72, 73, 74, 75, 76, 77, 78, 79, 80, 81, 82, 83, 84, 85, 86, 87, 88, 89, 90, 97, 98, 99, 100, 101, 102, 103, 104, 105, 106, 107, 108, 109, 110, 111, 112, 113, 114, 115, 116, 117, 118, 119, 120, 121, 122, 48, 49, 50, 51, 52, 53, 54, 55, 56, 57]⟩ : ByteArray)
theorem sxCrypt_ok : sxErr sxCrypt = 0 := by decide +kernel
/-- a plain64 code lies at a block, its coder at another -/
def P64 (T T2 : TypeId) (w : World) (g c : Nat) (l m : Int) : Prop := w.heap[g]? = some (.cells #[.pointer (some ⟨c, 0, none⟩), .int .i64 l, .int .i64 m] T (0, 0)) ∧ Coder T2 w c sxPlain
theorem P64.below {T T2 : TypeId} {w w' : World} {B g c : Nat} {l m : Int} (h : P64 T T2 w g c l m) (hb : Below B w w') (hg : g < B) (hc : c < B) : P64 T T2 w' g c l m := ⟨(hb.block g hg).trans h.1, h.2.below hb hc⟩
theorem P64.lt {T T2 : TypeId} {w : World} {g c : Nat} {l m : Int} (h : P64 T T2 w g c l m) : g < w.heap.size ∧ c < w.heap.size := ⟨blk_lt h.1, blk_lt h.2⟩
theorem P64.alloc {T T2 : TypeId} {w : World} {g c : Nat} {l m : Int} (h : P64 T T2 w g c l m) (o : Obj) : P64 T T2 (w.alloc o) g c l m := ⟨blk_alloc h.1 o, h.2.alloc o⟩
theorem P64.next {T T2 : TypeId} {w w' : World} {g c : Nat} {l m : Int} (h : P64 T T2 w g c l m) (hb : Below w.heap.size w w') : P64 T T2 w' g c l m := h.below hb h.lt.1 h.lt.2
theorem P64.c0 {T T2 : TypeId} {w : World} {g c : Nat} {l m : Int} (h : P64 T T2 w g c l m) : w.cell? ⟨g, 0, none⟩ = some (.pointer (some ⟨c, 0, none⟩)) := (blk_cell h.1 0).trans rfl
theorem P64.c1 {T T2 : TypeId} {w : World} {g c : Nat} {l m : Int} (h : P64 T T2 w g c l m) : w.cell? ⟨g, 1, none⟩ = some (.int .i64 l) := (blk_cell h.1 1).trans rfl
theorem P64.c2 {T T2 : TypeId} {w : World} {g c : Nat} {l m : Int} (h : P64 T T2 w g c l m) : w.cell? ⟨g, 2, none⟩ = some (.int .i64 m) := (blk_cell h.1 2).trans rfl
theorem alloc1_gen {P : World → Prop} {w : World} {x : ByteArray} {t : TypeId} (h : ∀ w1, Kd.C Kd.string w1 (some ⟨w.heap.size, 0, none⟩) 1 [x] → Below w.heap.size w w1 → P w1) : P (w.alloc (.cells #[.string x] t)) := h _ (one_string _ _ _) (below_alloc (Below.refl _ _) _)
/-- a crypt64 code lies at a block, its coder at another -/
def C64 (T T2 : TypeId) (w : World) (g c : Nat) : Prop := w.heap[g]? = some (.cells #[.pointer (some ⟨c, 0, none⟩)] T (0, 0)) ∧ Coder T2 w c sxCrypt
theorem C64.below {T T2 : TypeId} {w w' : World} {B g c : Nat} (h : C64 T T2 w g c) (hb : Below B w w') (hg : g < B) (hc : c < B) : C64 T T2 w' g c := ⟨(hb.block g hg).trans h.1, h.2.below hb hc⟩
theorem C64.lt {T T2 : TypeId} {w : World} {g c : Nat} (h : C64 T T2 w g c) : g < w.heap.size ∧ c < w.heap.size := ⟨blk_lt h.1, blk_lt h.2⟩
theorem C64.next {T T2 : TypeId} {w w' : World} {g c : Nat} (h : C64 T T2 w g c) (hb : Below w.heap.size w w') : C64 T T2 w' g c := h.below hb h.lt.1 h.lt.2
theorem C64.c0 {T T2 : TypeId} {w : World} {g c : Nat} (h : C64 T T2 w g c) : w.cell? ⟨g, 0, none⟩ = some (.pointer (some ⟨c, 0, none⟩)) := (blk_cell h.1 0).trans rfl
theorem C64.coder {T T2 : TypeId} {w : World} {g c : Nat} (h : C64 T T2 w g c) : Coder T2 w c sxCrypt := h.2
theorem P64.coder {T T2 : TypeId} {w : World} {g c : Nat} {l m : Int} (h : P64 T T2 w g c l m) : Coder T2 w c sxPlain := h.2

end Go.Proofs.Ytiicjhibnobhdaa.Pall
