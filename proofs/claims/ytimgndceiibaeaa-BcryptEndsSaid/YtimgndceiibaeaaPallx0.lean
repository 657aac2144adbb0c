-- PRINTED by print.py (a twelfth state) out of the translation. Not trusted: Lean checks it.
import Derived.Test.YtimgndceiibaeaaProg
import Derived.Below
import Derived.StillTailTactics
import Derived.Laws.CopyOwn
import Derived.Lib.SlBytesConst
import Derived.Deep.Draws
import Derived.Deep.AppendLies
import Derived.Maps.AppendAt
import Derived.OwnWalk
import Derived.Laws.BytesArg
import Derived.Laws.MakeOwn
import Derived.Laws.OwnMore
import Derived.Deep.OwnRows
import Derived.Tactics
import Derived.Lib.ConvBytes
import Derived.Laws.Slices
import Derived.WalkKit
import Derived.KernelRfl
import Derived.RowKit3
import Derived.Deep.LoopGhost
import Derived.Deep.QuietTactic
import Derived.BigQuiet
import Derived.WideLaws
import Derived.Deep.DeepCutAuto
import Derived.Deep.CutBlock
import Derived.Deep.RegionHeld3
import Derived.Laws.Rows
import Derived.Lib.AppendStr
import Derived.ArgAppend
import Derived.Laws.IdiomCopy
import Derived.OrdersHeld
import Derived.Laws.BitsLemmas
import Derived.RowKit
import Derived.Test.YtimgndceiibaeaaWWords
import Derived.Test.YtimgndceiibaeaaWLast
import Derived.Test.YtimgndceiibaeaaWTab
import Derived.Test.YtimgndceiibaeaaWFour
import Derived.Test.YtimgndceiibaeaaWQPut
import Derived.Test.YtimgndceiibaeaaWApart
import Derived.Test.YtimgndceiibaeaaWArr
import Derived.Test.YtimgndceiibaeaaWZeros
import Derived.Test.YtimgndceiibaeaaWFoot
import Derived.Test.YtimgndceiibaeaaWKept
import Derived.Test.YtimgndceiibaeaaWShare
import Derived.Test.YtimgndceiibaeaaWN
import Derived.Test.YtimgndceiibaeaaWFootNe
import Derived.Test.YtimgndceiibaeaaWAt
import Derived.Test.YtimgndceiibaeaaWEqStruct
import Derived.Test.YtimgndceiibaeaaWRepsOne
import Derived.Test.YtimgndceiibaeaaWInv
import Derived.Test.YtimgndceiibaeaaWInvWords
import Derived.Test.YtimgndceiibaeaaWGuard
import Derived.Test.YtimgndceiibaeaaWNEv
import Derived.Test.YtimgndceiibaeaaWMore
namespace Go.Proofs.Ytimgndceiibaeaa.Pall
open Go.RowKit Go.Proofs.YtimgndceiibaeaaW.PrintWords Go.Proofs.YtimgndceiibaeaaW.PrintLast Go.Proofs.YtimgndceiibaeaaW.PrintMore
attribute [local go_sem] max2_int min2_int max_two min_two max_three min_three max_four min_four   -- for this text's walks alone
set_option linter.unusedVariables false
set_option linter.unusedSimpArgs false



def errW : Option Int → Value
  | none => .nilIface
  | some c => .iface 0 (.int .i64 c)
theorem errW_none : errW none = .nilIface := rfl
theorem errW_some (c : Int) : errW (some c) = .iface 0 (.int .i64 c) := rfl

theorem info5 : (Try.prog.info? 5).map (fun i => (i.zero, i.size, i.bytes)) = some (some (.int .u8 0), 1, 1) := by kernel_rfl
theorem info23 : (Try.prog.info? 23).map (fun i => (i.zero, i.size, i.bytes)) = some (some (.int .u32 0), 1, 4) := by kernel_rfl
-- the values' own types

/-! ### words of the prover's: an array's elements, and a block whose cells are whole numbers -/
theorem run_index_agg {P : Program} (w : World) (t e : TypeId) (n : Nat) (d : TypeDesc) (cs : Array Value) (k : IntKind) (i : Nat) (v : Value) (h : P.underlying t = some (.array n e)) (hd : P.underlying e = some d) (hna : (match d with | .struct _ | .array _ _ => true | _ => false) = false) (hs : (P.info? e).map (·.size) = some 1) (hi : i < n) (hv : cs[i]? = some v) :
    (Instr.index t (.agg cs) (.int k (i : Int))).run P w = .ok v w := by
  have hagg : (isAgg e).run P w = .ok false w := by
    unfold isAgg
    rw [Sem.run_bind, run_underlying hd w]
    cases d <;> simp_all
  cases hq : P.info? e with
  | none => simp [hq] at hs
  | some j =>
    have hj : j.size = 1 := by simpa [hq] using hs
    simp [Instr.index, asIntOf, Sem.run_bind, run_underlying h w, sizeOf, typeInfo, hq, hj, part, hagg, hv]
    intro hle
    omega
def intsA (xs : List Int) : Array Value := (xs.map (Value.int .i64)).toArray
theorem intsA_size (xs : List Int) : (intsA xs).size = xs.length := by
  unfold intsA
  rw [List.size_toArray, List.length_map]
theorem intsA_get (xs : List Int) (i : Nat) (h : i < xs.length) : (intsA xs)[i]? = some (.int .i64 (xs.getD i 0)) := by
  unfold intsA
  rw [List.getElem?_toArray, List.getElem?_map, List.getElem?_eq_getElem h, List.getD_eq_getElem?_getD, List.getElem?_eq_getElem h]; rfl
theorem intsA_set (xs : List Int) (i : Nat) (v : Int) : (intsA xs).setIfInBounds i (.int .i64 v) = intsA (xs.set i v) := by
  unfold intsA
  rw [List.setIfInBounds_toArray, List.map_set]
theorem blk_ints {w : World} {g : Nat} {t : TypeId} {xs : List Int} (h : w.heap[g]? = some (.cells (intsA xs) t (0, 0))) (i : Nat) (hi : i < xs.length) : w.cell? ⟨g, i, none⟩ = some (.int .i64 (xs.getD i 0)) := (blk_cell h i).trans (intsA_get xs i hi)
theorem blk_ints_set {w : World} {g : Nat} {t : TypeId} {xs : List Int} (h : w.heap[g]? = some (.cells (intsA xs) t (0, 0))) (i : Nat) (v : Int) : (w.setCell ⟨g, i, none⟩ (.int .i64 v)).heap[g]? = some (.cells (intsA (xs.set i v)) t (0, 0)) := intsA_set xs i v ▸ blk_set h i (.int .i64 v)
section
variable {P : Program} {ops : Array Oper} {o : Oper} {a : Act} {Q : Exit → Act → World → Prop} {Kc : Act → World → Prop}
/-- append(b, s..), as one step of a region that draws its order. -/
theorem append_str_step {w0 W : World} (base : Nat) (hw : Region.wanted o (yielded ops a.tmps) = true) (s x : Operand) (t u e : TypeId)
    (ho : o.op = .call { callee := .builtin .append, args := #[s, x], argTypes := #[t, u] })
    (ht : P.underlying t = some (.slice e)) (hu : P.underlying u = some .string) (hinfo : (P.info? e).map (fun i => (i.zero, i.size, i.bytes)) = some (some (.int .u8 0), 1, 1))
    (v : Value) (xs : List Int) (y : ByteArray) (hs : a.eval s = v) (hx : a.eval x = .string y)
    (HO : W.ownsRow base e 1 v xs.length (nums .u8 xs)) (HB : Below base w0 W) (hbase : base ≤ W.heap.size) (hl : xs.length + y.size ≤ 140737488355328)
    (h : ∀ v1 w1, w1.ownsRow base e 1 v1 (xs ++ bytesOf y).length (nums .u8 (xs ++ bytesOf y)) → Below base w0 w1 → W.grownBy w1 v.ownBlock → Kc (a.put o.dst v1) w1) :
    if Region.wanted o (yielded ops a.tmps) = true then Oper.wp P o a W Kc Q else Kc (a.put o.dst undef) W := by
  rw [if_pos hw]
  obtain ⟨i0, hi, hzz⟩ := Option.map_eq_some_iff.1 hinfo
  simp only [Prod.mk.injEq] at hzz
  obtain ⟨hz0, hz1, hz2⟩ := hzz
  obtain ⟨v1, w1, hr, hown, hg, _⟩ := Lib.run_append_own_string (P := P) W base t u o.type e i0 ht hu hi hz0 hz1 hz2 v xs.length (nums .u8 xs) HO y (by simp only [maxLen]; omega) hl hbase
  have hl2 : (xs ++ bytesOf y).length = xs.length + y.size := by rw [List.length_append, bytesOf_length]
  have hc : nums .u8 (xs ++ bytesOf y) = nums .u8 xs ++ Lib.strCells y := by
    rw [nums_append]
    congr 1
    simp [nums, bytesOf, Lib.strCells]
  unfold Oper.wp execOp
  simp only [ho, resolve, invoke, builtin, Sem.run_bind, Sem.run_pure, Result.andThen_ok, List.map_toArray, List.map_cons, List.map_nil, hs, hx, hr]
  exact h v1 w1 (by rw [hl2, hc]; exact hown) (HB.grown hg hbase (own_base HO)) hg
end
/-- a letter's place and 1; 0: it is none -/
def sxVal : List UInt8 → Nat → Nat
  | [], _ => 0
  | c :: l, b => if c.toNat = b then 1 else if sxVal l b = 0 then 0 else sxVal l b + 1
def sxV (s : ByteArray) (b : Int) : Int := (sxVal s.data.toList b.toNat : Nat)
def sxF (s : ByteArray) (b : Int) : Option Int := some (sxV s b)
/-- the table of letters -/
def sxTab (l : List UInt8) : List Int := (List.range 256).map fun b => ((sxVal l b : Nat) : Int)
theorem sxTab_len (l : List UInt8) : (sxTab l).length = 256 := by unfold sxTab; rw [List.length_map, List.length_range]
theorem sxTab_get (l : List UInt8) (b : Nat) (h : b < 256) : (sxTab l).getD b 0 = ((sxVal l b : Nat) : Int) := by
  unfold sxTab
  rw [List.getD_eq_getElem?_getD, List.getElem?_map, List.getElem?_range h]; rfl
def sxCells (s : ByteArray) (l : List UInt8) : Array Value := (Value.string s :: (sxTab l).map (Value.int .i64)).toArray
/-- a coder lies at a block -/
def Coder (T : TypeId) (w : World) (g : Nat) (s : ByteArray) : Prop := w.heap[g]? = some (.cells (sxCells s s.data.toList) T (0, 0))
theorem sxCells_val (s : ByteArray) (l : List UInt8) (b : Nat) (h : b < 256) : (sxCells s l)[1 + b]? = some (.int .i64 (sxVal l b : Nat)) := by
  unfold sxCells
  rw [List.getElem?_toArray, Nat.add_comm, List.getElem?_cons_succ, List.getElem?_map, List.getElem?_eq_getElem (by rw [sxTab_len]; exact h)]
  have e := sxTab_get l b h
  rw [List.getD_eq_getElem?_getD, List.getElem?_eq_getElem (by rw [sxTab_len]; exact h)] at e
  simp only [Option.getD_some] at e
  rw [e]; rfl
theorem Coder.letters {T : TypeId} {w : World} {g : Nat} {s : ByteArray} (h : Coder T w g s) : w.cell? ⟨g, 0, none⟩ = some (.string s) := (blk_cell h 0).trans rfl
theorem Coder.value {T : TypeId} {w : World} {g : Nat} {s : ByteArray} (h : Coder T w g s) (b : Nat) (hb : b < 256) : w.cell? ⟨g, 1 + b, none⟩ = some (.int .i64 (sxVal s.data.toList b : Nat)) := (blk_cell h (1 + b)).trans (sxCells_val s _ b hb)
theorem Coder.below {T : TypeId} {w w' : World} {B g : Nat} {s : ByteArray} (h : Coder T w g s) (hb : Below B w w') (hg : g < B) : Coder T w' g s := (hb.block g hg).trans h
theorem bt_range (s : ByteArray) (i : Int) : 0 ≤ bt s i ∧ bt s i < 256 := by
  unfold bt
  split
  · rename_i h
    have := (s[i.toNat]'h).toNat_lt
    exact ⟨Int.natCast_nonneg _, by omega⟩
  · exact ⟨Int.le_refl _, by decide⟩
theorem sxVal_snoc (l : List UInt8) (c : UInt8) (b : Nat) : sxVal (l ++ [c]) b = if sxVal l b = 0 then (if c.toNat = b then l.length + 1 else 0) else sxVal l b := by
  induction l with
  | nil =>
    show (if c.toNat = b then 1 else if (0 : Nat) = 0 then 0 else 0 + 1) = if (0 : Nat) = 0 then (if c.toNat = b then 1 else 0) else 0
    rw [if_pos rfl, if_pos rfl]
  | cons a l ih =>
    rw [List.cons_append, sxVal, ih, sxVal]
    by_cases h : a.toNat = b
    · rw [if_pos h, if_pos h, if_neg (by decide)]
    · rw [if_neg h, if_neg h]
      by_cases z : sxVal l b = 0
      · rw [if_pos z, if_pos z, if_pos rfl]
        by_cases e : c.toNat = b
        · rw [if_pos e, if_pos e, if_neg (by omega), List.length_cons]
        · rw [if_neg e, if_neg e, if_pos rfl]
      · rw [if_neg z, if_neg z, if_neg (by omega)]
theorem sxTab_set (l : List UInt8) (c : UInt8) (h : sxVal l c.toNat = 0) : (sxTab l).set c.toNat ((l.length : Int) + 1) = sxTab (l ++ [c]) := by
  have hc := c.toNat_lt
  refine List.ext_getElem (by rw [List.length_set, sxTab_len, sxTab_len]) fun i h1 h2 => ?_
  rw [List.length_set, sxTab_len] at h1
  have g : ∀ m (hm : i < (sxTab m).length), (sxTab m)[i] = ((sxVal m i : Nat) : Int) := fun m hm => by
    simp only [sxTab, List.getElem_map, List.getElem_range]
  rw [List.getElem_set, g _ h2, sxVal_snoc]
  by_cases e : c.toNat = i
  · rw [if_pos e, if_pos (by rw [← e]; exact h), if_pos e]; omega
  · rw [if_neg e, g _ (by rw [sxTab_len]; exact h1), if_neg e]
    by_cases z : sxVal l i = 0
    · rw [if_pos z, z]
    · rw [if_neg z]
theorem sxCells_set (s : ByteArray) (l : List UInt8) (c : UInt8) (h : sxVal l c.toNat = 0) : (sxCells s l).setIfInBounds (1 + c.toNat) (.int .i64 ((l.length : Int) + 1)) = sxCells s (l ++ [c]) := by
  unfold sxCells
  rw [List.setIfInBounds_toArray, Nat.add_comm, List.set_cons_succ, ← sxTab_set l c h, List.map_set]
def sxZ : Array Value := sxCells ⟨#[]⟩ []
theorem sxZ_ne : ¬ (sxZ = #[]) := fun h => by
  have := congrArg Array.size h
  unfold sxZ sxCells at this
  simp at this
theorem sxZ_set (s : ByteArray) : sxZ.setIfInBounds 0 (.string s) = sxCells s [] := by
  unfold sxZ sxCells
  rw [List.setIfInBounds_toArray, List.set_cons_zero]
/-- why letters are none for a coder -/
def sxErrA : List UInt8 → List UInt8 → Int
  | _, [] => 0
  | d, c :: l => if c.toNat < 33 ∨ 126 < c.toNat then 8 else if 0 < sxVal d c.toNat then 15 else sxErrA (d ++ [c]) l
def sxErr (s : ByteArray) : Int := if s.size = 64 then sxErrA [] s.data.toList else 9
def NewPost (T : TypeId) (s : ByteArray) (w : World) (e : Ending) (w' : World) : Prop :=
  (sxErr s = 0 ∧ ∃ g, w.heap.size ≤ g ∧ e = .returned (.tuple #[.pointer (some ⟨g, 0, none⟩), .int .i64 0]) ∧ Coder T w' g s ∧ Below w.heap.size w w') ∨ (sxErr s ≠ 0 ∧ e = .returned (.tuple #[.pointer none, .int .i64 (sxErr s)]) ∧ Below w.heap.size w w')
theorem below_of_drawn {w w' : World} (h : Drawn0 w w') : Below w.heap.size w w' := by
  obtain ⟨n, rfl⟩ := h
  exact pw_below_drewN (Below.refl _ _) n
theorem one_string (W : World) (x : ByteArray) (t : TypeId) : Kd.C Kd.string (W.alloc (.cells #[.string x] t)) (some ⟨W.heap.size, 0, none⟩) 1 [x] := by
  refine ⟨rfl, by decide, fun _ => ⟨_, rfl, fun j p hj => ?_⟩⟩
  have hj0 : j = 0 := by
    have := (List.getElem?_eq_some_iff.1 hj).1
    simp at this; exact this
  subst hj0
  obtain rfl : x = p := Option.some.inj hj
  refine ⟨[.string x], rfl, rfl, fun i u hi => ?_⟩
  have hi0 : i = 0 := by
    have := (List.getElem?_eq_some_iff.1 hi).1
    simp at this; exact this
  subst hi0
  obtain rfl : Value.string x = u := Option.some.inj hi
  exact (blk_cell (blk_new W (.cells #[.string x] t)) 0).trans rfl
theorem Coder.alloc {T : TypeId} {w : World} {g : Nat} {s : ByteArray} (h : Coder T w g s) (o : Obj) : Coder T (w.alloc o) g s := blk_alloc h o
/-- how many letters bytes have -/
def sxLetters (n : Int) : Int := if n < 0 then 0 else if 576460752303423488 < n then 0 else (8 * n + 5) / 6
def sxPlain : ByteArray := (⟨#[65, 66, 67, 68, 69, 70, 71, 72, 73, 74, 75, 76, 77, 78, 79, 80, 81, 82, 83, 84, 85, 86, 87, 88, 89, 90, 97, 98, 99, 100, 101, 102, 103, 104, 105, 106, 107, 108, 109, 110, 111, 112, 113, 114, 115, 116, 117, 118, 119, 120, 121, 122, 48, 49, 50, 51, 52, 53, 54, 55, 56, 57, 43, 47]⟩ : ByteArray)
theorem sxPlain_ok : sxErr sxPlain = 0 := by decide +kernel
def sxCrypt : ByteArray := (⟨#[46, 47, 65, 66, 67, 68, 69, 70, 71, 72, 73, 74, 75, 76, 77, 78, 79, 80, 81, 82, 83, 84, 85, 86, 87, 88, 89, 90, 97, 98, 99, 100, 101, 102, 103, 104, 105, 106, 107, 108, 109, 110, 111, 112, 113, 114, 115, 116, 117, 118, 119, 120, 121, 122, 48, 49, 50, 51, 52, 53, 54, 55, 56, 57]⟩ : ByteArray)
theorem sxCrypt_ok : sxErr sxCrypt = 0 := by decide +kernel
/-- a plain64 code lies at a block, its coder at another -/
def P64 (T T2 : TypeId) (w : World) (g c : Nat) (l m : Int) : Prop := w.heap[g]? = some (.cells #[.pointer (some ⟨c, 0, none⟩), .int .i64 l, .int .i64 m] T (0, 0)) ∧ Coder T2 w c sxPlain
theorem P64.below {T T2 : TypeId} {w w' : World} {B g c : Nat} {l m : Int} (h : P64 T T2 w g c l m) (hb : Below B w w') (hg : g < B) (hc : c < B) : P64 T T2 w' g c l m := ⟨(hb.block g hg).trans h.1, h.2.below hb hc⟩
theorem P64.lt {T T2 : TypeId} {w : World} {g c : Nat} {l m : Int} (h : P64 T T2 w g c l m) : g < w.heap.size ∧ c < w.heap.size := ⟨blk_lt h.1, blk_lt h.2⟩
theorem P64.alloc {T T2 : TypeId} {w : World} {g c : Nat} {l m : Int} (h : P64 T T2 w g c l m) (o : Obj) : P64 T T2 (w.alloc o) g c l m := ⟨blk_alloc h.1 o, h.2.alloc o⟩
theorem P64.next {T T2 : TypeId} {w w' : World} {g c : Nat} {l m : Int} (h : P64 T T2 w g c l m) (hb : Below w.heap.size w w') : P64 T T2 w' g c l m := h.below hb h.lt.1 h.lt.2
theorem P64.c0 {T T2 : TypeId} {w : World} {g c : Nat} {l m : Int} (h : P64 T T2 w g c l m) : w.cell? ⟨g, 0, none⟩ = some (.pointer (some ⟨c, 0, none⟩)) := (blk_cell h.1 0).trans rfl
theorem P64.c1 {T T2 : TypeId} {w : World} {g c : Nat} {l m : Int} (h : P64 T T2 w g c l m) : w.cell? ⟨g, 1, none⟩ = some (.int .i64 l) := (blk_cell h.1 1).trans rfl
theorem P64.c2 {T T2 : TypeId} {w : World} {g c : Nat} {l m : Int} (h : P64 T T2 w g c l m) : w.cell? ⟨g, 2, none⟩ = some (.int .i64 m) := (blk_cell h.1 2).trans rfl
theorem alloc1_gen {P : World → Prop} {w : World} {x : ByteArray} {t : TypeId} (h : ∀ w1, Kd.C Kd.string w1 (some ⟨w.heap.size, 0, none⟩) 1 [x] → Below w.heap.size w w1 → P w1) : P (w.alloc (.cells #[.string x] t)) := h _ (one_string _ _ _) (below_alloc (Below.refl _ _) _)
/-- a crypt64 code lies at a block, its coder at another -/
def C64 (T T2 : TypeId) (w : World) (g c : Nat) : Prop := w.heap[g]? = some (.cells #[.pointer (some ⟨c, 0, none⟩)] T (0, 0)) ∧ Coder T2 w c sxCrypt
theorem C64.below {T T2 : TypeId} {w w' : World} {B g c : Nat} (h : C64 T T2 w g c) (hb : Below B w w') (hg : g < B) (hc : c < B) : C64 T T2 w' g c := ⟨(hb.block g hg).trans h.1, h.2.below hb hc⟩
theorem C64.lt {T T2 : TypeId} {w : World} {g c : Nat} (h : C64 T T2 w g c) : g < w.heap.size ∧ c < w.heap.size := ⟨blk_lt h.1, blk_lt h.2⟩
theorem C64.next {T T2 : TypeId} {w w' : World} {g c : Nat} (h : C64 T T2 w g c) (hb : Below w.heap.size w w') : C64 T T2 w' g c := h.below hb h.lt.1 h.lt.2
theorem C64.c0 {T T2 : TypeId} {w : World} {g c : Nat} (h : C64 T T2 w g c) : w.cell? ⟨g, 0, none⟩ = some (.pointer (some ⟨c, 0, none⟩)) := (blk_cell h.1 0).trans rfl
theorem C64.coder {T T2 : TypeId} {w : World} {g c : Nat} (h : C64 T T2 w g c) : Coder T2 w c sxCrypt := h.2
theorem P64.coder {T T2 : TypeId} {w : World} {g c : Nat} {l m : Int} (h : P64 T T2 w g c l m) : Coder T2 w c sxPlain := h.2
/-! ### Blowfish's tables, in lists -/
def ciW (t : List Nat) (i : Nat) : Nat := t.getD i 0
def ciF (t : List Nat) (x : Nat) : Nat := ((((ciW t (18 + x / 16777216) + ciW t (274 + x / 65536 % 256)) % 4294967296) ^^^ ciW t (530 + x / 256 % 256)) + ciW t (786 + x % 256)) % 4294967296
def ciEncR (t : List Nat) : Nat → Nat → Nat → Nat → Nat × Nat
  | 0, _, l, r => (l, r)
  | n + 1, i, l, r => ciEncR t n (i + 1) (r ^^^ ciF t (l ^^^ ciW t i)) (l ^^^ ciW t i)
def ciEnc (t : List Nat) (l r : Nat) : Nat × Nat := ((ciEncR t 16 0 l r).2 ^^^ ciW t 17, (ciEncR t 16 0 l r).1 ^^^ ciW t 16)
def ciDecR (t : List Nat) : Nat → Nat → Nat → Nat × Nat
  | 0, l, r => (l, r)
  | n + 1, l, r => ciDecR t n (r ^^^ ciF t (l ^^^ ciW t (n + 2))) (l ^^^ ciW t (n + 2))
def ciDec (t : List Nat) (l r : Nat) : Nat × Nat := ((ciDecR t 16 l r).2 ^^^ ciW t 0, (ciDecR t 16 l r).1 ^^^ ciW t 1)
/-- the key's words, from the i-th on -/
def ciKey (kw : Nat → Nat) : Nat → Nat → List Nat → List Nat
  | 0, _, t => t
  | n + 1, i, t => ciKey kw n (i + 1) (t.set i (ciW t i ^^^ kw i))
def ciChain (sw : Nat → Nat) : Nat → Nat → Nat → Nat → List Nat → List Nat
  | 0, _, _, _, t => t
  | n + 1, i, l, r, t => ciChain sw n (i + 2) (ciEnc t (l ^^^ sw i) (r ^^^ sw (i + 1))).1 (ciEnc t (l ^^^ sw i) (r ^^^ sw (i + 1))).2 ((t.set i (ciEnc t (l ^^^ sw i) (r ^^^ sw (i + 1))).1).set (i + 1) (ciEnc t (l ^^^ sw i) (r ^^^ sw (i + 1))).2)
def ciExpand (t : List Nat) (sw kw : Nat → Nat) : List Nat := ciChain sw 521 0 0 0 (ciKey kw 18 0 t)
def ciOk (t : List Nat) : Prop := t.length = 1042 ∧ ∀ i, ciW t i < 4294967296
theorem ciW_set {t : List Nat} {i j v : Nat} (h : i < t.length) : ciW (t.set i v) j = if j = i then v else ciW t j := by
  unfold ciW
  rw [List.getD_eq_getElem?_getD, List.getD_eq_getElem?_getD, List.getElem?_set]
  by_cases e : i = j
  · subst e; rw [if_pos rfl, if_pos rfl, if_pos h]; rfl
  · rw [if_neg e, if_neg (fun q => e q.symm)]
theorem ciOk_set {t : List Nat} (h : ciOk t) {i v : Nat} (hi : i < 1042) (hv : v < 4294967296) : ciOk (t.set i v) := by
  refine ⟨by rw [List.length_set, h.1], fun j => ?_⟩
  rw [ciW_set (by rw [h.1]; exact hi)]
  split
  · exact hv
  · exact h.2 j
theorem ci_xor {a b : Nat} (ha : a < 4294967296) (hb : b < 4294967296) : a ^^^ b < 4294967296 := Nat.xor_lt_two_pow (n := 32) ha hb
theorem ciF_lt (t : List Nat) (x : Nat) : ciF t x < 4294967296 := Nat.mod_lt _ (by omega)
theorem ciEncR_lt {t : List Nat} (h : ciOk t) : ∀ n i l r, l < 4294967296 → r < 4294967296 → (ciEncR t n i l r).1 < 4294967296 ∧ (ciEncR t n i l r).2 < 4294967296
  | 0, _, _, _, hl, hr => ⟨hl, hr⟩
  | n + 1, _, _, _, hl, hr => ciEncR_lt h n _ _ _ (ci_xor hr (ciF_lt _ _)) (ci_xor hl (h.2 _))
theorem ciEnc_lt {t : List Nat} (h : ciOk t) {l r : Nat} (hl : l < 4294967296) (hr : r < 4294967296) : (ciEnc t l r).1 < 4294967296 ∧ (ciEnc t l r).2 < 4294967296 :=
  ⟨ci_xor (ciEncR_lt h 16 0 l r hl hr).2 (h.2 _), ci_xor (ciEncR_lt h 16 0 l r hl hr).1 (h.2 _)⟩
theorem ciDecR_lt {t : List Nat} (h : ciOk t) : ∀ n l r, l < 4294967296 → r < 4294967296 → (ciDecR t n l r).1 < 4294967296 ∧ (ciDecR t n l r).2 < 4294967296
  | 0, _, _, hl, hr => ⟨hl, hr⟩
  | n + 1, _, _, hl, hr => ciDecR_lt h n _ _ (ci_xor hr (ciF_lt _ _)) (ci_xor hl (h.2 _))
theorem ciDec_lt {t : List Nat} (h : ciOk t) {l r : Nat} (hl : l < 4294967296) (hr : r < 4294967296) : (ciDec t l r).1 < 4294967296 ∧ (ciDec t l r).2 < 4294967296 :=
  ⟨ci_xor (ciDecR_lt h 16 l r hl hr).2 (h.2 _), ci_xor (ciDecR_lt h 16 l r hl hr).1 (h.2 _)⟩
theorem ciKey_ok (kw : Nat → Nat) (hk : ∀ i, kw i < 4294967296) : ∀ n i t, i + n ≤ 18 → ciOk t → ciOk (ciKey kw n i t)
  | 0, _, _, _, h => h
  | n + 1, i, _, hn, h => ciKey_ok kw hk n (i + 1) _ (by omega) (ciOk_set h (by omega) (ci_xor (h.2 _) (hk _)))
theorem ciChain_ok (sw : Nat → Nat) (hs : ∀ i, sw i < 4294967296) : ∀ n i l r t, i + 2 * n ≤ 1042 → l < 4294967296 → r < 4294967296 → ciOk t → ciOk (ciChain sw n i l r t)
  | 0, _, _, _, _, _, _, _, h => h
  | n + 1, i, l, r, t, hn, hl, hr, h => by
    have e := ciEnc_lt h (ci_xor hl (hs i)) (ci_xor hr (hs (i + 1)))
    exact ciChain_ok sw hs n (i + 2) _ _ _ (by omega) e.1 e.2 (ciOk_set (ciOk_set h (by omega) e.1) (by omega) e.2)
theorem ciExpand_ok {t : List Nat} (h : ciOk t) {sw kw : Nat → Nat} (hs : ∀ i, sw i < 4294967296) (hk : ∀ i, kw i < 4294967296) : ciOk (ciExpand t sw kw) :=
  ciChain_ok sw hs 521 0 0 0 _ (by omega) (by omega) (by omega) (ciKey_ok kw hk 18 0 t (by omega) h)
/-- a text's byte, round and round -/
def ciB (s : ByteArray) (j : Nat) : Nat := if s.size = 0 then 0 else (s.data.toList.getD (j % s.size) 0).toNat
def ciAt (s : ByteArray) (j : Nat) : Nat := if s.size = 0 then 0 else j % s.size
/-- so many bytes of a word -/
def ciWj (s : ByteArray) (i : Nat) : Nat → Nat
  | 0 => 0
  | j + 1 => ciWj s i j * 256 + ciB s (4 * i + j)
def ciWord (s : ByteArray) (i : Nat) : Nat := ciWj s i 4
theorem ciB_lt (s : ByteArray) (j : Nat) : ciB s j < 256 := by
  unfold ciB
  split
  · decide
  · exact (s.data.toList.getD (j % s.size) 0).toNat_lt
theorem ciWj_lt (s : ByteArray) (i : Nat) : ∀ j, ciWj s i j < 256 ^ j
  | 0 => by show 0 < 1; decide
  | j + 1 => by
    have h := ciWj_lt s i j
    have b := ciB_lt s (4 * i + j)
    show ciWj s i j * 256 + ciB s (4 * i + j) < 256 ^ (j + 1)
    rw [Nat.pow_succ]
    generalize 256 ^ j = q at h
    omega
theorem ciWord_lt (s : ByteArray) (i : Nat) : ciWord s i < 4294967296 := ciWj_lt s i 4
/-! ### where they lie -/
def ciA (t : List Nat) : Array Value := (t.map fun (n : Nat) => Value.int .u32 (n : Int)).toArray
theorem ciA_size (t : List Nat) : (ciA t).size = t.length := by
  unfold ciA
  rw [List.size_toArray, List.length_map]
theorem ciA_get (t : List Nat) (i : Nat) (h : i < t.length) : (ciA t)[i]? = some (.int .u32 (ciW t i : Nat)) := by
  unfold ciA ciW
  rw [List.getElem?_toArray, List.getElem?_map, List.getElem?_eq_getElem h, List.getD_eq_getElem?_getD, List.getElem?_eq_getElem h]; rfl
theorem ciA_set (t : List Nat) (i v : Nat) : (ciA t).setIfInBounds i (.int .u32 (v : Int)) = ciA (t.set i v) := by
  unfold ciA
  rw [List.setIfInBounds_toArray, List.map_set]
def Ci (T : TypeId) (w : World) (g : Nat) (t : List Nat) : Prop := w.heap[g]? = some (.cells (ciA t) T (0, 0))
theorem Ci.cell {T : TypeId} {w : World} {g : Nat} {t : List Nat} (h : Ci T w g t) (ho : ciOk t) (i : Nat) (hi : i < 1042) : w.cell? ⟨g, i, none⟩ = some (.int .u32 (ciW t i : Nat)) := (blk_cell h i).trans (ciA_get t i (by rw [ho.1]; exact hi))
theorem Ci.frozen {T : TypeId} {w : World} {g : Nat} {t : List Nat} (h : Ci T w g t) (i : Nat) : w.frozen? ⟨g, i, none⟩ = false := blk_frozen h i
theorem Ci.put {T : TypeId} {w : World} {g : Nat} {t : List Nat} (h : Ci T w g t) (i v : Nat) : Ci T (w.setCell ⟨g, i, none⟩ (.int .u32 (v : Int))) g (t.set i v) := by
  have q := blk_set h i (.int .u32 (v : Int))
  rw [ciA_set] at q
  exact q
theorem Ci.below {T : TypeId} {w w' : World} {B g : Nat} {t : List Nat} (h : Ci T w g t) (hb : Below B w w') (hg : g < B) : Ci T w' g t := (hb.block g hg).trans h
theorem Ci.lt {T : TypeId} {w : World} {g : Nat} {t : List Nat} (h : Ci T w g t) : g < w.heap.size := blk_lt h
theorem Ci.next {T : TypeId} {w w' : World} {g : Nat} {t : List Nat} (h : Ci T w g t) (hb : Below w.heap.size w w') : Ci T w' g t := h.below hb h.lt
/-- all blocks that there were but one are as they were -/
structure But (g : Nat) (w w' : World) : Prop where
  os : w'.os = w.os
  tape : w'.tape = w.tape
  output : w'.output = w.output
  size : w.heap.size ≤ w'.heap.size
  block : ∀ k, k < w.heap.size → k ≠ g → w'.heap[k]? = w.heap[k]?
theorem But.of {g : Nat} {w w' : World} (h : Below w.heap.size w w') : But g w w' := ⟨h.os, h.tape, h.output, h.size, fun k hk _ => h.block k hk⟩
theorem But.trans {g : Nat} {a b c : World} (h : But g a b) (k : But g b c) : But g a c :=
  ⟨k.os.trans h.os, k.tape.trans h.tape, k.output.trans h.output, Nat.le_trans h.size k.size, fun i hi hg => (k.block i (Nat.lt_of_lt_of_le hi h.size) hg).trans (h.block i hi hg)⟩
theorem But.step {B g : Nat} {a b c : World} (h : Below B a b) (k : But g b c) (hg : B ≤ g) (hB : B ≤ b.heap.size) : Below B a c :=
  ⟨k.os.trans h.os, k.tape.trans h.tape, k.output.trans h.output, Nat.le_trans h.size k.size, fun i hi => (k.block i (by omega) (by omega)).trans (h.block i hi)⟩
theorem But.ci {T : TypeId} {w w' : World} {g g' : Nat} {t : List Nat} (h : Ci T w g' t) (k : But g w w') (hg : g' ≠ g) : Ci T w' g' t := (k.block g' h.lt hg).trans h
theorem ci_bxor (a b : Nat) (ha : a < 4294967296) (hb : b < 4294967296) : bits .xor .u32 (a : Int) (b : Int) = ((a ^^^ b : Nat) : Int) := by
  have hx : a ^^^ b < 2 ^ 32 := Nat.xor_lt_two_pow (by omega) (by omega)
  have h1 : (BitVec.ofInt 32 (a : Int)).toNat = a := by
    rw [BitVec.ofInt_natCast, BitVec.toNat_ofNat]; exact Nat.mod_eq_of_lt (by omega)
  have h2 : (BitVec.ofInt 32 (b : Int)).toNat = b := by
    rw [BitVec.ofInt_natCast, BitVec.toNat_ofNat]; exact Nat.mod_eq_of_lt (by omega)
  show IntKind.u32.wrap ((BitVec.ofInt 32 (a : Int) ^^^ BitVec.ofInt 32 (b : Int)).toNat : Int) = _
  rw [BitVec.toNat_xor, h1, h2, IntKind.wrap_u32]
  omega
theorem ci_band (a : Nat) (ha : a < 4294967296) : bits .and .u32 (a : Int) 255 = ((a % 256 : Nat) : Int) := by
  have h1 : (BitVec.ofInt 32 (a : Int)).toNat = a := by
    rw [BitVec.ofInt_natCast, BitVec.toNat_ofNat]; exact Nat.mod_eq_of_lt (by omega)
  show IntKind.u32.wrap ((BitVec.ofInt 32 (a : Int) &&& BitVec.ofInt 32 255).toNat : Int) = _
  rw [BitVec.toNat_and, h1, show (BitVec.ofInt 32 255).toNat = 2 ^ 8 - 1 from rfl, Nat.and_two_pow_sub_one_eq_mod, IntKind.wrap_u32]
  omega
theorem ci_bor (a b : Nat) (ha : a < 16777216) (hb : b < 256) : bits .or .u32 ((a : Int) * 256) (b : Int) = (a : Int) * 256 + (b : Int) := by
  rw [show (a : Int) * 256 = ((a * 256 : Nat) : Int) by omega]
  have hx : a * 256 ||| b < 2 ^ 32 := Nat.or_lt_two_pow (by omega) (by omega)
  have h1 : (BitVec.ofInt 32 ((a * 256 : Nat) : Int)).toNat = a * 256 := by
    rw [BitVec.ofInt_natCast, BitVec.toNat_ofNat]; exact Nat.mod_eq_of_lt (by omega)
  have h2 : (BitVec.ofInt 32 (b : Int)).toNat = b := by
    rw [BitVec.ofInt_natCast, BitVec.toNat_ofNat]; exact Nat.mod_eq_of_lt (by omega)
  show IntKind.u32.wrap ((BitVec.ofInt 32 ((a * 256 : Nat) : Int) ||| BitVec.ofInt 32 (b : Int)).toNat : Int) = _
  have e : a * 256 ||| b = a * 256 + b := by
    have := Nat.shiftLeft_add_eq_or_of_lt (b := b) (i := 8) (by omega) a
    rw [Nat.shiftLeft_eq] at this
    exact this.symm
  rw [BitVec.toNat_or, h1, h2, e, IntKind.wrap_u32]
  omega
theorem ci_store {oi : Oper} {a : Act} {w : World} {A B : Tmp} {g i : Nat} {n : Int} {u : Value} (hop : oi.op = .store 23 (.tmp A) (.tmp B)) (ha : a.eval (.tmp A) = .pointer (some ⟨g, i, none⟩)) (hb : a.eval (.tmp B) = .int .u32 n) (hc : w.cell? ⟨g, i, none⟩ = some u) (hf : w.frozen? ⟨g, i, none⟩ = false) : (execOp a.eval oi).run Try.prog w = .ok .skip (w.setCell ⟨g, i, none⟩ (.int .u32 n)) := by
  unfold execOp
  simp only [hop, ha, hb]
  go_simp
def ciE : ByteArray := ⟨#[]⟩
theorem ci_empty {s : ByteArray} : (s.toList == ([] : List UInt8)) = decide (s.size = 0) ∧ s.toList.isEmpty = decide (s.size = 0) := by
  have h : s.toList.length = s.size := by rw [ByteArray.toList_eq]; exact Array.length_toList
  rw [← h]
  cases s.toList <;> exact ⟨rfl, rfl⟩
def ciI (t : List Nat) : List Int := t.map fun (n : Nat) => (n : Int)
theorem ciI_len (t : List Nat) : (ciI t).length = t.length := List.length_map _
theorem ciI_rd (t : List Nat) (i : Nat) (h : i < t.length) : rd (ciI t) (i : Int) = ((ciW t i : Nat) : Int) := by
  have e : rd (ciI t) (i : Int) = (ciI t).getD i 0 := rfl
  rw [e]
  unfold ciI ciW
  rw [List.getD_eq_getElem?_getD, List.getElem?_map, List.getElem?_eq_getElem h, List.getD_eq_getElem?_getD, List.getElem?_eq_getElem h]; rfl
def ciMix (t : List Nat) (m : Nat) : List Nat := t.take m ++ List.replicate (1042 - m) 0
def ciV (t : List Nat) (m n : Nat) : List Value := ((t.drop m).take n).map fun (n : Nat) => Value.int .u32 (n : Int)
theorem ciV_len {t : List Nat} (h : t.length = 1042) {m n : Nat} (hm : m + n ≤ 1042) : (ciV t m n).length = n := by
  unfold ciV
  rw [List.length_map, List.length_take, List.length_drop]; omega
theorem ciV_one (t : List Nat) (m n : Nat) : ∀ v ∈ ciV t m n, v.oneCell' = true := by
  intro v hv
  unfold ciV at hv
  obtain ⟨x, _, rfl⟩ := List.mem_map.mp hv
  rfl
theorem ciV_get {t : List Nat} {m n j : Nat} {v : Value} (h : (ciV t m n)[j]? = some v) (ht : t.length = 1042) : m + j < 1042 ∧ v = .int .u32 ((ciW t (m + j) : Nat) : Int) := by
  unfold ciV at h
  rw [List.getElem?_map, Option.map_eq_some_iff] at h
  obtain ⟨x, hx, rfl⟩ := h
  obtain ⟨h1, h2⟩ := List.getElem?_eq_some_iff.mp hx
  rw [List.length_take, List.length_drop] at h1
  rw [List.getElem_take, List.getElem_drop] at h2
  refine ⟨by omega, ?_⟩
  unfold ciW
  rw [List.getD_eq_getElem?_getD, List.getElem?_eq_getElem (by omega), ← h2]; rfl
theorem ciMix_put {t : List Nat} (h : t.length = 1042) {m n : Nat} (hm : m + n ≤ 1042) : ((ciA (ciMix t m)).toList.take m ++ (ciV t m n ++ (ciA (ciMix t m)).toList.drop (m + n))).toArray = ciA (ciMix t (m + n)) := by
  unfold ciA ciMix ciV
  simp only [List.map_append, List.map_replicate]
  congr 1
  have l1 : (List.map (fun (n : Nat) => Value.int .u32 (n : Int)) (t.take m)).length = m := by rw [List.length_map, List.length_take]; omega
  rw [List.take_left' l1, ← List.drop_drop, List.drop_left' l1, List.drop_replicate, ← List.append_assoc, ← List.map_append, ← List.take_add, show 1042 - m - n = 1042 - (m + n) by omega]
theorem ciMix_zero : ciMix [] 0 = List.replicate 1042 0 := rfl
theorem ciMix_start (t : List Nat) : ciMix t 0 = List.replicate 1042 0 := by unfold ciMix; rw [List.take_zero]; rfl
theorem ciMix_end {t : List Nat} (h : t.length = 1042) : ciMix t 1042 = t := by
  unfold ciMix
  rw [List.take_of_length_le (by omega), Nat.sub_self]
  exact List.append_nil _
theorem ciMix_len {t : List Nat} (h : t.length = 1042) {m : Nat} (hm : m ≤ 1042) : (ciMix t m).length = 1042 := by
  unfold ciMix
  rw [List.length_append, List.length_take, List.length_replicate]; omega
theorem ci_add0 (a : Addr) : a.add 0 = a := by
  obtain ⟨b, o, p⟩ := a
  unfold Addr.add
  split <;> simp_all
/-- the document's plain table lies in a row: its cells -/
theorem ci_src {w : World} {ad : Addr} {n : Nat} {t : List Nat} (h : (Kd.int .u32).C w (some ad) n (ciI t)) (hn : n = 1042) (ht : t.length = 1042) (m k : Nat) : ∀ j v, (ciV t m k)[j]? = some v → w.cell? ((ad.add m).add j) = some v := by
  intro j v hv
  obtain ⟨h1, rfl⟩ := ciV_get hv ht
  have q := Kd.foot_int h ((m + j : Nat) : Int) (by omega) (by omega)
  rw [ciI_rd t (m + j) (by omega)] at q
  rw [Addr.add_add]
  exact q
/-- words of the plain table copied into the block -/
theorem But.below {B g : Nat} {w0 w w' : World} (hb : Below B w0 w) (k : But g w w') (hg : B ≤ g) (hB : B ≤ w.heap.size) : Below B w0 w' := But.step hb k hg hB

end Go.Proofs.Ytimgndceiibaeaa.Pall
