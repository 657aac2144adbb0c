-- PRINTED by print.py (a twelfth state) out of the translation. Not trusted: Lean checks it.
import Derived.Test.YtoknoghdnedmhaaPallx0
import Derived.Test.YtoknoghdnedmhaaPallx1
import Derived.Test.YtoknoghdnedmhaaPallx4
import Derived.Test.YtoknoghdnedmhaaPallx5
import Derived.Test.YtoknoghdnedmhaaPallx8
import Derived.Test.YtoknoghdnedmhaaPallx10
namespace Go.Proofs.Ytoknoghdnedmhaa.Pall
open Go.RowKit Go.Proofs.YtoknoghdnedmhaaW.PrintWords Go.Proofs.YtoknoghdnedmhaaW.PrintLast Go.Proofs.YtoknoghdnedmhaaW.PrintMore
attribute [local go_sem] max2_int min2_int max_two min_two max_three min_three max_four min_four   -- for this text's walks alone
set_option linter.unusedVariables false
set_option linter.unusedSimpArgs false

attribute [local go_sem high] eqA49
/-! ### pestlelaw53_LineWrites: function 11 -/
mutual
def pestlelaw53_LineWrites.j0 : Nat → List (S49) → ByteArray → Bool → Option (Bool)
  | 0, _, _, _ => none
  | k + 1, x0, x1, x33 => if x33 = true then (some true) else (pestlelaw53_LineWrites.l0 k x0 x1 (⟨#[]⟩ : ByteArray) 0 x0 (x0.length : Int) 0)
def pestlelaw53_LineWrites.l0 : Nat → List (S49) → ByteArray → ByteArray → Int → List (S49) → Int → Int → Option (Bool)
  | 0, _, _, _, _, _, _, _ => none
  | k + 1, x0, x1, x5, x6, x34, x35, x36 => if x36 < x35 then (if 0 ≤ x36 then (if x36 < (x34.length : Int) then (if (((rd_T49 x34 x36).f1).size : Int) > 300 then (pestlelaw53_LineWrites.j2 k x0 x1 x5 x6 x34 x35 x36 true ((rd_T49 x34 x36).f0) ((rd_T49 x34 x36).f1) ((rd_T49 x34 x36).f2)) else (pestlelaw53_LineWrites.j2 k x0 x1 x5 x6 x34 x35 x36 (decide ((((rd_T49 x34 x36).f2).size : Int) > 300)) ((rd_T49 x34 x36).f0) ((rd_T49 x34 x36).f1) ((rd_T49 x34 x36).f2))) else (none)) else (none)) else ((line_Lines.f k x0).bind fun bt283 => (if x6 = 0 then ((line_All.f k bt283.1).bind fun bt285 => (if bt283.2 = 0 then (if bt283.1.toList = x5.toList then (if bt285.2.2 = 0 then (if bt285.2.1 = 0 then ((pestleref53_Same.f k x0 bt285.1).bind fun t290 => (pestlelaw53_LineWrites.j5 k x1 (!t290))) else (pestlelaw53_LineWrites.j5 k x1 true)) else (pestlelaw53_LineWrites.j5 k x1 true)) else (pestlelaw53_LineWrites.j5 k x1 true)) else (pestlelaw53_LineWrites.j5 k x1 true))) else (if bt283.2 = x6 then (some (bt283.1.toList == ([] : List UInt8))) else (some false))))
def pestlelaw53_LineWrites.j2 : Nat → List (S49) → ByteArray → ByteArray → Int → List (S49) → Int → Int → Bool → Int → ByteArray → ByteArray → Option (Bool)
  | 0, _, _, _, _, _, _, _, _, _, _, _ => none
  | k + 1, x0, x1, x5, x6, x34, x35, x36, x49, x274000, x274001, x274002 => if x49 = true then (some true) else ((line_Line.f k x274000 x274001 x274002).bind fun bt274 => ((pestleref53_Line.f k x274000 x274001 x274002).bind fun bt276 => (if bt274.1.toList = bt276.1.toList then (pestlelaw53_LineWrites.j3 k x0 x1 x5 x6 bt274.1 bt274.2 bt276.1 bt276.2 x34 x35 x36 (bt274.2 != bt276.2) x274000 x274001 x274002) else (pestlelaw53_LineWrites.j3 k x0 x1 x5 x6 bt274.1 bt274.2 bt276.1 bt276.2 x34 x35 x36 true x274000 x274001 x274002))))
def pestlelaw53_LineWrites.j3 : Nat → List (S49) → ByteArray → ByteArray → Int → ByteArray → Int → ByteArray → Int → List (S49) → Int → Int → Bool → Int → ByteArray → ByteArray → Option (Bool)
  | 0, _, _, _, _, _, _, _, _, _, _, _, _, _, _, _ => none
  | k + 1, x0, x1, x5, x6, x9, x10, x11, x12, x34, x35, x36, x67, x274000, x274001, x274002 => if x67 = true then (some false) else (if x10 = 0 then ((line_Read.f k x9).bind fun bt278 => (if bt278.2.2.2 = 0 then (pestlelaw53_LineWrites.j4 k x0 x1 x5 x6 x11 x12 x34 x35 x36 (!(bt278.1 == x274000) || (!(bt278.2.1.toList == x274001.toList) || (!(bt278.2.2.1.toList == x274002.toList))))) else (pestlelaw53_LineWrites.j4 k x0 x1 x5 x6 x11 x12 x34 x35 x36 true))) else (if x6 = 0 then (if x5.size + x11.size ≤ 9223372036854775807 then (if (x5 ++ x11).size + 1 ≤ 9223372036854775807 then (pestlelaw53_LineWrites.l0 k x0 x1 ((x5 ++ x11) ++ (⟨#[10]⟩ : ByteArray)) x12 x34 x35 (wrap64 (x36 + 1))) else (none)) else (none)) else (if x5.size + x11.size ≤ 9223372036854775807 then (if (x5 ++ x11).size + 1 ≤ 9223372036854775807 then (pestlelaw53_LineWrites.l0 k x0 x1 ((x5 ++ x11) ++ (⟨#[10]⟩ : ByteArray)) x6 x34 x35 (wrap64 (x36 + 1))) else (none)) else (none))))
def pestlelaw53_LineWrites.j4 : Nat → List (S49) → ByteArray → ByteArray → Int → ByteArray → Int → List (S49) → Int → Int → Bool → Option (Bool)
  | 0, _, _, _, _, _, _, _, _, _, _ => none
  | k + 1, x0, x1, x5, x6, x11, x12, x34, x35, x36, x81 => if x81 = true then (some false) else (if x6 = 0 then (if x5.size + x11.size ≤ 9223372036854775807 then (if (x5 ++ x11).size + 1 ≤ 9223372036854775807 then (pestlelaw53_LineWrites.l0 k x0 x1 ((x5 ++ x11) ++ (⟨#[10]⟩ : ByteArray)) x12 x34 x35 (wrap64 (x36 + 1))) else (none)) else (none)) else (if x5.size + x11.size ≤ 9223372036854775807 then (if (x5 ++ x11).size + 1 ≤ 9223372036854775807 then (pestlelaw53_LineWrites.l0 k x0 x1 ((x5 ++ x11) ++ (⟨#[10]⟩ : ByteArray)) x6 x34 x35 (wrap64 (x36 + 1))) else (none)) else (none)))
def pestlelaw53_LineWrites.j5 : Nat → ByteArray → Bool → Option (Bool)
  | 0, _, _ => none
  | k + 1, x1, x130 => if x130 = true then (some false) else ((line_Read.f k x1).bind fun bt291 => (if bt291.2.2.2 = 0 then ((line_Line.f k bt291.1 bt291.2.1 bt291.2.2.1).bind fun bt296 => (if bt296.2 = 0 then (some (bt296.1.toList == x1.toList)) else (some false))) else (some (bt291.1 == 0 && (bt291.2.1.toList == ([] : List UInt8) && (bt291.2.2.1.toList == ([] : List UInt8)))))))
end
def pestlelaw53_LineWrites.f (k : Nat) (l0 : List (S49)) (a1 : ByteArray) : Option (Bool) := (pestlelaw53_awake.f k).bind fun t271 => (if t271 = true then (if (l0.length : Int) > 20 then (pestlelaw53_LineWrites.j0 k l0 a1 true) else (pestlelaw53_LineWrites.j0 k l0 a1 (decide ((a1.size : Int) > 1000)))) else (some false))
theorem pestlelaw53_LineWrites.mono_l : ∀ k, (∀ y0 y1 y2, LeO (pestlelaw53_LineWrites.j0 k y0 y1 y2) (pestlelaw53_LineWrites.j0 (k + 1) y0 y1 y2)) ∧ (∀ y0 y1 y2 y3 y4 y5 y6, LeO (pestlelaw53_LineWrites.l0 k y0 y1 y2 y3 y4 y5 y6) (pestlelaw53_LineWrites.l0 (k + 1) y0 y1 y2 y3 y4 y5 y6)) ∧ (∀ y0 y1 y2 y3 y4 y5 y6 y7 y8 y9 y10, LeO (pestlelaw53_LineWrites.j2 k y0 y1 y2 y3 y4 y5 y6 y7 y8 y9 y10) (pestlelaw53_LineWrites.j2 (k + 1) y0 y1 y2 y3 y4 y5 y6 y7 y8 y9 y10)) ∧ (∀ y0 y1 y2 y3 y4 y5 y6 y7 y8 y9 y10 y11 y12 y13 y14, LeO (pestlelaw53_LineWrites.j3 k y0 y1 y2 y3 y4 y5 y6 y7 y8 y9 y10 y11 y12 y13 y14) (pestlelaw53_LineWrites.j3 (k + 1) y0 y1 y2 y3 y4 y5 y6 y7 y8 y9 y10 y11 y12 y13 y14)) ∧ (∀ y0 y1 y2 y3 y4 y5 y6 y7 y8 y9, LeO (pestlelaw53_LineWrites.j4 k y0 y1 y2 y3 y4 y5 y6 y7 y8 y9) (pestlelaw53_LineWrites.j4 (k + 1) y0 y1 y2 y3 y4 y5 y6 y7 y8 y9)) ∧ (∀ y0 y1, LeO (pestlelaw53_LineWrites.j5 k y0 y1) (pestlelaw53_LineWrites.j5 (k + 1) y0 y1))
  | 0 => ⟨fun _ _ _ r h => by simp [pestlelaw53_LineWrites.j0] at h, fun _ _ _ _ _ _ _ r h => by simp [pestlelaw53_LineWrites.l0] at h, fun _ _ _ _ _ _ _ _ _ _ _ r h => by simp [pestlelaw53_LineWrites.j2] at h, fun _ _ _ _ _ _ _ _ _ _ _ _ _ _ _ r h => by simp [pestlelaw53_LineWrites.j3] at h, fun _ _ _ _ _ _ _ _ _ _ r h => by simp [pestlelaw53_LineWrites.j4] at h, fun _ _ r h => by simp [pestlelaw53_LineWrites.j5] at h⟩
  | k + 1 => by
    obtain ⟨ih0, ih1, ih2, ih3, ih4, ih5⟩ := pestlelaw53_LineWrites.mono_l k
    refine ⟨?_, ?_, ?_, ?_, ?_, ?_⟩
    · intro y0 y1 y2
      unfold pestlelaw53_LineWrites.j0
      repeat' first
      | (with_reducible exact ih0 _ _ _)
      | (with_reducible exact ih1 _ _ _ _ _ _ _)
      | (with_reducible exact ih2 _ _ _ _ _ _ _ _ _ _ _)
      | (with_reducible exact ih3 _ _ _ _ _ _ _ _ _ _ _ _ _ _ _)
      | (with_reducible exact ih4 _ _ _ _ _ _ _ _ _ _)
      | (with_reducible exact ih5 _ _)
      | (with_reducible exact line_All.mono _ _)
      | (with_reducible exact line_Line.mono _ _ _ _)
      | (with_reducible exact line_Lines.mono _ _)
      | (with_reducible exact line_Read.mono _ _)
      | (with_reducible exact pestlelaw53_awake.mono _)
      | (with_reducible exact pestleref53_Line.mono _ _ _ _)
      | (with_reducible exact pestleref53_Same.mono _ _ _)
      | (with_reducible exact LeO.refl _)
      | (with_reducible exact LeO.none _)
      | (with_reducible refine LeO.ite ?_ ?_)
      | (with_reducible refine LeO.bind ?_ (fun _ => ?_))
      | exact ih0 _ _ _
      | exact ih1 _ _ _ _ _ _ _
      | exact ih2 _ _ _ _ _ _ _ _ _ _ _
      | exact ih3 _ _ _ _ _ _ _ _ _ _ _ _ _ _ _
      | exact ih4 _ _ _ _ _ _ _ _ _ _
      | exact ih5 _ _
      | exact line_All.mono _ _
      | exact line_Line.mono _ _ _ _
      | exact line_Lines.mono _ _
      | exact line_Read.mono _ _
      | exact pestlelaw53_awake.mono _
      | exact pestleref53_Line.mono _ _ _ _
      | exact pestleref53_Same.mono _ _ _
      | exact LeO.none _
      | refine LeO.ite ?_ ?_
      | refine LeO.bind ?_ (fun _ => ?_)
    · intro y0 y1 y2 y3 y4 y5 y6
      unfold pestlelaw53_LineWrites.l0
      repeat' first
      | (with_reducible exact ih0 _ _ _)
      | (with_reducible exact ih1 _ _ _ _ _ _ _)
      | (with_reducible exact ih2 _ _ _ _ _ _ _ _ _ _ _)
      | (with_reducible exact ih3 _ _ _ _ _ _ _ _ _ _ _ _ _ _ _)
      | (with_reducible exact ih4 _ _ _ _ _ _ _ _ _ _)
      | (with_reducible exact ih5 _ _)
      | (with_reducible exact line_All.mono _ _)
      | (with_reducible exact line_Line.mono _ _ _ _)
      | (with_reducible exact line_Lines.mono _ _)
      | (with_reducible exact line_Read.mono _ _)
      | (with_reducible exact pestlelaw53_awake.mono _)
      | (with_reducible exact pestleref53_Line.mono _ _ _ _)
      | (with_reducible exact pestleref53_Same.mono _ _ _)
      | (with_reducible exact LeO.refl _)
      | (with_reducible exact LeO.none _)
      | (with_reducible refine LeO.ite ?_ ?_)
      | (with_reducible refine LeO.bind ?_ (fun _ => ?_))
      | exact ih0 _ _ _
      | exact ih1 _ _ _ _ _ _ _
      | exact ih2 _ _ _ _ _ _ _ _ _ _ _
      | exact ih3 _ _ _ _ _ _ _ _ _ _ _ _ _ _ _
      | exact ih4 _ _ _ _ _ _ _ _ _ _
      | exact ih5 _ _
      | exact line_All.mono _ _
      | exact line_Line.mono _ _ _ _
      | exact line_Lines.mono _ _
      | exact line_Read.mono _ _
      | exact pestlelaw53_awake.mono _
      | exact pestleref53_Line.mono _ _ _ _
      | exact pestleref53_Same.mono _ _ _
      | exact LeO.none _
      | refine LeO.ite ?_ ?_
      | refine LeO.bind ?_ (fun _ => ?_)
    · intro y0 y1 y2 y3 y4 y5 y6 y7 y8 y9 y10
      unfold pestlelaw53_LineWrites.j2
      repeat' first
      | (with_reducible exact ih0 _ _ _)
      | (with_reducible exact ih1 _ _ _ _ _ _ _)
      | (with_reducible exact ih2 _ _ _ _ _ _ _ _ _ _ _)
      | (with_reducible exact ih3 _ _ _ _ _ _ _ _ _ _ _ _ _ _ _)
      | (with_reducible exact ih4 _ _ _ _ _ _ _ _ _ _)
      | (with_reducible exact ih5 _ _)
      | (with_reducible exact line_All.mono _ _)
      | (with_reducible exact line_Line.mono _ _ _ _)
      | (with_reducible exact line_Lines.mono _ _)
      | (with_reducible exact line_Read.mono _ _)
      | (with_reducible exact pestlelaw53_awake.mono _)
      | (with_reducible exact pestleref53_Line.mono _ _ _ _)
      | (with_reducible exact pestleref53_Same.mono _ _ _)
      | (with_reducible exact LeO.refl _)
      | (with_reducible exact LeO.none _)
      | (with_reducible refine LeO.ite ?_ ?_)
      | (with_reducible refine LeO.bind ?_ (fun _ => ?_))
      | exact ih0 _ _ _
      | exact ih1 _ _ _ _ _ _ _
      | exact ih2 _ _ _ _ _ _ _ _ _ _ _
      | exact ih3 _ _ _ _ _ _ _ _ _ _ _ _ _ _ _
      | exact ih4 _ _ _ _ _ _ _ _ _ _
      | exact ih5 _ _
      | exact line_All.mono _ _
      | exact line_Line.mono _ _ _ _
      | exact line_Lines.mono _ _
      | exact line_Read.mono _ _
      | exact pestlelaw53_awake.mono _
      | exact pestleref53_Line.mono _ _ _ _
      | exact pestleref53_Same.mono _ _ _
      | exact LeO.none _
      | refine LeO.ite ?_ ?_
      | refine LeO.bind ?_ (fun _ => ?_)
    · intro y0 y1 y2 y3 y4 y5 y6 y7 y8 y9 y10 y11 y12 y13 y14
      unfold pestlelaw53_LineWrites.j3
      repeat' first
      | (with_reducible exact ih0 _ _ _)
      | (with_reducible exact ih1 _ _ _ _ _ _ _)
      | (with_reducible exact ih2 _ _ _ _ _ _ _ _ _ _ _)
      | (with_reducible exact ih3 _ _ _ _ _ _ _ _ _ _ _ _ _ _ _)
      | (with_reducible exact ih4 _ _ _ _ _ _ _ _ _ _)
      | (with_reducible exact ih5 _ _)
      | (with_reducible exact line_All.mono _ _)
      | (with_reducible exact line_Line.mono _ _ _ _)
      | (with_reducible exact line_Lines.mono _ _)
      | (with_reducible exact line_Read.mono _ _)
      | (with_reducible exact pestlelaw53_awake.mono _)
      | (with_reducible exact pestleref53_Line.mono _ _ _ _)
      | (with_reducible exact pestleref53_Same.mono _ _ _)
      | (with_reducible exact LeO.refl _)
      | (with_reducible exact LeO.none _)
      | (with_reducible refine LeO.ite ?_ ?_)
      | (with_reducible refine LeO.bind ?_ (fun _ => ?_))
      | exact ih0 _ _ _
      | exact ih1 _ _ _ _ _ _ _
      | exact ih2 _ _ _ _ _ _ _ _ _ _ _
      | exact ih3 _ _ _ _ _ _ _ _ _ _ _ _ _ _ _
      | exact ih4 _ _ _ _ _ _ _ _ _ _
      | exact ih5 _ _
      | exact line_All.mono _ _
      | exact line_Line.mono _ _ _ _
      | exact line_Lines.mono _ _
      | exact line_Read.mono _ _
      | exact pestlelaw53_awake.mono _
      | exact pestleref53_Line.mono _ _ _ _
      | exact pestleref53_Same.mono _ _ _
      | exact LeO.none _
      | refine LeO.ite ?_ ?_
      | refine LeO.bind ?_ (fun _ => ?_)
    · intro y0 y1 y2 y3 y4 y5 y6 y7 y8 y9
      unfold pestlelaw53_LineWrites.j4
      repeat' first
      | (with_reducible exact ih0 _ _ _)
      | (with_reducible exact ih1 _ _ _ _ _ _ _)
      | (with_reducible exact ih2 _ _ _ _ _ _ _ _ _ _ _)
      | (with_reducible exact ih3 _ _ _ _ _ _ _ _ _ _ _ _ _ _ _)
      | (with_reducible exact ih4 _ _ _ _ _ _ _ _ _ _)
      | (with_reducible exact ih5 _ _)
      | (with_reducible exact line_All.mono _ _)
      | (with_reducible exact line_Line.mono _ _ _ _)
      | (with_reducible exact line_Lines.mono _ _)
      | (with_reducible exact line_Read.mono _ _)
      | (with_reducible exact pestlelaw53_awake.mono _)
      | (with_reducible exact pestleref53_Line.mono _ _ _ _)
      | (with_reducible exact pestleref53_Same.mono _ _ _)
      | (with_reducible exact LeO.refl _)
      | (with_reducible exact LeO.none _)
      | (with_reducible refine LeO.ite ?_ ?_)
      | (with_reducible refine LeO.bind ?_ (fun _ => ?_))
      | exact ih0 _ _ _
      | exact ih1 _ _ _ _ _ _ _
      | exact ih2 _ _ _ _ _ _ _ _ _ _ _
      | exact ih3 _ _ _ _ _ _ _ _ _ _ _ _ _ _ _
      | exact ih4 _ _ _ _ _ _ _ _ _ _
      | exact ih5 _ _
      | exact line_All.mono _ _
      | exact line_Line.mono _ _ _ _
      | exact line_Lines.mono _ _
      | exact line_Read.mono _ _
      | exact pestlelaw53_awake.mono _
      | exact pestleref53_Line.mono _ _ _ _
      | exact pestleref53_Same.mono _ _ _
      | exact LeO.none _
      | refine LeO.ite ?_ ?_
      | refine LeO.bind ?_ (fun _ => ?_)
    · intro y0 y1
      unfold pestlelaw53_LineWrites.j5
      repeat' first
      | (with_reducible exact ih0 _ _ _)
      | (with_reducible exact ih1 _ _ _ _ _ _ _)
      | (with_reducible exact ih2 _ _ _ _ _ _ _ _ _ _ _)
      | (with_reducible exact ih3 _ _ _ _ _ _ _ _ _ _ _ _ _ _ _)
      | (with_reducible exact ih4 _ _ _ _ _ _ _ _ _ _)
      | (with_reducible exact ih5 _ _)
      | (with_reducible exact line_All.mono _ _)
      | (with_reducible exact line_Line.mono _ _ _ _)
      | (with_reducible exact line_Lines.mono _ _)
      | (with_reducible exact line_Read.mono _ _)
      | (with_reducible exact pestlelaw53_awake.mono _)
      | (with_reducible exact pestleref53_Line.mono _ _ _ _)
      | (with_reducible exact pestleref53_Same.mono _ _ _)
      | (with_reducible exact LeO.refl _)
      | (with_reducible exact LeO.none _)
      | (with_reducible refine LeO.ite ?_ ?_)
      | (with_reducible refine LeO.bind ?_ (fun _ => ?_))
      | exact ih0 _ _ _
      | exact ih1 _ _ _ _ _ _ _
      | exact ih2 _ _ _ _ _ _ _ _ _ _ _
      | exact ih3 _ _ _ _ _ _ _ _ _ _ _ _ _ _ _
      | exact ih4 _ _ _ _ _ _ _ _ _ _
      | exact ih5 _ _
      | exact line_All.mono _ _
      | exact line_Line.mono _ _ _ _
      | exact line_Lines.mono _ _
      | exact line_Read.mono _ _
      | exact pestlelaw53_awake.mono _
      | exact pestleref53_Line.mono _ _ _ _
      | exact pestleref53_Same.mono _ _ _
      | exact LeO.none _
      | refine LeO.ite ?_ ?_
      | refine LeO.bind ?_ (fun _ => ?_)
theorem pestlelaw53_LineWrites.mono : ∀ a0 a1 k, LeO (pestlelaw53_LineWrites.f k a0 a1) (pestlelaw53_LineWrites.f (k + 1) a0 a1) := by
  intro a0 a1 k
  obtain ⟨ih0, ih1, ih2, ih3, ih4, ih5⟩ := pestlelaw53_LineWrites.mono_l k
  unfold pestlelaw53_LineWrites.f
  repeat' first
      | (with_reducible exact ih0 _ _ _)
      | (with_reducible exact ih1 _ _ _ _ _ _ _)
      | (with_reducible exact ih2 _ _ _ _ _ _ _ _ _ _ _)
      | (with_reducible exact ih3 _ _ _ _ _ _ _ _ _ _ _ _ _ _ _)
      | (with_reducible exact ih4 _ _ _ _ _ _ _ _ _ _)
      | (with_reducible exact ih5 _ _)
      | (with_reducible exact line_All.mono _ _)
      | (with_reducible exact line_Line.mono _ _ _ _)
      | (with_reducible exact line_Lines.mono _ _)
      | (with_reducible exact line_Read.mono _ _)
      | (with_reducible exact pestlelaw53_awake.mono _)
      | (with_reducible exact pestleref53_Line.mono _ _ _ _)
      | (with_reducible exact pestleref53_Same.mono _ _ _)
      | (with_reducible exact LeO.refl _)
      | (with_reducible exact LeO.none _)
      | (with_reducible refine LeO.ite ?_ ?_)
      | (with_reducible refine LeO.bind ?_ (fun _ => ?_))
      | exact ih0 _ _ _
      | exact ih1 _ _ _ _ _ _ _
      | exact ih2 _ _ _ _ _ _ _ _ _ _ _
      | exact ih3 _ _ _ _ _ _ _ _ _ _ _ _ _ _ _
      | exact ih4 _ _ _ _ _ _ _ _ _ _
      | exact ih5 _ _
      | exact line_All.mono _ _
      | exact line_Line.mono _ _ _ _
      | exact line_Lines.mono _ _
      | exact line_Read.mono _ _
      | exact pestlelaw53_awake.mono _
      | exact pestleref53_Line.mono _ _ _ _
      | exact pestleref53_Same.mono _ _ _
      | exact LeO.none _
      | refine LeO.ite ?_ ?_
      | refine LeO.bind ?_ (fun _ => ?_)
set_option maxHeartbeats 8000000 in
set_option maxRecDepth 100000 in
theorem pestlelaw53_LineWrites.calls (k : Nat) (A0 : Option Addr) (c0 : Nat) (l0 : List (S49)) (a1 : ByteArray) (r : Bool) (w : World) (hr0 : Kd.C k49 w A0 l0.length l0) (hc0 : l0.length ≤ c0) (h : pestlelaw53_LineWrites.f k l0 a1 = some r) :
    Calls Try.prog 11 #[.slice A0 l0.length c0, .string a1] w fun e w' => e = .returned (.bool r) ∧ Below w.heap.size w w' := by
  have hu49 := Try.underlying49
  have HR0 := Aside0.mk hr0
  have HC0 := Aside0.mk hc0
  clear hr0 hc0
  have HB := Aside0.mk (Below.refl w.heap.size w)
  have H : ((pestlelaw53_awake.f k).bind fun t271 => (if t271 = true then (if (l0.length : Int) > 20 then (pestlelaw53_LineWrites.j0 k l0 a1 true) else (pestlelaw53_LineWrites.j0 k l0 a1 (decide ((a1.size : Int) > 1000)))) else (some false))) = some r := h
  clear h
  replace H := Option.bind_eq_some_iff.mp H
  obtain ⟨t271, A30, H⟩ := H
  replace H : (if t271 = true then (if (l0.length : Int) > 20 then (pestlelaw53_LineWrites.j0 k l0 a1 true) else (pestlelaw53_LineWrites.j0 k l0 a1 (decide ((a1.size : Int) > 1000)))) else (some false)) = some r := H
  have A3 := Aside0.mk A30
  clear A30
  by_cases c4 : t271 = true
  · subst c4
    have H1 : (if (l0.length : Int) > 20 then (pestlelaw53_LineWrites.j0 k l0 a1 true) else (pestlelaw53_LineWrites.j0 k l0 a1 (decide ((a1.size : Int) > 1000)))) = some r := by rw [if_pos rfl] at H; exact H
    clear H
    have H := H1
    clear H1
    have HC5 := Aside0.mk H
    clear H
    go_enter Try.func11, Try.ntmps11
    go_upto_region 3 with (first | ((with_reducible refine gate_callee (f := 47) rfl ?_); refine goesL_ (some 24) rfl rfl Try.func47 (by kernel_rfl) rfl #[] rfl (by (try simp only [List.map_toArray, List.map_cons, List.map_nil]); first | done | rfl | (simp only [List.length_drop, List.length_take]; rfl)) ?_; (with_reducible refine (pestlelaw53_awake.calls k  true _ A3.out).mono ?_); rintro e w6 ⟨rfl, hb⟩; refine ⟨_, rfl, ?_⟩; have n0_ := Aside0.mk (below_step (by repeat (first | (with_reducible first | exact HB.out | apply below_alloc | apply pw_below_drewN | apply below_drew1) | exact HB.out)) hb); clear HB; have HB := n0_; clear n0_; (try clear hb); (try clear hb2); (try clear hk); (try clear hi)))
    (try simp only [Act.put, List.setIfInBounds_toArray, List.set_cons_zero, List.set_cons_succ])
    go_cut [33] (fun v33 wc => ∃ (kq : Nat) (x33_4 : Bool), v33 = .bool x33_4 ∧ Aside0 (pestlelaw53_LineWrites.j0 kq l0 a1 x33_4 = some r) ∧ Aside0 (kq ≤ k) ∧ Aside0 (Below w.heap.size w wc))
    case first =>
      have H := HC5.out
      clear HC5
      by_cases c7 : (l0.length : Int) > 20
      · rw [if_pos c7] at H
        have c7b0 : decide (20 < (l0.length : Int)) = true := decide_eq_true c7
        have c7b1 : decide (20 < l0.length) = true := decide_eq_true (by omega)
        clear c7
        (first | rw [c7b0] | (simp only [i64_w, i32_w]; rw [c7b0]) | skip)
        have H' := Aside0.mk H
        clear H
        go_wp2
        go_meet
        case rel => exact ⟨_, (true), (by first | rfl | (simp; done) | (simp [*]; done)), H', ⟨by first | omega | exact Nat.le_refl _⟩, ⟨by repeat (first | (with_reducible first | exact HB.out | apply below_alloc | apply pw_below_drewN | apply below_drew1) | exact HB.out)⟩⟩
      · rw [if_neg c7] at H
        have c7b0 : decide (20 < (l0.length : Int)) = false := decide_eq_false c7
        have c7b1 : decide (20 < l0.length) = false := decide_eq_false (by omega)
        clear c7
        (first | rw [c7b0] | (simp only [i64_w, i32_w]; rw [c7b0]) | skip)
        have H' := Aside0.mk H
        clear H
        go_wp2
        go_meet
        case rel => exact ⟨_, (decide ((a1.size : Int) > 1000)), (by first | rfl | (simp; done) | (simp [*]; done)), H', ⟨by first | omega | exact Nat.le_refl _⟩, ⟨by repeat (first | (with_reducible first | exact HB.out | apply below_alloc | apply pw_below_drewN | apply below_drew1) | exact HB.out)⟩⟩
    case rest =>
      clear HC5
      try clear c1
      try clear p2
      try clear c4
      try clear c7
      try clear c7b0
      try clear c7b1
      obtain ⟨kq, x33_4, rfl, HA, HJ4, HB⟩ := hcut
      cases kq with
      | zero => exact absurd HA.out (by simp [pestlelaw53_LineWrites.j0])
      | succ kj4 =>
        have H := HA.out
        clear HA
        simp only [pestlelaw53_LineWrites.j0] at H
        by_cases c8 : x33_4 = true
        · subst c8
          have H1 : (some true) = some r := by rw [if_pos rfl] at H; exact H
          clear H
          have H := H1
          clear H1
          obtain rfl := Option.some.inj H
          go_wp2
          go_ret
          exact ⟨by first | rfl | (simp [errW_none, errW_some] <;> rfl) | (simp [*, errW_none, errW_some] <;> rfl), by repeat (first | (with_reducible first | exact HB.out | apply below_alloc | apply pw_below_drewN | apply below_drew1) | exact HB.out)⟩
        · replace c8 := Bool.eq_false_iff.mpr c8
          subst c8
          have H1 : (pestlelaw53_LineWrites.l0 kj4 l0 a1 (⟨#[]⟩ : ByteArray) 0 l0 (l0.length : Int) 0) = some r := by rw [if_neg (show ¬ (false = true) by decide)] at H; exact H
          clear H
          have H := H1
          clear H1
          have H' := Aside0.mk H
          clear H
          go_wp2
          go_loopg [5, 6, 36] kj4 (fun kq v5 v6 v36 w' => ∃ (x5_2 : ByteArray) (x6_2 : Int) (x36_2 : Int), v5 = .string x5_2 ∧ v6 = .int .i64 x6_2 ∧ v36 = .int .i64 x36_2 ∧ Aside0 (pestlelaw53_LineWrites.l0 kq l0 a1 x5_2 x6_2 l0 (l0.length : Int) x36_2 = some r) ∧ Aside0 (kq ≤ kj4) ∧ Aside0 (Below w.heap.size w w'))
          case atStart => exact ⟨((⟨#[]⟩ : ByteArray)), (0), (0), (by first | rfl | (simp; done) | (simp [*]; done)), (by first | rfl | (simp; done) | (simp [*]; done)), (by first | rfl | (simp; done) | (simp [*]; done)), H', ⟨Nat.le_refl _⟩, ⟨by repeat (first | (with_reducible first | exact HB.out | apply below_alloc | apply pw_below_drewN | apply below_drew1) | exact HB.out)⟩⟩
          case round =>
            clear H'
            try clear c1
            try clear p2
            try clear c4
            try clear c7
            try clear c7b0
            try clear c7b1
            try clear c8
            try clear p2
            obtain ⟨x5_2, x6_2, x36_2, rfl, rfl, rfl, HA, HK2, HB⟩ := hrel
            cases gk with
            | zero => exact absurd HA.out (by simp [pestlelaw53_LineWrites.l0])
            | succ k2 =>
              have H := HA.out
              clear HA
              simp only [pestlelaw53_LineWrites.l0] at H
              by_cases c9 : x36_2 < (l0.length : Int)
              · rw [if_pos c9] at H
                have c9b0 : decide (x36_2 < (l0.length : Int)) = true := decide_eq_true c9
                clear c9
                by_cases c10 : 0 ≤ x36_2
                · rw [if_pos c10] at H
                  have c10b0 : decide (0 ≤ x36_2) = true := decide_eq_true c10
                  clear c10
                  by_cases c11 : x36_2 < (l0.length : Int)
                  · rw [if_pos c11] at H
                    have c11b0 : decide (x36_2 < (l0.length : Int)) = true := decide_eq_true c11
                    clear c11
                    have HC12 := Aside0.mk H
                    clear H
                    have p272 : 0 ≤ (x36_2 : Int) := of_decide_eq_true (by first | (with_reducible assumption) | assumption)
                    have q272 : x36_2 < (l0.length : Int) := of_decide_eq_true (by first | (with_reducible assumption) | assumption)
                    obtain ⟨ad272, e272, hx272_0, hx272_1, hx272_2⟩ := at_T49 HR0.out x36_2 p272 q272
                    cases e272
                    replace hx272_0 := (HB.out.cell (World.block_lt_of_cell? w _ hx272_0)).trans hx272_0
                    replace hx272_1 := (HB.out.cell (World.block_lt_of_cell? w _ hx272_1)).trans hx272_1
                    replace hx272_2 := (HB.out.cell (World.block_lt_of_cell? w _ hx272_2)).trans hx272_2
                    replace p272 := eq_true p272
                    replace q272 := eq_true q272
                    go_upto_region 9 with (first | ((with_reducible refine gate_dst (N := 8) rfl ?_); (try (refine gate_guard (by rfl) ?_; dsimp only)); refine box_event ?hg (N := 8) ?hd (cs := #[.int .i64 0, .string (⟨#[]⟩ : ByteArray), .string (⟨#[]⟩ : ByteArray)]) (t := 49) ?hr ?_; (case hd => rfl); (case hg => rfl); (case hr => first | (go_simp; done) | (go_simp; rfl)); intro gb273 hg w13 hbox hb; have n0_ := Aside0.mk (below_step (by repeat (first | (with_reducible first | exact HB.out | apply below_alloc | apply pw_below_drewN | apply below_drew1) | exact HB.out)) hb); have n1_ := Aside0.mk (hbox); have n2_ := Aside0.mk ((by rw [hg]; exact (below_size (by repeat (first | (with_reducible first | exact HB.out | apply below_alloc | apply pw_below_drewN | apply below_drew1) | exact HB.out))) : w.heap.size ≤ gb273)); have n3_ := Aside0.mk ((by rw [hg]; exact (below_size (by repeat (first | (with_reducible first | exact HB.out | apply below_alloc | apply pw_below_drewN | apply below_drew1) | exact HB.out))) : w.heap.size ≤ gb273)); clear HB; have HB := n0_; have BK273 := n1_; have GW273 := n2_; have GE273 := n3_; clear n0_ n1_ n2_ n3_; clear hb hbox hg; have hcz14_0 : w13.cell? ⟨gb273, 0, none⟩ = some (.int .i64 0) := (blk_cell BK273.out 0).trans rfl; have hcz14_1 : w13.cell? ⟨gb273, 1, none⟩ = some (.string (⟨#[]⟩ : ByteArray)) := (blk_cell BK273.out 1).trans rfl; have hcz14_2 : w13.cell? ⟨gb273, 2, none⟩ = some (.string (⟨#[]⟩ : ByteArray)) := (blk_cell BK273.out 2).trans rfl; have hfz14_0 := blk_frozen BK273.out 0; have hfz14_1 := blk_frozen BK273.out 1; have hfz14_2 := blk_frozen BK273.out 2))
                    (try simp only [Act.put, List.setIfInBounds_toArray, List.set_cons_zero, List.set_cons_succ])
                    go_cut [49] (fun v49 wc => ∃ (kq : Nat) (x49_11 : Bool), v49 = .bool x49_11 ∧ Aside0 (pestlelaw53_LineWrites.j2 kq l0 a1 x5_2 x6_2 l0 (l0.length : Int) x36_2 x49_11 ((rd_T49 l0 x36_2).f0) ((rd_T49 l0 x36_2).f1) ((rd_T49 l0 x36_2).f2) = some r) ∧ Aside0 (kq ≤ k2) ∧ Aside0 (wc.heap[gb273]? = some (.cells #[.int .i64 ((rd_T49 l0 x36_2).f0), .string ((rd_T49 l0 x36_2).f1), .string ((rd_T49 l0 x36_2).f2)] 49 (0, 0))) ∧ Aside0 (Below w.heap.size w wc))
                    case first =>
                      have H := HC12.out
                      clear HC12
                      by_cases c15 : (((rd_T49 l0 x36_2).f1).size : Int) > 300
                      · rw [if_pos c15] at H
                        have c15b0 : decide (300 < (((rd_T49 l0 x36_2).f1).size : Int)) = true := decide_eq_true c15
                        have c15b1 : decide (300 < ((rd_T49 l0 x36_2).f1).size) = true := decide_eq_true (by omega)
                        clear c15
                        (first | rw [c15b0] | (simp only [i64_w, i32_w]; rw [c15b0]) | skip)
                        have H' := Aside0.mk H
                        clear H
                        have hcz16_0 : w13.cell? ⟨gb273, 0, none⟩ = some (.int .i64 0) := (blk_cell BK273.out 0).trans rfl
                        have hcz16_1 : w13.cell? ⟨gb273, 1, none⟩ = some (.string (⟨#[]⟩ : ByteArray)) := (blk_cell BK273.out 1).trans rfl
                        have hcz16_2 : w13.cell? ⟨gb273, 2, none⟩ = some (.string (⟨#[]⟩ : ByteArray)) := (blk_cell BK273.out 2).trans rfl
                        have hfz16_0 := blk_frozen BK273.out 0
                        have hfz16_1 := blk_frozen BK273.out 1
                        have hfz16_2 := blk_frozen BK273.out 2
                        go_wp2
                        go_meet
                        case rel => exact ⟨_, (true), (by first | rfl | (simp; done) | (simp [*]; done)), H', ⟨by have := HJ4.out; have := HK2.out; first | omega | exact Nat.le_refl _⟩, ⟨by (with_reducible repeat (first | refine blk_drewN ?_ _ | refine blk_drew ?_ | refine blk_alloc ?_ _)); refine blk_put (cs := #[.int .i64 ((rd_T49 l0 x36_2).f0), .string ((rd_T49 l0 x36_2).f1), .string (⟨#[]⟩ : ByteArray)]) ?_ 2 _ rfl; (with_reducible repeat (first | refine blk_drewN ?_ _ | refine blk_drew ?_ | refine blk_alloc ?_ _)); refine blk_put (cs := #[.int .i64 ((rd_T49 l0 x36_2).f0), .string (⟨#[]⟩ : ByteArray), .string (⟨#[]⟩ : ByteArray)]) ?_ 1 _ rfl; (with_reducible repeat (first | refine blk_drewN ?_ _ | refine blk_drew ?_ | refine blk_alloc ?_ _)); refine blk_put (cs := #[.int .i64 0, .string (⟨#[]⟩ : ByteArray), .string (⟨#[]⟩ : ByteArray)]) ?_ 0 _ rfl; (with_reducible repeat (first | refine blk_drewN ?_ _ | refine blk_drew ?_ | refine blk_alloc ?_ _)); exact BK273.out⟩, ⟨by repeat (first | (with_reducible first | exact HB.out | apply below_alloc | apply pw_below_drewN | apply below_drew1 | refine below_set ?_ GE273.out) | exact HB.out)⟩⟩
                      · rw [if_neg c15] at H
                        have c15b0 : decide (300 < (((rd_T49 l0 x36_2).f1).size : Int)) = false := decide_eq_false c15
                        have c15b1 : decide (300 < ((rd_T49 l0 x36_2).f1).size) = false := decide_eq_false (by omega)
                        clear c15
                        (first | rw [c15b0] | (simp only [i64_w, i32_w]; rw [c15b0]) | skip)
                        have H' := Aside0.mk H
                        clear H
                        have hcz17_0 : w13.cell? ⟨gb273, 0, none⟩ = some (.int .i64 0) := (blk_cell BK273.out 0).trans rfl
                        have hcz17_1 : w13.cell? ⟨gb273, 1, none⟩ = some (.string (⟨#[]⟩ : ByteArray)) := (blk_cell BK273.out 1).trans rfl
                        have hcz17_2 : w13.cell? ⟨gb273, 2, none⟩ = some (.string (⟨#[]⟩ : ByteArray)) := (blk_cell BK273.out 2).trans rfl
                        have hfz17_0 := blk_frozen BK273.out 0
                        have hfz17_1 := blk_frozen BK273.out 1
                        have hfz17_2 := blk_frozen BK273.out 2
                        go_wp2
                        go_meet
                        case rel => exact ⟨_, (decide ((((rd_T49 l0 x36_2).f2).size : Int) > 300)), (by first | rfl | (simp; done) | (simp [*]; done)), H', ⟨by have := HJ4.out; have := HK2.out; first | omega | exact Nat.le_refl _⟩, ⟨by (with_reducible repeat (first | refine blk_drewN ?_ _ | refine blk_drew ?_ | refine blk_alloc ?_ _)); refine blk_put (cs := #[.int .i64 ((rd_T49 l0 x36_2).f0), .string ((rd_T49 l0 x36_2).f1), .string (⟨#[]⟩ : ByteArray)]) ?_ 2 _ rfl; (with_reducible repeat (first | refine blk_drewN ?_ _ | refine blk_drew ?_ | refine blk_alloc ?_ _)); refine blk_put (cs := #[.int .i64 ((rd_T49 l0 x36_2).f0), .string (⟨#[]⟩ : ByteArray), .string (⟨#[]⟩ : ByteArray)]) ?_ 1 _ rfl; (with_reducible repeat (first | refine blk_drewN ?_ _ | refine blk_drew ?_ | refine blk_alloc ?_ _)); refine blk_put (cs := #[.int .i64 0, .string (⟨#[]⟩ : ByteArray), .string (⟨#[]⟩ : ByteArray)]) ?_ 0 _ rfl; (with_reducible repeat (first | refine blk_drewN ?_ _ | refine blk_drew ?_ | refine blk_alloc ?_ _)); exact BK273.out⟩, ⟨by repeat (first | (with_reducible first | exact HB.out | apply below_alloc | apply pw_below_drewN | apply below_drew1 | refine below_set ?_ GE273.out) | exact HB.out)⟩⟩
                    case rest =>
                      clear HC12
                      try clear c1
                      try clear p2
                      try clear q2
                      try clear hx2
                      try clear c4
                      try clear c7
                      try clear c7b0
                      try clear c7b1
                      try clear c8
                      try clear c9
                      try clear c9b0
                      try clear c10
                      try clear c10b0
                      try clear c11
                      try clear c11b0
                      try clear c15
                      try clear c15b0
                      try clear c15b1
                      try clear hcz14_0
                      try clear hcz14_1
                      try clear hcz14_2
                      try clear hcz16_0
                      try clear hcz16_1
                      try clear hcz16_2
                      try clear hcz17_0
                      try clear hcz17_1
                      try clear hcz17_2
                      try clear hfz14_0
                      try clear hfz14_1
                      try clear hfz14_2
                      try clear hfz16_0
                      try clear hfz16_1
                      try clear hfz16_2
                      try clear hfz17_0
                      try clear hfz17_1
                      try clear hfz17_2
                      try clear hx272_0
                      try clear hx272_1
                      try clear hx272_2
                      try clear p2
                      try clear p272
                      try clear q272
                      obtain ⟨kq, x49_11, rfl, HA, HJ11, BK273, HB⟩ := hcut
                      cases kq with
                      | zero => exact absurd HA.out (by simp [pestlelaw53_LineWrites.j2])
                      | succ kj11 =>
                        have H := HA.out
                        clear HA
                        simp only [pestlelaw53_LineWrites.j2] at H
                        by_cases c18 : x49_11 = true
                        · subst c18
                          have H1 : (some true) = some r := by rw [if_pos rfl] at H; exact H
                          clear H
                          have H := H1
                          clear H1
                          obtain rfl := Option.some.inj H
                          go_wp2
                          go_ret
                          exact ⟨by first | rfl | (simp [errW_none, errW_some] <;> rfl) | (simp [*, errW_none, errW_some] <;> rfl), by repeat (first | (with_reducible first | exact HB.out | apply below_alloc | apply pw_below_drewN | apply below_drew1 | refine below_set ?_ GE273.out) | exact HB.out)⟩
                        · replace c18 := Bool.eq_false_iff.mpr c18
                          subst c18
                          have H1 : ((line_Line.f kj11 ((rd_T49 l0 x36_2).f0) ((rd_T49 l0 x36_2).f1) ((rd_T49 l0 x36_2).f2)).bind fun bt274 => ((pestleref53_Line.f kj11 ((rd_T49 l0 x36_2).f0) ((rd_T49 l0 x36_2).f1) ((rd_T49 l0 x36_2).f2)).bind fun bt276 => (if bt274.1.toList = bt276.1.toList then (pestlelaw53_LineWrites.j3 kj11 l0 a1 x5_2 x6_2 bt274.1 bt274.2 bt276.1 bt276.2 l0 (l0.length : Int) x36_2 (bt274.2 != bt276.2) ((rd_T49 l0 x36_2).f0) ((rd_T49 l0 x36_2).f1) ((rd_T49 l0 x36_2).f2)) else (pestlelaw53_LineWrites.j3 kj11 l0 a1 x5_2 x6_2 bt274.1 bt274.2 bt276.1 bt276.2 l0 (l0.length : Int) x36_2 true ((rd_T49 l0 x36_2).f0) ((rd_T49 l0 x36_2).f1) ((rd_T49 l0 x36_2).f2))))) = some r := by rw [if_neg (show ¬ (false = true) by decide)] at H; exact H
                          clear H
                          have H := H1
                          clear H1
                          replace H := Option.bind_eq_some_iff.mp H
                          obtain ⟨⟨t274, t275⟩, A190, H⟩ := H
                          replace H : ((pestleref53_Line.f kj11 ((rd_T49 l0 x36_2).f0) ((rd_T49 l0 x36_2).f1) ((rd_T49 l0 x36_2).f2)).bind fun bt276 => (if t274.toList = bt276.1.toList then (pestlelaw53_LineWrites.j3 kj11 l0 a1 x5_2 x6_2 t274 t275 bt276.1 bt276.2 l0 (l0.length : Int) x36_2 (t275 != bt276.2) ((rd_T49 l0 x36_2).f0) ((rd_T49 l0 x36_2).f1) ((rd_T49 l0 x36_2).f2)) else (pestlelaw53_LineWrites.j3 kj11 l0 a1 x5_2 x6_2 t274 t275 bt276.1 bt276.2 l0 (l0.length : Int) x36_2 true ((rd_T49 l0 x36_2).f0) ((rd_T49 l0 x36_2).f1) ((rd_T49 l0 x36_2).f2)))) = some r := H
                          have A19 := Aside0.mk A190
                          clear A190
                          replace H := Option.bind_eq_some_iff.mp H
                          obtain ⟨⟨t276, t277⟩, A200, H⟩ := H
                          replace H : (if t274.toList = t276.toList then (pestlelaw53_LineWrites.j3 kj11 l0 a1 x5_2 x6_2 t274 t275 t276 t277 l0 (l0.length : Int) x36_2 (t275 != t277) ((rd_T49 l0 x36_2).f0) ((rd_T49 l0 x36_2).f1) ((rd_T49 l0 x36_2).f2)) else (pestlelaw53_LineWrites.j3 kj11 l0 a1 x5_2 x6_2 t274 t275 t276 t277 l0 (l0.length : Int) x36_2 true ((rd_T49 l0 x36_2).f0) ((rd_T49 l0 x36_2).f1) ((rd_T49 l0 x36_2).f2))) = some r := H
                          have A20 := Aside0.mk A200
                          clear A200
                          have HC21 := Aside0.mk H
                          clear H
                          have hcz22_0 : wc.cell? ⟨gb273, 0, none⟩ = some (.int .i64 ((rd_T49 l0 x36_2).f0)) := (blk_cell BK273.out 0).trans rfl
                          have hcz22_1 : wc.cell? ⟨gb273, 1, none⟩ = some (.string ((rd_T49 l0 x36_2).f1)) := (blk_cell BK273.out 1).trans rfl
                          have hcz22_2 : wc.cell? ⟨gb273, 2, none⟩ = some (.string ((rd_T49 l0 x36_2).f2)) := (blk_cell BK273.out 2).trans rfl
                          have hfz22_0 := blk_frozen BK273.out 0
                          have hfz22_1 := blk_frozen BK273.out 1
                          have hfz22_2 := blk_frozen BK273.out 2
                          go_upto_region 13 with (first | ((with_reducible refine gate_callee (f := 57) rfl ?_); refine goesL_ (some 52) rfl rfl Try.func57 (by kernel_rfl) rfl #[.agg #[.int .i64 ((rd_T49 l0 x36_2).f0), .string ((rd_T49 l0 x36_2).f1), .string ((rd_T49 l0 x36_2).f2)]] rfl (by (try simp only [List.map_toArray, List.map_cons, List.map_nil]); first | done | rfl | (simp only [List.length_drop, List.length_take]; rfl)) ?_; (with_reducible refine (line_Line.calls kj11 ((rd_T49 l0 x36_2).f0) ((rd_T49 l0 x36_2).f1) ((rd_T49 l0 x36_2).f2) t274 t275 _ A19.out).mono ?_); rintro e w23 ⟨rfl, hb⟩; refine ⟨_, rfl, ?_⟩; have n0_ := Aside0.mk (blk_below (g := gb273) (o := .cells #[.int .i64 ((rd_T49 l0 x36_2).f0), .string ((rd_T49 l0 x36_2).f1), .string ((rd_T49 l0 x36_2).f2)] 49 (0, 0)) (by (with_reducible repeat (first | refine blk_drewN ?_ _ | refine blk_drew ?_ | refine blk_alloc ?_ _)); exact BK273.out) hb); have n1_ := Aside0.mk (below_step (by repeat (first | (with_reducible first | exact HB.out | apply below_alloc | apply pw_below_drewN | apply below_drew1 | refine below_set ?_ GE273.out) | exact HB.out)) hb); clear BK273; clear HB; have BK273 := n0_; have HB := n1_; clear n0_ n1_; (try clear hb); (try clear hb2); (try clear hk); (try clear hi); have hcz24_0 : w23.cell? ⟨gb273, 0, none⟩ = some (.int .i64 ((rd_T49 l0 x36_2).f0)) := (blk_cell BK273.out 0).trans rfl; have hcz24_1 : w23.cell? ⟨gb273, 1, none⟩ = some (.string ((rd_T49 l0 x36_2).f1)) := (blk_cell BK273.out 1).trans rfl; have hcz24_2 : w23.cell? ⟨gb273, 2, none⟩ = some (.string ((rd_T49 l0 x36_2).f2)) := (blk_cell BK273.out 2).trans rfl; have hfz24_0 := blk_frozen BK273.out 0; have hfz24_1 := blk_frozen BK273.out 1; have hfz24_2 := blk_frozen BK273.out 2) | ((with_reducible refine gate_callee (f := 58) rfl ?_); refine goesL_ (some 57) rfl rfl Try.func58 (by kernel_rfl) rfl #[.agg #[.int .i64 ((rd_T49 l0 x36_2).f0), .string ((rd_T49 l0 x36_2).f1), .string ((rd_T49 l0 x36_2).f2)]] rfl (by (try simp only [List.map_toArray, List.map_cons, List.map_nil]); first | done | rfl | (simp only [List.length_drop, List.length_take]; rfl)) ?_; (with_reducible refine (pestleref53_Line.calls kj11 ((rd_T49 l0 x36_2).f0) ((rd_T49 l0 x36_2).f1) ((rd_T49 l0 x36_2).f2) t276 t277 _ A20.out).mono ?_); rintro e w25 ⟨rfl, hb⟩; refine ⟨_, rfl, ?_⟩; have n0_ := Aside0.mk (blk_below (g := gb273) (o := .cells #[.int .i64 ((rd_T49 l0 x36_2).f0), .string ((rd_T49 l0 x36_2).f1), .string ((rd_T49 l0 x36_2).f2)] 49 (0, 0)) (by (with_reducible repeat (first | refine blk_drewN ?_ _ | refine blk_drew ?_ | refine blk_alloc ?_ _)); exact BK273.out) hb); have n1_ := Aside0.mk (below_step (by repeat (first | (with_reducible first | exact HB.out | apply below_alloc | apply pw_below_drewN | apply below_drew1 | refine below_set ?_ GE273.out) | exact HB.out)) hb); clear BK273; clear HB; have BK273 := n0_; have HB := n1_; clear n0_ n1_; (try clear hb); (try clear hb2); (try clear hk); (try clear hi)))
                          (try simp only [Act.put, List.setIfInBounds_toArray, List.set_cons_zero, List.set_cons_succ])
                          go_cut [67] (fun v67 wc => ∃ (kq : Nat) (x67_20 : Bool), v67 = .bool x67_20 ∧ Aside0 (pestlelaw53_LineWrites.j3 kq l0 a1 x5_2 x6_2 t274 t275 t276 t277 l0 (l0.length : Int) x36_2 x67_20 ((rd_T49 l0 x36_2).f0) ((rd_T49 l0 x36_2).f1) ((rd_T49 l0 x36_2).f2) = some r) ∧ Aside0 (kq ≤ kj11) ∧ Aside0 (wc.heap[gb273]? = some (.cells #[.int .i64 ((rd_T49 l0 x36_2).f0), .string ((rd_T49 l0 x36_2).f1), .string ((rd_T49 l0 x36_2).f2)] 49 (0, 0))) ∧ Aside0 (Below w.heap.size w wc))
                          case first =>
                            have H := HC21.out
                            clear HC21
                            by_cases c26 : t274.toList = t276.toList
                            · rw [if_pos c26] at H
                              have c26b0 : (t274.toList == t276.toList) = true := beq_iff_eq.mpr c26
                              have c26b1 : (t274.toList != t276.toList) = false := bne_eq_false_iff_eq.mpr c26
                              clear c26
                              (first | rw [c26b0] | (simp only [i64_w, i32_w]; rw [c26b0]) | skip)
                              have H' := Aside0.mk H
                              clear H
                              go_wp2
                              go_meet
                              case rel => exact ⟨_, ((t275 != t277)), (by first | rfl | (simp; done) | (simp [*]; done)), H', ⟨by have := HJ4.out; have := HK2.out; have := HJ11.out; first | omega | exact Nat.le_refl _⟩, ⟨by (with_reducible repeat (first | refine blk_drewN ?_ _ | refine blk_drew ?_ | refine blk_alloc ?_ _)); exact BK273.out⟩, ⟨by repeat (first | (with_reducible first | exact HB.out | apply below_alloc | apply pw_below_drewN | apply below_drew1 | refine below_set ?_ GE273.out) | exact HB.out)⟩⟩
                            · rw [if_neg c26] at H
                              have c26b0 : (t274.toList == t276.toList) = false := beq_eq_false_iff_ne.mpr c26
                              have c26b1 : (t274.toList != t276.toList) = true := bne_iff_ne.mpr c26
                              (first | rw [c26b0] | (simp only [i64_w, i32_w]; rw [c26b0]) | skip)
                              have H' := Aside0.mk H
                              clear H
                              go_wp2
                              go_meet
                              case rel => exact ⟨_, (true), (by first | rfl | (simp; done) | (simp [*]; done)), H', ⟨by have := HJ4.out; have := HK2.out; have := HJ11.out; first | omega | exact Nat.le_refl _⟩, ⟨by (with_reducible repeat (first | refine blk_drewN ?_ _ | refine blk_drew ?_ | refine blk_alloc ?_ _)); exact BK273.out⟩, ⟨by repeat (first | (with_reducible first | exact HB.out | apply below_alloc | apply pw_below_drewN | apply below_drew1 | refine below_set ?_ GE273.out) | exact HB.out)⟩⟩
                          case rest =>
                            clear HC21
                            try clear c1
                            try clear c2
                            try clear p2
                            try clear q2
                            try clear hx2
                            try clear c4
                            try clear c5
                            try clear c7
                            try clear c7b0
                            try clear c7b1
                            try clear c8
                            try clear c9
                            try clear c9b0
                            try clear c10
                            try clear c10b0
                            try clear c11
                            try clear c11b0
                            try clear c15
                            try clear c15b0
                            try clear c15b1
                            try clear c18
                            try clear c26
                            try clear c26b0
                            try clear c26b1
                            try clear hcz14_0
                            try clear hcz14_1
                            try clear hcz14_2
                            try clear hcz16_0
                            try clear hcz16_1
                            try clear hcz16_2
                            try clear hcz17_0
                            try clear hcz17_1
                            try clear hcz17_2
                            try clear hcz22_0
                            try clear hcz22_1
                            try clear hcz22_2
                            try clear hcz24_0
                            try clear hcz24_1
                            try clear hcz24_2
                            try clear hfz14_0
                            try clear hfz14_1
                            try clear hfz14_2
                            try clear hfz16_0
                            try clear hfz16_1
                            try clear hfz16_2
                            try clear hfz17_0
                            try clear hfz17_1
                            try clear hfz17_2
                            try clear hfz22_0
                            try clear hfz22_1
                            try clear hfz22_2
                            try clear hfz24_0
                            try clear hfz24_1
                            try clear hfz24_2
                            try clear hx272_0
                            try clear hx272_1
                            try clear hx272_2
                            try clear p2
                            try clear p272
                            try clear q2
                            try clear q272
                            obtain ⟨kq, x67_20, rfl, HA, HJ20, BK273, HB⟩ := hcut
                            cases kq with
                            | zero => exact absurd HA.out (by simp [pestlelaw53_LineWrites.j3])
                            | succ kj20 =>
                              have H := HA.out
                              clear HA
                              simp only [pestlelaw53_LineWrites.j3] at H
                              by_cases c27 : x67_20 = true
                              · subst c27
                                have H1 : (some false) = some r := by rw [if_pos rfl] at H; exact H
                                clear H
                                have H := H1
                                clear H1
                                obtain rfl := Option.some.inj H
                                go_wp2
                                go_ret
                                exact ⟨by first | rfl | (simp [errW_none, errW_some] <;> rfl) | (simp [*, errW_none, errW_some] <;> rfl), by repeat (first | (with_reducible first | exact HB.out | apply below_alloc | apply pw_below_drewN | apply below_drew1 | refine below_set ?_ GE273.out) | exact HB.out)⟩
                              · replace c27 := Bool.eq_false_iff.mpr c27
                                subst c27
                                have H1 : (if t275 = 0 then ((line_Read.f kj20 t274).bind fun bt278 => (if bt278.2.2.2 = 0 then (pestlelaw53_LineWrites.j4 kj20 l0 a1 x5_2 x6_2 t276 t277 l0 (l0.length : Int) x36_2 (!(bt278.1 == ((rd_T49 l0 x36_2).f0)) || (!(bt278.2.1.toList == ((rd_T49 l0 x36_2).f1).toList) || (!(bt278.2.2.1.toList == ((rd_T49 l0 x36_2).f2).toList))))) else (pestlelaw53_LineWrites.j4 kj20 l0 a1 x5_2 x6_2 t276 t277 l0 (l0.length : Int) x36_2 true))) else (if x6_2 = 0 then (if x5_2.size + t276.size ≤ 9223372036854775807 then (if (x5_2 ++ t276).size + 1 ≤ 9223372036854775807 then (pestlelaw53_LineWrites.l0 kj20 l0 a1 ((x5_2 ++ t276) ++ (⟨#[10]⟩ : ByteArray)) t277 l0 (l0.length : Int) (wrap64 (x36_2 + 1))) else (none)) else (none)) else (if x5_2.size + t276.size ≤ 9223372036854775807 then (if (x5_2 ++ t276).size + 1 ≤ 9223372036854775807 then (pestlelaw53_LineWrites.l0 kj20 l0 a1 ((x5_2 ++ t276) ++ (⟨#[10]⟩ : ByteArray)) x6_2 l0 (l0.length : Int) (wrap64 (x36_2 + 1))) else (none)) else (none)))) = some r := by rw [if_neg (show ¬ (false = true) by decide)] at H; exact H
                                clear H
                                have H := H1
                                clear H1
                                by_cases c28 : t275 = 0
                                · rw [if_pos c28] at H
                                  have c28b0 : (t275 == 0) = true := beq_iff_eq.mpr c28
                                  have c28b1 : (t275 != 0) = false := bne_eq_false_iff_eq.mpr c28
                                  clear c28
                                  replace H := Option.bind_eq_some_iff.mp H
                                  obtain ⟨⟨t278, t279, t280, t281⟩, A290, H⟩ := H
                                  replace H : (if t281 = 0 then (pestlelaw53_LineWrites.j4 kj20 l0 a1 x5_2 x6_2 t276 t277 l0 (l0.length : Int) x36_2 (!(t278 == ((rd_T49 l0 x36_2).f0)) || (!(t279.toList == ((rd_T49 l0 x36_2).f1).toList) || (!(t280.toList == ((rd_T49 l0 x36_2).f2).toList))))) else (pestlelaw53_LineWrites.j4 kj20 l0 a1 x5_2 x6_2 t276 t277 l0 (l0.length : Int) x36_2 true)) = some r := H
                                  have A29 := Aside0.mk A290
                                  clear A290
                                  have HC30 := Aside0.mk H
                                  clear H
                                  go_upto_region 17 with (first | ((with_reducible refine gate_callee (f := 48) rfl ?_); refine goesL_ (some 72) rfl rfl Try.func48 (by kernel_rfl) rfl #[.string t274] rfl (by (try simp only [List.map_toArray, List.map_cons, List.map_nil]); first | done | rfl | (simp only [List.length_drop, List.length_take]; rfl)) ?_; (with_reducible refine (line_Read.calls kj20 t274 t278 t279 t280 t281 _ A29.out).mono ?_); rintro e w31 ⟨rfl, hb⟩; refine ⟨_, rfl, ?_⟩; have n0_ := Aside0.mk (blk_below (g := gb273) (o := .cells #[.int .i64 ((rd_T49 l0 x36_2).f0), .string ((rd_T49 l0 x36_2).f1), .string ((rd_T49 l0 x36_2).f2)] 49 (0, 0)) (by (with_reducible repeat (first | refine blk_drewN ?_ _ | refine blk_drew ?_ | refine blk_alloc ?_ _)); exact BK273.out) hb); have n1_ := Aside0.mk (below_step (by repeat (first | (with_reducible first | exact HB.out | apply below_alloc | apply pw_below_drewN | apply below_drew1 | refine below_set ?_ GE273.out) | exact HB.out)) hb); clear BK273; clear HB; have BK273 := n0_; have HB := n1_; clear n0_ n1_; (try clear hb); (try clear hb2); (try clear hk); (try clear hi)) | ((with_reducible refine gate_dst (N := 13) rfl ?_); (try (refine gate_guard (by rfl) ?_; dsimp only)); refine box_event ?hg (N := 13) ?hd (cs := #[.int .i64 0, .string (⟨#[]⟩ : ByteArray), .string (⟨#[]⟩ : ByteArray)]) (t := 49) ?hr ?_; (case hd => rfl); (case hg => rfl); (case hr => first | (go_simp; done) | (go_simp; rfl)); intro gb282 hg w32 hbox hb; have n0_ := Aside0.mk (blk_below (g := gb273) (o := .cells #[.int .i64 ((rd_T49 l0 x36_2).f0), .string ((rd_T49 l0 x36_2).f1), .string ((rd_T49 l0 x36_2).f2)] 49 (0, 0)) (by (with_reducible repeat (first | refine blk_drewN ?_ _ | refine blk_drew ?_ | refine blk_alloc ?_ _)); exact BK273.out) hb); have n1_ := Aside0.mk (below_step (by repeat (first | (with_reducible first | exact HB.out | apply below_alloc | apply pw_below_drewN | apply below_drew1 | refine below_set ?_ GE273.out) | exact HB.out)) hb); have n2_ := Aside0.mk (hbox); have n3_ := Aside0.mk ((by rw [hg]; exact (below_size (by repeat (first | (with_reducible first | exact HB.out | apply below_alloc | apply pw_below_drewN | apply below_drew1 | refine below_set ?_ GE273.out) | exact HB.out))) : w.heap.size ≤ gb282)); have n4_ := Aside0.mk ((by rw [hg]; exact (below_size (by repeat (first | (with_reducible first | exact HB.out | apply below_alloc | apply pw_below_drewN | apply below_drew1 | refine below_set ?_ GE273.out) | exact HB.out))) : w.heap.size ≤ gb282)); have n5_ := Aside0.mk ((by rw [hg]; exact Nat.ne_of_lt (blk_lt (g := gb273) (o := .cells #[.int .i64 ((rd_T49 l0 x36_2).f0), .string ((rd_T49 l0 x36_2).f1), .string ((rd_T49 l0 x36_2).f2)] 49 (0, 0)) (by (with_reducible repeat (first | refine blk_drewN ?_ _ | refine blk_drew ?_ | refine blk_alloc ?_ _)); exact BK273.out)) : gb273 ≠ gb282)); have n6_ := Aside0.mk ((by rw [hg]; exact Nat.ne_of_gt (blk_lt (g := gb273) (o := .cells #[.int .i64 ((rd_T49 l0 x36_2).f0), .string ((rd_T49 l0 x36_2).f1), .string ((rd_T49 l0 x36_2).f2)] 49 (0, 0)) (by (with_reducible repeat (first | refine blk_drewN ?_ _ | refine blk_drew ?_ | refine blk_alloc ?_ _)); exact BK273.out)) : gb282 ≠ gb273)); clear BK273; clear HB; have BK273 := n0_; have HB := n1_; have BK282 := n2_; have GW282 := n3_; have GE282 := n4_; have NB273_282 := n5_; have NB282_273 := n6_; clear n0_ n1_ n2_ n3_ n4_ n5_ n6_; clear hb hbox hg; have hnb33 := NB282_273.out; have hnc33 := NB273_282.out; have hcz34_0 : w32.cell? ⟨gb282, 0, none⟩ = some (.int .i64 0) := (blk_cell BK282.out 0).trans rfl; have hcz34_1 : w32.cell? ⟨gb282, 1, none⟩ = some (.string (⟨#[]⟩ : ByteArray)) := (blk_cell BK282.out 1).trans rfl; have hcz34_2 : w32.cell? ⟨gb282, 2, none⟩ = some (.string (⟨#[]⟩ : ByteArray)) := (blk_cell BK282.out 2).trans rfl; have hfz34_0 := blk_frozen BK282.out 0; have hfz34_1 := blk_frozen BK282.out 1; have hfz34_2 := blk_frozen BK282.out 2))
                                  (try simp only [Act.put, List.setIfInBounds_toArray, List.set_cons_zero, List.set_cons_succ])
                                  go_cut [81] (fun v81 wc => ∃ (kq : Nat) (x81_29 : Bool), v81 = .bool x81_29 ∧ Aside0 (pestlelaw53_LineWrites.j4 kq l0 a1 x5_2 x6_2 t276 t277 l0 (l0.length : Int) x36_2 x81_29 = some r) ∧ Aside0 (kq ≤ kj20) ∧ Aside0 (wc.heap[gb273]? = some (.cells #[.int .i64 ((rd_T49 l0 x36_2).f0), .string ((rd_T49 l0 x36_2).f1), .string ((rd_T49 l0 x36_2).f2)] 49 (0, 0))) ∧ Aside0 (wc.heap[gb282]? = some (.cells #[.int .i64 t278, .string t279, .string t280] 49 (0, 0))) ∧ Aside0 (Below w.heap.size w wc))
                                  case first =>
                                    have H := HC30.out
                                    clear HC30
                                    by_cases c35 : t281 = 0
                                    · rw [if_pos c35] at H
                                      have c35b0 : (t281 == 0) = true := beq_iff_eq.mpr c35
                                      have c35b1 : (t281 != 0) = false := bne_eq_false_iff_eq.mpr c35
                                      clear c35
                                      (first | rw [c35b0] | (simp only [i64_w, i32_w]; rw [c35b0]) | skip)
                                      have H' := Aside0.mk H
                                      clear H
                                      have hnb36 := NB282_273.out
                                      have hnc36 := NB273_282.out
                                      have hcz37_0 : w32.cell? ⟨gb282, 0, none⟩ = some (.int .i64 0) := (blk_cell BK282.out 0).trans rfl
                                      have hcz37_1 : w32.cell? ⟨gb282, 1, none⟩ = some (.string (⟨#[]⟩ : ByteArray)) := (blk_cell BK282.out 1).trans rfl
                                      have hcz37_2 : w32.cell? ⟨gb282, 2, none⟩ = some (.string (⟨#[]⟩ : ByteArray)) := (blk_cell BK282.out 2).trans rfl
                                      have hfz37_0 := blk_frozen BK282.out 0
                                      have hfz37_1 := blk_frozen BK282.out 1
                                      have hfz37_2 := blk_frozen BK282.out 2
                                      have hcz38_0 : w32.cell? ⟨gb273, 0, none⟩ = some (.int .i64 ((rd_T49 l0 x36_2).f0)) := (blk_cell BK273.out 0).trans rfl
                                      have hcz38_1 : w32.cell? ⟨gb273, 1, none⟩ = some (.string ((rd_T49 l0 x36_2).f1)) := (blk_cell BK273.out 1).trans rfl
                                      have hcz38_2 : w32.cell? ⟨gb273, 2, none⟩ = some (.string ((rd_T49 l0 x36_2).f2)) := (blk_cell BK273.out 2).trans rfl
                                      have hfz38_0 := blk_frozen BK273.out 0
                                      have hfz38_1 := blk_frozen BK273.out 1
                                      have hfz38_2 := blk_frozen BK273.out 2
                                      go_wp2
                                      go_meet
                                      case rel => exact ⟨_, ((!(t278 == ((rd_T49 l0 x36_2).f0)) || (!(t279.toList == ((rd_T49 l0 x36_2).f1).toList) || (!(t280.toList == ((rd_T49 l0 x36_2).f2).toList))))), (by first | rfl | (simp; done) | (simp [*]; done)), H', ⟨by have := HJ4.out; have := HK2.out; have := HJ11.out; have := HJ20.out; first | omega | exact Nat.le_refl _⟩, ⟨by (with_reducible repeat (first | refine blk_drewN ?_ _ | refine blk_drew ?_ | refine blk_alloc ?_ _)); refine blk_far ?_ NB273_282.out _; (with_reducible repeat (first | refine blk_drewN ?_ _ | refine blk_drew ?_ | refine blk_alloc ?_ _)); refine blk_far ?_ NB273_282.out _; (with_reducible repeat (first | refine blk_drewN ?_ _ | refine blk_drew ?_ | refine blk_alloc ?_ _)); refine blk_far ?_ NB273_282.out _; (with_reducible repeat (first | refine blk_drewN ?_ _ | refine blk_drew ?_ | refine blk_alloc ?_ _)); exact BK273.out⟩, ⟨by (with_reducible repeat (first | refine blk_drewN ?_ _ | refine blk_drew ?_ | refine blk_alloc ?_ _)); refine blk_put (cs := #[.int .i64 t278, .string t279, .string (⟨#[]⟩ : ByteArray)]) ?_ 2 _ rfl; (with_reducible repeat (first | refine blk_drewN ?_ _ | refine blk_drew ?_ | refine blk_alloc ?_ _)); refine blk_put (cs := #[.int .i64 t278, .string (⟨#[]⟩ : ByteArray), .string (⟨#[]⟩ : ByteArray)]) ?_ 1 _ rfl; (with_reducible repeat (first | refine blk_drewN ?_ _ | refine blk_drew ?_ | refine blk_alloc ?_ _)); refine blk_put (cs := #[.int .i64 0, .string (⟨#[]⟩ : ByteArray), .string (⟨#[]⟩ : ByteArray)]) ?_ 0 _ rfl; (with_reducible repeat (first | refine blk_drewN ?_ _ | refine blk_drew ?_ | refine blk_alloc ?_ _)); exact BK282.out⟩, ⟨by repeat (first | (with_reducible first | exact HB.out | apply below_alloc | apply pw_below_drewN | apply below_drew1 | refine below_set ?_ GE273.out | refine below_set ?_ GE282.out) | exact HB.out)⟩⟩
                                    · rw [if_neg c35] at H
                                      have c35b0 : (t281 == 0) = false := beq_eq_false_iff_ne.mpr c35
                                      have c35b1 : (t281 != 0) = true := bne_iff_ne.mpr c35
                                      (first | rw [c35b0] | (simp only [i64_w, i32_w]; rw [c35b0]) | skip)
                                      have H' := Aside0.mk H
                                      clear H
                                      go_wp2
                                      go_meet
                                      case rel => exact ⟨_, (true), (by first | rfl | (simp; done) | (simp [*]; done)), H', ⟨by have := HJ4.out; have := HK2.out; have := HJ11.out; have := HJ20.out; first | omega | exact Nat.le_refl _⟩, ⟨by (with_reducible repeat (first | refine blk_drewN ?_ _ | refine blk_drew ?_ | refine blk_alloc ?_ _)); refine blk_far ?_ NB273_282.out _; (with_reducible repeat (first | refine blk_drewN ?_ _ | refine blk_drew ?_ | refine blk_alloc ?_ _)); refine blk_far ?_ NB273_282.out _; (with_reducible repeat (first | refine blk_drewN ?_ _ | refine blk_drew ?_ | refine blk_alloc ?_ _)); refine blk_far ?_ NB273_282.out _; (with_reducible repeat (first | refine blk_drewN ?_ _ | refine blk_drew ?_ | refine blk_alloc ?_ _)); exact BK273.out⟩, ⟨by (with_reducible repeat (first | refine blk_drewN ?_ _ | refine blk_drew ?_ | refine blk_alloc ?_ _)); refine blk_put (cs := #[.int .i64 t278, .string t279, .string (⟨#[]⟩ : ByteArray)]) ?_ 2 _ rfl; (with_reducible repeat (first | refine blk_drewN ?_ _ | refine blk_drew ?_ | refine blk_alloc ?_ _)); refine blk_put (cs := #[.int .i64 t278, .string (⟨#[]⟩ : ByteArray), .string (⟨#[]⟩ : ByteArray)]) ?_ 1 _ rfl; (with_reducible repeat (first | refine blk_drewN ?_ _ | refine blk_drew ?_ | refine blk_alloc ?_ _)); refine blk_put (cs := #[.int .i64 0, .string (⟨#[]⟩ : ByteArray), .string (⟨#[]⟩ : ByteArray)]) ?_ 0 _ rfl; (with_reducible repeat (first | refine blk_drewN ?_ _ | refine blk_drew ?_ | refine blk_alloc ?_ _)); exact BK282.out⟩, ⟨by repeat (first | (with_reducible first | exact HB.out | apply below_alloc | apply pw_below_drewN | apply below_drew1 | refine below_set ?_ GE273.out | refine below_set ?_ GE282.out) | exact HB.out)⟩⟩
                                  case rest =>
                                    clear HC30
                                    try clear c1
                                    try clear c2
                                    try clear p2
                                    try clear q2
                                    try clear hx2
                                    try clear c3
                                    try clear c4
                                    try clear c5
                                    try clear p6
                                    try clear c7
                                    try clear c7b0
                                    try clear c7b1
                                    try clear c8
                                    try clear c9
                                    try clear c9b0
                                    try clear c10
                                    try clear c10b0
                                    try clear c11
                                    try clear c11b0
                                    try clear c15
                                    try clear c15b0
                                    try clear c15b1
                                    try clear c18
                                    try clear c26
                                    try clear c26b0
                                    try clear c26b1
                                    try clear c27
                                    try clear p27
                                    try clear q27
                                    try clear hx27
                                    try clear c28
                                    try clear c28b0
                                    try clear c28b1
                                    try clear c33
                                    try clear c35
                                    try clear c35b0
                                    try clear c35b1
                                    try clear c36
                                    try clear hcz14_0
                                    try clear hcz14_1
                                    try clear hcz14_2
                                    try clear hcz16_0
                                    try clear hcz16_1
                                    try clear hcz16_2
                                    try clear hcz17_0
                                    try clear hcz17_1
                                    try clear hcz17_2
                                    try clear hcz22_0
                                    try clear hcz22_1
                                    try clear hcz22_2
                                    try clear hcz24_0
                                    try clear hcz24_1
                                    try clear hcz24_2
                                    try clear hcz34_0
                                    try clear hcz34_1
                                    try clear hcz34_2
                                    try clear hcz37_0
                                    try clear hcz37_1
                                    try clear hcz37_2
                                    try clear hcz38_0
                                    try clear hcz38_1
                                    try clear hcz38_2
                                    try clear hfz14_0
                                    try clear hfz14_1
                                    try clear hfz14_2
                                    try clear hfz16_0
                                    try clear hfz16_1
                                    try clear hfz16_2
                                    try clear hfz17_0
                                    try clear hfz17_1
                                    try clear hfz17_2
                                    try clear hfz22_0
                                    try clear hfz22_1
                                    try clear hfz22_2
                                    try clear hfz24_0
                                    try clear hfz24_1
                                    try clear hfz24_2
                                    try clear hfz34_0
                                    try clear hfz34_1
                                    try clear hfz34_2
                                    try clear hfz37_0
                                    try clear hfz37_1
                                    try clear hfz37_2
                                    try clear hfz38_0
                                    try clear hfz38_1
                                    try clear hfz38_2
                                    try clear hx272_0
                                    try clear hx272_1
                                    try clear hx272_2
                                    try clear p2
                                    try clear p272
                                    try clear q2
                                    try clear q272
                                    obtain ⟨kq, x81_29, rfl, HA, HJ29, BK273, BK282, HB⟩ := hcut
                                    cases kq with
                                    | zero => exact absurd HA.out (by simp [pestlelaw53_LineWrites.j4])
                                    | succ kj29 =>
                                      have H := HA.out
                                      clear HA
                                      simp only [pestlelaw53_LineWrites.j4] at H
                                      by_cases c39 : x81_29 = true
                                      · subst c39
                                        have H1 : (some false) = some r := by rw [if_pos rfl] at H; exact H
                                        clear H
                                        have H := H1
                                        clear H1
                                        obtain rfl := Option.some.inj H
                                        go_wp2
                                        go_ret
                                        exact ⟨by first | rfl | (simp [errW_none, errW_some] <;> rfl) | (simp [*, errW_none, errW_some] <;> rfl), by repeat (first | (with_reducible first | exact HB.out | apply below_alloc | apply pw_below_drewN | apply below_drew1 | refine below_set ?_ GE273.out | refine below_set ?_ GE282.out) | exact HB.out)⟩
                                      · replace c39 := Bool.eq_false_iff.mpr c39
                                        subst c39
                                        have H1 : (if x6_2 = 0 then (if x5_2.size + t276.size ≤ 9223372036854775807 then (if (x5_2 ++ t276).size + 1 ≤ 9223372036854775807 then (pestlelaw53_LineWrites.l0 kj29 l0 a1 ((x5_2 ++ t276) ++ (⟨#[10]⟩ : ByteArray)) t277 l0 (l0.length : Int) (wrap64 (x36_2 + 1))) else (none)) else (none)) else (if x5_2.size + t276.size ≤ 9223372036854775807 then (if (x5_2 ++ t276).size + 1 ≤ 9223372036854775807 then (pestlelaw53_LineWrites.l0 kj29 l0 a1 ((x5_2 ++ t276) ++ (⟨#[10]⟩ : ByteArray)) x6_2 l0 (l0.length : Int) (wrap64 (x36_2 + 1))) else (none)) else (none))) = some r := by rw [if_neg (show ¬ (false = true) by decide)] at H; exact H
                                        clear H
                                        have H := H1
                                        clear H1
                                        by_cases c40 : x6_2 = 0
                                        · rw [if_pos c40] at H
                                          have c40b0 : (x6_2 == 0) = true := beq_iff_eq.mpr c40
                                          have c40b1 : (x6_2 != 0) = false := bne_eq_false_iff_eq.mpr c40
                                          clear c40
                                          by_cases c41 : x5_2.size + t276.size ≤ 9223372036854775807
                                          · rw [if_pos c41] at H
                                            have c41b0 := eq_true c41
                                            have c41b1 : decide (x5_2.size + t276.size ≤ 9223372036854775807) = true := decide_eq_true c41
                                            try have c41b2 : (9223372036854775807 < x5_2.size + t276.size) = False := eq_false (Nat.not_lt.2 c41)
                                            by_cases c42 : (x5_2 ++ t276).size + 1 ≤ 9223372036854775807
                                            · rw [if_pos c42] at H
                                              have c42b0 := eq_true c42
                                              have c42b1 : decide ((x5_2 ++ t276).size + 1 ≤ 9223372036854775807) = true := decide_eq_true c42
                                              try have c42b2 : (9223372036854775807 < (x5_2 ++ t276).size + 1) = False := eq_false (Nat.not_lt.2 c42)
                                              have c42b3 := c42b0
                                              simp only [ByteArray.size_append] at c42b3
                                              have c42b5 := c42b2
                                              simp only [ByteArray.size_append] at c42b5
                                              have H' := Aside0.mk H
                                              clear H
                                              go_wp2
                                              go_roundg kj29
                                              case measure => have := HJ4.out; have := HK2.out; have := HJ11.out; have := HJ20.out; have := HJ29.out; omega
                                              case rel => exact ⟨((x5_2 ++ t276) ++ (⟨#[10]⟩ : ByteArray)), (t277), (wrap64 (x36_2 + 1)), (by first | rfl | (simp; done) | (simp [*]; done)), (by first | rfl | (simp; done) | (simp [*]; done)), (by first | rfl | (simp; done) | (simp [*]; done)), H', ⟨by have := HJ4.out; have := HK2.out; have := HJ11.out; have := HJ20.out; have := HJ29.out; omega⟩, ⟨by repeat (first | (with_reducible first | exact HB.out | apply below_alloc | apply pw_below_drewN | apply below_drew1 | refine below_set ?_ GE273.out | refine below_set ?_ GE282.out) | exact HB.out)⟩⟩
                                            · rw [if_neg c42] at H
                                              exact absurd H (by simp)
                                          · rw [if_neg c41] at H
                                            exact absurd H (by simp)
                                        · rw [if_neg c40] at H
                                          have c40b0 : (x6_2 == 0) = false := beq_eq_false_iff_ne.mpr c40
                                          have c40b1 : (x6_2 != 0) = true := bne_iff_ne.mpr c40
                                          by_cases c43 : x5_2.size + t276.size ≤ 9223372036854775807
                                          · rw [if_pos c43] at H
                                            have c43b0 := eq_true c43
                                            have c43b1 : decide (x5_2.size + t276.size ≤ 9223372036854775807) = true := decide_eq_true c43
                                            try have c43b2 : (9223372036854775807 < x5_2.size + t276.size) = False := eq_false (Nat.not_lt.2 c43)
                                            by_cases c44 : (x5_2 ++ t276).size + 1 ≤ 9223372036854775807
                                            · rw [if_pos c44] at H
                                              have c44b0 := eq_true c44
                                              have c44b1 : decide ((x5_2 ++ t276).size + 1 ≤ 9223372036854775807) = true := decide_eq_true c44
                                              try have c44b2 : (9223372036854775807 < (x5_2 ++ t276).size + 1) = False := eq_false (Nat.not_lt.2 c44)
                                              have c44b3 := c44b0
                                              simp only [ByteArray.size_append] at c44b3
                                              have c44b5 := c44b2
                                              simp only [ByteArray.size_append] at c44b5
                                              have H' := Aside0.mk H
                                              clear H
                                              go_wp2
                                              go_roundg kj29
                                              case measure => have := HJ4.out; have := HK2.out; have := HJ11.out; have := HJ20.out; have := HJ29.out; omega
                                              case rel => exact ⟨((x5_2 ++ t276) ++ (⟨#[10]⟩ : ByteArray)), (x6_2), (wrap64 (x36_2 + 1)), (by first | rfl | (simp; done) | (simp [*]; done)), (by first | rfl | (simp; done) | (simp [*]; done)), (by first | rfl | (simp; done) | (simp [*]; done)), H', ⟨by have := HJ4.out; have := HK2.out; have := HJ11.out; have := HJ20.out; have := HJ29.out; omega⟩, ⟨by repeat (first | (with_reducible first | exact HB.out | apply below_alloc | apply pw_below_drewN | apply below_drew1 | refine below_set ?_ GE273.out | refine below_set ?_ GE282.out) | exact HB.out)⟩⟩
                                            · rw [if_neg c44] at H
                                              exact absurd H (by simp)
                                          · rw [if_neg c43] at H
                                            exact absurd H (by simp)
                                · rw [if_neg c28] at H
                                  have c28b0 : (t275 == 0) = false := beq_eq_false_iff_ne.mpr c28
                                  have c28b1 : (t275 != 0) = true := bne_iff_ne.mpr c28
                                  by_cases c45 : x6_2 = 0
                                  · rw [if_pos c45] at H
                                    have c45b0 : (x6_2 == 0) = true := beq_iff_eq.mpr c45
                                    have c45b1 : (x6_2 != 0) = false := bne_eq_false_iff_eq.mpr c45
                                    clear c45
                                    by_cases c46 : x5_2.size + t276.size ≤ 9223372036854775807
                                    · rw [if_pos c46] at H
                                      have c46b0 := eq_true c46
                                      have c46b1 : decide (x5_2.size + t276.size ≤ 9223372036854775807) = true := decide_eq_true c46
                                      try have c46b2 : (9223372036854775807 < x5_2.size + t276.size) = False := eq_false (Nat.not_lt.2 c46)
                                      by_cases c47 : (x5_2 ++ t276).size + 1 ≤ 9223372036854775807
                                      · rw [if_pos c47] at H
                                        have c47b0 := eq_true c47
                                        have c47b1 : decide ((x5_2 ++ t276).size + 1 ≤ 9223372036854775807) = true := decide_eq_true c47
                                        try have c47b2 : (9223372036854775807 < (x5_2 ++ t276).size + 1) = False := eq_false (Nat.not_lt.2 c47)
                                        have c47b3 := c47b0
                                        simp only [ByteArray.size_append] at c47b3
                                        have c47b5 := c47b2
                                        simp only [ByteArray.size_append] at c47b5
                                        have H' := Aside0.mk H
                                        clear H
                                        go_wp2
                                        go_roundg kj20
                                        case measure => have := HJ4.out; have := HK2.out; have := HJ11.out; have := HJ20.out; omega
                                        case rel => exact ⟨((x5_2 ++ t276) ++ (⟨#[10]⟩ : ByteArray)), (t277), (wrap64 (x36_2 + 1)), (by first | rfl | (simp; done) | (simp [*]; done)), (by first | rfl | (simp; done) | (simp [*]; done)), (by first | rfl | (simp; done) | (simp [*]; done)), H', ⟨by have := HJ4.out; have := HK2.out; have := HJ11.out; have := HJ20.out; omega⟩, ⟨by repeat (first | (with_reducible first | exact HB.out | apply below_alloc | apply pw_below_drewN | apply below_drew1 | refine below_set ?_ GE273.out) | exact HB.out)⟩⟩
                                      · rw [if_neg c47] at H
                                        exact absurd H (by simp)
                                    · rw [if_neg c46] at H
                                      exact absurd H (by simp)
                                  · rw [if_neg c45] at H
                                    have c45b0 : (x6_2 == 0) = false := beq_eq_false_iff_ne.mpr c45
                                    have c45b1 : (x6_2 != 0) = true := bne_iff_ne.mpr c45
                                    by_cases c48 : x5_2.size + t276.size ≤ 9223372036854775807
                                    · rw [if_pos c48] at H
                                      have c48b0 := eq_true c48
                                      have c48b1 : decide (x5_2.size + t276.size ≤ 9223372036854775807) = true := decide_eq_true c48
                                      try have c48b2 : (9223372036854775807 < x5_2.size + t276.size) = False := eq_false (Nat.not_lt.2 c48)
                                      by_cases c49 : (x5_2 ++ t276).size + 1 ≤ 9223372036854775807
                                      · rw [if_pos c49] at H
                                        have c49b0 := eq_true c49
                                        have c49b1 : decide ((x5_2 ++ t276).size + 1 ≤ 9223372036854775807) = true := decide_eq_true c49
                                        try have c49b2 : (9223372036854775807 < (x5_2 ++ t276).size + 1) = False := eq_false (Nat.not_lt.2 c49)
                                        have c49b3 := c49b0
                                        simp only [ByteArray.size_append] at c49b3
                                        have c49b5 := c49b2
                                        simp only [ByteArray.size_append] at c49b5
                                        have H' := Aside0.mk H
                                        clear H
                                        go_wp2
                                        go_roundg kj20
                                        case measure => have := HJ4.out; have := HK2.out; have := HJ11.out; have := HJ20.out; omega
                                        case rel => exact ⟨((x5_2 ++ t276) ++ (⟨#[10]⟩ : ByteArray)), (x6_2), (wrap64 (x36_2 + 1)), (by first | rfl | (simp; done) | (simp [*]; done)), (by first | rfl | (simp; done) | (simp [*]; done)), (by first | rfl | (simp; done) | (simp [*]; done)), H', ⟨by have := HJ4.out; have := HK2.out; have := HJ11.out; have := HJ20.out; omega⟩, ⟨by repeat (first | (with_reducible first | exact HB.out | apply below_alloc | apply pw_below_drewN | apply below_drew1 | refine below_set ?_ GE273.out) | exact HB.out)⟩⟩
                                      · rw [if_neg c49] at H
                                        exact absurd H (by simp)
                                    · rw [if_neg c48] at H
                                      exact absurd H (by simp)
                  · rw [if_neg c11] at H
                    exact absurd H (by simp)
                · rw [if_neg c10] at H
                  exact absurd H (by simp)
              · rw [if_neg c9] at H
                have c9b0 : decide (x36_2 < (l0.length : Int)) = false := decide_eq_false c9
                clear c9
                replace H := Option.bind_eq_some_iff.mp H
                obtain ⟨⟨t283, t284⟩, A500, H⟩ := H
                replace H : (if x6_2 = 0 then ((line_All.f k2 t283).bind fun bt285 => (if t284 = 0 then (if t283.toList = x5_2.toList then (if bt285.2.2 = 0 then (if bt285.2.1 = 0 then ((pestleref53_Same.f k2 l0 bt285.1).bind fun t290 => (pestlelaw53_LineWrites.j5 k2 a1 (!t290))) else (pestlelaw53_LineWrites.j5 k2 a1 true)) else (pestlelaw53_LineWrites.j5 k2 a1 true)) else (pestlelaw53_LineWrites.j5 k2 a1 true)) else (pestlelaw53_LineWrites.j5 k2 a1 true))) else (if t284 = x6_2 then (some (t283.toList == ([] : List UInt8))) else (some false))) = some r := H
                have A50 := Aside0.mk A500
                clear A500
                by_cases c51 : x6_2 = 0
                · rw [if_pos c51] at H
                  have c51b0 : (x6_2 == 0) = true := beq_iff_eq.mpr c51
                  have c51b1 : (x6_2 != 0) = false := bne_eq_false_iff_eq.mpr c51
                  clear c51
                  replace H := Option.bind_eq_some_iff.mp H
                  obtain ⟨⟨t285, t286, t287⟩, A520, H⟩ := H
                  replace H : (if t284 = 0 then (if t283.toList = x5_2.toList then (if t287 = 0 then (if t286 = 0 then ((pestleref53_Same.f k2 l0 t285).bind fun t290 => (pestlelaw53_LineWrites.j5 k2 a1 (!t290))) else (pestlelaw53_LineWrites.j5 k2 a1 true)) else (pestlelaw53_LineWrites.j5 k2 a1 true)) else (pestlelaw53_LineWrites.j5 k2 a1 true)) else (pestlelaw53_LineWrites.j5 k2 a1 true)) = some r := H
                  have A52 := Aside0.mk A520
                  clear A520
                  have HC53 := Aside0.mk H
                  clear H
                  go_upto_region 27 with (first | ((with_reducible refine gate_callee (f := 59) rfl ?_); refine goesL_ (some 92) rfl rfl Try.func59 (by kernel_rfl) rfl #[.slice A0 l0.length c0] rfl (by (try simp only [List.map_toArray, List.map_cons, List.map_nil]); first | done | rfl | (simp only [List.length_drop, List.length_take]; rfl)) ?_; (with_reducible refine (line_Lines.calls k2 _ _ l0 t283 t284 _ ?side1 ?side2 A50.out).mono ?_); (case side1 => repeat (first | exact (Kd.C_below HR0.out HB.out) | (with_reducible refine Kd.C_alloc ?_ _) | (with_reducible refine Kd.C_drewN ?_ _) | (with_reducible refine Kd.C_drew ?_))); (case side2 => exact HC0.out); rintro e w54 ⟨rfl, hb⟩; refine ⟨_, rfl, ?_⟩; have n0_ := Aside0.mk (below_step (by repeat (first | (with_reducible first | exact HB.out | apply below_alloc | apply pw_below_drewN | apply below_drew1) | exact HB.out)) hb); clear HB; have HB := n0_; clear n0_; (try clear hb); (try clear hb2); (try clear hk); (try clear hi)) | ((with_reducible refine gate_callee (f := 50) rfl ?_); refine goesL_ (some 106) rfl rfl Try.func50 (by kernel_rfl) rfl #[.string t283] rfl (by (try simp only [List.map_toArray, List.map_cons, List.map_nil]); first | done | rfl | (simp only [List.length_drop, List.length_take]; rfl)) ?_; (with_reducible refine (line_All.calls k2 t283 t285 t286 t287 _ A52.out).mono ?_); rintro e w55 ⟨v288, rfl, ho0, hb⟩; refine ⟨_, rfl, ?_⟩; have n0_ := Aside0.mk (Kd.R_lower ho0 (below_size (by repeat (first | (with_reducible first | exact HB.out | apply below_alloc | apply pw_below_drewN | apply below_drew1) | exact HB.out)))); have n1_ := Aside0.mk (below_step (by repeat (first | (with_reducible first | exact HB.out | apply below_alloc | apply pw_below_drewN | apply below_drew1) | exact HB.out)) hb); clear HB; have HO289 := n0_; have HB := n1_; clear n0_ n1_; (try clear hb); (try clear hb2); (try clear hk); (try clear hi); (try clear ho0)))
                  (try simp only [Act.put, List.setIfInBounds_toArray, List.set_cons_zero, List.set_cons_succ])
                  go_cut [130] (fun v130 wc => ∃ (kq : Nat) (x130_52 : Bool), v130 = .bool x130_52 ∧ Aside0 (pestlelaw53_LineWrites.j5 kq a1 x130_52 = some r) ∧ Aside0 (kq ≤ k2) ∧ Aside0 (Below w.heap.size w wc))
                  case first =>
                    have H := HC53.out
                    clear HC53
                    by_cases c56 : t284 = 0
                    · rw [if_pos c56] at H
                      have c56b0 : (t284 == 0) = true := beq_iff_eq.mpr c56
                      have c56b1 : (t284 != 0) = false := bne_eq_false_iff_eq.mpr c56
                      clear c56
                      (first | rw [c56b0] | (simp only [i64_w, i32_w]; rw [c56b0]) | skip)
                      by_cases c57 : t283.toList = x5_2.toList
                      · rw [if_pos c57] at H
                        have c57b0 : (t283.toList == x5_2.toList) = true := beq_iff_eq.mpr c57
                        have c57b1 : (t283.toList != x5_2.toList) = false := bne_eq_false_iff_eq.mpr c57
                        clear c57
                        by_cases c58 : t287 = 0
                        · rw [if_pos c58] at H
                          have c58b0 : (t287 == 0) = true := beq_iff_eq.mpr c58
                          have c58b1 : (t287 != 0) = false := bne_eq_false_iff_eq.mpr c58
                          clear c58
                          by_cases c59 : t286 = 0
                          · rw [if_pos c59] at H
                            have c59b0 : (t286 == 0) = true := beq_iff_eq.mpr c59
                            have c59b1 : (t286 != 0) = false := bne_eq_false_iff_eq.mpr c59
                            clear c59
                            replace H := Option.bind_eq_some_iff.mp H
                            obtain ⟨t290, A600, H⟩ := H
                            replace H : (pestlelaw53_LineWrites.j5 k2 a1 (!t290)) = some r := H
                            have A60 := Aside0.mk A600
                            clear A600
                            have H' := Aside0.mk H
                            clear H
                            obtain ⟨Ao61, co61, eo61⟩ := Kd.R_slice HO289.out
                            subst eo61
                            go_wp2_with (first | (go_at_call 54; (with_reducible refine (pestleref53_Same.calls k2 _ _ l0 _ _ t285 t290 _ ?side1 ?side2 ?side3 ?side4 A60.out).mono ?_); (case side1 => repeat (first | exact (Kd.C_below HR0.out HB.out) | (with_reducible refine Kd.C_alloc ?_ _) | (with_reducible refine Kd.C_drewN ?_ _) | (with_reducible refine Kd.C_drew ?_))); (case side2 => exact HC0.out); (case side3 => repeat (first | exact (Kd.R_reads' HO289.out).2.2 | (with_reducible refine Kd.C_alloc ?_ _) | (with_reducible refine Kd.C_drewN ?_ _) | (with_reducible refine Kd.C_drew ?_))); (case side4 => exact (Kd.R_reads' HO289.out).2.1); rintro e w' ⟨rfl, ⟨nd, rfl⟩⟩))
                            go_meet
                            case rel => exact ⟨_, (!t290), (by first | rfl | (simp; done) | (simp [*]; done)), H', ⟨by have := HJ4.out; have := HK2.out; first | omega | exact Nat.le_refl _⟩, ⟨by repeat (first | (with_reducible first | exact HB.out | apply below_alloc | apply pw_below_drewN | apply below_drew1) | exact HB.out)⟩⟩
                          · rw [if_neg c59] at H
                            have c59b0 : (t286 == 0) = false := beq_eq_false_iff_ne.mpr c59
                            have c59b1 : (t286 != 0) = true := bne_iff_ne.mpr c59
                            have H' := Aside0.mk H
                            clear H
                            go_wp2
                            go_meet
                            case rel => exact ⟨_, (true), (by first | rfl | (simp; done) | (simp [*]; done)), H', ⟨by have := HJ4.out; have := HK2.out; first | omega | exact Nat.le_refl _⟩, ⟨by repeat (first | (with_reducible first | exact HB.out | apply below_alloc | apply pw_below_drewN | apply below_drew1) | exact HB.out)⟩⟩
                        · rw [if_neg c58] at H
                          have c58b0 : (t287 == 0) = false := beq_eq_false_iff_ne.mpr c58
                          have c58b1 : (t287 != 0) = true := bne_iff_ne.mpr c58
                          have H' := Aside0.mk H
                          clear H
                          go_wp2
                          go_meet
                          case rel => exact ⟨_, (true), (by first | rfl | (simp; done) | (simp [*]; done)), H', ⟨by have := HJ4.out; have := HK2.out; first | omega | exact Nat.le_refl _⟩, ⟨by repeat (first | (with_reducible first | exact HB.out | apply below_alloc | apply pw_below_drewN | apply below_drew1) | exact HB.out)⟩⟩
                      · rw [if_neg c57] at H
                        have c57b0 : (t283.toList == x5_2.toList) = false := beq_eq_false_iff_ne.mpr c57
                        have c57b1 : (t283.toList != x5_2.toList) = true := bne_iff_ne.mpr c57
                        have H' := Aside0.mk H
                        clear H
                        go_wp2
                        go_meet
                        case rel => exact ⟨_, (true), (by first | rfl | (simp; done) | (simp [*]; done)), H', ⟨by have := HJ4.out; have := HK2.out; first | omega | exact Nat.le_refl _⟩, ⟨by repeat (first | (with_reducible first | exact HB.out | apply below_alloc | apply pw_below_drewN | apply below_drew1) | exact HB.out)⟩⟩
                    · rw [if_neg c56] at H
                      have c56b0 : (t284 == 0) = false := beq_eq_false_iff_ne.mpr c56
                      have c56b1 : (t284 != 0) = true := bne_iff_ne.mpr c56
                      (first | rw [c56b0] | (simp only [i64_w, i32_w]; rw [c56b0]) | skip)
                      have H' := Aside0.mk H
                      clear H
                      go_wp2
                      go_meet
                      case rel => exact ⟨_, (true), (by first | rfl | (simp; done) | (simp [*]; done)), H', ⟨by have := HJ4.out; have := HK2.out; first | omega | exact Nat.le_refl _⟩, ⟨by repeat (first | (with_reducible first | exact HB.out | apply below_alloc | apply pw_below_drewN | apply below_drew1) | exact HB.out)⟩⟩
                  case rest =>
                    clear HC53
                    try clear c1
                    try clear c2
                    try clear p2
                    try clear q2
                    try clear hx2
                    try clear c3
                    try clear c4
                    try clear c5
                    try clear p6
                    try clear c7
                    try clear c7b0
                    try clear c7b1
                    try clear c8
                    try clear c9
                    try clear c9b0
                    try clear c10
                    try clear c10b0
                    try clear c11
                    try clear c11b0
                    try clear c15
                    try clear c15b0
                    try clear c15b1
                    try clear c18
                    try clear c26
                    try clear c26b0
                    try clear c26b1
                    try clear c27
                    try clear p27
                    try clear q27
                    try clear hx27
                    try clear c28
                    try clear c28b0
                    try clear c28b1
                    try clear c33
                    try clear c35
                    try clear c35b0
                    try clear c35b1
                    try clear c36
                    try clear c39
                    try clear c40
                    try clear c40b0
                    try clear c40b1
                    try clear c41
                    try clear c41b0
                    try clear c41b1
                    try clear c41b2
                    try clear c42
                    try clear c42b0
                    try clear c42b1
                    try clear c42b2
                    try clear c43
                    try clear c43b0
                    try clear c43b1
                    try clear c43b2
                    try clear c44
                    try clear c44b0
                    try clear c44b1
                    try clear c44b2
                    try clear c45
                    try clear c45b0
                    try clear c45b1
                    try clear c46
                    try clear c46b0
                    try clear c46b1
                    try clear c46b2
                    try clear c47
                    try clear c47b0
                    try clear c47b1
                    try clear c47b2
                    try clear c48
                    try clear c48b0
                    try clear c48b1
                    try clear c48b2
                    try clear c49
                    try clear c49b0
                    try clear c49b1
                    try clear c49b2
                    try clear c50
                    try clear c51
                    try clear c51b0
                    try clear c51b1
                    try clear c56
                    try clear c56b0
                    try clear c56b1
                    try clear c57
                    try clear c57b0
                    try clear c57b1
                    try clear c58
                    try clear c58b0
                    try clear c58b1
                    try clear c59
                    try clear c59b0
                    try clear c59b1
                    try clear hcz14_0
                    try clear hcz14_1
                    try clear hcz14_2
                    try clear hcz16_0
                    try clear hcz16_1
                    try clear hcz16_2
                    try clear hcz17_0
                    try clear hcz17_1
                    try clear hcz17_2
                    try clear hcz22_0
                    try clear hcz22_1
                    try clear hcz22_2
                    try clear hcz24_0
                    try clear hcz24_1
                    try clear hcz24_2
                    try clear hcz34_0
                    try clear hcz34_1
                    try clear hcz34_2
                    try clear hcz37_0
                    try clear hcz37_1
                    try clear hcz37_2
                    try clear hcz38_0
                    try clear hcz38_1
                    try clear hcz38_2
                    try clear hfz14_0
                    try clear hfz14_1
                    try clear hfz14_2
                    try clear hfz16_0
                    try clear hfz16_1
                    try clear hfz16_2
                    try clear hfz17_0
                    try clear hfz17_1
                    try clear hfz17_2
                    try clear hfz22_0
                    try clear hfz22_1
                    try clear hfz22_2
                    try clear hfz24_0
                    try clear hfz24_1
                    try clear hfz24_2
                    try clear hfz34_0
                    try clear hfz34_1
                    try clear hfz34_2
                    try clear hfz37_0
                    try clear hfz37_1
                    try clear hfz37_2
                    try clear hfz38_0
                    try clear hfz38_1
                    try clear hfz38_2
                    try clear hx272_0
                    try clear hx272_1
                    try clear hx272_2
                    try clear p2
                    try clear p27
                    try clear p272
                    try clear p6
                    try clear q2
                    try clear q27
                    try clear q272
                    obtain ⟨kq, x130_52, rfl, HA, HJ52, HB⟩ := hcut
                    cases kq with
                    | zero => exact absurd HA.out (by simp [pestlelaw53_LineWrites.j5])
                    | succ kj52 =>
                      have H := HA.out
                      clear HA
                      simp only [pestlelaw53_LineWrites.j5] at H
                      by_cases c62 : x130_52 = true
                      · subst c62
                        have H1 : (some false) = some r := by rw [if_pos rfl] at H; exact H
                        clear H
                        have H := H1
                        clear H1
                        obtain rfl := Option.some.inj H
                        go_wp2
                        go_ret
                        exact ⟨by first | rfl | (simp [errW_none, errW_some] <;> rfl) | (simp [*, errW_none, errW_some] <;> rfl), by repeat (first | (with_reducible first | exact HB.out | apply below_alloc | apply pw_below_drewN | apply below_drew1) | exact HB.out)⟩
                      · replace c62 := Bool.eq_false_iff.mpr c62
                        subst c62
                        have H1 : ((line_Read.f kj52 a1).bind fun bt291 => (if bt291.2.2.2 = 0 then ((line_Line.f kj52 bt291.1 bt291.2.1 bt291.2.2.1).bind fun bt296 => (if bt296.2 = 0 then (some (bt296.1.toList == a1.toList)) else (some false))) else (some (bt291.1 == 0 && (bt291.2.1.toList == ([] : List UInt8) && (bt291.2.2.1.toList == ([] : List UInt8))))))) = some r := by rw [if_neg (show ¬ (false = true) by decide)] at H; exact H
                        clear H
                        have H := H1
                        clear H1
                        replace H := Option.bind_eq_some_iff.mp H
                        obtain ⟨⟨t291, t292, t293, t294⟩, A630, H⟩ := H
                        replace H : (if t294 = 0 then ((line_Line.f kj52 t291 t292 t293).bind fun bt296 => (if bt296.2 = 0 then (some (bt296.1.toList == a1.toList)) else (some false))) else (some (t291 == 0 && (t292.toList == ([] : List UInt8) && (t293.toList == ([] : List UInt8)))))) = some r := H
                        have A63 := Aside0.mk A630
                        clear A630
                        by_cases c64 : t294 = 0
                        · rw [if_pos c64] at H
                          have c64b0 : (t294 == 0) = true := beq_iff_eq.mpr c64
                          have c64b1 : (t294 != 0) = false := bne_eq_false_iff_eq.mpr c64
                          clear c64
                          replace H := Option.bind_eq_some_iff.mp H
                          obtain ⟨⟨t296, t297⟩, A650, H⟩ := H
                          replace H : (if t297 = 0 then (some (t296.toList == a1.toList)) else (some false)) = some r := H
                          have A65 := Aside0.mk A650
                          clear A650
                          by_cases c66 : t297 = 0
                          · rw [if_pos c66] at H
                            have c66b0 : (t297 == 0) = true := beq_iff_eq.mpr c66
                            have c66b1 : (t297 != 0) = false := bne_eq_false_iff_eq.mpr c66
                            clear c66
                            obtain rfl := Option.some.inj H
                            go_wp2_with (first | ((with_reducible refine gate_callee (f := 48) rfl ?_); refine goesL_ (some 133) rfl rfl Try.func48 (by kernel_rfl) rfl #[.string a1] rfl (by (try simp only [List.map_toArray, List.map_cons, List.map_nil]); first | done | rfl | (simp only [List.length_drop, List.length_take]; rfl)) ?_; (with_reducible refine (line_Read.calls kj52 a1 t291 t292 t293 t294 _ A63.out).mono ?_); rintro e w67 ⟨rfl, hb⟩; refine ⟨_, rfl, ?_⟩; have n0_ := Aside0.mk (below_step (by repeat (first | (with_reducible first | exact HB.out | apply below_alloc | apply pw_below_drewN | apply below_drew1) | exact HB.out)) hb); clear HB; have HB := n0_; clear n0_; (try clear hb); (try clear hb2); (try clear hk); (try clear hi)) | ((with_reducible refine gate_dst (N := 20) rfl ?_); (try (refine gate_guard (by rfl) ?_; dsimp only)); refine box_event ?hg (N := 20) ?hd (cs := #[.int .i64 0, .string (⟨#[]⟩ : ByteArray), .string (⟨#[]⟩ : ByteArray)]) (t := 49) ?hr ?_; (case hd => rfl); (case hg => rfl); (case hr => first | (go_simp; done) | (go_simp; rfl)); intro gb295 hg w68 hbox hb; have n0_ := Aside0.mk (below_step (by repeat (first | (with_reducible first | exact HB.out | apply below_alloc | apply pw_below_drewN | apply below_drew1) | exact HB.out)) hb); have n1_ := Aside0.mk (hbox); have n2_ := Aside0.mk ((by rw [hg]; exact (below_size (by repeat (first | (with_reducible first | exact HB.out | apply below_alloc | apply pw_below_drewN | apply below_drew1) | exact HB.out))) : w.heap.size ≤ gb295)); have n3_ := Aside0.mk ((by rw [hg]; exact (below_size (by repeat (first | (with_reducible first | exact HB.out | apply below_alloc | apply pw_below_drewN | apply below_drew1) | exact HB.out))) : w.heap.size ≤ gb295)); clear HB; have HB := n0_; have BK295 := n1_; have GW295 := n2_; have GE295 := n3_; clear n0_ n1_ n2_ n3_; clear hb hbox hg; have hcz69_0 : w68.cell? ⟨gb295, 0, none⟩ = some (.int .i64 0) := (blk_cell BK295.out 0).trans rfl; have hcz69_1 : w68.cell? ⟨gb295, 1, none⟩ = some (.string (⟨#[]⟩ : ByteArray)) := (blk_cell BK295.out 1).trans rfl; have hcz69_2 : w68.cell? ⟨gb295, 2, none⟩ = some (.string (⟨#[]⟩ : ByteArray)) := (blk_cell BK295.out 2).trans rfl; have hfz69_0 := blk_frozen BK295.out 0; have hfz69_1 := blk_frozen BK295.out 1; have hfz69_2 := blk_frozen BK295.out 2) | ((with_reducible refine gate_callee (f := 57) rfl ?_); refine goesL_ (some 143) rfl rfl Try.func57 (by kernel_rfl) rfl #[.agg #[.int .i64 t291, .string t292, .string t293]] rfl (by (try simp only [List.map_toArray, List.map_cons, List.map_nil]); first | done | rfl | (simp only [List.length_drop, List.length_take]; rfl)) ?_; (with_reducible refine (line_Line.calls kj52 t291 t292 t293 t296 t297 _ A65.out).mono ?_); rintro e w70 ⟨rfl, hb⟩; refine ⟨_, rfl, ?_⟩; have n0_ := Aside0.mk (blk_below (g := gb295) (o := .cells #[.int .i64 t291, .string t292, .string t293] 49 (0, 0)) (by (with_reducible repeat (first | refine blk_drewN ?_ _ | refine blk_drew ?_ | refine blk_alloc ?_ _)); refine blk_put (cs := #[.int .i64 t291, .string t292, .string (⟨#[]⟩ : ByteArray)]) ?_ 2 _ rfl; (with_reducible repeat (first | refine blk_drewN ?_ _ | refine blk_drew ?_ | refine blk_alloc ?_ _)); refine blk_put (cs := #[.int .i64 t291, .string (⟨#[]⟩ : ByteArray), .string (⟨#[]⟩ : ByteArray)]) ?_ 1 _ rfl; (with_reducible repeat (first | refine blk_drewN ?_ _ | refine blk_drew ?_ | refine blk_alloc ?_ _)); refine blk_put (cs := #[.int .i64 0, .string (⟨#[]⟩ : ByteArray), .string (⟨#[]⟩ : ByteArray)]) ?_ 0 _ rfl; (with_reducible repeat (first | refine blk_drewN ?_ _ | refine blk_drew ?_ | refine blk_alloc ?_ _)); exact BK295.out) hb); have n1_ := Aside0.mk (below_step (by repeat (first | (with_reducible first | exact HB.out | apply below_alloc | apply pw_below_drewN | apply below_drew1 | refine below_set ?_ GE295.out) | exact HB.out)) hb); clear BK295; clear HB; have BK295 := n0_; have HB := n1_; clear n0_ n1_; (try clear hb); (try clear hb2); (try clear hk); (try clear hi)))
                            go_ret
                            exact ⟨by first | rfl | (simp [errW_none, errW_some] <;> rfl) | (simp [*, errW_none, errW_some] <;> rfl), by repeat (first | (with_reducible first | exact HB.out | apply below_alloc | apply pw_below_drewN | apply below_drew1 | refine below_set ?_ GE295.out) | exact HB.out)⟩
                          · rw [if_neg c66] at H
                            have c66b0 : (t297 == 0) = false := beq_eq_false_iff_ne.mpr c66
                            have c66b1 : (t297 != 0) = true := bne_iff_ne.mpr c66
                            obtain rfl := Option.some.inj H
                            go_wp2_with (first | ((with_reducible refine gate_callee (f := 48) rfl ?_); refine goesL_ (some 133) rfl rfl Try.func48 (by kernel_rfl) rfl #[.string a1] rfl (by (try simp only [List.map_toArray, List.map_cons, List.map_nil]); first | done | rfl | (simp only [List.length_drop, List.length_take]; rfl)) ?_; (with_reducible refine (line_Read.calls kj52 a1 t291 t292 t293 t294 _ A63.out).mono ?_); rintro e w71 ⟨rfl, hb⟩; refine ⟨_, rfl, ?_⟩; have n0_ := Aside0.mk (below_step (by repeat (first | (with_reducible first | exact HB.out | apply below_alloc | apply pw_below_drewN | apply below_drew1) | exact HB.out)) hb); clear HB; have HB := n0_; clear n0_; (try clear hb); (try clear hb2); (try clear hk); (try clear hi)) | ((with_reducible refine gate_dst (N := 20) rfl ?_); (try (refine gate_guard (by rfl) ?_; dsimp only)); refine box_event ?hg (N := 20) ?hd (cs := #[.int .i64 0, .string (⟨#[]⟩ : ByteArray), .string (⟨#[]⟩ : ByteArray)]) (t := 49) ?hr ?_; (case hd => rfl); (case hg => rfl); (case hr => first | (go_simp; done) | (go_simp; rfl)); intro gb295 hg w72 hbox hb; have n0_ := Aside0.mk (below_step (by repeat (first | (with_reducible first | exact HB.out | apply below_alloc | apply pw_below_drewN | apply below_drew1) | exact HB.out)) hb); have n1_ := Aside0.mk (hbox); have n2_ := Aside0.mk ((by rw [hg]; exact (below_size (by repeat (first | (with_reducible first | exact HB.out | apply below_alloc | apply pw_below_drewN | apply below_drew1) | exact HB.out))) : w.heap.size ≤ gb295)); have n3_ := Aside0.mk ((by rw [hg]; exact (below_size (by repeat (first | (with_reducible first | exact HB.out | apply below_alloc | apply pw_below_drewN | apply below_drew1) | exact HB.out))) : w.heap.size ≤ gb295)); clear HB; have HB := n0_; have BK295 := n1_; have GW295 := n2_; have GE295 := n3_; clear n0_ n1_ n2_ n3_; clear hb hbox hg; have hcz73_0 : w72.cell? ⟨gb295, 0, none⟩ = some (.int .i64 0) := (blk_cell BK295.out 0).trans rfl; have hcz73_1 : w72.cell? ⟨gb295, 1, none⟩ = some (.string (⟨#[]⟩ : ByteArray)) := (blk_cell BK295.out 1).trans rfl; have hcz73_2 : w72.cell? ⟨gb295, 2, none⟩ = some (.string (⟨#[]⟩ : ByteArray)) := (blk_cell BK295.out 2).trans rfl; have hfz73_0 := blk_frozen BK295.out 0; have hfz73_1 := blk_frozen BK295.out 1; have hfz73_2 := blk_frozen BK295.out 2) | ((with_reducible refine gate_callee (f := 57) rfl ?_); refine goesL_ (some 143) rfl rfl Try.func57 (by kernel_rfl) rfl #[.agg #[.int .i64 t291, .string t292, .string t293]] rfl (by (try simp only [List.map_toArray, List.map_cons, List.map_nil]); first | done | rfl | (simp only [List.length_drop, List.length_take]; rfl)) ?_; (with_reducible refine (line_Line.calls kj52 t291 t292 t293 t296 t297 _ A65.out).mono ?_); rintro e w74 ⟨rfl, hb⟩; refine ⟨_, rfl, ?_⟩; have n0_ := Aside0.mk (blk_below (g := gb295) (o := .cells #[.int .i64 t291, .string t292, .string t293] 49 (0, 0)) (by (with_reducible repeat (first | refine blk_drewN ?_ _ | refine blk_drew ?_ | refine blk_alloc ?_ _)); refine blk_put (cs := #[.int .i64 t291, .string t292, .string (⟨#[]⟩ : ByteArray)]) ?_ 2 _ rfl; (with_reducible repeat (first | refine blk_drewN ?_ _ | refine blk_drew ?_ | refine blk_alloc ?_ _)); refine blk_put (cs := #[.int .i64 t291, .string (⟨#[]⟩ : ByteArray), .string (⟨#[]⟩ : ByteArray)]) ?_ 1 _ rfl; (with_reducible repeat (first | refine blk_drewN ?_ _ | refine blk_drew ?_ | refine blk_alloc ?_ _)); refine blk_put (cs := #[.int .i64 0, .string (⟨#[]⟩ : ByteArray), .string (⟨#[]⟩ : ByteArray)]) ?_ 0 _ rfl; (with_reducible repeat (first | refine blk_drewN ?_ _ | refine blk_drew ?_ | refine blk_alloc ?_ _)); exact BK295.out) hb); have n1_ := Aside0.mk (below_step (by repeat (first | (with_reducible first | exact HB.out | apply below_alloc | apply pw_below_drewN | apply below_drew1 | refine below_set ?_ GE295.out) | exact HB.out)) hb); clear BK295; clear HB; have BK295 := n0_; have HB := n1_; clear n0_ n1_; (try clear hb); (try clear hb2); (try clear hk); (try clear hi)))
                            go_ret
                            exact ⟨by first | rfl | (simp [errW_none, errW_some] <;> rfl) | (simp [*, errW_none, errW_some] <;> rfl), by repeat (first | (with_reducible first | exact HB.out | apply below_alloc | apply pw_below_drewN | apply below_drew1 | refine below_set ?_ GE295.out) | exact HB.out)⟩
                        · rw [if_neg c64] at H
                          have c64b0 : (t294 == 0) = false := beq_eq_false_iff_ne.mpr c64
                          have c64b1 : (t294 != 0) = true := bne_iff_ne.mpr c64
                          obtain rfl := Option.some.inj H
                          go_wp2_with (first | ((with_reducible refine gate_callee (f := 48) rfl ?_); refine goesL_ (some 133) rfl rfl Try.func48 (by kernel_rfl) rfl #[.string a1] rfl (by (try simp only [List.map_toArray, List.map_cons, List.map_nil]); first | done | rfl | (simp only [List.length_drop, List.length_take]; rfl)) ?_; (with_reducible refine (line_Read.calls kj52 a1 t291 t292 t293 t294 _ A63.out).mono ?_); rintro e w75 ⟨rfl, hb⟩; refine ⟨_, rfl, ?_⟩; have n0_ := Aside0.mk (below_step (by repeat (first | (with_reducible first | exact HB.out | apply below_alloc | apply pw_below_drewN | apply below_drew1) | exact HB.out)) hb); clear HB; have HB := n0_; clear n0_; (try clear hb); (try clear hb2); (try clear hk); (try clear hi)) | ((with_reducible refine gate_dst (N := 20) rfl ?_); (try (refine gate_guard (by rfl) ?_; dsimp only)); refine box_event ?hg (N := 20) ?hd (cs := #[.int .i64 0, .string (⟨#[]⟩ : ByteArray), .string (⟨#[]⟩ : ByteArray)]) (t := 49) ?hr ?_; (case hd => rfl); (case hg => rfl); (case hr => first | (go_simp; done) | (go_simp; rfl)); intro gb295 hg w76 hbox hb; have n0_ := Aside0.mk (below_step (by repeat (first | (with_reducible first | exact HB.out | apply below_alloc | apply pw_below_drewN | apply below_drew1) | exact HB.out)) hb); have n1_ := Aside0.mk (hbox); have n2_ := Aside0.mk ((by rw [hg]; exact (below_size (by repeat (first | (with_reducible first | exact HB.out | apply below_alloc | apply pw_below_drewN | apply below_drew1) | exact HB.out))) : w.heap.size ≤ gb295)); have n3_ := Aside0.mk ((by rw [hg]; exact (below_size (by repeat (first | (with_reducible first | exact HB.out | apply below_alloc | apply pw_below_drewN | apply below_drew1) | exact HB.out))) : w.heap.size ≤ gb295)); clear HB; have HB := n0_; have BK295 := n1_; have GW295 := n2_; have GE295 := n3_; clear n0_ n1_ n2_ n3_; clear hb hbox hg; have hcz77_0 : w76.cell? ⟨gb295, 0, none⟩ = some (.int .i64 0) := (blk_cell BK295.out 0).trans rfl; have hcz77_1 : w76.cell? ⟨gb295, 1, none⟩ = some (.string (⟨#[]⟩ : ByteArray)) := (blk_cell BK295.out 1).trans rfl; have hcz77_2 : w76.cell? ⟨gb295, 2, none⟩ = some (.string (⟨#[]⟩ : ByteArray)) := (blk_cell BK295.out 2).trans rfl; have hfz77_0 := blk_frozen BK295.out 0; have hfz77_1 := blk_frozen BK295.out 1; have hfz77_2 := blk_frozen BK295.out 2))
                          go_ret
                          exact ⟨by first | rfl | (simp [errW_none, errW_some] <;> rfl) | (simp [*, errW_none, errW_some] <;> rfl), by repeat (first | (with_reducible first | exact HB.out | apply below_alloc | apply pw_below_drewN | apply below_drew1 | refine below_set ?_ GE295.out) | exact HB.out)⟩
                · rw [if_neg c51] at H
                  have c51b0 : (x6_2 == 0) = false := beq_eq_false_iff_ne.mpr c51
                  have c51b1 : (x6_2 != 0) = true := bne_iff_ne.mpr c51
                  by_cases c78 : t284 = x6_2
                  · rw [if_pos c78] at H
                    have c78b0 : (t284 == x6_2) = true := beq_iff_eq.mpr c78
                    have c78b1 : (t284 != x6_2) = false := bne_eq_false_iff_eq.mpr c78
                    clear c78
                    obtain rfl := Option.some.inj H
                    go_wp2_with (first | ((with_reducible refine gate_callee (f := 59) rfl ?_); refine goesL_ (some 92) rfl rfl Try.func59 (by kernel_rfl) rfl #[.slice A0 l0.length c0] rfl (by (try simp only [List.map_toArray, List.map_cons, List.map_nil]); first | done | rfl | (simp only [List.length_drop, List.length_take]; rfl)) ?_; (with_reducible refine (line_Lines.calls k2 _ _ l0 t283 t284 _ ?side1 ?side2 A50.out).mono ?_); (case side1 => repeat (first | exact (Kd.C_below HR0.out HB.out) | (with_reducible refine Kd.C_alloc ?_ _) | (with_reducible refine Kd.C_drewN ?_ _) | (with_reducible refine Kd.C_drew ?_))); (case side2 => exact HC0.out); rintro e w79 ⟨rfl, hb⟩; refine ⟨_, rfl, ?_⟩; have n0_ := Aside0.mk (below_step (by repeat (first | (with_reducible first | exact HB.out | apply below_alloc | apply pw_below_drewN | apply below_drew1) | exact HB.out)) hb); clear HB; have HB := n0_; clear n0_; (try clear hb); (try clear hb2); (try clear hk); (try clear hi)))
                    go_ret
                    exact ⟨by first | rfl | (simp [errW_none, errW_some] <;> rfl) | (simp [*, errW_none, errW_some] <;> rfl), by repeat (first | (with_reducible first | exact HB.out | apply below_alloc | apply pw_below_drewN | apply below_drew1) | exact HB.out)⟩
                  · rw [if_neg c78] at H
                    have c78b0 : (t284 == x6_2) = false := beq_eq_false_iff_ne.mpr c78
                    have c78b1 : (t284 != x6_2) = true := bne_iff_ne.mpr c78
                    obtain rfl := Option.some.inj H
                    go_wp2_with (first | ((with_reducible refine gate_callee (f := 59) rfl ?_); refine goesL_ (some 92) rfl rfl Try.func59 (by kernel_rfl) rfl #[.slice A0 l0.length c0] rfl (by (try simp only [List.map_toArray, List.map_cons, List.map_nil]); first | done | rfl | (simp only [List.length_drop, List.length_take]; rfl)) ?_; (with_reducible refine (line_Lines.calls k2 _ _ l0 t283 t284 _ ?side1 ?side2 A50.out).mono ?_); (case side1 => repeat (first | exact (Kd.C_below HR0.out HB.out) | (with_reducible refine Kd.C_alloc ?_ _) | (with_reducible refine Kd.C_drewN ?_ _) | (with_reducible refine Kd.C_drew ?_))); (case side2 => exact HC0.out); rintro e w80 ⟨rfl, hb⟩; refine ⟨_, rfl, ?_⟩; have n0_ := Aside0.mk (below_step (by repeat (first | (with_reducible first | exact HB.out | apply below_alloc | apply pw_below_drewN | apply below_drew1) | exact HB.out)) hb); clear HB; have HB := n0_; clear n0_; (try clear hb); (try clear hb2); (try clear hk); (try clear hi)))
                    go_ret
                    exact ⟨by first | rfl | (simp [errW_none, errW_some] <;> rfl) | (simp [*, errW_none, errW_some] <;> rfl), by repeat (first | (with_reducible first | exact HB.out | apply below_alloc | apply pw_below_drewN | apply below_drew1) | exact HB.out)⟩
  · replace c4 := Bool.eq_false_iff.mpr c4
    subst c4
    have H1 : (some false) = some r := by rw [if_neg (show ¬ (false = true) by decide)] at H; exact H
    clear H
    have H := H1
    clear H1
    obtain rfl := Option.some.inj H
    go_enter Try.func11, Try.ntmps11
    go_wp2_with (first | ((with_reducible refine gate_callee (f := 47) rfl ?_); refine goesL_ (some 24) rfl rfl Try.func47 (by kernel_rfl) rfl #[] rfl (by (try simp only [List.map_toArray, List.map_cons, List.map_nil]); first | done | rfl | (simp only [List.length_drop, List.length_take]; rfl)) ?_; (with_reducible refine (pestlelaw53_awake.calls k  false _ A3.out).mono ?_); rintro e w81 ⟨rfl, hb⟩; refine ⟨_, rfl, ?_⟩; have n0_ := Aside0.mk (below_step (by repeat (first | (with_reducible first | exact HB.out | apply below_alloc | apply pw_below_drewN | apply below_drew1) | exact HB.out)) hb); clear HB; have HB := n0_; clear n0_; (try clear hb); (try clear hb2); (try clear hk); (try clear hi)))
    go_ret
    exact ⟨by first | rfl | (simp [errW_none, errW_some] <;> rfl) | (simp [*, errW_none, errW_some] <;> rfl), by repeat (first | (with_reducible first | exact HB.out | apply below_alloc | apply pw_below_drewN | apply below_drew1) | exact HB.out)⟩

end Go.Proofs.Ytoknoghdnedmhaa.Pall
