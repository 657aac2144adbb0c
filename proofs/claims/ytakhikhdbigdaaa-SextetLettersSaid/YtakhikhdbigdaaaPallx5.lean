-- PRINTED by print.py (a twelfth state) out of the translation. Not trusted: Lean checks it.
import Derived.Test.YtakhikhdbigdaaaPallx0
import Derived.Test.YtakhikhdbigdaaaPallx1
import Derived.Test.YtakhikhdbigdaaaPallx2
import Derived.Test.YtakhikhdbigdaaaPallx4
namespace Go.Proofs.Ytakhikhdbigdaaa.Pall
open Go.RowKit Go.Proofs.YtakhikhdbigdaaaW.PrintWords Go.Proofs.YtakhikhdbigdaaaW.PrintLast Go.Proofs.YtakhikhdbigdaaaW.PrintMore
attribute [local go_sem] max2_int min2_int max_two min_two max_three min_three max_four min_four   -- for this text's walks alone
set_option linter.unusedVariables false
set_option linter.unusedSimpArgs false

/-! ### pestlelaw15_SextetLetters: function 8 -/
def pestlelaw15_SextetLetters.f (k : Nat) (l0 : List ByteArray) (a1 : Int) : Option Bool := (pestlelaw15_awake.f k).bind fun _ => (if l0.length > 20 then some true else (pestleref04_Bytes.f k l0).bind fun n => (if n > 300 then some true else (sextet_Coder_Encode.f k sxPlain l0).bind fun x => (if (x.size : Int) = sxLetters n then some true else none)))
theorem pestlelaw15_SextetLetters.mono : ∀ l0 a1 k, LeO (pestlelaw15_SextetLetters.f k l0 a1) (pestlelaw15_SextetLetters.f (k + 1) l0 a1) := by
  intro l0 a1 k
  unfold pestlelaw15_SextetLetters.f
  exact LeO.bind (pestlelaw15_awake.mono _) (fun _ => LeO.ite (LeO.refl _) (LeO.bind (pestleref04_Bytes.mono _ _) (fun _ => LeO.ite (LeO.refl _) (LeO.bind (sextet_Coder_Encode.mono _ _ _) (fun _ => LeO.refl _)))))
theorem pestlelaw15_SextetLetters.yes {k : Nat} {l0 : List ByteArray} {a1 : Int} {r : Bool} (h : pestlelaw15_SextetLetters.f k l0 a1 = some r) : r = true := by
  unfold pestlelaw15_SextetLetters.f at h
  obtain ⟨_, _, h⟩ := Option.bind_eq_some_iff.mp h
  split at h
  · exact (Option.some.inj h).symm
  obtain ⟨_, _, h⟩ := Option.bind_eq_some_iff.mp h
  split at h
  · exact (Option.some.inj h).symm
  obtain ⟨_, _, h⟩ := Option.bind_eq_some_iff.mp h
  split at h
  · exact (Option.some.inj h).symm
  · cases h
theorem sxLetters_in {n : Int} (h0 : ¬ n < 0) (h1 : ¬ 576460752303423488 < n) : sxLetters n = (8 * n + 5) / 6 := by unfold sxLetters; rw [if_neg h0, if_neg h1]
theorem sxLetters_out {n : Int} (h : n < 0 ∨ 576460752303423488 < n) : sxLetters n = 0 := by
  unfold sxLetters
  by_cases c : n < 0
  · rw [if_pos c]
  · rw [if_neg c, if_pos (by omega)]
set_option maxHeartbeats 8000000 in
set_option maxRecDepth 100000 in
theorem pestlelaw15_SextetLetters.go_lo_len (k : Nat) (A0 : Option Addr) (c0 : Nat) (l0 : List ByteArray) (a1 : Int) (w : World) (hr1 : Kd.C Kd.string w A0 l0.length l0) (hc0 : l0.length ≤ c0) (A0_ : Aside0 (pestlelaw15_awake.f k = some true)) (h0 : a1 < 0) (g2 : l0.length > 20) :
    Calls Try.prog 8 #[.slice A0 l0.length c0, .int .i64 a1] w fun e w' => e = .returned (.bool true) ∧ Below w.heap.size w w' := by
  have A0 := A0_
  clear A0_
  have HB := Aside0.mk (Below.refl w.heap.size w)
  have HR := Aside0.mk hr1
  clear hr1
  have PL := Aside0.mk (show pestleref15_Plain.f = some sxPlain from rfl)
  have E0 := Aside0.mk sxPlain_ok
  have hsz : sxPlain.size ≤ 9223372036854775807 := by decide +kernel
  have e0 := sxLetters_out (.inl h0)
  have g2b : decide ((20 : Int) < ((l0.length : Nat) : Int)) = true := decide_eq_true (by omega)
  have g2d : decide (20 < l0.length) = true := decide_eq_true g2
  go_enter Try.func8, Try.ntmps8
  go_wp2_with (first | (go_at_call 26; refine (pestlelaw15_awake.calls k true _ A0.out).mono ?_; rintro e wn ⟨rfl, hb⟩; have n0_ := Aside0.mk (below_step HB.out hb); have n1_ := Aside0.mk (Kd.C_below HR.out hb); clear HB hb; clear HR; have HB := n0_; clear n0_; have HR := n1_; clear n1_) | (go_at_call 29; (with_reducible refine (sextet_Coder_Decode.nil _ _).mono ?_); rintro e wn ⟨rfl, hdr⟩; have hb := below_of_drawn hdr; clear hdr; have n0_ := Aside0.mk (below_step HB.out hb); have n1_ := Aside0.mk (Kd.C_below HR.out hb); clear HB hb; clear HR; have HB := n0_; clear n0_; have HR := n1_; clear n1_) | (go_at_call 31; (with_reducible refine (sextet_Coder_Encode.nil _ _).mono ?_); rintro e wn ⟨rfl, hdr⟩; have hb := below_of_drawn hdr; clear hdr; have n0_ := Aside0.mk (below_step (below_alloc HB.out _) hb); have n1_ := Aside0.mk (Kd.C_below (Kd.C_alloc HR.out _) hb); clear HB hb; clear HR; have HB := n0_; clear n0_; have HR := n1_; clear n1_) | (go_at_call 33; (with_reducible refine (sextet_Coder_Letters.nil _ _).mono ?_); rintro e wn ⟨rfl, hdr⟩; have hb := below_of_drawn hdr; clear hdr; have n0_ := Aside0.mk (below_step HB.out hb); have n1_ := Aside0.mk (Kd.C_below HR.out hb); clear HB hb; clear HR; have HB := n0_; clear n0_; have HR := n1_; clear n1_) | (go_at_call 34; refine (pestleref15_Plain.calls sxPlain _ PL.out).mono ?_; rintro e wn ⟨rfl, hdr⟩; have hb := below_of_drawn hdr; clear hdr; have n0_ := Aside0.mk (below_step HB.out hb); have n1_ := Aside0.mk (Kd.C_below HR.out hb); clear HB hb; clear HR; have HB := n0_; clear n0_; have HR := n1_; clear n1_) | (go_at_call 27; refine (sextet_New.calls sxPlain _ hsz).mono ?_; intro e wn hn; obtain ⟨_, g, hg, rfl, hc, hb⟩ := hn.resolve_right (fun q => q.1 E0.out); have n0_ := Aside0.mk (below_step HB.out hb); have n1_ := Aside0.mk (Kd.C_below HR.out hb); have HC := Aside0.mk hc; clear HB hb; clear HR; have HB := n0_; clear n0_; have HR := n1_; clear n1_; clear hc) | (go_at_call 33; (with_reducible refine (sextet_Coder_Letters.calls _ _ _).mono ?_); rintro e wn ⟨rfl, hdr⟩; have hb := below_of_drawn hdr; clear hdr; have n0_ := Aside0.mk (below_step HB.out hb); have n1_ := Aside0.mk (Kd.C_below HR.out hb); have n2_ := Aside0.mk (Coder.below HC.out hb (blk_lt HC.out)); clear HB hb; clear HR; clear HC; have HB := n0_; clear n0_; have HR := n1_; clear n1_; have HC := n2_; clear n2_))
  go_ret
  exact ⟨rfl, HB.out⟩
set_option maxHeartbeats 8000000 in
set_option maxRecDepth 100000 in
theorem pestlelaw15_SextetLetters.go_lo_byt (k : Nat) (A0 : Option Addr) (c0 : Nat) (l0 : List ByteArray) (a1 : Int) (w : World) (hr1 : Kd.C Kd.string w A0 l0.length l0) (hc0 : l0.length ≤ c0) (A0_ : Aside0 (pestlelaw15_awake.f k = some true)) (h0 : a1 < 0) (n : Int) (g2 : ¬ l0.length > 20) (A1 : Aside0 (pestleref04_Bytes.f k l0 = some n)) (g3 : n > 300) :
    Calls Try.prog 8 #[.slice A0 l0.length c0, .int .i64 a1] w fun e w' => e = .returned (.bool true) ∧ Below w.heap.size w w' := by
  have A0 := A0_
  clear A0_
  have HB := Aside0.mk (Below.refl w.heap.size w)
  have HR := Aside0.mk hr1
  clear hr1
  have PL := Aside0.mk (show pestleref15_Plain.f = some sxPlain from rfl)
  have E0 := Aside0.mk sxPlain_ok
  have hsz : sxPlain.size ≤ 9223372036854775807 := by decide +kernel
  have e0 := sxLetters_out (.inl h0)
  have g2b : decide ((20 : Int) < ((l0.length : Nat) : Int)) = false := decide_eq_false (by omega)
  have g2d : decide (20 < l0.length) = false := decide_eq_false g2
  have g3b : decide ((300 : Int) < n) = true := decide_eq_true g3
  go_enter Try.func8, Try.ntmps8
  go_wp2_with (first | (go_at_call 26; refine (pestlelaw15_awake.calls k true _ A0.out).mono ?_; rintro e wn ⟨rfl, hb⟩; have n0_ := Aside0.mk (below_step HB.out hb); have n1_ := Aside0.mk (Kd.C_below HR.out hb); clear HB hb; clear HR; have HB := n0_; clear n0_; have HR := n1_; clear n1_) | (go_at_call 29; (with_reducible refine (sextet_Coder_Decode.nil _ _).mono ?_); rintro e wn ⟨rfl, hdr⟩; have hb := below_of_drawn hdr; clear hdr; have n0_ := Aside0.mk (below_step HB.out hb); have n1_ := Aside0.mk (Kd.C_below HR.out hb); clear HB hb; clear HR; have HB := n0_; clear n0_; have HR := n1_; clear n1_) | (go_at_call 31; (with_reducible refine (sextet_Coder_Encode.nil _ _).mono ?_); rintro e wn ⟨rfl, hdr⟩; have hb := below_of_drawn hdr; clear hdr; have n0_ := Aside0.mk (below_step (below_alloc HB.out _) hb); have n1_ := Aside0.mk (Kd.C_below (Kd.C_alloc HR.out _) hb); clear HB hb; clear HR; have HB := n0_; clear n0_; have HR := n1_; clear n1_) | (go_at_call 33; (with_reducible refine (sextet_Coder_Letters.nil _ _).mono ?_); rintro e wn ⟨rfl, hdr⟩; have hb := below_of_drawn hdr; clear hdr; have n0_ := Aside0.mk (below_step HB.out hb); have n1_ := Aside0.mk (Kd.C_below HR.out hb); clear HB hb; clear HR; have HB := n0_; clear n0_; have HR := n1_; clear n1_) | (go_at_call 34; refine (pestleref15_Plain.calls sxPlain _ PL.out).mono ?_; rintro e wn ⟨rfl, hdr⟩; have hb := below_of_drawn hdr; clear hdr; have n0_ := Aside0.mk (below_step HB.out hb); have n1_ := Aside0.mk (Kd.C_below HR.out hb); clear HB hb; clear HR; have HB := n0_; clear n0_; have HR := n1_; clear n1_) | (go_at_call 27; refine (sextet_New.calls sxPlain _ hsz).mono ?_; intro e wn hn; obtain ⟨_, g, hg, rfl, hc, hb⟩ := hn.resolve_right (fun q => q.1 E0.out); have n0_ := Aside0.mk (below_step HB.out hb); have n1_ := Aside0.mk (Kd.C_below HR.out hb); have HC := Aside0.mk hc; clear HB hb; clear HR; have HB := n0_; clear n0_; have HR := n1_; clear n1_; clear hc) | (go_at_call 33; (with_reducible refine (sextet_Coder_Letters.calls _ _ _).mono ?_); rintro e wn ⟨rfl, hdr⟩; have hb := below_of_drawn hdr; clear hdr; have n0_ := Aside0.mk (below_step HB.out hb); have n1_ := Aside0.mk (Kd.C_below HR.out hb); have n2_ := Aside0.mk (Coder.below HC.out hb (blk_lt HC.out)); clear HB hb; clear HR; clear HC; have HB := n0_; clear n0_; have HR := n1_; clear n1_; have HC := n2_; clear n2_) | (go_at_call 20; refine (pestleref04_Bytes.calls k _ _ l0 n _ HR.out hc0 A1.out).mono ?_; rintro e wn ⟨rfl, hdr⟩; have hb := below_of_drawn hdr; clear hdr; have n0_ := Aside0.mk (below_step HB.out hb); have n1_ := Aside0.mk (Kd.C_below HR.out hb); have n2_ := Aside0.mk (Coder.below HC.out hb (blk_lt HC.out)); clear HB hb; clear HR; clear HC; have HB := n0_; clear n0_; have HR := n1_; clear n1_; have HC := n2_; clear n2_))
  go_ret
  exact ⟨rfl, HB.out⟩
set_option maxHeartbeats 8000000 in
set_option maxRecDepth 100000 in
theorem pestlelaw15_SextetLetters.go_lo_end (k : Nat) (A0 : Option Addr) (c0 : Nat) (l0 : List ByteArray) (a1 : Int) (w : World) (hr1 : Kd.C Kd.string w A0 l0.length l0) (hc0 : l0.length ≤ c0) (A0_ : Aside0 (pestlelaw15_awake.f k = some true)) (h0 : a1 < 0) (n : Int) (x : ByteArray) (g2 : ¬ l0.length > 20) (A1 : Aside0 (pestleref04_Bytes.f k l0 = some n)) (g3 : ¬ n > 300) (A2 : Aside0 (sextet_Coder_Encode.f k sxPlain l0 = some x)) (g4 : (x.size : Int) = sxLetters n) :
    Calls Try.prog 8 #[.slice A0 l0.length c0, .int .i64 a1] w fun e w' => e = .returned (.bool true) ∧ Below w.heap.size w w' := by
  have A0 := A0_
  clear A0_
  have HB := Aside0.mk (Below.refl w.heap.size w)
  have HR := Aside0.mk hr1
  clear hr1
  have PL := Aside0.mk (show pestleref15_Plain.f = some sxPlain from rfl)
  have E0 := Aside0.mk sxPlain_ok
  have hsz : sxPlain.size ≤ 9223372036854775807 := by decide +kernel
  have e0 := sxLetters_out (.inl h0)
  have g2b : decide ((20 : Int) < ((l0.length : Nat) : Int)) = false := decide_eq_false (by omega)
  have g2d : decide (20 < l0.length) = false := decide_eq_false g2
  have g3b : decide ((300 : Int) < n) = false := decide_eq_false g3
  have g4b : ((x.size : Int) == sxLetters n) = true := by rw [g4]; exact beq_self_eq_true _
  clear g4
  go_enter Try.func8, Try.ntmps8
  go_wp2_with (first | (go_at_call 26; refine (pestlelaw15_awake.calls k true _ A0.out).mono ?_; rintro e wn ⟨rfl, hb⟩; have n0_ := Aside0.mk (below_step HB.out hb); have n1_ := Aside0.mk (Kd.C_below HR.out hb); clear HB hb; clear HR; have HB := n0_; clear n0_; have HR := n1_; clear n1_) | (go_at_call 29; (with_reducible refine (sextet_Coder_Decode.nil _ _).mono ?_); rintro e wn ⟨rfl, hdr⟩; have hb := below_of_drawn hdr; clear hdr; have n0_ := Aside0.mk (below_step HB.out hb); have n1_ := Aside0.mk (Kd.C_below HR.out hb); clear HB hb; clear HR; have HB := n0_; clear n0_; have HR := n1_; clear n1_) | (go_at_call 31; (with_reducible refine (sextet_Coder_Encode.nil _ _).mono ?_); rintro e wn ⟨rfl, hdr⟩; have hb := below_of_drawn hdr; clear hdr; have n0_ := Aside0.mk (below_step (below_alloc HB.out _) hb); have n1_ := Aside0.mk (Kd.C_below (Kd.C_alloc HR.out _) hb); clear HB hb; clear HR; have HB := n0_; clear n0_; have HR := n1_; clear n1_) | (go_at_call 33; (with_reducible refine (sextet_Coder_Letters.nil _ _).mono ?_); rintro e wn ⟨rfl, hdr⟩; have hb := below_of_drawn hdr; clear hdr; have n0_ := Aside0.mk (below_step HB.out hb); have n1_ := Aside0.mk (Kd.C_below HR.out hb); clear HB hb; clear HR; have HB := n0_; clear n0_; have HR := n1_; clear n1_) | (go_at_call 34; refine (pestleref15_Plain.calls sxPlain _ PL.out).mono ?_; rintro e wn ⟨rfl, hdr⟩; have hb := below_of_drawn hdr; clear hdr; have n0_ := Aside0.mk (below_step HB.out hb); have n1_ := Aside0.mk (Kd.C_below HR.out hb); clear HB hb; clear HR; have HB := n0_; clear n0_; have HR := n1_; clear n1_) | (go_at_call 27; refine (sextet_New.calls sxPlain _ hsz).mono ?_; intro e wn hn; obtain ⟨_, g, hg, rfl, hc, hb⟩ := hn.resolve_right (fun q => q.1 E0.out); have n0_ := Aside0.mk (below_step HB.out hb); have n1_ := Aside0.mk (Kd.C_below HR.out hb); have HC := Aside0.mk hc; clear HB hb; clear HR; have HB := n0_; clear n0_; have HR := n1_; clear n1_; clear hc) | (go_at_call 33; (with_reducible refine (sextet_Coder_Letters.calls _ _ _).mono ?_); rintro e wn ⟨rfl, hdr⟩; have hb := below_of_drawn hdr; clear hdr; have n0_ := Aside0.mk (below_step HB.out hb); have n1_ := Aside0.mk (Kd.C_below HR.out hb); have n2_ := Aside0.mk (Coder.below HC.out hb (blk_lt HC.out)); clear HB hb; clear HR; clear HC; have HB := n0_; clear n0_; have HR := n1_; clear n1_; have HC := n2_; clear n2_) | (go_at_call 20; refine (pestleref04_Bytes.calls k _ _ l0 n _ HR.out hc0 A1.out).mono ?_; rintro e wn ⟨rfl, hdr⟩; have hb := below_of_drawn hdr; clear hdr; have n0_ := Aside0.mk (below_step HB.out hb); have n1_ := Aside0.mk (Kd.C_below HR.out hb); have n2_ := Aside0.mk (Coder.below HC.out hb (blk_lt HC.out)); clear HB hb; clear HR; clear HC; have HB := n0_; clear n0_; have HR := n1_; clear n1_; have HC := n2_; clear n2_) | (go_at_call 31; (with_reducible refine (sextet_Coder_Encode.calls k g sxPlain _ _ l0 x _ HC.out.letters HR.out hc0 A2.out).mono ?_); rintro e wn ⟨rfl, hb⟩; have n0_ := Aside0.mk (below_step HB.out hb); have n1_ := Aside0.mk (Kd.C_below HR.out hb); have n2_ := Aside0.mk (Coder.below HC.out hb (blk_lt HC.out)); clear HB hb; clear HR; clear HC; have HB := n0_; clear n0_; have HR := n1_; clear n1_; have HC := n2_; clear n2_))
  go_ret
  exact ⟨rfl, HB.out⟩
set_option maxHeartbeats 8000000 in
set_option maxRecDepth 100000 in
theorem pestlelaw15_SextetLetters.go_hi_len (k : Nat) (A0 : Option Addr) (c0 : Nat) (l0 : List ByteArray) (a1 : Int) (w : World) (hr1 : Kd.C Kd.string w A0 l0.length l0) (hc0 : l0.length ≤ c0) (A0_ : Aside0 (pestlelaw15_awake.f k = some true)) (h0 : ¬ a1 < 0) (h1 : 576460752303423488 < a1) (g2 : l0.length > 20) :
    Calls Try.prog 8 #[.slice A0 l0.length c0, .int .i64 a1] w fun e w' => e = .returned (.bool true) ∧ Below w.heap.size w w' := by
  have A0 := A0_
  clear A0_
  have HB := Aside0.mk (Below.refl w.heap.size w)
  have HR := Aside0.mk hr1
  clear hr1
  have PL := Aside0.mk (show pestleref15_Plain.f = some sxPlain from rfl)
  have E0 := Aside0.mk sxPlain_ok
  have hsz : sxPlain.size ≤ 9223372036854775807 := by decide +kernel
  have e0 := sxLetters_out (.inr h1)
  have b0 : decide (a1 < 0) = false := decide_eq_false h0
  have g2b : decide ((20 : Int) < ((l0.length : Nat) : Int)) = true := decide_eq_true (by omega)
  have g2d : decide (20 < l0.length) = true := decide_eq_true g2
  go_enter Try.func8, Try.ntmps8
  go_wp2_with (first | (go_at_call 26; refine (pestlelaw15_awake.calls k true _ A0.out).mono ?_; rintro e wn ⟨rfl, hb⟩; have n0_ := Aside0.mk (below_step HB.out hb); have n1_ := Aside0.mk (Kd.C_below HR.out hb); clear HB hb; clear HR; have HB := n0_; clear n0_; have HR := n1_; clear n1_) | (go_at_call 29; (with_reducible refine (sextet_Coder_Decode.nil _ _).mono ?_); rintro e wn ⟨rfl, hdr⟩; have hb := below_of_drawn hdr; clear hdr; have n0_ := Aside0.mk (below_step HB.out hb); have n1_ := Aside0.mk (Kd.C_below HR.out hb); clear HB hb; clear HR; have HB := n0_; clear n0_; have HR := n1_; clear n1_) | (go_at_call 31; (with_reducible refine (sextet_Coder_Encode.nil _ _).mono ?_); rintro e wn ⟨rfl, hdr⟩; have hb := below_of_drawn hdr; clear hdr; have n0_ := Aside0.mk (below_step (below_alloc HB.out _) hb); have n1_ := Aside0.mk (Kd.C_below (Kd.C_alloc HR.out _) hb); clear HB hb; clear HR; have HB := n0_; clear n0_; have HR := n1_; clear n1_) | (go_at_call 33; (with_reducible refine (sextet_Coder_Letters.nil _ _).mono ?_); rintro e wn ⟨rfl, hdr⟩; have hb := below_of_drawn hdr; clear hdr; have n0_ := Aside0.mk (below_step HB.out hb); have n1_ := Aside0.mk (Kd.C_below HR.out hb); clear HB hb; clear HR; have HB := n0_; clear n0_; have HR := n1_; clear n1_) | (go_at_call 34; refine (pestleref15_Plain.calls sxPlain _ PL.out).mono ?_; rintro e wn ⟨rfl, hdr⟩; have hb := below_of_drawn hdr; clear hdr; have n0_ := Aside0.mk (below_step HB.out hb); have n1_ := Aside0.mk (Kd.C_below HR.out hb); clear HB hb; clear HR; have HB := n0_; clear n0_; have HR := n1_; clear n1_) | (go_at_call 27; refine (sextet_New.calls sxPlain _ hsz).mono ?_; intro e wn hn; obtain ⟨_, g, hg, rfl, hc, hb⟩ := hn.resolve_right (fun q => q.1 E0.out); have n0_ := Aside0.mk (below_step HB.out hb); have n1_ := Aside0.mk (Kd.C_below HR.out hb); have HC := Aside0.mk hc; clear HB hb; clear HR; have HB := n0_; clear n0_; have HR := n1_; clear n1_; clear hc) | (go_at_call 33; (with_reducible refine (sextet_Coder_Letters.calls _ _ _).mono ?_); rintro e wn ⟨rfl, hdr⟩; have hb := below_of_drawn hdr; clear hdr; have n0_ := Aside0.mk (below_step HB.out hb); have n1_ := Aside0.mk (Kd.C_below HR.out hb); have n2_ := Aside0.mk (Coder.below HC.out hb (blk_lt HC.out)); clear HB hb; clear HR; clear HC; have HB := n0_; clear n0_; have HR := n1_; clear n1_; have HC := n2_; clear n2_))
  go_ret
  exact ⟨rfl, HB.out⟩
set_option maxHeartbeats 8000000 in
set_option maxRecDepth 100000 in
theorem pestlelaw15_SextetLetters.go_hi_byt (k : Nat) (A0 : Option Addr) (c0 : Nat) (l0 : List ByteArray) (a1 : Int) (w : World) (hr1 : Kd.C Kd.string w A0 l0.length l0) (hc0 : l0.length ≤ c0) (A0_ : Aside0 (pestlelaw15_awake.f k = some true)) (h0 : ¬ a1 < 0) (h1 : 576460752303423488 < a1) (n : Int) (g2 : ¬ l0.length > 20) (A1 : Aside0 (pestleref04_Bytes.f k l0 = some n)) (g3 : n > 300) :
    Calls Try.prog 8 #[.slice A0 l0.length c0, .int .i64 a1] w fun e w' => e = .returned (.bool true) ∧ Below w.heap.size w w' := by
  have A0 := A0_
  clear A0_
  have HB := Aside0.mk (Below.refl w.heap.size w)
  have HR := Aside0.mk hr1
  clear hr1
  have PL := Aside0.mk (show pestleref15_Plain.f = some sxPlain from rfl)
  have E0 := Aside0.mk sxPlain_ok
  have hsz : sxPlain.size ≤ 9223372036854775807 := by decide +kernel
  have e0 := sxLetters_out (.inr h1)
  have b0 : decide (a1 < 0) = false := decide_eq_false h0
  have g2b : decide ((20 : Int) < ((l0.length : Nat) : Int)) = false := decide_eq_false (by omega)
  have g2d : decide (20 < l0.length) = false := decide_eq_false g2
  have g3b : decide ((300 : Int) < n) = true := decide_eq_true g3
  go_enter Try.func8, Try.ntmps8
  go_wp2_with (first | (go_at_call 26; refine (pestlelaw15_awake.calls k true _ A0.out).mono ?_; rintro e wn ⟨rfl, hb⟩; have n0_ := Aside0.mk (below_step HB.out hb); have n1_ := Aside0.mk (Kd.C_below HR.out hb); clear HB hb; clear HR; have HB := n0_; clear n0_; have HR := n1_; clear n1_) | (go_at_call 29; (with_reducible refine (sextet_Coder_Decode.nil _ _).mono ?_); rintro e wn ⟨rfl, hdr⟩; have hb := below_of_drawn hdr; clear hdr; have n0_ := Aside0.mk (below_step HB.out hb); have n1_ := Aside0.mk (Kd.C_below HR.out hb); clear HB hb; clear HR; have HB := n0_; clear n0_; have HR := n1_; clear n1_) | (go_at_call 31; (with_reducible refine (sextet_Coder_Encode.nil _ _).mono ?_); rintro e wn ⟨rfl, hdr⟩; have hb := below_of_drawn hdr; clear hdr; have n0_ := Aside0.mk (below_step (below_alloc HB.out _) hb); have n1_ := Aside0.mk (Kd.C_below (Kd.C_alloc HR.out _) hb); clear HB hb; clear HR; have HB := n0_; clear n0_; have HR := n1_; clear n1_) | (go_at_call 33; (with_reducible refine (sextet_Coder_Letters.nil _ _).mono ?_); rintro e wn ⟨rfl, hdr⟩; have hb := below_of_drawn hdr; clear hdr; have n0_ := Aside0.mk (below_step HB.out hb); have n1_ := Aside0.mk (Kd.C_below HR.out hb); clear HB hb; clear HR; have HB := n0_; clear n0_; have HR := n1_; clear n1_) | (go_at_call 34; refine (pestleref15_Plain.calls sxPlain _ PL.out).mono ?_; rintro e wn ⟨rfl, hdr⟩; have hb := below_of_drawn hdr; clear hdr; have n0_ := Aside0.mk (below_step HB.out hb); have n1_ := Aside0.mk (Kd.C_below HR.out hb); clear HB hb; clear HR; have HB := n0_; clear n0_; have HR := n1_; clear n1_) | (go_at_call 27; refine (sextet_New.calls sxPlain _ hsz).mono ?_; intro e wn hn; obtain ⟨_, g, hg, rfl, hc, hb⟩ := hn.resolve_right (fun q => q.1 E0.out); have n0_ := Aside0.mk (below_step HB.out hb); have n1_ := Aside0.mk (Kd.C_below HR.out hb); have HC := Aside0.mk hc; clear HB hb; clear HR; have HB := n0_; clear n0_; have HR := n1_; clear n1_; clear hc) | (go_at_call 33; (with_reducible refine (sextet_Coder_Letters.calls _ _ _).mono ?_); rintro e wn ⟨rfl, hdr⟩; have hb := below_of_drawn hdr; clear hdr; have n0_ := Aside0.mk (below_step HB.out hb); have n1_ := Aside0.mk (Kd.C_below HR.out hb); have n2_ := Aside0.mk (Coder.below HC.out hb (blk_lt HC.out)); clear HB hb; clear HR; clear HC; have HB := n0_; clear n0_; have HR := n1_; clear n1_; have HC := n2_; clear n2_) | (go_at_call 20; refine (pestleref04_Bytes.calls k _ _ l0 n _ HR.out hc0 A1.out).mono ?_; rintro e wn ⟨rfl, hdr⟩; have hb := below_of_drawn hdr; clear hdr; have n0_ := Aside0.mk (below_step HB.out hb); have n1_ := Aside0.mk (Kd.C_below HR.out hb); have n2_ := Aside0.mk (Coder.below HC.out hb (blk_lt HC.out)); clear HB hb; clear HR; clear HC; have HB := n0_; clear n0_; have HR := n1_; clear n1_; have HC := n2_; clear n2_))
  go_ret
  exact ⟨rfl, HB.out⟩
set_option maxHeartbeats 8000000 in
set_option maxRecDepth 100000 in
theorem pestlelaw15_SextetLetters.go_hi_end (k : Nat) (A0 : Option Addr) (c0 : Nat) (l0 : List ByteArray) (a1 : Int) (w : World) (hr1 : Kd.C Kd.string w A0 l0.length l0) (hc0 : l0.length ≤ c0) (A0_ : Aside0 (pestlelaw15_awake.f k = some true)) (h0 : ¬ a1 < 0) (h1 : 576460752303423488 < a1) (n : Int) (x : ByteArray) (g2 : ¬ l0.length > 20) (A1 : Aside0 (pestleref04_Bytes.f k l0 = some n)) (g3 : ¬ n > 300) (A2 : Aside0 (sextet_Coder_Encode.f k sxPlain l0 = some x)) (g4 : (x.size : Int) = sxLetters n) :
    Calls Try.prog 8 #[.slice A0 l0.length c0, .int .i64 a1] w fun e w' => e = .returned (.bool true) ∧ Below w.heap.size w w' := by
  have A0 := A0_
  clear A0_
  have HB := Aside0.mk (Below.refl w.heap.size w)
  have HR := Aside0.mk hr1
  clear hr1
  have PL := Aside0.mk (show pestleref15_Plain.f = some sxPlain from rfl)
  have E0 := Aside0.mk sxPlain_ok
  have hsz : sxPlain.size ≤ 9223372036854775807 := by decide +kernel
  have e0 := sxLetters_out (.inr h1)
  have b0 : decide (a1 < 0) = false := decide_eq_false h0
  have g2b : decide ((20 : Int) < ((l0.length : Nat) : Int)) = false := decide_eq_false (by omega)
  have g2d : decide (20 < l0.length) = false := decide_eq_false g2
  have g3b : decide ((300 : Int) < n) = false := decide_eq_false g3
  have g4b : ((x.size : Int) == sxLetters n) = true := by rw [g4]; exact beq_self_eq_true _
  clear g4
  go_enter Try.func8, Try.ntmps8
  go_wp2_with (first | (go_at_call 26; refine (pestlelaw15_awake.calls k true _ A0.out).mono ?_; rintro e wn ⟨rfl, hb⟩; have n0_ := Aside0.mk (below_step HB.out hb); have n1_ := Aside0.mk (Kd.C_below HR.out hb); clear HB hb; clear HR; have HB := n0_; clear n0_; have HR := n1_; clear n1_) | (go_at_call 29; (with_reducible refine (sextet_Coder_Decode.nil _ _).mono ?_); rintro e wn ⟨rfl, hdr⟩; have hb := below_of_drawn hdr; clear hdr; have n0_ := Aside0.mk (below_step HB.out hb); have n1_ := Aside0.mk (Kd.C_below HR.out hb); clear HB hb; clear HR; have HB := n0_; clear n0_; have HR := n1_; clear n1_) | (go_at_call 31; (with_reducible refine (sextet_Coder_Encode.nil _ _).mono ?_); rintro e wn ⟨rfl, hdr⟩; have hb := below_of_drawn hdr; clear hdr; have n0_ := Aside0.mk (below_step (below_alloc HB.out _) hb); have n1_ := Aside0.mk (Kd.C_below (Kd.C_alloc HR.out _) hb); clear HB hb; clear HR; have HB := n0_; clear n0_; have HR := n1_; clear n1_) | (go_at_call 33; (with_reducible refine (sextet_Coder_Letters.nil _ _).mono ?_); rintro e wn ⟨rfl, hdr⟩; have hb := below_of_drawn hdr; clear hdr; have n0_ := Aside0.mk (below_step HB.out hb); have n1_ := Aside0.mk (Kd.C_below HR.out hb); clear HB hb; clear HR; have HB := n0_; clear n0_; have HR := n1_; clear n1_) | (go_at_call 34; refine (pestleref15_Plain.calls sxPlain _ PL.out).mono ?_; rintro e wn ⟨rfl, hdr⟩; have hb := below_of_drawn hdr; clear hdr; have n0_ := Aside0.mk (below_step HB.out hb); have n1_ := Aside0.mk (Kd.C_below HR.out hb); clear HB hb; clear HR; have HB := n0_; clear n0_; have HR := n1_; clear n1_) | (go_at_call 27; refine (sextet_New.calls sxPlain _ hsz).mono ?_; intro e wn hn; obtain ⟨_, g, hg, rfl, hc, hb⟩ := hn.resolve_right (fun q => q.1 E0.out); have n0_ := Aside0.mk (below_step HB.out hb); have n1_ := Aside0.mk (Kd.C_below HR.out hb); have HC := Aside0.mk hc; clear HB hb; clear HR; have HB := n0_; clear n0_; have HR := n1_; clear n1_; clear hc) | (go_at_call 33; (with_reducible refine (sextet_Coder_Letters.calls _ _ _).mono ?_); rintro e wn ⟨rfl, hdr⟩; have hb := below_of_drawn hdr; clear hdr; have n0_ := Aside0.mk (below_step HB.out hb); have n1_ := Aside0.mk (Kd.C_below HR.out hb); have n2_ := Aside0.mk (Coder.below HC.out hb (blk_lt HC.out)); clear HB hb; clear HR; clear HC; have HB := n0_; clear n0_; have HR := n1_; clear n1_; have HC := n2_; clear n2_) | (go_at_call 20; refine (pestleref04_Bytes.calls k _ _ l0 n _ HR.out hc0 A1.out).mono ?_; rintro e wn ⟨rfl, hdr⟩; have hb := below_of_drawn hdr; clear hdr; have n0_ := Aside0.mk (below_step HB.out hb); have n1_ := Aside0.mk (Kd.C_below HR.out hb); have n2_ := Aside0.mk (Coder.below HC.out hb (blk_lt HC.out)); clear HB hb; clear HR; clear HC; have HB := n0_; clear n0_; have HR := n1_; clear n1_; have HC := n2_; clear n2_) | (go_at_call 31; (with_reducible refine (sextet_Coder_Encode.calls k g sxPlain _ _ l0 x _ HC.out.letters HR.out hc0 A2.out).mono ?_); rintro e wn ⟨rfl, hb⟩; have n0_ := Aside0.mk (below_step HB.out hb); have n1_ := Aside0.mk (Kd.C_below HR.out hb); have n2_ := Aside0.mk (Coder.below HC.out hb (blk_lt HC.out)); clear HB hb; clear HR; clear HC; have HB := n0_; clear n0_; have HR := n1_; clear n1_; have HC := n2_; clear n2_))
  go_ret
  exact ⟨rfl, HB.out⟩
set_option maxHeartbeats 8000000 in
set_option maxRecDepth 100000 in
theorem pestlelaw15_SextetLetters.go_m0_len (k : Nat) (A0 : Option Addr) (c0 : Nat) (l0 : List ByteArray) (a1 : Int) (w : World) (hr1 : Kd.C Kd.string w A0 l0.length l0) (hc0 : l0.length ≤ c0) (A0_ : Aside0 (pestlelaw15_awake.f k = some true)) (h0 : ¬ a1 < 0) (h1 : ¬ 576460752303423488 < a1) (hm : a1 % 3 = 0) (g2 : l0.length > 20) :
    Calls Try.prog 8 #[.slice A0 l0.length c0, .int .i64 a1] w fun e w' => e = .returned (.bool true) ∧ Below w.heap.size w w' := by
  have A0 := A0_
  clear A0_
  have HB := Aside0.mk (Below.refl w.heap.size w)
  have HR := Aside0.mk hr1
  clear hr1
  have PL := Aside0.mk (show pestleref15_Plain.f = some sxPlain from rfl)
  have E0 := Aside0.mk sxPlain_ok
  have hsz : sxPlain.size ≤ 9223372036854775807 := by decide +kernel
  have e0 := sxLetters_in h0 h1
  have b0 : decide (a1 < 0) = false := decide_eq_false h0
  have b1 : decide (576460752303423488 < a1) = false := decide_eq_false h1
  have u0 : 0 ≤ a1 := by omega
  have u1 : a1 ≤ 576460752303423488 := by omega
  obtain ⟨m, hmm⟩ : ∃ m, sxLetters a1 = m := ⟨_, rfl⟩
  have m0 : 0 ≤ m := by omega
  have m1 : m ≤ 9223372036854775807 := by omega
  have v0 : decide (m < a1 / 3 * 4) = false := decide_eq_false (by omega)
  have v1 : m - a1 / 3 * 4 = 0 := by omega
  clear e0
  have g2b : decide ((20 : Int) < ((l0.length : Nat) : Int)) = true := decide_eq_true (by omega)
  have g2d : decide (20 < l0.length) = true := decide_eq_true g2
  go_enter Try.func8, Try.ntmps8
  go_wp2_with (first | (go_at_call 26; refine (pestlelaw15_awake.calls k true _ A0.out).mono ?_; rintro e wn ⟨rfl, hb⟩; have n0_ := Aside0.mk (below_step HB.out hb); have n1_ := Aside0.mk (Kd.C_below HR.out hb); clear HB hb; clear HR; have HB := n0_; clear n0_; have HR := n1_; clear n1_) | (go_at_call 29; (with_reducible refine (sextet_Coder_Decode.nil _ _).mono ?_); rintro e wn ⟨rfl, hdr⟩; have hb := below_of_drawn hdr; clear hdr; have n0_ := Aside0.mk (below_step HB.out hb); have n1_ := Aside0.mk (Kd.C_below HR.out hb); clear HB hb; clear HR; have HB := n0_; clear n0_; have HR := n1_; clear n1_) | (go_at_call 31; (with_reducible refine (sextet_Coder_Encode.nil _ _).mono ?_); rintro e wn ⟨rfl, hdr⟩; have hb := below_of_drawn hdr; clear hdr; have n0_ := Aside0.mk (below_step (below_alloc HB.out _) hb); have n1_ := Aside0.mk (Kd.C_below (Kd.C_alloc HR.out _) hb); clear HB hb; clear HR; have HB := n0_; clear n0_; have HR := n1_; clear n1_) | (go_at_call 33; (with_reducible refine (sextet_Coder_Letters.nil _ _).mono ?_); rintro e wn ⟨rfl, hdr⟩; have hb := below_of_drawn hdr; clear hdr; have n0_ := Aside0.mk (below_step HB.out hb); have n1_ := Aside0.mk (Kd.C_below HR.out hb); clear HB hb; clear HR; have HB := n0_; clear n0_; have HR := n1_; clear n1_) | (go_at_call 34; refine (pestleref15_Plain.calls sxPlain _ PL.out).mono ?_; rintro e wn ⟨rfl, hdr⟩; have hb := below_of_drawn hdr; clear hdr; have n0_ := Aside0.mk (below_step HB.out hb); have n1_ := Aside0.mk (Kd.C_below HR.out hb); clear HB hb; clear HR; have HB := n0_; clear n0_; have HR := n1_; clear n1_) | (go_at_call 27; refine (sextet_New.calls sxPlain _ hsz).mono ?_; intro e wn hn; obtain ⟨_, g, hg, rfl, hc, hb⟩ := hn.resolve_right (fun q => q.1 E0.out); have n0_ := Aside0.mk (below_step HB.out hb); have n1_ := Aside0.mk (Kd.C_below HR.out hb); have HC := Aside0.mk hc; clear HB hb; clear HR; have HB := n0_; clear n0_; have HR := n1_; clear n1_; clear hc) | (go_at_call 33; (with_reducible refine (sextet_Coder_Letters.calls _ _ _).mono ?_); rintro e wn ⟨rfl, hdr⟩; have hb := below_of_drawn hdr; clear hdr; have n0_ := Aside0.mk (below_step HB.out hb); have n1_ := Aside0.mk (Kd.C_below HR.out hb); have n2_ := Aside0.mk (Coder.below HC.out hb (blk_lt HC.out)); clear HB hb; clear HR; clear HC; have HB := n0_; clear n0_; have HR := n1_; clear n1_; have HC := n2_; clear n2_))
  go_ret
  exact ⟨rfl, below_alloc HB.out _⟩
set_option maxHeartbeats 8000000 in
set_option maxRecDepth 100000 in
theorem pestlelaw15_SextetLetters.go_m0_byt (k : Nat) (A0 : Option Addr) (c0 : Nat) (l0 : List ByteArray) (a1 : Int) (w : World) (hr1 : Kd.C Kd.string w A0 l0.length l0) (hc0 : l0.length ≤ c0) (A0_ : Aside0 (pestlelaw15_awake.f k = some true)) (h0 : ¬ a1 < 0) (h1 : ¬ 576460752303423488 < a1) (hm : a1 % 3 = 0) (n : Int) (g2 : ¬ l0.length > 20) (A1 : Aside0 (pestleref04_Bytes.f k l0 = some n)) (g3 : n > 300) :
    Calls Try.prog 8 #[.slice A0 l0.length c0, .int .i64 a1] w fun e w' => e = .returned (.bool true) ∧ Below w.heap.size w w' := by
  have A0 := A0_
  clear A0_
  have HB := Aside0.mk (Below.refl w.heap.size w)
  have HR := Aside0.mk hr1
  clear hr1
  have PL := Aside0.mk (show pestleref15_Plain.f = some sxPlain from rfl)
  have E0 := Aside0.mk sxPlain_ok
  have hsz : sxPlain.size ≤ 9223372036854775807 := by decide +kernel
  have e0 := sxLetters_in h0 h1
  have b0 : decide (a1 < 0) = false := decide_eq_false h0
  have b1 : decide (576460752303423488 < a1) = false := decide_eq_false h1
  have u0 : 0 ≤ a1 := by omega
  have u1 : a1 ≤ 576460752303423488 := by omega
  obtain ⟨m, hmm⟩ : ∃ m, sxLetters a1 = m := ⟨_, rfl⟩
  have m0 : 0 ≤ m := by omega
  have m1 : m ≤ 9223372036854775807 := by omega
  have v0 : decide (m < a1 / 3 * 4) = false := decide_eq_false (by omega)
  have v1 : m - a1 / 3 * 4 = 0 := by omega
  clear e0
  have g2b : decide ((20 : Int) < ((l0.length : Nat) : Int)) = false := decide_eq_false (by omega)
  have g2d : decide (20 < l0.length) = false := decide_eq_false g2
  have g3b : decide ((300 : Int) < n) = true := decide_eq_true g3
  go_enter Try.func8, Try.ntmps8
  go_wp2_with (first | (go_at_call 26; refine (pestlelaw15_awake.calls k true _ A0.out).mono ?_; rintro e wn ⟨rfl, hb⟩; have n0_ := Aside0.mk (below_step HB.out hb); have n1_ := Aside0.mk (Kd.C_below HR.out hb); clear HB hb; clear HR; have HB := n0_; clear n0_; have HR := n1_; clear n1_) | (go_at_call 29; (with_reducible refine (sextet_Coder_Decode.nil _ _).mono ?_); rintro e wn ⟨rfl, hdr⟩; have hb := below_of_drawn hdr; clear hdr; have n0_ := Aside0.mk (below_step HB.out hb); have n1_ := Aside0.mk (Kd.C_below HR.out hb); clear HB hb; clear HR; have HB := n0_; clear n0_; have HR := n1_; clear n1_) | (go_at_call 31; (with_reducible refine (sextet_Coder_Encode.nil _ _).mono ?_); rintro e wn ⟨rfl, hdr⟩; have hb := below_of_drawn hdr; clear hdr; have n0_ := Aside0.mk (below_step (below_alloc HB.out _) hb); have n1_ := Aside0.mk (Kd.C_below (Kd.C_alloc HR.out _) hb); clear HB hb; clear HR; have HB := n0_; clear n0_; have HR := n1_; clear n1_) | (go_at_call 33; (with_reducible refine (sextet_Coder_Letters.nil _ _).mono ?_); rintro e wn ⟨rfl, hdr⟩; have hb := below_of_drawn hdr; clear hdr; have n0_ := Aside0.mk (below_step HB.out hb); have n1_ := Aside0.mk (Kd.C_below HR.out hb); clear HB hb; clear HR; have HB := n0_; clear n0_; have HR := n1_; clear n1_) | (go_at_call 34; refine (pestleref15_Plain.calls sxPlain _ PL.out).mono ?_; rintro e wn ⟨rfl, hdr⟩; have hb := below_of_drawn hdr; clear hdr; have n0_ := Aside0.mk (below_step HB.out hb); have n1_ := Aside0.mk (Kd.C_below HR.out hb); clear HB hb; clear HR; have HB := n0_; clear n0_; have HR := n1_; clear n1_) | (go_at_call 27; refine (sextet_New.calls sxPlain _ hsz).mono ?_; intro e wn hn; obtain ⟨_, g, hg, rfl, hc, hb⟩ := hn.resolve_right (fun q => q.1 E0.out); have n0_ := Aside0.mk (below_step HB.out hb); have n1_ := Aside0.mk (Kd.C_below HR.out hb); have HC := Aside0.mk hc; clear HB hb; clear HR; have HB := n0_; clear n0_; have HR := n1_; clear n1_; clear hc) | (go_at_call 33; (with_reducible refine (sextet_Coder_Letters.calls _ _ _).mono ?_); rintro e wn ⟨rfl, hdr⟩; have hb := below_of_drawn hdr; clear hdr; have n0_ := Aside0.mk (below_step HB.out hb); have n1_ := Aside0.mk (Kd.C_below HR.out hb); have n2_ := Aside0.mk (Coder.below HC.out hb (blk_lt HC.out)); clear HB hb; clear HR; clear HC; have HB := n0_; clear n0_; have HR := n1_; clear n1_; have HC := n2_; clear n2_) | (go_at_call 20; refine (pestleref04_Bytes.calls k _ _ l0 n _ (Kd.C_alloc HR.out _) hc0 A1.out).mono ?_; rintro e wn ⟨rfl, hdr⟩; have hb := below_of_drawn hdr; clear hdr; have n0_ := Aside0.mk (below_step (below_alloc HB.out _) hb); have n1_ := Aside0.mk (Kd.C_below (Kd.C_alloc HR.out _) hb); have n2_ := Aside0.mk (Coder.below (show Coder 71 _ g _ from blk_alloc HC.out _) hb (blk_lt (blk_alloc HC.out _))); clear HB hb; clear HR; clear HC; have HB := n0_; clear n0_; have HR := n1_; clear n1_; have HC := n2_; clear n2_) | (go_at_call 20; refine (pestleref04_Bytes.calls k _ _ l0 n _ HR.out hc0 A1.out).mono ?_; rintro e wn ⟨rfl, hdr⟩; have hb := below_of_drawn hdr; clear hdr; have n0_ := Aside0.mk (below_step HB.out hb); have n1_ := Aside0.mk (Kd.C_below HR.out hb); have n2_ := Aside0.mk (Coder.below HC.out hb (blk_lt HC.out)); clear HB hb; clear HR; clear HC; have HB := n0_; clear n0_; have HR := n1_; clear n1_; have HC := n2_; clear n2_))
  go_ret
  exact ⟨rfl, HB.out⟩
set_option maxHeartbeats 8000000 in
set_option maxRecDepth 100000 in
theorem pestlelaw15_SextetLetters.go_m0_end (k : Nat) (A0 : Option Addr) (c0 : Nat) (l0 : List ByteArray) (a1 : Int) (w : World) (hr1 : Kd.C Kd.string w A0 l0.length l0) (hc0 : l0.length ≤ c0) (A0_ : Aside0 (pestlelaw15_awake.f k = some true)) (h0 : ¬ a1 < 0) (h1 : ¬ 576460752303423488 < a1) (hm : a1 % 3 = 0) (n : Int) (x : ByteArray) (g2 : ¬ l0.length > 20) (A1 : Aside0 (pestleref04_Bytes.f k l0 = some n)) (g3 : ¬ n > 300) (A2 : Aside0 (sextet_Coder_Encode.f k sxPlain l0 = some x)) (g4 : (x.size : Int) = sxLetters n) :
    Calls Try.prog 8 #[.slice A0 l0.length c0, .int .i64 a1] w fun e w' => e = .returned (.bool true) ∧ Below w.heap.size w w' := by
  have A0 := A0_
  clear A0_
  have HB := Aside0.mk (Below.refl w.heap.size w)
  have HR := Aside0.mk hr1
  clear hr1
  have PL := Aside0.mk (show pestleref15_Plain.f = some sxPlain from rfl)
  have E0 := Aside0.mk sxPlain_ok
  have hsz : sxPlain.size ≤ 9223372036854775807 := by decide +kernel
  have e0 := sxLetters_in h0 h1
  have b0 : decide (a1 < 0) = false := decide_eq_false h0
  have b1 : decide (576460752303423488 < a1) = false := decide_eq_false h1
  have u0 : 0 ≤ a1 := by omega
  have u1 : a1 ≤ 576460752303423488 := by omega
  obtain ⟨m, hmm⟩ : ∃ m, sxLetters a1 = m := ⟨_, rfl⟩
  have m0 : 0 ≤ m := by omega
  have m1 : m ≤ 9223372036854775807 := by omega
  have v0 : decide (m < a1 / 3 * 4) = false := decide_eq_false (by omega)
  have v1 : m - a1 / 3 * 4 = 0 := by omega
  clear e0
  have g2b : decide ((20 : Int) < ((l0.length : Nat) : Int)) = false := decide_eq_false (by omega)
  have g2d : decide (20 < l0.length) = false := decide_eq_false g2
  have g3b : decide ((300 : Int) < n) = false := decide_eq_false g3
  have g4b : ((x.size : Int) == sxLetters n) = true := by rw [g4]; exact beq_self_eq_true _
  clear g4
  go_enter Try.func8, Try.ntmps8
  go_wp2_with (first | (go_at_call 26; refine (pestlelaw15_awake.calls k true _ A0.out).mono ?_; rintro e wn ⟨rfl, hb⟩; have n0_ := Aside0.mk (below_step HB.out hb); have n1_ := Aside0.mk (Kd.C_below HR.out hb); clear HB hb; clear HR; have HB := n0_; clear n0_; have HR := n1_; clear n1_) | (go_at_call 29; (with_reducible refine (sextet_Coder_Decode.nil _ _).mono ?_); rintro e wn ⟨rfl, hdr⟩; have hb := below_of_drawn hdr; clear hdr; have n0_ := Aside0.mk (below_step HB.out hb); have n1_ := Aside0.mk (Kd.C_below HR.out hb); clear HB hb; clear HR; have HB := n0_; clear n0_; have HR := n1_; clear n1_) | (go_at_call 31; (with_reducible refine (sextet_Coder_Encode.nil _ _).mono ?_); rintro e wn ⟨rfl, hdr⟩; have hb := below_of_drawn hdr; clear hdr; have n0_ := Aside0.mk (below_step (below_alloc HB.out _) hb); have n1_ := Aside0.mk (Kd.C_below (Kd.C_alloc HR.out _) hb); clear HB hb; clear HR; have HB := n0_; clear n0_; have HR := n1_; clear n1_) | (go_at_call 33; (with_reducible refine (sextet_Coder_Letters.nil _ _).mono ?_); rintro e wn ⟨rfl, hdr⟩; have hb := below_of_drawn hdr; clear hdr; have n0_ := Aside0.mk (below_step HB.out hb); have n1_ := Aside0.mk (Kd.C_below HR.out hb); clear HB hb; clear HR; have HB := n0_; clear n0_; have HR := n1_; clear n1_) | (go_at_call 34; refine (pestleref15_Plain.calls sxPlain _ PL.out).mono ?_; rintro e wn ⟨rfl, hdr⟩; have hb := below_of_drawn hdr; clear hdr; have n0_ := Aside0.mk (below_step HB.out hb); have n1_ := Aside0.mk (Kd.C_below HR.out hb); clear HB hb; clear HR; have HB := n0_; clear n0_; have HR := n1_; clear n1_) | (go_at_call 27; refine (sextet_New.calls sxPlain _ hsz).mono ?_; intro e wn hn; obtain ⟨_, g, hg, rfl, hc, hb⟩ := hn.resolve_right (fun q => q.1 E0.out); have n0_ := Aside0.mk (below_step HB.out hb); have n1_ := Aside0.mk (Kd.C_below HR.out hb); have HC := Aside0.mk hc; clear HB hb; clear HR; have HB := n0_; clear n0_; have HR := n1_; clear n1_; clear hc) | (go_at_call 33; (with_reducible refine (sextet_Coder_Letters.calls _ _ _).mono ?_); rintro e wn ⟨rfl, hdr⟩; have hb := below_of_drawn hdr; clear hdr; have n0_ := Aside0.mk (below_step HB.out hb); have n1_ := Aside0.mk (Kd.C_below HR.out hb); have n2_ := Aside0.mk (Coder.below HC.out hb (blk_lt HC.out)); clear HB hb; clear HR; clear HC; have HB := n0_; clear n0_; have HR := n1_; clear n1_; have HC := n2_; clear n2_) | (go_at_call 20; refine (pestleref04_Bytes.calls k _ _ l0 n _ (Kd.C_alloc HR.out _) hc0 A1.out).mono ?_; rintro e wn ⟨rfl, hdr⟩; have hb := below_of_drawn hdr; clear hdr; have n0_ := Aside0.mk (below_step (below_alloc HB.out _) hb); have n1_ := Aside0.mk (Kd.C_below (Kd.C_alloc HR.out _) hb); have n2_ := Aside0.mk (Coder.below (show Coder 71 _ g _ from blk_alloc HC.out _) hb (blk_lt (blk_alloc HC.out _))); clear HB hb; clear HR; clear HC; have HB := n0_; clear n0_; have HR := n1_; clear n1_; have HC := n2_; clear n2_) | (go_at_call 20; refine (pestleref04_Bytes.calls k _ _ l0 n _ HR.out hc0 A1.out).mono ?_; rintro e wn ⟨rfl, hdr⟩; have hb := below_of_drawn hdr; clear hdr; have n0_ := Aside0.mk (below_step HB.out hb); have n1_ := Aside0.mk (Kd.C_below HR.out hb); have n2_ := Aside0.mk (Coder.below HC.out hb (blk_lt HC.out)); clear HB hb; clear HR; clear HC; have HB := n0_; clear n0_; have HR := n1_; clear n1_; have HC := n2_; clear n2_) | (go_at_call 31; (with_reducible refine (sextet_Coder_Encode.calls k g sxPlain _ _ l0 x _ HC.out.letters HR.out hc0 A2.out).mono ?_); rintro e wn ⟨rfl, hb⟩; have n0_ := Aside0.mk (below_step HB.out hb); have n1_ := Aside0.mk (Kd.C_below HR.out hb); have n2_ := Aside0.mk (Coder.below HC.out hb (blk_lt HC.out)); clear HB hb; clear HR; clear HC; have HB := n0_; clear n0_; have HR := n1_; clear n1_; have HC := n2_; clear n2_))
  go_ret
  exact ⟨rfl, HB.out⟩
set_option maxHeartbeats 8000000 in
set_option maxRecDepth 100000 in
theorem pestlelaw15_SextetLetters.go_m1_len (k : Nat) (A0 : Option Addr) (c0 : Nat) (l0 : List ByteArray) (a1 : Int) (w : World) (hr1 : Kd.C Kd.string w A0 l0.length l0) (hc0 : l0.length ≤ c0) (A0_ : Aside0 (pestlelaw15_awake.f k = some true)) (h0 : ¬ a1 < 0) (h1 : ¬ 576460752303423488 < a1) (hm : a1 % 3 = 1) (g2 : l0.length > 20) :
    Calls Try.prog 8 #[.slice A0 l0.length c0, .int .i64 a1] w fun e w' => e = .returned (.bool true) ∧ Below w.heap.size w w' := by
  have A0 := A0_
  clear A0_
  have HB := Aside0.mk (Below.refl w.heap.size w)
  have HR := Aside0.mk hr1
  clear hr1
  have PL := Aside0.mk (show pestleref15_Plain.f = some sxPlain from rfl)
  have E0 := Aside0.mk sxPlain_ok
  have hsz : sxPlain.size ≤ 9223372036854775807 := by decide +kernel
  have e0 := sxLetters_in h0 h1
  have b0 : decide (a1 < 0) = false := decide_eq_false h0
  have b1 : decide (576460752303423488 < a1) = false := decide_eq_false h1
  have u0 : 0 ≤ a1 := by omega
  have u1 : a1 ≤ 576460752303423488 := by omega
  obtain ⟨m, hmm⟩ : ∃ m, sxLetters a1 = m := ⟨_, rfl⟩
  have m0 : 0 ≤ m := by omega
  have m1 : m ≤ 9223372036854775807 := by omega
  have v0 : decide (m < a1 / 3 * 4) = false := decide_eq_false (by omega)
  have v1 : m - a1 / 3 * 4 = 2 := by omega
  clear e0
  have g2b : decide ((20 : Int) < ((l0.length : Nat) : Int)) = true := decide_eq_true (by omega)
  have g2d : decide (20 < l0.length) = true := decide_eq_true g2
  go_enter Try.func8, Try.ntmps8
  go_wp2_with (first | (go_at_call 26; refine (pestlelaw15_awake.calls k true _ A0.out).mono ?_; rintro e wn ⟨rfl, hb⟩; have n0_ := Aside0.mk (below_step HB.out hb); have n1_ := Aside0.mk (Kd.C_below HR.out hb); clear HB hb; clear HR; have HB := n0_; clear n0_; have HR := n1_; clear n1_) | (go_at_call 29; (with_reducible refine (sextet_Coder_Decode.nil _ _).mono ?_); rintro e wn ⟨rfl, hdr⟩; have hb := below_of_drawn hdr; clear hdr; have n0_ := Aside0.mk (below_step HB.out hb); have n1_ := Aside0.mk (Kd.C_below HR.out hb); clear HB hb; clear HR; have HB := n0_; clear n0_; have HR := n1_; clear n1_) | (go_at_call 31; (with_reducible refine (sextet_Coder_Encode.nil _ _).mono ?_); rintro e wn ⟨rfl, hdr⟩; have hb := below_of_drawn hdr; clear hdr; have n0_ := Aside0.mk (below_step (below_alloc HB.out _) hb); have n1_ := Aside0.mk (Kd.C_below (Kd.C_alloc HR.out _) hb); clear HB hb; clear HR; have HB := n0_; clear n0_; have HR := n1_; clear n1_) | (go_at_call 33; (with_reducible refine (sextet_Coder_Letters.nil _ _).mono ?_); rintro e wn ⟨rfl, hdr⟩; have hb := below_of_drawn hdr; clear hdr; have n0_ := Aside0.mk (below_step HB.out hb); have n1_ := Aside0.mk (Kd.C_below HR.out hb); clear HB hb; clear HR; have HB := n0_; clear n0_; have HR := n1_; clear n1_) | (go_at_call 34; refine (pestleref15_Plain.calls sxPlain _ PL.out).mono ?_; rintro e wn ⟨rfl, hdr⟩; have hb := below_of_drawn hdr; clear hdr; have n0_ := Aside0.mk (below_step HB.out hb); have n1_ := Aside0.mk (Kd.C_below HR.out hb); clear HB hb; clear HR; have HB := n0_; clear n0_; have HR := n1_; clear n1_) | (go_at_call 27; refine (sextet_New.calls sxPlain _ hsz).mono ?_; intro e wn hn; obtain ⟨_, g, hg, rfl, hc, hb⟩ := hn.resolve_right (fun q => q.1 E0.out); have n0_ := Aside0.mk (below_step HB.out hb); have n1_ := Aside0.mk (Kd.C_below HR.out hb); have HC := Aside0.mk hc; clear HB hb; clear HR; have HB := n0_; clear n0_; have HR := n1_; clear n1_; clear hc) | (go_at_call 33; (with_reducible refine (sextet_Coder_Letters.calls _ _ _).mono ?_); rintro e wn ⟨rfl, hdr⟩; have hb := below_of_drawn hdr; clear hdr; have n0_ := Aside0.mk (below_step HB.out hb); have n1_ := Aside0.mk (Kd.C_below HR.out hb); have n2_ := Aside0.mk (Coder.below HC.out hb (blk_lt HC.out)); clear HB hb; clear HR; clear HC; have HB := n0_; clear n0_; have HR := n1_; clear n1_; have HC := n2_; clear n2_))
  go_ret
  exact ⟨rfl, below_alloc HB.out _⟩
set_option maxHeartbeats 8000000 in
set_option maxRecDepth 100000 in
theorem pestlelaw15_SextetLetters.go_m1_byt (k : Nat) (A0 : Option Addr) (c0 : Nat) (l0 : List ByteArray) (a1 : Int) (w : World) (hr1 : Kd.C Kd.string w A0 l0.length l0) (hc0 : l0.length ≤ c0) (A0_ : Aside0 (pestlelaw15_awake.f k = some true)) (h0 : ¬ a1 < 0) (h1 : ¬ 576460752303423488 < a1) (hm : a1 % 3 = 1) (n : Int) (g2 : ¬ l0.length > 20) (A1 : Aside0 (pestleref04_Bytes.f k l0 = some n)) (g3 : n > 300) :
    Calls Try.prog 8 #[.slice A0 l0.length c0, .int .i64 a1] w fun e w' => e = .returned (.bool true) ∧ Below w.heap.size w w' := by
  have A0 := A0_
  clear A0_
  have HB := Aside0.mk (Below.refl w.heap.size w)
  have HR := Aside0.mk hr1
  clear hr1
  have PL := Aside0.mk (show pestleref15_Plain.f = some sxPlain from rfl)
  have E0 := Aside0.mk sxPlain_ok
  have hsz : sxPlain.size ≤ 9223372036854775807 := by decide +kernel
  have e0 := sxLetters_in h0 h1
  have b0 : decide (a1 < 0) = false := decide_eq_false h0
  have b1 : decide (576460752303423488 < a1) = false := decide_eq_false h1
  have u0 : 0 ≤ a1 := by omega
  have u1 : a1 ≤ 576460752303423488 := by omega
  obtain ⟨m, hmm⟩ : ∃ m, sxLetters a1 = m := ⟨_, rfl⟩
  have m0 : 0 ≤ m := by omega
  have m1 : m ≤ 9223372036854775807 := by omega
  have v0 : decide (m < a1 / 3 * 4) = false := decide_eq_false (by omega)
  have v1 : m - a1 / 3 * 4 = 2 := by omega
  clear e0
  have g2b : decide ((20 : Int) < ((l0.length : Nat) : Int)) = false := decide_eq_false (by omega)
  have g2d : decide (20 < l0.length) = false := decide_eq_false g2
  have g3b : decide ((300 : Int) < n) = true := decide_eq_true g3
  go_enter Try.func8, Try.ntmps8
  go_wp2_with (first | (go_at_call 26; refine (pestlelaw15_awake.calls k true _ A0.out).mono ?_; rintro e wn ⟨rfl, hb⟩; have n0_ := Aside0.mk (below_step HB.out hb); have n1_ := Aside0.mk (Kd.C_below HR.out hb); clear HB hb; clear HR; have HB := n0_; clear n0_; have HR := n1_; clear n1_) | (go_at_call 29; (with_reducible refine (sextet_Coder_Decode.nil _ _).mono ?_); rintro e wn ⟨rfl, hdr⟩; have hb := below_of_drawn hdr; clear hdr; have n0_ := Aside0.mk (below_step HB.out hb); have n1_ := Aside0.mk (Kd.C_below HR.out hb); clear HB hb; clear HR; have HB := n0_; clear n0_; have HR := n1_; clear n1_) | (go_at_call 31; (with_reducible refine (sextet_Coder_Encode.nil _ _).mono ?_); rintro e wn ⟨rfl, hdr⟩; have hb := below_of_drawn hdr; clear hdr; have n0_ := Aside0.mk (below_step (below_alloc HB.out _) hb); have n1_ := Aside0.mk (Kd.C_below (Kd.C_alloc HR.out _) hb); clear HB hb; clear HR; have HB := n0_; clear n0_; have HR := n1_; clear n1_) | (go_at_call 33; (with_reducible refine (sextet_Coder_Letters.nil _ _).mono ?_); rintro e wn ⟨rfl, hdr⟩; have hb := below_of_drawn hdr; clear hdr; have n0_ := Aside0.mk (below_step HB.out hb); have n1_ := Aside0.mk (Kd.C_below HR.out hb); clear HB hb; clear HR; have HB := n0_; clear n0_; have HR := n1_; clear n1_) | (go_at_call 34; refine (pestleref15_Plain.calls sxPlain _ PL.out).mono ?_; rintro e wn ⟨rfl, hdr⟩; have hb := below_of_drawn hdr; clear hdr; have n0_ := Aside0.mk (below_step HB.out hb); have n1_ := Aside0.mk (Kd.C_below HR.out hb); clear HB hb; clear HR; have HB := n0_; clear n0_; have HR := n1_; clear n1_) | (go_at_call 27; refine (sextet_New.calls sxPlain _ hsz).mono ?_; intro e wn hn; obtain ⟨_, g, hg, rfl, hc, hb⟩ := hn.resolve_right (fun q => q.1 E0.out); have n0_ := Aside0.mk (below_step HB.out hb); have n1_ := Aside0.mk (Kd.C_below HR.out hb); have HC := Aside0.mk hc; clear HB hb; clear HR; have HB := n0_; clear n0_; have HR := n1_; clear n1_; clear hc) | (go_at_call 33; (with_reducible refine (sextet_Coder_Letters.calls _ _ _).mono ?_); rintro e wn ⟨rfl, hdr⟩; have hb := below_of_drawn hdr; clear hdr; have n0_ := Aside0.mk (below_step HB.out hb); have n1_ := Aside0.mk (Kd.C_below HR.out hb); have n2_ := Aside0.mk (Coder.below HC.out hb (blk_lt HC.out)); clear HB hb; clear HR; clear HC; have HB := n0_; clear n0_; have HR := n1_; clear n1_; have HC := n2_; clear n2_) | (go_at_call 20; refine (pestleref04_Bytes.calls k _ _ l0 n _ (Kd.C_alloc HR.out _) hc0 A1.out).mono ?_; rintro e wn ⟨rfl, hdr⟩; have hb := below_of_drawn hdr; clear hdr; have n0_ := Aside0.mk (below_step (below_alloc HB.out _) hb); have n1_ := Aside0.mk (Kd.C_below (Kd.C_alloc HR.out _) hb); have n2_ := Aside0.mk (Coder.below (show Coder 71 _ g _ from blk_alloc HC.out _) hb (blk_lt (blk_alloc HC.out _))); clear HB hb; clear HR; clear HC; have HB := n0_; clear n0_; have HR := n1_; clear n1_; have HC := n2_; clear n2_) | (go_at_call 20; refine (pestleref04_Bytes.calls k _ _ l0 n _ HR.out hc0 A1.out).mono ?_; rintro e wn ⟨rfl, hdr⟩; have hb := below_of_drawn hdr; clear hdr; have n0_ := Aside0.mk (below_step HB.out hb); have n1_ := Aside0.mk (Kd.C_below HR.out hb); have n2_ := Aside0.mk (Coder.below HC.out hb (blk_lt HC.out)); clear HB hb; clear HR; clear HC; have HB := n0_; clear n0_; have HR := n1_; clear n1_; have HC := n2_; clear n2_))
  go_ret
  exact ⟨rfl, HB.out⟩
set_option maxHeartbeats 8000000 in
set_option maxRecDepth 100000 in
theorem pestlelaw15_SextetLetters.go_m1_end (k : Nat) (A0 : Option Addr) (c0 : Nat) (l0 : List ByteArray) (a1 : Int) (w : World) (hr1 : Kd.C Kd.string w A0 l0.length l0) (hc0 : l0.length ≤ c0) (A0_ : Aside0 (pestlelaw15_awake.f k = some true)) (h0 : ¬ a1 < 0) (h1 : ¬ 576460752303423488 < a1) (hm : a1 % 3 = 1) (n : Int) (x : ByteArray) (g2 : ¬ l0.length > 20) (A1 : Aside0 (pestleref04_Bytes.f k l0 = some n)) (g3 : ¬ n > 300) (A2 : Aside0 (sextet_Coder_Encode.f k sxPlain l0 = some x)) (g4 : (x.size : Int) = sxLetters n) :
    Calls Try.prog 8 #[.slice A0 l0.length c0, .int .i64 a1] w fun e w' => e = .returned (.bool true) ∧ Below w.heap.size w w' := by
  have A0 := A0_
  clear A0_
  have HB := Aside0.mk (Below.refl w.heap.size w)
  have HR := Aside0.mk hr1
  clear hr1
  have PL := Aside0.mk (show pestleref15_Plain.f = some sxPlain from rfl)
  have E0 := Aside0.mk sxPlain_ok
  have hsz : sxPlain.size ≤ 9223372036854775807 := by decide +kernel
  have e0 := sxLetters_in h0 h1
  have b0 : decide (a1 < 0) = false := decide_eq_false h0
  have b1 : decide (576460752303423488 < a1) = false := decide_eq_false h1
  have u0 : 0 ≤ a1 := by omega
  have u1 : a1 ≤ 576460752303423488 := by omega
  obtain ⟨m, hmm⟩ : ∃ m, sxLetters a1 = m := ⟨_, rfl⟩
  have m0 : 0 ≤ m := by omega
  have m1 : m ≤ 9223372036854775807 := by omega
  have v0 : decide (m < a1 / 3 * 4) = false := decide_eq_false (by omega)
  have v1 : m - a1 / 3 * 4 = 2 := by omega
  clear e0
  have g2b : decide ((20 : Int) < ((l0.length : Nat) : Int)) = false := decide_eq_false (by omega)
  have g2d : decide (20 < l0.length) = false := decide_eq_false g2
  have g3b : decide ((300 : Int) < n) = false := decide_eq_false g3
  have g4b : ((x.size : Int) == sxLetters n) = true := by rw [g4]; exact beq_self_eq_true _
  clear g4
  go_enter Try.func8, Try.ntmps8
  go_wp2_with (first | (go_at_call 26; refine (pestlelaw15_awake.calls k true _ A0.out).mono ?_; rintro e wn ⟨rfl, hb⟩; have n0_ := Aside0.mk (below_step HB.out hb); have n1_ := Aside0.mk (Kd.C_below HR.out hb); clear HB hb; clear HR; have HB := n0_; clear n0_; have HR := n1_; clear n1_) | (go_at_call 29; (with_reducible refine (sextet_Coder_Decode.nil _ _).mono ?_); rintro e wn ⟨rfl, hdr⟩; have hb := below_of_drawn hdr; clear hdr; have n0_ := Aside0.mk (below_step HB.out hb); have n1_ := Aside0.mk (Kd.C_below HR.out hb); clear HB hb; clear HR; have HB := n0_; clear n0_; have HR := n1_; clear n1_) | (go_at_call 31; (with_reducible refine (sextet_Coder_Encode.nil _ _).mono ?_); rintro e wn ⟨rfl, hdr⟩; have hb := below_of_drawn hdr; clear hdr; have n0_ := Aside0.mk (below_step (below_alloc HB.out _) hb); have n1_ := Aside0.mk (Kd.C_below (Kd.C_alloc HR.out _) hb); clear HB hb; clear HR; have HB := n0_; clear n0_; have HR := n1_; clear n1_) | (go_at_call 33; (with_reducible refine (sextet_Coder_Letters.nil _ _).mono ?_); rintro e wn ⟨rfl, hdr⟩; have hb := below_of_drawn hdr; clear hdr; have n0_ := Aside0.mk (below_step HB.out hb); have n1_ := Aside0.mk (Kd.C_below HR.out hb); clear HB hb; clear HR; have HB := n0_; clear n0_; have HR := n1_; clear n1_) | (go_at_call 34; refine (pestleref15_Plain.calls sxPlain _ PL.out).mono ?_; rintro e wn ⟨rfl, hdr⟩; have hb := below_of_drawn hdr; clear hdr; have n0_ := Aside0.mk (below_step HB.out hb); have n1_ := Aside0.mk (Kd.C_below HR.out hb); clear HB hb; clear HR; have HB := n0_; clear n0_; have HR := n1_; clear n1_) | (go_at_call 27; refine (sextet_New.calls sxPlain _ hsz).mono ?_; intro e wn hn; obtain ⟨_, g, hg, rfl, hc, hb⟩ := hn.resolve_right (fun q => q.1 E0.out); have n0_ := Aside0.mk (below_step HB.out hb); have n1_ := Aside0.mk (Kd.C_below HR.out hb); have HC := Aside0.mk hc; clear HB hb; clear HR; have HB := n0_; clear n0_; have HR := n1_; clear n1_; clear hc) | (go_at_call 33; (with_reducible refine (sextet_Coder_Letters.calls _ _ _).mono ?_); rintro e wn ⟨rfl, hdr⟩; have hb := below_of_drawn hdr; clear hdr; have n0_ := Aside0.mk (below_step HB.out hb); have n1_ := Aside0.mk (Kd.C_below HR.out hb); have n2_ := Aside0.mk (Coder.below HC.out hb (blk_lt HC.out)); clear HB hb; clear HR; clear HC; have HB := n0_; clear n0_; have HR := n1_; clear n1_; have HC := n2_; clear n2_) | (go_at_call 20; refine (pestleref04_Bytes.calls k _ _ l0 n _ (Kd.C_alloc HR.out _) hc0 A1.out).mono ?_; rintro e wn ⟨rfl, hdr⟩; have hb := below_of_drawn hdr; clear hdr; have n0_ := Aside0.mk (below_step (below_alloc HB.out _) hb); have n1_ := Aside0.mk (Kd.C_below (Kd.C_alloc HR.out _) hb); have n2_ := Aside0.mk (Coder.below (show Coder 71 _ g _ from blk_alloc HC.out _) hb (blk_lt (blk_alloc HC.out _))); clear HB hb; clear HR; clear HC; have HB := n0_; clear n0_; have HR := n1_; clear n1_; have HC := n2_; clear n2_) | (go_at_call 20; refine (pestleref04_Bytes.calls k _ _ l0 n _ HR.out hc0 A1.out).mono ?_; rintro e wn ⟨rfl, hdr⟩; have hb := below_of_drawn hdr; clear hdr; have n0_ := Aside0.mk (below_step HB.out hb); have n1_ := Aside0.mk (Kd.C_below HR.out hb); have n2_ := Aside0.mk (Coder.below HC.out hb (blk_lt HC.out)); clear HB hb; clear HR; clear HC; have HB := n0_; clear n0_; have HR := n1_; clear n1_; have HC := n2_; clear n2_) | (go_at_call 31; (with_reducible refine (sextet_Coder_Encode.calls k g sxPlain _ _ l0 x _ HC.out.letters HR.out hc0 A2.out).mono ?_); rintro e wn ⟨rfl, hb⟩; have n0_ := Aside0.mk (below_step HB.out hb); have n1_ := Aside0.mk (Kd.C_below HR.out hb); have n2_ := Aside0.mk (Coder.below HC.out hb (blk_lt HC.out)); clear HB hb; clear HR; clear HC; have HB := n0_; clear n0_; have HR := n1_; clear n1_; have HC := n2_; clear n2_))
  go_ret
  exact ⟨rfl, HB.out⟩
set_option maxHeartbeats 8000000 in
set_option maxRecDepth 100000 in
theorem pestlelaw15_SextetLetters.go_m2_len (k : Nat) (A0 : Option Addr) (c0 : Nat) (l0 : List ByteArray) (a1 : Int) (w : World) (hr1 : Kd.C Kd.string w A0 l0.length l0) (hc0 : l0.length ≤ c0) (A0_ : Aside0 (pestlelaw15_awake.f k = some true)) (h0 : ¬ a1 < 0) (h1 : ¬ 576460752303423488 < a1) (hm : a1 % 3 = 2) (g2 : l0.length > 20) :
    Calls Try.prog 8 #[.slice A0 l0.length c0, .int .i64 a1] w fun e w' => e = .returned (.bool true) ∧ Below w.heap.size w w' := by
  have A0 := A0_
  clear A0_
  have HB := Aside0.mk (Below.refl w.heap.size w)
  have HR := Aside0.mk hr1
  clear hr1
  have PL := Aside0.mk (show pestleref15_Plain.f = some sxPlain from rfl)
  have E0 := Aside0.mk sxPlain_ok
  have hsz : sxPlain.size ≤ 9223372036854775807 := by decide +kernel
  have e0 := sxLetters_in h0 h1
  have b0 : decide (a1 < 0) = false := decide_eq_false h0
  have b1 : decide (576460752303423488 < a1) = false := decide_eq_false h1
  have u0 : 0 ≤ a1 := by omega
  have u1 : a1 ≤ 576460752303423488 := by omega
  obtain ⟨m, hmm⟩ : ∃ m, sxLetters a1 = m := ⟨_, rfl⟩
  have m0 : 0 ≤ m := by omega
  have m1 : m ≤ 9223372036854775807 := by omega
  have v0 : decide (m < a1 / 3 * 4) = false := decide_eq_false (by omega)
  have v1 : m - a1 / 3 * 4 = 3 := by omega
  clear e0
  have g2b : decide ((20 : Int) < ((l0.length : Nat) : Int)) = true := decide_eq_true (by omega)
  have g2d : decide (20 < l0.length) = true := decide_eq_true g2
  go_enter Try.func8, Try.ntmps8
  go_wp2_with (first | (go_at_call 26; refine (pestlelaw15_awake.calls k true _ A0.out).mono ?_; rintro e wn ⟨rfl, hb⟩; have n0_ := Aside0.mk (below_step HB.out hb); have n1_ := Aside0.mk (Kd.C_below HR.out hb); clear HB hb; clear HR; have HB := n0_; clear n0_; have HR := n1_; clear n1_) | (go_at_call 29; (with_reducible refine (sextet_Coder_Decode.nil _ _).mono ?_); rintro e wn ⟨rfl, hdr⟩; have hb := below_of_drawn hdr; clear hdr; have n0_ := Aside0.mk (below_step HB.out hb); have n1_ := Aside0.mk (Kd.C_below HR.out hb); clear HB hb; clear HR; have HB := n0_; clear n0_; have HR := n1_; clear n1_) | (go_at_call 31; (with_reducible refine (sextet_Coder_Encode.nil _ _).mono ?_); rintro e wn ⟨rfl, hdr⟩; have hb := below_of_drawn hdr; clear hdr; have n0_ := Aside0.mk (below_step (below_alloc HB.out _) hb); have n1_ := Aside0.mk (Kd.C_below (Kd.C_alloc HR.out _) hb); clear HB hb; clear HR; have HB := n0_; clear n0_; have HR := n1_; clear n1_) | (go_at_call 33; (with_reducible refine (sextet_Coder_Letters.nil _ _).mono ?_); rintro e wn ⟨rfl, hdr⟩; have hb := below_of_drawn hdr; clear hdr; have n0_ := Aside0.mk (below_step HB.out hb); have n1_ := Aside0.mk (Kd.C_below HR.out hb); clear HB hb; clear HR; have HB := n0_; clear n0_; have HR := n1_; clear n1_) | (go_at_call 34; refine (pestleref15_Plain.calls sxPlain _ PL.out).mono ?_; rintro e wn ⟨rfl, hdr⟩; have hb := below_of_drawn hdr; clear hdr; have n0_ := Aside0.mk (below_step HB.out hb); have n1_ := Aside0.mk (Kd.C_below HR.out hb); clear HB hb; clear HR; have HB := n0_; clear n0_; have HR := n1_; clear n1_) | (go_at_call 27; refine (sextet_New.calls sxPlain _ hsz).mono ?_; intro e wn hn; obtain ⟨_, g, hg, rfl, hc, hb⟩ := hn.resolve_right (fun q => q.1 E0.out); have n0_ := Aside0.mk (below_step HB.out hb); have n1_ := Aside0.mk (Kd.C_below HR.out hb); have HC := Aside0.mk hc; clear HB hb; clear HR; have HB := n0_; clear n0_; have HR := n1_; clear n1_; clear hc) | (go_at_call 33; (with_reducible refine (sextet_Coder_Letters.calls _ _ _).mono ?_); rintro e wn ⟨rfl, hdr⟩; have hb := below_of_drawn hdr; clear hdr; have n0_ := Aside0.mk (below_step HB.out hb); have n1_ := Aside0.mk (Kd.C_below HR.out hb); have n2_ := Aside0.mk (Coder.below HC.out hb (blk_lt HC.out)); clear HB hb; clear HR; clear HC; have HB := n0_; clear n0_; have HR := n1_; clear n1_; have HC := n2_; clear n2_))
  go_ret
  exact ⟨rfl, below_alloc HB.out _⟩
set_option maxHeartbeats 8000000 in
set_option maxRecDepth 100000 in
theorem pestlelaw15_SextetLetters.go_m2_byt (k : Nat) (A0 : Option Addr) (c0 : Nat) (l0 : List ByteArray) (a1 : Int) (w : World) (hr1 : Kd.C Kd.string w A0 l0.length l0) (hc0 : l0.length ≤ c0) (A0_ : Aside0 (pestlelaw15_awake.f k = some true)) (h0 : ¬ a1 < 0) (h1 : ¬ 576460752303423488 < a1) (hm : a1 % 3 = 2) (n : Int) (g2 : ¬ l0.length > 20) (A1 : Aside0 (pestleref04_Bytes.f k l0 = some n)) (g3 : n > 300) :
    Calls Try.prog 8 #[.slice A0 l0.length c0, .int .i64 a1] w fun e w' => e = .returned (.bool true) ∧ Below w.heap.size w w' := by
  have A0 := A0_
  clear A0_
  have HB := Aside0.mk (Below.refl w.heap.size w)
  have HR := Aside0.mk hr1
  clear hr1
  have PL := Aside0.mk (show pestleref15_Plain.f = some sxPlain from rfl)
  have E0 := Aside0.mk sxPlain_ok
  have hsz : sxPlain.size ≤ 9223372036854775807 := by decide +kernel
  have e0 := sxLetters_in h0 h1
  have b0 : decide (a1 < 0) = false := decide_eq_false h0
  have b1 : decide (576460752303423488 < a1) = false := decide_eq_false h1
  have u0 : 0 ≤ a1 := by omega
  have u1 : a1 ≤ 576460752303423488 := by omega
  obtain ⟨m, hmm⟩ : ∃ m, sxLetters a1 = m := ⟨_, rfl⟩
  have m0 : 0 ≤ m := by omega
  have m1 : m ≤ 9223372036854775807 := by omega
  have v0 : decide (m < a1 / 3 * 4) = false := decide_eq_false (by omega)
  have v1 : m - a1 / 3 * 4 = 3 := by omega
  clear e0
  have g2b : decide ((20 : Int) < ((l0.length : Nat) : Int)) = false := decide_eq_false (by omega)
  have g2d : decide (20 < l0.length) = false := decide_eq_false g2
  have g3b : decide ((300 : Int) < n) = true := decide_eq_true g3
  go_enter Try.func8, Try.ntmps8
  go_wp2_with (first | (go_at_call 26; refine (pestlelaw15_awake.calls k true _ A0.out).mono ?_; rintro e wn ⟨rfl, hb⟩; have n0_ := Aside0.mk (below_step HB.out hb); have n1_ := Aside0.mk (Kd.C_below HR.out hb); clear HB hb; clear HR; have HB := n0_; clear n0_; have HR := n1_; clear n1_) | (go_at_call 29; (with_reducible refine (sextet_Coder_Decode.nil _ _).mono ?_); rintro e wn ⟨rfl, hdr⟩; have hb := below_of_drawn hdr; clear hdr; have n0_ := Aside0.mk (below_step HB.out hb); have n1_ := Aside0.mk (Kd.C_below HR.out hb); clear HB hb; clear HR; have HB := n0_; clear n0_; have HR := n1_; clear n1_) | (go_at_call 31; (with_reducible refine (sextet_Coder_Encode.nil _ _).mono ?_); rintro e wn ⟨rfl, hdr⟩; have hb := below_of_drawn hdr; clear hdr; have n0_ := Aside0.mk (below_step (below_alloc HB.out _) hb); have n1_ := Aside0.mk (Kd.C_below (Kd.C_alloc HR.out _) hb); clear HB hb; clear HR; have HB := n0_; clear n0_; have HR := n1_; clear n1_) | (go_at_call 33; (with_reducible refine (sextet_Coder_Letters.nil _ _).mono ?_); rintro e wn ⟨rfl, hdr⟩; have hb := below_of_drawn hdr; clear hdr; have n0_ := Aside0.mk (below_step HB.out hb); have n1_ := Aside0.mk (Kd.C_below HR.out hb); clear HB hb; clear HR; have HB := n0_; clear n0_; have HR := n1_; clear n1_) | (go_at_call 34; refine (pestleref15_Plain.calls sxPlain _ PL.out).mono ?_; rintro e wn ⟨rfl, hdr⟩; have hb := below_of_drawn hdr; clear hdr; have n0_ := Aside0.mk (below_step HB.out hb); have n1_ := Aside0.mk (Kd.C_below HR.out hb); clear HB hb; clear HR; have HB := n0_; clear n0_; have HR := n1_; clear n1_) | (go_at_call 27; refine (sextet_New.calls sxPlain _ hsz).mono ?_; intro e wn hn; obtain ⟨_, g, hg, rfl, hc, hb⟩ := hn.resolve_right (fun q => q.1 E0.out); have n0_ := Aside0.mk (below_step HB.out hb); have n1_ := Aside0.mk (Kd.C_below HR.out hb); have HC := Aside0.mk hc; clear HB hb; clear HR; have HB := n0_; clear n0_; have HR := n1_; clear n1_; clear hc) | (go_at_call 33; (with_reducible refine (sextet_Coder_Letters.calls _ _ _).mono ?_); rintro e wn ⟨rfl, hdr⟩; have hb := below_of_drawn hdr; clear hdr; have n0_ := Aside0.mk (below_step HB.out hb); have n1_ := Aside0.mk (Kd.C_below HR.out hb); have n2_ := Aside0.mk (Coder.below HC.out hb (blk_lt HC.out)); clear HB hb; clear HR; clear HC; have HB := n0_; clear n0_; have HR := n1_; clear n1_; have HC := n2_; clear n2_) | (go_at_call 20; refine (pestleref04_Bytes.calls k _ _ l0 n _ (Kd.C_alloc HR.out _) hc0 A1.out).mono ?_; rintro e wn ⟨rfl, hdr⟩; have hb := below_of_drawn hdr; clear hdr; have n0_ := Aside0.mk (below_step (below_alloc HB.out _) hb); have n1_ := Aside0.mk (Kd.C_below (Kd.C_alloc HR.out _) hb); have n2_ := Aside0.mk (Coder.below (show Coder 71 _ g _ from blk_alloc HC.out _) hb (blk_lt (blk_alloc HC.out _))); clear HB hb; clear HR; clear HC; have HB := n0_; clear n0_; have HR := n1_; clear n1_; have HC := n2_; clear n2_) | (go_at_call 20; refine (pestleref04_Bytes.calls k _ _ l0 n _ HR.out hc0 A1.out).mono ?_; rintro e wn ⟨rfl, hdr⟩; have hb := below_of_drawn hdr; clear hdr; have n0_ := Aside0.mk (below_step HB.out hb); have n1_ := Aside0.mk (Kd.C_below HR.out hb); have n2_ := Aside0.mk (Coder.below HC.out hb (blk_lt HC.out)); clear HB hb; clear HR; clear HC; have HB := n0_; clear n0_; have HR := n1_; clear n1_; have HC := n2_; clear n2_))
  go_ret
  exact ⟨rfl, HB.out⟩
set_option maxHeartbeats 8000000 in
set_option maxRecDepth 100000 in
theorem pestlelaw15_SextetLetters.go_m2_end (k : Nat) (A0 : Option Addr) (c0 : Nat) (l0 : List ByteArray) (a1 : Int) (w : World) (hr1 : Kd.C Kd.string w A0 l0.length l0) (hc0 : l0.length ≤ c0) (A0_ : Aside0 (pestlelaw15_awake.f k = some true)) (h0 : ¬ a1 < 0) (h1 : ¬ 576460752303423488 < a1) (hm : a1 % 3 = 2) (n : Int) (x : ByteArray) (g2 : ¬ l0.length > 20) (A1 : Aside0 (pestleref04_Bytes.f k l0 = some n)) (g3 : ¬ n > 300) (A2 : Aside0 (sextet_Coder_Encode.f k sxPlain l0 = some x)) (g4 : (x.size : Int) = sxLetters n) :
    Calls Try.prog 8 #[.slice A0 l0.length c0, .int .i64 a1] w fun e w' => e = .returned (.bool true) ∧ Below w.heap.size w w' := by
  have A0 := A0_
  clear A0_
  have HB := Aside0.mk (Below.refl w.heap.size w)
  have HR := Aside0.mk hr1
  clear hr1
  have PL := Aside0.mk (show pestleref15_Plain.f = some sxPlain from rfl)
  have E0 := Aside0.mk sxPlain_ok
  have hsz : sxPlain.size ≤ 9223372036854775807 := by decide +kernel
  have e0 := sxLetters_in h0 h1
  have b0 : decide (a1 < 0) = false := decide_eq_false h0
  have b1 : decide (576460752303423488 < a1) = false := decide_eq_false h1
  have u0 : 0 ≤ a1 := by omega
  have u1 : a1 ≤ 576460752303423488 := by omega
  obtain ⟨m, hmm⟩ : ∃ m, sxLetters a1 = m := ⟨_, rfl⟩
  have m0 : 0 ≤ m := by omega
  have m1 : m ≤ 9223372036854775807 := by omega
  have v0 : decide (m < a1 / 3 * 4) = false := decide_eq_false (by omega)
  have v1 : m - a1 / 3 * 4 = 3 := by omega
  clear e0
  have g2b : decide ((20 : Int) < ((l0.length : Nat) : Int)) = false := decide_eq_false (by omega)
  have g2d : decide (20 < l0.length) = false := decide_eq_false g2
  have g3b : decide ((300 : Int) < n) = false := decide_eq_false g3
  have g4b : ((x.size : Int) == sxLetters n) = true := by rw [g4]; exact beq_self_eq_true _
  clear g4
  go_enter Try.func8, Try.ntmps8
  go_wp2_with (first | (go_at_call 26; refine (pestlelaw15_awake.calls k true _ A0.out).mono ?_; rintro e wn ⟨rfl, hb⟩; have n0_ := Aside0.mk (below_step HB.out hb); have n1_ := Aside0.mk (Kd.C_below HR.out hb); clear HB hb; clear HR; have HB := n0_; clear n0_; have HR := n1_; clear n1_) | (go_at_call 29; (with_reducible refine (sextet_Coder_Decode.nil _ _).mono ?_); rintro e wn ⟨rfl, hdr⟩; have hb := below_of_drawn hdr; clear hdr; have n0_ := Aside0.mk (below_step HB.out hb); have n1_ := Aside0.mk (Kd.C_below HR.out hb); clear HB hb; clear HR; have HB := n0_; clear n0_; have HR := n1_; clear n1_) | (go_at_call 31; (with_reducible refine (sextet_Coder_Encode.nil _ _).mono ?_); rintro e wn ⟨rfl, hdr⟩; have hb := below_of_drawn hdr; clear hdr; have n0_ := Aside0.mk (below_step (below_alloc HB.out _) hb); have n1_ := Aside0.mk (Kd.C_below (Kd.C_alloc HR.out _) hb); clear HB hb; clear HR; have HB := n0_; clear n0_; have HR := n1_; clear n1_) | (go_at_call 33; (with_reducible refine (sextet_Coder_Letters.nil _ _).mono ?_); rintro e wn ⟨rfl, hdr⟩; have hb := below_of_drawn hdr; clear hdr; have n0_ := Aside0.mk (below_step HB.out hb); have n1_ := Aside0.mk (Kd.C_below HR.out hb); clear HB hb; clear HR; have HB := n0_; clear n0_; have HR := n1_; clear n1_) | (go_at_call 34; refine (pestleref15_Plain.calls sxPlain _ PL.out).mono ?_; rintro e wn ⟨rfl, hdr⟩; have hb := below_of_drawn hdr; clear hdr; have n0_ := Aside0.mk (below_step HB.out hb); have n1_ := Aside0.mk (Kd.C_below HR.out hb); clear HB hb; clear HR; have HB := n0_; clear n0_; have HR := n1_; clear n1_) | (go_at_call 27; refine (sextet_New.calls sxPlain _ hsz).mono ?_; intro e wn hn; obtain ⟨_, g, hg, rfl, hc, hb⟩ := hn.resolve_right (fun q => q.1 E0.out); have n0_ := Aside0.mk (below_step HB.out hb); have n1_ := Aside0.mk (Kd.C_below HR.out hb); have HC := Aside0.mk hc; clear HB hb; clear HR; have HB := n0_; clear n0_; have HR := n1_; clear n1_; clear hc) | (go_at_call 33; (with_reducible refine (sextet_Coder_Letters.calls _ _ _).mono ?_); rintro e wn ⟨rfl, hdr⟩; have hb := below_of_drawn hdr; clear hdr; have n0_ := Aside0.mk (below_step HB.out hb); have n1_ := Aside0.mk (Kd.C_below HR.out hb); have n2_ := Aside0.mk (Coder.below HC.out hb (blk_lt HC.out)); clear HB hb; clear HR; clear HC; have HB := n0_; clear n0_; have HR := n1_; clear n1_; have HC := n2_; clear n2_) | (go_at_call 20; refine (pestleref04_Bytes.calls k _ _ l0 n _ (Kd.C_alloc HR.out _) hc0 A1.out).mono ?_; rintro e wn ⟨rfl, hdr⟩; have hb := below_of_drawn hdr; clear hdr; have n0_ := Aside0.mk (below_step (below_alloc HB.out _) hb); have n1_ := Aside0.mk (Kd.C_below (Kd.C_alloc HR.out _) hb); have n2_ := Aside0.mk (Coder.below (show Coder 71 _ g _ from blk_alloc HC.out _) hb (blk_lt (blk_alloc HC.out _))); clear HB hb; clear HR; clear HC; have HB := n0_; clear n0_; have HR := n1_; clear n1_; have HC := n2_; clear n2_) | (go_at_call 20; refine (pestleref04_Bytes.calls k _ _ l0 n _ HR.out hc0 A1.out).mono ?_; rintro e wn ⟨rfl, hdr⟩; have hb := below_of_drawn hdr; clear hdr; have n0_ := Aside0.mk (below_step HB.out hb); have n1_ := Aside0.mk (Kd.C_below HR.out hb); have n2_ := Aside0.mk (Coder.below HC.out hb (blk_lt HC.out)); clear HB hb; clear HR; clear HC; have HB := n0_; clear n0_; have HR := n1_; clear n1_; have HC := n2_; clear n2_) | (go_at_call 31; (with_reducible refine (sextet_Coder_Encode.calls k g sxPlain _ _ l0 x _ HC.out.letters HR.out hc0 A2.out).mono ?_); rintro e wn ⟨rfl, hb⟩; have n0_ := Aside0.mk (below_step HB.out hb); have n1_ := Aside0.mk (Kd.C_below HR.out hb); have n2_ := Aside0.mk (Coder.below HC.out hb (blk_lt HC.out)); clear HB hb; clear HR; clear HC; have HB := n0_; clear n0_; have HR := n1_; clear n1_; have HC := n2_; clear n2_))
  go_ret
  exact ⟨rfl, HB.out⟩
set_option maxHeartbeats 8000000 in
set_option maxRecDepth 100000 in
theorem pestlelaw15_SextetLetters.calls (k : Nat) (A0 : Option Addr) (c0 : Nat) (l0 : List ByteArray) (a1 : Int) (r : Bool) (w : World) (hr0 : Kd.C Kd.string w A0 l0.length l0) (hc0 : l0.length ≤ c0) (h : pestlelaw15_SextetLetters.f k l0 a1 = some r) :
    Calls Try.prog 8 #[.slice A0 l0.length c0, .int .i64 a1] w fun e w' => e = .returned (.bool r) ∧ Below w.heap.size w w' := by
  have hr := pestlelaw15_SextetLetters.yes h
  subst hr
  unfold pestlelaw15_SextetLetters.f at h
  obtain ⟨aw, A, h2⟩ := Option.bind_eq_some_iff.mp h
  clear h
  obtain rfl := pestlelaw15_awake.yes A
  replace A := Aside0.mk A
  by_cases g2 : l0.length > 20
  case pos =>
    by_cases h0 : a1 < 0
    · exact pestlelaw15_SextetLetters.go_lo_len k _ _ l0 a1 w hr0 hc0 A h0 g2
    by_cases h1 : 576460752303423488 < a1
    · exact pestlelaw15_SextetLetters.go_hi_len k _ _ l0 a1 w hr0 hc0 A h0 h1 g2
    rcases (by omega : a1 % 3 = 0 ∨ a1 % 3 = 1 ∨ a1 % 3 = 2) with hm | hm | hm
    · exact pestlelaw15_SextetLetters.go_m0_len k _ _ l0 a1 w hr0 hc0 A h0 h1 hm g2
    · exact pestlelaw15_SextetLetters.go_m1_len k _ _ l0 a1 w hr0 hc0 A h0 h1 hm g2
    · exact pestlelaw15_SextetLetters.go_m2_len k _ _ l0 a1 w hr0 hc0 A h0 h1 hm g2
  rw [if_neg g2] at h2
  obtain ⟨n, A1, h3⟩ := Option.bind_eq_some_iff.mp h2
  clear h2
  replace A1 := Aside0.mk A1
  by_cases g3 : n > 300
  case pos =>
    by_cases h0 : a1 < 0
    · exact pestlelaw15_SextetLetters.go_lo_byt k _ _ l0 a1 w hr0 hc0 A h0 n g2 A1 g3
    by_cases h1 : 576460752303423488 < a1
    · exact pestlelaw15_SextetLetters.go_hi_byt k _ _ l0 a1 w hr0 hc0 A h0 h1 n g2 A1 g3
    rcases (by omega : a1 % 3 = 0 ∨ a1 % 3 = 1 ∨ a1 % 3 = 2) with hm | hm | hm
    · exact pestlelaw15_SextetLetters.go_m0_byt k _ _ l0 a1 w hr0 hc0 A h0 h1 hm n g2 A1 g3
    · exact pestlelaw15_SextetLetters.go_m1_byt k _ _ l0 a1 w hr0 hc0 A h0 h1 hm n g2 A1 g3
    · exact pestlelaw15_SextetLetters.go_m2_byt k _ _ l0 a1 w hr0 hc0 A h0 h1 hm n g2 A1 g3
  rw [if_neg g3] at h3
  obtain ⟨x, A2, h4⟩ := Option.bind_eq_some_iff.mp h3
  clear h3
  replace A2 := Aside0.mk A2
  by_cases g4 : (x.size : Int) = sxLetters n
  case neg => rw [if_neg g4] at h4; cases h4
  by_cases h0 : a1 < 0
  · exact pestlelaw15_SextetLetters.go_lo_end k _ _ l0 a1 w hr0 hc0 A h0 n x g2 A1 g3 A2 g4
  by_cases h1 : 576460752303423488 < a1
  · exact pestlelaw15_SextetLetters.go_hi_end k _ _ l0 a1 w hr0 hc0 A h0 h1 n x g2 A1 g3 A2 g4
  rcases (by omega : a1 % 3 = 0 ∨ a1 % 3 = 1 ∨ a1 % 3 = 2) with hm | hm | hm
  · exact pestlelaw15_SextetLetters.go_m0_end k _ _ l0 a1 w hr0 hc0 A h0 h1 hm n x g2 A1 g3 A2 g4
  · exact pestlelaw15_SextetLetters.go_m1_end k _ _ l0 a1 w hr0 hc0 A h0 h1 hm n x g2 A1 g3 A2 g4
  · exact pestlelaw15_SextetLetters.go_m2_end k _ _ l0 a1 w hr0 hc0 A h0 h1 hm n x g2 A1 g3 A2 g4

end Go.Proofs.Ytakhikhdbigdaaa.Pall
