/- What sextet writes and reads, in plain lists: the program's way. -/
import Derived.Test.YtoknoghdnedmhaaByt
import Derived.Test.YtoknoghdnedmhaaSexMath
import Derived.Test.YtoknoghdnedmhaaPallx5
import Derived.Test.YtoknoghdnedmhaaPallx2
namespace Go.Proofs.Ytoknoghdnedmhaa.Sex1
open Go.RowKit Go.Proofs.YtoknoghdnedmhaaW.PrintWords Go.Proofs.YtoknoghdnedmhaaW.PrintLast Go.Proofs.YtoknoghdnedmhaaW.PrintMore Go.Proofs.Ytoknoghdnedmhaa.Pall Go.Proofs.Ytoknoghdnedmhaa.Lib Go.Proofs.Ytoknoghdnedmhaa.Byt Go.Proofs.Ytoknoghdnedmhaa.SexMath

theorem or32 (a b : Nat) (ha : a < 4294967296) (hb : b < 4294967296) : bits .or .u32 (a : Int) (b : Int) = ((a ||| b : Nat) : Int) := by
  have hx : a ||| b < 2 ^ 32 := Nat.or_lt_two_pow (by omega) (by omega)
  have h1 : (BitVec.ofInt 32 (a : Int)).toNat = a := by
    rw [BitVec.ofInt_natCast, BitVec.toNat_ofNat]; exact Nat.mod_eq_of_lt (by omega)
  have h2 : (BitVec.ofInt 32 (b : Int)).toNat = b := by
    rw [BitVec.ofInt_natCast, BitVec.toNat_ofNat]; exact Nat.mod_eq_of_lt (by omega)
  show IntKind.u32.wrap ((BitVec.ofInt 32 (a : Int) ||| BitVec.ofInt 32 (b : Int)).toNat : Int) = _
  rw [BitVec.toNat_or, h1, h2, IntKind.wrap_u32]
  omega
theorem and32 (a b : Nat) (ha : a < 4294967296) (hb : b < 4294967296) : bits .and .u32 (a : Int) (b : Int) = ((a &&& b : Nat) : Int) := by
  have hx : a &&& b ≤ b := Nat.and_le_right
  have h1 : (BitVec.ofInt 32 (a : Int)).toNat = a := by
    rw [BitVec.ofInt_natCast, BitVec.toNat_ofNat]; exact Nat.mod_eq_of_lt (by omega)
  have h2 : (BitVec.ofInt 32 (b : Int)).toNat = b := by
    rw [BitVec.ofInt_natCast, BitVec.toNat_ofNat]; exact Nat.mod_eq_of_lt (by omega)
  show IntKind.u32.wrap ((BitVec.ofInt 32 (a : Int) &&& BitVec.ofInt 32 (b : Int)).toNat : Int) = _
  rw [BitVec.toNat_and, h1, h2, IntKind.wrap_u32]
  omega
theorem and63 (a : Nat) (ha : a < 4294967296) : bits .and .u32 (a : Int) 63 = ((a % 64 : Nat) : Int) := by
  have := and32 a 63 ha (by omega)
  rw [show (63 : Nat) = 2 ^ 6 - 1 from rfl, Nat.and_two_pow_sub_one_eq_mod] at this
  exact this
/-- what is held, shifted, and a part put beside it -/
theorem held_or (s h p : Nat) (hs : s ≤ 8) (hp : p < 2 ^ s) : bits .or .u32 (((h * 2 ^ s % 4294967296 : Nat)) : Int) (p : Int) = ((h * 2 ^ s % 4294967296 + p : Nat) : Int) := by
  have p8 : 2 ^ s ≤ 2 ^ 8 := Nat.pow_le_pow_right (by omega) hs
  rw [or32 _ _ (Nat.mod_lt _ (by omega)) (by omega)]
  congr 1
  have e : h * 2 ^ s % 4294967296 = (h % 2 ^ (32 - s)) <<< s := by
    rw [Nat.shiftLeft_eq, show (4294967296 : Nat) = 2 ^ (32 - s) * 2 ^ s by rw [← Nat.pow_add, show 32 - s + s = 32 by omega], Nat.mul_mod_mul_right]
  rw [e, Nat.shiftLeft_add_eq_or_of_lt hp]
theorem held8 (h p : Nat) (hp : p < 256) : bits .or .u32 (((h : Int) * 256) % 4294967296) ((p : Int) % 4294967296) = ((h * 256 % 4294967296 + p : Nat) : Int) := by
  have := held_or 8 h p (by omega) hp
  rw [show ((h : Int) * 256) % 4294967296 = ((h * 2 ^ 8 % 4294967296 : Nat) : Int) by omega, show (p : Int) % 4294967296 = (p : Int) by omega, this]
theorem held6 (h p : Nat) (hp : p < 64) : bits .or .u32 (((h : Int) * 64) % 4294967296) ((p : Int) % 4294967296) = ((h * 64 % 4294967296 + p : Nat) : Int) := by
  have := held_or 6 h p (by omega) hp
  rw [show ((h : Int) * 64) % 4294967296 = ((h * 2 ^ 6 % 4294967296 : Nat) : Int) by omega, show (p : Int) % 4294967296 = (p : Int) by omega, this]
theorem shr_nat (x n : Nat) (h : n ≤ 32) : shr .u32 (x : Int) (n : Int) = ((x / 2 ^ n : Nat) : Int) := by
  unfold shr
  rw [show ((n : Int)).toNat = n from rfl, show IntKind.u32.bits = 32 from rfl, Nat.min_eq_left h]
  rw [Int.natCast_ediv, Int.natCast_pow]; rfl
theorem shl_nat (x n : Nat) (h : n ≤ 32) : shl .u32 (x : Int) (n : Int) = ((x * 2 ^ n % 4294967296 : Nat) : Int) := by
  unfold shl
  rw [show ((n : Int)).toNat = n from rfl, show IntKind.u32.bits = 32 from rfl, Nat.min_eq_left h, IntKind.wrap_u32]
  have : (2 : Int) ^ n = ((2 ^ n : Nat) : Int) := (Int.natCast_pow 2 n).symm
  rw [this]; omega

/-! ### encoding -/
def nats (l : List UInt8) : List Nat := l.map (·.toNat)
/-- numbers as letters -/
def lets (s : ByteArray) (v : List Nat) : List UInt8 := v.map fun n => (L s).getD n 0
def flat : List ByteArray → List UInt8
  | [] => []
  | p :: ps => L p ++ flat ps
def encS (s : ByteArray) (l : List UInt8) : ByteArray := mkB (lets s (encP 0 0 (nats l)))
/-- how far into a group of three, and what is held of the last byte -/
def cm (ph held : Nat) : Nat := if ph = 0 then 0 else if ph = 1 then held % 4 else held % 16
theorem bt_let {s : ByteArray} (hs : (L s).length = 64) {v : Nat} (hv : v < 64) : bt s (v : Int) = (((L s).getD v 0).toNat : Int) := by
  have hl : v < (L s).length := by omega
  rw [bt_nat hl, List.getD_eq_getElem?_getD, List.getElem?_eq_getElem hl]; rfl
theorem lets_append (s : ByteArray) (a b : List Nat) : lets s (a ++ b) = lets s a ++ lets s b := List.map_append
theorem lets_cons (s : ByteArray) (a : Nat) (b : List Nat) : lets s (a :: b) = (L s).getD a 0 :: lets s b := rfl
theorem U_snoc (out : List UInt8) (c : UInt8) : U out ++ [(c.toNat : Int)] = U (out ++ [c]) := by rw [U_append]; rfl
theorem drain0 {s p : ByteArray} {parts : List ByteArray} {m i q : Int} (j : Nat) (hj : j ≤ 1000000000) (out : List UInt8) (held b : Nat) (hb : b < 6) (r : ByteArray)
    (next : To (fun k => sextet_Coder_Encode.l1 k s (U out) (held : Int) (b : Int) p parts m i q ((j + 1 : Nat) : Int)) r) :
    To (fun k => sextet_Coder_Encode.l2 k s (U out) (held : Int) (b : Int) p parts m i q (j : Int)) r := by
  refine To.step ?_
  simp only [sextet_Coder_Encode.l2]
  rw [wrap_id (x := (j : Int) + 1) (by omega) (by omega)]
  exact To.neg (by omega) next
section
variable {s : ByteArray} (hs : s.size = 64)
include hs
theorem L64 : (L s).length = 64 := by rw [← size_L]; exact hs
theorem drain1 {p : ByteArray} {parts : List ByteArray} {m i q j : Int} (out : List UInt8) (held b v : Nat) (hb : 6 ≤ b ∧ b ≤ 14) (hh : held < 4294967296) (hv : v = held / 2 ^ (b - 6) % 64) (ho : out.length ≤ 1000000000) (r : ByteArray)
    (next : To (fun k => sextet_Coder_Encode.l2 k s (U (out ++ [(L s).getD v 0])) (held : Int) ((b - 6 : Nat) : Int) p parts m i q j) r) :
    To (fun k => sextet_Coder_Encode.l2 k s (U out) (held : Int) (b : Int) p parts m i q j) r := by
  refine To.step ?_
  simp only [sextet_Coder_Encode.l2]
  have hq : held / 2 ^ (b - 6) < 4294967296 := Nat.lt_of_le_of_lt (Nat.div_le_self _ _) hh
  have vl : v < 64 := by rw [hv]; exact Nat.mod_lt _ (by omega)
  rw [wrap_id (x := (b : Int) - 6) (by omega) (by omega), show (b : Int) - 6 = ((b - 6 : Nat) : Int) by omega, shr_nat held (b - 6) (by omega), and63 _ hq, ← hv, bt_let (L64 hs) vl, U_snoc]
  exact To.pos (by omega) (To.pos (by omega) (To.pos (by omega) (To.pos (by omega) (To.pos (by rw [U_length]; omega) next))))
theorem enc_l1 {parts : List ByteArray} {m i : Int} (p : ByteArray) (tail : List UInt8) (target : List UInt8) (hp : p.size ≤ 1000000) (ht : target.length ≤ 1000000) (r : ByteArray)
    (next : ∀ (out : List UInt8) (held ph : Nat), ph < 3 → held < 4294967296 → out ++ lets s (encP ph (cm ph held) (nats tail)) = target → To (fun k => sextet_Coder_Encode.l0 k s (U out) (held : Int) ((2 * ph : Nat) : Int) parts m (wrap64 (i + 1))) r)
    (d : Nat) : ∀ (n : Nat) (out : List UInt8) (held ph : Nat), n + d = (L p).length → ph < 3 → held < 4294967296 → out ++ lets s (encP ph (cm ph held) (nats ((L p).drop n ++ tail))) = target →
    To (fun k => sextet_Coder_Encode.l1 k s (U out) (held : Int) ((2 * ph : Nat) : Int) p parts m i (p.size : Int) (n : Int)) r := by
  have hpl : (L p).length ≤ 1000000 := by rw [← size_L]; exact hp
  induction d with
  | zero =>
    intro n out held ph hn h3 hh he
    refine To.step ?_
    simp only [sextet_Coder_Encode.l1]
    rw [size_L]
    refine To.neg (by omega) ?_
    rw [List.drop_of_length_le (by omega), List.nil_append] at he
    exact next out held ph h3 hh he
  | succ d ih =>
    intro n out held ph hn h3 hh he
    have hlt : n < (L p).length := by omega
    have hc := (L p)[n].toNat_lt
    have hol : out.length ≤ 1000000 := by
      have := congrArg List.length he
      rw [List.length_append] at this; omega
    refine To.step ?_
    simp only [sextet_Coder_Encode.l1]
    rw [size_L, bt_nat hlt, held8 held _ (by omega), wrap_id (x := ((2 * ph : Nat) : Int) + 8) (by omega) (by omega), show ((2 * ph : Nat) : Int) + 8 = ((2 * ph + 8 : Nat) : Int) by omega]
    refine To.pos (by omega) (To.pos (by omega) (To.pos (by omega) ?_))
    rw [drop_cons hlt] at he
    have hi := fun (out : List UInt8) (held ph : Nat) h3 hh he => ih (n + 1) out held ph (by omega) h3 hh he
    rw [size_L] at hi
    generalize hP : (L p)[n].toNat = x at *
    have hn' : nats ((L p)[n] :: (L p).drop (n + 1) ++ tail) = x :: nats ((L p).drop (n + 1) ++ tail) := by rw [← hP]; rfl
    rw [hn'] at he
    obtain ⟨H, hH⟩ : ∃ H, held * 256 % 4294967296 + x = H := ⟨_, rfl⟩
    have hHl : H < 4294967296 := by omega
    rw [hH]
    rcases (by omega : ph = 0 ∨ ph = 1 ∨ ph = 2) with rfl | rfl | rfl
    · simp only [encP] at he
      refine drain1 hs out H 8 (x / 4) (by omega) hHl (by omega) (by omega) r ?_
      refine drain0 n (by omega) _ H 2 (by omega) r ?_
      refine hi _ H 1 (by omega) hHl ?_
      rw [← he, lets_cons, List.append_assoc]
      show out ++ ([_] ++ lets s (encP 1 (H % 4) _)) = _
      rw [show H % 4 = x % 4 by omega]; rfl
    · simp only [encP] at he
      have e0 : cm 1 held = held % 4 := rfl
      rw [e0] at he
      refine drain1 hs out H 10 (held % 4 * 16 + x / 16) (by omega) hHl (by omega) (by omega) r ?_
      refine drain0 n (by omega) _ H 4 (by omega) r ?_
      refine hi _ H 2 (by omega) hHl ?_
      rw [← he, lets_cons, List.append_assoc]
      show out ++ ([_] ++ lets s (encP 2 (H % 16) _)) = _
      rw [show H % 16 = x % 16 by omega]; rfl
    · simp only [encP] at he
      have e0 : cm 2 held = held % 16 := rfl
      rw [e0] at he
      refine drain1 hs out H 12 (held % 16 * 4 + x / 64) (by omega) hHl (by omega) (by omega) r ?_
      refine drain1 hs _ H 6 (x % 64) (by omega) hHl (by omega) (by rw [List.length_append, List.length_singleton]; omega) r ?_
      refine drain0 n (by omega) _ H 0 (by omega) r ?_
      refine hi _ H 0 (by omega) hHl ?_
      rw [← he, lets_cons, lets_cons, List.append_assoc, List.append_assoc]; rfl
theorem enc_l0 (parts : List ByteArray) (hn : parts.length ≤ 1000000) (hp : ∀ p ∈ parts, p.size ≤ 1000000) (target : List UInt8) (ht : target.length ≤ 1000000) (d : Nat) : ∀ (n : Nat) (out : List UInt8) (held ph : Nat), n + d = parts.length → ph < 3 → held < 4294967296 →
    out ++ lets s (encP ph (cm ph held) (nats (flat (parts.drop n)))) = target →
    To (fun k => sextet_Coder_Encode.l0 k s (U out) (held : Int) ((2 * ph : Nat) : Int) parts (parts.length : Int) (n : Int)) (mkB target) := by
  induction d with
  | zero =>
    intro n out held ph hn' h3 hh he
    have hol : out.length ≤ 1000000 := by
      have := congrArg List.length he
      rw [List.length_append] at this; omega
    refine To.step ?_
    simp only [sextet_Coder_Encode.l0]
    rw [List.drop_of_length_le (by omega)] at he
    refine To.neg (by omega) ?_
    rcases (by omega : ph = 0 ∨ ph = 1 ∨ ph = 2) with rfl | rfl | rfl
    · refine To.neg (by omega) (To.ret' ?_)
      rw [← he, str_U]
      show mkB out = mkB (out ++ [])
      rw [List.append_nil]
    · have e : wrap64 (6 - ((2 * 1 : Nat) : Int)) = ((4 : Nat) : Int) := by rw [wrap_id (by omega) (by omega)]; rfl
      have v : held * 2 ^ 4 % 4294967296 % 64 = held % 4 * 16 := by omega
      rw [e, shl_nat held 4 (by omega), and63 _ (Nat.mod_lt _ (by omega)), v, bt_let (L64 hs) (by omega), U_snoc, str_U]
      refine To.pos (by omega) (To.pos (by omega) (To.pos (by omega) (To.pos (by omega) (To.pos (by rw [U_length]; omega) (To.ret' ?_)))))
      rw [← he]; rfl
    · have e : wrap64 (6 - ((2 * 2 : Nat) : Int)) = ((2 : Nat) : Int) := by rw [wrap_id (by omega) (by omega)]; rfl
      have v : held * 2 ^ 2 % 4294967296 % 64 = held % 16 * 4 := by omega
      rw [e, shl_nat held 2 (by omega), and63 _ (Nat.mod_lt _ (by omega)), v, bt_let (L64 hs) (by omega), U_snoc, str_U]
      refine To.pos (by omega) (To.pos (by omega) (To.pos (by omega) (To.pos (by omega) (To.pos (by rw [U_length]; omega) (To.ret' ?_)))))
      rw [← he]; rfl
  | succ d ih =>
    intro n out held ph hn' h3 hh he
    have hlt : n < parts.length := by omega
    have e0 : rdOf ByteArray.empty parts (n : Int) = parts[n] := by
      unfold rdOf
      simp [List.getD_eq_getElem?_getD, hlt]
    refine To.step ?_
    simp only [sextet_Coder_Encode.l0]
    rw [e0]
    refine To.pos (by omega) (To.pos (by omega) (To.pos (by omega) ?_))
    rw [drop_cons hlt, flat] at he
    refine enc_l1 hs parts[n] (flat (parts.drop (n + 1))) target (hp _ (List.getElem_mem hlt)) ht (mkB target) ?_ (L parts[n]).length 0 out held ph (by omega) h3 hh he
    intro out' held' ph' h3' hh' he'
    rw [wrap_id (x := (n : Int) + 1) (by omega) (by omega)]
    exact ih (n + 1) out' held' ph' (by omega) h3' hh' he'
theorem enc_to (parts : List ByteArray) (hn : parts.length ≤ 1000000) (hp : ∀ p ∈ parts, p.size ≤ 1000000) (hb : (flat parts).length ≤ 300000) : To (fun k => sextet_Coder_Encode.f k s parts) (encS s (flat parts)) := by
  simp only [sextet_Coder_Encode.f]
  have hl : (lets s (encP 0 0 (nats (flat parts)))).length ≤ 1000000 := by
    unfold lets nats
    rw [List.length_map, (enc_len _).1, List.length_map]; omega
  exact enc_l0 hs parts hn hp _ hl parts.length 0 [] 0 0 (by omega) (by omega) (by omega) rfl
end

/-! ### decoding -/
/-- a letter's number, if it is one -/
def vals (s : ByteArray) (l : List UInt8) : List Nat := l.map fun c => sxVal (L s) c.toNat - 1
def isLet (s : ByteArray) (c : UInt8) : Prop := sxVal (L s) c.toNat ≠ 0
instance (s : ByteArray) (c : UInt8) : Decidable (isLet s c) := inferInstanceAs (Decidable (¬ _ = _))
def decS (s t : ByteArray) : ByteArray × Int := if ∀ c ∈ L t, isLet s c then (match decP 0 0 (vals s (L t)) with | some b => (mkB (b.map UInt8.ofNat), 0) | none => (⟨#[]⟩, 5)) else (⟨#[]⟩, 8)
theorem sxVal_le : ∀ (l : List UInt8) (b : Nat), sxVal l b ≤ l.length
  | [], _ => Nat.le_refl _
  | c :: l, b => by
    have := sxVal_le l b
    rw [sxVal, List.length_cons]
    split
    · omega
    · split <;> omega
theorem vals_lt {s : ByteArray} (hs : s.size = 64) (l : List UInt8) : ∀ x ∈ vals s l, x < 64 := by
  intro x hx
  obtain ⟨c, _, rfl⟩ := List.mem_map.mp hx
  have := sxVal_le (L s) c.toNat
  rw [← size_L, hs] at this
  omega
/-- how far into a group of four, what is held of the last letter -/
def cd (ph held : Nat) : Nat := if ph = 0 then 0 else if ph = 1 then held % 64 else if ph = 2 then held % 16 else held % 4
def db (ph : Nat) : Nat := if ph = 0 then 0 else 8 - 2 * ph
def fin (out : List UInt8) (o : Option (List Nat)) : ByteArray × Int := match o with | some b => (mkB (out ++ b.map UInt8.ofNat), 0) | none => (⟨#[]⟩, 5)
theorem fin_cons (out : List UInt8) (x : Nat) (o : Option (List Nat)) : fin out (o.map (x :: ·)) = fin (out ++ [UInt8.ofNat x]) o := by
  cases o with
  | none => rfl
  | some b => simp [fin]
theorem U_byte (out : List UInt8) (x : Nat) (hx : x < 256) : U out ++ [(x : Int)] = U (out ++ [UInt8.ofNat x]) := by
  have h := U_single (x := (x : Int)) (by omega) (by omega)
  rw [U_append, h]; rfl
theorem dec_l0 {s : ByteArray} (hs : s.size = 64) (t : ByteArray) (ht : t.size ≤ 1000000) (d : Nat) : ∀ (n : Nat) (out : List UInt8) (held ph : Nat), n + d = (L t).length → ph = n % 4 → held < 4294967296 → out.length ≤ n → (∀ c ∈ (L t).take n, isLet s c) →
    To (fun k => sextet_Coder_Decode.l0 k s t (U out) (held : Int) ((db ph : Nat) : Int) (t.size : Int) (n : Int)) (if ∀ c ∈ L t, isLet s c then fin out (decP ph (cd ph held) (vals s ((L t).drop n))) else (⟨#[]⟩, 8)) := by
  have htl : (L t).length ≤ 1000000 := by rw [← size_L]; exact ht
  induction d with
  | zero =>
    intro n out held ph hn hph hh ho hl
    have hn' : n = (L t).length := by omega
    rw [hn', List.take_length] at hl
    refine To.step ?_
    simp only [sextet_Coder_Decode.l0]
    rw [size_L, if_pos hl, List.drop_of_length_le (by omega)]
    have e4 : ((L t).length : Int) % 4 = ((ph : Nat) : Int) := by omega
    rw [e4]
    refine To.neg (by omega) ?_
    rcases (by omega : ph = 0 ∨ ph = 1 ∨ ph = 2 ∨ ph = 3) with h0 | h0 | h0 | h0
    · rw [h0]
      have es : ((shl .u32 1 ((db 0 : Nat) : Int)) - 1) % 4294967296 = 0 := by
        have := shl_nat 1 0 (by omega)
        rw [show shl .u32 1 ((db 0 : Nat) : Int) = ((1 * 2 ^ 0 % 4294967296 : Nat) : Int) from this]; rfl
      have ea : bits .and .u32 (held : Int) 0 = 0 := by
        have := and32 held 0 hh (by omega)
        rw [Nat.and_zero] at this; exact this
      rw [es, ea, str_U]
      refine To.neg (by omega) (To.pos (by unfold db; omega) (To.pos rfl (To.ret' ?_)))
      show (mkB out, 0) = (mkB (out ++ []), 0)
      rw [List.append_nil]
    · rw [h0]
      exact To.pos rfl (To.ret _)
    · rw [h0]
      have es : ((shl .u32 1 ((db 2 : Nat) : Int)) - 1) % 4294967296 = ((15 : Nat) : Int) := by
        have := shl_nat 1 4 (by omega)
        rw [show shl .u32 1 ((db 2 : Nat) : Int) = ((1 * 2 ^ 4 % 4294967296 : Nat) : Int) from this]; rfl
      have ea := and32 held 15 hh (by omega)
      rw [show (15 : Nat) = 2 ^ 4 - 1 from rfl, Nat.and_two_pow_sub_one_eq_mod, show (2 : Nat) ^ 4 = 16 from rfl, show (16 - 1 : Nat) = 15 from rfl] at ea
      rw [es, ea, str_U]
      refine To.neg (by omega) (To.pos (by unfold db; omega) ?_)
      show To _ (fin out (if held % 16 = 0 then some [] else none))
      by_cases z : held % 16 = 0
      · rw [if_pos z]
        refine To.pos (by omega) (To.ret' ?_)
        show (mkB out, 0) = (mkB (out ++ []), 0)
        rw [List.append_nil]
      · rw [if_neg z]
        exact To.neg (by omega) (To.ret _)
    · rw [h0]
      have es : ((shl .u32 1 ((db 3 : Nat) : Int)) - 1) % 4294967296 = ((3 : Nat) : Int) := by
        have := shl_nat 1 2 (by omega)
        rw [show shl .u32 1 ((db 3 : Nat) : Int) = ((1 * 2 ^ 2 % 4294967296 : Nat) : Int) from this]; rfl
      have ea := and32 held 3 hh (by omega)
      rw [show (3 : Nat) = 2 ^ 2 - 1 from rfl, Nat.and_two_pow_sub_one_eq_mod, show (2 : Nat) ^ 2 = 4 from rfl, show (4 - 1 : Nat) = 3 from rfl] at ea
      rw [es, ea, str_U]
      refine To.neg (by omega) (To.pos (by unfold db; omega) ?_)
      show To _ (fin out (if held % 4 = 0 then some [] else none))
      by_cases z : held % 4 = 0
      · rw [if_pos z]
        refine To.pos (by omega) (To.ret' ?_)
        show (mkB out, 0) = (mkB (out ++ []), 0)
        rw [List.append_nil]
      · rw [if_neg z]
        exact To.neg (by omega) (To.ret _)
  | succ d ih =>
    intro n out held ph hn hph hh ho hl
    have hlt : n < (L t).length := by omega
    refine To.step ?_
    simp only [sextet_Coder_Decode.l0, sxF]
    rw [size_L, bt_nat hlt]
    refine To.pos (by omega) (To.pos (by omega) (To.pos (by omega) (To.bind0 rfl ?_)))
    have ev : sxV s ((L t)[n].toNat : Int) = ((sxVal (L s) (L t)[n].toNat : Nat) : Int) := rfl
    rw [ev]
    by_cases z : sxVal (L s) (L t)[n].toNat = 0
    · refine To.pos (by omega) (To.ret' ?_)
      rw [if_neg (fun q => q _ (List.getElem_mem hlt) z)]
    refine To.neg (by omega) ?_
    have hle := sxVal_le (L s) (L t)[n].toNat
    rw [← size_L, hs] at hle
    have hl' : ∀ c ∈ (L t).take (n + 1), isLet s c := by
      intro c hc
      rw [List.take_succ_eq_append_getElem hlt, List.mem_append, List.mem_singleton] at hc
      rcases hc with hc | rfl
      · exact hl c hc
      · exact z
    have hv : vals s ((L t).drop n) = (sxVal (L s) (L t)[n].toNat - 1) :: vals s ((L t).drop (n + 1)) := by rw [drop_cons hlt]; rfl
    rw [hv]
    have hi := fun (out : List UInt8) (held ph : Nat) hph hh ho => ih (n + 1) out held ph (by omega) hph hh ho hl'
    rw [size_L] at hi
    generalize sxVal (L s) (L t)[n].toNat = y at *
    obtain ⟨x, rfl⟩ : ∃ x, y = x + 1 := ⟨y - 1, by omega⟩
    rw [show wrap64 (((x + 1 : Nat) : Int) - 1) = (x : Int) by rw [wrap_id (by omega) (by omega)]; omega, held6 held x (by omega), wrap_id (x := (n : Int) + 1) (by omega) (by omega), show x + 1 - 1 = x by omega]
    obtain ⟨H, hH⟩ : ∃ H, held * 64 % 4294967296 + x = H := ⟨_, rfl⟩
    have hHl : H < 4294967296 := by omega
    rw [hH]
    rcases (by omega : ph = 0 ∨ ph = 1 ∨ ph = 2 ∨ ph = 3) with h0 | h0 | h0 | h0
    · rw [h0]
      have e6 : wrap64 (((db 0 : Nat) : Int) + 6) = ((6 : Nat) : Int) := by decide +kernel
      rw [e6]
      refine To.neg (by omega) ?_
      have := hi out H 1 (by omega) hHl (by omega)
      simp only [decP]
      rw [show cd 1 H = x by unfold cd; rw [if_neg (by omega), if_pos rfl]; omega] at this
      exact this
    · rw [h0]
      have e6 : wrap64 (((db 1 : Nat) : Int) + 6) = ((12 : Nat) : Int) := by decide +kernel
      have e8 : wrap64 (((12 : Nat) : Int) - 8) = ((4 : Nat) : Int) := by rw [wrap_id (by omega) (by omega)]; rfl
      have hc : cd 1 held = held % 64 := rfl
      rw [e6, e8, shr_nat H 4 (by omega)]
      refine To.pos (by omega) (To.pos (by omega) (To.pos (by rw [U_length]; omega) ?_))
      have := hi (out ++ [UInt8.ofNat (held % 64 * 4 + x / 16)]) H 2 (by omega) hHl (by rw [List.length_append, List.length_singleton]; omega)
      simp only [decP]
      rw [hc, fin_cons]
      rw [show cd 2 H = x % 16 by unfold cd; rw [if_neg (by omega), if_neg (by omega), if_pos rfl]; omega] at this
      rw [show ((H / 2 ^ 4 : Nat) : Int) % 256 = ((held % 64 * 4 + x / 16 : Nat) : Int) by omega, U_byte _ _ (by omega)]
      exact this
    · rw [h0]
      have e6 : wrap64 (((db 2 : Nat) : Int) + 6) = ((10 : Nat) : Int) := by decide +kernel
      have e8 : wrap64 (((10 : Nat) : Int) - 8) = ((2 : Nat) : Int) := by rw [wrap_id (by omega) (by omega)]; rfl
      have hc : cd 2 held = held % 16 := rfl
      rw [e6, e8, shr_nat H 2 (by omega)]
      refine To.pos (by omega) (To.pos (by omega) (To.pos (by rw [U_length]; omega) ?_))
      have := hi (out ++ [UInt8.ofNat (held % 16 * 16 + x / 4)]) H 3 (by omega) hHl (by rw [List.length_append, List.length_singleton]; omega)
      simp only [decP]
      rw [hc, fin_cons]
      rw [show cd 3 H = x % 4 by unfold cd; rw [if_neg (by omega), if_neg (by omega), if_neg (by omega)]; omega] at this
      rw [show ((H / 2 ^ 2 : Nat) : Int) % 256 = ((held % 16 * 16 + x / 4 : Nat) : Int) by omega, U_byte _ _ (by omega)]
      exact this
    · rw [h0]
      have e6 : wrap64 (((db 3 : Nat) : Int) + 6) = ((8 : Nat) : Int) := by decide +kernel
      have e8 : wrap64 (((8 : Nat) : Int) - 8) = ((0 : Nat) : Int) := by rw [wrap_id (by omega) (by omega)]; rfl
      have hc : cd 3 held = held % 4 := rfl
      rw [e6, e8, shr_nat H 0 (by omega)]
      refine To.pos (by omega) (To.pos (by omega) (To.pos (by rw [U_length]; omega) ?_))
      have := hi (out ++ [UInt8.ofNat (held % 4 * 64 + x)]) H 0 (by omega) hHl (by rw [List.length_append, List.length_singleton]; omega)
      simp only [decP]
      rw [hc, fin_cons]
      rw [show ((H / 2 ^ 0 : Nat) : Int) % 256 = ((held % 4 * 64 + x : Nat) : Int) by omega, U_byte _ _ (by omega)]
      exact this
theorem dec_to {s : ByteArray} (hs : s.size = 64) (t : ByteArray) (ht : t.size ≤ 1000000) : To (fun k => sextet_Coder_Decode.f k s t) (decS s t) := by
  simp only [sextet_Coder_Decode.f]
  have := dec_l0 hs t ht (L t).length 0 [] 0 0 (by omega) (by omega) (by omega) (by simp) (by simp)
  have e : decS s t = (if ∀ c ∈ L t, isLet s c then fin [] (decP 0 (cd 0 0) (vals s ((L t).drop 0))) else (⟨#[]⟩, 8)) := by
    unfold decS
    by_cases h : ∀ c ∈ L t, isLet s c
    · rw [if_pos h, if_pos h]
      show _ = fin [] (decP 0 0 (vals s (L t)))
      cases decP 0 0 (vals s (L t)) <;> rfl
    · rw [if_neg h, if_neg h]
  rw [e]
  exact this
end Go.Proofs.Ytoknoghdnedmhaa.Sex1
