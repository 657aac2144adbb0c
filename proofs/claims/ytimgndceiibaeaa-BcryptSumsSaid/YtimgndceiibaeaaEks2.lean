/- eks: sealed words, as the reference walks them. -/
import Derived.Test.YtimgndceiibaeaaBf2
import Derived.Test.YtimgndceiibaeaaPallx9
import Derived.Test.YtimgndceiibaeaaPallx4
namespace Go.Proofs.Ytimgndceiibaeaa.Eks2
open Go.RowKit Go.Proofs.Ytimgndceiibaeaa.Pall Go.Proofs.YtimgndceiibaeaaW.PrintWords Go.Proofs.YtimgndceiibaeaaW.PrintLast Go.Proofs.Ytimgndceiibaeaa.Lib Go.Proofs.Ytimgndceiibaeaa.Bf1 Go.Proofs.Ytimgndceiibaeaa.Bf2

/-- two words encrypted so often -/
def rp (t : List Nat) : Nat → Nat → Nat → Nat × Nat
  | 0, a, b => (a, b)
  | m + 1, a, b => rp t m (ciEnc t a b).1 (ciEnc t a b).2
theorem rp_succ (t : List Nat) (m a b : Nat) : rp t (m + 1) a b = rp t m (ciEnc t a b).1 (ciEnc t a b).2 := by
  delta rp
  rfl
/-- all pairs -/
def outs (t : List Nat) (m : Nat) : Nat → List Nat → List Nat
  | d + 1, a :: b :: q => (rp t m a b).1 :: (rp t m a b).2 :: outs t m d q
  | _, _ => []
theorem ciW_at (p q : List Nat) (a : Nat) : ciW (p ++ a :: q) p.length = a := by
  unfold ciW
  rw [List.getD_eq_getElem?_getD, List.getElem?_append_right (Nat.le_refl _), Nat.sub_self]; rfl
theorem ciW_at1 (p q : List Nat) (a b : Nat) : ciW (p ++ a :: b :: q) (p.length + 1) = b := by
  unfold ciW
  rw [List.getD_eq_getElem?_getD, List.getElem?_append_right (by omega), show p.length + 1 - p.length = 1 by omega]; rfl
theorem set_at (p q : List Nat) (a b x y : Nat) : ((p ++ a :: b :: q).set p.length x).set (p.length + 1) y = p ++ x :: y :: q := by
  rw [List.set_append_right _ _ (Nat.le_refl _), Nat.sub_self, List.set_append_right _ _ (by omega), show p.length + 1 - p.length = 1 by omega]; rfl
theorem in_is (t p q : List Nat) : ∀ m a b, ciIn t p.length m (p ++ a :: b :: q) = p ++ (rp t m a b).1 :: (rp t m a b).2 :: q
  | 0, _, _ => rfl
  | m + 1, a, b => by
    rw [ciIn_succ, ciW_at, ciW_at1, set_at, in_is t p q m, rp_succ]
theorem sl_is (t : List Nat) (m : Nat) : ∀ d p q, q.length = 2 * d → ciSl t m d p.length (p ++ q) = p ++ outs t m d q
  | 0, p, q, h => by
    obtain rfl : q = [] := List.eq_nil_of_length_eq_zero (by omega)
    rfl
  | d + 1, p, q, h => by
    match q, h with
    | a :: b :: q, h =>
      have ih := sl_is t m d (p ++ [(rp t m a b).1, (rp t m a b).2]) q (by simp only [List.length_cons] at h; omega)
      rw [List.length_append] at ih
      rw [ciSl_succ, in_is]
      show ciSl t m d (p.length + 2) (p ++ ([(rp t m a b).1, (rp t m a b).2] ++ q)) = p ++ ([(rp t m a b).1, (rp t m a b).2] ++ outs t m d q)
      rw [← List.append_assoc, ← List.append_assoc]
      exact ih
theorem ciI_app (p q : List Nat) : ciI (p ++ q) = ciI p ++ ciI q := List.map_append
theorem outs_len (t : List Nat) (m : Nat) : ∀ d q, q.length = 2 * d → (outs t m d q).length = 2 * d
  | 0, q, h => by
    obtain rfl : q = [] := List.eq_nil_of_length_eq_zero (by omega)
    rfl
  | d + 1, q, h => by
    match q, h with
    | a :: b :: q, h =>
      have ih := outs_len t m d q (by simp only [List.length_cons] at h; omega)
      show (outs t m d q).length + 1 + 1 = _
      omega
theorem rd_at (p q : List Nat) (a : Nat) : rd (ciI (p ++ a :: q)) (p.length : Int) = (a : Int) := by
  rw [ciI_rd _ _ (by rw [List.length_append, List.length_cons]; omega), ciW_at]
theorem rd_at1 (p q : List Nat) (a b : Nat) : rd (ciI (p ++ a :: b :: q)) ((p.length + 1 : Nat) : Int) = (b : Int) := by
  rw [ciI_rd _ _ (by rw [List.length_append, List.length_cons, List.length_cons]; omega), ciW_at1]
section
variable {t : List Nat} (ho : ciOk t) (m : Nat) (hm : m ≤ 1000000)
include ho hm
theorem seal_l1 (l : List Int) (out : List Int) (hout : out.length ≤ 1000000) (i : Nat) (hi : i ≤ 1000000) (R : List Int) (d : Nat) : ∀ (j a b : Nat), j + d = m → a < 4294967296 → b < 4294967296 →
    To (fun k => pestleref11_Seal.l0 k (ciI t) (m : Int) l (out ++ [((rp t d a b).1 : Int), ((rp t d a b).2 : Int)]) ((i + 2 : Nat) : Int)) R →
    To (fun k => pestleref11_Seal.l1 k (ciI t) (m : Int) l out (i : Int) (a : Int) (b : Int) (j : Int)) R := by
  induction d with
  | zero =>
    intro j a b hj ha hb h
    refine To.step ?_
    simp only [pestleref11_Seal.l1]
    rw [wrap_id (x := (i : Int) + 2) (by omega) (by omega)]
    exact To.neg (by omega) (To.bind (To.ret _) (To.pos (by show out.length + 2 < _; omega) h))
  | succ d ih =>
    intro j a b hj ha hb h
    rw [rp_succ] at h
    have e := ciEnc_lt ho ha hb
    have i1 := ih (j + 1) _ _ (by omega) e.1 e.2 h
    refine To.step ?_
    simp only [pestleref11_Seal.l1]
    rw [wrap_id (x := (j : Int) + 1) (by omega) (by omega)]
    exact To.pos (by omega) (To.bind (enc_to ho a b ha hb) i1)
theorem seal_l0 (d : Nat) : ∀ (p q : List Nat) (out : List Int), q.length = 2 * d → (p ++ q).length ≤ 1000 → out.length = p.length → (∀ x ∈ q, x < 4294967296) →
    To (fun k => pestleref11_Seal.l0 k (ciI t) (m : Int) (ciI (p ++ q)) out (p.length : Int)) (out ++ ciI (outs t m d q)) := by
  induction d with
  | zero =>
    intro p q out hq hl hout hu
    obtain rfl : q = [] := List.eq_nil_of_length_eq_zero (by omega)
    refine To.step ?_
    simp only [pestleref11_Seal.l0]
    rw [List.length_append] at hl
    rw [wrap_id (x := (p.length : Int) + 1) (by omega) (by omega), ciI_len, List.append_nil]
    refine To.neg (by omega) (To.ret' ?_)
    show out = out ++ []
    rw [List.append_nil]
  | succ d ih =>
    intro p q out hq hl hout hu
    match q, hq, hl, hu with
    | a :: b :: q, hq, hl, hu =>
      have ha := hu a (by simp)
      have hb := hu b (by simp)
      have hl2 := hl
      rw [List.length_append, List.length_cons, List.length_cons] at hl2
      have h := ih (p ++ [a, b]) q (out ++ [((rp t m a b).1 : Int), ((rp t m a b).2 : Int)]) (by simp only [List.length_cons] at hq; omega) (by rw [List.append_assoc]; exact hl) (by rw [List.length_append, List.length_append, hout]; rfl) (fun x hx => hu x (by simp [hx]))
      rw [List.length_append, List.append_assoc, List.append_assoc] at h
      have h2 := seal_l1 ho m hm (ciI (p ++ a :: b :: q)) out (by omega) p.length (by omega) _ m 0 a b (by omega) ha hb h
      refine To.step ?_
      simp only [pestleref11_Seal.l0]
      have e : ((ciI (p ++ a :: b :: q)).length : Int) = ((p.length + (q.length + 2) : Nat) : Int) := by rw [ciI_len, List.length_append]; rfl
      rw [wrap_id (x := (p.length : Int) + 1) (by omega) (by omega), e, rd_at, show (p.length : Int) + 1 = ((p.length + 1 : Nat) : Int) by omega, rd_at1]
      exact To.pos (by omega) (To.pos (by omega) (To.pos (by omega) (To.pos (by omega) h2)))
theorem seal_to (l : List Nat) (hl : l.length ≤ 1000) (hev : l.length % 2 = 0) (hu : ∀ x ∈ l, x < 4294967296) :
    To (fun k => pestleref11_Seal.f k (ciI t) (m : Int) (ciI l)) (ciI (ciSl t m (l.length / 2) 0 l)) := by
  simp only [pestleref11_Seal.f]
  have h := seal_l0 ho m hm (l.length / 2) [] l [] (by omega) hl rfl hu
  have e := sl_is t m (l.length / 2) [] l (by omega)
  rw [List.nil_append] at e
  rw [show ([] : List Nat).length = 0 from rfl] at e
  rw [e]
  exact h
end
end Go.Proofs.Ytimgndceiibaeaa.Eks2
