/- How arguments of a law are read as values of the kinds that the walks speak of: strings, slices, structs. -/
import Derived.Test.YtiicjhibnobhdaaWArr
import Derived.SizedLaws
import Derived.ChangeArms
import Derived.DataReads
import Derived.DataElems
import Derived.OpenShut
namespace Go.Proofs.Ytiicjhibnobhdaa.Opn
open Go.RowKit Go.Proofs.YtiicjhibnobhdaaW.PrintWords

/-- Whatever a value of type t is read as, it is of kind d, and ok. -/
structure Opens {α : Type} (P : Program) (t : TypeId) (d : Kd α) (ok : α → Prop) : Prop where
  get : ∀ {H : Type} {enc : TypeId × Value → H} {w : World} {base : Nat} {spare : Nat → Bool} {held : Bool} {fuel : Nat} {cs : List Value} {x : DataW H × List MemPlace},
    DataW.trod enc P w base spare held fuel t cs = some x → (∀ n ∈ x.1.weights P t, n ≤ reachBytes) → ∃ y, d.K w y cs ∧ ok y
theorem opens_int {P : Program} {t : TypeId} {k : IntKind} (ht : P.underlying t = some (.int k)) : Opens P t (Kd.int k) (fun n => (Lit.int k n).wf = true) :=
  ⟨fun h _ => by
    obtain ⟨n, rfl, _, hw⟩ := DataW.trod_int ht h
    exact ⟨n, rfl, hw⟩⟩
theorem opens_bool {P : Program} {t : TypeId} (ht : P.underlying t = some .bool) : Opens P t Kd.bool (fun _ => True) :=
  ⟨fun h _ => by
    obtain ⟨n, rfl, _⟩ := DataW.trod_bool ht h
    exact ⟨n, rfl, trivial⟩⟩
theorem opens_string {P : Program} {t : TypeId} (ht : P.underlying t = some .string) : Opens P t Kd.string (fun s => s.size ≤ 140737488351232) :=
  ⟨fun h hz => by
    obtain ⟨s, rfl, rfl, _⟩ := DataW.trod_string ht h
    refine ⟨s, rfl, ?_⟩
    have := hz s.data.toList.length (by simp [DataW.weights])
    rw [Array.length_toList] at this
    exact this⟩
theorem weights_all {H : Type} {P : Program} {e : TypeId} : ∀ {l : List (DataW H)} {d : DataW H}, d ∈ l → ∀ n ∈ d.weights P e, n ∈ DataW.weightsAll P e l
  | _ :: _, _, .head _, n, hn => by simp only [DataW.weightsAll, List.mem_append]; exact Or.inl hn
  | _ :: _, _, .tail _ h, n, hn => by simp only [DataW.weightsAll, List.mem_append]; exact Or.inr (weights_all h n hn)
/-- of so many facts one each: a list of the things -/
theorem pick_list {α : Type} {p : Nat → α → Prop} : ∀ (n : Nat), (∀ i, i < n → ∃ y, p i y) → ∃ ys : List α, ys.length = n ∧ ∀ i y, ys[i]? = some y → p i y
  | 0, _ => ⟨[], rfl, fun i y h => by simp at h⟩
  | n + 1, h => by
    obtain ⟨ys, hl, hp⟩ := pick_list n (fun i hi => h i (by omega))
    obtain ⟨y, hy⟩ := h n (by omega)
    refine ⟨ys ++ [y], by simp [hl], fun i z hz => ?_⟩
    by_cases hi : i < n
    · rw [List.getElem?_append_left (by omega)] at hz
      exact hp i z hz
    · rw [List.getElem?_append_right (by omega), hl] at hz
      by_cases hin : i = n
      · subst hin
        simp at hz
        subst hz
        exact hy
      · have : (i - n) ≥ 1 := by omega
        rw [List.getElem?_eq_none (by simp; omega)] at hz
        cases hz
theorem opens_slice {P : Program} {t e : TypeId} {α : Type} {d : Kd α} {ok : α → Prop} (ht : P.underlying t = some (.slice e)) (he : Opens P e d ok) (hc : P.cellsOf e = d.sz) :
    Opens P t (Kd.slice e d) (fun xs => (∀ x ∈ xs, ok x) ∧ xs.length * P.bytesOf e ≤ 140737488351232 ∧ xs.length ≤ 9223372036854775807) := by
  refine ⟨fun {H enc w base spare held fuel cs x} h hz => ?_⟩
  rcases DataW.trod_slice ht h with ⟨rfl, rfl⟩ | ⟨a, len, cap, elems, rest, n, rfl, rfl, rfl, hb, hl, hm, hlen, hel, _, _⟩
  · exact ⟨[], ⟨none, 0, rfl, Nat.le_refl _, rfl, by simp, fun hn => by simp at hn⟩, by simp, by simp, by simp⟩
  unfold maxLen at hm
  have hz1 := hz ((elems.map (·.1)).length * P.bytesOf e + (rest.map (·.1)).length * P.bytesOf e) (by simp [DataW.weights, ht, Nat.add_mul])
  have each : ∀ i, i < len → ∃ y, (∃ c, c.length = d.sz ∧ d.K w y c ∧ ∀ j u, c[j]? = some u → w.cell? (a.add (i * d.sz + j)) = some u) ∧ ok y := by
    intro i hi
    have hi' : i < elems.length := by omega
    have h1 := hel i hi
    rw [List.getElem?_eq_getElem hi', Option.bind_eq_some_iff] at h1
    obtain ⟨c, hc1, hc2⟩ := h1
    obtain ⟨y, hy, hok⟩ := he.get hc2 (fun n hn => hz n (by
      simp only [DataW.weights, ht, List.mem_cons, List.mem_append]
      exact Or.inr (Or.inl (weights_all (List.mem_map_of_mem (List.getElem_mem hi')) n hn))))
    obtain ⟨_, hcl, hcell⟩ := World.cells?_some hc1
    rw [hc] at hcl hcell
    refine ⟨y, ⟨c, hcl, hy, fun j u hj => ?_⟩, hok⟩
    have hjl : j < d.sz := by rw [← hcl]; exact (List.getElem?_eq_some_iff.1 hj).1
    have := hcell j hjl
    rw [hj] at this
    rw [← this]
    congr 1
    exact (Addr.add_add a _ _).symm
  obtain ⟨ys, hyl, hys⟩ := pick_list len each
  refine ⟨ys, ⟨some a, cap, by rw [hyl], by omega, rfl, by omega, fun _ => ⟨a, rfl, fun j p hj => (hys j p hj).1⟩⟩, ?_, ?_, by omega⟩
  · intro y hy
    obtain ⟨i, hi, rfl⟩ := List.mem_iff_getElem.1 hy
    exact (hys i _ (List.getElem?_eq_getElem hi)).2
  · have e1 : (elems.map (·.1)).length = ys.length := by rw [List.length_map, hlen, hyl]
    rw [e1] at hz1
    have hr : reachBytes = 140737488351232 := by decide
    omega
/-- The same of a struct's fields from a place on. -/
structure OpensL {α : Type} (P : Program) (fs : List Field) (off : Nat) (d : Kd α) (ok : α → Prop) : Prop where
  get : ∀ {H : Type} {enc : TypeId × Value → H} {w : World} {base : Nat} {spare : Nat → Bool} {held : Bool} {n : Nat} {cs : List Value} (xs : List (DataW H × List MemPlace)),
    cs.length = off + d.sz → xs.length = fs.length → (∀ (i : Nat) (f : Field), fs[i]? = some f → DataW.trod enc P w base spare held n f.type ((cs.drop f.offset).take (P.cellsOf f.type)) = xs[i]?) →
    (∀ m ∈ DataW.weightsEach P (fs.map (·.type)) (xs.map (·.1)), m ≤ reachBytes) → ∃ y, d.K w y (cs.drop off) ∧ ok y
theorem opensL_last {P : Program} {f : Field} {off : Nat} {α : Type} {d : Kd α} {ok : α → Prop} (ho : f.offset = off) (hc : P.cellsOf f.type = d.sz) (h : Opens P f.type d ok) : OpensL P [f] off d ok := by
  refine ⟨fun {H enc w base spare held n cs} xs hl hx hf hz => ?_⟩
  match xs, hx with
  | [x], _ =>
    have h0 := hf 0 f rfl
    rw [ho, hc, List.take_of_length_le (by rw [List.length_drop]; omega)] at h0
    exact h.get h0 (fun n hn => hz n (by simp only [List.map_cons, List.map_nil, DataW.weightsEach, List.mem_append]; exact Or.inl hn))
theorem opensL_cons {P : Program} {f : Field} {fs : List Field} {off : Nat} {α β : Type} {d : Kd α} {ok : α → Prop} {d' : Kd β} {ok' : β → Prop} (ho : f.offset = off) (hc : P.cellsOf f.type = d.sz) (h : Opens P f.type d ok) (h' : OpensL P fs (off + d.sz) d' ok') :
    OpensL P (f :: fs) off (Kd.pair d d') (fun x => ok x.1 ∧ ok' x.2) := by
  refine ⟨fun {H enc w base spare held n cs} xs hl hx hf hz => ?_⟩
  match xs, hx with
  | x :: xs, hx =>
    have hl' : cs.length = off + (d.sz + d'.sz) := hl
    have h0 := hf 0 f rfl
    rw [ho, hc] at h0
    obtain ⟨y, hy, hok⟩ := h.get h0 (fun n hn => hz n (by simp only [List.map_cons, DataW.weightsEach, List.mem_append]; exact Or.inl hn))
    obtain ⟨y', hy', hok'⟩ := h'.get xs (by omega) (by simpa using hx) (fun i g hg => hf (i + 1) g hg) (fun n hn => hz n (by simp only [List.map_cons, DataW.weightsEach, List.mem_append]; exact Or.inr hn))
    refine ⟨(y, y'), ⟨(cs.drop off).take d.sz, cs.drop (off + d.sz), ?_, hy, hy'⟩, hok, hok'⟩
    rw [← List.drop_drop, List.take_append_drop]
theorem opens_struct {P : Program} {t : TypeId} {fs : Array Field} {α β : Type} {d : Kd α} {ok : α → Prop} (ht : P.underlying t = some (.struct fs)) (hc : P.cellsOf t = d.sz) (h : OpensL P fs.toList 0 d ok) (f : β → α) (g : α → β) (hfg : ∀ x, f (g x) = x) :
    Opens P t (Kd.iso d f) (fun y => ok (f y)) := by
  refine ⟨fun {H enc w base spare held fuel cs x} hx hz => ?_⟩
  obtain ⟨xs, n, rfl, rfl, hl, hxl, hf⟩ := DataW.trod_struct ht hx
  obtain ⟨y, hy, hok⟩ := h.get xs (by rw [hl, hc, Nat.zero_add]) (by rw [hxl, Array.length_toList]) (fun i f hi => hf i f (by rwa [Array.getElem?_toList] at hi)) (fun m hm => hz m (by simpa [DataW.weights, ht] using hm))
  rw [List.drop_zero] at hy
  refine ⟨g y, ?_, ?_⟩
  · show d.K w (f (g y)) cs
    rw [hfg]; exact hy
  · show ok (f (g y))
    rw [hfg]; exact hok
theorem weights_each_all {H : Type} {P : Program} {e : TypeId} : ∀ (ts : List TypeId) (ds : List (DataW H)), (∀ t ∈ ts, t = e) → ∀ m ∈ DataW.weightsEach P ts ds, m ∈ DataW.weightsAll P e ds
  | [], ds, _, m, hm => by simp [DataW.weightsEach] at hm
  | _ :: _, [], _, m, hm => by simp [DataW.weightsEach] at hm
  | t :: ts, d :: ds, h, m, hm => by
    obtain rfl := h t List.mem_cons_self
    simp only [DataW.weightsEach, DataW.weightsAll, List.mem_append] at hm ⊢
    exact hm.imp id (weights_each_all ts ds (fun t ht => h t (List.mem_cons_of_mem _ ht)) m)
/-- An array, its elements as fields. -/
theorem opens_array {P : Program} {t e : TypeId} {n : Nat} (fs : List Field) {α β : Type} {d : Kd α} {ok : α → Prop} (ht : P.underlying t = some (.array n e)) (hc : P.cellsOf t = d.sz) (c : Nat) (hce : P.cellsOf e = c) (hl : fs.length = n) (hfs : ∀ p ∈ fs.zipIdx, p.1.type = e ∧ p.1.offset = p.2 * c) (h : OpensL P fs 0 d ok) (f : β → α) (g : α → β) (hfg : ∀ x, f (g x) = x) :
    Opens P t (Kd.iso d f) (fun y => ok (f y)) := by
  refine ⟨fun {H enc w base spare held fuel cs x} hx hz => ?_⟩
  obtain ⟨xs, m, rfl, rfl, hcs, hxl, hf⟩ := DataW.trod_array ht hx
  have each : ∀ i f, fs[i]? = some f → f.type = e ∧ f.offset = i * c := fun i f hi => hfs (f, i) (List.mk_mem_zipIdx_iff_getElem?.2 hi)
  obtain ⟨y, hy, hok⟩ := h.get xs (by rw [hcs, hc, Nat.zero_add]) (by rw [hxl, hl]) (fun i f hi => by
    obtain ⟨h1, h2⟩ := each i f hi
    rw [h1, h2, ← hce]
    exact hf i (by rw [← hl]; exact (List.getElem?_eq_some_iff.1 hi).1)) (fun m hm => hz m (by
    simp only [DataW.weights, ht]
    refine weights_each_all _ _ (fun t h => ?_) m hm
    obtain ⟨f, hf1, rfl⟩ := List.mem_map.1 h
    obtain ⟨i, hi, rfl⟩ := List.mem_iff_getElem.1 hf1
    exact (each i _ (List.getElem?_eq_getElem hi)).1))
  rw [List.drop_zero] at hy
  refine ⟨g y, ?_, ?_⟩
  · show d.K w (f (g y)) cs
    rw [hfg]; exact hy
  · show ok (f (g y))
    rw [hfg]; exact hok
theorem Opens.weak {α : Type} {P : Program} {t : TypeId} {d : Kd α} {ok ok' : α → Prop} (h : Opens P t d ok) (hk : ∀ x, ok x → ok' x) : Opens P t d ok' :=
  ⟨fun hx hz => by obtain ⟨y, a, b⟩ := h.get hx hz; exact ⟨y, a, hk y b⟩⟩
/-- A row's argument, out of the row's weights. -/
theorem Opens.arg {α : Type} {P : Program} {t : TypeId} {d : Kd α} {ok : α → Prop} (h : Opens P t d ok) {H : Type} {enc : TypeId × Value → H} {W : World} {base : Nat} {spare : Nat → Bool} {held : Bool} {v : Value} {x : DataW H} {ps : List MemPlace} {ts : List TypeId} {ds : List (DataW H)} {j : Nat}
    (hsz : (DataW.weightsEach P ts ds).all (· ≤ reachBytes) = true) (ht : ts[j]? = some t) (hd : ds[j]? = some x) (hx : DataW.Trod enc P W base spare held t v x ps) : ∃ y, d.K W y v.cells.toList ∧ ok y := by
  obtain ⟨fuel, hf⟩ := hx
  exact h.get hf (fun n hn => by have := List.all_eq_true.1 hsz n (DataW.weights_mem_each ht hd n hn); simpa using this)
end Go.Proofs.Ytiicjhibnobhdaa.Opn
