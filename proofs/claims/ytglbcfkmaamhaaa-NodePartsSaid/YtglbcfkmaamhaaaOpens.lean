/- What an argument's reading says of its cells, kind by kind: for the rows of laws. No condition. -/
import Derived.Test.YtglbcfkmaamhaaaWWords
import Derived.OpenShut
import Derived.ChangeArms
import Derived.Deep.Slices
import Derived.WideShapes
namespace Go.Proofs.Ytglbcfkmaamhaaa.Opens
open Go.RowKit Go.Proofs.YtglbcfkmaamhaaaW.PrintWords Go.WideShapes
set_option linter.unusedVariables false
set_option linter.unusedSimpArgs false

/-- Every reading of type t is of the kind d, and good. -/
def Opens {α : Type} (P : Program) (d : Kd α) (good : α → Prop) (t : TypeId) : Prop :=
  ∀ (H : Type) (enc : TypeId × Value → H) (w : World) (base : Nat) (spare : Nat → Bool) (held : Bool) (fuel : Nat) (cs : List Value) (x : DataW H × List MemPlace),
    DataW.trod enc P w base spare held fuel t cs = some x → ∃ v, d.K w v cs ∧ good v
theorem Opens.imp {α : Type} {P : Program} {d : Kd α} {g g' : α → Prop} {t : TypeId} (h : Opens P d g t) (hg : ∀ x, g x → g' x) : Opens P d g' t := fun H enc w base spare held fuel cs x hx => by
  obtain ⟨v, hv, h1⟩ := h H enc w base spare held fuel cs x hx
  exact ⟨v, hv, hg v h1⟩
theorem opens_int {P : Program} {k : IntKind} {t : TypeId} (ht : P.underlying t = some (.int k)) : Opens P (Kd.int k) (fun n => (Lit.int k n).wf = true) t := fun H enc w base spare held fuel cs x hx => by
  obtain ⟨n, rfl, _, hw⟩ := DataW.trod_int ht hx
  exact ⟨n, rfl, hw⟩
theorem opens_bool {P : Program} {t : TypeId} (ht : P.underlying t = some .bool) : Opens P Kd.bool (fun _ => True) t := fun H enc w base spare held fuel cs x hx => by
  obtain ⟨b, rfl, _⟩ := DataW.trod_bool ht hx
  exact ⟨b, rfl, trivial⟩
theorem opens_string {P : Program} {t : TypeId} (ht : P.underlying t = some .string) : Opens P Kd.string (fun s => s.size ≤ maxLen) t := fun H enc w base spare held fuel cs x hx => by
  obtain ⟨s, rfl, _, hs⟩ := DataW.trod_string ht hx
  exact ⟨s, rfl, hs⟩
theorem cells_list (w : World) (base : Nat) (a : Addr) (n : Nat) {cs : List Value} (h : w.cells? base a n = some cs) : cs.length = n ∧ ∀ i u, cs[i]? = some u → w.cell? (a.add i) = some u := by
  obtain ⟨_, hl, hc⟩ := World.cells?_some h
  refine ⟨hl, fun i u hu => ?_⟩
  have hi : i < cs.length := (List.getElem?_eq_some_iff.1 hu).1
  exact (hc i (by omega)).trans hu
theorem choose_nat {α : Type} {p : Nat → α → Prop} : ∀ m : Nat, (∀ i, i < m → ∃ x, p i x) → ∃ xs : List α, xs.length = m ∧ ∀ i x, xs[i]? = some x → p i x
  | 0, _ => ⟨[], rfl, fun i x h => by simp at h⟩
  | m + 1, h => by
    obtain ⟨xs, hl, hx⟩ := choose_nat m (fun i hi => h i (by omega))
    obtain ⟨y, hy⟩ := h m (by omega)
    refine ⟨xs ++ [y], by simp [hl], fun i x hix => ?_⟩
    rcases Nat.lt_or_ge i xs.length with h1 | h1
    · rw [List.getElem?_append_left h1] at hix
      exact hx i x hix
    · have hi : i = m := by
        have := (List.getElem?_eq_some_iff.1 hix).1
        rw [List.length_append, List.length_singleton] at this
        omega
      subst hi
      rw [← hl, List.getElem?_append_right (Nat.le_refl _), Nat.sub_self] at hix
      have : y = x := by simpa using hix
      subst this
      exact hy
theorem addr_add (a : Addr) (i j : Nat) : (a.add i).add j = a.add (i + j) := by
  unfold Addr.add
  by_cases hi : i = 0 <;> by_cases hj : j = 0 <;> simp [hi, hj, Nat.add_assoc]
theorem opens_slice {α : Type} {P : Program} {d : Kd α} {g : α → Prop} {t e : TypeId} {q : Nat} (ht : P.underlying t = some (.slice e)) (hc : P.cellsOf e = d.sz) (he : Opens P d g e) :
    Opens P (Kd.slice q d) (fun xs => xs.length ≤ maxLen ∧ ∀ x ∈ xs, g x) t := fun H enc w base spare held fuel cs x hx => by
  rcases Go.Deep.open_slice ht hx with ⟨rfl, _⟩ | ⟨a, len, cap, m, n, D, Pl, rfl, _, hl, hm, hmm, _, hel⟩
  · exact ⟨[], ⟨none, 0, rfl, Nat.le_refl _, ⟨rfl, by simp, fun h => absurd h (Nat.lt_irrefl 0)⟩⟩, by simp, by simp⟩
  · have hlm : len ≤ m := by rw [hmm]; split <;> omega
    obtain ⟨xs, hxl, hxs⟩ := choose_nat (p := fun i (z : α) => g z ∧ ∃ c : List Value, c.length = d.sz ∧ d.K w z c ∧ ∀ j u, c[j]? = some u → w.cell? (a.add (i * d.sz + j)) = some u) len (fun i hi => by
      obtain ⟨cs', h1, h2⟩ := hel i (by omega)
      rw [hc] at h1
      obtain ⟨hcl, hcc⟩ := cells_list w base _ _ h1
      obtain ⟨z, hz, hg⟩ := he H enc w base spare held n cs' _ h2
      exact ⟨z, hg, cs', hcl, hz, fun j u hu => by rw [← addr_add]; exact hcc j u hu⟩)
    have hm' : len ≤ 9223372036854775807 := by unfold maxLen at hm; omega
    refine ⟨xs, ⟨some a, cap, by rw [hxl], by omega, ⟨rfl, by omega, fun _ => ⟨a, rfl, fun j p hj => ?_⟩⟩⟩, by omega, fun z hz => ?_⟩
    · obtain ⟨_, c, h1, h2, h3⟩ := hxs j p hj
      exact ⟨c, h1, h2, h3⟩
    · obtain ⟨i, hi⟩ := List.mem_iff_getElem?.1 hz
      exact (hxs i z hi).1
/-- The fields from number i on, which begin at cell o. -/
def Fields {α : Type} (P : Program) (d : Kd α) (good : α → Prop) (fs : Array Field) (i o : Nat) : Prop :=
  ∀ (H : Type) (enc : TypeId × Value → H) (w : World) (base : Nat) (spare : Nat → Bool) (held : Bool) (n : Nat) (cs : List Value) (xs : List (DataW H × List MemPlace)), xs.length = fs.size → cs.length = o + d.sz →
    (∀ (i : Nat) (f : Field), fs[i]? = some f → DataW.trod enc P w base spare held n f.type ((cs.drop f.offset).take (P.cellsOf f.type)) = xs[i]?) → ∃ v, d.K w v (cs.drop o) ∧ good v
theorem fields_last {α : Type} {P : Program} {d : Kd α} {g : α → Prop} {fs : Array Field} {i o : Nat} {f : Field} (hf : fs[i]? = some f) (ho : f.offset = o) (hs : P.cellsOf f.type = d.sz) (h : Opens P d g f.type) : Fields P d g fs i o :=
  fun H enc w base spare held n cs xs hx hl hr => by
    have hi : i < xs.length := by rw [hx]; exact (Array.getElem?_eq_some_iff.1 hf).1
    have h1 := hr i f hf
    rw [List.getElem?_eq_getElem hi, ho, hs, List.take_of_length_le (by rw [List.length_drop]; omega)] at h1
    exact h H enc w base spare held n _ _ h1
theorem fields_cons {α β : Type} {P : Program} {a : Kd α} {b : Kd β} {g : α → Prop} {g' : β → Prop} {fs : Array Field} {i o : Nat} {f : Field} (hf : fs[i]? = some f) (ho : f.offset = o) (hs : P.cellsOf f.type = a.sz) (h : Opens P a g f.type)
    (hr : Fields P b g' fs (i + 1) (o + a.sz)) : Fields P (Kd.pair a b) (fun x => g x.1 ∧ g' x.2) fs i o :=
  fun H enc w base spare held n cs xs hx hl hrd => by
    have hi : i < xs.length := by rw [hx]; exact (Array.getElem?_eq_some_iff.1 hf).1
    have h1 := hrd i f hf
    rw [List.getElem?_eq_getElem hi, ho, hs] at h1
    obtain ⟨v, hv, hg⟩ := h H enc w base spare held n _ _ h1
    obtain ⟨u, hu, hg'⟩ := hr H enc w base spare held n cs xs hx (by rw [hl]; show o + (a.sz + b.sz) = _; omega) hrd
    refine ⟨(v, u), ⟨_, _, ?_, hv, hu⟩, hg, hg'⟩
    rw [← List.drop_drop, List.take_append_drop]
theorem opens_struct {α β : Type} {P : Program} {d : Kd α} {g : α → Prop} {t : TypeId} {fs : Array Field} (ht : P.underlying t = some (.struct fs)) (hs : P.cellsOf t = d.sz) (h : Fields P d g fs 0 0) (f : β → α) (inv : α → β) (hfi : ∀ y, f (inv y) = y) :
    Opens P (Kd.iso d f) (fun x => g (f x)) t := fun H enc w base spare held fuel cs x hx => by
  obtain ⟨xs, n, _, _, hl, hxl, hr⟩ := DataW.trod_struct ht hx
  obtain ⟨v, hv, hg⟩ := h H enc w base spare held n cs xs hxl (by rw [hl, hs]; omega) hr
  refine ⟨inv v, ?_, by show g (f (inv v)); rw [hfi]; exact hg⟩
  show d.K w (f (inv v)) cs
  rw [hfi]
  exact hv
/-- An array of n elements: as a list. -/
theorem opens_array {α : Type} {P : Program} {d : Kd α} {g : α → Prop} {t e : TypeId} {n : Nat} (ht : P.underlying t = some (.array n e)) (hc : P.cellsOf e = d.sz) (he : Opens P d g e)
    (H : Type) (enc : TypeId × Value → H) (w : World) (base : Nat) (spare : Nat → Bool) (held : Bool) (fuel : Nat) (cs : List Value) (x : DataW H × List MemPlace) (hx : DataW.trod enc P w base spare held fuel t cs = some x) :
    ∃ xs : List α, xs.length = n ∧ (∀ z ∈ xs, g z) ∧ ∀ i z, xs[i]? = some z → d.K w z ((cs.drop (i * d.sz)).take d.sz) := by
  obtain ⟨ys, m, _, _, _, hyl, hi⟩ := DataW.trod_array ht hx
  obtain ⟨xs, hxl, hxs⟩ := choose_nat (p := fun i (z : α) => g z ∧ d.K w z ((cs.drop (i * d.sz)).take d.sz)) n (fun i hin => by
    have h1 := hi i hin
    rw [hc, List.getElem?_eq_getElem (by omega)] at h1
    obtain ⟨z, hz, hg⟩ := he H enc w base spare held m _ _ h1
    exact ⟨z, hg, hz⟩)
  refine ⟨xs, hxl, fun z hz => ?_, fun i z hz => (hxs i z hz).2⟩
  obtain ⟨i, hi⟩ := List.mem_iff_getElem?.1 hz
  exact (hxs i z hi).1
/-- A slice that came in as an argument. -/
theorem arg_slice {α : Type} {P : Program} {d : Kd α} {g : α → Prop} {t e : TypeId} (ht : P.underlying t = some (.slice e)) (hc : P.cellsOf e = d.sz) (he : Opens P d g e)
    {H : Type} {enc : TypeId × Value → H} {w : World} {base b0 : Nat} {spare : Nat → Bool} {held : Bool} {r : Reach} {v : Value} {x : DataW H} {p : List MemPlace} (hv : Value.okWide P w r b0 t v) (h : DataW.Trod enc P w base spare held t v x p) :
    ∃ (A : Option Addr) (c : Nat) (xs : List α), v = .slice A xs.length c ∧ xs.length ≤ c ∧ d.C w A xs.length xs ∧ xs.length ≤ maxLen ∧ ∀ z ∈ xs, g z := by
  obtain ⟨a, len, cap, rfl⟩ := okWide_slice ht hv
  obtain ⟨fuel, hf⟩ := h
  obtain ⟨xs, ⟨A, c, hcs, hl, hC⟩, hm, hg⟩ := opens_slice (q := 0) ht hc he H enc w base spare held fuel _ _ hf
  simp [Value.cells] at hcs
  obtain ⟨rfl, rfl, rfl⟩ := hcs
  exact ⟨_, _, xs, rfl, hl, hC, hm, hg⟩
theorem okWide_array {P : Program} {w : World} {r : Reach} {b0 : Nat} {n : Nat} {t e : TypeId} {v : Value} (ht : P.underlying t = some (.array n e)) (h : Value.okWide P w r b0 t v) : ∃ cs, v = .agg cs ∧ cs.size = P.cellsOf t := by
  simp only [Value.okWide, ht] at h
  obtain ⟨cs, h1, h2, _⟩ := h
  exact ⟨cs, h1, h2⟩
/-- A struct that came in by value. -/
theorem arg_struct {α : Type} {P : Program} {d : Kd α} {g : α → Prop} {t : TypeId} {fs : Array Field} (ht : P.underlying t = some (.struct fs)) (he : Opens P d g t)
    {H : Type} {enc : TypeId × Value → H} {w : World} {base b0 : Nat} {spare : Nat → Bool} {held : Bool} {r : Reach} {v : Value} {x : DataW H} {p : List MemPlace} (hv : Value.okWide P w r b0 t v) (h : DataW.Trod enc P w base spare held t v x p) :
    ∃ (z : α) (cs : List Value), v = .agg cs.toArray ∧ d.K w z cs ∧ g z := by
  obtain ⟨cs, rfl, _⟩ := okWide_struct ht hv
  obtain ⟨fuel, hf⟩ := h
  obtain ⟨z, hz, hg⟩ := he H enc w base spare held fuel _ _ hf
  exact ⟨z, cs.toList, by simp, hz, hg⟩
/-- An array that came in by value. -/
theorem arg_array {α : Type} {P : Program} {d : Kd α} {g : α → Prop} {t e : TypeId} {n : Nat} (ht : P.underlying t = some (.array n e)) (hn : P.cellsOf t = n * d.sz) (hc : P.cellsOf e = d.sz) (he : Opens P d g e)
    {H : Type} {enc : TypeId × Value → H} {w : World} {base b0 : Nat} {spare : Nat → Bool} {held : Bool} {r : Reach} {v : Value} {x : DataW H} {p : List MemPlace} (hv : Value.okWide P w r b0 t v) (h : DataW.Trod enc P w base spare held t v x p) :
    ∃ (xs : List α) (cs : List Value), v = .agg cs.toArray ∧ cs.length = n * d.sz ∧ xs.length = n ∧ (∀ z ∈ xs, g z) ∧ ∀ i z, xs[i]? = some z → d.K w z ((cs.drop (i * d.sz)).take d.sz) := by
  obtain ⟨cs, rfl, hs⟩ := okWide_array ht hv
  obtain ⟨fuel, hf⟩ := h
  obtain ⟨xs, h1, h2, h3⟩ := opens_array ht hc he H enc w base spare held fuel _ _ hf
  exact ⟨xs, cs.toList, by simp, by simpa [hn] using hs, h1, h2, h3⟩
/-- Two scalars in an array. -/
theorem two_scalars {α : Type} {enc : α → Value} {h1 : ∀ x, (enc x).oneCell' = true} {g : α → Prop} {w : World} {xs : List α} {cs : List Value} (hcl : cs.length = 2 * (Kd.scalar enc h1).sz) (hxl : xs.length = 2) (hg : ∀ z ∈ xs, g z)
    (hK : ∀ i z, xs[i]? = some z → (Kd.scalar enc h1).K w z ((cs.drop (i * (Kd.scalar enc h1).sz)).take (Kd.scalar enc h1).sz)) : ∃ a b, xs = [a, b] ∧ cs = [enc a, enc b] ∧ g a ∧ g b := by
  match xs, hxl with
  | [a, b], _ =>
    have e0 : (cs.drop (0 * 1)).take 1 = [enc a] := hK 0 a rfl
    have e1 : (cs.drop (1 * 1)).take 1 = [enc b] := hK 1 b rfl
    have hl : cs.length = 2 := hcl
    match cs, hl with
    | [c, d], _ =>
      simp at e0 e1
      exact ⟨a, b, rfl, by rw [e0, e1], hg a (by simp), hg b (by simp)⟩
end Go.Proofs.Ytglbcfkmaamhaaa.Opens
