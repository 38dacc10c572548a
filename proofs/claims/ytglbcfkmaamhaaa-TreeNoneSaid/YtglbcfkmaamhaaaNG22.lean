/- A text of this claim: parts Opens. No condition. -/
import Derived.Test.YtglbcfkmaamhaaaNG0
import Derived.OpenShut
import Derived.ChangeArms
import Derived.Deep.Slices
import Derived.WideShapes
namespace Go.Proofs.Ytglbcfkmaamhaaa.Opens
open Go.RowKit Go.Proofs.YtglbcfkmaamhaaaW.PrintWords Go.WideShapes
set_option linter.unusedVariables false
set_option linter.unusedSimpArgs false
/-- Every reading of type t is of the kind d, and good. -/
def Opens {α : Type} (P : Program) (d : Kd α) (good : α → Prop) (t : TypeId) : Prop :=
 ∀ (H : Type) (enc : TypeId × Value → H) (w : World) (base : Nat) (spare : Nat → Bool) (held : Bool) (fuel : Nat) (cs : List Value) (x : DataW H × List MemPlace),
  DataW.trod enc P w base spare held fuel t cs = some x → ∃ v, d.K w v cs ∧ good v
theorem Opens.imp {α : Type} {P : Program} {d : Kd α} {g g' : α → Prop} {t : TypeId} (h : Opens P d g t) (hg : ∀ x, g x → g' x) : Opens P d g' t := fun H enc w base spare held fuel cs x hx => by
 obtain ⟨v, hv, h1⟩ := h H enc w base spare held fuel cs x hx
 exact ⟨v, hv, hg v h1⟩
theorem opens_int {P : Program} {k : IntKind} {t : TypeId} (ht : P.underlying t = some (.int k)) : Opens P (Kd.int k) (fun n => (Lit.int k n).wf = true) t := fun H enc w base spare held fuel cs x hx => by
 obtain ⟨n, rfl, _, hw⟩ := DataW.trod_int ht hx
 exact ⟨n, rfl, hw⟩
theorem opens_string {P : Program} {t : TypeId} (ht : P.underlying t = some .string) : Opens P Kd.string (fun s => s.size ≤ maxLen) t := fun H enc w base spare held fuel cs x hx => by
 obtain ⟨s, rfl, _, hs⟩ := DataW.trod_string ht hx
 exact ⟨s, rfl, hs⟩
/-- The fields from number i on, which begin at cell o. -/
def Fields {α : Type} (P : Program) (d : Kd α) (good : α → Prop) (fs : Array Field) (i o : Nat) : Prop :=
 ∀ (H : Type) (enc : TypeId × Value → H) (w : World) (base : Nat) (spare : Nat → Bool) (held : Bool) (n : Nat) (cs : List Value) (xs : List (DataW H × List MemPlace)), xs.length = fs.size → cs.length = o + d.sz →
  (∀ (i : Nat) (f : Field), fs[i]? = some f → DataW.trod enc P w base spare held n f.type ((cs.drop f.offset).take (P.cellsOf f.type)) = xs[i]?) → ∃ v, d.K w v (cs.drop o) ∧ good v
theorem fields_last {α : Type} {P : Program} {d : Kd α} {g : α → Prop} {fs : Array Field} {i o : Nat} {f : Field} (hf : fs[i]? = some f) (ho : f.offset = o) (hs : P.cellsOf f.type = d.sz) (h : Opens P d g f.type) : Fields P d g fs i o :=
 fun H enc w base spare held n cs xs hx hl hr => by
  have hi : i < xs.length := by rw [hx]; exact (Array.getElem?_eq_some_iff.1 hf).1
  have h1 := hr i f hf
  rw [List.getElem?_eq_getElem hi, ho, hs, List.take_of_length_le (by rw [List.length_drop]; omega)] at h1
  exact h H enc w base spare held n _ _ h1
theorem fields_cons {α β : Type} {P : Program} {a : Kd α} {b : Kd β} {g : α → Prop} {g' : β → Prop} {fs : Array Field} {i o : Nat} {f : Field} (hf : fs[i]? = some f) (ho : f.offset = o) (hs : P.cellsOf f.type = a.sz) (h : Opens P a g f.type)
  (hr : Fields P b g' fs (i + 1) (o + a.sz)) : Fields P (Kd.pair a b) (fun x => g x.1 ∧ g' x.2) fs i o :=
 fun H enc w base spare held n cs xs hx hl hrd => by
  have hi : i < xs.length := by rw [hx]; exact (Array.getElem?_eq_some_iff.1 hf).1
  have h1 := hrd i f hf
  rw [List.getElem?_eq_getElem hi, ho, hs] at h1
  obtain ⟨v, hv, hg⟩ := h H enc w base spare held n _ _ h1
  obtain ⟨u, hu, hg'⟩ := hr H enc w base spare held n cs xs hx (by rw [hl]; show o + (a.sz + b.sz) = _; omega) hrd
  refine ⟨(v, u), ⟨_, _, ?_, hv, hu⟩, hg, hg'⟩
  rw [← List.drop_drop, List.take_append_drop]
theorem opens_struct {α β : Type} {P : Program} {d : Kd α} {g : α → Prop} {t : TypeId} {fs : Array Field} (ht : P.underlying t = some (.struct fs)) (hs : P.cellsOf t = d.sz) (h : Fields P d g fs 0 0) (f : β → α) (inv : α → β) (hfi : ∀ y, f (inv y) = y) :
  Opens P (Kd.iso d f) (fun x => g (f x)) t := fun H enc w base spare held fuel cs x hx => by
 obtain ⟨xs, n, _, _, hl, hxl, hr⟩ := DataW.trod_struct ht hx
 obtain ⟨v, hv, hg⟩ := h H enc w base spare held n cs xs hxl (by rw [hl, hs]; omega) hr
 refine ⟨inv v, ?_, by show g (f (inv v)); rw [hfi]; exact hg⟩
 show d.K w (f (inv v)) cs
 rw [hfi]
 exact hv
/-- A struct that came in by value. -/
theorem arg_struct {α : Type} {P : Program} {d : Kd α} {g : α → Prop} {t : TypeId} {fs : Array Field} (ht : P.underlying t = some (.struct fs)) (he : Opens P d g t)
  {H : Type} {enc : TypeId × Value → H} {w : World} {base b0 : Nat} {spare : Nat → Bool} {held : Bool} {r : Reach} {v : Value} {x : DataW H} {p : List MemPlace} (hv : Value.okWide P w r b0 t v) (h : DataW.Trod enc P w base spare held t v x p) :
  ∃ (z : α) (cs : List Value), v = .agg cs.toArray ∧ d.K w z cs ∧ g z := by
 obtain ⟨cs, rfl, _⟩ := okWide_struct ht hv
 obtain ⟨fuel, hf⟩ := h
 obtain ⟨z, hz, hg⟩ := he H enc w base spare held fuel _ _ hf
 exact ⟨z, cs.toList, by simp, hz, hg⟩
end Go.Proofs.Ytglbcfkmaamhaaa.Opens
