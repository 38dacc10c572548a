/- transomlaw21: SetsOnce, its walk. No condition. -/
import Derived.Test.YtgecokldbkamlaaStAL
set_option linter.unusedVariables false
set_option linter.unusedSimpArgs false
namespace Go.Proofs.Ytgecokldbkamlaa.St
open Go Go.RowKit Go.MapKept Go.Proofs.YtgecokldbkamlaaW.PrintWords Go.Proofs.YtgecokldbkamlaaW.PrintLast Go.Proofs.YtgecokldbkamlaaW.PrintMore Go.Proofs.Ytgecokldbkamlaa.Hv Go.Proofs.Ytgecokldbkamlaa.Mk Go.Proofs.Ytgecokldbkamlaa.Ka
variable {w0 w w1 : World} {g : Nat} {s s' x x' : St} {L L' L1 : List Ob} {v : Value}
theorem of_map {α β : Type} (f : α → β) {l : List α} (h : (l.map f).Nodup) : l.Nodup := by
  rw [List.nodup_iff_pairwise_ne, List.pairwise_map] at h
  rw [List.nodup_iff_pairwise_ne]
  exact h.imp fun h e => h (by rw [e])
theorem ixs_nodup {l : List R3} (h : ((ixs 0 l).map (·.1)).Nodup) : (l.map (·.1)).Nodup := by
  rw [ixs_keys] at h
  have e : l.map (fun x => rkey x.1) = (l.map (·.1)).map rkey := by rw [List.map_map]; rfl
  rw [e] at h
  exact of_map rkey h
theorem Sts.keys (h : Sts w0 w g s L) : (s.reads.map (·.1)).Nodup ∧ (s.nodes.map (·.1)).Nodup ∧ (s.writes.map (·.1)).Nodup := by
  obtain ⟨mr, ms, mw, or, os, ow, vr, vn, A, B, h1, h2, h3, h4, h5, h6⟩ := h
  refine ⟨ixs_nodup h4.nodup, ixs_nodup h5.nodup, ?_⟩
  have := h6.nodup
  have e : (s.writes.map wpr).map (·.1) = (s.writes.map (·.1)).map Value.string := by rw [List.map_map, List.map_map]; rfl
  rw [e] at this
  exact of_map Value.string this
theorem key_ne {l : List R3} (h : (l.map (·.1)).Nodup) {i j : Nat} {x y : R3} (hi : l[i]? = some x) (hj : l[j]? = some y) (hne : i ≠ j) : x.1 ≠ y.1 := by
  intro e
  have h1 : (l.map (·.1))[i]? = some x.1 := by simp [hi]
  have h2 : (l.map (·.1))[j]? = some x.1 := by simp [hj, e]
  exact hne ((List.getElem?_inj (List.getElem?_eq_some_iff.1 h1).1 h).1 (h1.trans h2.symm))
theorem Sts.js (h : Sts w0 w g s L) : JS w0 w L g s ⟨[], [], []⟩ (.agg #[.slice none 0 0, .slice none 0 0, .slice none 0 0]) :=
  ⟨none, 0, none, 0, none, 0, [], rfl, ⟨Rw.nil _ _ _, Rw.nil _ _ _, Rw.nil _ _ _⟩, h⟩
theorem JS.sts (h : JS w0 w L g s x v) : Sts w0 w g s L := by
  obtain ⟨_, _, _, _, _, _, A, _, _, h1⟩ := h
  exact h1.frame fun H hH => hH.drop (List.Sublist.append_left (List.sublist_append_right A L) H)
theorem asc_at {l : List Wr} (h : Asc l) {i : Nat} {x y : Wr} (hx : l[i]? = some x) (hy : l[i + 1]? = some y) : bl x.1 y.1 = true := by
  have hi := (List.getElem?_eq_some_iff.1 hx).1
  have hj := (List.getElem?_eq_some_iff.1 hy).1
  have := (List.pairwise_iff_getElem.1 h) i (i + 1) hi hj (by omega)
  rw [List.getElem?_eq_getElem hi] at hx
  rw [List.getElem?_eq_getElem hj] at hy
  cases hx
  cases hy
  exact this
end Go.Proofs.Ytgecokldbkamlaa.St
