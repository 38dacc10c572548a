/- Keys' places: what the program's functions and the reference's give. No condition. -/
import Derived.Test.YtglbcfkmaamhaaaBQNodex2
import Derived.Test.YtglbcfkmaamhaaaBQNodex3
import Derived.Test.YtglbcfkmaamhaaaBQNodex10
import Derived.Test.YtglbcfkmaamhaaaBQNodex11
import Derived.Test.YtglbcfkmaamhaaaBOrd
set_option linter.unusedVariables false
set_option linter.unusedSimpArgs false
namespace Go.Proofs.Ytglbcfkmaamhaaa.PNode
open Go Go.RowKit Go.Proofs.YtglbcfkmaamhaaaW.PrintWords Go.Proofs.Ytglbcfkmaamhaaa.Ord Go.Proofs.Ytglbcfkmaamhaaa.Less
theorem w1 {i : Int} (h0 : 0 ≤ i) (h1 : i ≤ 100) : wrap64 (i + 1) = i + 1 := by unfold wrap64; omega
theorem w2 {i : Int} (h0 : 0 ≤ i) (h1 : i ≤ 100) : wrap64 (i - 1) = i - 1 := by unfold wrap64; omega
abbrev Ky (ks : List ByteArray) (i : Int) : T := (rdOf ByteArray.empty ks i).toList
theorem few_l (b : Bool) (v : Int) (ks : List ByteArray) (rs : List S33) (hn : ks.length ≤ 40) (d : Nat) : ∀ (k : Nat) (i : Int), 0 ≤ i → i ≤ ks.length → (ks.length : Int) - i = d → d < k → ∃ t, transomlaw17_Few.l0 k i b v ks rs = some t ∧ (t = 0 ∨ t = 1) := by
  induction d with
  | zero =>
    intro k i h0 h1 hd hk
    obtain ⟨k, rfl⟩ : ∃ m, k = m + 1 := ⟨k - 1, by omega⟩
    exact ⟨1, by simp only [transomlaw17_Few.l0]; rw [if_neg (by omega)], .inr rfl⟩
  | succ d ih =>
    intro k i h0 h1 hd hk
    obtain ⟨k, rfl⟩ : ∃ m, k = m + 1 := ⟨k - 1, by omega⟩
    simp only [transomlaw17_Few.l0]
    rw [if_pos (by omega), if_pos h0]
    by_cases hs : ((rdOf ByteArray.empty ks i).size : Int) > 500
    · exact ⟨0, by rw [if_pos hs], .inl rfl⟩
    · rw [if_neg hs, w1 h0 (by omega)]
      exact ih k (i + 1) (by omega) (by omega) (by omega) (by omega)
theorem few_f (b : Bool) (v : Int) (ks : List ByteArray) (rs : List S33) : ∃ t, transomlaw17_Few.f 100 b v ks rs = some t ∧ (t = 0 ∨ t = 1 ∧ ks.length ≤ 40 ∧ rs.length ≤ 40) := by
  unfold transomlaw17_Few.f
  by_cases h1 : (ks.length : Int) > 40
  · exact ⟨0, by rw [if_pos h1]; simp [transomlaw17_Few.j0], .inl rfl⟩
  · rw [if_neg h1]
    by_cases h2 : (rs.length : Int) > 40
    · exact ⟨0, by simp [transomlaw17_Few.j0, h2], .inl rfl⟩
    · obtain ⟨t, ht, h⟩ := few_l b v ks rs (by omega) ks.length 99 0 (by omega) (by omega) (by omega) (by omega)
      refine ⟨t, ?_, h.imp id (fun e => ⟨e, by omega, by omega⟩)⟩
      show transomlaw17_Few.j0 (99 + 1) _ _ _ _ _ = _
      simp only [transomlaw17_Few.j0]
      rw [if_neg (by simpa using h2)]
      exact ht
def RiseB (ks : List ByteArray) (i : Int) : Prop := ∀ j, i ≤ j → j < (ks.length : Int) → Op.bytesLess (Ky ks (j - 1)) (Ky ks j) = true
theorem riseB_step {ks : List ByteArray} {i : Int} (hi : i < (ks.length : Int)) : RiseB ks i ↔ Op.bytesLess (Ky ks (i - 1)) (Ky ks i) = true ∧ RiseB ks (i + 1) :=
  ⟨fun h => ⟨h i (Int.le_refl _) hi, fun j h1 h2 => h j (by omega) h2⟩, fun h j h1 h2 => by
    by_cases e : j = i
    · exact e ▸ h.1
    · exact h.2 j (by omega) h2⟩
theorem riseB_end {ks : List ByteArray} {i : Int} (hi : (ks.length : Int) ≤ i) : RiseB ks i := fun j h1 h2 => by omega
open Classical in
theorem rises_l (b : Bool) (v : Int) (ks : List ByteArray) (rs : List S33) (hn : ks.length ≤ 40) (d : Nat) : ∀ (k : Nat) (i : Int), 1 ≤ i → (ks.length : Int) - i ≤ d → i ≤ 100 → d < k → transomlaw17_rises.l0 k i b v ks rs = some (decide (RiseB ks i)) := by
  induction d with
  | zero =>
    intro k i h0 hd hi hk
    obtain ⟨k, rfl⟩ : ∃ m, k = m + 1 := ⟨k - 1, by omega⟩
    simp only [transomlaw17_rises.l0]
    rw [if_neg (by omega), decide_eq_true (riseB_end (by omega))]
  | succ d ih =>
    intro k i h0 hd hi hk
    obtain ⟨k, rfl⟩ : ∃ m, k = m + 1 := ⟨k - 1, by omega⟩
    simp only [transomlaw17_rises.l0]
    by_cases hl : i < (ks.length : Int)
    · rw [if_pos hl, if_pos (by omega), w2 (by omega) hi, if_pos (by omega), if_pos (by omega)]
      by_cases hs : Op.bytesLess (Ky ks (i - 1)) (Ky ks i) = true
      · rw [if_pos hs, w1 (by omega) hi, ih k (i + 1) (by omega) (by omega) (by omega) (by omega)]
        congr 1
        simp [riseB_step hl, hs]
      · rw [if_neg hs, decide_eq_false (fun h => hs ((riseB_step hl).1 h).1)]
    · rw [if_neg hl, decide_eq_true (riseB_end (by omega))]
open Classical in
theorem rises_f (b : Bool) (v : Int) (ks : List ByteArray) (rs : List S33) (hn : ks.length ≤ 40) (k : Nat) (hk : 41 ≤ k) : transomlaw17_rises.f k b v ks rs = some (decide (RiseB ks 1)) :=
  rises_l b v ks rs hn 40 k 1 (by omega) (by omega) (by omega) (by omega)
theorem riseB_rises {ks : List ByteArray} (h : RiseB ks 1) : Rises (Ky ks) ks.length := h
def Shp (b : Bool) (ks : List ByteArray) (rs : List S33) : Bool := if b = true then (ks.length : Int) == (rs.length : Int) else decide ((rs.length : Int) > 0) && ((ks.length : Int) == (rs.length : Int) - 1)
theorem shape_f (b : Bool) (v : Int) (ks : List ByteArray) (rs : List S33) (hr : rs.length ≤ 40) : node_shape.f b v ks rs = some (Shp b ks rs) := by
  unfold node_shape.f Shp
  cases b
  · simp only [Bool.false_eq_true, if_false]
    by_cases h : (rs.length : Int) > 0
    · rw [if_pos h, w2 (by omega) (by omega), decide_eq_true h, Bool.true_and]
    · rw [if_neg h, decide_eq_false h, Bool.false_and]
  · simp
theorem Shape_f (b : Bool) (v : Int) (ks : List ByteArray) (rs : List S33) (hr : rs.length ≤ 40) : transomref17_Shape.f b v ks rs = some (Shp b ks rs) := by
  unfold transomref17_Shape.f Shp
  cases b
  · simp only [Bool.false_eq_true, if_false]
    by_cases h : (rs.length : Int) ≥ 1
    · rw [if_pos h, w2 (by omega) (by omega), decide_eq_true (show (rs.length : Int) > 0 by omega), Bool.true_and]
    · rw [if_neg h, decide_eq_false (show ¬ (rs.length : Int) > 0 by omega), Bool.false_and]
  · simp
theorem mid {a b : Int} (h0 : 0 ≤ a) (h1 : a ≤ b) (h2 : b ≤ 100) : wrap64 ((IntKind.u64.wrap (wrap64 (a + b))) / 2) = (a + b) / 2 := by
  have e1 : wrap64 (a + b) = a + b := by unfold wrap64; omega
  have e2 : IntKind.u64.wrap (a + b) = a + b := by simp [IntKind.wrap, IntKind.bits, IntKind.signed]; omega
  rw [e1, e2]
  unfold wrap64; omega
end Go.Proofs.Ytglbcfkmaamhaaa.PNode

