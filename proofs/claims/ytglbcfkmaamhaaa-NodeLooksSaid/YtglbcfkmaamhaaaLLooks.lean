/- NodeLooks: the pure law. No condition. -/
import Derived.Test.YtglbcfkmaamhaaaLQNodex2
import Derived.Test.YtglbcfkmaamhaaaLQNodex3
import Derived.Test.YtglbcfkmaamhaaaLQNodex10
import Derived.Test.YtglbcfkmaamhaaaLQNodex11
import Derived.Test.YtglbcfkmaamhaaaLQNodex12
import Derived.Test.YtglbcfkmaamhaaaLOrd
set_option linter.unusedVariables false
set_option linter.unusedSimpArgs false
namespace Go.Proofs.Ytglbcfkmaamhaaa.PNode
open Go Go.RowKit Go.Proofs.YtglbcfkmaamhaaaW.PrintWords Go.Proofs.Ytglbcfkmaamhaaa.Ord Go.Proofs.Ytglbcfkmaamhaaa.Less
theorem w1 {i : Int} (h0 : 0 ≤ i) (h1 : i ≤ 100) : wrap64 (i + 1) = i + 1 := by unfold wrap64; omega
theorem w2 {i : Int} (h0 : 0 ≤ i) (h1 : i ≤ 100) : wrap64 (i - 1) = i - 1 := by unfold wrap64; omega
abbrev Ky (ks : List ByteArray) (i : Int) : T := (rdOf ByteArray.empty ks i).toList
theorem few_l (b : Bool) (v : Int) (ks : List ByteArray) (rs : List S33) (hn : ks.length ≤ 40) (d : Nat) : ∀ (k : Nat) (i : Int), 0 ≤ i → i ≤ ks.length → (ks.length : Int) - i = d → d < k → ∃ t, transomlaw17_Few.l0 k i b v ks rs = some t ∧ (t = 0 ∨ t = 1) := by
  induction d with
  | zero =>
    intro k i h0 h1 hd hk
    obtain ⟨k, rfl⟩ : ∃ m, k = m + 1 := ⟨k - 1, by omega⟩
    exact ⟨1, by simp only [transomlaw17_Few.l0]; rw [if_neg (by omega)], .inr rfl⟩
  | succ d ih =>
    intro k i h0 h1 hd hk
    obtain ⟨k, rfl⟩ : ∃ m, k = m + 1 := ⟨k - 1, by omega⟩
    simp only [transomlaw17_Few.l0]
    rw [if_pos (by omega), if_pos h0]
    by_cases hs : ((rdOf ByteArray.empty ks i).size : Int) > 500
    · exact ⟨0, by rw [if_pos hs], .inl rfl⟩
    · rw [if_neg hs, w1 h0 (by omega)]
      exact ih k (i + 1) (by omega) (by omega) (by omega) (by omega)
theorem few_f (b : Bool) (v : Int) (ks : List ByteArray) (rs : List S33) : ∃ t, transomlaw17_Few.f 100 b v ks rs = some t ∧ (t = 0 ∨ t = 1 ∧ ks.length ≤ 40 ∧ rs.length ≤ 40) := by
  unfold transomlaw17_Few.f
  by_cases h1 : (ks.length : Int) > 40
  · exact ⟨0, by rw [if_pos h1]; simp [transomlaw17_Few.j0], .inl rfl⟩
  · rw [if_neg h1]
    by_cases h2 : (rs.length : Int) > 40
    · exact ⟨0, by simp [transomlaw17_Few.j0, h2], .inl rfl⟩
    · obtain ⟨t, ht, h⟩ := few_l b v ks rs (by omega) ks.length 99 0 (by omega) (by omega) (by omega) (by omega)
      refine ⟨t, ?_, h.imp id (fun e => ⟨e, by omega, by omega⟩)⟩
      show transomlaw17_Few.j0 (99 + 1) _ _ _ _ _ = _
      simp only [transomlaw17_Few.j0]
      rw [if_neg (by simpa using h2)]
      exact ht
def RiseB (ks : List ByteArray) (i : Int) : Prop := ∀ j, i ≤ j → j < (ks.length : Int) → Op.bytesLess (Ky ks (j - 1)) (Ky ks j) = true
theorem riseB_step {ks : List ByteArray} {i : Int} (hi : i < (ks.length : Int)) : RiseB ks i ↔ Op.bytesLess (Ky ks (i - 1)) (Ky ks i) = true ∧ RiseB ks (i + 1) :=
  ⟨fun h => ⟨h i (Int.le_refl _) hi, fun j h1 h2 => h j (by omega) h2⟩, fun h j h1 h2 => by
    by_cases e : j = i
    · exact e ▸ h.1
    · exact h.2 j (by omega) h2⟩
theorem riseB_end {ks : List ByteArray} {i : Int} (hi : (ks.length : Int) ≤ i) : RiseB ks i := fun j h1 h2 => by omega
open Classical in
theorem rises_l (b : Bool) (v : Int) (ks : List ByteArray) (rs : List S33) (hn : ks.length ≤ 40) (d : Nat) : ∀ (k : Nat) (i : Int), 1 ≤ i → (ks.length : Int) - i ≤ d → i ≤ 100 → d < k → transomlaw17_rises.l0 k i b v ks rs = some (decide (RiseB ks i)) := by
  induction d with
  | zero =>
    intro k i h0 hd hi hk
    obtain ⟨k, rfl⟩ : ∃ m, k = m + 1 := ⟨k - 1, by omega⟩
    simp only [transomlaw17_rises.l0]
    rw [if_neg (by omega), decide_eq_true (riseB_end (by omega))]
  | succ d ih =>
    intro k i h0 hd hi hk
    obtain ⟨k, rfl⟩ : ∃ m, k = m + 1 := ⟨k - 1, by omega⟩
    simp only [transomlaw17_rises.l0]
    by_cases hl : i < (ks.length : Int)
    · rw [if_pos hl, if_pos (by omega), w2 (by omega) hi, if_pos (by omega), if_pos (by omega)]
      by_cases hs : Op.bytesLess (Ky ks (i - 1)) (Ky ks i) = true
      · rw [if_pos hs, w1 (by omega) hi, ih k (i + 1) (by omega) (by omega) (by omega) (by omega)]
        congr 1
        simp [riseB_step hl, hs]
      · rw [if_neg hs, decide_eq_false (fun h => hs ((riseB_step hl).1 h).1)]
    · rw [if_neg hl, decide_eq_true (riseB_end (by omega))]
open Classical in
theorem rises_f (b : Bool) (v : Int) (ks : List ByteArray) (rs : List S33) (hn : ks.length ≤ 40) (k : Nat) (hk : 41 ≤ k) : transomlaw17_rises.f k b v ks rs = some (decide (RiseB ks 1)) :=
  rises_l b v ks rs hn 40 k 1 (by omega) (by omega) (by omega) (by omega)
theorem riseB_rises {ks : List ByteArray} (h : RiseB ks 1) : Rises (Ky ks) ks.length := h
open Classical in
theorem rcheck_l (b : Bool) (v : Int) (ks : List ByteArray) (rs : List S33) (hn : ks.length ≤ 40) (d : Nat) : ∀ (k : Nat) (i : Int), 1 ≤ i → (ks.length : Int) - i ≤ d → i ≤ 100 → d < k → transomref17_Check.l0 k i b v ks rs = some (decide (RiseB ks i)) := by
  induction d with
  | zero =>
    intro k i h0 hd hi hk
    obtain ⟨k, rfl⟩ : ∃ m, k = m + 1 := ⟨k - 1, by omega⟩
    simp only [transomref17_Check.l0]
    rw [if_neg (by omega), decide_eq_true (riseB_end (by omega))]
  | succ d ih =>
    intro k i h0 hd hi hk
    obtain ⟨k, rfl⟩ : ∃ m, k = m + 1 := ⟨k - 1, by omega⟩
    simp only [transomref17_Check.l0]
    by_cases hl : i < (ks.length : Int)
    · rw [if_pos hl, if_pos (by omega), w2 (by omega) hi, if_pos (by omega), if_pos (by omega)]
      by_cases hs : Op.bytesLess (Ky ks (i - 1)) (Ky ks i) = true
      · rw [if_pos hs, w1 (by omega) hi, ih k (i + 1) (by omega) (by omega) (by omega) (by omega)]
        congr 1
        simp [riseB_step hl, hs]
      · rw [if_neg hs, decide_eq_false (fun h => hs ((riseB_step hl).1 h).1)]
    · rw [if_neg hl, decide_eq_true (riseB_end (by omega))]
def Shp (b : Bool) (ks : List ByteArray) (rs : List S33) : Bool := if b = true then (ks.length : Int) == (rs.length : Int) else decide ((rs.length : Int) > 0) && ((ks.length : Int) == (rs.length : Int) - 1)
theorem shape_f (b : Bool) (v : Int) (ks : List ByteArray) (rs : List S33) (hr : rs.length ≤ 40) : node_shape.f b v ks rs = some (Shp b ks rs) := by
  unfold node_shape.f Shp
  cases b
  · simp only [Bool.false_eq_true, if_false]
    by_cases h : (rs.length : Int) > 0
    · rw [if_pos h, w2 (by omega) (by omega), decide_eq_true h, Bool.true_and]
    · rw [if_neg h, decide_eq_false h, Bool.false_and]
  · simp
theorem Shape_f (b : Bool) (v : Int) (ks : List ByteArray) (rs : List S33) (hr : rs.length ≤ 40) : transomref17_Shape.f b v ks rs = some (Shp b ks rs) := by
  unfold transomref17_Shape.f Shp
  cases b
  · simp only [Bool.false_eq_true, if_false]
    by_cases h : (rs.length : Int) ≥ 1
    · rw [if_pos h, w2 (by omega) (by omega), decide_eq_true (show (rs.length : Int) > 0 by omega), Bool.true_and]
    · rw [if_neg h, decide_eq_false (show ¬ (rs.length : Int) > 0 by omega), Bool.false_and]
  · simp
open Classical in
theorem check_l (b : Bool) (v : Int) (ks : List ByteArray) (rs : List S33) (hn : ks.length ≤ 40) (hr : rs.length ≤ 40) (d : Nat) : ∀ (k : Nat) (i : Int), 1 ≤ i → (ks.length : Int) - i ≤ d → i ≤ 100 → d < k → node_Check.l0 k ks.length i b v ks rs = some (decide (RiseB ks i) && (Shp b ks rs && (decide ((rs.length : Int) ≤ 4) && decide (v ≥ 0)))) := by
  have hend : ((node_shape.f b v ks rs).bind fun t107 => (if t107 = true then (if (rs.length : Int) ≤ 4 then (some (decide (v ≥ 0))) else (some false)) else (some false))) = some (Shp b ks rs && (decide ((rs.length : Int) ≤ 4) && decide (v ≥ 0))) := by
    rw [shape_f b v ks rs hr]
    simp only [Option.bind_some]
    cases Shp b ks rs <;> by_cases h : (rs.length : Int) ≤ 4 <;> simp [h]
  induction d with
  | zero =>
    intro k i h0 hd hi hk
    obtain ⟨k, rfl⟩ : ∃ m, k = m + 1 := ⟨k - 1, by omega⟩
    simp only [node_Check.l0]
    rw [if_neg (by omega), hend, decide_eq_true (riseB_end (ks := ks) (i := i) (by omega)), Bool.true_and]
  | succ d ih =>
    intro k i h0 hd hi hk
    obtain ⟨k, rfl⟩ : ∃ m, k = m + 1 := ⟨k - 1, by omega⟩
    simp only [node_Check.l0]
    by_cases hl : i < (ks.length : Int)
    · rw [if_pos hl, if_pos (by omega), if_pos (by omega), if_pos hl, w2 (by omega) hi, if_pos (by omega), if_pos (by omega)]
      by_cases hs : Op.bytesLess (Ky ks (i - 1)) (Ky ks i) = true
      · rw [if_pos hs, w1 (by omega) hi, ih k (i + 1) (by omega) (by omega) (by omega) (by omega)]
        congr 2
        simp [riseB_step hl, hs]
      · rw [if_neg hs, decide_eq_false (fun h => hs ((riseB_step hl).1 h).1), Bool.false_and]
    · rw [if_neg hl, hend, decide_eq_true (riseB_end (ks := ks) (i := i) (by omega)), Bool.true_and]
open Classical in
theorem check_f (b : Bool) (v : Int) (ks : List ByteArray) (rs : List S33) (hn : ks.length ≤ 40) (hr : rs.length ≤ 40) (k : Nat) (hk : 50 ≤ k) : node_Check.f k b v ks rs = some (decide (RiseB ks 1) && (Shp b ks rs && (decide ((rs.length : Int) ≤ 4) && decide (v ≥ 0)))) := by
  unfold node_Check.f
  by_cases h0 : ks.length = 0
  · have := check_l b v ks rs hn hr 1 k 1 (by omega) (by omega) (by omega) (by omega)
    obtain ⟨k, rfl⟩ : ∃ m, k = m + 1 := ⟨k - 1, by omega⟩
    simp only [node_Check.l0] at this ⊢
    rw [if_neg (by omega)] at this ⊢
    exact this
  · obtain ⟨k, rfl⟩ : ∃ m, k = m + 1 := ⟨k - 1, by omega⟩
    rw [← check_l b v ks rs hn hr 41 k 1 (by omega) (by omega) (by omega) (by omega)]
    conv => lhs; simp only [node_Check.l0]
    rw [if_pos (by omega), if_neg (by omega), show wrap64 ((0 : Int) + 1) = 1 from w1 (by omega) (by omega)]
open Classical in
theorem rcheck_f (b : Bool) (v : Int) (ks : List ByteArray) (rs : List S33) (hn : ks.length ≤ 40) (hr : rs.length ≤ 40) (k : Nat) (hk : 50 ≤ k) : transomref17_Check.f k b v ks rs = some (decide (RiseB ks 1) && (Shp b ks rs && (decide ((rs.length : Int) ≤ 4) && decide (v ≥ 0)))) := by
  unfold transomref17_Check.f
  rw [Shape_f b v ks rs hr]
  simp only [Option.bind_some]
  obtain ⟨k, rfl⟩ : ∃ m, k = m + 1 := ⟨k - 1, by omega⟩
  cases Shp b ks rs
  · simp [transomref17_Check.j0]
  · by_cases h4 : (rs.length : Int) > 4
    · rw [if_pos rfl, if_pos h4]; simp [transomref17_Check.j0, show ¬ ((rs.length : Int) ≤ 4) by omega]
    · rw [if_pos rfl, if_neg h4]
      by_cases hv : v < 0
      · simp [transomref17_Check.j0, hv, show ¬ (0 ≤ v) by omega]
      · simp only [transomref17_Check.j0]
        rw [if_neg (by simpa using hv), rcheck_l b v ks rs hn 41 k 1 (by omega) (by omega) (by omega) (by omega)]
        simp [show (rs.length : Int) ≤ 4 by omega, show 0 ≤ v by omega]
theorem mid {a b : Int} (h0 : 0 ≤ a) (h1 : a ≤ b) (h2 : b ≤ 100) : wrap64 ((IntKind.u64.wrap (wrap64 (a + b))) / 2) = (a + b) / 2 := by
  have e1 : wrap64 (a + b) = a + b := by unfold wrap64; omega
  have e2 : IntKind.u64.wrap (a + b) = a + b := by simp [IntKind.wrap, IntKind.bits, IntKind.signed]; omega
  rw [e1, e2]
  unfold wrap64; omega
theorem Less_f (a b : ByteArray) : cmp_Less_string.f a b = some (Op.bytesLess a.toList b.toList) := by simp [cmp_Less_string.f, cmp_isNaN_string.f]
theorem search_l (ks : List ByteArray) (key : ByteArray) (hn : ks.length ≤ 40) {p : Int} (hp : Ord.Place (Ky ks) ks.length key.toList p) (d : Nat) : ∀ (k : Nat) (a b : Int), 0 ≤ a → a ≤ p → p ≤ b → b ≤ ks.length → b - a ≤ d → d < k → slices_BinarySearch_string_string.l0 k ks key ks.length a b = some (p, decide (p < ks.length) && (Ky ks p == key.toList)) := by
  induction d with
  | zero =>
    intro k a b h0 h1 h2 h3 hd hk
    obtain ⟨k, rfl⟩ : ∃ m, k = m + 1 := ⟨k - 1, by omega⟩
    obtain rfl : a = p := by omega
    simp only [slices_BinarySearch_string_string.l0]
    rw [if_neg (by omega)]
    by_cases hl : a < (ks.length : Int)
    · rw [if_pos hl, if_pos h0, if_pos hl]
      by_cases e : (rdOf ByteArray.empty ks a).toList = key.toList
      · rw [if_pos e]; simp [hl, Ky, e]
      · rw [if_neg e]; simp [slices_isNaN_string.f, hl, Ky, e]
    · rw [if_neg hl]; simp [hl]
  | succ d ih =>
    intro k a b h0 h1 h2 h3 hd hk
    obtain ⟨k, rfl⟩ : ∃ m, k = m + 1 := ⟨k - 1, by omega⟩
    by_cases hab : a < b
    · simp only [slices_BinarySearch_string_string.l0]
      rw [if_pos hab, mid h0 (by omega) (by omega), if_pos (by omega), if_pos (by omega), Less_f]
      simp only [Option.bind_some]
      by_cases hs : Op.bytesLess (rdOf ByteArray.empty ks ((a + b) / 2)).toList key.toList = true
      · rw [if_pos hs, w1 (by omega) (by omega)]
        have hlt : (a + b) / 2 < p := by
          by_cases h : (a + b) / 2 < p
          · exact h
          · exact absurd hs (hp.above _ (by omega) (by omega))
        exact ih k _ b (by omega) (by omega) h2 h3 (by omega) (by omega)
      · rw [if_neg hs]
        have hge : p ≤ (a + b) / 2 := by
          by_cases h : p ≤ (a + b) / 2
          · exact h
          · exact absurd (hp.below _ (by omega) (by omega)) hs
        exact ih k a _ h0 h1 (by omega) (by omega) (by omega) (by omega)
    · obtain rfl : a = p := by omega
      simp only [slices_BinarySearch_string_string.l0]
      rw [if_neg hab]
      by_cases hl : a < (ks.length : Int)
      · rw [if_pos hl, if_pos h0, if_pos hl]
        by_cases e : (rdOf ByteArray.empty ks a).toList = key.toList
        · rw [if_pos e]; simp [hl, Ky, e]
        · rw [if_neg e]; simp [slices_isNaN_string.f, hl, Ky, e]
      · rw [if_neg hl]; simp [hl]
theorem search_f (ks : List ByteArray) (key : ByteArray) (hn : ks.length ≤ 40) {p : Int} (hp : Ord.Place (Ky ks) ks.length key.toList p) (k : Nat) (hk : 41 ≤ k) : slices_BinarySearch_string_string.f k ks key = some (p, decide (p < ks.length) && (Ky ks p == key.toList)) :=
  search_l ks key hn hp 40 k 0 ks.length (by omega) hp.lo hp.hi (by omega) (by omega) (by omega)
theorem find_f (b : Bool) (v : Int) (ks : List ByteArray) (rs : List S33) (key : ByteArray) (hn : ks.length ≤ 40) (hr : rs.length ≤ 40) {p : Int} (hp : Ord.Place (Ky ks) ks.length key.toList p) (k : Nat) (hk : 41 ≤ k) :
    node_Find.f k b v ks rs key = some (if (b && Shp b ks rs) = true then (p, decide (p < ks.length) && (Ky ks p == key.toList)) else (0, false)) := by
  unfold node_Find.f node_leaf.f
  cases b
  · simp
  · rw [if_pos rfl, shape_f true v ks rs hr]
    simp only [Option.bind_some, Bool.true_and]
    cases Shp true ks rs
    · simp
    · rw [if_pos rfl, search_f ks key hn hp k hk]; simp
theorem rfind_l (b : Bool) (v : Int) (ks : List ByteArray) (rs : List S33) (key : ByteArray) (hn : ks.length ≤ 40) {p : Int} (hp : Ord.Place (Ky ks) ks.length key.toList p) (d : Nat) : ∀ (k : Nat) (i : Int), 0 ≤ i → i ≤ p → p - i ≤ d → d < k → transomref17_Find.l0 k key i b v ks rs = some (p, decide (p < ks.length) && (Ky ks p == key.toList)) := by
  have hend : ∀ k : Nat, transomref17_Find.l0 (k + 1) key p b v ks rs = some (p, decide (p < ks.length) && (Ky ks p == key.toList)) := by
    intro k
    simp only [transomref17_Find.l0]
    have h2 := hp.hi
    by_cases hl : p < (ks.length : Int)
    · rw [if_pos hl, if_pos hp.lo, if_neg (hp.above p (Int.le_refl _) hl)]; simp [hl, Ky]
    · rw [if_neg hl]; simp [hl]; omega
  induction d with
  | zero =>
    intro k i h0 h1 hd hk
    obtain ⟨k, rfl⟩ : ∃ m, k = m + 1 := ⟨k - 1, by omega⟩
    obtain rfl : i = p := by omega
    exact hend k
  | succ d ih =>
    intro k i h0 h1 hd hk
    obtain ⟨k, rfl⟩ : ∃ m, k = m + 1 := ⟨k - 1, by omega⟩
    by_cases hip : i < p
    · have h2 := hp.hi
      simp only [transomref17_Find.l0]
      rw [if_pos (by omega), if_pos h0, if_pos (hp.below i h0 hip), w1 h0 (by omega)]
      exact ih k (i + 1) (by omega) (by omega) (by omega) (by omega)
    · obtain rfl : i = p := by omega
      exact hend k
theorem rfind_f (b : Bool) (v : Int) (ks : List ByteArray) (rs : List S33) (key : ByteArray) (hn : ks.length ≤ 40) (hr : rs.length ≤ 40) {p : Int} (hp : Ord.Place (Ky ks) ks.length key.toList p) (k : Nat) (hk : 50 ≤ k) :
    transomref17_Find.f k b v ks rs key = some (if (b && Shp b ks rs) = true then (p, decide (p < ks.length) && (Ky ks p == key.toList)) else (0, false)) := by
  unfold transomref17_Find.f
  rw [Shape_f b v ks rs hr]
  simp only [Option.bind_some]
  obtain ⟨k, rfl⟩ : ∃ m, k = m + 1 := ⟨k - 1, by omega⟩
  have h2 := hp.hi
  cases hS : Shp b ks rs
  · simp [transomref17_Find.j0]
  · cases b
    · simp [transomref17_Find.j0]
    · simp only [transomref17_Find.j0]
      rw [if_pos trivial, if_neg (by simp), rfind_l true v ks rs key hn hp 40 k 0 (by omega) hp.lo (by omega) (by omega)]
      simp
theorem rchild_l (b : Bool) (v : Int) (ks : List ByteArray) (rs : List S33) (key : ByteArray) (hn : ks.length ≤ 40) {q : Int} (h1 : ∀ j, 0 ≤ j → j < q → ¬ Op.bytesLess key.toList (Ky ks j) = true) (h2 : ∀ j, q ≤ j → j < ks.length → Op.bytesLess key.toList (Ky ks j) = true) (hq : q ≤ ks.length) (h0q : 0 ≤ q) (d : Nat) :
    ∀ (k : Nat) (i c : Int), 0 ≤ i → i ≤ ks.length → c = (if i < q then i else q) → (ks.length : Int) - i ≤ d → d < k → transomref17_Child.l0 k key c i b v ks rs = some q := by
  induction d with
  | zero =>
    intro k i c h0 hi hc hd hk
    obtain ⟨k, rfl⟩ : ∃ m, k = m + 1 := ⟨k - 1, by omega⟩
    simp only [transomref17_Child.l0]
    rw [if_neg (by omega), hc, if_neg (by omega)]
  | succ d ih =>
    intro k i c h0 hi hc hd hk
    obtain ⟨k, rfl⟩ : ∃ m, k = m + 1 := ⟨k - 1, by omega⟩
    simp only [transomref17_Child.l0]
    by_cases hl : i < (ks.length : Int)
    · rw [if_pos hl, if_pos h0]
      by_cases hiq : i < q
      · rw [if_neg (h1 i h0 hiq), w1 h0 (by omega)]
        rw [if_pos hiq] at hc
        subst hc
        rw [w1 h0 (by omega)]
        refine ih k (c + 1) (c + 1) (by omega) (by omega) ?_ (by omega) (by omega)
        by_cases h : c + 1 < q
        · rw [if_pos h]
        · rw [if_neg h]; omega
      · rw [if_pos (h2 i (by omega) hl), w1 h0 (by omega)]
        rw [if_neg hiq] at hc
        subst hc
        exact ih k (i + 1) c (by omega) (by omega) (by rw [if_neg (by omega)]) (by omega) (by omega)
    · rw [if_neg hl, hc, if_neg (by omega)]
theorem child_f (b : Bool) (v : Int) (ks : List ByteArray) (rs : List S33) (key : ByteArray) (hn : ks.length ≤ 40) (hr : rs.length ≤ 40) {p : Int} (hp : Ord.Place (Ky ks) ks.length key.toList p) (k : Nat) (hk : 50 ≤ k) :
    node_Child.f k b v ks rs key = some (if (!b && Shp b ks rs) = true then (if p < ks.length ∧ Ky ks p = key.toList then p + 1 else p) else 0) := by
  unfold node_Child.f
  obtain ⟨k, rfl⟩ : ∃ m, k = m + 1 := ⟨k - 1, by omega⟩
  have h1 := hp.lo
  have h2 := hp.hi
  cases b
  · rw [if_neg (by simp), shape_f false v ks rs hr]
    simp only [Option.bind_some, node_Child.j0]
    cases Shp false ks rs
    · simp
    · rw [if_neg (by simp), search_f ks key hn hp k (by omega)]
      simp only [Option.bind_some]
      by_cases h : p < (ks.length : Int) ∧ Ky ks p = key.toList
      · rw [if_pos (by simp [h]), if_pos (by simp), if_pos h, w1 h1 (by omega)]
      · rw [if_neg (by simpa using h), if_pos (by simp), if_neg h]
  · rw [if_pos rfl]; simp [node_Child.j0]
theorem rchild_f (b : Bool) (v : Int) (ks : List ByteArray) (rs : List S33) (key : ByteArray) (hn : ks.length ≤ 40) (hr : rs.length ≤ 40) (h : RiseB ks 1) {p : Int} (hp : Ord.Place (Ky ks) ks.length key.toList p) (k : Nat) (hk : 50 ≤ k) :
    transomref17_Child.f k b v ks rs key = some (if (!b && Shp b ks rs) = true then (if p < ks.length ∧ Ky ks p = key.toList then p + 1 else p) else 0) := by
  unfold transomref17_Child.f
  rw [Shape_f b v ks rs hr]
  simp only [Option.bind_some]
  obtain ⟨k, rfl⟩ : ∃ m, k = m + 1 := ⟨k - 1, by omega⟩
  obtain ⟨a1, a2, a3⟩ := hp.upto (riseB_rises h) _ rfl
  have h1 := hp.lo
  cases hS : Shp b ks rs
  · simp [transomref17_Child.j0]
  · cases b
    · simp only [transomref17_Child.j0]
      have h0 : 0 ≤ (if p < (ks.length : Int) ∧ Ky ks p = key.toList then p + 1 else p) := by split <;> omega
      rw [if_pos trivial, if_neg (by simp), rchild_l false v ks rs key hn a1 a2 a3 h0 40 k 0 0 (by omega) (by omega) (by split <;> omega) (by omega) (by omega)]
      simp
    · simp [transomref17_Child.j0]
theorem looks (b : Bool) (v : Int) (ks : List ByteArray) (rs : List S33) (key : ByteArray) : transomlaw17_NodeLooks.f 100 b v ks rs key = some true := by
  unfold transomlaw17_NodeLooks.f
  obtain ⟨t, ht, h⟩ := few_f b v ks rs
  rw [ht]
  simp only [Option.bind_some]
  rcases h with rfl | ⟨rfl, hn, hr⟩
  · simp [transomlaw17_NodeLooks.j0, transomlaw17_awake.f]
  · rw [if_neg (by decide)]
    by_cases hk : (key.size : Int) > 500
    · simp [transomlaw17_NodeLooks.j0, transomlaw17_awake.f, hk]
    · rw [decide_eq_false hk]
      show transomlaw17_NodeLooks.j0 (99 + 1) _ _ _ _ _ _ = _
      simp only [transomlaw17_NodeLooks.j0]
      rw [if_neg (by decide), check_f b v ks rs hn hr 99 (by omega), rcheck_f b v ks rs hn hr 99 (by omega)]
      simp only [Option.bind_some, bne_self_eq_false, node_Size.f, transomref17_Size.f]
      rw [if_neg (by decide)]
      show transomlaw17_NodeLooks.j1 (98 + 1) _ _ _ _ _ _ = _
      simp only [transomlaw17_NodeLooks.j1]
      rw [if_neg (by simp), rises_f b v ks rs hn 98 (by omega)]
      simp only [Option.bind_some]
      by_cases hR : RiseB ks 1
      · obtain ⟨p, hp⟩ := place (by omega) (riseB_rises hR) key.toList
        rw [if_pos (by simpa using hR), find_f b v ks rs key hn hr hp 98 (by omega), rfind_f b v ks rs key hn hr hp 98 (by omega)]
        simp only [Option.bind_some]
        rw [if_pos trivial, if_pos (by simp), child_f b v ks rs key hn hr hp 98 (by omega), rchild_f b v ks rs key hn hr hR hp 98 (by omega)]
        simp [transomlaw17_awake.f]
      · rw [if_neg (by simpa using hR)]; simp [transomlaw17_awake.f]
end Go.Proofs.Ytglbcfkmaamhaaa.PNode
