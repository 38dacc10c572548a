/- The order of strings; a key's place among keys that rise. No condition. -/
import Derived.Test.YtglbcfkmaamhaaaBLess
namespace Go.Proofs.Ytglbcfkmaamhaaa.Ord
open Go Go.Proofs.Ytglbcfkmaamhaaa.Less
set_option linter.unusedVariables false
abbrev T := List UInt8
theorem less_trans : ∀ a b c : T, Op.bytesLess a b = true → Op.bytesLess b c = true → Op.bytesLess a c = true
  | _, [], _, h, _ => by simp [Op.bytesLess] at h
  | _, _ :: _, [], _, h => by simp [Op.bytesLess] at h
  | [], _ :: _, _ :: _, _, _ => rfl
  | x :: a, y :: b, z :: c, h1, h2 => by
    simp only [Op.bytesLess, Bool.or_eq_true, Bool.and_eq_true, decide_eq_true_eq, beq_iff_eq] at h1 h2 ⊢
    rcases h1 with h1 | ⟨rfl, h1⟩
    · rcases h2 with h2 | ⟨rfl, h2⟩
      · exact .inl (UInt8.lt_trans h1 h2)
      · exact .inl h1
    · rcases h2 with h2 | ⟨rfl, h2⟩
      · exact .inl h2
      · exact .inr ⟨rfl, less_trans a b c h1 h2⟩
theorem less_asymm {a b : T} (h : Op.bytesLess a b = true) : Op.bytesLess b a = false := by
  have := less_flip a b
  rw [h] at this
  simpa using this.symm
theorem less_tri {a b : T} (h1 : ¬ Op.bytesLess a b = true) (h2 : a ≠ b) : Op.bytesLess b a = true := by
  have := less_flip a b
  rw [Bool.eq_false_iff.mpr h1, show (a == b) = false by simpa using h2] at this
  simpa using this.symm
theorem le_lt {a b c : T} (h1 : ¬ Op.bytesLess b a = true) (h2 : Op.bytesLess b c = true) : Op.bytesLess a c = true := by
  by_cases e : b = a
  · exact e ▸ h2
  · exact less_trans a b c (less_tri h1 e) h2
def Rises (K : Int → T) (n : Int) : Prop := ∀ j, 1 ≤ j → j < n → Op.bytesLess (K (j - 1)) (K j) = true
theorem Rises.lt {K : Int → T} {n : Int} (h : Rises K n) (i : Int) (h0 : 0 ≤ i) (d : Nat) : i + d + 1 < n → Op.bytesLess (K i) (K (i + d + 1)) = true := by
  induction d with
  | zero => intro hd; have := h (i + 1) (by omega) (by simpa using hd); rw [show i + 1 - 1 = i by omega] at this; simpa using this
  | succ d ih =>
    intro hd
    have h1 := ih (by omega)
    have h2 := h (i + (d + 1 : Nat) + 1) (by omega) hd
    rw [show i + ((d + 1 : Nat) : Int) + 1 - 1 = i + d + 1 by omega] at h2
    exact less_trans _ _ _ h1 h2
theorem Rises.lt' {K : Int → T} {n : Int} (h : Rises K n) {i j : Int} (h0 : 0 ≤ i) (h1 : i < j) (h2 : j < n) : Op.bytesLess (K i) (K j) = true := by
  have := h.lt i h0 (j - i - 1).toNat
  rw [show i + ((j - i - 1).toNat : Int) + 1 = j by omega] at this
  exact this h2
/-- A key's place. -/
structure Place (K : Int → T) (n : Int) (key : T) (p : Int) : Prop where
  lo : 0 ≤ p
  hi : p ≤ n
  below : ∀ i, 0 ≤ i → i < p → Op.bytesLess (K i) key = true
  above : ∀ i, p ≤ i → i < n → ¬ Op.bytesLess (K i) key = true
theorem place {K : Int → T} {n : Int} (hn : 0 ≤ n) (h : Rises K n) (key : T) : ∃ p, Place K n key p := by
  have key' : ∀ m : Nat, (m : Int) ≤ n → ∃ p, Place K m key p := by
    intro m
    induction m with
    | zero => intro _; exact ⟨0, Int.le_refl _, Int.le_refl _, fun i h0 h1 => by omega, fun i h0 h1 => by omega⟩
    | succ m ih =>
      intro hm
      obtain ⟨p, hp⟩ := ih (by omega)
      by_cases hP : Op.bytesLess (K m) key = true
      · refine ⟨m + 1, by omega, by omega, fun i h0 h1 => ?_, fun i h0 h1 => by omega⟩
        by_cases e : i = m
        · exact e ▸ hP
        · exact less_trans _ _ _ (h.lt' h0 (show i < (m : Int) by omega) (by omega)) hP
      · refine ⟨p, hp.lo, by have := hp.hi; omega, hp.below, fun i h0 h1 => ?_⟩
        by_cases e : i = m
        · exact e ▸ hP
        · exact hp.above i h0 (by omega)
  obtain ⟨p, hp⟩ := key' n.toNat (by omega)
  rw [show ((n.toNat : Nat) : Int) = n by omega] at hp
  exact ⟨p, hp⟩
/-- Behind a key's place: whether the key is there. -/
theorem Place.upto {K : Int → T} {n : Int} {key : T} {p : Int} (hp : Place K n key p) (h : Rises K n) (q : Int) (hq : q = if p < n ∧ K p = key then p + 1 else p) :
    (∀ j, 0 ≤ j → j < q → ¬ Op.bytesLess key (K j) = true) ∧ (∀ j, q ≤ j → j < n → Op.bytesLess key (K j) = true) ∧ q ≤ n := by
  have h1 := hp.lo
  have h2 := hp.hi
  by_cases he : p < n ∧ K p = key
  · rw [if_pos he] at hq
    subst hq
    refine ⟨fun j h0 hj hl => ?_, fun j h0 hj => ?_, by omega⟩
    · by_cases e : j = p
      · subst e; rw [he.2, less_irr] at hl; cases hl
      · rw [less_asymm (hp.below j h0 (by omega))] at hl; cases hl
    · have := h.lt' h1 (show p < j by omega) hj
      rwa [he.2] at this
  · rw [if_neg he] at hq
    subst hq
    refine ⟨fun j h0 hj hl => ?_, fun j h0 hj => ?_, by omega⟩
    · rw [less_asymm (hp.below j h0 hj)] at hl; cases hl
    · have hpn : q < n := by omega
      have h3 := less_tri (hp.above q (Int.le_refl _) hpn) (fun e => he ⟨hpn, e⟩)
      by_cases e : j = q
      · exact e ▸ h3
      · exact less_trans _ _ _ h3 (h.lt' h1 (by omega) hj)
theorem Place.uniq {K : Int → T} {n : Int} {key : T} {p q : Int} (hp : Place K n key p) (hq : Place K n key q) : p = q := by
  have h1 := hp.lo; have h2 := hp.hi; have h3 := hq.lo; have h4 := hq.hi
  by_cases h : p < q
  · exact absurd (hq.below p h1 h) (hp.above p (Int.le_refl _) (by omega))
  · by_cases h' : q < p
    · exact absurd (hp.below q h3 h') (hq.above q (Int.le_refl _) (by omega))
    · omega
end Go.Proofs.Ytglbcfkmaamhaaa.Ord
