/- Comparisons of strings, in one spelling: for walks over printed functions. No condition. -/
import Derived.WalkKit
import Derived.Laws.Strings
import Derived.Test.YtglbcfkmaamhaaaLWWords
namespace Go.Proofs.Ytglbcfkmaamhaaa.Less
open Go
theorem less_irr : ∀ a : List UInt8, Op.bytesLess a a = false
  | [] => rfl
  | x :: a => by simp [Op.bytesLess, less_irr a]
theorem less_flip : ∀ a b : List UInt8, (Op.bytesLess a b || a == b) = !(Op.bytesLess b a)
  | [], [] => rfl
  | [], _ :: _ => rfl
  | _ :: _, [] => rfl
  | x :: a, y :: b => by
    have ih := less_flip a b
    rcases (show x < y ∨ x = y ∨ y < x by rcases Nat.lt_trichotomy x.toNat y.toNat with h | h | h; exact .inl (UInt8.lt_iff_toNat_lt.2 h); exact .inr (.inl (UInt8.toNat_inj.1 h)); exact .inr (.inr (UInt8.lt_iff_toNat_lt.2 h))) with h | h | h
    · have h1 : ¬ y < x := UInt8.lt_asymm h
      have h2 : y ≠ x := (UInt8.ne_of_lt h).symm
      simp [Op.bytesLess, h, h1, h2]
    · subst h
      simpa [Op.bytesLess, UInt8.lt_irrefl] using ih
    · have h1 : ¬ x < y := UInt8.lt_asymm h
      have h2 : x ≠ y := (UInt8.ne_of_lt h).symm
      simp [Op.bytesLess, h, h1, h2]
theorem str_leq (t : TypeId) (a b : ByteArray) : binOp .leq t (.string a) (.string b) = pure (.bool (!(Op.bytesLess b.toList a.toList))) := by
  have e : binOp .leq t (.string a) (.string b) = pure (.bool (Op.bytesLess a.toList b.toList || a.toList == b.toList)) := by simp [binOp, Op.stringOp]
  rw [e, less_flip]
theorem str_gtr (t : TypeId) (a b : ByteArray) : binOp .gtr t (.string a) (.string b) = pure (.bool (Op.bytesLess b.toList a.toList)) := by
  have e : binOp .gtr t (.string a) (.string b) = pure (.bool !(Op.bytesLess a.toList b.toList || a.toList == b.toList)) := by simp [binOp, Op.stringOp]
  rw [e, less_flip, Bool.not_not]
theorem str_geq (t : TypeId) (a b : ByteArray) : binOp .geq t (.string a) (.string b) = pure (.bool (!(Op.bytesLess a.toList b.toList))) := by simp [binOp, Op.stringOp]
theorem reads_len {α : Type} {R : α → List Value → Prop} {size : Nat} {w : World} {A : Option Addr} {m n : Nat} {ps : List α} (h : m = n) (hr : Go.Proofs.YtglbcfkmaamhaaaW.PrintWords.ReadsRow R size w A m ps) : Go.Proofs.YtglbcfkmaamhaaaW.PrintWords.ReadsRow R size w A n ps := h ▸ hr
end Go.Proofs.Ytglbcfkmaamhaaa.Less

