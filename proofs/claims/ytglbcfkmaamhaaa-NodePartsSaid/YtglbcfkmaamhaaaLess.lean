/- Comparisons of strings, in one spelling: for walks over printed functions. No condition. -/
import Derived.WalkKit
import Derived.Laws.Strings
import Derived.Test.YtglbcfkmaamhaaaWWords
import Derived.Test.YtglbcfkmaamhaaaWMore
namespace Go.Proofs.Ytglbcfkmaamhaaa.Less
open Go
theorem less_irr : ∀ a : List UInt8, Op.bytesLess a a = false
  | [] => rfl
  | x :: a => by simp [Op.bytesLess, less_irr a]
theorem less_flip : ∀ a b : List UInt8, (Op.bytesLess a b || a == b) = !(Op.bytesLess b a)
  | [], [] => rfl
  | [], _ :: _ => rfl
  | _ :: _, [] => rfl
  | x :: a, y :: b => by
    have ih := less_flip a b
    rcases (show x < y ∨ x = y ∨ y < x by rcases Nat.lt_trichotomy x.toNat y.toNat with h | h | h; exact .inl (UInt8.lt_iff_toNat_lt.2 h); exact .inr (.inl (UInt8.toNat_inj.1 h)); exact .inr (.inr (UInt8.lt_iff_toNat_lt.2 h))) with h | h | h
    · have h1 : ¬ y < x := UInt8.lt_asymm h
      have h2 : y ≠ x := (UInt8.ne_of_lt h).symm
      simp [Op.bytesLess, h, h1, h2]
    · subst h
      simpa [Op.bytesLess, UInt8.lt_irrefl] using ih
    · have h1 : ¬ x < y := UInt8.lt_asymm h
      have h2 : x ≠ y := (UInt8.ne_of_lt h).symm
      simp [Op.bytesLess, h, h1, h2]
theorem str_leq (t : TypeId) (a b : ByteArray) : binOp .leq t (.string a) (.string b) = pure (.bool (!(Op.bytesLess b.toList a.toList))) := by
  have e : binOp .leq t (.string a) (.string b) = pure (.bool (Op.bytesLess a.toList b.toList || a.toList == b.toList)) := by simp [binOp, Op.stringOp]
  rw [e, less_flip]
theorem str_gtr (t : TypeId) (a b : ByteArray) : binOp .gtr t (.string a) (.string b) = pure (.bool (Op.bytesLess b.toList a.toList)) := by
  have e : binOp .gtr t (.string a) (.string b) = pure (.bool !(Op.bytesLess a.toList b.toList || a.toList == b.toList)) := by simp [binOp, Op.stringOp]
  rw [e, less_flip, Bool.not_not]
theorem str_geq (t : TypeId) (a b : ByteArray) : binOp .geq t (.string a) (.string b) = pure (.bool (!(Op.bytesLess a.toList b.toList))) := by simp [binOp, Op.stringOp]
theorem reads_len {α : Type} {R : α → List Value → Prop} {size : Nat} {w : World} {A : Option Addr} {m n : Nat} {ps : List α} (h : m = n) (hr : Go.Proofs.YtglbcfkmaamhaaaW.PrintWords.ReadsRow R size w A m ps) : Go.Proofs.YtglbcfkmaamhaaaW.PrintWords.ReadsRow R size w A n ps := h ▸ hr
open Go.RowKit Go.Proofs.YtglbcfkmaamhaaaW.PrintWords
/-- W is w, with blocks laid and draws made. -/
structure ExtT (w W : World) : Prop where
  b : Below w.heap.size w W
instance extR (w : World) : Nonempty (ExtT w w) := ⟨⟨Below.refl _ _⟩⟩
instance extA (w W : World) (o : Obj) [h : Nonempty (ExtT w W)] : Nonempty (ExtT w (W.alloc o)) := h.elim fun h => ⟨⟨below_alloc h.b o⟩⟩
instance extD (w W : World) [h : Nonempty (ExtT w W)] : Nonempty (ExtT w W.drew) := h.elim fun h => ⟨⟨below_drew1 h.b⟩⟩
instance extN (w W : World) (n : Nat) [h : Nonempty (ExtT w W)] : Nonempty (ExtT w (W.drewN n)) := h.elim fun h => ⟨⟨pw_below_drewN h.b n⟩⟩
theorem bx {w W : World} {g : Nat} {o : Obj} [e : Nonempty (ExtT w W)] (h : w.heap[g]? = some o) : W.heap[g]? = some o := e.elim fun e => blk_below h e.b
theorem vx {α : Type} {d : Kd α} {e base : Nat} {ok : Nat → Prop} {w W : World} {v : Value} {xs : List α} [x : Nonempty (ExtT w W)] (h : d.V e w base ok v xs) : d.V e W base ok v xs := x.elim fun x => Kd.V_below h x.b
theorem rx {α : Type} {d : Kd α} {e base : Nat} {ok : Nat → Prop} {w W : World} {v : Value} {xs : List α} [x : Nonempty (ExtT w W)] (h : d.R e w base ok v xs) : d.R e W base ok v xs := x.elim fun x => Kd.R_below h x.b
theorem cx {α : Type} {d : Kd α} {w W : World} {A : Option Addr} {n : Nat} {xs : List α} [x : Nonempty (ExtT w W)] (h : d.C w A n xs) : d.C W A n xs := x.elim fun x => Kd.C_below h x.b
theorem hx {w0 w W : World} [x : Nonempty (ExtT w W)] (h : Below w0.heap.size w0 w) : Below w0.heap.size w0 W := x.elim fun x => h.trans (x.b.mono h.size)
end Go.Proofs.Ytglbcfkmaamhaaa.Less
