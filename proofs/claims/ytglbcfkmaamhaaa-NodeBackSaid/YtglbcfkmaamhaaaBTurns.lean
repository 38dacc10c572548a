/- NodeTurns: what the program's functions give, the reference's give. No condition. -/
import Derived.Test.YtglbcfkmaamhaaaBLooks
import Derived.Test.YtglbcfkmaamhaaaBQNodex4
import Derived.Test.YtglbcfkmaamhaaaBQNodex5
import Derived.Test.YtglbcfkmaamhaaaBQNodex6
import Derived.Test.YtglbcfkmaamhaaaBQNodex7
import Derived.Test.YtglbcfkmaamhaaaBQNodex13
import Derived.Test.YtglbcfkmaamhaaaBQNodex14
set_option linter.unusedVariables false
set_option linter.unusedSimpArgs false
namespace Go.Proofs.Ytglbcfkmaamhaaa.PNode
open Go Go.RowKit Go.Proofs.YtglbcfkmaamhaaaW.PrintWords Go.Proofs.Ytglbcfkmaamhaaa.Ord Go.Proofs.Ytglbcfkmaamhaaa.Less
theorem w0 {i : Int} (h0 : 0 ≤ i) (h1 : i ≤ 100) : wrap64 (i + 0) = i := by unfold wrap64; omega
theorem shp_len {b : Bool} {ks : List ByteArray} {rs : List S33} (h : Shp b ks rs = true) : (b = true → ks.length = rs.length) ∧ (b = false → ks.length + 1 = rs.length) := by
  unfold Shp at h
  cases b <;> simp at h <;> simp <;> omega
theorem texts_l (ks : List ByteArray) (hn : ks.length ≤ 90) (d : Nat) : ∀ (k : Nat) (i : Int), 0 ≤ i → i ≤ ks.length → (ks.length : Int) - i = d → d < k → transomref01_Texts.l0 k ks ks i = some true := by
  induction d with
  | zero =>
    intro k i h0 h1 hd hk
    obtain ⟨k, rfl⟩ : ∃ m, k = m + 1 := ⟨k - 1, by omega⟩
    simp only [transomref01_Texts.l0]; rw [if_neg (by omega)]
  | succ d ih =>
    intro k i h0 h1 hd hk
    obtain ⟨k, rfl⟩ : ∃ m, k = m + 1 := ⟨k - 1, by omega⟩
    simp only [transomref01_Texts.l0]
    rw [if_pos (by omega), if_pos h0, if_pos (by omega), if_pos trivial, w1 h0 (by omega)]
    exact ih k (i + 1) (by omega) (by omega) (by omega) (by omega)
theorem refs_l (rs : List S33) (hn : rs.length ≤ 90) (d : Nat) : ∀ (k : Nat) (i : Int), 0 ≤ i → i ≤ rs.length → (rs.length : Int) - i = d → d < k → transomref16_Refs.l0 k rs rs i = some true := by
  induction d with
  | zero =>
    intro k i h0 h1 hd hk
    obtain ⟨k, rfl⟩ : ∃ m, k = m + 1 := ⟨k - 1, by omega⟩
    simp only [transomref16_Refs.l0]; rw [if_neg (by omega)]
  | succ d ih =>
    intro k i h0 h1 hd hk
    obtain ⟨k, rfl⟩ : ∃ m, k = m + 1 := ⟨k - 1, by omega⟩
    simp only [transomref16_Refs.l0]
    rw [if_pos (by omega), if_pos h0, if_pos (by omega), if_neg (by simp), w1 h0 (by omega)]
    exact ih k (i + 1) (by omega) (by omega) (by omega) (by omega)
/-- A node is the same as itself. -/
theorem same_self (b : Bool) (v : Int) (ks : List ByteArray) (rs : List S33) (hn : ks.length ≤ 90) (hr : rs.length ≤ 90) : transomref17_Same.f 100 b v ks rs b v ks rs = some true := by
  unfold transomref17_Same.f transomref01_Texts.f transomref16_Refs.f
  rw [if_pos (by simp), if_pos rfl, if_pos rfl, texts_l ks hn ks.length 100 0 (by omega) (by omega) (by omega) (by omega)]
  simp only [Option.bind_some, if_true]
  rw [refs_l rs hr rs.length 100 0 (by omega) (by omega) (by omega) (by omega)]
  rfl
end Go.Proofs.Ytglbcfkmaamhaaa.PNode

