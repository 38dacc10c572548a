/- NodeTurns: what the program's functions give, the reference's give. No condition. -/
import Derived.Test.YtglbcfkmaamhaaaTLooks
import Derived.Test.YtglbcfkmaamhaaaTQNodex4
import Derived.Test.YtglbcfkmaamhaaaTQNodex5
import Derived.Test.YtglbcfkmaamhaaaTQNodex6
import Derived.Test.YtglbcfkmaamhaaaTQNodex7
import Derived.Test.YtglbcfkmaamhaaaTQNodex13
import Derived.Test.YtglbcfkmaamhaaaTQNodex14
set_option linter.unusedVariables false
set_option linter.unusedSimpArgs false
namespace Go.Proofs.Ytglbcfkmaamhaaa.PNode
open Go Go.RowKit Go.Proofs.YtglbcfkmaamhaaaW.PrintWords Go.Proofs.Ytglbcfkmaamhaaa.Ord Go.Proofs.Ytglbcfkmaamhaaa.Less
theorem w0 {i : Int} (h0 : 0 ≤ i) (h1 : i ≤ 100) : wrap64 (i + 0) = i := by unfold wrap64; omega
def Ins {α : Type} (xs : List α) (p : Int) (x : α) : List α := xs.take p.toNat ++ ([x] ++ xs.drop p.toNat)
def Del {α : Type} (xs : List α) (p : Int) : List α := xs.take p.toNat ++ xs.drop (p + 1).toNat
def Rep {α : Type} (xs : List α) (p : Int) (x : α) : List α := xs.take p.toNat ++ ([x] ++ xs.drop (p + 1).toNat)
theorem ins_len {α : Type} (xs : List α) (p : Int) (x : α) (h0 : 0 ≤ p) (h1 : p ≤ xs.length) : (Ins xs p x).length = xs.length + 1 := by simp [Ins]; omega
theorem del_len {α : Type} (xs : List α) (p : Int) (h0 : 0 ≤ p) (h1 : p < xs.length) : (Del xs p).length = xs.length - 1 := by simp [Del]; omega
theorem rep_len {α : Type} (xs : List α) (p : Int) (x : α) (h0 : 0 ≤ p) (h1 : p < xs.length) : (Rep xs p x).length = xs.length := by simp [Rep]; omega
theorem rep_set {α : Type} (xs : List α) (p : Int) (x : α) (h0 : 0 ≤ p) (h1 : p < xs.length) : xs.set p.toNat x = Rep xs p x := by
  rw [List.set_eq_take_append_cons_drop, if_pos (by omega)]
  simp [Rep, show (p + 1).toNat = p.toNat + 1 by omega]
theorem sp_ins (ks : List ByteArray) (hn : ks.length ≤ 40) (p : Int) (h0 : 0 ≤ p) (h1 : p ≤ ks.length) (x : ByteArray) : node_spliced_string.f ks p 0 [x] = some (Ins ks p x) := by
  unfold node_spliced_string.f node_copied_string.f
  have e : p.toNat ≤ ks.length := by omega
  rw [if_pos h0, if_pos h1, w0 h0 (by omega)]
  simp only [List.length_nil, List.length_take, List.length_drop, List.length_append, List.length_cons, List.nil_append, Option.bind_some]
  rw [if_pos (by omega), if_pos (by omega)]
  simp only [Option.bind_some]
  rw [if_pos h0, if_pos h1, if_pos (by simp; omega)]
  simp [Ins]
theorem sp_del (ks : List ByteArray) (hn : ks.length ≤ 40) (p : Int) (h0 : 0 ≤ p) (h1 : p < ks.length) : node_spliced_string.f ks p 1 [] = some (Del ks p) := by
  unfold node_spliced_string.f node_copied_string.f
  rw [if_pos h0, if_pos (by omega), w1 h0 (by omega)]
  simp only [List.length_nil, List.length_take, List.length_drop, List.length_append, List.length_cons, List.nil_append, Option.bind_some]
  rw [if_pos (by omega), if_pos (by omega)]
  simp only [Option.bind_some]
  rw [if_pos (by omega), if_pos (by omega), if_pos (by simp; omega)]
  simp [Del]
theorem rf_ins (ks : List S33) (hn : ks.length ≤ 40) (p : Int) (h0 : 0 ≤ p) (h1 : p ≤ ks.length) (x : S33) : api_Ref_96.f ks p 0 [x] = some (Ins ks p x) := by
  unfold api_Ref_96.f api_Ref_106.f
  rw [if_pos h0, if_pos h1, w0 h0 (by omega)]
  simp only [List.length_nil, List.length_take, List.length_drop, List.length_append, List.length_cons, List.nil_append, Option.bind_some]
  rw [if_pos (by omega), if_pos (by omega)]
  simp only [Option.bind_some]
  rw [if_pos h0, if_pos h1, if_pos (by simp; omega)]
  simp [Ins]
theorem rf_del (ks : List S33) (hn : ks.length ≤ 40) (p : Int) (h0 : 0 ≤ p) (h1 : p < ks.length) : api_Ref_96.f ks p 1 [] = some (Del ks p) := by
  unfold api_Ref_96.f api_Ref_106.f
  rw [if_pos h0, if_pos (by omega), w1 h0 (by omega)]
  simp only [List.length_nil, List.length_take, List.length_drop, List.length_append, List.length_cons, List.nil_append, Option.bind_some]
  rw [if_pos (by omega), if_pos (by omega)]
  simp only [Option.bind_some]
  rw [if_pos (by omega), if_pos (by omega), if_pos (by simp; omega)]
  simp [Del]
theorem rf_rep (ks : List S33) (hn : ks.length ≤ 40) (p : Int) (h0 : 0 ≤ p) (h1 : p < ks.length) (x : S33) : api_Ref_96.f ks p 1 [x] = some (Rep ks p x) := by
  unfold api_Ref_96.f api_Ref_106.f
  rw [if_pos h0, if_pos (by omega), w1 h0 (by omega)]
  simp only [List.length_nil, List.length_take, List.length_drop, List.length_append, List.length_cons, List.nil_append, Option.bind_some]
  rw [if_pos (by omega), if_pos (by omega)]
  simp only [Option.bind_some]
  rw [if_pos (by omega), if_pos (by omega), if_pos (by simp; omega)]
  simp [Rep]
theorem tx_ins (ks : List ByteArray) (hn : ks.length ≤ 40) (p : Int) (h0 : 0 ≤ p) (h1 : p ≤ ks.length) (x : ByteArray) : transomref17_texts.f ks p x = some (Ins ks p x) := by
  unfold transomref17_texts.f
  rw [if_pos h0, if_pos h1]
  simp only [List.length_nil, List.length_take, List.length_drop, List.length_append, List.length_cons, List.nil_append, Option.bind_some]
  rw [if_pos (by omega), if_pos (by omega)]
  rw [if_pos (by simp; omega)]
  simp [Ins]
theorem rr_ins (ks : List S33) (hn : ks.length ≤ 40) (p : Int) (h0 : 0 ≤ p) (h1 : p ≤ ks.length) (x y : Int) : transomref17_refs.f ks p x y = some (Ins ks p ⟨x, y⟩) := by
  unfold transomref17_refs.f
  rw [if_pos h0, if_pos h1]
  simp only [List.length_nil, List.length_take, List.length_drop, List.length_append, List.length_cons, List.nil_append, Option.bind_some]
  rw [if_pos (by omega), if_pos (by omega)]
  rw [if_pos (by simp; omega)]
  simp [Ins]
theorem tx_del (ks : List ByteArray) (hn : ks.length ≤ 40) (p : Int) (h0 : 0 ≤ p) (h1 : p < ks.length) : transomref17_lessText.f ks p = some (Del ks p) := by
  unfold transomref17_lessText.f
  rw [if_pos h0, if_pos (by omega), w1 h0 (by omega)]
  simp only [List.length_nil, List.length_take, List.length_drop, List.length_append, List.length_cons, List.nil_append, Option.bind_some]
  rw [if_pos (by omega), if_pos (by omega), if_pos (by omega), if_pos (by omega)]
  simp [Del]
theorem rr_del (ks : List S33) (hn : ks.length ≤ 40) (p : Int) (h0 : 0 ≤ p) (h1 : p < ks.length) : transomref17_lessRef.f ks p = some (Del ks p) := by
  unfold transomref17_lessRef.f
  rw [if_pos h0, if_pos (by omega), w1 h0 (by omega)]
  simp only [List.length_nil, List.length_take, List.length_drop, List.length_append, List.length_cons, List.nil_append, Option.bind_some]
  rw [if_pos (by omega), if_pos (by omega), if_pos (by omega), if_pos (by omega)]
  simp [Del]
theorem shp_len {b : Bool} {ks : List ByteArray} {rs : List S33} (h : Shp b ks rs = true) : (b = true → ks.length = rs.length) ∧ (b = false → ks.length + 1 = rs.length) := by
  unfold Shp at h
  cases b <;> simp at h <;> simp <;> omega
/-- Put. -/
theorem put_both (b : Bool) (v : Int) (ks : List ByteArray) (rs : List S33) (key : ByteArray) (x y : Int) (hn : ks.length ≤ 40) (hr : rs.length ≤ 40) (hR : RiseB ks 1) :
    ∃ b1 v1 ks1 rs1 fl, node_Put.f 100 b v ks rs key x y = some (b1, v1, ks1, rs1, fl) ∧ transomref17_Put.f 100 b v ks rs key x y = some (b1, v1, ks1, rs1, fl) ∧ ks1.length ≤ 41 ∧ rs1.length ≤ 41 := by
  obtain ⟨p, hp⟩ := place (by omega) (riseB_rises hR) key.toList
  have h1 := hp.lo
  have h2 := hp.hi
  unfold node_Put.f transomref17_Put.f node_leaf.f
  rw [Shape_f b v ks rs hr]
  simp only [Option.bind_some]
  cases hS : Shp b ks rs
  · refine ⟨b, v, ks, rs, false, ?_, ?_, by omega, by omega⟩
    · cases b
      · simp
      · rw [if_pos rfl, shape_f true v ks rs hr, hS]; simp
    · simp [transomref17_Put.j0]
  · cases b
    · refine ⟨false, v, ks, rs, false, by simp, by simp [transomref17_Put.j0], by omega, by omega⟩
    · have hl := (shp_len hS).1 rfl
      have E1 : node_Find.f 100 true v ks rs key = some (p, decide (p < (ks.length : Int)) && (Ky ks p == key.toList)) := by rw [find_f true v ks rs key hn hr hp 100 (by omega), hS]; rfl
      have E2 : transomref17_Find.f 99 true v ks rs key = some (p, decide (p < (ks.length : Int)) && (Ky ks p == key.toList)) := by rw [rfind_f true v ks rs key hn hr hp 99 (by omega), hS]; rfl
      show ∃ b1 v1 ks1 rs1 fl, _ ∧ (if true = true then transomref17_Put.j0 (99 + 1) key (!true) true v ks rs x y else _) = _ ∧ _
      simp only [transomref17_Put.j0, Bool.not_true, Bool.false_eq_true, if_false, if_true]
      rw [shape_f true v ks rs hr, hS, E1, E2]
      simp only [Option.bind_some, if_true]
      by_cases hi : (decide (p < (ks.length : Int)) && Ky ks p == key.toList) = true
      · have hlt : p < (ks.length : Int) := by simp at hi; exact hi.1
        rw [if_pos hi, if_pos hi, rf_rep rs hr p h1 (by omega)]
        refine ⟨true, wrap64 (v + 1), ks, Rep rs p ⟨x, y⟩, false, by simp, ?_, by omega, by rw [rep_len _ _ _ h1 (by omega)]; omega⟩
        simp only [List.length_nil, List.nil_append, Option.bind_some]
        rw [if_pos (by omega), if_pos h1, if_pos (by omega), rep_set _ _ _ h1 (by omega)]
      · rw [if_neg hi, if_neg hi, sp_ins ks hn p h1 h2, rf_ins rs hr p h1 (by omega), tx_ins ks hn p h1 h2, rr_ins rs hr p h1 (by omega)]
        exact ⟨true, wrap64 (v + 1), Ins ks p key, Ins rs p ⟨x, y⟩, true, by simp, by simp, by rw [ins_len _ _ _ h1 h2]; omega, by rw [ins_len _ _ _ h1 (by omega)]; omega⟩
/-- Delete. -/
theorem delete_both (b : Bool) (v : Int) (ks : List ByteArray) (rs : List S33) (key : ByteArray) (hn : ks.length ≤ 40) (hr : rs.length ≤ 40) (hR : RiseB ks 1) :
    ∃ b1 v1 ks1 rs1 x y fl, node_Delete.f 100 b v ks rs key = some (b1, v1, ks1, rs1, x, y, fl) ∧ transomref17_Delete.f 100 b v ks rs key = some (b1, v1, ks1, rs1, x, y, fl) ∧ ks1.length ≤ 41 ∧ rs1.length ≤ 41 := by
  obtain ⟨p, hp⟩ := place (by omega) (riseB_rises hR) key.toList
  have h1 := hp.lo
  have h2 := hp.hi
  unfold node_Delete.f transomref17_Delete.f
  rw [find_f b v ks rs key hn hr hp 100 (by omega), rfind_f b v ks rs key hn hr hp 100 (by omega)]
  simp only [Option.bind_some]
  by_cases hS : (b && Shp b ks rs) = true
  · simp only [if_pos hS]
    have hS' : b = true ∧ Shp b ks rs = true := by simpa using hS
    have hl := (shp_len hS'.2).1 hS'.1
    by_cases hi : (decide (p < (ks.length : Int)) && Ky ks p == key.toList) = true
    · have hlt : p < (ks.length : Int) := by simp at hi; exact hi.1
      rw [if_pos hi, if_pos h1, if_pos (by omega), if_pos hi, if_pos h1, if_pos (by omega), sp_del ks hn p h1 hlt, rf_del rs hr p h1 (by omega), tx_del ks hn p h1 hlt, rr_del rs hr p h1 (by omega)]
      exact ⟨b, wrap64 (v + 1), Del ks p, Del rs p, (rd_T33 rs p).f0, (rd_T33 rs p).f1, true, by simp, by simp, by rw [del_len _ _ h1 hlt]; omega, by rw [del_len _ _ h1 (by omega)]; omega⟩
    · rw [if_neg hi, if_neg hi]
      exact ⟨b, v, ks, rs, 0, 0, false, rfl, rfl, by omega, by omega⟩
  · simp only [if_neg hS]
    exact ⟨b, v, ks, rs, 0, 0, false, by simp, by simp, by omega, by omega⟩
theorem kid_f (b : Bool) (v : Int) (ks : List ByteArray) (rs : List S33) (hr : rs.length ≤ 40) (at_ : Int) : node_kid.f b v ks rs at_ = some (!b && (Shp b ks rs && (decide (0 ≤ at_) && decide (at_ < rs.length)))) := by
  unfold node_kid.f
  cases b
  · rw [if_neg (by simp), shape_f false v ks rs hr]
    simp only [Option.bind_some]
    cases Shp false ks rs <;> by_cases h : at_ ≥ 0 <;> simp [h] <;> omega
  · simp
theorem rkid_f (b : Bool) (v : Int) (ks : List ByteArray) (rs : List S33) (hr : rs.length ≤ 40) (at_ : Int) : transomref17_kid.f b v ks rs at_ = some (!b && (Shp b ks rs && (decide (0 ≤ at_) && decide (at_ < rs.length)))) := by
  unfold transomref17_kid.f
  rw [Shape_f b v ks rs hr]
  simp only [Option.bind_some]
  cases b <;> cases Shp _ ks rs <;> by_cases h : at_ ≥ 0 <;> simp [h] <;> omega
/-- Insert. -/
theorem insert_both (b : Bool) (v : Int) (ks : List ByteArray) (rs : List S33) (at_ : Int) (key : ByteArray) (x y : Int) (hn : ks.length ≤ 40) (hr : rs.length ≤ 40) :
    ∃ b1 v1 ks1 rs1, node_Insert.f b v ks rs at_ key x y = some (b1, v1, ks1, rs1) ∧ transomref17_Insert.f b v ks rs at_ key x y = some (b1, v1, ks1, rs1) ∧ ks1.length ≤ 41 ∧ rs1.length ≤ 41 := by
  unfold node_Insert.f transomref17_Insert.f
  rw [kid_f b v ks rs hr, rkid_f b v ks rs hr]
  simp only [Option.bind_some]
  by_cases hk : (!b && (Shp b ks rs && (decide (0 ≤ at_) && decide (at_ < (rs.length : Int))))) = true
  · simp only [if_pos hk]
    have hk' : b = false ∧ Shp b ks rs = true ∧ 0 ≤ at_ ∧ at_ < (rs.length : Int) := by simpa using hk
    obtain ⟨hb, hS, h0, h1⟩ := hk'
    have hl := (shp_len hS).2 hb
    rw [sp_ins ks hn at_ h0 (by omega), w1 h0 (by omega), rf_ins rs hr (at_ + 1) (by omega) (by omega), tx_ins ks hn at_ h0 (by omega), rr_ins rs hr (at_ + 1) (by omega) (by omega)]
    exact ⟨b, wrap64 (v + 1), Ins ks at_ key, Ins rs (at_ + 1) ⟨x, y⟩, by simp, by simp, by rw [ins_len _ _ _ h0 (by omega)]; omega, by rw [ins_len _ _ _ (by omega) (by omega)]; omega⟩
  · simp only [if_neg hk]
    exact ⟨b, v, ks, rs, by simp, by simp, by omega, by omega⟩
theorem mx_comm (a b : Int) : mx a b = mx b a := by unfold mx; split <;> split <;> omega
/-- Remove. -/
theorem remove_both (b : Bool) (v : Int) (ks : List ByteArray) (rs : List S33) (at_ : Int) (hn : ks.length ≤ 40) (hr : rs.length ≤ 40) :
    ∃ b1 v1 ks1 rs1, node_Remove.f b v ks rs at_ = some (b1, v1, ks1, rs1) ∧ transomref17_Remove.f b v ks rs at_ = some (b1, v1, ks1, rs1) ∧ ks1.length ≤ 41 ∧ rs1.length ≤ 41 := by
  unfold node_Remove.f transomref17_Remove.f
  rw [kid_f b v ks rs hr, rkid_f b v ks rs hr]
  simp only [Option.bind_some]
  by_cases hk : (!b && (Shp b ks rs && (decide (0 ≤ at_) && decide (at_ < (rs.length : Int))))) = true
  · simp only [if_pos hk]
    have hk' : b = false ∧ Shp b ks rs = true ∧ 0 ≤ at_ ∧ at_ < (rs.length : Int) := by simpa using hk
    obtain ⟨hb, hS, h0, h1⟩ := hk'
    have hl := (shp_len hS).2 hb
    rw [rf_del rs hr at_ h0 h1, rr_del rs hr at_ h0 h1, mx_comm (wrap64 (at_ - 1)) 0, w2 h0 (by omega)]
    simp only [Option.bind_some]
    by_cases hp : (ks.length : Int) > 0
    · have m0 : 0 ≤ mx 0 (at_ - 1) := by unfold mx; split <;> omega
      have m1 : mx 0 (at_ - 1) < (ks.length : Int) := by unfold mx; split <;> omega
      simp only [if_pos hp]
      rw [sp_del ks hn _ m0 m1, tx_del ks hn _ m0 m1]
      exact ⟨b, wrap64 (v + 1), Del ks (mx 0 (at_ - 1)), Del rs at_, by simp, by simp, by rw [del_len _ _ m0 m1]; omega, by rw [del_len _ _ h0 h1]; omega⟩
    · simp only [if_neg hp]
      exact ⟨b, wrap64 (v + 1), ks, Del rs at_, by simp, by simp, by omega, by rw [del_len _ _ h0 h1]; omega⟩
  · simp only [if_neg hk]
    exact ⟨b, v, ks, rs, by simp, by simp, by omega, by omega⟩
theorem texts_l (ks : List ByteArray) (hn : ks.length ≤ 90) (d : Nat) : ∀ (k : Nat) (i : Int), 0 ≤ i → i ≤ ks.length → (ks.length : Int) - i = d → d < k → transomref01_Texts.l0 k ks ks i = some true := by
  induction d with
  | zero =>
    intro k i h0 h1 hd hk
    obtain ⟨k, rfl⟩ : ∃ m, k = m + 1 := ⟨k - 1, by omega⟩
    simp only [transomref01_Texts.l0]; rw [if_neg (by omega)]
  | succ d ih =>
    intro k i h0 h1 hd hk
    obtain ⟨k, rfl⟩ : ∃ m, k = m + 1 := ⟨k - 1, by omega⟩
    simp only [transomref01_Texts.l0]
    rw [if_pos (by omega), if_pos h0, if_pos (by omega), if_pos trivial, w1 h0 (by omega)]
    exact ih k (i + 1) (by omega) (by omega) (by omega) (by omega)
theorem refs_l (rs : List S33) (hn : rs.length ≤ 90) (d : Nat) : ∀ (k : Nat) (i : Int), 0 ≤ i → i ≤ rs.length → (rs.length : Int) - i = d → d < k → transomref16_Refs.l0 k rs rs i = some true := by
  induction d with
  | zero =>
    intro k i h0 h1 hd hk
    obtain ⟨k, rfl⟩ : ∃ m, k = m + 1 := ⟨k - 1, by omega⟩
    simp only [transomref16_Refs.l0]; rw [if_neg (by omega)]
  | succ d ih =>
    intro k i h0 h1 hd hk
    obtain ⟨k, rfl⟩ : ∃ m, k = m + 1 := ⟨k - 1, by omega⟩
    simp only [transomref16_Refs.l0]
    rw [if_pos (by omega), if_pos h0, if_pos (by omega), if_neg (by simp), w1 h0 (by omega)]
    exact ih k (i + 1) (by omega) (by omega) (by omega) (by omega)
/-- A node is the same as itself. -/
theorem same_self (b : Bool) (v : Int) (ks : List ByteArray) (rs : List S33) (hn : ks.length ≤ 90) (hr : rs.length ≤ 90) : transomref17_Same.f 100 b v ks rs b v ks rs = some true := by
  unfold transomref17_Same.f transomref01_Texts.f transomref16_Refs.f
  rw [if_pos (by simp), if_pos rfl, if_pos rfl, texts_l ks hn ks.length 100 0 (by omega) (by omega) (by omega) (by omega)]
  simp only [Option.bind_some, if_true]
  rw [refs_l rs hr rs.length 100 0 (by omega) (by omega) (by omega) (by omega)]
  rfl
end Go.Proofs.Ytglbcfkmaamhaaa.PNode

