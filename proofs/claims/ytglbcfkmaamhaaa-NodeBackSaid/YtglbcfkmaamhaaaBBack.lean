/- NodeBack: a node split, and joined again. No condition. -/
import Derived.Test.YtglbcfkmaamhaaaBTurns
import Derived.Test.YtglbcfkmaamhaaaBQNodex8a
import Derived.Test.YtglbcfkmaamhaaaBQNodex9Ja
set_option linter.unusedVariables false
set_option linter.unusedSimpArgs false
namespace Go.Proofs.Ytglbcfkmaamhaaa.PNode
open Go Go.RowKit Go.Proofs.YtglbcfkmaamhaaaW.PrintWords Go.Proofs.Ytglbcfkmaamhaaa.Ord Go.Proofs.Ytglbcfkmaamhaaa.Less
theorem copied_f (xs ys : List ByteArray) (h : xs.length + ys.length ≤ 100) : node_copied_string.f xs ys = some (xs ++ ys) := by
  unfold node_copied_string.f
  simp only [List.length_nil, List.nil_append, Option.bind_some]
  rw [if_pos (by omega), if_pos (by omega)]
theorem rcopied_f (xs ys : List S33) (h : xs.length + ys.length ≤ 100) : api_Ref_106.f xs ys = some (xs ++ ys) := by
  unfold api_Ref_106.f
  simp only [List.length_nil, List.nil_append, Option.bind_some]
  rw [if_pos (by omega), if_pos (by omega)]
theorem ky_take (ks : List ByteArray) (m : Nat) (i : Int) (h0 : 0 ≤ i) (h1 : i < m) : Ky (ks.take m) i = Ky ks i := by
  simp only [Ky, rdOf, List.getD_eq_getElem?_getD]
  rw [List.getElem?_take, if_pos (by omega)]
theorem ky_drop (ks : List ByteArray) (m : Nat) (i : Int) (h0 : 0 ≤ i) : Ky (ks.drop m) i = Ky ks (m + i) := by
  simp only [Ky, rdOf, List.getD_eq_getElem?_getD]
  rw [List.getElem?_drop, show ((m : Int) + i).toNat = m + i.toNat by omega]
theorem take_cons_drop (ks : List ByteArray) (m : Nat) (h : m < ks.length) : ks.take m ++ [rdOf ByteArray.empty ks m] ++ ks.drop (m + 1) = ks := by
  have e : rdOf ByteArray.empty ks m = ks[m] := by simp [rdOf, List.getD_eq_getElem?_getD, h]
  rw [e, List.append_assoc]
  have := List.take_append_drop m ks
  rw [List.drop_eq_getElem_cons h] at this
  simp
/-- Half of n, the greater one. -/
theorem half {n : Nat} (h : n ≤ 40) : wrap64 ((n : Int) - wrap64 ((n : Int) / 2)) = ((n - n / 2 : Nat) : Int) := by unfold wrap64; omega
theorem back (b : Bool) (v : Int) (ks : List ByteArray) (rs : List S33) (hn : ks.length ≤ 40) (hr : rs.length ≤ 40) (hR : RiseB ks 1) (hS : Shp b ks rs = true) (h2 : 2 ≤ rs.length) :
    ∃ mid v1 v2 ks1 rs1 ks2 rs2, node_Split.f 100 b v ks rs = some (b, v1, ks1, rs1, mid, b, 1, ks2, rs2) ∧ node_Join.f 100 b v1 ks1 rs1 mid b 1 ks2 rs2 = some (b, v2, ks, rs) ∧ rs1.length + rs2.length = rs.length ∧ rs1.length ≤ rs2.length + 1 ∧ rs2.length ≤ rs1.length ∧ ks1.length ≤ 40 ∧ ks2.length ≤ 40 ∧
      (∀ i : Int, 0 ≤ i → i < ks1.length → Op.bytesLess (Ky ks1 i) mid.toList = true) ∧ (∀ i : Int, 0 ≤ i → i < ks2.length → ¬ Op.bytesLess (Ky ks2 i) mid.toList = true) := by
  have hl := shp_len hS
  have hh := half hr
  obtain ⟨m, hm⟩ : ∃ m, m = rs.length - rs.length / 2 := ⟨_, rfl⟩
  rw [← hm] at hh
  have hm1 : 1 ≤ m := by omega
  have hm2 : m < rs.length := by omega
  have hRi := riseB_rises hR
  have e1 : node_Split.f 100 b v ks rs = node_Split.j0 100 (decide ((rs.length : Int) < 2)) b v ks rs := by
    unfold node_Split.f
    rw [shape_f b v ks rs hr, hS]
    rfl
  rw [e1, decide_eq_false (by omega)]
  show ∃ mid v1 v2 ks1 rs1 ks2 rs2, node_Split.j0 (99 + 1) _ _ _ _ _ = _ ∧ _
  simp only [node_Split.j0, hh]
  have hmk : m ≤ ks.length := by cases b <;> simp at hl <;> omega
  rw [if_neg (by decide), if_pos (by omega), if_pos (by omega), copied_f _ _ (by simp; omega), rcopied_f _ _ (by simp; omega)]
  simp only [Option.bind_some, List.append_nil, Int.toNat_natCast]
  rw [if_pos (by omega)]
  cases b
  · have hl' := hl.2 rfl
    have hw : wrap64 ((m : Int) - 1) = ((m - 1 : Nat) : Int) := by unfold wrap64; omega
    simp only [Bool.false_eq_true, if_false, hw]
    rw [if_pos (by omega), if_pos (by omega), if_pos (by omega), copied_f _ _ (by simp; omega), rcopied_f _ _ (by simp; omega)]
    simp only [Option.bind_some, List.append_nil, Int.toNat_natCast]
    refine ⟨rdOf ByteArray.empty ks ((m - 1 : Nat) : Int), wrap64 (v + 1), wrap64 (wrap64 (v + 1) + 1), ks.take (m - 1), rs.take m, ks.drop m, rs.drop m, rfl, ?_, by simp; omega, by simp; omega, by simp; omega, by simp; omega, by simp; omega, fun i h0 h1 => ?_, fun i h0 h1 hl1 => ?_⟩
    · have s1 : Shp false (ks.take (m - 1)) (rs.take m) = true := by simp [Shp]; omega
      have s2 : Shp false (ks.drop m) (rs.drop m) = true := by simp [Shp]; omega
      unfold node_Join.f
      rw [shape_f _ _ _ _ (by simp; omega), s1]
      simp only [Option.bind_some, if_true]
      rw [shape_f _ _ _ _ (by simp; omega), s2]
      simp only [Option.bind_some, if_true]
      show node_Join.j0 (99 + 1) _ _ _ _ _ _ _ _ _ _ = _
      simp only [node_Join.j0, bne_self_eq_false, Bool.false_eq_true, if_false]
      rw [copied_f _ _ (by simp; omega)]
      simp only [Option.bind_some]
      rw [copied_f _ _ (by simp; omega), rcopied_f _ _ (by simp; omega)]
      simp only [Option.bind_some, List.take_append_drop]
      have := take_cons_drop ks (m - 1) (by omega)
      rw [show m - 1 + 1 = m by omega] at this
      rw [this]
    · have h1' : i < ((m - 1 : Nat) : Int) := by simp at h1; omega
      rw [ky_take ks (m - 1) i h0 h1']
      exact hRi.lt' h0 h1' (by omega)
    · have h1' : (m : Int) + i < ks.length := by simp at h1; omega
      rw [ky_drop ks m i h0] at hl1
      have := hRi.lt' (i := ((m - 1 : Nat) : Int)) (j := (m : Int) + i) (by omega) (by omega) h1'
      have h3 := less_asymm this
      rw [hl1] at h3
      cases h3
  · have hl' := hl.1 rfl
    simp only [if_true]
    rw [if_pos (by omega), copied_f _ _ (by simp; omega), rcopied_f _ _ (by simp; omega)]
    simp only [Option.bind_some, List.append_nil, Int.toNat_natCast]
    refine ⟨rdOf ByteArray.empty ks (m : Int), wrap64 (v + 1), wrap64 (wrap64 (v + 1) + 1), ks.take m, rs.take m, ks.drop m, rs.drop m, rfl, ?_, by simp; omega, by simp; omega, by simp; omega, by simp; omega, by simp; omega, fun i h0 h1 => ?_, fun i h0 h1 hl1 => ?_⟩
    · have s1 : Shp true (ks.take m) (rs.take m) = true := by simp [Shp]; omega
      have s2 : Shp true (ks.drop m) (rs.drop m) = true := by simp [Shp]; omega
      unfold node_Join.f
      rw [shape_f _ _ _ _ (by simp; omega), s1]
      simp only [Option.bind_some, if_true]
      rw [shape_f _ _ _ _ (by simp; omega), s2]
      simp only [Option.bind_some, if_true]
      show node_Join.j0 (99 + 1) _ _ _ _ _ _ _ _ _ _ = _
      simp only [node_Join.j0, bne_self_eq_false, Bool.false_eq_true, if_false, if_true]
      rw [copied_f _ _ (by simp; omega), rcopied_f _ _ (by simp; omega)]
      simp only [Option.bind_some, List.take_append_drop]
    · have h1' : i < (m : Int) := by simp at h1; omega
      rw [ky_take ks m i h0 h1']
      exact hRi.lt' h0 h1' (by omega)
    · have h1' : (m : Int) + i < ks.length := by simp at h1; omega
      rw [ky_drop ks m i h0] at hl1
      by_cases e : i = 0
      · subst e
        simp only [Int.add_zero] at hl1
        rw [show Ky ks (m : Int) = (rdOf ByteArray.empty ks (m : Int)).toList from rfl, less_irr] at hl1
        cases hl1
      · have := hRi.lt' (i := (m : Int)) (j := (m : Int) + i) (by omega) (by omega) h1'
        have h3 := less_asymm this
        rw [hl1] at h3
        cases h3
end Go.Proofs.Ytglbcfkmaamhaaa.PNode

