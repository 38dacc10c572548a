/- A text of this claim; no condition. -/
-- WALKS of Node: by print.py over stand-ins for what it does not take, and my own blocks (mp.py). Lean checks them.
import Derived.Test.YtglbcfkmaamhaaaLQNodex7
import Derived.Test.YtglbcfkmaamhaaaLQNodex6
import Derived.Test.YtglbcfkmaamhaaaLQNodex8a
import Derived.Test.YtglbcfkmaamhaaaLQNodex5
import Derived.Test.YtglbcfkmaamhaaaLQNodex0
import Derived.Test.YtglbcfkmaamhaaaLQNodex2
import Derived.Test.YtglbcfkmaamhaaaLQNodex3
namespace Go.Proofs.Ytglbcfkmaamhaaa.PNode
open Go.RowKit Go.Proofs.YtglbcfkmaamhaaaW.PrintWords Go.Proofs.YtglbcfkmaamhaaaW.PrintLast Go.Proofs.YtglbcfkmaamhaaaW.PrintMore
attribute [local go_sem] max2_int min2_int max_two min_two max_three min_three max_four min_four Less.str_leq Less.str_gtr Less.str_geq   -- for this text's walks alone
set_option linter.unusedVariables false
set_option linter.unusedSimpArgs false

/-! ### node_Join: function 53 -/
def node_Join.j0 : Nat → ByteArray → Bool → Bool → Int → List ByteArray → List (S33) → Bool → Int → List ByteArray → List (S33) → Option (Bool × Int × List ByteArray × (List (S33)))
  | 0, _, _, _, _, _, _, _, _, _, _ => none
  | k + 1, x1, x21, x281000, x281001, x281002, x281003, x282000, x282001, x282002, x282003 => if x21 = true then (some (x281000, x281001, x281002, x281003)) else (if x281000 = true then ((node_copied_string.f x281002 x282002).bind fun t285 => ((api_Ref_106.f x281003 x282003).bind fun t288 => (some (x281000, wrap64 (x281001 + 1), t285, t288)))) else ((node_copied_string.f x281002 (([x1] : List ByteArray))).bind fun t294 => ((node_copied_string.f t294 x282002).bind fun t297 => ((api_Ref_106.f x281003 x282003).bind fun t300 => (some (x281000, wrap64 (x281001 + 1), t297, t300))))))
def node_Join.f (k : Nat) (a0_0 : Bool) (a0_1 : Int) (l0_2 : List ByteArray) (l0_3 : List (S33)) (a1 : ByteArray) (a2_0 : Bool) (a2_1 : Int) (l2_2 : List ByteArray) (l2_3 : List (S33)) : Option (Bool × Int × List ByteArray × (List (S33))) := (node_shape.f a0_0 a0_1 l0_2 l0_3).bind fun t283 => (if t283 = true then ((node_shape.f a2_0 a2_1 l2_2 l2_3).bind fun t284 => (if t284 = true then (node_Join.j0 k a1 (a0_0 != a2_0) a0_0 a0_1 l0_2 l0_3 a2_0 a2_1 l2_2 l2_3) else (node_Join.j0 k a1 true a0_0 a0_1 l0_2 l0_3 a2_0 a2_1 l2_2 l2_3))) else (node_Join.j0 k a1 true a0_0 a0_1 l0_2 l0_3 a2_0 a2_1 l2_2 l2_3))
theorem node_Join.mono_l : ∀ k, (∀ y0 y1 y2 y3 y4 y5 y6 y7 y8 y9, LeO (node_Join.j0 k y0 y1 y2 y3 y4 y5 y6 y7 y8 y9) (node_Join.j0 (k + 1) y0 y1 y2 y3 y4 y5 y6 y7 y8 y9))
  | 0 => fun _ _ _ _ _ _ _ _ _ _ r h => by simp [node_Join.j0] at h
  | k + 1 => by
    have ih0 := node_Join.mono_l k
    · intro y0 y1 y2 y3 y4 y5 y6 y7 y8 y9
      unfold node_Join.j0
      repeat' first
      | (with_reducible exact ih0 _ _ _ _ _ _ _ _ _ _)
      | (with_reducible exact LeO.refl _)
      | (with_reducible exact LeO.none _)
      | (with_reducible refine LeO.ite ?_ ?_)
      | (with_reducible refine LeO.bind ?_ (fun _ => ?_))
      | exact ih0 _ _ _ _ _ _ _ _ _ _
      | exact LeO.none _
      | refine LeO.ite ?_ ?_
      | refine LeO.bind ?_ (fun _ => ?_)
theorem node_Join.mono : ∀ a0 a1 a2 a3 a4 a5 a6 a7 a8 k, LeO (node_Join.f k a0 a1 a2 a3 a4 a5 a6 a7 a8) (node_Join.f (k + 1) a0 a1 a2 a3 a4 a5 a6 a7 a8) := by
  intro a0 a1 a2 a3 a4 a5 a6 a7 a8 k
  have ih0 := node_Join.mono_l k
  unfold node_Join.f
  repeat' first
      | (with_reducible exact ih0 _ _ _ _ _ _ _ _ _ _)
      | (with_reducible exact LeO.refl _)
      | (with_reducible exact LeO.none _)
      | (with_reducible refine LeO.ite ?_ ?_)
      | (with_reducible refine LeO.bind ?_ (fun _ => ?_))
      | exact ih0 _ _ _ _ _ _ _ _ _ _
      | exact LeO.none _
      | refine LeO.ite ?_ ?_
      | refine LeO.bind ?_ (fun _ => ?_)
def node_Join.T5 : Bool × List (List Nat × List Nat) := (true, [([], []), ([0], [0]), ([], []), ([2], [2]), ([1, 3], [1, 3]), ([], []), ([5], [5]), ([], []), ([7], [7]), ([6, 8, 4], [6, 8]), ([0, 1, 2, 3, 4, 5, 6], []), ([10, 4, 9, 0, 1, 2, 3, 4, 5, 6], [4, 10]), ([0, 1, 2, 3, 4, 5, 6, 7, 8, 9, 10, 11], []), ([12, 9, 11, 0, 1, 2, 3, 4, 5, 6, 7, 8, 9, 10, 11], [9, 12])])
def node_Join.B5 : List Nat := [0, 1, 0, 4, 15, 0, 32, 0, 128, 511, 127, 2047, 4095, 8191]
theorem node_Join.tab5 : rtab .any (opsOf Try.f53 5) = node_Join.T5 := by kernel_rfl
theorem node_Join.bits5 : waitsOk node_Join.T5.2 node_Join.B5 = true := by kernel_rfl
set_option maxHeartbeats 8000000 in
set_option maxRecDepth 100000 in
theorem node_Join.calls (k : Nat) (a0_0 : Bool) (a0_1 : Int) (P0_2_ : Nat → Prop) (A0_2 : Option Addr) (c0_2 : Nat) (l0_2 : List ByteArray) (P0_3_ : Nat → Prop) (A0_3 : Option Addr) (c0_3 : Nat) (l0_3 : List (S33)) (a1 : ByteArray) (a2_0 : Bool) (a2_1 : Int) (A2_2 : Option Addr) (c2_2 : Nat) (l2_2 : List ByteArray) (A2_3 : Option Addr) (c2_3 : Nat) (l2_3 : List (S33)) (r1 : Bool) (r2 : Int) (r3 : List ByteArray) (r4 : List (S33)) (w : World) (hs0_2 : Kd.V Kd.string 9 w w.heap.size (fun k_ => P0_2_ k_) (.slice A0_2 l0_2.length c0_2) l0_2) (hs0_3 : Kd.V k33 33 w w.heap.size (fun k_ => P0_3_ k_) (.slice A0_3 l0_3.length c0_3) l0_3) (hr2_2 : Kd.C Kd.string w A2_2 l2_2.length l2_2) (hc2_2 : l2_2.length ≤ c2_2) (hr2_3 : Kd.C k33 w A2_3 l2_3.length l2_3) (hc2_3 : l2_3.length ≤ c2_3) (h : node_Join.f k a0_0 a0_1 l0_2 l0_3 a1 a2_0 a2_1 l2_2 l2_3 = some (r1, r2, r3, r4)) :
    Calls Try.prog 53 #[.agg #[.bool a0_0, .int .i64 a0_1, .slice A0_2 l0_2.length c0_2, .slice A0_3 l0_3.length c0_3], .string a1, .agg #[.bool a2_0, .int .i64 a2_1, .slice A2_2 l2_2.length c2_2, .slice A2_3 l2_3.length c2_3]] w fun e w' => ∃ v2_ v3_ : Value, e = .returned (.agg #[.bool r1, .int .i64 r2, v2_, v3_]) ∧ Kd.V Kd.string 9 w' w.heap.size (fun k_ => ((P0_2_ k_ ∨ P0_3_ k_) ∨ w.heap.size ≤ k_)) v2_ r3 ∧ Kd.V k33 33 w' w.heap.size (fun k_ => ((P0_2_ k_ ∨ P0_3_ k_) ∨ w.heap.size ≤ k_)) v3_ r4 ∧ Below w.heap.size w w' := by
  have hu59 := Try.underlying59
  have HO0_2 := Aside0.mk (show Kd.V Kd.string 9 w w.heap.size (fun k_ => ((P0_2_ k_ ∨ P0_3_ k_) ∨ w.heap.size ≤ k_)) (.slice A0_2 l0_2.length c0_2) l0_2 from Kd.V_mono hs0_2 (fun k_ hk => .inl (.inl hk)))
  have HO0_3 := Aside0.mk (show Kd.V k33 33 w w.heap.size (fun k_ => ((P0_2_ k_ ∨ P0_3_ k_) ∨ w.heap.size ≤ k_)) (.slice A0_3 l0_3.length c0_3) l0_3 from Kd.V_mono hs0_3 (fun k_ hk => .inl (.inr hk)))
  have HR2_2 := Aside0.mk hr2_2
  have HC2_2 := Aside0.mk hc2_2
  clear hr2_2 hc2_2
  have HR2_3 := Aside0.mk hr2_3
  have HC2_3 := Aside0.mk hc2_3
  clear hr2_3 hc2_3
  have HB := Aside0.mk (Below.refl w.heap.size w)
  have H : ((node_shape.f a0_0 a0_1 l0_2 l0_3).bind fun t283 => (if t283 = true then ((node_shape.f a2_0 a2_1 l2_2 l2_3).bind fun t284 => (if t284 = true then (node_Join.j0 k a1 (a0_0 != a2_0) a0_0 a0_1 l0_2 l0_3 a2_0 a2_1 l2_2 l2_3) else (node_Join.j0 k a1 true a0_0 a0_1 l0_2 l0_3 a2_0 a2_1 l2_2 l2_3))) else (node_Join.j0 k a1 true a0_0 a0_1 l0_2 l0_3 a2_0 a2_1 l2_2 l2_3))) = some (r1, r2, r3, r4) := h
  clear h
  have HC4 := Aside0.mk H
  clear H
  go_enter Try.func53, Try.ntmps53
  go_upto_region 1 with (first | ((with_reducible refine gate_dst (N := 3) rfl ?_); refine box_event ?hg (N := 3) ?hd (cs := #[.bool a0_0, .int .i64 a0_1, .slice A0_2 l0_2.length c0_2, .slice A0_3 l0_3.length c0_3]) (t := 59) ?hr ?_; (case hd => rfl); (case hg => rfl); (case hr => first | (go_simp; done) | (go_simp; rfl)); intro gb280 hg w5 hbox hb; have n0_ := Aside0.mk (Kd.V_below (Kd.V_elderB (by (with_reducible repeat (first | apply Kd.V_alloc | apply Kd.V_drewN | apply Kd.V_drew)); exact HO0_2.out) gb280 (Nat.le_of_eq hg.symm)) hb); have n1_ := Aside0.mk (Kd.V_below (Kd.V_elderB (by (with_reducible repeat (first | apply Kd.V_alloc | apply Kd.V_drewN | apply Kd.V_drew)); exact HO0_3.out) gb280 (Nat.le_of_eq hg.symm)) hb); have n2_ := Aside0.mk (below_step (by repeat (first | (with_reducible first | exact HB.out | apply below_alloc | apply pw_below_drewN | apply below_drew1) | exact HB.out)) hb); have n3_ := Aside0.mk (hbox); have n4_ := Aside0.mk ((by rw [hg]; exact (below_size (by repeat (first | (with_reducible first | exact HB.out | apply below_alloc | apply pw_below_drewN | apply below_drew1) | exact HB.out))) : w.heap.size ≤ gb280)); have n5_ := Aside0.mk ((by rw [hg]; exact (below_size (by repeat (first | (with_reducible first | exact HB.out | apply below_alloc | apply pw_below_drewN | apply below_drew1) | exact HB.out))) : w.heap.size ≤ gb280)); clear HO0_2; clear HO0_3; clear HB; have HO0_2 := n0_; have HO0_3 := n1_; have HB := n2_; have BK280 := n3_; have GW280 := n4_; have GE280 := n5_; clear n0_ n1_ n2_ n3_ n4_ n5_; clear hb hbox hg) | ((with_reducible refine gate_dst (N := 5) rfl ?_); refine box_event ?hg (N := 5) ?hd (cs := #[.bool a2_0, .int .i64 a2_1, .slice A2_2 l2_2.length c2_2, .slice A2_3 l2_3.length c2_3]) (t := 59) ?hr ?_; (case hd => rfl); (case hg => rfl); (case hr => first | (go_simp; done) | (go_simp; rfl)); intro gb281 hg w6 hbox hb; have n0_ := Aside0.mk (Kd.V_below (Kd.V_elderB (by (with_reducible repeat (first | apply Kd.V_alloc | apply Kd.V_drewN | apply Kd.V_drew)); exact HO0_2.out) gb281 (Nat.le_of_eq hg.symm)) hb); have n1_ := Aside0.mk (Kd.V_below (Kd.V_elderB (by (with_reducible repeat (first | apply Kd.V_alloc | apply Kd.V_drewN | apply Kd.V_drew)); exact HO0_3.out) gb281 (Nat.le_of_eq hg.symm)) hb); have n2_ := Aside0.mk (blk_below (g := gb280) (o := .cells #[.bool a0_0, .int .i64 a0_1, .slice A0_2 l0_2.length c0_2, .slice A0_3 l0_3.length c0_3] 59 (0, 0)) (by (with_reducible repeat (first | refine blk_drewN ?_ _ | refine blk_drew ?_ | refine blk_alloc ?_ _)); exact BK280.out) hb); have n3_ := Aside0.mk (below_step (by repeat (first | (with_reducible first | exact HB.out | apply below_alloc | apply pw_below_drewN | apply below_drew1 | refine below_set ?_ GE280.out) | exact HB.out)) hb); have n4_ := Aside0.mk (hbox); have n5_ := Aside0.mk ((by rw [hg]; exact (below_size (by repeat (first | (with_reducible first | exact HB.out | apply below_alloc | apply pw_below_drewN | apply below_drew1 | refine below_set ?_ GE280.out) | exact HB.out))) : w.heap.size ≤ gb281)); have n6_ := Aside0.mk ((by rw [hg]; exact (below_size (by repeat (first | (with_reducible first | exact HB.out | apply below_alloc | apply pw_below_drewN | apply below_drew1 | refine below_set ?_ GE280.out) | exact HB.out))) : w.heap.size ≤ gb281)); have n7_ := Aside0.mk ((by rw [hg]; exact Nat.ne_of_lt (blk_lt (g := gb280) (o := .cells #[.bool a0_0, .int .i64 a0_1, .slice A0_2 l0_2.length c0_2, .slice A0_3 l0_3.length c0_3] 59 (0, 0)) (by (with_reducible repeat (first | refine blk_drewN ?_ _ | refine blk_drew ?_ | refine blk_alloc ?_ _)); exact BK280.out)) : gb280 ≠ gb281)); have n8_ := Aside0.mk ((by rw [hg]; exact Nat.ne_of_gt (blk_lt (g := gb280) (o := .cells #[.bool a0_0, .int .i64 a0_1, .slice A0_2 l0_2.length c0_2, .slice A0_3 l0_3.length c0_3] 59 (0, 0)) (by (with_reducible repeat (first | refine blk_drewN ?_ _ | refine blk_drew ?_ | refine blk_alloc ?_ _)); exact BK280.out)) : gb281 ≠ gb280)); clear HO0_2; clear HO0_3; clear BK280; clear HB; have HO0_2 := n0_; have HO0_3 := n1_; have BK280 := n2_; have HB := n3_; have BK281 := n4_; have GW281 := n5_; have GE281 := n6_; have NB280_281 := n7_; have NB281_280 := n8_; clear n0_ n1_ n2_ n3_ n4_ n5_ n6_ n7_ n8_; clear hb hbox hg) | ((with_reducible refine gate_dst (N := 6) rfl ?_); refine box_event ?hg (N := 6) ?hd (cs := #[.bool false, .int .i64 0, .slice none 0 0, .slice none 0 0]) (t := 59) ?hr ?_; (case hd => rfl); (case hg => rfl); (case hr => first | (go_simp; done) | (go_simp; rfl)); intro gb282 hg w7 hbox hb; have n0_ := Aside0.mk (Kd.V_below (Kd.V_elderB (by (with_reducible repeat (first | apply Kd.V_alloc | apply Kd.V_drewN | apply Kd.V_drew)); exact HO0_2.out) gb282 (Nat.le_of_eq hg.symm)) hb); have n1_ := Aside0.mk (Kd.V_below (Kd.V_elderB (by (with_reducible repeat (first | apply Kd.V_alloc | apply Kd.V_drewN | apply Kd.V_drew)); exact HO0_3.out) gb282 (Nat.le_of_eq hg.symm)) hb); have n2_ := Aside0.mk (blk_below (g := gb280) (o := .cells #[.bool a0_0, .int .i64 a0_1, .slice A0_2 l0_2.length c0_2, .slice A0_3 l0_3.length c0_3] 59 (0, 0)) (by (with_reducible repeat (first | refine blk_drewN ?_ _ | refine blk_drew ?_ | refine blk_alloc ?_ _)); exact BK280.out) hb); have n3_ := Aside0.mk (blk_below (g := gb281) (o := .cells #[.bool a2_0, .int .i64 a2_1, .slice A2_2 l2_2.length c2_2, .slice A2_3 l2_3.length c2_3] 59 (0, 0)) (by (with_reducible repeat (first | refine blk_drewN ?_ _ | refine blk_drew ?_ | refine blk_alloc ?_ _)); exact BK281.out) hb); have n4_ := Aside0.mk (below_step (by repeat (first | (with_reducible first | exact HB.out | apply below_alloc | apply pw_below_drewN | apply below_drew1 | refine below_set ?_ GE280.out | refine below_set ?_ GE281.out) | exact HB.out)) hb); have n5_ := Aside0.mk (hbox); have n6_ := Aside0.mk ((by rw [hg]; exact (below_size (by repeat (first | (with_reducible first | exact HB.out | apply below_alloc | apply pw_below_drewN | apply below_drew1 | refine below_set ?_ GE280.out | refine below_set ?_ GE281.out) | exact HB.out))) : w.heap.size ≤ gb282)); have n7_ := Aside0.mk ((by rw [hg]; exact (below_size (by repeat (first | (with_reducible first | exact HB.out | apply below_alloc | apply pw_below_drewN | apply below_drew1 | refine below_set ?_ GE280.out | refine below_set ?_ GE281.out) | exact HB.out))) : w.heap.size ≤ gb282)); have n8_ := Aside0.mk ((by rw [hg]; exact Nat.ne_of_lt (blk_lt (g := gb280) (o := .cells #[.bool a0_0, .int .i64 a0_1, .slice A0_2 l0_2.length c0_2, .slice A0_3 l0_3.length c0_3] 59 (0, 0)) (by (with_reducible repeat (first | refine blk_drewN ?_ _ | refine blk_drew ?_ | refine blk_alloc ?_ _)); exact BK280.out)) : gb280 ≠ gb282)); have n9_ := Aside0.mk ((by rw [hg]; exact Nat.ne_of_gt (blk_lt (g := gb280) (o := .cells #[.bool a0_0, .int .i64 a0_1, .slice A0_2 l0_2.length c0_2, .slice A0_3 l0_3.length c0_3] 59 (0, 0)) (by (with_reducible repeat (first | refine blk_drewN ?_ _ | refine blk_drew ?_ | refine blk_alloc ?_ _)); exact BK280.out)) : gb282 ≠ gb280)); have n10_ := Aside0.mk ((by rw [hg]; exact Nat.ne_of_lt (blk_lt (g := gb281) (o := .cells #[.bool a2_0, .int .i64 a2_1, .slice A2_2 l2_2.length c2_2, .slice A2_3 l2_3.length c2_3] 59 (0, 0)) (by (with_reducible repeat (first | refine blk_drewN ?_ _ | refine blk_drew ?_ | refine blk_alloc ?_ _)); exact BK281.out)) : gb281 ≠ gb282)); have n11_ := Aside0.mk ((by rw [hg]; exact Nat.ne_of_gt (blk_lt (g := gb281) (o := .cells #[.bool a2_0, .int .i64 a2_1, .slice A2_2 l2_2.length c2_2, .slice A2_3 l2_3.length c2_3] 59 (0, 0)) (by (with_reducible repeat (first | refine blk_drewN ?_ _ | refine blk_drew ?_ | refine blk_alloc ?_ _)); exact BK281.out)) : gb282 ≠ gb281)); clear HO0_2; clear HO0_3; clear BK280; clear BK281; clear HB; have HO0_2 := n0_; have HO0_3 := n1_; have BK280 := n2_; have BK281 := n3_; have HB := n4_; have BK282 := n5_; have GW282 := n6_; have GE282 := n7_; have NB280_282 := n8_; have NB282_280 := n9_; have NB281_282 := n10_; have NB282_281 := n11_; clear n0_ n1_ n2_ n3_ n4_ n5_ n6_ n7_ n8_ n9_ n10_ n11_; clear hb hbox hg))
  (try simp only [Act.put, List.setIfInBounds_toArray, List.set_cons_zero, List.set_cons_succ])
  go_cut [21] (fun v21 wc => ∃ (kq : Nat) (x21_3 : Bool), v21 = .bool x21_3 ∧ Aside0 (node_Join.j0 kq a1 x21_3 a0_0 a0_1 l0_2 l0_3 a2_0 a2_1 l2_2 l2_3 = some (r1, r2, r3, r4)) ∧ Aside0 (kq ≤ k) ∧ Aside0 (Kd.V Kd.string 9 wc w.heap.size (fun k_ => ((P0_2_ k_ ∨ P0_3_ k_) ∨ w.heap.size ≤ k_) ∧ k_ ≠ gb280 ∧ k_ ≠ gb281 ∧ k_ ≠ gb282) (.slice A0_2 l0_2.length c0_2) l0_2) ∧ Aside0 (Kd.V k33 33 wc w.heap.size (fun k_ => ((P0_2_ k_ ∨ P0_3_ k_) ∨ w.heap.size ≤ k_) ∧ k_ ≠ gb280 ∧ k_ ≠ gb281 ∧ k_ ≠ gb282) (.slice A0_3 l0_3.length c0_3) l0_3) ∧ Aside0 (wc.heap[gb280]? = some (.cells #[.bool a0_0, .int .i64 a0_1, (.slice A0_2 l0_2.length c0_2), (.slice A0_3 l0_3.length c0_3)] 59 (0, 0))) ∧ Aside0 (wc.heap[gb281]? = some (.cells #[.bool a2_0, .int .i64 a2_1, (.slice A2_2 l2_2.length c2_2), (.slice A2_3 l2_3.length c2_3)] 59 (0, 0))) ∧ Aside0 (wc.heap[gb282]? = some (.cells #[.bool false, .int .i64 0, (.slice none 0 0), (.slice none 0 0)] 59 (0, 0))) ∧ Aside0 (Below w.heap.size w wc))
  case first =>
    have H := HC4.out
    clear HC4
    replace H := Option.bind_eq_some_iff.mp H
    obtain ⟨t283, A80, H⟩ := H
    replace H : (if t283 = true then ((node_shape.f a2_0 a2_1 l2_2 l2_3).bind fun t284 => (if t284 = true then (node_Join.j0 k a1 (a0_0 != a2_0) a0_0 a0_1 l0_2 l0_3 a2_0 a2_1 l2_2 l2_3) else (node_Join.j0 k a1 true a0_0 a0_1 l0_2 l0_3 a2_0 a2_1 l2_2 l2_3))) else (node_Join.j0 k a1 true a0_0 a0_1 l0_2 l0_3 a2_0 a2_1 l2_2 l2_3)) = some (r1, r2, r3, r4) := H
    have A8 := Aside0.mk A80
    clear A80
    by_cases c9 : t283 = true
    · subst c9
      have H1 : ((node_shape.f a2_0 a2_1 l2_2 l2_3).bind fun t284 => (if t284 = true then (node_Join.j0 k a1 (a0_0 != a2_0) a0_0 a0_1 l0_2 l0_3 a2_0 a2_1 l2_2 l2_3) else (node_Join.j0 k a1 true a0_0 a0_1 l0_2 l0_3 a2_0 a2_1 l2_2 l2_3))) = some (r1, r2, r3, r4) := by rw [if_pos rfl] at H; exact H
      clear H
      have H := H1
      clear H1
      replace H := Option.bind_eq_some_iff.mp H
      obtain ⟨t284, A100, H⟩ := H
      replace H : (if t284 = true then (node_Join.j0 k a1 (a0_0 != a2_0) a0_0 a0_1 l0_2 l0_3 a2_0 a2_1 l2_2 l2_3) else (node_Join.j0 k a1 true a0_0 a0_1 l0_2 l0_3 a2_0 a2_1 l2_2 l2_3)) = some (r1, r2, r3, r4) := H
      have A10 := Aside0.mk A100
      clear A100
      by_cases c11 : t284 = true
      · subst c11
        have H1 : (node_Join.j0 k a1 (a0_0 != a2_0) a0_0 a0_1 l0_2 l0_3 a2_0 a2_1 l2_2 l2_3) = some (r1, r2, r3, r4) := by rw [if_pos rfl] at H; exact H
        clear H
        have H := H1
        clear H1
        have H' := Aside0.mk H
        clear H
        have hnb12 := NB280_281.out
        have hnc12 := NB281_280.out
        have hnb13 := NB280_282.out
        have hnc13 := NB282_280.out
        have hcz14_0 : w7.cell? ⟨gb280, 0, none⟩ = some (.bool a0_0) := (blk_cell BK280.out 0).trans rfl
        have hcz14_1 : w7.cell? ⟨gb280, 1, none⟩ = some (.int .i64 a0_1) := (blk_cell BK280.out 1).trans rfl
        have hcz14_2 : w7.cell? ⟨gb280, 2, none⟩ = some (.slice A0_2 l0_2.length c0_2) := (blk_cell BK280.out 2).trans rfl
        have hcz14_3 : w7.cell? ⟨gb280, 3, none⟩ = some (.slice A0_3 l0_3.length c0_3) := (blk_cell BK280.out 3).trans rfl
        have hfz14_0 := blk_frozen BK280.out 0
        have hfz14_1 := blk_frozen BK280.out 1
        have hfz14_2 := blk_frozen BK280.out 2
        have hfz14_3 := blk_frozen BK280.out 3
        go_wp2_with (first | ((with_reducible refine gate_callee (f := 93) rfl ?_); refine goesL_ (some 8) rfl rfl Try.func93 (by kernel_rfl) rfl #[.agg #[.bool a0_0, .int .i64 a0_1, .slice A0_2 l0_2.length c0_2, .slice A0_3 l0_3.length c0_3]] rfl (by (try simp only [List.map_toArray, List.map_cons, List.map_nil]); first | done | rfl | (simp only [List.length_drop, List.length_take]; rfl)) ?_; (with_reducible refine (node_shape.calls a0_0 a0_1 _ _ l0_2 _ _ l0_3 true _ ?side1 ?side2 ?side3 ?side4 A8.out).mono ?_); (case side1 => repeat (first | exact (Kd.V_reads' HO0_2.out).2.2 | (with_reducible refine Kd.C_alloc ?_ _) | (with_reducible refine Kd.C_drewN ?_ _) | (with_reducible refine Kd.C_drew ?_))); (case side2 => exact (Kd.V_reads' HO0_2.out).2.1); (case side3 => repeat (first | exact (Kd.V_reads' HO0_3.out).2.2 | (with_reducible refine Kd.C_alloc ?_ _) | (with_reducible refine Kd.C_drewN ?_ _) | (with_reducible refine Kd.C_drew ?_))); (case side4 => exact (Kd.V_reads' HO0_3.out).2.1); rintro e w15 ⟨rfl, hb⟩; refine ⟨_, rfl, ?_⟩; have n0_ := Aside0.mk (Kd.V_below (by (with_reducible repeat (first | apply Kd.V_alloc | apply Kd.V_drewN | apply Kd.V_drew)); exact HO0_2.out) hb); have n1_ := Aside0.mk (Kd.V_below (by (with_reducible repeat (first | apply Kd.V_alloc | apply Kd.V_drewN | apply Kd.V_drew)); exact HO0_3.out) hb); have n2_ := Aside0.mk (blk_below (g := gb280) (o := .cells #[.bool a0_0, .int .i64 a0_1, .slice A0_2 l0_2.length c0_2, .slice A0_3 l0_3.length c0_3] 59 (0, 0)) (by (with_reducible repeat (first | refine blk_drewN ?_ _ | refine blk_drew ?_ | refine blk_alloc ?_ _)); exact BK280.out) hb); have n3_ := Aside0.mk (blk_below (g := gb281) (o := .cells #[.bool a2_0, .int .i64 a2_1, .slice A2_2 l2_2.length c2_2, .slice A2_3 l2_3.length c2_3] 59 (0, 0)) (by (with_reducible repeat (first | refine blk_drewN ?_ _ | refine blk_drew ?_ | refine blk_alloc ?_ _)); exact BK281.out) hb); have n4_ := Aside0.mk (blk_below (g := gb282) (o := .cells #[.bool false, .int .i64 0, .slice none 0 0, .slice none 0 0] 59 (0, 0)) (by (with_reducible repeat (first | refine blk_drewN ?_ _ | refine blk_drew ?_ | refine blk_alloc ?_ _)); exact BK282.out) hb); have n5_ := Aside0.mk (below_step (by repeat (first | (with_reducible first | exact HB.out | apply below_alloc | apply pw_below_drewN | apply below_drew1 | refine below_set ?_ GE280.out | refine below_set ?_ GE281.out | refine below_set ?_ GE282.out) | exact HB.out)) hb); clear HO0_2; clear HO0_3; clear BK280; clear BK281; clear BK282; clear HB; have HO0_2 := n0_; have HO0_3 := n1_; have BK280 := n2_; have BK281 := n3_; have BK282 := n4_; have HB := n5_; clear n0_ n1_ n2_ n3_ n4_ n5_; (try clear hb); (try clear hb2); (try clear hk); (try clear hi); have hnb16 := NB281_282.out; have hnc16 := NB282_281.out; have hcz17_0 : w15.cell? ⟨gb281, 0, none⟩ = some (.bool a2_0) := (blk_cell BK281.out 0).trans rfl; have hcz17_1 : w15.cell? ⟨gb281, 1, none⟩ = some (.int .i64 a2_1) := (blk_cell BK281.out 1).trans rfl; have hcz17_2 : w15.cell? ⟨gb281, 2, none⟩ = some (.slice A2_2 l2_2.length c2_2) := (blk_cell BK281.out 2).trans rfl; have hcz17_3 : w15.cell? ⟨gb281, 3, none⟩ = some (.slice A2_3 l2_3.length c2_3) := (blk_cell BK281.out 3).trans rfl; have hfz17_0 := blk_frozen BK281.out 0; have hfz17_1 := blk_frozen BK281.out 1; have hfz17_2 := blk_frozen BK281.out 2; have hfz17_3 := blk_frozen BK281.out 3) | (go_at_call 93; (with_reducible refine (node_shape.calls a2_0 a2_1 _ _ l2_2 _ _ l2_3 true _ ?side1 ?side2 ?side3 ?side4 A10.out).mono ?_); (case side1 => repeat (first | exact (Kd.C_below HR2_2.out HB.out) | (with_reducible refine Kd.C_alloc ?_ _) | (with_reducible refine Kd.C_drewN ?_ _) | (with_reducible refine Kd.C_drew ?_))); (case side2 => exact HC2_2.out); (case side3 => repeat (first | exact (Kd.C_below HR2_3.out HB.out) | (with_reducible refine Kd.C_alloc ?_ _) | (with_reducible refine Kd.C_drewN ?_ _) | (with_reducible refine Kd.C_drew ?_))); (case side4 => exact HC2_3.out); rintro e w18 ⟨rfl, hb⟩; have n0_ := Aside0.mk (Kd.V_below (by (with_reducible repeat (first | apply Kd.V_alloc | apply Kd.V_drewN | apply Kd.V_drew)); exact HO0_2.out) hb); have n1_ := Aside0.mk (Kd.V_below (by (with_reducible repeat (first | apply Kd.V_alloc | apply Kd.V_drewN | apply Kd.V_drew)); exact HO0_3.out) hb); have n2_ := Aside0.mk (blk_below (g := gb280) (o := .cells #[.bool a0_0, .int .i64 a0_1, .slice A0_2 l0_2.length c0_2, .slice A0_3 l0_3.length c0_3] 59 (0, 0)) (by (with_reducible repeat (first | refine blk_drewN ?_ _ | refine blk_drew ?_ | refine blk_alloc ?_ _)); exact BK280.out) hb); have n3_ := Aside0.mk (blk_below (g := gb281) (o := .cells #[.bool a2_0, .int .i64 a2_1, .slice A2_2 l2_2.length c2_2, .slice A2_3 l2_3.length c2_3] 59 (0, 0)) (by (with_reducible repeat (first | refine blk_drewN ?_ _ | refine blk_drew ?_ | refine blk_alloc ?_ _)); exact BK281.out) hb); have n4_ := Aside0.mk (blk_below (g := gb282) (o := .cells #[.bool false, .int .i64 0, .slice none 0 0, .slice none 0 0] 59 (0, 0)) (by (with_reducible repeat (first | refine blk_drewN ?_ _ | refine blk_drew ?_ | refine blk_alloc ?_ _)); exact BK282.out) hb); have n5_ := Aside0.mk (below_step (by repeat (first | (with_reducible first | exact HB.out | apply below_alloc | apply pw_below_drewN | apply below_drew1 | refine below_set ?_ GE280.out | refine below_set ?_ GE281.out | refine below_set ?_ GE282.out) | exact HB.out)) hb); clear HO0_2; clear HO0_3; clear BK280; clear BK281; clear BK282; clear HB; have HO0_2 := n0_; have HO0_3 := n1_; have BK280 := n2_; have BK281 := n3_; have BK282 := n4_; have HB := n5_; clear n0_ n1_ n2_ n3_ n4_ n5_; (try clear hb); (try clear hb2); (try clear hk); (try clear hi); have hcz19_0 : w18.cell? ⟨gb280, 0, none⟩ = some (.bool a0_0) := (blk_cell BK280.out 0).trans rfl; have hcz19_1 : w18.cell? ⟨gb280, 1, none⟩ = some (.int .i64 a0_1) := (blk_cell BK280.out 1).trans rfl; have hcz19_2 : w18.cell? ⟨gb280, 2, none⟩ = some (.slice A0_2 l0_2.length c0_2) := (blk_cell BK280.out 2).trans rfl; have hcz19_3 : w18.cell? ⟨gb280, 3, none⟩ = some (.slice A0_3 l0_3.length c0_3) := (blk_cell BK280.out 3).trans rfl; have hfz19_0 := blk_frozen BK280.out 0; have hfz19_1 := blk_frozen BK280.out 1; have hfz19_2 := blk_frozen BK280.out 2; have hfz19_3 := blk_frozen BK280.out 3; have hcz20_0 : w18.cell? ⟨gb281, 0, none⟩ = some (.bool a2_0) := (blk_cell BK281.out 0).trans rfl; have hcz20_1 : w18.cell? ⟨gb281, 1, none⟩ = some (.int .i64 a2_1) := (blk_cell BK281.out 1).trans rfl; have hcz20_2 : w18.cell? ⟨gb281, 2, none⟩ = some (.slice A2_2 l2_2.length c2_2) := (blk_cell BK281.out 2).trans rfl; have hcz20_3 : w18.cell? ⟨gb281, 3, none⟩ = some (.slice A2_3 l2_3.length c2_3) := (blk_cell BK281.out 3).trans rfl; have hfz20_0 := blk_frozen BK281.out 0; have hfz20_1 := blk_frozen BK281.out 1; have hfz20_2 := blk_frozen BK281.out 2; have hfz20_3 := blk_frozen BK281.out 3))
        go_meet
        case rel => exact ⟨_, ((a0_0 != a2_0)), (by first | rfl | (simp; done) | (simp [*]; done)), H', ⟨by first | omega | exact Nat.le_refl _⟩, ⟨by (with_reducible repeat (first | apply Kd.V_alloc | apply Kd.V_drewN | apply Kd.V_drew)); exact Kd.V_mono HO0_2.out (fun _ hk => ⟨hk.1.1.1, ⟨hk.1.1.2, ⟨hk.1.2, hk.2⟩⟩⟩)⟩, ⟨by (with_reducible repeat (first | apply Kd.V_alloc | apply Kd.V_drewN | apply Kd.V_drew)); exact Kd.V_mono HO0_3.out (fun _ hk => ⟨hk.1.1.1, ⟨hk.1.1.2, ⟨hk.1.2, hk.2⟩⟩⟩)⟩, ⟨by (with_reducible repeat (first | refine blk_drewN ?_ _ | refine blk_drew ?_ | refine blk_alloc ?_ _)); exact BK280.out⟩, ⟨by (with_reducible repeat (first | refine blk_drewN ?_ _ | refine blk_drew ?_ | refine blk_alloc ?_ _)); exact BK281.out⟩, ⟨by (with_reducible repeat (first | refine blk_drewN ?_ _ | refine blk_drew ?_ | refine blk_alloc ?_ _)); exact BK282.out⟩, ⟨by repeat (first | (with_reducible first | exact HB.out | apply below_alloc | apply pw_below_drewN | apply below_drew1 | refine below_set ?_ GE280.out | refine below_set ?_ GE281.out | refine below_set ?_ GE282.out) | exact HB.out)⟩⟩
      · replace c11 := Bool.eq_false_iff.mpr c11
        subst c11
        have H1 : (node_Join.j0 k a1 true a0_0 a0_1 l0_2 l0_3 a2_0 a2_1 l2_2 l2_3) = some (r1, r2, r3, r4) := by rw [if_neg (show ¬ (false = true) by decide)] at H; exact H
        clear H
        have H := H1
        clear H1
        have H' := Aside0.mk H
        clear H
        have hnb21 := NB280_281.out
        have hnc21 := NB281_280.out
        have hnb22 := NB280_282.out
        have hnc22 := NB282_280.out
        have hcz23_0 : w7.cell? ⟨gb280, 0, none⟩ = some (.bool a0_0) := (blk_cell BK280.out 0).trans rfl
        have hcz23_1 : w7.cell? ⟨gb280, 1, none⟩ = some (.int .i64 a0_1) := (blk_cell BK280.out 1).trans rfl
        have hcz23_2 : w7.cell? ⟨gb280, 2, none⟩ = some (.slice A0_2 l0_2.length c0_2) := (blk_cell BK280.out 2).trans rfl
        have hcz23_3 : w7.cell? ⟨gb280, 3, none⟩ = some (.slice A0_3 l0_3.length c0_3) := (blk_cell BK280.out 3).trans rfl
        have hfz23_0 := blk_frozen BK280.out 0
        have hfz23_1 := blk_frozen BK280.out 1
        have hfz23_2 := blk_frozen BK280.out 2
        have hfz23_3 := blk_frozen BK280.out 3
        go_wp2_with (first | ((with_reducible refine gate_callee (f := 93) rfl ?_); refine goesL_ (some 8) rfl rfl Try.func93 (by kernel_rfl) rfl #[.agg #[.bool a0_0, .int .i64 a0_1, .slice A0_2 l0_2.length c0_2, .slice A0_3 l0_3.length c0_3]] rfl (by (try simp only [List.map_toArray, List.map_cons, List.map_nil]); first | done | rfl | (simp only [List.length_drop, List.length_take]; rfl)) ?_; (with_reducible refine (node_shape.calls a0_0 a0_1 _ _ l0_2 _ _ l0_3 true _ ?side1 ?side2 ?side3 ?side4 A8.out).mono ?_); (case side1 => repeat (first | exact (Kd.V_reads' HO0_2.out).2.2 | (with_reducible refine Kd.C_alloc ?_ _) | (with_reducible refine Kd.C_drewN ?_ _) | (with_reducible refine Kd.C_drew ?_))); (case side2 => exact (Kd.V_reads' HO0_2.out).2.1); (case side3 => repeat (first | exact (Kd.V_reads' HO0_3.out).2.2 | (with_reducible refine Kd.C_alloc ?_ _) | (with_reducible refine Kd.C_drewN ?_ _) | (with_reducible refine Kd.C_drew ?_))); (case side4 => exact (Kd.V_reads' HO0_3.out).2.1); rintro e w24 ⟨rfl, hb⟩; refine ⟨_, rfl, ?_⟩; have n0_ := Aside0.mk (Kd.V_below (by (with_reducible repeat (first | apply Kd.V_alloc | apply Kd.V_drewN | apply Kd.V_drew)); exact HO0_2.out) hb); have n1_ := Aside0.mk (Kd.V_below (by (with_reducible repeat (first | apply Kd.V_alloc | apply Kd.V_drewN | apply Kd.V_drew)); exact HO0_3.out) hb); have n2_ := Aside0.mk (blk_below (g := gb280) (o := .cells #[.bool a0_0, .int .i64 a0_1, .slice A0_2 l0_2.length c0_2, .slice A0_3 l0_3.length c0_3] 59 (0, 0)) (by (with_reducible repeat (first | refine blk_drewN ?_ _ | refine blk_drew ?_ | refine blk_alloc ?_ _)); exact BK280.out) hb); have n3_ := Aside0.mk (blk_below (g := gb281) (o := .cells #[.bool a2_0, .int .i64 a2_1, .slice A2_2 l2_2.length c2_2, .slice A2_3 l2_3.length c2_3] 59 (0, 0)) (by (with_reducible repeat (first | refine blk_drewN ?_ _ | refine blk_drew ?_ | refine blk_alloc ?_ _)); exact BK281.out) hb); have n4_ := Aside0.mk (blk_below (g := gb282) (o := .cells #[.bool false, .int .i64 0, .slice none 0 0, .slice none 0 0] 59 (0, 0)) (by (with_reducible repeat (first | refine blk_drewN ?_ _ | refine blk_drew ?_ | refine blk_alloc ?_ _)); exact BK282.out) hb); have n5_ := Aside0.mk (below_step (by repeat (first | (with_reducible first | exact HB.out | apply below_alloc | apply pw_below_drewN | apply below_drew1 | refine below_set ?_ GE280.out | refine below_set ?_ GE281.out | refine below_set ?_ GE282.out) | exact HB.out)) hb); clear HO0_2; clear HO0_3; clear BK280; clear BK281; clear BK282; clear HB; have HO0_2 := n0_; have HO0_3 := n1_; have BK280 := n2_; have BK281 := n3_; have BK282 := n4_; have HB := n5_; clear n0_ n1_ n2_ n3_ n4_ n5_; (try clear hb); (try clear hb2); (try clear hk); (try clear hi); have hnb25 := NB281_282.out; have hnc25 := NB282_281.out; have hcz26_0 : w24.cell? ⟨gb281, 0, none⟩ = some (.bool a2_0) := (blk_cell BK281.out 0).trans rfl; have hcz26_1 : w24.cell? ⟨gb281, 1, none⟩ = some (.int .i64 a2_1) := (blk_cell BK281.out 1).trans rfl; have hcz26_2 : w24.cell? ⟨gb281, 2, none⟩ = some (.slice A2_2 l2_2.length c2_2) := (blk_cell BK281.out 2).trans rfl; have hcz26_3 : w24.cell? ⟨gb281, 3, none⟩ = some (.slice A2_3 l2_3.length c2_3) := (blk_cell BK281.out 3).trans rfl; have hfz26_0 := blk_frozen BK281.out 0; have hfz26_1 := blk_frozen BK281.out 1; have hfz26_2 := blk_frozen BK281.out 2; have hfz26_3 := blk_frozen BK281.out 3) | (go_at_call 93; (with_reducible refine (node_shape.calls a2_0 a2_1 _ _ l2_2 _ _ l2_3 false _ ?side1 ?side2 ?side3 ?side4 A10.out).mono ?_); (case side1 => repeat (first | exact (Kd.C_below HR2_2.out HB.out) | (with_reducible refine Kd.C_alloc ?_ _) | (with_reducible refine Kd.C_drewN ?_ _) | (with_reducible refine Kd.C_drew ?_))); (case side2 => exact HC2_2.out); (case side3 => repeat (first | exact (Kd.C_below HR2_3.out HB.out) | (with_reducible refine Kd.C_alloc ?_ _) | (with_reducible refine Kd.C_drewN ?_ _) | (with_reducible refine Kd.C_drew ?_))); (case side4 => exact HC2_3.out); rintro e w27 ⟨rfl, hb⟩; have n0_ := Aside0.mk (Kd.V_below (by (with_reducible repeat (first | apply Kd.V_alloc | apply Kd.V_drewN | apply Kd.V_drew)); exact HO0_2.out) hb); have n1_ := Aside0.mk (Kd.V_below (by (with_reducible repeat (first | apply Kd.V_alloc | apply Kd.V_drewN | apply Kd.V_drew)); exact HO0_3.out) hb); have n2_ := Aside0.mk (blk_below (g := gb280) (o := .cells #[.bool a0_0, .int .i64 a0_1, .slice A0_2 l0_2.length c0_2, .slice A0_3 l0_3.length c0_3] 59 (0, 0)) (by (with_reducible repeat (first | refine blk_drewN ?_ _ | refine blk_drew ?_ | refine blk_alloc ?_ _)); exact BK280.out) hb); have n3_ := Aside0.mk (blk_below (g := gb281) (o := .cells #[.bool a2_0, .int .i64 a2_1, .slice A2_2 l2_2.length c2_2, .slice A2_3 l2_3.length c2_3] 59 (0, 0)) (by (with_reducible repeat (first | refine blk_drewN ?_ _ | refine blk_drew ?_ | refine blk_alloc ?_ _)); exact BK281.out) hb); have n4_ := Aside0.mk (blk_below (g := gb282) (o := .cells #[.bool false, .int .i64 0, .slice none 0 0, .slice none 0 0] 59 (0, 0)) (by (with_reducible repeat (first | refine blk_drewN ?_ _ | refine blk_drew ?_ | refine blk_alloc ?_ _)); exact BK282.out) hb); have n5_ := Aside0.mk (below_step (by repeat (first | (with_reducible first | exact HB.out | apply below_alloc | apply pw_below_drewN | apply below_drew1 | refine below_set ?_ GE280.out | refine below_set ?_ GE281.out | refine below_set ?_ GE282.out) | exact HB.out)) hb); clear HO0_2; clear HO0_3; clear BK280; clear BK281; clear BK282; clear HB; have HO0_2 := n0_; have HO0_3 := n1_; have BK280 := n2_; have BK281 := n3_; have BK282 := n4_; have HB := n5_; clear n0_ n1_ n2_ n3_ n4_ n5_; (try clear hb); (try clear hb2); (try clear hk); (try clear hi)))
        go_meet
        case rel => exact ⟨_, (true), (by first | rfl | (simp; done) | (simp [*]; done)), H', ⟨by first | omega | exact Nat.le_refl _⟩, ⟨by (with_reducible repeat (first | apply Kd.V_alloc | apply Kd.V_drewN | apply Kd.V_drew)); exact Kd.V_mono HO0_2.out (fun _ hk => ⟨hk.1.1.1, ⟨hk.1.1.2, ⟨hk.1.2, hk.2⟩⟩⟩)⟩, ⟨by (with_reducible repeat (first | apply Kd.V_alloc | apply Kd.V_drewN | apply Kd.V_drew)); exact Kd.V_mono HO0_3.out (fun _ hk => ⟨hk.1.1.1, ⟨hk.1.1.2, ⟨hk.1.2, hk.2⟩⟩⟩)⟩, ⟨by (with_reducible repeat (first | refine blk_drewN ?_ _ | refine blk_drew ?_ | refine blk_alloc ?_ _)); exact BK280.out⟩, ⟨by (with_reducible repeat (first | refine blk_drewN ?_ _ | refine blk_drew ?_ | refine blk_alloc ?_ _)); exact BK281.out⟩, ⟨by (with_reducible repeat (first | refine blk_drewN ?_ _ | refine blk_drew ?_ | refine blk_alloc ?_ _)); exact BK282.out⟩, ⟨by repeat (first | (with_reducible first | exact HB.out | apply below_alloc | apply pw_below_drewN | apply below_drew1 | refine below_set ?_ GE280.out | refine below_set ?_ GE281.out | refine below_set ?_ GE282.out) | exact HB.out)⟩⟩
    · replace c9 := Bool.eq_false_iff.mpr c9
      subst c9
      have H1 : (node_Join.j0 k a1 true a0_0 a0_1 l0_2 l0_3 a2_0 a2_1 l2_2 l2_3) = some (r1, r2, r3, r4) := by rw [if_neg (show ¬ (false = true) by decide)] at H; exact H
      clear H
      have H := H1
      clear H1
      have H' := Aside0.mk H
      clear H
      have hnb28 := NB280_281.out
      have hnc28 := NB281_280.out
      have hnb29 := NB280_282.out
      have hnc29 := NB282_280.out
      have hcz30_0 : w7.cell? ⟨gb280, 0, none⟩ = some (.bool a0_0) := (blk_cell BK280.out 0).trans rfl
      have hcz30_1 : w7.cell? ⟨gb280, 1, none⟩ = some (.int .i64 a0_1) := (blk_cell BK280.out 1).trans rfl
      have hcz30_2 : w7.cell? ⟨gb280, 2, none⟩ = some (.slice A0_2 l0_2.length c0_2) := (blk_cell BK280.out 2).trans rfl
      have hcz30_3 : w7.cell? ⟨gb280, 3, none⟩ = some (.slice A0_3 l0_3.length c0_3) := (blk_cell BK280.out 3).trans rfl
      have hfz30_0 := blk_frozen BK280.out 0
      have hfz30_1 := blk_frozen BK280.out 1
      have hfz30_2 := blk_frozen BK280.out 2
      have hfz30_3 := blk_frozen BK280.out 3
      go_wp2_with (first | ((with_reducible refine gate_callee (f := 93) rfl ?_); refine goesL_ (some 8) rfl rfl Try.func93 (by kernel_rfl) rfl #[.agg #[.bool a0_0, .int .i64 a0_1, .slice A0_2 l0_2.length c0_2, .slice A0_3 l0_3.length c0_3]] rfl (by (try simp only [List.map_toArray, List.map_cons, List.map_nil]); first | done | rfl | (simp only [List.length_drop, List.length_take]; rfl)) ?_; (with_reducible refine (node_shape.calls a0_0 a0_1 _ _ l0_2 _ _ l0_3 false _ ?side1 ?side2 ?side3 ?side4 A8.out).mono ?_); (case side1 => repeat (first | exact (Kd.V_reads' HO0_2.out).2.2 | (with_reducible refine Kd.C_alloc ?_ _) | (with_reducible refine Kd.C_drewN ?_ _) | (with_reducible refine Kd.C_drew ?_))); (case side2 => exact (Kd.V_reads' HO0_2.out).2.1); (case side3 => repeat (first | exact (Kd.V_reads' HO0_3.out).2.2 | (with_reducible refine Kd.C_alloc ?_ _) | (with_reducible refine Kd.C_drewN ?_ _) | (with_reducible refine Kd.C_drew ?_))); (case side4 => exact (Kd.V_reads' HO0_3.out).2.1); rintro e w31 ⟨rfl, hb⟩; refine ⟨_, rfl, ?_⟩; have n0_ := Aside0.mk (Kd.V_below (by (with_reducible repeat (first | apply Kd.V_alloc | apply Kd.V_drewN | apply Kd.V_drew)); exact HO0_2.out) hb); have n1_ := Aside0.mk (Kd.V_below (by (with_reducible repeat (first | apply Kd.V_alloc | apply Kd.V_drewN | apply Kd.V_drew)); exact HO0_3.out) hb); have n2_ := Aside0.mk (blk_below (g := gb280) (o := .cells #[.bool a0_0, .int .i64 a0_1, .slice A0_2 l0_2.length c0_2, .slice A0_3 l0_3.length c0_3] 59 (0, 0)) (by (with_reducible repeat (first | refine blk_drewN ?_ _ | refine blk_drew ?_ | refine blk_alloc ?_ _)); exact BK280.out) hb); have n3_ := Aside0.mk (blk_below (g := gb281) (o := .cells #[.bool a2_0, .int .i64 a2_1, .slice A2_2 l2_2.length c2_2, .slice A2_3 l2_3.length c2_3] 59 (0, 0)) (by (with_reducible repeat (first | refine blk_drewN ?_ _ | refine blk_drew ?_ | refine blk_alloc ?_ _)); exact BK281.out) hb); have n4_ := Aside0.mk (blk_below (g := gb282) (o := .cells #[.bool false, .int .i64 0, .slice none 0 0, .slice none 0 0] 59 (0, 0)) (by (with_reducible repeat (first | refine blk_drewN ?_ _ | refine blk_drew ?_ | refine blk_alloc ?_ _)); exact BK282.out) hb); have n5_ := Aside0.mk (below_step (by repeat (first | (with_reducible first | exact HB.out | apply below_alloc | apply pw_below_drewN | apply below_drew1 | refine below_set ?_ GE280.out | refine below_set ?_ GE281.out | refine below_set ?_ GE282.out) | exact HB.out)) hb); clear HO0_2; clear HO0_3; clear BK280; clear BK281; clear BK282; clear HB; have HO0_2 := n0_; have HO0_3 := n1_; have BK280 := n2_; have BK281 := n3_; have BK282 := n4_; have HB := n5_; clear n0_ n1_ n2_ n3_ n4_ n5_; (try clear hb); (try clear hb2); (try clear hk); (try clear hi)))
      go_meet
      case rel => exact ⟨_, (true), (by first | rfl | (simp; done) | (simp [*]; done)), H', ⟨by first | omega | exact Nat.le_refl _⟩, ⟨by (with_reducible repeat (first | apply Kd.V_alloc | apply Kd.V_drewN | apply Kd.V_drew)); exact Kd.V_mono HO0_2.out (fun _ hk => ⟨hk.1.1.1, ⟨hk.1.1.2, ⟨hk.1.2, hk.2⟩⟩⟩)⟩, ⟨by (with_reducible repeat (first | apply Kd.V_alloc | apply Kd.V_drewN | apply Kd.V_drew)); exact Kd.V_mono HO0_3.out (fun _ hk => ⟨hk.1.1.1, ⟨hk.1.1.2, ⟨hk.1.2, hk.2⟩⟩⟩)⟩, ⟨by (with_reducible repeat (first | refine blk_drewN ?_ _ | refine blk_drew ?_ | refine blk_alloc ?_ _)); exact BK280.out⟩, ⟨by (with_reducible repeat (first | refine blk_drewN ?_ _ | refine blk_drew ?_ | refine blk_alloc ?_ _)); exact BK281.out⟩, ⟨by (with_reducible repeat (first | refine blk_drewN ?_ _ | refine blk_drew ?_ | refine blk_alloc ?_ _)); exact BK282.out⟩, ⟨by repeat (first | (with_reducible first | exact HB.out | apply below_alloc | apply pw_below_drewN | apply below_drew1 | refine below_set ?_ GE280.out | refine below_set ?_ GE281.out | refine below_set ?_ GE282.out) | exact HB.out)⟩⟩
  case rest =>
    clear HC4
    try clear c1
    try clear c2
    try clear p2
    try clear c5
    try clear c9
    try clear c11
    try clear c12
    try clear c13
    try clear c16
    try clear c21
    try clear c22
    try clear c25
    try clear c28
    try clear c29
    try clear hcz14_0
    try clear hcz14_1
    try clear hcz14_2
    try clear hcz14_3
    try clear hcz17_0
    try clear hcz17_1
    try clear hcz17_2
    try clear hcz17_3
    try clear hcz19_0
    try clear hcz19_1
    try clear hcz19_2
    try clear hcz19_3
    try clear hcz20_0
    try clear hcz20_1
    try clear hcz20_2
    try clear hcz20_3
    try clear hcz23_0
    try clear hcz23_1
    try clear hcz23_2
    try clear hcz23_3
    try clear hcz26_0
    try clear hcz26_1
    try clear hcz26_2
    try clear hcz26_3
    try clear hcz30_0
    try clear hcz30_1
    try clear hcz30_2
    try clear hcz30_3
    try clear hfz14_0
    try clear hfz14_1
    try clear hfz14_2
    try clear hfz14_3
    try clear hfz17_0
    try clear hfz17_1
    try clear hfz17_2
    try clear hfz17_3
    try clear hfz19_0
    try clear hfz19_1
    try clear hfz19_2
    try clear hfz19_3
    try clear hfz20_0
    try clear hfz20_1
    try clear hfz20_2
    try clear hfz20_3
    try clear hfz23_0
    try clear hfz23_1
    try clear hfz23_2
    try clear hfz23_3
    try clear hfz26_0
    try clear hfz26_1
    try clear hfz26_2
    try clear hfz26_3
    try clear hfz30_0
    try clear hfz30_1
    try clear hfz30_2
    try clear hfz30_3
    obtain ⟨kq, x21_3, rfl, HA, HJ3, HO_281002, HO_281003, BK280, BK281, BK282, HB⟩ := hcut
    cases kq with
    | zero => exact absurd HA.out (by simp [node_Join.j0])
    | succ kj3 =>
      have H := HA.out
      clear HA
      simp only [node_Join.j0] at H
      by_cases c32 : x21_3 = true
      · subst c32
        have H1 : (some (a0_0, a0_1, l0_2, l0_3)) = some (r1, r2, r3, r4) := by rw [if_pos rfl] at H; exact H
        clear H
        have H := H1
        clear H1
        simp only [Option.some.injEq, Prod.mk.injEq] at H
        obtain ⟨rfl, rfl, rfl, rfl⟩ := H
        have hnb33 := NB280_281.out
        have hnc33 := NB281_280.out
        have hnb34 := NB280_282.out
        have hnc34 := NB282_280.out
        have hcz35_0 : wc.cell? ⟨gb280, 0, none⟩ = some (.bool a0_0) := (blk_cell BK280.out 0).trans rfl
        have hcz35_1 : wc.cell? ⟨gb280, 1, none⟩ = some (.int .i64 a0_1) := (blk_cell BK280.out 1).trans rfl
        have hcz35_2 : wc.cell? ⟨gb280, 2, none⟩ = some (.slice A0_2 l0_2.length c0_2) := (blk_cell BK280.out 2).trans rfl
        have hcz35_3 : wc.cell? ⟨gb280, 3, none⟩ = some (.slice A0_3 l0_3.length c0_3) := (blk_cell BK280.out 3).trans rfl
        have hfz35_0 := blk_frozen BK280.out 0
        have hfz35_1 := blk_frozen BK280.out 1
        have hfz35_2 := blk_frozen BK280.out 2
        have hfz35_3 := blk_frozen BK280.out 3
        have hnb36 := NB282_281.out
        have hnc36 := NB281_282.out
        have hcz37_0 : wc.cell? ⟨gb282, 0, none⟩ = some (.bool false) := (blk_cell BK282.out 0).trans rfl
        have hcz37_1 : wc.cell? ⟨gb282, 1, none⟩ = some (.int .i64 0) := (blk_cell BK282.out 1).trans rfl
        have hcz37_2 : wc.cell? ⟨gb282, 2, none⟩ = some (.slice none 0 0) := (blk_cell BK282.out 2).trans rfl
        have hcz37_3 : wc.cell? ⟨gb282, 3, none⟩ = some (.slice none 0 0) := (blk_cell BK282.out 3).trans rfl
        have hfz37_0 := blk_frozen BK282.out 0
        have hfz37_1 := blk_frozen BK282.out 1
        have hfz37_2 := blk_frozen BK282.out 2
        have hfz37_3 := blk_frozen BK282.out 3
        go_wp2
        refine bodyPost_ret (results_cell_row rfl _ _ gb282 59 #[.bool a0_0, .int .i64 a0_1, .slice A0_2 l0_2.length c0_2, .slice A0_3 l0_3.length c0_3] (0, 0) _ rfl (by (with_reducible repeat (first | refine blk_drewN ?_ _ | refine blk_drew ?_ | refine blk_alloc ?_ _)); refine blk_put (cs := #[.bool a0_0, .int .i64 a0_1, .slice A0_2 l0_2.length c0_2, .slice none 0 0]) ?_ 3 _ rfl; (with_reducible repeat (first | refine blk_drewN ?_ _ | refine blk_drew ?_ | refine blk_alloc ?_ _)); refine blk_put (cs := #[.bool a0_0, .int .i64 a0_1, .slice none 0 0, .slice none 0 0]) ?_ 2 _ rfl; (with_reducible repeat (first | refine blk_drewN ?_ _ | refine blk_drew ?_ | refine blk_alloc ?_ _)); refine blk_put (cs := #[.bool a0_0, .int .i64 0, .slice none 0 0, .slice none 0 0]) ?_ 1 _ rfl; (with_reducible repeat (first | refine blk_drewN ?_ _ | refine blk_drew ?_ | refine blk_alloc ?_ _)); refine blk_put (cs := #[.bool false, .int .i64 0, .slice none 0 0, .slice none 0 0]) ?_ 0 _ rfl; (with_reducible repeat (first | refine blk_drewN ?_ _ | refine blk_drew ?_ | refine blk_alloc ?_ _)); exact BK282.out) Try.underlying59 rfl (by kernel_rfl)) rfl ?_
        exact ⟨_, _, by first | rfl | (simp [errW_none, errW_some] <;> rfl) | (simp [*, errW_none, errW_some] <;> rfl), by (with_reducible repeat (first | apply Kd.V_alloc | apply Kd.V_drewN | apply Kd.V_drew)); exact Kd.V_mono (Kd.V_far (p := ⟨gb282, 3, none⟩) (Kd.V_far (p := ⟨gb282, 2, none⟩) (Kd.V_far (p := ⟨gb282, 1, none⟩) (Kd.V_far (p := ⟨gb282, 0, none⟩) (Kd.V_mono HO_281002.out (fun k_ hk => (⟨hk, hk.2.2.2⟩ : _ ∧ k_ ≠ gb282))) (fun _ hk => hk.2) (.bool a0_0)) (fun _ hk => hk.2) (.int .i64 a0_1)) (fun _ hk => hk.2) (.slice A0_2 l0_2.length c0_2)) (fun _ hk => hk.2) (.slice A0_3 l0_3.length c0_3)) (fun _ hk => hk.1.1), by (with_reducible repeat (first | apply Kd.V_alloc | apply Kd.V_drewN | apply Kd.V_drew)); exact Kd.V_mono (Kd.V_far (p := ⟨gb282, 3, none⟩) (Kd.V_far (p := ⟨gb282, 2, none⟩) (Kd.V_far (p := ⟨gb282, 1, none⟩) (Kd.V_far (p := ⟨gb282, 0, none⟩) (Kd.V_mono HO_281003.out (fun k_ hk => (⟨hk, hk.2.2.2⟩ : _ ∧ k_ ≠ gb282))) (fun _ hk => hk.2) (.bool a0_0)) (fun _ hk => hk.2) (.int .i64 a0_1)) (fun _ hk => hk.2) (.slice A0_2 l0_2.length c0_2)) (fun _ hk => hk.2) (.slice A0_3 l0_3.length c0_3)) (fun _ hk => hk.1.1), by repeat (first | (with_reducible first | exact HB.out | apply below_alloc | apply pw_below_drewN | apply below_drew1 | refine below_set ?_ GE280.out | refine below_set ?_ GE281.out | refine below_set ?_ GE282.out) | exact HB.out)⟩
      · replace c32 := Bool.eq_false_iff.mpr c32
        subst c32
        have H1 : (if a0_0 = true then ((node_copied_string.f l0_2 l2_2).bind fun t285 => ((api_Ref_106.f l0_3 l2_3).bind fun t288 => (some (a0_0, wrap64 (a0_1 + 1), t285, t288)))) else ((node_copied_string.f l0_2 (([a1] : List ByteArray))).bind fun t294 => ((node_copied_string.f t294 l2_2).bind fun t297 => ((api_Ref_106.f l0_3 l2_3).bind fun t300 => (some (a0_0, wrap64 (a0_1 + 1), t297, t300)))))) = some (r1, r2, r3, r4) := by rw [if_neg (show ¬ (false = true) by decide)] at H; exact H
        clear H
        have H := H1
        clear H1
        by_cases c38 : a0_0 = true
        · subst c38
          have H1 : ((node_copied_string.f l0_2 l2_2).bind fun t285 => ((api_Ref_106.f l0_3 l2_3).bind fun t288 => (some (true, wrap64 (a0_1 + 1), t285, t288)))) = some (r1, r2, r3, r4) := by rw [if_pos rfl] at H; exact H
          clear H
          have H := H1
          clear H1
          replace H := Option.bind_eq_some_iff.mp H
          obtain ⟨t285, A390, H⟩ := H
          replace H : ((api_Ref_106.f l0_3 l2_3).bind fun t288 => (some (true, wrap64 (a0_1 + 1), t285, t288))) = some (r1, r2, r3, r4) := H
          have A39 := Aside0.mk A390
          clear A390
          replace H := Option.bind_eq_some_iff.mp H
          obtain ⟨t288, A400, H⟩ := H
          replace H : (some (true, wrap64 (a0_1 + 1), t285, t288)) = some (r1, r2, r3, r4) := H
          have A40 := Aside0.mk A400
          clear A400
          simp only [Option.some.injEq, Prod.mk.injEq] at H
          obtain ⟨rfl, rfl, rfl, rfl⟩ := H
          have hnb41 := NB280_281.out
          have hnc41 := NB281_280.out
          have hnb42 := NB280_282.out
          have hnc42 := NB282_280.out
          have hcz43_0 : wc.cell? ⟨gb280, 0, none⟩ = some (.bool true) := (blk_cell BK280.out 0).trans rfl
          have hcz43_1 : wc.cell? ⟨gb280, 1, none⟩ = some (.int .i64 a0_1) := (blk_cell BK280.out 1).trans rfl
          have hcz43_2 : wc.cell? ⟨gb280, 2, none⟩ = some (.slice A0_2 l0_2.length c0_2) := (blk_cell BK280.out 2).trans rfl
          have hcz43_3 : wc.cell? ⟨gb280, 3, none⟩ = some (.slice A0_3 l0_3.length c0_3) := (blk_cell BK280.out 3).trans rfl
          have hfz43_0 := blk_frozen BK280.out 0
          have hfz43_1 := blk_frozen BK280.out 1
          have hfz43_2 := blk_frozen BK280.out 2
          have hfz43_3 := blk_frozen BK280.out 3
          try go_wp2
          have n0_ := Aside0.mk (Kd.V_drew HO_281002.out)
          have n1_ := Aside0.mk (Kd.V_drew HO_281003.out)
          have n2_ := Aside0.mk (blk_drew BK280.out)
          have n3_ := Aside0.mk (blk_drew BK281.out)
          have n4_ := Aside0.mk (blk_drew BK282.out)
          have n5_ := Aside0.mk (below_drew1 HB.out)
          clear HO_281002
          clear HO_281003
          clear BK280
          clear BK281
          clear BK282
          clear HB
          have HO_281002 := n0_
          have HO_281003 := n1_
          have BK280 := n2_
          have BK281 := n3_
          have BK282 := n4_
          have HB := n5_
          clear n0_ n1_ n2_ n3_ n4_ n5_
          refine start_ (n := 14) (S := fun w' => w'.cell? ⟨gb280, 0, none⟩ = some (.bool true) ∧ w'.cell? ⟨gb280, 1, none⟩ = some (.int .i64 a0_1) ∧ w'.cell? ⟨gb280, 2, none⟩ = some (.slice A0_2 l0_2.length c0_2) ∧ w'.cell? ⟨gb280, 3, none⟩ = some (.slice A0_3 l0_3.length c0_3) ∧ w'.cell? ⟨gb281, 0, none⟩ = some (.bool a2_0) ∧ w'.cell? ⟨gb281, 1, none⟩ = some (.int .i64 a2_1) ∧ w'.cell? ⟨gb281, 2, none⟩ = some (.slice A2_2 l2_2.length c2_2) ∧ w'.cell? ⟨gb281, 3, none⟩ = some (.slice A2_3 l2_3.length c2_3)) (ds := [11, 13]) #[false, false, false, false, false, false, false, false, false, false, false, false, false, false] (by kernel_rfl) rfl rfl ⟨(blk_cell BK280.out 0).trans rfl, (blk_cell BK280.out 1).trans rfl, (blk_cell BK280.out 2).trans rfl, (blk_cell BK280.out 3).trans rfl, (blk_cell BK281.out 0).trans rfl, (blk_cell BK281.out 1).trans rfl, (blk_cell BK281.out 2).trans rfl, (blk_cell BK281.out 3).trans rfl⟩ (fun hHeld => ?_); refine with_tabW node_Join.tab5 node_Join.bits5 (fun HT_ HW_ => ?_)
          generalize wc.drew = w44 at HO_281002 HO_281003 BK280 BK281 BK282 HB hHeld ⊢
          refine pure_ (i := 0) (N := some 32) (v := ?_) (a' := ?_) #[true, false, false, false, false, false, false, false, false, false, false, false, false, false] rfl rfl (any_of HT_.out (by kernel_rfl)) (fun _ _ _ h => h) (Or.inl ⟨by rfl, ?_⟩) ?_ ?_
          rotate_left
          · intro w'
            go_simp
            with_reducible rfl
          rotate_left
          · simp only [Act.put, List.setIfInBounds_toArray, List.set_cons_zero, List.set_cons_succ, i64_w, i32_w]
            rfl
          refine pure_ (i := 2) (N := some 34) (v := ?_) (a' := ?_) #[true, false, true, false, false, false, false, false, false, false, false, false, false, false] rfl rfl (any_of HT_.out (by kernel_rfl)) (fun _ _ _ h => h) (Or.inl ⟨by rfl, ?_⟩) ?_ ?_
          rotate_left
          · intro w'
            go_simp
            with_reducible rfl
          rotate_left
          · simp only [Act.put, List.setIfInBounds_toArray, List.set_cons_zero, List.set_cons_succ, i64_w, i32_w]
            rfl
          refine pure_ (i := 5) (N := some 37) (v := ?_) (a' := ?_) #[true, false, true, false, false, true, false, false, false, false, false, false, false, false] rfl rfl (any_of HT_.out (by kernel_rfl)) (fun _ _ _ h => h) (Or.inl ⟨by rfl, ?_⟩) ?_ ?_
          rotate_left
          · intro w'
            go_simp
            with_reducible rfl
          rotate_left
          · simp only [Act.put, List.setIfInBounds_toArray, List.set_cons_zero, List.set_cons_succ, i64_w, i32_w]
            rfl
          refine pure_ (i := 7) (N := some 39) (v := ?_) (a' := ?_) #[true, false, true, false, false, true, false, true, false, false, false, false, false, false] rfl rfl (any_of HT_.out (by kernel_rfl)) (fun _ _ _ h => h) (Or.inl ⟨by rfl, ?_⟩) ?_ ?_
          rotate_left
          · intro w'
            go_simp
            with_reducible rfl
          rotate_left
          · simp only [Act.put, List.setIfInBounds_toArray, List.set_cons_zero, List.set_cons_succ, i64_w, i32_w]
            rfl
          refine take_ (i := 1) (N := some 33) (v := ?_) (a' := ?_) #[true, true, true, false, false, true, false, true, false, false, false, false, false, false] rfl rfl (take_ofW HT_.out HW_.out (by kernel_rfl)) (fun _ _ _ h => h) (Or.inl ⟨by rfl, ?_⟩) hHeld ?_ ?_
          rotate_left
          · rintro w' ⟨s0, s1, s2, s3, s4, s5, s6, s7⟩
            go_simp
            with_reducible rfl
          rotate_left
          · simp only [Act.put, List.setIfInBounds_toArray, List.set_cons_zero, List.set_cons_succ, i64_w, i32_w]
            rfl
          refine take_ (i := 3) (N := some 35) (v := ?_) (a' := ?_) #[true, true, true, true, false, true, false, true, false, false, false, false, false, false] rfl rfl (take_ofW HT_.out HW_.out (by kernel_rfl)) (fun _ _ _ h => h) (Or.inl ⟨by rfl, ?_⟩) hHeld ?_ ?_
          rotate_left
          · rintro w' ⟨s0, s1, s2, s3, s4, s5, s6, s7⟩
            go_simp
            with_reducible rfl
          rotate_left
          · simp only [Act.put, List.setIfInBounds_toArray, List.set_cons_zero, List.set_cons_succ, i64_w, i32_w]
            rfl
          refine take_ (i := 6) (N := some 38) (v := ?_) (a' := ?_) #[true, true, true, true, false, true, true, true, false, false, false, false, false, false] rfl rfl (take_ofW HT_.out HW_.out (by kernel_rfl)) (fun _ _ _ h => h) (Or.inl ⟨by rfl, ?_⟩) hHeld ?_ ?_
          rotate_left
          · rintro w' ⟨s0, s1, s2, s3, s4, s5, s6, s7⟩
            go_simp
            with_reducible rfl
          rotate_left
          · simp only [Act.put, List.setIfInBounds_toArray, List.set_cons_zero, List.set_cons_succ, i64_w, i32_w]
            rfl
          refine take_ (i := 8) (N := some 40) (v := ?_) (a' := ?_) #[true, true, true, true, false, true, true, true, true, false, false, false, false, false] rfl rfl (take_ofW HT_.out HW_.out (by kernel_rfl)) (fun _ _ _ h => h) (Or.inl ⟨by rfl, ?_⟩) hHeld ?_ ?_
          rotate_left
          · rintro w' ⟨s0, s1, s2, s3, s4, s5, s6, s7⟩
            go_simp
            with_reducible rfl
          rotate_left
          · simp only [Act.put, List.setIfInBounds_toArray, List.set_cons_zero, List.set_cons_succ, i64_w, i32_w]
            rfl
          refine one_ (i := 4) (N := some 36) #[true, true, true, true, true, true, true, true, true, false, false, false, false, false] rfl rfl (one_of HT_.out (by kernel_rfl)) (by decide) (fun K hK => ?_)
          refine goes_ Try.func105 (by kernel_rfl) rfl #[.slice A0_2 l0_2.length c0_2, .slice A2_2 l2_2.length c2_2] (by rfl) rfl rfl (by (try simp only [List.map_toArray, List.map_cons, List.map_nil]); first | done | rfl | (simp only [List.length_drop, List.length_take]; rfl)) ?_
          with_reducible refine (node_copied_string.calls _ _ l0_2 _ _ l2_2 t285 _ ?side1 ?side2 ?side3 ?side4 A39.out).mono ?_
          (case side1 => repeat (first | exact (Kd.V_reads' HO_281002.out).2.2 | (with_reducible refine Kd.C_alloc ?_ _) | (with_reducible refine Kd.C_drewN ?_ _) | (with_reducible refine Kd.C_drew ?_)))
          (case side2 => exact (Kd.V_reads' HO_281002.out).2.1)
          (case side3 => repeat (first | exact (Kd.C_below HR2_2.out HB.out) | (with_reducible refine Kd.C_alloc ?_ _) | (with_reducible refine Kd.C_drewN ?_ _) | (with_reducible refine Kd.C_drew ?_)))
          (case side4 => exact HC2_2.out)
          rintro e w45 ⟨v286, rfl, ho0, hb⟩
          refine ⟨_, rfl, ?_⟩
          have n0_ := Aside0.mk (Kd.V_elder' (by (with_reducible repeat (first | apply Kd.V_alloc | apply Kd.V_drewN | apply Kd.V_drew)); exact HO_281002.out) (Kd.R_base ho0) hb)
          have n1_ := Aside0.mk (Kd.V_elder' (by (with_reducible repeat (first | apply Kd.V_alloc | apply Kd.V_drewN | apply Kd.V_drew)); exact HO_281003.out) (Kd.R_base ho0) hb)
          have n2_ := Aside0.mk (Kd.R_lower (Kd.R_newM (M := fun k_ => (w.heap.size ≤ k_)) ho0 (below_size (by repeat (first | (with_reducible first | exact HB.out | apply below_alloc | apply pw_below_drewN | apply below_drew1 | refine below_set ?_ GE280.out | refine below_set ?_ GE281.out | refine below_set ?_ GE282.out) | exact HB.out))) (fun k_ h_ => h_)) (below_size (by repeat (first | (with_reducible first | exact HB.out | apply below_alloc | apply pw_below_drewN | apply below_drew1 | refine below_set ?_ GE280.out | refine below_set ?_ GE281.out | refine below_set ?_ GE282.out) | exact HB.out))))
          have n3_ := Aside0.mk (blk_below (g := gb280) (o := .cells #[.bool true, .int .i64 a0_1, .slice A0_2 l0_2.length c0_2, .slice A0_3 l0_3.length c0_3] 59 (0, 0)) (by (with_reducible repeat (first | refine blk_drewN ?_ _ | refine blk_drew ?_ | refine blk_alloc ?_ _)); exact BK280.out) hb)
          have n4_ := Aside0.mk (blk_below (g := gb281) (o := .cells #[.bool a2_0, .int .i64 a2_1, .slice A2_2 l2_2.length c2_2, .slice A2_3 l2_3.length c2_3] 59 (0, 0)) (by (with_reducible repeat (first | refine blk_drewN ?_ _ | refine blk_drew ?_ | refine blk_alloc ?_ _)); exact BK281.out) hb)
          have n5_ := Aside0.mk (blk_below (g := gb282) (o := .cells #[.bool false, .int .i64 0, .slice none 0 0, .slice none 0 0] 59 (0, 0)) (by (with_reducible repeat (first | refine blk_drewN ?_ _ | refine blk_drew ?_ | refine blk_alloc ?_ _)); exact BK282.out) hb)
          have n6_ := Aside0.mk (below_step (by repeat (first | (with_reducible first | exact HB.out | apply below_alloc | apply pw_below_drewN | apply below_drew1 | refine below_set ?_ GE280.out | refine below_set ?_ GE281.out | refine below_set ?_ GE282.out) | exact HB.out)) hb)
          clear HO_281002
          clear HO_281003
          clear BK280
          clear BK281
          clear BK282
          clear HB
          have HO_281002 := n0_
          have HO_281003 := n1_
          have HO287 := n2_
          have BK280 := n3_
          have BK281 := n4_
          have BK282 := n5_
          have HB := n6_
          clear n0_ n1_ n2_ n3_ n4_ n5_ n6_
          (try clear hb)
          (try clear hb2)
          (try clear hk)
          (try clear hi)
          (try clear ho0)
          refine hK.out _ _ ⟨(blk_cell BK280.out 0).trans rfl, (blk_cell BK280.out 1).trans rfl, (blk_cell BK280.out 2).trans rfl, (blk_cell BK280.out 3).trans rfl, (blk_cell BK281.out 0).trans rfl, (blk_cell BK281.out 1).trans rfl, (blk_cell BK281.out 2).trans rfl, (blk_cell BK281.out 3).trans rfl⟩ (fun hHeld => ?_)
          clear hK K
          refine norm_ (a' := ?_) ?_ ?_
          rotate_left
          · show Act.put _ (some 36) _ = _
            simp only [Act.put, List.setIfInBounds_toArray, List.set_cons_zero, List.set_cons_succ, i64_w, i32_w]
            rfl
          refine pure_ (i := 10) (N := some 42) (v := ?_) (a' := ?_) #[true, true, true, true, true, true, true, true, true, false, true, false, false, false] rfl rfl (any_of HT_.out (by kernel_rfl)) (fun _ _ _ h => h) (Or.inl ⟨by rfl, ?_⟩) ?_ ?_
          rotate_left
          · intro w'
            go_simp
            with_reducible rfl
          rotate_left
          · simp only [Act.put, List.setIfInBounds_toArray, List.set_cons_zero, List.set_cons_succ, i64_w, i32_w]
            rfl
          refine one_ (i := 9) (N := some 41) #[true, true, true, true, true, true, true, true, true, true, true, false, false, false] rfl rfl (one_of HT_.out (by kernel_rfl)) (by decide) (fun K hK => ?_)
          refine goes_ Try.func106 (by kernel_rfl) rfl #[.slice A0_3 l0_3.length c0_3, .slice A2_3 l2_3.length c2_3] (by rfl) rfl rfl (by (try simp only [List.map_toArray, List.map_cons, List.map_nil]); first | done | rfl | (simp only [List.length_drop, List.length_take]; rfl)) ?_
          with_reducible refine (api_Ref_106.calls _ _ l0_3 _ _ l2_3 t288 _ ?side1 ?side2 ?side3 ?side4 A40.out).mono ?_
          (case side1 => repeat (first | exact (Kd.V_reads' HO_281003.out).2.2 | (with_reducible refine Kd.C_alloc ?_ _) | (with_reducible refine Kd.C_drewN ?_ _) | (with_reducible refine Kd.C_drew ?_)))
          (case side2 => exact (Kd.V_reads' HO_281003.out).2.1)
          (case side3 => repeat (first | exact (Kd.C_below HR2_3.out HB.out) | (with_reducible refine Kd.C_alloc ?_ _) | (with_reducible refine Kd.C_drewN ?_ _) | (with_reducible refine Kd.C_drew ?_)))
          (case side4 => exact HC2_3.out)
          rintro e w46 ⟨v289, rfl, ho0, hb⟩
          refine ⟨_, rfl, ?_⟩
          have n0_ := Aside0.mk (Kd.V_elder' (by (with_reducible repeat (first | apply Kd.V_alloc | apply Kd.V_drewN | apply Kd.V_drew)); exact HO_281002.out) (Kd.R_base ho0) hb)
          have n1_ := Aside0.mk (Kd.V_elder' (by (with_reducible repeat (first | apply Kd.V_alloc | apply Kd.V_drewN | apply Kd.V_drew)); exact HO_281003.out) (Kd.R_base ho0) hb)
          have n2_ := Aside0.mk (Kd.R_below (by (with_reducible repeat (first | apply Kd.R_alloc | apply Kd.R_drewN | apply Kd.R_drew)); exact HO287.out) hb)
          have n3_ := Aside0.mk (Kd.R_lower (Kd.R_newM (M := fun k_ => (w.heap.size ≤ k_)) ho0 (below_size (by repeat (first | (with_reducible first | exact HB.out | apply below_alloc | apply pw_below_drewN | apply below_drew1 | refine below_set ?_ GE280.out | refine below_set ?_ GE281.out | refine below_set ?_ GE282.out) | exact HB.out))) (fun k_ h_ => h_)) (below_size (by repeat (first | (with_reducible first | exact HB.out | apply below_alloc | apply pw_below_drewN | apply below_drew1 | refine below_set ?_ GE280.out | refine below_set ?_ GE281.out | refine below_set ?_ GE282.out) | exact HB.out))))
          have n4_ := Aside0.mk (blk_below (g := gb280) (o := .cells #[.bool true, .int .i64 a0_1, .slice A0_2 l0_2.length c0_2, .slice A0_3 l0_3.length c0_3] 59 (0, 0)) (by (with_reducible repeat (first | refine blk_drewN ?_ _ | refine blk_drew ?_ | refine blk_alloc ?_ _)); exact BK280.out) hb)
          have n5_ := Aside0.mk (blk_below (g := gb281) (o := .cells #[.bool a2_0, .int .i64 a2_1, .slice A2_2 l2_2.length c2_2, .slice A2_3 l2_3.length c2_3] 59 (0, 0)) (by (with_reducible repeat (first | refine blk_drewN ?_ _ | refine blk_drew ?_ | refine blk_alloc ?_ _)); exact BK281.out) hb)
          have n6_ := Aside0.mk (blk_below (g := gb282) (o := .cells #[.bool false, .int .i64 0, .slice none 0 0, .slice none 0 0] 59 (0, 0)) (by (with_reducible repeat (first | refine blk_drewN ?_ _ | refine blk_drew ?_ | refine blk_alloc ?_ _)); exact BK282.out) hb)
          have n7_ := Aside0.mk (below_step (by repeat (first | (with_reducible first | exact HB.out | apply below_alloc | apply pw_below_drewN | apply below_drew1 | refine below_set ?_ GE280.out | refine below_set ?_ GE281.out | refine below_set ?_ GE282.out) | exact HB.out)) hb)
          clear HO_281002
          clear HO_281003
          clear HO287
          clear BK280
          clear BK281
          clear BK282
          clear HB
          have HO_281002 := n0_
          have HO_281003 := n1_
          have HO287 := n2_
          have HO290 := n3_
          have BK280 := n4_
          have BK281 := n5_
          have BK282 := n6_
          have HB := n7_
          clear n0_ n1_ n2_ n3_ n4_ n5_ n6_ n7_
          (try clear hb)
          (try clear hb2)
          (try clear hk)
          (try clear hi)
          (try clear ho0)
          obtain ⟨Ao47, co47, eo47⟩ := Kd.R_slice HO287.out
          (first | subst eo47 | (injection eo47 with f1_ f2_ f3_; have f4_ := f1_.symm; have f5_ := f3_.symm; clear f1_ f2_ f3_; subst f4_; subst f5_))
          obtain ⟨Ao49, co49, eo49⟩ := Kd.R_slice HO290.out
          (first | subst eo49 | (injection eo49 with f1_ f2_ f3_; have f4_ := f1_.symm; have f5_ := f3_.symm; clear f1_ f2_ f3_; subst f4_; subst f5_))
          refine hK.out _ _ ⟨(blk_cell BK280.out 0).trans rfl, (blk_cell BK280.out 1).trans rfl, (blk_cell BK280.out 2).trans rfl, (blk_cell BK280.out 3).trans rfl, (blk_cell BK281.out 0).trans rfl, (blk_cell BK281.out 1).trans rfl, (blk_cell BK281.out 2).trans rfl, (blk_cell BK281.out 3).trans rfl⟩ (fun hHeld => ?_)
          clear hK K
          refine norm_ (a' := ?_) ?_ ?_
          rotate_left
          · show Act.put _ (some 41) _ = _
            simp only [Act.put, List.setIfInBounds_toArray, List.set_cons_zero, List.set_cons_succ, i64_w, i32_w]
            rfl
          refine last_ (i := 11) (N := none) #[true, true, true, true, true, true, true, true, true, true, true, true, false, false] rfl rfl (one_of HT_.out (by kernel_rfl)) (by decide) (fun K hK => ?_)
          have hs48 : w46.cell? ⟨gb280, 2, none⟩ = some (.slice A0_2 l0_2.length c0_2) := (blk_cell BK280.out 2).trans rfl
          have hfs48 := blk_frozen BK280.out 2
          have hns48_1 := NB281_280.out
          have hns48_2 := NB282_280.out
          have hms48_1 := NB280_281.out
          have hms48_2 := NB280_282.out
          refine skip_ (w1 := ?_) (by rfl) rfl ?_ ?_
          rotate_left
          · go_simp
            rfl
          refine hK.out _ _ ?_
          clear hK K
          refine pure_ (i := 12) (N := some 43) (v := ?_) (a' := ?_) #[true, true, true, true, true, true, true, true, true, true, true, true, true, false] rfl rfl (any_of HT_.out (by kernel_rfl)) (fun _ _ _ h => h) (Or.inl ⟨by rfl, ?_⟩) ?_ ?_
          rotate_left
          · intro w'
            go_simp
            with_reducible rfl
          rotate_left
          · simp only [Act.put, List.setIfInBounds_toArray, List.set_cons_zero, List.set_cons_succ, i64_w, i32_w]
            rfl
          refine last_ (i := 13) (N := none) #[true, true, true, true, true, true, true, true, true, true, true, true, true, true] rfl rfl (one_of HT_.out (by kernel_rfl)) (by decide) (fun K hK => ?_)
          have hs50 : w46.cell? ⟨gb280, 3, none⟩ = some (.slice A0_3 l0_3.length c0_3) := (blk_cell BK280.out 3).trans rfl
          have hfs50 := blk_frozen BK280.out 3
          have hns50_1 := NB281_280.out
          have hns50_2 := NB282_280.out
          have hms50_1 := NB280_281.out
          have hms50_2 := NB280_282.out
          refine skip_ (w1 := ?_) (by rfl) rfl ?_ ?_
          rotate_left
          · go_simp
            rfl
          refine hK.out _ _ ?_
          clear hK K
          refine done_ (done_of HT_.out (by kernel_rfl)) ?_
          have hcz51_0 : w46.cell? ⟨gb280, 0, none⟩ = some (.bool true) := (blk_cell BK280.out 0).trans rfl
          have hcz51_1 : w46.cell? ⟨gb280, 1, none⟩ = some (.int .i64 a0_1) := (blk_cell BK280.out 1).trans rfl
          have hcz51_2 : w46.cell? ⟨gb280, 2, none⟩ = some (.slice A0_2 l0_2.length c0_2) := (blk_cell BK280.out 2).trans rfl
          have hcz51_3 : w46.cell? ⟨gb280, 3, none⟩ = some (.slice A0_3 l0_3.length c0_3) := (blk_cell BK280.out 3).trans rfl
          have hfz51_0 := blk_frozen BK280.out 0
          have hfz51_1 := blk_frozen BK280.out 1
          have hfz51_2 := blk_frozen BK280.out 2
          have hfz51_3 := blk_frozen BK280.out 3
          have hnb52 := NB282_281.out
          have hnc52 := NB281_282.out
          have hcz53_0 : w46.cell? ⟨gb282, 0, none⟩ = some (.bool false) := (blk_cell BK282.out 0).trans rfl
          have hcz53_1 : w46.cell? ⟨gb282, 1, none⟩ = some (.int .i64 0) := (blk_cell BK282.out 1).trans rfl
          have hcz53_2 : w46.cell? ⟨gb282, 2, none⟩ = some (.slice none 0 0) := (blk_cell BK282.out 2).trans rfl
          have hcz53_3 : w46.cell? ⟨gb282, 3, none⟩ = some (.slice none 0 0) := (blk_cell BK282.out 3).trans rfl
          have hfz53_0 := blk_frozen BK282.out 0
          have hfz53_1 := blk_frozen BK282.out 1
          have hfz53_2 := blk_frozen BK282.out 2
          have hfz53_3 := blk_frozen BK282.out 3
          try go_wp2
          refine bodyPost_ret (results_cell_row rfl _ _ gb282 59 #[.bool true, .int .i64 (wrap64 (a0_1 + 1)), .slice Ao47 t285.length co47, .slice Ao49 t288.length co49] (0, 0) _ rfl (by (with_reducible repeat (first | refine blk_drewN ?_ _ | refine blk_drew ?_ | refine blk_alloc ?_ _)); refine blk_put (cs := #[.bool true, .int .i64 (wrap64 (a0_1 + 1)), .slice Ao47 t285.length co47, .slice none 0 0]) ?_ 3 _ rfl; (with_reducible repeat (first | refine blk_drewN ?_ _ | refine blk_drew ?_ | refine blk_alloc ?_ _)); refine blk_put (cs := #[.bool true, .int .i64 (wrap64 (a0_1 + 1)), .slice none 0 0, .slice none 0 0]) ?_ 2 _ rfl; (with_reducible repeat (first | refine blk_drewN ?_ _ | refine blk_drew ?_ | refine blk_alloc ?_ _)); refine blk_put (cs := #[.bool true, .int .i64 0, .slice none 0 0, .slice none 0 0]) ?_ 1 _ rfl; (with_reducible repeat (first | refine blk_drewN ?_ _ | refine blk_drew ?_ | refine blk_alloc ?_ _)); refine blk_put (cs := #[.bool false, .int .i64 0, .slice none 0 0, .slice none 0 0]) ?_ 0 _ rfl; (with_reducible repeat (first | refine blk_drewN ?_ _ | refine blk_drew ?_ | refine blk_alloc ?_ _)); refine blk_far ?_ NB282_280.out _; (with_reducible repeat (first | refine blk_drewN ?_ _ | refine blk_drew ?_ | refine blk_alloc ?_ _)); refine blk_far ?_ NB282_280.out _; (with_reducible repeat (first | refine blk_drewN ?_ _ | refine blk_drew ?_ | refine blk_alloc ?_ _)); refine blk_far ?_ NB282_280.out _; (with_reducible repeat (first | refine blk_drewN ?_ _ | refine blk_drew ?_ | refine blk_alloc ?_ _)); exact BK282.out) Try.underlying59 rfl (by kernel_rfl)) rfl ?_
          exact ⟨_, _, by first | rfl | (simp [errW_none, errW_some] <;> rfl) | (simp [*, errW_none, errW_some] <;> rfl), Kd.V_mono (Kd.R_V (by (with_reducible repeat (first | apply Kd.R_alloc | apply Kd.R_drewN | apply Kd.R_drew)); exact Kd.R_mono (Kd.R_far (p := ⟨gb282, 3, none⟩) (Kd.R_far (p := ⟨gb282, 2, none⟩) (Kd.R_far (p := ⟨gb282, 1, none⟩) (Kd.R_far (p := ⟨gb282, 0, none⟩) (Kd.R_far (p := ⟨gb280, 1, none⟩) (Kd.R_far (p := ⟨gb280, 3, none⟩) (Kd.R_far (p := ⟨gb280, 2, none⟩) (Kd.R_types (Kd.R_types HO287.out BK280.out (by decide)) BK282.out (by decide)) (fun _ hk => hk.1.2) (.slice Ao47 t285.length co47)) (fun _ hk => hk.1.2) (.slice Ao49 t288.length co49)) (fun _ hk => hk.1.2) (.int .i64 (wrap64 (a0_1 + 1)))) (fun _ hk => hk.2) (.bool true)) (fun _ hk => hk.2) (.int .i64 (wrap64 (a0_1 + 1)))) (fun _ hk => hk.2) (.slice Ao47 t285.length co47)) (fun _ hk => hk.2) (.slice Ao49 t288.length co49)) (fun _ hk => hk.1.1.1))) (fun k_ hk => by first | exact ⟨(.inr (hk.1)), hk.2⟩ | exact (.inr (hk))), Kd.V_mono (Kd.R_V (by (with_reducible repeat (first | apply Kd.R_alloc | apply Kd.R_drewN | apply Kd.R_drew)); exact Kd.R_mono (Kd.R_far (p := ⟨gb282, 3, none⟩) (Kd.R_far (p := ⟨gb282, 2, none⟩) (Kd.R_far (p := ⟨gb282, 1, none⟩) (Kd.R_far (p := ⟨gb282, 0, none⟩) (Kd.R_far (p := ⟨gb280, 1, none⟩) (Kd.R_far (p := ⟨gb280, 3, none⟩) (Kd.R_far (p := ⟨gb280, 2, none⟩) (Kd.R_types (Kd.R_types HO290.out BK280.out (by decide)) BK282.out (by decide)) (fun _ hk => hk.1.2) (.slice Ao47 t285.length co47)) (fun _ hk => hk.1.2) (.slice Ao49 t288.length co49)) (fun _ hk => hk.1.2) (.int .i64 (wrap64 (a0_1 + 1)))) (fun _ hk => hk.2) (.bool true)) (fun _ hk => hk.2) (.int .i64 (wrap64 (a0_1 + 1)))) (fun _ hk => hk.2) (.slice Ao47 t285.length co47)) (fun _ hk => hk.2) (.slice Ao49 t288.length co49)) (fun _ hk => hk.1.1.1))) (fun k_ hk => by first | exact ⟨(.inr (hk.1)), hk.2⟩ | exact (.inr (hk))), by repeat (first | (with_reducible first | exact HB.out | apply below_alloc | apply pw_below_drewN | apply below_drew1 | refine below_set ?_ GE280.out | refine below_set ?_ GE281.out | refine below_set ?_ GE282.out) | exact HB.out)⟩
        · replace c38 := Bool.eq_false_iff.mpr c38
          subst c38
          have H1 : ((node_copied_string.f l0_2 (([a1] : List ByteArray))).bind fun t294 => ((node_copied_string.f t294 l2_2).bind fun t297 => ((api_Ref_106.f l0_3 l2_3).bind fun t300 => (some (false, wrap64 (a0_1 + 1), t297, t300))))) = some (r1, r2, r3, r4) := by rw [if_neg (show ¬ (false = true) by decide)] at H; exact H
          clear H
          have H := H1
          clear H1
          obtain ⟨y291, hy291⟩ : ∃ y_ : List ByteArray, y_ = (([a1] : List ByteArray)) := ⟨_, rfl⟩
          replace H : ((node_copied_string.f l0_2 y291).bind fun t294 => ((node_copied_string.f t294 l2_2).bind fun t297 => ((api_Ref_106.f l0_3 l2_3).bind fun t300 => (some (false, wrap64 (a0_1 + 1), t297, t300))))) = some (r1, r2, r3, r4) := by first | (rw [hy291]; with_reducible exact H) | (have H2_ := (Option.bind_some _ _).symm.trans H; rw [hy291]; with_reducible exact H2_) | (have H2_ := (Option.bind_some _ _).symm.trans H; with_reducible exact H2_) | with_reducible exact H | (rw [hy291]; exact H) | exact H
          have Ny291 := Aside0.mk hy291
          clear hy291
          replace H := Option.bind_eq_some_iff.mp H
          obtain ⟨t294, A540, H⟩ := H
          replace H : ((node_copied_string.f t294 l2_2).bind fun t297 => ((api_Ref_106.f l0_3 l2_3).bind fun t300 => (some (false, wrap64 (a0_1 + 1), t297, t300)))) = some (r1, r2, r3, r4) := H
          have A54 := Aside0.mk A540
          clear A540
          replace H := Option.bind_eq_some_iff.mp H
          obtain ⟨t297, A550, H⟩ := H
          replace H : ((api_Ref_106.f l0_3 l2_3).bind fun t300 => (some (false, wrap64 (a0_1 + 1), t297, t300))) = some (r1, r2, r3, r4) := H
          have A55 := Aside0.mk A550
          clear A550
          replace H := Option.bind_eq_some_iff.mp H
          obtain ⟨t300, A560, H⟩ := H
          replace H : (some (false, wrap64 (a0_1 + 1), t297, t300)) = some (r1, r2, r3, r4) := H
          have A56 := Aside0.mk A560
          clear A560
          simp only [Option.some.injEq, Prod.mk.injEq] at H
          obtain ⟨rfl, rfl, rfl, rfl⟩ := H
          have hnb57 := NB280_281.out
          have hnc57 := NB281_280.out
          have hnb58 := NB280_282.out
          have hnc58 := NB282_280.out
          have hcz59_0 : wc.cell? ⟨gb280, 0, none⟩ = some (.bool false) := (blk_cell BK280.out 0).trans rfl
          have hcz59_1 : wc.cell? ⟨gb280, 1, none⟩ = some (.int .i64 a0_1) := (blk_cell BK280.out 1).trans rfl
          have hcz59_2 : wc.cell? ⟨gb280, 2, none⟩ = some (.slice A0_2 l0_2.length c0_2) := (blk_cell BK280.out 2).trans rfl
          have hcz59_3 : wc.cell? ⟨gb280, 3, none⟩ = some (.slice A0_3 l0_3.length c0_3) := (blk_cell BK280.out 3).trans rfl
          have hfz59_0 := blk_frozen BK280.out 0
          have hfz59_1 := blk_frozen BK280.out 1
          have hfz59_2 := blk_frozen BK280.out 2
          have hfz59_3 := blk_frozen BK280.out 3
          try go_wp2_with (first | ((with_reducible refine gate_dst (N := 29) rfl ?_); refine Kd.R_lit Kd.string _ 9 ?hg (N := 29) ?hd (xs := ([a1] : List ByteArray)) (inner := [.string a1]) (ok := fun _ => True) (okp := fun _ => True) ?hr ?hp (fun _ hk => hk) trivial (Below.refl _ _) (Nat.le_refl _) (by simp) ?_; (case hd => rfl); (case hg => rfl); (case hr => first | (go_simp; done) | (go_simp; rfl)); (case hp => exact (Reps.one (show Kd.M Kd.string _ _ _ a1 [.string a1] from rfl) (Reps.none _ _))); intro v292 w60 ho61 hb hg_ hnew_; clear hg_ hnew_; (first | rw [← Ny291.out] at ho61 | (simp only [Int.reduceToNat] at ho61; rw [← Ny291.out] at ho61)); have n0_ := Aside0.mk (Kd.V_elder' (by (with_reducible repeat (first | apply Kd.V_alloc | apply Kd.V_drewN | apply Kd.V_drew)); exact HO_281002.out) (Kd.R_base ho61) hb); have n1_ := Aside0.mk (Kd.V_elder' (by (with_reducible repeat (first | apply Kd.V_alloc | apply Kd.V_drewN | apply Kd.V_drew)); exact HO_281003.out) (Kd.R_base ho61) hb); have n2_ := Aside0.mk (Kd.R_lower (Kd.R_newM (M := fun k_ => (w.heap.size ≤ k_)) ho61 (below_size (by repeat (first | (with_reducible first | exact HB.out | apply below_alloc | apply pw_below_drewN | apply below_drew1 | refine below_set ?_ GE280.out | refine below_set ?_ GE281.out | refine below_set ?_ GE282.out) | exact HB.out))) (fun k_ h_ => h_)) (below_size (by repeat (first | (with_reducible first | exact HB.out | apply below_alloc | apply pw_below_drewN | apply below_drew1 | refine below_set ?_ GE280.out | refine below_set ?_ GE281.out | refine below_set ?_ GE282.out) | exact HB.out)))); have n3_ := Aside0.mk (blk_below (g := gb280) (o := .cells #[.bool false, .int .i64 a0_1, .slice A0_2 l0_2.length c0_2, .slice A0_3 l0_3.length c0_3] 59 (0, 0)) (by (with_reducible repeat (first | refine blk_drewN ?_ _ | refine blk_drew ?_ | refine blk_alloc ?_ _)); exact BK280.out) hb); have n4_ := Aside0.mk (blk_below (g := gb281) (o := .cells #[.bool a2_0, .int .i64 a2_1, .slice A2_2 l2_2.length c2_2, .slice A2_3 l2_3.length c2_3] 59 (0, 0)) (by (with_reducible repeat (first | refine blk_drewN ?_ _ | refine blk_drew ?_ | refine blk_alloc ?_ _)); exact BK281.out) hb); have n5_ := Aside0.mk (blk_below (g := gb282) (o := .cells #[.bool false, .int .i64 0, .slice none 0 0, .slice none 0 0] 59 (0, 0)) (by (with_reducible repeat (first | refine blk_drewN ?_ _ | refine blk_drew ?_ | refine blk_alloc ?_ _)); exact BK282.out) hb); have n6_ := Aside0.mk (below_step (by repeat (first | (with_reducible first | exact HB.out | apply below_alloc | apply pw_below_drewN | apply below_drew1 | refine below_set ?_ GE280.out | refine below_set ?_ GE281.out | refine below_set ?_ GE282.out) | exact HB.out)) hb); clear HO_281002; clear HO_281003; clear BK280; clear BK281; clear BK282; clear HB; have HO_281002 := n0_; have HO_281003 := n1_; have HO293 := n2_; have BK280 := n3_; have BK281 := n4_; have BK282 := n5_; have HB := n6_; clear n0_ n1_ n2_ n3_ n4_ n5_ n6_; clear hb ho61; obtain ⟨Ao62, co62, eo62⟩ := Kd.R_slice HO293.out; subst eo62) | ((with_reducible refine gate_callee (f := 105) rfl ?_); refine goesL_ (some 30) rfl rfl Try.func105 (by kernel_rfl) rfl #[.slice A0_2 l0_2.length c0_2, .slice Ao62 y291.length co62] rfl (by (try simp only [List.map_toArray, List.map_cons, List.map_nil]); first | done | rfl | (simp only [List.length_drop, List.length_take]; rfl)) ?_; (with_reducible refine (node_copied_string.calls _ _ l0_2 _ _ y291 t294 _ ?side1 ?side2 ?side3 ?side4 A54.out).mono ?_); (case side1 => repeat (first | exact (Kd.V_reads' HO_281002.out).2.2 | (with_reducible refine Kd.C_alloc ?_ _) | (with_reducible refine Kd.C_drewN ?_ _) | (with_reducible refine Kd.C_drew ?_))); (case side2 => exact (Kd.V_reads' HO_281002.out).2.1); (case side3 => repeat (first | exact (Kd.R_reads' HO293.out).2.2 | (with_reducible refine Kd.C_alloc ?_ _) | (with_reducible refine Kd.C_drewN ?_ _) | (with_reducible refine Kd.C_drew ?_))); (case side4 => exact (Kd.R_reads' HO293.out).2.1); rintro e w63 ⟨v295, rfl, ho0, hb⟩; refine ⟨_, rfl, ?_⟩; have n0_ := Aside0.mk (Kd.V_elder' (by (with_reducible repeat (first | apply Kd.V_alloc | apply Kd.V_drewN | apply Kd.V_drew)); exact HO_281002.out) (Kd.R_base ho0) hb); have n1_ := Aside0.mk (Kd.V_elder' (by (with_reducible repeat (first | apply Kd.V_alloc | apply Kd.V_drewN | apply Kd.V_drew)); exact HO_281003.out) (Kd.R_base ho0) hb); have n2_ := Aside0.mk (Kd.R_elder' (by (with_reducible repeat (first | apply Kd.R_alloc | apply Kd.R_drewN | apply Kd.R_drew)); exact HO293.out) (Kd.R_base ho0) hb); have n3_ := Aside0.mk (Kd.R_lower (Kd.R_new' (Kd.R_newM (M := fun k_ => (w.heap.size ≤ k_)) ho0 (below_size (by repeat (first | (with_reducible first | exact HB.out | apply below_alloc | apply pw_below_drewN | apply below_drew1 | refine below_set ?_ GE280.out | refine below_set ?_ GE281.out | refine below_set ?_ GE282.out) | exact HB.out))) (fun k_ h_ => h_)) (Kd.R_lt (by (with_reducible repeat (first | apply Kd.R_alloc | apply Kd.R_drewN | apply Kd.R_drew)); exact HO293.out))) (below_size (by repeat (first | (with_reducible first | exact HB.out | apply below_alloc | apply pw_below_drewN | apply below_drew1 | refine below_set ?_ GE280.out | refine below_set ?_ GE281.out | refine below_set ?_ GE282.out) | exact HB.out)))); have n4_ := Aside0.mk (blk_below (g := gb280) (o := .cells #[.bool false, .int .i64 a0_1, .slice A0_2 l0_2.length c0_2, .slice A0_3 l0_3.length c0_3] 59 (0, 0)) (by (with_reducible repeat (first | refine blk_drewN ?_ _ | refine blk_drew ?_ | refine blk_alloc ?_ _)); exact BK280.out) hb); have n5_ := Aside0.mk (blk_below (g := gb281) (o := .cells #[.bool a2_0, .int .i64 a2_1, .slice A2_2 l2_2.length c2_2, .slice A2_3 l2_3.length c2_3] 59 (0, 0)) (by (with_reducible repeat (first | refine blk_drewN ?_ _ | refine blk_drew ?_ | refine blk_alloc ?_ _)); exact BK281.out) hb); have n6_ := Aside0.mk (blk_below (g := gb282) (o := .cells #[.bool false, .int .i64 0, .slice none 0 0, .slice none 0 0] 59 (0, 0)) (by (with_reducible repeat (first | refine blk_drewN ?_ _ | refine blk_drew ?_ | refine blk_alloc ?_ _)); exact BK282.out) hb); have n7_ := Aside0.mk (below_step (by repeat (first | (with_reducible first | exact HB.out | apply below_alloc | apply pw_below_drewN | apply below_drew1 | refine below_set ?_ GE280.out | refine below_set ?_ GE281.out | refine below_set ?_ GE282.out) | exact HB.out)) hb); clear HO_281002; clear HO_281003; clear HO293; clear BK280; clear BK281; clear BK282; clear HB; have HO_281002 := n0_; have HO_281003 := n1_; have HO293 := n2_; have HO296 := n3_; have BK280 := n4_; have BK281 := n5_; have BK282 := n6_; have HB := n7_; clear n0_ n1_ n2_ n3_ n4_ n5_ n6_ n7_; (try clear hb); (try clear hb2); (try clear hk); (try clear hi); (try clear ho0); obtain ⟨Ao64, co64, eo64⟩ := Kd.R_slice HO296.out; subst eo64; have hcz65_0 : w63.cell? ⟨gb280, 0, none⟩ = some (.bool false) := (blk_cell BK280.out 0).trans rfl; have hcz65_1 : w63.cell? ⟨gb280, 1, none⟩ = some (.int .i64 a0_1) := (blk_cell BK280.out 1).trans rfl; have hcz65_2 : w63.cell? ⟨gb280, 2, none⟩ = some (.slice A0_2 l0_2.length c0_2) := (blk_cell BK280.out 2).trans rfl; have hcz65_3 : w63.cell? ⟨gb280, 3, none⟩ = some (.slice A0_3 l0_3.length c0_3) := (blk_cell BK280.out 3).trans rfl; have hfz65_0 := blk_frozen BK280.out 0; have hfz65_1 := blk_frozen BK280.out 1; have hfz65_2 := blk_frozen BK280.out 2; have hfz65_3 := blk_frozen BK280.out 3))
          have n0_ : Aside0 (Kd.V Kd.string 9 (w63.setCell ⟨gb280, 2, none⟩ (.slice Ao64 t294.length co64)) w.heap.size (fun k_ => ((P0_2_ k_ ∨ P0_3_ k_) ∨ w.heap.size ≤ k_) ∧ some k_ ≠ (.slice Ao62 y291.length co62 : Value).ownBlock ∧ some k_ ≠ (.slice Ao64 t294.length co64 : Value).ownBlock ∧ k_ ≠ gb280 ∧ k_ ≠ gb281 ∧ k_ ≠ gb282) (.slice A0_2 l0_2.length c0_2) l0_2) := ⟨by (with_reducible repeat (first | apply Kd.V_alloc | apply Kd.V_drewN | apply Kd.V_drew)); exact Kd.V_mono (Kd.V_far (p := ⟨gb280, 2, none⟩) (Kd.V_mono HO_281002.out (fun k_ hk => (⟨hk, hk.1.1.2.1⟩ : _ ∧ k_ ≠ gb280))) (fun _ hk => hk.2) (.slice Ao64 t294.length co64)) (fun _ hk => ⟨hk.1.1.1.1, ⟨hk.1.1.2, ⟨hk.1.2, ⟨hk.1.1.1.2.1, ⟨hk.1.1.1.2.2.1, hk.1.1.1.2.2.2⟩⟩⟩⟩⟩)⟩
          have n1_ : Aside0 (Kd.V k33 33 (w63.setCell ⟨gb280, 2, none⟩ (.slice Ao64 t294.length co64)) w.heap.size (fun k_ => ((P0_2_ k_ ∨ P0_3_ k_) ∨ w.heap.size ≤ k_) ∧ some k_ ≠ (.slice Ao62 y291.length co62 : Value).ownBlock ∧ some k_ ≠ (.slice Ao64 t294.length co64 : Value).ownBlock ∧ k_ ≠ gb280 ∧ k_ ≠ gb281 ∧ k_ ≠ gb282) (.slice A0_3 l0_3.length c0_3) l0_3) := ⟨by (with_reducible repeat (first | apply Kd.V_alloc | apply Kd.V_drewN | apply Kd.V_drew)); exact Kd.V_mono (Kd.V_far (p := ⟨gb280, 2, none⟩) (Kd.V_mono HO_281003.out (fun k_ hk => (⟨hk, hk.1.1.2.1⟩ : _ ∧ k_ ≠ gb280))) (fun _ hk => hk.2) (.slice Ao64 t294.length co64)) (fun _ hk => ⟨hk.1.1.1.1, ⟨hk.1.1.2, ⟨hk.1.2, ⟨hk.1.1.1.2.1, ⟨hk.1.1.1.2.2.1, hk.1.1.1.2.2.2⟩⟩⟩⟩⟩)⟩
          have n2_ : Aside0 (Kd.R Kd.string 9 (w63.setCell ⟨gb280, 2, none⟩ (.slice Ao64 t294.length co64)) w.heap.size (fun k_ => (w.heap.size ≤ k_) ∧ some k_ ≠ (.slice Ao64 t294.length co64 : Value).ownBlock) (.slice Ao62 y291.length co62) y291) := ⟨by (with_reducible repeat (first | apply Kd.R_alloc | apply Kd.R_drewN | apply Kd.R_drew)); exact Kd.R_mono (Kd.R_far (p := ⟨gb280, 2, none⟩) (Kd.R_types HO293.out BK280.out (by decide)) (fun _ hk => hk.2) (.slice Ao64 t294.length co64)) (fun _ hk => ⟨hk.1.1.1, hk.1.2⟩)⟩
          have n3_ : Aside0 (Kd.R Kd.string 9 (w63.setCell ⟨gb280, 2, none⟩ (.slice Ao64 t294.length co64)) w.heap.size (fun k_ => (w.heap.size ≤ k_) ∧ some k_ ≠ (.slice Ao62 y291.length co62 : Value).ownBlock) (.slice Ao64 t294.length co64) t294) := ⟨by (with_reducible repeat (first | apply Kd.R_alloc | apply Kd.R_drewN | apply Kd.R_drew)); exact Kd.R_mono (Kd.R_far (p := ⟨gb280, 2, none⟩) (Kd.R_types HO296.out BK280.out (by decide)) (fun _ hk => hk.2) (.slice Ao64 t294.length co64)) (fun _ hk => ⟨hk.1.1.1, hk.1.2⟩)⟩
          have n4_ : Aside0 ((w63.setCell ⟨gb280, 2, none⟩ (.slice Ao64 t294.length co64)).heap[gb280]? = some (.cells #[.bool false, .int .i64 a0_1, .slice Ao64 t294.length co64, .slice A0_3 l0_3.length c0_3] 59 (0, 0))) := ⟨by (with_reducible repeat (first | refine blk_drewN ?_ _ | refine blk_drew ?_ | refine blk_alloc ?_ _)); refine blk_put (cs := #[.bool false, .int .i64 a0_1, .slice A0_2 l0_2.length c0_2, .slice A0_3 l0_3.length c0_3]) ?_ 2 _ rfl; (with_reducible repeat (first | refine blk_drewN ?_ _ | refine blk_drew ?_ | refine blk_alloc ?_ _)); exact BK280.out⟩
          have n5_ : Aside0 ((w63.setCell ⟨gb280, 2, none⟩ (.slice Ao64 t294.length co64)).heap[gb281]? = some (.cells #[.bool a2_0, .int .i64 a2_1, .slice A2_2 l2_2.length c2_2, .slice A2_3 l2_3.length c2_3] 59 (0, 0))) := ⟨by (with_reducible repeat (first | refine blk_drewN ?_ _ | refine blk_drew ?_ | refine blk_alloc ?_ _)); refine blk_far ?_ NB281_280.out _; (with_reducible repeat (first | refine blk_drewN ?_ _ | refine blk_drew ?_ | refine blk_alloc ?_ _)); exact BK281.out⟩
          have n6_ : Aside0 ((w63.setCell ⟨gb280, 2, none⟩ (.slice Ao64 t294.length co64)).heap[gb282]? = some (.cells #[.bool false, .int .i64 0, .slice none 0 0, .slice none 0 0] 59 (0, 0))) := ⟨by (with_reducible repeat (first | refine blk_drewN ?_ _ | refine blk_drew ?_ | refine blk_alloc ?_ _)); refine blk_far ?_ NB282_280.out _; (with_reducible repeat (first | refine blk_drewN ?_ _ | refine blk_drew ?_ | refine blk_alloc ?_ _)); exact BK282.out⟩
          have n7_ : Aside0 (Below w.heap.size w (w63.setCell ⟨gb280, 2, none⟩ (.slice Ao64 t294.length co64))) := ⟨by repeat (first | (with_reducible first | exact HB.out | apply below_alloc | apply pw_below_drewN | apply below_drew1 | refine below_set ?_ GE280.out | refine below_set ?_ GE281.out | refine below_set ?_ GE282.out) | exact HB.out)⟩
          (try clear HO_281002)
          (try clear HO_281003)
          (try clear HO293)
          (try clear HO296)
          (try clear BK280)
          (try clear BK281)
          (try clear BK282)
          (try clear HB)
          generalize (w63.setCell ⟨gb280, 2, none⟩ (.slice Ao64 t294.length co64)) = w66 at n0_ n1_ n2_ n3_ n4_ n5_ n6_ n7_ ⊢
          have HO_281002 := n0_
          have HO_281003 := n1_
          have HO293 := n2_
          have HO296 := n3_
          have BK280 := n4_
          have BK281 := n5_
          have BK282 := n6_
          have HB := n7_
          clear n0_ n1_ n2_ n3_ n4_ n5_ n6_ n7_
          have n0_ := Aside0.mk (Kd.V_drew HO_281002.out)
          have n1_ := Aside0.mk (Kd.V_drew HO_281003.out)
          have n2_ := Aside0.mk (Kd.R_drew HO293.out)
          have n3_ := Aside0.mk (Kd.R_drew HO296.out)
          have n4_ := Aside0.mk (blk_drew BK280.out)
          have n5_ := Aside0.mk (blk_drew BK281.out)
          have n6_ := Aside0.mk (blk_drew BK282.out)
          have n7_ := Aside0.mk (below_drew1 HB.out)
          clear HO_281002
          clear HO_281003
          clear HO293
          clear HO296
          clear BK280
          clear BK281
          clear BK282
          clear HB
          have HO_281002 := n0_
          have HO_281003 := n1_
          have HO293 := n2_
          have HO296 := n3_
          have BK280 := n4_
          have BK281 := n5_
          have BK282 := n6_
          have HB := n7_
          clear n0_ n1_ n2_ n3_ n4_ n5_ n6_ n7_
          refine start_ (n := 14) (S := fun w' => w'.cell? ⟨gb280, 0, none⟩ = some (.bool false) ∧ w'.cell? ⟨gb280, 1, none⟩ = some (.int .i64 a0_1) ∧ w'.cell? ⟨gb280, 2, none⟩ = some (.slice Ao64 t294.length co64) ∧ w'.cell? ⟨gb280, 3, none⟩ = some (.slice A0_3 l0_3.length c0_3) ∧ w'.cell? ⟨gb281, 0, none⟩ = some (.bool a2_0) ∧ w'.cell? ⟨gb281, 1, none⟩ = some (.int .i64 a2_1) ∧ w'.cell? ⟨gb281, 2, none⟩ = some (.slice A2_2 l2_2.length c2_2) ∧ w'.cell? ⟨gb281, 3, none⟩ = some (.slice A2_3 l2_3.length c2_3)) (ds := [11, 13]) #[false, false, false, false, false, false, false, false, false, false, false, false, false, false] (by kernel_rfl) rfl rfl ⟨(blk_cell BK280.out 0).trans rfl, (blk_cell BK280.out 1).trans rfl, (blk_cell BK280.out 2).trans rfl, (blk_cell BK280.out 3).trans rfl, (blk_cell BK281.out 0).trans rfl, (blk_cell BK281.out 1).trans rfl, (blk_cell BK281.out 2).trans rfl, (blk_cell BK281.out 3).trans rfl⟩ (fun hHeld => ?_); refine with_tabW node_Join.tab5 node_Join.bits5 (fun HT_ HW_ => ?_)
          generalize w66.drew = w67 at HO_281002 HO_281003 HO293 HO296 BK280 BK281 BK282 HB hHeld ⊢
          refine pure_ (i := 0) (N := some 32) (v := ?_) (a' := ?_) #[true, false, false, false, false, false, false, false, false, false, false, false, false, false] rfl rfl (any_of HT_.out (by kernel_rfl)) (fun _ _ _ h => h) (Or.inl ⟨by rfl, ?_⟩) ?_ ?_
          rotate_left
          · intro w'
            go_simp
            with_reducible rfl
          rotate_left
          · simp only [Act.put, List.setIfInBounds_toArray, List.set_cons_zero, List.set_cons_succ, i64_w, i32_w]
            rfl
          refine pure_ (i := 2) (N := some 34) (v := ?_) (a' := ?_) #[true, false, true, false, false, false, false, false, false, false, false, false, false, false] rfl rfl (any_of HT_.out (by kernel_rfl)) (fun _ _ _ h => h) (Or.inl ⟨by rfl, ?_⟩) ?_ ?_
          rotate_left
          · intro w'
            go_simp
            with_reducible rfl
          rotate_left
          · simp only [Act.put, List.setIfInBounds_toArray, List.set_cons_zero, List.set_cons_succ, i64_w, i32_w]
            rfl
          refine pure_ (i := 5) (N := some 37) (v := ?_) (a' := ?_) #[true, false, true, false, false, true, false, false, false, false, false, false, false, false] rfl rfl (any_of HT_.out (by kernel_rfl)) (fun _ _ _ h => h) (Or.inl ⟨by rfl, ?_⟩) ?_ ?_
          rotate_left
          · intro w'
            go_simp
            with_reducible rfl
          rotate_left
          · simp only [Act.put, List.setIfInBounds_toArray, List.set_cons_zero, List.set_cons_succ, i64_w, i32_w]
            rfl
          refine pure_ (i := 7) (N := some 39) (v := ?_) (a' := ?_) #[true, false, true, false, false, true, false, true, false, false, false, false, false, false] rfl rfl (any_of HT_.out (by kernel_rfl)) (fun _ _ _ h => h) (Or.inl ⟨by rfl, ?_⟩) ?_ ?_
          rotate_left
          · intro w'
            go_simp
            with_reducible rfl
          rotate_left
          · simp only [Act.put, List.setIfInBounds_toArray, List.set_cons_zero, List.set_cons_succ, i64_w, i32_w]
            rfl
          refine take_ (i := 1) (N := some 33) (v := ?_) (a' := ?_) #[true, true, true, false, false, true, false, true, false, false, false, false, false, false] rfl rfl (take_ofW HT_.out HW_.out (by kernel_rfl)) (fun _ _ _ h => h) (Or.inl ⟨by rfl, ?_⟩) hHeld ?_ ?_
          rotate_left
          · rintro w' ⟨s0, s1, s2, s3, s4, s5, s6, s7⟩
            go_simp
            with_reducible rfl
          rotate_left
          · simp only [Act.put, List.setIfInBounds_toArray, List.set_cons_zero, List.set_cons_succ, i64_w, i32_w]
            rfl
          refine take_ (i := 3) (N := some 35) (v := ?_) (a' := ?_) #[true, true, true, true, false, true, false, true, false, false, false, false, false, false] rfl rfl (take_ofW HT_.out HW_.out (by kernel_rfl)) (fun _ _ _ h => h) (Or.inl ⟨by rfl, ?_⟩) hHeld ?_ ?_
          rotate_left
          · rintro w' ⟨s0, s1, s2, s3, s4, s5, s6, s7⟩
            go_simp
            with_reducible rfl
          rotate_left
          · simp only [Act.put, List.setIfInBounds_toArray, List.set_cons_zero, List.set_cons_succ, i64_w, i32_w]
            rfl
          refine take_ (i := 6) (N := some 38) (v := ?_) (a' := ?_) #[true, true, true, true, false, true, true, true, false, false, false, false, false, false] rfl rfl (take_ofW HT_.out HW_.out (by kernel_rfl)) (fun _ _ _ h => h) (Or.inl ⟨by rfl, ?_⟩) hHeld ?_ ?_
          rotate_left
          · rintro w' ⟨s0, s1, s2, s3, s4, s5, s6, s7⟩
            go_simp
            with_reducible rfl
          rotate_left
          · simp only [Act.put, List.setIfInBounds_toArray, List.set_cons_zero, List.set_cons_succ, i64_w, i32_w]
            rfl
          refine take_ (i := 8) (N := some 40) (v := ?_) (a' := ?_) #[true, true, true, true, false, true, true, true, true, false, false, false, false, false] rfl rfl (take_ofW HT_.out HW_.out (by kernel_rfl)) (fun _ _ _ h => h) (Or.inl ⟨by rfl, ?_⟩) hHeld ?_ ?_
          rotate_left
          · rintro w' ⟨s0, s1, s2, s3, s4, s5, s6, s7⟩
            go_simp
            with_reducible rfl
          rotate_left
          · simp only [Act.put, List.setIfInBounds_toArray, List.set_cons_zero, List.set_cons_succ, i64_w, i32_w]
            rfl
          refine one_ (i := 4) (N := some 36) #[true, true, true, true, true, true, true, true, true, false, false, false, false, false] rfl rfl (one_of HT_.out (by kernel_rfl)) (by decide) (fun K hK => ?_)
          refine goes_ Try.func105 (by kernel_rfl) rfl #[.slice Ao64 t294.length co64, .slice A2_2 l2_2.length c2_2] (by rfl) rfl rfl (by (try simp only [List.map_toArray, List.map_cons, List.map_nil]); first | done | rfl | (simp only [List.length_drop, List.length_take]; rfl)) ?_
          with_reducible refine (node_copied_string.calls _ _ t294 _ _ l2_2 t297 _ ?side1 ?side2 ?side3 ?side4 A55.out).mono ?_
          (case side1 => repeat (first | exact (Kd.R_reads' HO296.out).2.2 | (with_reducible refine Kd.C_alloc ?_ _) | (with_reducible refine Kd.C_drewN ?_ _) | (with_reducible refine Kd.C_drew ?_)))
          (case side2 => exact (Kd.R_reads' HO296.out).2.1)
          (case side3 => repeat (first | exact (Kd.C_below HR2_2.out HB.out) | (with_reducible refine Kd.C_alloc ?_ _) | (with_reducible refine Kd.C_drewN ?_ _) | (with_reducible refine Kd.C_drew ?_)))
          (case side4 => exact HC2_2.out)
          rintro e w68 ⟨v298, rfl, ho0, hb⟩
          refine ⟨_, rfl, ?_⟩
          have n0_ := Aside0.mk (Kd.V_elder' (by (with_reducible repeat (first | apply Kd.V_alloc | apply Kd.V_drewN | apply Kd.V_drew)); exact HO_281002.out) (Kd.R_base ho0) hb)
          have n1_ := Aside0.mk (Kd.V_elder' (by (with_reducible repeat (first | apply Kd.V_alloc | apply Kd.V_drewN | apply Kd.V_drew)); exact HO_281003.out) (Kd.R_base ho0) hb)
          have n2_ := Aside0.mk (Kd.R_elder' (by (with_reducible repeat (first | apply Kd.R_alloc | apply Kd.R_drewN | apply Kd.R_drew)); exact HO293.out) (Kd.R_base ho0) hb)
          have n3_ := Aside0.mk (Kd.R_elder' (by (with_reducible repeat (first | apply Kd.R_alloc | apply Kd.R_drewN | apply Kd.R_drew)); exact HO296.out) (Kd.R_base ho0) hb)
          have n4_ := Aside0.mk (Kd.R_lower (Kd.R_new' (Kd.R_new' (Kd.R_newM (M := fun k_ => (w.heap.size ≤ k_)) ho0 (below_size (by repeat (first | (with_reducible first | exact HB.out | apply below_alloc | apply pw_below_drewN | apply below_drew1 | refine below_set ?_ GE280.out | refine below_set ?_ GE281.out | refine below_set ?_ GE282.out) | exact HB.out))) (fun k_ h_ => h_)) (Kd.R_lt (by (with_reducible repeat (first | apply Kd.R_alloc | apply Kd.R_drewN | apply Kd.R_drew)); exact HO293.out))) (Kd.R_lt (by (with_reducible repeat (first | apply Kd.R_alloc | apply Kd.R_drewN | apply Kd.R_drew)); exact HO296.out))) (below_size (by repeat (first | (with_reducible first | exact HB.out | apply below_alloc | apply pw_below_drewN | apply below_drew1 | refine below_set ?_ GE280.out | refine below_set ?_ GE281.out | refine below_set ?_ GE282.out) | exact HB.out))))
          have n5_ := Aside0.mk (blk_below (g := gb280) (o := .cells #[.bool false, .int .i64 a0_1, .slice Ao64 t294.length co64, .slice A0_3 l0_3.length c0_3] 59 (0, 0)) (by (with_reducible repeat (first | refine blk_drewN ?_ _ | refine blk_drew ?_ | refine blk_alloc ?_ _)); exact BK280.out) hb)
          have n6_ := Aside0.mk (blk_below (g := gb281) (o := .cells #[.bool a2_0, .int .i64 a2_1, .slice A2_2 l2_2.length c2_2, .slice A2_3 l2_3.length c2_3] 59 (0, 0)) (by (with_reducible repeat (first | refine blk_drewN ?_ _ | refine blk_drew ?_ | refine blk_alloc ?_ _)); exact BK281.out) hb)
          have n7_ := Aside0.mk (blk_below (g := gb282) (o := .cells #[.bool false, .int .i64 0, .slice none 0 0, .slice none 0 0] 59 (0, 0)) (by (with_reducible repeat (first | refine blk_drewN ?_ _ | refine blk_drew ?_ | refine blk_alloc ?_ _)); exact BK282.out) hb)
          have n8_ := Aside0.mk (below_step (by repeat (first | (with_reducible first | exact HB.out | apply below_alloc | apply pw_below_drewN | apply below_drew1 | refine below_set ?_ GE280.out | refine below_set ?_ GE281.out | refine below_set ?_ GE282.out) | exact HB.out)) hb)
          clear HO_281002
          clear HO_281003
          clear HO293
          clear HO296
          clear BK280
          clear BK281
          clear BK282
          clear HB
          have HO_281002 := n0_
          have HO_281003 := n1_
          have HO293 := n2_
          have HO296 := n3_
          have HO299 := n4_
          have BK280 := n5_
          have BK281 := n6_
          have BK282 := n7_
          have HB := n8_
          clear n0_ n1_ n2_ n3_ n4_ n5_ n6_ n7_ n8_
          (try clear hb)
          (try clear hb2)
          (try clear hk)
          (try clear hi)
          (try clear ho0)
          refine hK.out _ _ ⟨(blk_cell BK280.out 0).trans rfl, (blk_cell BK280.out 1).trans rfl, (blk_cell BK280.out 2).trans rfl, (blk_cell BK280.out 3).trans rfl, (blk_cell BK281.out 0).trans rfl, (blk_cell BK281.out 1).trans rfl, (blk_cell BK281.out 2).trans rfl, (blk_cell BK281.out 3).trans rfl⟩ (fun hHeld => ?_)
          clear hK K
          refine norm_ (a' := ?_) ?_ ?_
          rotate_left
          · show Act.put _ (some 36) _ = _
            simp only [Act.put, List.setIfInBounds_toArray, List.set_cons_zero, List.set_cons_succ, i64_w, i32_w]
            rfl
          refine pure_ (i := 10) (N := some 42) (v := ?_) (a' := ?_) #[true, true, true, true, true, true, true, true, true, false, true, false, false, false] rfl rfl (any_of HT_.out (by kernel_rfl)) (fun _ _ _ h => h) (Or.inl ⟨by rfl, ?_⟩) ?_ ?_
          rotate_left
          · intro w'
            go_simp
            with_reducible rfl
          rotate_left
          · simp only [Act.put, List.setIfInBounds_toArray, List.set_cons_zero, List.set_cons_succ, i64_w, i32_w]
            rfl
          refine one_ (i := 9) (N := some 41) #[true, true, true, true, true, true, true, true, true, true, true, false, false, false] rfl rfl (one_of HT_.out (by kernel_rfl)) (by decide) (fun K hK => ?_)
          refine goes_ Try.func106 (by kernel_rfl) rfl #[.slice A0_3 l0_3.length c0_3, .slice A2_3 l2_3.length c2_3] (by rfl) rfl rfl (by (try simp only [List.map_toArray, List.map_cons, List.map_nil]); first | done | rfl | (simp only [List.length_drop, List.length_take]; rfl)) ?_
          with_reducible refine (api_Ref_106.calls _ _ l0_3 _ _ l2_3 t300 _ ?side1 ?side2 ?side3 ?side4 A56.out).mono ?_
          (case side1 => repeat (first | exact (Kd.V_reads' HO_281003.out).2.2 | (with_reducible refine Kd.C_alloc ?_ _) | (with_reducible refine Kd.C_drewN ?_ _) | (with_reducible refine Kd.C_drew ?_)))
          (case side2 => exact (Kd.V_reads' HO_281003.out).2.1)
          (case side3 => repeat (first | exact (Kd.C_below HR2_3.out HB.out) | (with_reducible refine Kd.C_alloc ?_ _) | (with_reducible refine Kd.C_drewN ?_ _) | (with_reducible refine Kd.C_drew ?_)))
          (case side4 => exact HC2_3.out)
          rintro e w69 ⟨v301, rfl, ho0, hb⟩
          refine ⟨_, rfl, ?_⟩
          have n0_ := Aside0.mk (Kd.V_elder' (by (with_reducible repeat (first | apply Kd.V_alloc | apply Kd.V_drewN | apply Kd.V_drew)); exact HO_281002.out) (Kd.R_base ho0) hb)
          have n1_ := Aside0.mk (Kd.V_elder' (by (with_reducible repeat (first | apply Kd.V_alloc | apply Kd.V_drewN | apply Kd.V_drew)); exact HO_281003.out) (Kd.R_base ho0) hb)
          have n2_ := Aside0.mk (Kd.R_below (by (with_reducible repeat (first | apply Kd.R_alloc | apply Kd.R_drewN | apply Kd.R_drew)); exact HO293.out) hb)
          have n3_ := Aside0.mk (Kd.R_below (by (with_reducible repeat (first | apply Kd.R_alloc | apply Kd.R_drewN | apply Kd.R_drew)); exact HO296.out) hb)
          have n4_ := Aside0.mk (Kd.R_below (by (with_reducible repeat (first | apply Kd.R_alloc | apply Kd.R_drewN | apply Kd.R_drew)); exact HO299.out) hb)
          have n5_ := Aside0.mk (Kd.R_lower (Kd.R_newM (M := fun k_ => (w.heap.size ≤ k_)) ho0 (below_size (by repeat (first | (with_reducible first | exact HB.out | apply below_alloc | apply pw_below_drewN | apply below_drew1 | refine below_set ?_ GE280.out | refine below_set ?_ GE281.out | refine below_set ?_ GE282.out) | exact HB.out))) (fun k_ h_ => h_)) (below_size (by repeat (first | (with_reducible first | exact HB.out | apply below_alloc | apply pw_below_drewN | apply below_drew1 | refine below_set ?_ GE280.out | refine below_set ?_ GE281.out | refine below_set ?_ GE282.out) | exact HB.out))))
          have n6_ := Aside0.mk (blk_below (g := gb280) (o := .cells #[.bool false, .int .i64 a0_1, .slice Ao64 t294.length co64, .slice A0_3 l0_3.length c0_3] 59 (0, 0)) (by (with_reducible repeat (first | refine blk_drewN ?_ _ | refine blk_drew ?_ | refine blk_alloc ?_ _)); exact BK280.out) hb)
          have n7_ := Aside0.mk (blk_below (g := gb281) (o := .cells #[.bool a2_0, .int .i64 a2_1, .slice A2_2 l2_2.length c2_2, .slice A2_3 l2_3.length c2_3] 59 (0, 0)) (by (with_reducible repeat (first | refine blk_drewN ?_ _ | refine blk_drew ?_ | refine blk_alloc ?_ _)); exact BK281.out) hb)
          have n8_ := Aside0.mk (blk_below (g := gb282) (o := .cells #[.bool false, .int .i64 0, .slice none 0 0, .slice none 0 0] 59 (0, 0)) (by (with_reducible repeat (first | refine blk_drewN ?_ _ | refine blk_drew ?_ | refine blk_alloc ?_ _)); exact BK282.out) hb)
          have n9_ := Aside0.mk (below_step (by repeat (first | (with_reducible first | exact HB.out | apply below_alloc | apply pw_below_drewN | apply below_drew1 | refine below_set ?_ GE280.out | refine below_set ?_ GE281.out | refine below_set ?_ GE282.out) | exact HB.out)) hb)
          clear HO_281002
          clear HO_281003
          clear HO293
          clear HO296
          clear HO299
          clear BK280
          clear BK281
          clear BK282
          clear HB
          have HO_281002 := n0_
          have HO_281003 := n1_
          have HO293 := n2_
          have HO296 := n3_
          have HO299 := n4_
          have HO302 := n5_
          have BK280 := n6_
          have BK281 := n7_
          have BK282 := n8_
          have HB := n9_
          clear n0_ n1_ n2_ n3_ n4_ n5_ n6_ n7_ n8_ n9_
          (try clear hb)
          (try clear hb2)
          (try clear hk)
          (try clear hi)
          (try clear ho0)
          obtain ⟨Ao70, co70, eo70⟩ := Kd.R_slice HO299.out
          (first | subst eo70 | (injection eo70 with f1_ f2_ f3_; have f4_ := f1_.symm; have f5_ := f3_.symm; clear f1_ f2_ f3_; subst f4_; subst f5_))
          obtain ⟨Ao72, co72, eo72⟩ := Kd.R_slice HO302.out
          (first | subst eo72 | (injection eo72 with f1_ f2_ f3_; have f4_ := f1_.symm; have f5_ := f3_.symm; clear f1_ f2_ f3_; subst f4_; subst f5_))
          refine hK.out _ _ ⟨(blk_cell BK280.out 0).trans rfl, (blk_cell BK280.out 1).trans rfl, (blk_cell BK280.out 2).trans rfl, (blk_cell BK280.out 3).trans rfl, (blk_cell BK281.out 0).trans rfl, (blk_cell BK281.out 1).trans rfl, (blk_cell BK281.out 2).trans rfl, (blk_cell BK281.out 3).trans rfl⟩ (fun hHeld => ?_)
          clear hK K
          refine norm_ (a' := ?_) ?_ ?_
          rotate_left
          · show Act.put _ (some 41) _ = _
            simp only [Act.put, List.setIfInBounds_toArray, List.set_cons_zero, List.set_cons_succ, i64_w, i32_w]
            rfl
          refine last_ (i := 11) (N := none) #[true, true, true, true, true, true, true, true, true, true, true, true, false, false] rfl rfl (one_of HT_.out (by kernel_rfl)) (by decide) (fun K hK => ?_)
          have hs71 : w69.cell? ⟨gb280, 2, none⟩ = some (.slice Ao64 t294.length co64) := (blk_cell BK280.out 2).trans rfl
          have hfs71 := blk_frozen BK280.out 2
          have hns71_1 := NB281_280.out
          have hns71_2 := NB282_280.out
          have hms71_1 := NB280_281.out
          have hms71_2 := NB280_282.out
          refine skip_ (w1 := ?_) (by rfl) rfl ?_ ?_
          rotate_left
          · go_simp
            rfl
          refine hK.out _ _ ?_
          clear hK K
          refine pure_ (i := 12) (N := some 43) (v := ?_) (a' := ?_) #[true, true, true, true, true, true, true, true, true, true, true, true, true, false] rfl rfl (any_of HT_.out (by kernel_rfl)) (fun _ _ _ h => h) (Or.inl ⟨by rfl, ?_⟩) ?_ ?_
          rotate_left
          · intro w'
            go_simp
            with_reducible rfl
          rotate_left
          · simp only [Act.put, List.setIfInBounds_toArray, List.set_cons_zero, List.set_cons_succ, i64_w, i32_w]
            rfl
          refine last_ (i := 13) (N := none) #[true, true, true, true, true, true, true, true, true, true, true, true, true, true] rfl rfl (one_of HT_.out (by kernel_rfl)) (by decide) (fun K hK => ?_)
          have hs73 : w69.cell? ⟨gb280, 3, none⟩ = some (.slice A0_3 l0_3.length c0_3) := (blk_cell BK280.out 3).trans rfl
          have hfs73 := blk_frozen BK280.out 3
          have hns73_1 := NB281_280.out
          have hns73_2 := NB282_280.out
          have hms73_1 := NB280_281.out
          have hms73_2 := NB280_282.out
          refine skip_ (w1 := ?_) (by rfl) rfl ?_ ?_
          rotate_left
          · go_simp
            rfl
          refine hK.out _ _ ?_
          clear hK K
          refine done_ (done_of HT_.out (by kernel_rfl)) ?_
          have hcz74_0 : w69.cell? ⟨gb280, 0, none⟩ = some (.bool false) := (blk_cell BK280.out 0).trans rfl
          have hcz74_1 : w69.cell? ⟨gb280, 1, none⟩ = some (.int .i64 a0_1) := (blk_cell BK280.out 1).trans rfl
          have hcz74_2 : w69.cell? ⟨gb280, 2, none⟩ = some (.slice Ao64 t294.length co64) := (blk_cell BK280.out 2).trans rfl
          have hcz74_3 : w69.cell? ⟨gb280, 3, none⟩ = some (.slice A0_3 l0_3.length c0_3) := (blk_cell BK280.out 3).trans rfl
          have hfz74_0 := blk_frozen BK280.out 0
          have hfz74_1 := blk_frozen BK280.out 1
          have hfz74_2 := blk_frozen BK280.out 2
          have hfz74_3 := blk_frozen BK280.out 3
          have hnb75 := NB282_281.out
          have hnc75 := NB281_282.out
          have hcz76_0 : w69.cell? ⟨gb282, 0, none⟩ = some (.bool false) := (blk_cell BK282.out 0).trans rfl
          have hcz76_1 : w69.cell? ⟨gb282, 1, none⟩ = some (.int .i64 0) := (blk_cell BK282.out 1).trans rfl
          have hcz76_2 : w69.cell? ⟨gb282, 2, none⟩ = some (.slice none 0 0) := (blk_cell BK282.out 2).trans rfl
          have hcz76_3 : w69.cell? ⟨gb282, 3, none⟩ = some (.slice none 0 0) := (blk_cell BK282.out 3).trans rfl
          have hfz76_0 := blk_frozen BK282.out 0
          have hfz76_1 := blk_frozen BK282.out 1
          have hfz76_2 := blk_frozen BK282.out 2
          have hfz76_3 := blk_frozen BK282.out 3
          try go_wp2
          refine bodyPost_ret (results_cell_row rfl _ _ gb282 59 #[.bool false, .int .i64 (wrap64 (a0_1 + 1)), .slice Ao70 t297.length co70, .slice Ao72 t300.length co72] (0, 0) _ rfl (by (with_reducible repeat (first | refine blk_drewN ?_ _ | refine blk_drew ?_ | refine blk_alloc ?_ _)); refine blk_put (cs := #[.bool false, .int .i64 (wrap64 (a0_1 + 1)), .slice Ao70 t297.length co70, .slice none 0 0]) ?_ 3 _ rfl; (with_reducible repeat (first | refine blk_drewN ?_ _ | refine blk_drew ?_ | refine blk_alloc ?_ _)); refine blk_put (cs := #[.bool false, .int .i64 (wrap64 (a0_1 + 1)), .slice none 0 0, .slice none 0 0]) ?_ 2 _ rfl; (with_reducible repeat (first | refine blk_drewN ?_ _ | refine blk_drew ?_ | refine blk_alloc ?_ _)); refine blk_put (cs := #[.bool false, .int .i64 0, .slice none 0 0, .slice none 0 0]) ?_ 1 _ rfl; (with_reducible repeat (first | refine blk_drewN ?_ _ | refine blk_drew ?_ | refine blk_alloc ?_ _)); refine blk_put (cs := #[.bool false, .int .i64 0, .slice none 0 0, .slice none 0 0]) ?_ 0 _ rfl; (with_reducible repeat (first | refine blk_drewN ?_ _ | refine blk_drew ?_ | refine blk_alloc ?_ _)); refine blk_far ?_ NB282_280.out _; (with_reducible repeat (first | refine blk_drewN ?_ _ | refine blk_drew ?_ | refine blk_alloc ?_ _)); refine blk_far ?_ NB282_280.out _; (with_reducible repeat (first | refine blk_drewN ?_ _ | refine blk_drew ?_ | refine blk_alloc ?_ _)); refine blk_far ?_ NB282_280.out _; (with_reducible repeat (first | refine blk_drewN ?_ _ | refine blk_drew ?_ | refine blk_alloc ?_ _)); exact BK282.out) Try.underlying59 rfl (by kernel_rfl)) rfl ?_
          exact ⟨_, _, by first | rfl | (simp [errW_none, errW_some] <;> rfl) | (simp [*, errW_none, errW_some] <;> rfl), Kd.V_mono (Kd.R_V (by (with_reducible repeat (first | apply Kd.R_alloc | apply Kd.R_drewN | apply Kd.R_drew)); exact Kd.R_mono (Kd.R_far (p := ⟨gb282, 3, none⟩) (Kd.R_far (p := ⟨gb282, 2, none⟩) (Kd.R_far (p := ⟨gb282, 1, none⟩) (Kd.R_far (p := ⟨gb282, 0, none⟩) (Kd.R_far (p := ⟨gb280, 1, none⟩) (Kd.R_far (p := ⟨gb280, 3, none⟩) (Kd.R_far (p := ⟨gb280, 2, none⟩) (Kd.R_types (Kd.R_types HO299.out BK280.out (by decide)) BK282.out (by decide)) (fun _ hk => hk.1.2) (.slice Ao70 t297.length co70)) (fun _ hk => hk.1.2) (.slice Ao72 t300.length co72)) (fun _ hk => hk.1.2) (.int .i64 (wrap64 (a0_1 + 1)))) (fun _ hk => hk.2) (.bool false)) (fun _ hk => hk.2) (.int .i64 (wrap64 (a0_1 + 1)))) (fun _ hk => hk.2) (.slice Ao70 t297.length co70)) (fun _ hk => hk.2) (.slice Ao72 t300.length co72)) (fun _ hk => hk.1.1.1.1.1))) (fun k_ hk => by first | exact ⟨(.inr (hk.1)), hk.2⟩ | exact (.inr (hk))), Kd.V_mono (Kd.R_V (by (with_reducible repeat (first | apply Kd.R_alloc | apply Kd.R_drewN | apply Kd.R_drew)); exact Kd.R_mono (Kd.R_far (p := ⟨gb282, 3, none⟩) (Kd.R_far (p := ⟨gb282, 2, none⟩) (Kd.R_far (p := ⟨gb282, 1, none⟩) (Kd.R_far (p := ⟨gb282, 0, none⟩) (Kd.R_far (p := ⟨gb280, 1, none⟩) (Kd.R_far (p := ⟨gb280, 3, none⟩) (Kd.R_far (p := ⟨gb280, 2, none⟩) (Kd.R_types (Kd.R_types HO302.out BK280.out (by decide)) BK282.out (by decide)) (fun _ hk => hk.1.2) (.slice Ao70 t297.length co70)) (fun _ hk => hk.1.2) (.slice Ao72 t300.length co72)) (fun _ hk => hk.1.2) (.int .i64 (wrap64 (a0_1 + 1)))) (fun _ hk => hk.2) (.bool false)) (fun _ hk => hk.2) (.int .i64 (wrap64 (a0_1 + 1)))) (fun _ hk => hk.2) (.slice Ao70 t297.length co70)) (fun _ hk => hk.2) (.slice Ao72 t300.length co72)) (fun _ hk => hk.1.1.1))) (fun k_ hk => by first | exact ⟨(.inr (hk.1)), hk.2⟩ | exact (.inr (hk))), by repeat (first | (with_reducible first | exact HB.out | apply below_alloc | apply pw_below_drewN | apply below_drew1 | refine below_set ?_ GE280.out | refine below_set ?_ GE281.out | refine below_set ?_ GE282.out) | exact HB.out)⟩

/-! ### transomlaw17_awake: function 32 -/
open Go Go.Proofs.Ytglbcfkmaamhaaa.Stk

structure Mem (w0 w : World) (L : List Bx) (S : List (Value × List ByteArray)) (R : List (Value × List S33)) : Prop where
  st : St w0 w L
  s : ∀ p ∈ S, Sl Kd.string 9 w L p.1 p.2
  r : ∀ p ∈ R, Sl k33 33 w L p.1 p.2
namespace Mem
variable {w0 w w1 : World} {L L' : List Bx} {S S' : List (Value × List ByteArray)} {R R' : List (Value × List S33)} {g t : Nat} {cs : Array Value}
theorem start (w : World) : Mem w w [] [] [] := ⟨St.start w, by simp, by simp⟩
theorem alloc (h : Mem w0 w L S R) (cs : Array Value) (t : Nat) : Mem w0 (w.alloc (.cells cs t)) ((w.heap.size, t, cs) :: L) S R := ⟨h.st.alloc cs t, fun p hp => (h.s p hp).alloc cs t, fun p hp => (h.r p hp).alloc cs t⟩
theorem put (h : Mem w0 w ((g, t, cs) :: L) S R) (i : Nat) (u : Value) : Mem w0 (w.setCell ⟨g, i, none⟩ u) ((g, t, cs.setIfInBounds i u) :: L) S R := ⟨h.st.put i u, fun p hp => (h.s p hp).put i u, fun p hp => (h.r p hp).put i u⟩
theorem perm (h : Mem w0 w L S R) (hp : L'.Perm L) : Mem w0 w L' S R := ⟨h.st.perm hp, fun p hm => (h.s p hm).perm hp, fun p hm => (h.r p hm).perm hp⟩
theorem drop (h : Mem w0 w L S R) (hp : L'.Sublist L) (hS : ∀ p ∈ S', p ∈ S) (hR : ∀ p ∈ R', p ∈ R) : Mem w0 w L' S' R' := ⟨h.st.drop hp, fun p hm => (h.s p (hS p hm)).drop hp, fun p hm => (h.r p (hR p hm)).drop hp⟩
theorem call (h : Mem w0 w L S R) (hb : Below w.heap.size w w1) : Mem w0 w1 L S R := ⟨h.st.call hb, fun p hm => (h.s p hm).call hb, fun p hm => (h.r p hm).call hb⟩
theorem drew (h : Mem w0 w L S R) : Mem w0 w.drew L S R := ⟨h.st.drew, fun p hm => (h.s p hm).drew, fun p hm => (h.r p hm).drew⟩
theorem drewN (h : Mem w0 w L S R) (n : Nat) : Mem w0 (w.drewN n) L S R := ⟨h.st.drewN n, fun p hm => (h.s p hm).drewN n, fun p hm => (h.r p hm).drewN n⟩
theorem addS (h : Mem w0 w L S R) {v : Value} {xs : List ByteArray} (hv : Sl Kd.string 9 w L v xs) : Mem w0 w L ((v, xs) :: S) R := ⟨h.st, fun p hm => by rcases List.mem_cons.1 hm with rfl | hm; exact hv; exact h.s p hm, h.r⟩
theorem addR (h : Mem w0 w L S R) {v : Value} {xs : List S33} (hv : Sl k33 33 w L v xs) : Mem w0 w L S ((v, xs) :: R) := ⟨h.st, h.s, fun p hm => by rcases List.mem_cons.1 hm with rfl | hm; exact hv; exact h.r p hm⟩
theorem addNil (h : Mem w0 w L S R) : Mem w0 w L ((.slice none 0 0, []) :: S) ((.slice none 0 0, []) :: R) := (h.addS (Sl.nil _ _ _ _)).addR (Sl.nil _ _ _ _)
theorem set4 (h : Mem w0 w ((g, t, cs) :: L) S R) (hz : cs.size = 4) (a b c d : Value) : Mem w0 ((((w.setCell ⟨g, 0, none⟩ a).setCell ⟨g, 1, none⟩ b).setCell ⟨g, 2, none⟩ c).setCell ⟨g, 3, none⟩ d) ((g, t, #[a, b, c, d]) :: L) S R := by
  have h1 := (((h.put 0 a).put 1 b).put 2 c).put 3 d
  have e : (((cs.setIfInBounds 0 a).setIfInBounds 1 b).setIfInBounds 2 c).setIfInBounds 3 d = #[a, b, c, d] := by
    apply Array.ext
    · simp [hz]
    · intro i h1 h2
      have h3 : i < 4 := by simpa using h2
      have : i = 0 ∨ i = 1 ∨ i = 2 ∨ i = 3 := by omega
      rcases this with rfl | rfl | rfl | rfl <;> simp [Array.getElem_setIfInBounds, hz]
  rw [e] at h1
  exact h1
theorem cell (h : Mem w0 w L S R) (g t : Nat) (cs : Array Value) (hm : (g, t, cs) ∈ L) (i : Nat) {v : Value} (hv : cs[i]? = some v) : w.cell? ⟨g, i, none⟩ = some v := h.st.cell hm i hv
theorem frozen (h : Mem w0 w L S R) (g t : Nat) (cs : Array Value) (hm : (g, t, cs) ∈ L) (i : Nat) : w.frozen? ⟨g, i, none⟩ = false := h.st.frozen hm i
theorem four (h : Mem w0 w L S R) (g t : Nat) (a b c d : Value) (hm : (g, t, #[a, b, c, d]) ∈ L) : (w.cell? ⟨g, 0, none⟩ = some a ∧ w.cell? ⟨g, 1, none⟩ = some b ∧ w.cell? ⟨g, 2, none⟩ = some c ∧ w.cell? ⟨g, 3, none⟩ = some d) ∧ (∀ i, w.frozen? ⟨g, i, none⟩ = false) ∧ ¬ g = w.heap.size :=
  ⟨⟨h.cell g t _ hm 0 rfl, h.cell g t _ hm 1 rfl, h.cell g t _ hm 2 rfl, h.cell g t _ hm 3 rfl⟩, h.frozen g t _ hm, h.st.ne hm⟩
theorem fourA (h : Mem w0 w L S R) (g t : Nat) (a b c d : Value) (hm : (g, t, #[a, b, c, d]) ∈ L) : (∀ o, (w.alloc o).cell? ⟨g, 0, none⟩ = some a) ∧ (∀ o, (w.alloc o).cell? ⟨g, 1, none⟩ = some b) ∧ (∀ o, (w.alloc o).cell? ⟨g, 2, none⟩ = some c) ∧ (∀ o, (w.alloc o).cell? ⟨g, 3, none⟩ = some d) ∧ (∀ i o, (w.alloc o).frozen? ⟨g, i, none⟩ = false) :=
  ⟨fun o => (blk_cell (blk_alloc (h.st.box _ hm) o) 0).trans rfl, fun o => (blk_cell (blk_alloc (h.st.box _ hm) o) 1).trans rfl, fun o => (blk_cell (blk_alloc (h.st.box _ hm) o) 2).trans rfl, fun o => (blk_cell (blk_alloc (h.st.box _ hm) o) 3).trans rfl, fun i o => blk_frozen (blk_alloc (h.st.box _ hm) o) i⟩
theorem alloc2 (h : Mem w0 w L S R) (A B : Array Value) (t u : Nat) : Mem w0 ((w.alloc (.cells A t)).alloc (.cells B u)) ((w.heap.size + 1, u, B) :: (w.heap.size, t, A) :: L) S R := by
  have h1 := (h.alloc A t).alloc B u
  rw [show (w.alloc (.cells A t)).heap.size = w.heap.size + 1 by simp] at h1
  exact h1
theorem lit1 (h : Mem w0 w L S R) (x y : Int) : Mem w0 (w.alloc (.cells #[.int .i64 x, .int .i64 y] 33)) L S ((.slice (some ⟨w.heap.size, 0, none⟩) 1 1, [⟨x, y⟩]) :: R) := by
  have hb : Below w.heap.size w (w.alloc (.cells #[.int .i64 x, .int .i64 y] 33)) := below_alloc (Below.refl _ _) _
  have hr : k33.R 33 (w.alloc (.cells #[.int .i64 x, .int .i64 y] 33)) w.heap.size (fun _ => True) (.slice (some ⟨w.heap.size, 0, none⟩) 1 1) [⟨x, y⟩] :=
    ⟨fun _ _ => trivial, [.int .i64 x, .int .i64 y], ⟨rfl, .inr ⟨w.heap.size, 1, _, rfl, Nat.le_refl _, blk_new w _, Nat.le_refl _, by simp [maxLen], rfl, rfl⟩⟩, rfl, fun j p hj => by
      cases j with
      | zero => obtain rfl : (⟨x, y⟩ : S33) = p := by simpa using hj
                exact k33_mkM _ _ _ ⟨x, y⟩
      | succ j => simp at hj⟩
  exact (h.call hb).addR (Sl.ofR h.st hr)
/-- A string of a row that is read. -/
theorem str (h : Mem w0 w L S R) {A : Option Addr} {n c : Nat} {xs : List ByteArray} (hm : (.slice A n c, xs) ∈ S) (i : Nat) (hi : i < n) (x : ByteArray) (hx : xs[i]? = some x) : ∃ ad, A = some ad ∧ w.cell? (ad.add i) = some (.string x) ∧ ∀ o, (w.alloc o).cell? (ad.add i) = some (.string x) := by
  have hs : Sl Kd.string 9 w L (.slice A n c) xs := h.s _ hm
  obtain ⟨hl, _, hC⟩ := hs.reads
  obtain ⟨ad, ea, hc⟩ := hC.2.2 (by omega)
  obtain ⟨cs, h1, h2, h3⟩ := hc i x hx
  have e : cs = [.string x] := h2
  subst e
  have h4 : w.cell? (ad.add i) = some (.string x) := by
    have := h3 0 (.string x) rfl
    simpa [Kd.string, Kd.scalar] using this
  exact ⟨ad, ea, h4, fun o => (pw_cell_below (below_alloc (Below.refl w.heap.size w) o) h4)⟩
theorem ne (h : Mem w0 w L S R) (g t : Nat) (cs : Array Value) (hm : (g, t, cs) ∈ L) : ¬ g = w.heap.size := h.st.ne hm
end Mem
theorem put_go {w0 w : World} {L : List Bx} {S : List (Value × List ByteArray)} {R : List (Value × List S33)} (hm : Mem w0 w L S R) {b b1 : Bool} {n n1 : Int} {A2 A3 : Option Addr} {n2 c2 n3 c3 : Nat} {ks ks1 : List ByteArray} {rs rs1 : List S33} (h2 : (.slice A2 n2 c2, ks) ∈ S) (h3 : (.slice A3 n3 c3, rs) ∈ R) (key : ByteArray) (x y : Int) (fl : Bool) (m2 m3 : Nat) (k : Nat) (hf : node_Put.f k b n ks rs key x y = some (b1, n1, ks1, rs1, fl)) (e2 : ks1.length = m2) (e3 : rs1.length = m3) :
    Calls Try.prog 42 #[.agg #[.bool b, .int .i64 n, .slice A2 n2 c2, .slice A3 n3 c3], .string key, .agg #[.int .i64 x, .int .i64 y]] w fun e w' => ∃ (B2 : Option Addr) (d2 : Nat) (B3 : Option Addr) (d3 : Nat), e = .returned (.tuple #[.agg #[.bool b1, .int .i64 n1, .slice B2 m2 d2, .slice B3 m3 d3], .bool fl]) ∧ Mem w0 w' L ((.slice B2 m2 d2, ks1) :: S) ((.slice B3 m3 d3, rs1) :: R) := by
  have H2 : Sl Kd.string 9 w L (.slice A2 n2 c2) ks := hm.s _ h2
  have H3 : Sl k33 33 w L (.slice A3 n3 c3) rs := hm.r _ h3
  obtain rfl := H2.reads.1
  obtain rfl := H3.reads.1
  refine (node_Put.calls k b n (Far L) A2 c2 ks (Far L) A3 c3 rs key x y b1 n1 ks1 rs1 fl w H2 H3 hf).mono ?_
  rintro e w' ⟨v2, v3, rfl, g2, g3, hb⟩
  have G2 := Sl.ofV2 hm.st g2
  have G3 := Sl.ofV2 hm.st g3
  obtain ⟨B2, d2, rfl⟩ := G2.form
  obtain ⟨B3, d3, rfl⟩ := G3.form
  subst e2 e3
  exact ⟨B2, d2, B3, d3, rfl, ((hm.call hb).addR G3).addS G2⟩
theorem delete_go {w0 w : World} {L : List Bx} {S : List (Value × List ByteArray)} {R : List (Value × List S33)} (hm : Mem w0 w L S R) {b b1 : Bool} {n n1 : Int} {A2 A3 : Option Addr} {n2 c2 n3 c3 : Nat} {ks ks1 : List ByteArray} {rs rs1 : List S33} (h2 : (.slice A2 n2 c2, ks) ∈ S) (h3 : (.slice A3 n3 c3, rs) ∈ R) (key : ByteArray) (x y : Int) (fl : Bool) (m2 m3 : Nat) (k : Nat) (hf : node_Delete.f k b n ks rs key = some (b1, n1, ks1, rs1, x, y, fl)) (e2 : ks1.length = m2) (e3 : rs1.length = m3) :
    Calls Try.prog 44 #[.agg #[.bool b, .int .i64 n, .slice A2 n2 c2, .slice A3 n3 c3], .string key] w fun e w' => ∃ (B2 : Option Addr) (d2 : Nat) (B3 : Option Addr) (d3 : Nat), e = .returned (.tuple #[.agg #[.bool b1, .int .i64 n1, .slice B2 m2 d2, .slice B3 m3 d3], .agg #[.int .i64 x, .int .i64 y], .bool fl]) ∧ Mem w0 w' L ((.slice B2 m2 d2, ks1) :: S) ((.slice B3 m3 d3, rs1) :: R) := by
  have H2 : Sl Kd.string 9 w L (.slice A2 n2 c2) ks := hm.s _ h2
  have H3 : Sl k33 33 w L (.slice A3 n3 c3) rs := hm.r _ h3
  obtain rfl := H2.reads.1
  obtain rfl := H3.reads.1
  refine (node_Delete.calls k b n (Far L) A2 c2 ks (Far L) A3 c3 rs key b1 n1 ks1 rs1 x y fl w H2 H3 hf).mono ?_
  rintro e w' ⟨v2, v3, rfl, g2, g3, hb⟩
  have G2 := Sl.ofV2 hm.st g2
  have G3 := Sl.ofV2 hm.st g3
  obtain ⟨B2, d2, rfl⟩ := G2.form
  obtain ⟨B3, d3, rfl⟩ := G3.form
  subst e2 e3
  exact ⟨B2, d2, B3, d3, rfl, ((hm.call hb).addR G3).addS G2⟩
theorem insert_go {w0 w : World} {L : List Bx} {S : List (Value × List ByteArray)} {R : List (Value × List S33)} (hm : Mem w0 w L S R) {b b1 : Bool} {n n1 : Int} {A2 A3 : Option Addr} {n2 c2 n3 c3 : Nat} {ks ks1 : List ByteArray} {rs rs1 : List S33} (h2 : (.slice A2 n2 c2, ks) ∈ S) (h3 : (.slice A3 n3 c3, rs) ∈ R) (p : Int) (key : ByteArray) (x y : Int) (m2 m3 : Nat) (hf : node_Insert.f b n ks rs p key x y = some (b1, n1, ks1, rs1)) (e2 : ks1.length = m2) (e3 : rs1.length = m3) :
    Calls Try.prog 47 #[.agg #[.bool b, .int .i64 n, .slice A2 n2 c2, .slice A3 n3 c3], .int .i64 p, .string key, .agg #[.int .i64 x, .int .i64 y]] w fun e w' => ∃ (B2 : Option Addr) (d2 : Nat) (B3 : Option Addr) (d3 : Nat), e = .returned (.agg #[.bool b1, .int .i64 n1, .slice B2 m2 d2, .slice B3 m3 d3]) ∧ Mem w0 w' L ((.slice B2 m2 d2, ks1) :: S) ((.slice B3 m3 d3, rs1) :: R) := by
  have H2 : Sl Kd.string 9 w L (.slice A2 n2 c2) ks := hm.s _ h2
  have H3 : Sl k33 33 w L (.slice A3 n3 c3) rs := hm.r _ h3
  obtain rfl := H2.reads.1
  obtain rfl := H3.reads.1
  refine (node_Insert.calls b n (Far L) A2 c2 ks (Far L) A3 c3 rs p key x y b1 n1 ks1 rs1 w H2 H3 hf).mono ?_
  rintro e w' ⟨v2, v3, rfl, g2, g3, hb⟩
  have G2 := Sl.ofV2 hm.st g2
  have G3 := Sl.ofV2 hm.st g3
  obtain ⟨B2, d2, rfl⟩ := G2.form
  obtain ⟨B3, d3, rfl⟩ := G3.form
  subst e2 e3
  exact ⟨B2, d2, B3, d3, rfl, ((hm.call hb).addR G3).addS G2⟩
theorem remove_go {w0 w : World} {L : List Bx} {S : List (Value × List ByteArray)} {R : List (Value × List S33)} (hm : Mem w0 w L S R) {b b1 : Bool} {n n1 : Int} {A2 A3 : Option Addr} {n2 c2 n3 c3 : Nat} {ks ks1 : List ByteArray} {rs rs1 : List S33} (h2 : (.slice A2 n2 c2, ks) ∈ S) (h3 : (.slice A3 n3 c3, rs) ∈ R) (p : Int) (m2 m3 : Nat) (hf : node_Remove.f b n ks rs p = some (b1, n1, ks1, rs1)) (e2 : ks1.length = m2) (e3 : rs1.length = m3) :
    Calls Try.prog 49 #[.agg #[.bool b, .int .i64 n, .slice A2 n2 c2, .slice A3 n3 c3], .int .i64 p] w fun e w' => ∃ (B2 : Option Addr) (d2 : Nat) (B3 : Option Addr) (d3 : Nat), e = .returned (.agg #[.bool b1, .int .i64 n1, .slice B2 m2 d2, .slice B3 m3 d3]) ∧ Mem w0 w' L ((.slice B2 m2 d2, ks1) :: S) ((.slice B3 m3 d3, rs1) :: R) := by
  have H2 : Sl Kd.string 9 w L (.slice A2 n2 c2) ks := hm.s _ h2
  have H3 : Sl k33 33 w L (.slice A3 n3 c3) rs := hm.r _ h3
  obtain rfl := H2.reads.1
  obtain rfl := H3.reads.1
  refine (node_Remove.calls b n (Far L) A2 c2 ks (Far L) A3 c3 rs p b1 n1 ks1 rs1 w H2 H3 hf).mono ?_
  rintro e w' ⟨v2, v3, rfl, g2, g3, hb⟩
  have G2 := Sl.ofV2 hm.st g2
  have G3 := Sl.ofV2 hm.st g3
  obtain ⟨B2, d2, rfl⟩ := G2.form
  obtain ⟨B3, d3, rfl⟩ := G3.form
  subst e2 e3
  exact ⟨B2, d2, B3, d3, rfl, ((hm.call hb).addR G3).addS G2⟩
theorem join_go {w0 w : World} {L : List Bx} {S : List (Value × List ByteArray)} {R : List (Value × List S33)} (hm : Mem w0 w L S R) {b b1 : Bool} {n n1 : Int} {A2 A3 : Option Addr} {n2 c2 n3 c3 : Nat} {ks ks1 : List ByteArray} {rs rs1 : List S33} (h2 : (.slice A2 n2 c2, ks) ∈ S) (h3 : (.slice A3 n3 c3, rs) ∈ R) (key : ByteArray) {bb : Bool} {nn : Int} {A4 A5 : Option Addr} {n4 c4 n5 c5 : Nat} {ks2 : List ByteArray} {rs2 : List S33} (h4 : (.slice A4 n4 c4, ks2) ∈ S) (h5 : (.slice A5 n5 c5, rs2) ∈ R) (m2 m3 : Nat) (k : Nat) (hf : node_Join.f k b n ks rs key bb nn ks2 rs2 = some (b1, n1, ks1, rs1)) (e2 : ks1.length = m2) (e3 : rs1.length = m3) :
    Calls Try.prog 53 #[.agg #[.bool b, .int .i64 n, .slice A2 n2 c2, .slice A3 n3 c3], .string key, .agg #[.bool bb, .int .i64 nn, .slice A4 n4 c4, .slice A5 n5 c5]] w fun e w' => ∃ (B2 : Option Addr) (d2 : Nat) (B3 : Option Addr) (d3 : Nat), e = .returned (.agg #[.bool b1, .int .i64 n1, .slice B2 m2 d2, .slice B3 m3 d3]) ∧ Mem w0 w' L ((.slice B2 m2 d2, ks1) :: S) ((.slice B3 m3 d3, rs1) :: R) := by
  have H2 : Sl Kd.string 9 w L (.slice A2 n2 c2) ks := hm.s _ h2
  have H3 : Sl k33 33 w L (.slice A3 n3 c3) rs := hm.r _ h3
  obtain rfl := H2.reads.1
  obtain rfl := H3.reads.1
  have H4 : Sl Kd.string 9 w L (.slice A4 n4 c4) ks2 := hm.s _ h4
  have H5 : Sl k33 33 w L (.slice A5 n5 c5) rs2 := hm.r _ h5
  obtain rfl := H4.reads.1
  obtain rfl := H5.reads.1
  refine (node_Join.calls k b n (Far L) A2 c2 ks (Far L) A3 c3 rs key bb nn A4 c4 ks2 A5 c5 rs2 b1 n1 ks1 rs1 w H2 H3 H4.C H4.le H5.C H5.le hf).mono ?_
  rintro e w' ⟨v2, v3, rfl, g2, g3, hb⟩
  have G2 := Sl.ofV2 hm.st g2
  have G3 := Sl.ofV2 hm.st g3
  obtain ⟨B2, d2, rfl⟩ := G2.form
  obtain ⟨B3, d3, rfl⟩ := G3.form
  subst e2 e3
  exact ⟨B2, d2, B3, d3, rfl, ((hm.call hb).addR G3).addS G2⟩
theorem split_go {w0 w : World} {L : List Bx} {S : List (Value × List ByteArray)} {R : List (Value × List S33)} (hm : Mem w0 w L S R) {b b1 b2 : Bool} (hb : b = true) {n n1 nn : Int} {A2 A3 : Option Addr} {n2 c2 n3 c3 : Nat} {ks ks1 ks2 : List ByteArray} {rs rs1 rs2 : List S33} (h2 : (.slice A2 n2 c2, ks) ∈ S) (h3 : (.slice A3 n3 c3, rs) ∈ R) (key : ByteArray) (m2 m3 m4 m5 : Nat) (k : Nat) (hf : node_Split.f k b n ks rs = some (b1, n1, ks1, rs1, key, b2, nn, ks2, rs2)) (e2 : ks1.length = m2) (e3 : rs1.length = m3) (e4 : ks2.length = m4) (e5 : rs2.length = m5) :
    Calls Try.prog 51 #[.agg #[.bool b, .int .i64 n, .slice A2 n2 c2, .slice A3 n3 c3]] w fun e w' => ∃ (B2 : Option Addr) (d2 : Nat) (B3 : Option Addr) (d3 : Nat) (B4 : Option Addr) (d4 : Nat) (B5 : Option Addr) (d5 : Nat), e = .returned (.tuple #[.agg #[.bool b1, .int .i64 n1, .slice B2 m2 d2, .slice B3 m3 d3], .string key, .agg #[.bool b2, .int .i64 nn, .slice B4 m4 d4, .slice B5 m5 d5]]) ∧ Mem w0 w' L ((.slice B2 m2 d2, ks1) :: (.slice B4 m4 d4, ks2) :: S) ((.slice B3 m3 d3, rs1) :: (.slice B5 m5 d5, rs2) :: R) := by
  have H2 : Sl Kd.string 9 w L (.slice A2 n2 c2) ks := hm.s _ h2
  have H3 : Sl k33 33 w L (.slice A3 n3 c3) rs := hm.r _ h3
  obtain rfl := H2.reads.1
  obtain rfl := H3.reads.1
  refine (node_Split.callsL k b n (Far L) A2 c2 ks (Far L) A3 c3 rs b1 n1 ks1 rs1 key b2 nn ks2 rs2 w H2 H3 hf ⟨hb⟩).mono ?_
  rintro e w' ⟨v2, v3, v4, v5, rfl, g2, g3, g4, g5, hb⟩
  have G2 := Sl.ofV2 hm.st (Kd.V_mono g2 (fun k hk => hk.1))
  have G3 := Sl.ofV2 hm.st (Kd.V_mono g3 (fun k hk => hk.1))
  have G4 := Sl.ofR hm.st g4
  have G5 := Sl.ofR hm.st g5
  obtain ⟨B2, d2, rfl⟩ := G2.form
  obtain ⟨B3, d3, rfl⟩ := G3.form
  obtain ⟨B4, d4, rfl⟩ := G4.form
  obtain ⟨B5, d5, rfl⟩ := G5.form
  subst e2 e3 e4 e5
  exact ⟨B2, d2, B3, d3, B4, d4, B5, d5, rfl, ((((hm.call hb).addR G5).addR G3).addS G4).addS G2⟩
theorem find_go {w0 w : World} {L : List Bx} {S : List (Value × List ByteArray)} {R : List (Value × List S33)} (hm : Mem w0 w L S R) {b : Bool} {n : Int} {A2 A3 : Option Addr} {n2 c2 n3 c3 : Nat} {ks : List ByteArray} {rs : List S33} (h2 : (.slice A2 n2 c2, ks) ∈ S) (h3 : (.slice A3 n3 c3, rs) ∈ R) (key : ByteArray) (i : Int) (q : Bool) (k : Nat) (hf : node_Find.f k b n ks rs key = some (i, q)) :
    Calls Try.prog 38 #[.agg #[.bool b, .int .i64 n, .slice A2 n2 c2, .slice A3 n3 c3], .string key] w fun e w' => e = .returned (.tuple #[.int .i64 i, .bool q]) ∧ Mem w0 w' L S R := by
  have H2 : Sl Kd.string 9 w L (.slice A2 n2 c2) ks := hm.s _ h2
  have H3 : Sl k33 33 w L (.slice A3 n3 c3) rs := hm.r _ h3
  obtain rfl := H2.reads.1
  obtain rfl := H3.reads.1
  refine (node_Find.calls k b n A2 c2 ks A3 c3 rs key i q w H2.C H2.le H3.C H3.le hf).mono ?_
  rintro e w' ⟨rfl, hb⟩
  exact ⟨rfl, hm.call hb⟩
theorem size_go {w0 w : World} {L : List Bx} {S : List (Value × List ByteArray)} {R : List (Value × List S33)} (hm : Mem w0 w L S R) {b : Bool} {n : Int} {A2 A3 : Option Addr} {n2 c2 n3 c3 : Nat} {ks : List ByteArray} {rs : List S33} (h2 : (.slice A2 n2 c2, ks) ∈ S) (h3 : (.slice A3 n3 c3, rs) ∈ R)  (i : Int) (hf : node_Size.f b n ks rs = some i) :
    Calls Try.prog 35 #[.agg #[.bool b, .int .i64 n, .slice A2 n2 c2, .slice A3 n3 c3]] w fun e w' => e = .returned (.int .i64 i) ∧ Mem w0 w' L S R := by
  have H2 : Sl Kd.string 9 w L (.slice A2 n2 c2) ks := hm.s _ h2
  have H3 : Sl k33 33 w L (.slice A3 n3 c3) rs := hm.r _ h3
  obtain rfl := H2.reads.1
  obtain rfl := H3.reads.1
  refine (node_Size.calls b n A2 c2 ks A3 c3 rs  i w H2.C H2.le H3.C H3.le hf).mono ?_
  rintro e w' ⟨rfl, hb⟩
  exact ⟨rfl, hm.call hb⟩
theorem child_go {w0 w : World} {L : List Bx} {S : List (Value × List ByteArray)} {R : List (Value × List S33)} (hm : Mem w0 w L S R) {b : Bool} {n : Int} {A2 A3 : Option Addr} {n2 c2 n3 c3 : Nat} {ks : List ByteArray} {rs : List S33} (h2 : (.slice A2 n2 c2, ks) ∈ S) (h3 : (.slice A3 n3 c3, rs) ∈ R) (key : ByteArray) (i : Int) (k : Nat) (hf : node_Child.f k b n ks rs key = some i) :
    Calls Try.prog 40 #[.agg #[.bool b, .int .i64 n, .slice A2 n2 c2, .slice A3 n3 c3], .string key] w fun e w' => e = .returned (.int .i64 i) ∧ Mem w0 w' L S R := by
  have H2 : Sl Kd.string 9 w L (.slice A2 n2 c2) ks := hm.s _ h2
  have H3 : Sl k33 33 w L (.slice A3 n3 c3) rs := hm.r _ h3
  obtain rfl := H2.reads.1
  obtain rfl := H3.reads.1
  refine (node_Child.calls k b n A2 c2 ks A3 c3 rs key i w H2.C H2.le H3.C H3.le hf).mono ?_
  rintro e w' ⟨rfl, hb⟩
  exact ⟨rfl, hm.call hb⟩
theorem check_go {w0 w : World} {L : List Bx} {S : List (Value × List ByteArray)} {R : List (Value × List S33)} (hm : Mem w0 w L S R) {b : Bool} {n : Int} {A2 A3 : Option Addr} {n2 c2 n3 c3 : Nat} {ks : List ByteArray} {rs : List S33} (h2 : (.slice A2 n2 c2, ks) ∈ S) (h3 : (.slice A3 n3 c3, rs) ∈ R)  (q : Bool) (k : Nat) (hf : node_Check.f k b n ks rs = some q) :
    Calls Try.prog 33 #[.agg #[.bool b, .int .i64 n, .slice A2 n2 c2, .slice A3 n3 c3]] w fun e w' => e = .returned (.bool q) ∧ Mem w0 w' L S R := by
  have H2 : Sl Kd.string 9 w L (.slice A2 n2 c2) ks := hm.s _ h2
  have H3 : Sl k33 33 w L (.slice A3 n3 c3) rs := hm.r _ h3
  obtain rfl := H2.reads.1
  obtain rfl := H3.reads.1
  refine (node_Check.calls k b n A2 c2 ks A3 c3 rs  q w H2.C H2.le H3.C H3.le hf).mono ?_
  rintro e w' ⟨rfl, hb⟩
  exact ⟨rfl, hm.call hb⟩
theorem aw_put0 : node_Put.f 50 true 0 [] [] ⟨#[99]⟩ 0 0 = some (true, 1, [⟨#[99]⟩], [⟨0, 0⟩], true) := by kernel_rfl
theorem aw_put1 : node_Put.f 50 true 1 [⟨#[99]⟩] [⟨0, 0⟩] ⟨#[97]⟩ 1 0 = some (true, 2, [⟨#[97]⟩, ⟨#[99]⟩], [⟨1, 0⟩, ⟨0, 0⟩], true) := by kernel_rfl
theorem aw_put2 : node_Put.f 50 true 2 [⟨#[97]⟩, ⟨#[99]⟩] [⟨1, 0⟩, ⟨0, 0⟩] ⟨#[101]⟩ 2 0 = some (true, 3, [⟨#[97]⟩, ⟨#[99]⟩, ⟨#[101]⟩], [⟨1, 0⟩, ⟨0, 0⟩, ⟨2, 0⟩], true) := by kernel_rfl
theorem aw_put3 : node_Put.f 50 true 3 [⟨#[97]⟩, ⟨#[99]⟩, ⟨#[101]⟩] [⟨1, 0⟩, ⟨0, 0⟩, ⟨2, 0⟩] ⟨#[98]⟩ 3 0 = some (true, 4, [⟨#[97]⟩, ⟨#[98]⟩, ⟨#[99]⟩, ⟨#[101]⟩], [⟨1, 0⟩, ⟨3, 0⟩, ⟨0, 0⟩, ⟨2, 0⟩], true) := by kernel_rfl
theorem aw_put4 : node_Put.f 50 true 4 [⟨#[97]⟩, ⟨#[98]⟩, ⟨#[99]⟩, ⟨#[101]⟩] [⟨1, 0⟩, ⟨3, 0⟩, ⟨0, 0⟩, ⟨2, 0⟩] ⟨#[100]⟩ 4 0 = some (true, 5, [⟨#[97]⟩, ⟨#[98]⟩, ⟨#[99]⟩, ⟨#[100]⟩, ⟨#[101]⟩], [⟨1, 0⟩, ⟨3, 0⟩, ⟨0, 0⟩, ⟨4, 0⟩, ⟨2, 0⟩], true) := by kernel_rfl
theorem aw_split : node_Split.f 50 true 5 [⟨#[97]⟩, ⟨#[98]⟩, ⟨#[99]⟩, ⟨#[100]⟩, ⟨#[101]⟩] [⟨1, 0⟩, ⟨3, 0⟩, ⟨0, 0⟩, ⟨4, 0⟩, ⟨2, 0⟩] = some (true, 6, [⟨#[97]⟩, ⟨#[98]⟩, ⟨#[99]⟩], [⟨1, 0⟩, ⟨3, 0⟩, ⟨0, 0⟩], ⟨#[100]⟩, true, 1, [⟨#[100]⟩, ⟨#[101]⟩], [⟨4, 0⟩, ⟨2, 0⟩]) := by kernel_rfl
theorem aw_find : node_Find.f 50 true 5 [⟨#[97]⟩, ⟨#[98]⟩, ⟨#[99]⟩, ⟨#[100]⟩, ⟨#[101]⟩] [⟨1, 0⟩, ⟨3, 0⟩, ⟨0, 0⟩, ⟨4, 0⟩, ⟨2, 0⟩] ⟨#[100]⟩ = some (3, true) := by kernel_rfl
theorem aw_join : node_Join.f 50 true 6 [⟨#[97]⟩, ⟨#[98]⟩, ⟨#[99]⟩] [⟨1, 0⟩, ⟨3, 0⟩, ⟨0, 0⟩] ⟨#[100]⟩ true 1 [⟨#[100]⟩, ⟨#[101]⟩] [⟨4, 0⟩, ⟨2, 0⟩] = some (true, 7, [⟨#[97]⟩, ⟨#[98]⟩, ⟨#[99]⟩, ⟨#[100]⟩, ⟨#[101]⟩], [⟨1, 0⟩, ⟨3, 0⟩, ⟨0, 0⟩, ⟨4, 0⟩, ⟨2, 0⟩]) := by kernel_rfl
theorem aw_delete : node_Delete.f 50 true 7 [⟨#[97]⟩, ⟨#[98]⟩, ⟨#[99]⟩, ⟨#[100]⟩, ⟨#[101]⟩] [⟨1, 0⟩, ⟨3, 0⟩, ⟨0, 0⟩, ⟨4, 0⟩, ⟨2, 0⟩] ⟨#[97]⟩ = some (true, 8, [⟨#[98]⟩, ⟨#[99]⟩, ⟨#[100]⟩, ⟨#[101]⟩], [⟨3, 0⟩, ⟨0, 0⟩, ⟨4, 0⟩, ⟨2, 0⟩], 1, 0, true) := by kernel_rfl
theorem aw_insert : node_Insert.f false 0 [] [⟨1, 0⟩] 0 ⟨#[109]⟩ 2 0 = some (false, 1, [⟨#[109]⟩], [⟨1, 0⟩, ⟨2, 0⟩]) := by kernel_rfl
theorem aw_child1 : node_Child.f 50 false 1 [⟨#[109]⟩] [⟨1, 0⟩, ⟨2, 0⟩] ⟨#[109]⟩ = some 1 := by kernel_rfl
theorem aw_child2 : node_Child.f 50 false 1 [⟨#[109]⟩] [⟨1, 0⟩, ⟨2, 0⟩] ⟨#[97]⟩ = some 0 := by kernel_rfl
theorem aw_remove : node_Remove.f false 1 [⟨#[109]⟩] [⟨1, 0⟩, ⟨2, 0⟩] 0 = some (false, 2, [], [⟨2, 0⟩]) := by kernel_rfl
theorem aw_size : node_Size.f false 2 [] [⟨2, 0⟩] = some 1 := by kernel_rfl
theorem aw_check1 : node_Check.f 50 true 8 [⟨#[98]⟩, ⟨#[99]⟩, ⟨#[100]⟩, ⟨#[101]⟩] [⟨3, 0⟩, ⟨0, 0⟩, ⟨4, 0⟩, ⟨2, 0⟩] = some true := by kernel_rfl
theorem aw_check2 : node_Check.f 50 true 5 [⟨#[97]⟩, ⟨#[98]⟩, ⟨#[99]⟩, ⟨#[100]⟩, ⟨#[101]⟩] [⟨1, 0⟩, ⟨3, 0⟩, ⟨0, 0⟩, ⟨4, 0⟩, ⟨2, 0⟩] = some false := by kernel_rfl
theorem aw_idx0 (w : World) : (Instr.index 144 (.agg #[.string ⟨#[99]⟩, .string ⟨#[97]⟩, .string ⟨#[101]⟩, .string ⟨#[98]⟩, .string ⟨#[100]⟩]) (.int .i64 0)).run Try.prog w = .ok (.string ⟨#[99]⟩) w := by kernel_rfl
theorem aw_idx1 (w : World) : (Instr.index 144 (.agg #[.string ⟨#[99]⟩, .string ⟨#[97]⟩, .string ⟨#[101]⟩, .string ⟨#[98]⟩, .string ⟨#[100]⟩]) (.int .i64 1)).run Try.prog w = .ok (.string ⟨#[97]⟩) w := by kernel_rfl
theorem aw_idx2 (w : World) : (Instr.index 144 (.agg #[.string ⟨#[99]⟩, .string ⟨#[97]⟩, .string ⟨#[101]⟩, .string ⟨#[98]⟩, .string ⟨#[100]⟩]) (.int .i64 2)).run Try.prog w = .ok (.string ⟨#[101]⟩) w := by kernel_rfl
theorem aw_idx3 (w : World) : (Instr.index 144 (.agg #[.string ⟨#[99]⟩, .string ⟨#[97]⟩, .string ⟨#[101]⟩, .string ⟨#[98]⟩, .string ⟨#[100]⟩]) (.int .i64 3)).run Try.prog w = .ok (.string ⟨#[98]⟩) w := by kernel_rfl
theorem aw_idx4 (w : World) : (Instr.index 144 (.agg #[.string ⟨#[99]⟩, .string ⟨#[97]⟩, .string ⟨#[101]⟩, .string ⟨#[98]⟩, .string ⟨#[100]⟩]) (.int .i64 4)).run Try.prog w = .ok (.string ⟨#[100]⟩) w := by kernel_rfl
def transomlaw17_awake.f  : Option (Bool) := some true
set_option maxHeartbeats 8000000 in
set_option maxRecDepth 100000 in
theorem transomlaw17_awake.calls  (r : Bool) (w : World) (h : transomlaw17_awake.f  = some r) :
    Calls Try.prog 32 #[] w fun e w' => e = .returned (.bool r) ∧ Below w.heap.size w w' := by
  obtain rfl := Option.some.inj h
  clear h
  have hu59 := Try.underlying59
  have hu33 := Try.underlying33
  have hu57 := Try.underlying57
  have hu31 := Try.underlying31
  have hu144 := Try.underlying144
  have hi0 := aw_idx0
  have hi1 := aw_idx1
  have hi2 := aw_idx2
  have hi3 := aw_idx3
  have hi4 := aw_idx4
  have HM := Aside0.mk (((Mem.start w).alloc #[.bool true, .int .i64 0, .slice none 0 0, .slice none 0 0] 59).addNil)
  go_enter Try.func32, Try.ntmps32
  go_wp2_with fail
  refine wp_loop_rounds 6 ?_
  rw [rounds_succ]
  go_wp2_with (first
    | (go_at_call 42; refine (put_go HM.out (by simp) (by simp) ⟨#[99]⟩ 0 0 true 1 1 50 aw_put0 rfl rfl).mono ?_; rintro e1 w1 ⟨B20, d20, B30, d30, rfl, h1⟩
       obtain ⟨⟨x0, x1, x2, x3⟩, xz, xn⟩ := Mem.four h1 w.heap.size 59 (.bool true) (.int .i64 0) (.slice none 0 0) (.slice none 0 0) (by simp)
       have xz0 := xz 0
       have xz1 := xz 1
       have xz2 := xz 2
       have xz3 := xz 3
       clear xz
       obtain ⟨xa0, xa1, xa2, xa3, xaz⟩ := Mem.fourA h1 w.heap.size 59 (.bool true) (.int .i64 0) (.slice none 0 0) (.slice none 0 0) (by simp)
       have H1 := Aside0.mk h1
       clear h1))
  obtain ⟨v, hv, HV⟩ : ∃ v, v = _ ∧ Mem w v [(w.heap.size, 59, #[.bool true, .int .i64 1, .slice B20 1 d20, .slice B30 1 d30])] [(.slice B20 1 d20, [⟨#[99]⟩])] [(.slice B30 1 d30, [⟨0, 0⟩])] := ⟨_, rfl, (((H1.out.alloc #[.bool true, .int .i64 1, .slice B20 1 d20, .slice B30 1 d30] 59).perm (List.Perm.swap _ _ _)).set4 rfl (.bool true) (.int .i64 1) (.slice B20 1 d20) (.slice B30 1 d30)).drop (List.Sublist.cons_cons _ (List.nil_sublist _)) (by simp) (by simp)⟩
  rw [← hv]
  clear hv H1 HM x0 x1 x2 x3 xn xz0 xz1 xz2 xz3 xa0 xa1 xa2 xa3 xaz
  have HM := Aside0.mk HV
  clear HV
  rw [rounds_succ]
  obtain ⟨⟨y0, y1, y2, y3⟩, yz, yn⟩ := Mem.four HM.out w.heap.size 59 (.bool true) (.int .i64 1) (.slice B20 1 d20) (.slice B30 1 d30) (by simp)
  have yz0 := yz 0
  have yz1 := yz 1
  have yz2 := yz 2
  have yz3 := yz 3
  clear yz
  obtain ⟨ya0, ya1, ya2, ya3, yaz⟩ := Mem.fourA HM.out w.heap.size 59 (.bool true) (.int .i64 1) (.slice B20 1 d20) (.slice B30 1 d30) (by simp)
  go_wp2_with (first
    | (go_at_call 42; refine (put_go HM.out (by simp) (by simp) ⟨#[97]⟩ 1 0 true 2 2 50 aw_put1 rfl rfl).mono ?_; rintro e1 w1 ⟨B21, d21, B31, d31, rfl, h1⟩
       obtain ⟨⟨x0, x1, x2, x3⟩, xz, xn⟩ := Mem.four h1 w.heap.size 59 (.bool true) (.int .i64 1) (.slice B20 1 d20) (.slice B30 1 d30) (by simp)
       have xz0 := xz 0
       have xz1 := xz 1
       have xz2 := xz 2
       have xz3 := xz 3
       clear xz
       obtain ⟨xa0, xa1, xa2, xa3, xaz⟩ := Mem.fourA h1 w.heap.size 59 (.bool true) (.int .i64 1) (.slice B20 1 d20) (.slice B30 1 d30) (by simp)
       have H1 := Aside0.mk h1
       clear h1))
  obtain ⟨v, hv, HV⟩ : ∃ v, v = _ ∧ Mem w v [(w.heap.size, 59, #[.bool true, .int .i64 2, .slice B21 2 d21, .slice B31 2 d31])] [(.slice B21 2 d21, [⟨#[97]⟩, ⟨#[99]⟩])] [(.slice B31 2 d31, [⟨1, 0⟩, ⟨0, 0⟩])] := ⟨_, rfl, (((H1.out.alloc #[.bool true, .int .i64 2, .slice B21 2 d21, .slice B31 2 d31] 59).perm (List.Perm.swap _ _ _)).set4 rfl (.bool true) (.int .i64 2) (.slice B21 2 d21) (.slice B31 2 d31)).drop (List.Sublist.cons_cons _ (List.nil_sublist _)) (by simp) (by simp)⟩
  rw [← hv]
  clear hv H1 HM x0 x1 x2 x3 xn xz0 xz1 xz2 xz3 xa0 xa1 xa2 xa3 xaz y0 y1 y2 y3 yn yz0 yz1 yz2 yz3 ya0 ya1 ya2 ya3 yaz
  have HM := Aside0.mk HV
  clear HV
  rw [rounds_succ]
  obtain ⟨⟨y0, y1, y2, y3⟩, yz, yn⟩ := Mem.four HM.out w.heap.size 59 (.bool true) (.int .i64 2) (.slice B21 2 d21) (.slice B31 2 d31) (by simp)
  have yz0 := yz 0
  have yz1 := yz 1
  have yz2 := yz 2
  have yz3 := yz 3
  clear yz
  obtain ⟨ya0, ya1, ya2, ya3, yaz⟩ := Mem.fourA HM.out w.heap.size 59 (.bool true) (.int .i64 2) (.slice B21 2 d21) (.slice B31 2 d31) (by simp)
  go_wp2_with (first
    | (go_at_call 42; refine (put_go HM.out (by simp) (by simp) ⟨#[101]⟩ 2 0 true 3 3 50 aw_put2 rfl rfl).mono ?_; rintro e1 w1 ⟨B22, d22, B32, d32, rfl, h1⟩
       obtain ⟨⟨x0, x1, x2, x3⟩, xz, xn⟩ := Mem.four h1 w.heap.size 59 (.bool true) (.int .i64 2) (.slice B21 2 d21) (.slice B31 2 d31) (by simp)
       have xz0 := xz 0
       have xz1 := xz 1
       have xz2 := xz 2
       have xz3 := xz 3
       clear xz
       obtain ⟨xa0, xa1, xa2, xa3, xaz⟩ := Mem.fourA h1 w.heap.size 59 (.bool true) (.int .i64 2) (.slice B21 2 d21) (.slice B31 2 d31) (by simp)
       have H1 := Aside0.mk h1
       clear h1))
  obtain ⟨v, hv, HV⟩ : ∃ v, v = _ ∧ Mem w v [(w.heap.size, 59, #[.bool true, .int .i64 3, .slice B22 3 d22, .slice B32 3 d32])] [(.slice B22 3 d22, [⟨#[97]⟩, ⟨#[99]⟩, ⟨#[101]⟩])] [(.slice B32 3 d32, [⟨1, 0⟩, ⟨0, 0⟩, ⟨2, 0⟩])] := ⟨_, rfl, (((H1.out.alloc #[.bool true, .int .i64 3, .slice B22 3 d22, .slice B32 3 d32] 59).perm (List.Perm.swap _ _ _)).set4 rfl (.bool true) (.int .i64 3) (.slice B22 3 d22) (.slice B32 3 d32)).drop (List.Sublist.cons_cons _ (List.nil_sublist _)) (by simp) (by simp)⟩
  rw [← hv]
  clear hv H1 HM x0 x1 x2 x3 xn xz0 xz1 xz2 xz3 xa0 xa1 xa2 xa3 xaz y0 y1 y2 y3 yn yz0 yz1 yz2 yz3 ya0 ya1 ya2 ya3 yaz
  have HM := Aside0.mk HV
  clear HV
  rw [rounds_succ]
  obtain ⟨⟨y0, y1, y2, y3⟩, yz, yn⟩ := Mem.four HM.out w.heap.size 59 (.bool true) (.int .i64 3) (.slice B22 3 d22) (.slice B32 3 d32) (by simp)
  have yz0 := yz 0
  have yz1 := yz 1
  have yz2 := yz 2
  have yz3 := yz 3
  clear yz
  obtain ⟨ya0, ya1, ya2, ya3, yaz⟩ := Mem.fourA HM.out w.heap.size 59 (.bool true) (.int .i64 3) (.slice B22 3 d22) (.slice B32 3 d32) (by simp)
  go_wp2_with (first
    | (go_at_call 42; refine (put_go HM.out (by simp) (by simp) ⟨#[98]⟩ 3 0 true 4 4 50 aw_put3 rfl rfl).mono ?_; rintro e1 w1 ⟨B23, d23, B33, d33, rfl, h1⟩
       obtain ⟨⟨x0, x1, x2, x3⟩, xz, xn⟩ := Mem.four h1 w.heap.size 59 (.bool true) (.int .i64 3) (.slice B22 3 d22) (.slice B32 3 d32) (by simp)
       have xz0 := xz 0
       have xz1 := xz 1
       have xz2 := xz 2
       have xz3 := xz 3
       clear xz
       obtain ⟨xa0, xa1, xa2, xa3, xaz⟩ := Mem.fourA h1 w.heap.size 59 (.bool true) (.int .i64 3) (.slice B22 3 d22) (.slice B32 3 d32) (by simp)
       have H1 := Aside0.mk h1
       clear h1))
  obtain ⟨v, hv, HV⟩ : ∃ v, v = _ ∧ Mem w v [(w.heap.size, 59, #[.bool true, .int .i64 4, .slice B23 4 d23, .slice B33 4 d33])] [(.slice B23 4 d23, [⟨#[97]⟩, ⟨#[98]⟩, ⟨#[99]⟩, ⟨#[101]⟩])] [(.slice B33 4 d33, [⟨1, 0⟩, ⟨3, 0⟩, ⟨0, 0⟩, ⟨2, 0⟩])] := ⟨_, rfl, (((H1.out.alloc #[.bool true, .int .i64 4, .slice B23 4 d23, .slice B33 4 d33] 59).perm (List.Perm.swap _ _ _)).set4 rfl (.bool true) (.int .i64 4) (.slice B23 4 d23) (.slice B33 4 d33)).drop (List.Sublist.cons_cons _ (List.nil_sublist _)) (by simp) (by simp)⟩
  rw [← hv]
  clear hv H1 HM x0 x1 x2 x3 xn xz0 xz1 xz2 xz3 xa0 xa1 xa2 xa3 xaz y0 y1 y2 y3 yn yz0 yz1 yz2 yz3 ya0 ya1 ya2 ya3 yaz
  have HM := Aside0.mk HV
  clear HV
  rw [rounds_succ]
  obtain ⟨⟨y0, y1, y2, y3⟩, yz, yn⟩ := Mem.four HM.out w.heap.size 59 (.bool true) (.int .i64 4) (.slice B23 4 d23) (.slice B33 4 d33) (by simp)
  have yz0 := yz 0
  have yz1 := yz 1
  have yz2 := yz 2
  have yz3 := yz 3
  clear yz
  obtain ⟨ya0, ya1, ya2, ya3, yaz⟩ := Mem.fourA HM.out w.heap.size 59 (.bool true) (.int .i64 4) (.slice B23 4 d23) (.slice B33 4 d33) (by simp)
  go_wp2_with (first
    | (go_at_call 42; refine (put_go HM.out (by simp) (by simp) ⟨#[100]⟩ 4 0 true 5 5 50 aw_put4 rfl rfl).mono ?_; rintro e1 w1 ⟨B24, d24, B34, d34, rfl, h1⟩
       obtain ⟨⟨x0, x1, x2, x3⟩, xz, xn⟩ := Mem.four h1 w.heap.size 59 (.bool true) (.int .i64 4) (.slice B23 4 d23) (.slice B33 4 d33) (by simp)
       have xz0 := xz 0
       have xz1 := xz 1
       have xz2 := xz 2
       have xz3 := xz 3
       clear xz
       obtain ⟨xa0, xa1, xa2, xa3, xaz⟩ := Mem.fourA h1 w.heap.size 59 (.bool true) (.int .i64 4) (.slice B23 4 d23) (.slice B33 4 d33) (by simp)
       have H1 := Aside0.mk h1
       clear h1))
  obtain ⟨v, hv, HV⟩ : ∃ v, v = _ ∧ Mem w v [(w.heap.size, 59, #[.bool true, .int .i64 5, .slice B24 5 d24, .slice B34 5 d34])] [(.slice B24 5 d24, [⟨#[97]⟩, ⟨#[98]⟩, ⟨#[99]⟩, ⟨#[100]⟩, ⟨#[101]⟩])] [(.slice B34 5 d34, [⟨1, 0⟩, ⟨3, 0⟩, ⟨0, 0⟩, ⟨4, 0⟩, ⟨2, 0⟩])] := ⟨_, rfl, (((H1.out.alloc #[.bool true, .int .i64 5, .slice B24 5 d24, .slice B34 5 d34] 59).perm (List.Perm.swap _ _ _)).set4 rfl (.bool true) (.int .i64 5) (.slice B24 5 d24) (.slice B34 5 d34)).drop (List.Sublist.cons_cons _ (List.nil_sublist _)) (by simp) (by simp)⟩
  rw [← hv]
  clear hv H1 HM x0 x1 x2 x3 xn xz0 xz1 xz2 xz3 xa0 xa1 xa2 xa3 xaz y0 y1 y2 y3 yn yz0 yz1 yz2 yz3 ya0 ya1 ya2 ya3 yaz
  have HM := Aside0.mk HV
  clear HV
  rw [rounds_succ]
  obtain ⟨⟨y0, y1, y2, y3⟩, yz, yn⟩ := Mem.four HM.out w.heap.size 59 (.bool true) (.int .i64 5) (.slice B24 5 d24) (.slice B34 5 d34) (by simp)
  have yz0 := yz 0
  have yz1 := yz 1
  have yz2 := yz 2
  have yz3 := yz 3
  clear yz
  obtain ⟨ya0, ya1, ya2, ya3, yaz⟩ := Mem.fourA HM.out w.heap.size 59 (.bool true) (.int .i64 5) (.slice B24 5 d24) (.slice B34 5 d34) (by simp)
  go_upto_region 12 with (first
    | (go_at_call 51; refine (split_go HM.out rfl (by simp) (by simp) ⟨#[100]⟩ 3 3 2 2 50 aw_split rfl rfl rfl rfl).mono ?_; rintro e1 w1 ⟨P2, p2, P3, p3, Q2, q2, Q3, q3, rfl, h1⟩
       have H1 := Aside0.mk h1
       clear h1))
  obtain ⟨v, hv, HV⟩ : ∃ v, v = _ ∧ Mem w v [(w1.heap.size + 1, 59, #[.bool true, .int .i64 1, .slice Q2 2 q2, .slice Q3 2 q3]), (w1.heap.size, 59, #[.bool true, .int .i64 6, .slice P2 3 p2, .slice P3 3 p3]), (w.heap.size, 59, #[.bool true, .int .i64 5, .slice B24 5 d24, .slice B34 5 d34])] _ _ := ⟨_, rfl, H1.out.alloc2 #[.bool true, .int .i64 6, .slice P2 3 p2, .slice P3 3 p3] #[.bool true, .int .i64 1, .slice Q2 2 q2, .slice Q3 2 q3] 59 59⟩
  rw [← hv]
  clear hv
  generalize w1.heap.size = ga at HV ⊢
  obtain ⟨gb, hgb⟩ : ∃ gb, gb = ga + 1 := ⟨_, rfl⟩
  rw [← hgb] at HV ⊢
  clear hgb H1 HM y0 y1 y2 y3 yn yz0 yz1 yz2 yz3 ya0 ya1 ya2 ya3 yaz
  have HM := Aside0.mk HV
  clear HV
  obtain ⟨⟨y0, y1, y2, y3⟩, yz, yn⟩ := Mem.four HM.out w.heap.size 59 (.bool true) (.int .i64 5) (.slice B24 5 d24) (.slice B34 5 d34) (by simp)
  have yz0 := yz 0
  have yz1 := yz 1
  have yz2 := yz 2
  have yz3 := yz 3
  clear yz
  obtain ⟨ya0, ya1, ya2, ya3, yaz⟩ := Mem.fourA HM.out w.heap.size 59 (.bool true) (.int .i64 5) (.slice B24 5 d24) (.slice B34 5 d34) (by simp)
  go_upto_region 13 with (first
    | (go_at_call 38; refine (find_go HM.out (by simp) (by simp) ⟨#[100]⟩ 3 true 50 aw_find).mono ?_; rintro e1 w2 ⟨rfl, h1⟩
       have H1 := Aside0.mk h1
       clear h1))
  clear HM y0 y1 y2 y3 yn yz0 yz1 yz2 yz3 ya0 ya1 ya2 ya3 yaz
  obtain ⟨⟨y00, y01, y02, y03⟩, y0z, y0n⟩ := Mem.four H1.out ga 59 (.bool true) (.int .i64 6) (.slice P2 3 p2) (.slice P3 3 p3) (by simp)
  have y0z0 := y0z 0
  have y0z1 := y0z 1
  have y0z2 := y0z 2
  have y0z3 := y0z 3
  clear y0z
  obtain ⟨y0a0, y0a1, y0a2, y0a3, y0az⟩ := Mem.fourA H1.out ga 59 (.bool true) (.int .i64 6) (.slice P2 3 p2) (.slice P3 3 p3) (by simp)
  obtain ⟨⟨y10, y11, y12, y13⟩, y1z, y1n⟩ := Mem.four H1.out gb 59 (.bool true) (.int .i64 1) (.slice Q2 2 q2) (.slice Q3 2 q3) (by simp)
  have y1z0 := y1z 0
  have y1z1 := y1z 1
  have y1z2 := y1z 2
  have y1z3 := y1z 3
  clear y1z
  obtain ⟨y1a0, y1a1, y1a2, y1a3, y1az⟩ := Mem.fourA H1.out gb 59 (.bool true) (.int .i64 1) (.slice Q2 2 q2) (.slice Q3 2 q3) (by simp)
  go_upto_region 14 with (first
    | (go_at_call 53; refine (join_go H1.out (by simp) (by simp) ⟨#[100]⟩ (by simp) (by simp) 5 5 50 aw_join rfl rfl).mono ?_; rintro e1 w3 ⟨C2, k2, C3, k3, rfl, h1⟩
       have H2 := Aside0.mk h1
       clear h1))
  clear H1 y00 y01 y02 y03 y0n y0z0 y0z1 y0z2 y0z3 y0a0 y0a1 y0a2 y0a3 y0az y10 y11 y12 y13 y1n y1z0 y1z1 y1z2 y1z3 y1a0 y1a1 y1a2 y1a3 y1az
  obtain ⟨v, hv, HV⟩ : ∃ v, v = _ ∧ Mem w v [(w3.heap.size, 59, #[.bool true, .int .i64 7, .slice C2 5 k2, .slice C3 5 k3]), (gb, 59, #[.bool true, .int .i64 1, .slice Q2 2 q2, .slice Q3 2 q3]), (ga, 59, #[.bool true, .int .i64 6, .slice P2 3 p2, .slice P3 3 p3]), (w.heap.size, 59, #[.bool true, .int .i64 5, .slice B24 5 d24, .slice B34 5 d34])] _ _ := ⟨_, rfl, H2.out.alloc #[.bool true, .int .i64 7, .slice C2 5 k2, .slice C3 5 k3] 59⟩
  rw [← hv]
  clear hv
  generalize w3.heap.size = gc at HV ⊢
  clear H2
  have HM := Aside0.mk HV
  clear HV
  obtain ⟨⟨y0, y1, y2, y3⟩, yz, yn⟩ := Mem.four HM.out gc 59 (.bool true) (.int .i64 7) (.slice C2 5 k2) (.slice C3 5 k3) (by simp)
  have yz0 := yz 0
  have yz1 := yz 1
  have yz2 := yz 2
  have yz3 := yz 3
  clear yz
  obtain ⟨ya0, ya1, ya2, ya3, yaz⟩ := Mem.fourA HM.out gc 59 (.bool true) (.int .i64 7) (.slice C2 5 k2) (.slice C3 5 k3) (by simp)
  go_upto_region 15 with (first
    | (go_at_call 44; refine (delete_go HM.out (by simp) (by simp) ⟨#[97]⟩ 1 0 true 4 4 50 aw_delete rfl rfl).mono ?_; rintro e1 w4 ⟨D2, k5, D3, k6, rfl, h1⟩
       have H1 := Aside0.mk h1
       clear h1))
  clear HM y0 y1 y2 y3 yn yz0 yz1 yz2 yz3 ya0 ya1 ya2 ya3 yaz
  obtain ⟨v, hv, HV⟩ : ∃ v, v = _ ∧ Mem w v [(w4.heap.size + 1, 33, #[.int .i64 1, .int .i64 0]), (w4.heap.size, 59, #[.bool true, .int .i64 8, .slice D2 4 k5, .slice D3 4 k6]), (gc, 59, #[.bool true, .int .i64 7, .slice C2 5 k2, .slice C3 5 k3]), (gb, 59, #[.bool true, .int .i64 1, .slice Q2 2 q2, .slice Q3 2 q3]), (ga, 59, #[.bool true, .int .i64 6, .slice P2 3 p2, .slice P3 3 p3]), (w.heap.size, 59, #[.bool true, .int .i64 5, .slice B24 5 d24, .slice B34 5 d34])] _ _ := ⟨_, rfl, H1.out.alloc2 #[.bool true, .int .i64 8, .slice D2 4 k5, .slice D3 4 k6] #[.int .i64 1, .int .i64 0] 59 33⟩
  rw [← hv]
  clear hv
  generalize w4.heap.size = gd at HV ⊢
  clear H1
  have HM := Aside0.mk HV
  clear HV
  obtain ⟨⟨y0, y1, y2, y3⟩, yz, yn⟩ := Mem.four HM.out gb 59 (.bool true) (.int .i64 1) (.slice Q2 2 q2) (.slice Q3 2 q3) (by simp)
  have yz0 := yz 0
  have yz1 := yz 1
  have yz2 := yz 2
  have yz3 := yz 3
  clear yz
  obtain ⟨ya0, ya1, ya2, ya3, yaz⟩ := Mem.fourA HM.out gb 59 (.bool true) (.int .i64 1) (.slice Q2 2 q2) (.slice Q3 2 q3) (by simp)
  go_upto_region 17 with fail
  clear y0 y1 y2 y3 yn yz0 yz1 yz2 yz3 ya0 ya1 ya2 ya3 yaz
  go_wp2_with (first
    | (go_at_call 47; refine (insert_go ((HM.out.lit1 1 0).addNil) (by simp) (by simp) 0 ⟨#[109]⟩ 2 0 1 2 aw_insert rfl rfl).mono ?_; rintro e1 w5 ⟨I2, i2, I3, i3, rfl, h1⟩
       obtain ⟨ad, eq, hd0, hd1⟩ := Mem.str h1 (A := Q2) (n := 2) (c := q2) (xs := [⟨#[100]⟩, ⟨#[101]⟩]) (by simp) 0 (by decide) ⟨#[100]⟩ rfl
       subst eq
       simp only [Addr.add_zero'] at hd0 hd1
       obtain ⟨⟨x00, x01, x02, x03⟩, x0z, x0n⟩ := Mem.four h1 w.heap.size 59 (.bool true) (.int .i64 5) (.slice B24 5 d24) (.slice B34 5 d34) (by simp)
       have x0z0 := x0z 0
       have x0z1 := x0z 1
       have x0z2 := x0z 2
       have x0z3 := x0z 3
       clear x0z
       obtain ⟨x0a0, x0a1, x0a2, x0a3, x0az⟩ := Mem.fourA h1 w.heap.size 59 (.bool true) (.int .i64 5) (.slice B24 5 d24) (.slice B34 5 d34) (by simp)
       obtain ⟨⟨x10, x11, x12, x13⟩, x1z, x1n⟩ := Mem.four h1 ga 59 (.bool true) (.int .i64 6) (.slice P2 3 p2) (.slice P3 3 p3) (by simp)
       have x1z0 := x1z 0
       have x1z1 := x1z 1
       have x1z2 := x1z 2
       have x1z3 := x1z 3
       clear x1z
       obtain ⟨x1a0, x1a1, x1a2, x1a3, x1az⟩ := Mem.fourA h1 ga 59 (.bool true) (.int .i64 6) (.slice P2 3 p2) (.slice P3 3 p3) (by simp)
       obtain ⟨⟨x20, x21, x22, x23⟩, x2z, x2n⟩ := Mem.four h1 gb 59 (.bool true) (.int .i64 1) (.slice (some ad) 2 q2) (.slice Q3 2 q3) (by simp)
       have x2z0 := x2z 0
       have x2z1 := x2z 1
       have x2z2 := x2z 2
       have x2z3 := x2z 3
       clear x2z
       obtain ⟨x2a0, x2a1, x2a2, x2a3, x2az⟩ := Mem.fourA h1 gb 59 (.bool true) (.int .i64 1) (.slice (some ad) 2 q2) (.slice Q3 2 q3) (by simp)
       obtain ⟨⟨x30, x31, x32, x33⟩, x3z, x3n⟩ := Mem.four h1 gc 59 (.bool true) (.int .i64 7) (.slice C2 5 k2) (.slice C3 5 k3) (by simp)
       have x3z0 := x3z 0
       have x3z1 := x3z 1
       have x3z2 := x3z 2
       have x3z3 := x3z 3
       clear x3z
       obtain ⟨x3a0, x3a1, x3a2, x3a3, x3az⟩ := Mem.fourA h1 gc 59 (.bool true) (.int .i64 7) (.slice C2 5 k2) (.slice C3 5 k3) (by simp)
       obtain ⟨⟨x40, x41, x42, x43⟩, x4z, x4n⟩ := Mem.four h1 gd 59 (.bool true) (.int .i64 8) (.slice D2 4 k5) (.slice D3 4 k6) (by simp)
       have x4z0 := x4z 0
       have x4z1 := x4z 1
       have x4z2 := x4z 2
       have x4z3 := x4z 3
       clear x4z
       obtain ⟨x4a0, x4a1, x4a2, x4a3, x4az⟩ := Mem.fourA h1 gd 59 (.bool true) (.int .i64 8) (.slice D2 4 k5) (.slice D3 4 k6) (by simp)
       have H5 := Aside0.mk (h1.alloc #[.bool false, .int .i64 1, .slice I2 1 i2, .slice I3 2 i3] 59)
       have HM5 := Aside0.mk h1
       clear h1)
    | (go_at_call 40; refine (child_go H5.out (by simp) (by simp) ⟨#[109]⟩ 1 50 aw_child1).mono ?_; rintro e1 w6 ⟨rfl, h1⟩
       obtain ⟨⟨y0, y1, y2, y3⟩, yz, yn⟩ := Mem.four h1 w5.heap.size 59 (.bool false) (.int .i64 1) (.slice I2 1 i2) (.slice I3 2 i3) (by simp)
       have yz0 := yz 0
       have yz1 := yz 1
       have yz2 := yz 2
       have yz3 := yz 3
       clear yz
       obtain ⟨ya0, ya1, ya2, ya3, yaz⟩ := Mem.fourA h1 w5.heap.size 59 (.bool false) (.int .i64 1) (.slice I2 1 i2) (.slice I3 2 i3) (by simp)
       have H6 := Aside0.mk h1
       clear h1 H5)
    | (go_at_call 40; refine (child_go H6.out (by simp) (by simp) ⟨#[97]⟩ 0 50 aw_child2).mono ?_; rintro e1 w7 ⟨rfl, h1⟩
       obtain ⟨⟨y0, y1, y2, y3⟩, yz, yn⟩ := Mem.four h1 w5.heap.size 59 (.bool false) (.int .i64 1) (.slice I2 1 i2) (.slice I3 2 i3) (by simp)
       have yz0 := yz 0
       have yz1 := yz 1
       have yz2 := yz 2
       have yz3 := yz 3
       clear yz
       obtain ⟨ya0, ya1, ya2, ya3, yaz⟩ := Mem.fourA h1 w5.heap.size 59 (.bool false) (.int .i64 1) (.slice I2 1 i2) (.slice I3 2 i3) (by simp)
       have H7 := Aside0.mk h1
       clear h1 H6)
    | (go_at_call 49; refine (remove_go H7.out (by simp) (by simp) 0 0 1 aw_remove rfl rfl).mono ?_; rintro e1 w8 ⟨R2, r2, R3, r3, rfl, h1⟩
       have H8 := Aside0.mk h1
       clear h1 H7)
    | (go_at_call 35; refine (size_go H8.out (by simp) (by simp) 1 aw_size).mono ?_; rintro e1 w9 ⟨rfl, h1⟩
       obtain ⟨⟨z0, z1, z2, z3⟩, zz, zn⟩ := Mem.four h1 gd 59 (.bool true) (.int .i64 8) (.slice D2 4 k5) (.slice D3 4 k6) (by simp)
       have zz0 := zz 0
       have zz1 := zz 1
       have zz2 := zz 2
       have zz3 := zz 3
       clear zz
       obtain ⟨za0, za1, za2, za3, zaz⟩ := Mem.fourA h1 gd 59 (.bool true) (.int .i64 8) (.slice D2 4 k5) (.slice D3 4 k6) (by simp)
       have H9 := Aside0.mk h1
       clear h1 H8)
    | (go_at_call 33; refine (check_go H9.out (by simp) (by simp) true 50 aw_check1).mono ?_; rintro e1 w10 ⟨rfl, h1⟩
       obtain ⟨⟨u0, u1, u2, u3⟩, uz, un⟩ := Mem.four h1 w.heap.size 59 (.bool true) (.int .i64 5) (.slice B24 5 d24) (.slice B34 5 d34) (by simp)
       have uz0 := uz 0
       have uz1 := uz 1
       have uz2 := uz 2
       have uz3 := uz 3
       clear uz
       obtain ⟨ua0, ua1, ua2, ua3, uaz⟩ := Mem.fourA h1 w.heap.size 59 (.bool true) (.int .i64 5) (.slice B24 5 d24) (.slice B34 5 d34) (by simp)
       have H10 := Aside0.mk h1
       clear h1 H9)
    | (go_at_call 33; refine (check_go H10.out (by simp) (by simp) false 50 aw_check2).mono ?_; rintro e1 w11 ⟨rfl, h1⟩
       have H11 := Aside0.mk h1
       clear h1 H10))
  exact bodyPost_ret (v := .bool true) (by simp [results, Try.results32, go_sem]) rfl ⟨rfl, H11.out.st.bel⟩

end Go.Proofs.Ytglbcfkmaamhaaa.PNode

