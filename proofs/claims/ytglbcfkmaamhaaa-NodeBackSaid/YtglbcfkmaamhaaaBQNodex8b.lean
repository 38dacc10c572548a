/- A text of this claim; no condition. -/
-- WALKS: one half of a printed contract (halves.py). Lean checks it.
import Derived.Test.YtglbcfkmaamhaaaBQNodex0
import Derived.Test.YtglbcfkmaamhaaaBQNodex2
import Derived.Test.YtglbcfkmaamhaaaBQNodex3
import Derived.Test.YtglbcfkmaamhaaaBQNodex8a
namespace Go.Proofs.Ytglbcfkmaamhaaa.PNode
open Go.RowKit Go.Proofs.YtglbcfkmaamhaaaW.PrintWords Go.Proofs.YtglbcfkmaamhaaaW.PrintLast Go.Proofs.YtglbcfkmaamhaaaW.PrintMore
attribute [local go_sem] max2_int min2_int max_two min_two max_three min_three max_four min_four Less.str_leq Less.str_gtr Less.str_geq   -- for this text's walks alone
set_option linter.unusedVariables false
set_option linter.unusedSimpArgs false

set_option maxHeartbeats 8000000 in
set_option maxRecDepth 100000 in
theorem node_Split.callsN (k : Nat) (a0_0 : Bool) (a0_1 : Int) (P0_2_ : Nat → Prop) (A0_2 : Option Addr) (c0_2 : Nat) (l0_2 : List ByteArray) (P0_3_ : Nat → Prop) (A0_3 : Option Addr) (c0_3 : Nat) (l0_3 : List (S33)) (r1 : Bool) (r2 : Int) (r3 : List ByteArray) (r4 : List (S33)) (r5 : ByteArray) (r6 : Bool) (r7 : Int) (r8 : List ByteArray) (r9 : List (S33)) (w : World) (hs0_2 : Kd.V Kd.string 9 w w.heap.size (fun k_ => P0_2_ k_) (.slice A0_2 l0_2.length c0_2) l0_2) (hs0_3 : Kd.V k33 33 w w.heap.size (fun k_ => P0_3_ k_) (.slice A0_3 l0_3.length c0_3) l0_3) (h : node_Split.f k a0_0 a0_1 l0_2 l0_3 = some (r1, r2, r3, r4, r5, r6, r7, r8, r9)) (HLF_ : Aside0 (¬ a0_0 = true)) :
  Calls Try.prog 51 #[.agg #[.bool a0_0, .int .i64 a0_1, .slice A0_2 l0_2.length c0_2, .slice A0_3 l0_3.length c0_3]] w fun e w' => ∃ v2_ v3_ v7_ v8_ : Value, e = .returned (.tuple #[.agg #[.bool r1, .int .i64 r2, v2_, v3_], .string r5, .agg #[.bool r6, .int .i64 r7, v7_, v8_]]) ∧ Kd.V Kd.string 9 w' w.heap.size (fun k_ => ((P0_2_ k_ ∨ P0_3_ k_) ∨ w.heap.size ≤ k_) ∧ some k_ ≠ (v7_ : Value).ownBlock ∧ some k_ ≠ (v8_ : Value).ownBlock) v2_ r3 ∧ Kd.V k33 33 w' w.heap.size (fun k_ => ((P0_2_ k_ ∨ P0_3_ k_) ∨ w.heap.size ≤ k_) ∧ some k_ ≠ (v7_ : Value).ownBlock ∧ some k_ ≠ (v8_ : Value).ownBlock) v3_ r4 ∧ Kd.R Kd.string 9 w' w.heap.size (fun k_ => (w.heap.size ≤ k_)) v7_ r8 ∧ Kd.R k33 33 w' w.heap.size (fun k_ => (w.heap.size ≤ k_)) v8_ r9 ∧ Below w.heap.size w w' := by
 have hu59 := Try.underlying59
 have HO0_2 := Aside0.mk (show Kd.V Kd.string 9 w w.heap.size (fun k_ => ((P0_2_ k_ ∨ P0_3_ k_) ∨ w.heap.size ≤ k_)) (.slice A0_2 l0_2.length c0_2) l0_2 from Kd.V_mono hs0_2 (fun k_ hk => .inl (.inl hk)))
 have HO0_3 := Aside0.mk (show Kd.V k33 33 w w.heap.size (fun k_ => ((P0_2_ k_ ∨ P0_3_ k_) ∨ w.heap.size ≤ k_)) (.slice A0_3 l0_3.length c0_3) l0_3 from Kd.V_mono hs0_3 (fun k_ hk => .inl (.inr hk)))
 have HB := Aside0.mk (Below.refl w.heap.size w)
 have H : ((node_shape.f a0_0 a0_1 l0_2 l0_3).bind fun t228 => (if t228 = true then (node_Split.j0 k (decide ((l0_3.length : Int) < 2)) a0_0 a0_1 l0_2 l0_3) else (node_Split.j0 k true a0_0 a0_1 l0_2 l0_3))) = some (r1, r2, r3, r4, r5, r6, r7, r8, r9) := h
 clear h
 have HC2 := Aside0.mk H
 clear H
 go_enter Try.func51, Try.ntmps51
 go_upto_region 1 with (first | ((with_reducible refine gate_dst (N := 1) rfl ?_); (try (refine gate_guard (by rfl) ?_; dsimp only)); refine box_event ?hg (N := 1) ?hd (cs := #[.bool a0_0, .int .i64 a0_1, .slice A0_2 l0_2.length c0_2, .slice A0_3 l0_3.length c0_3]) (t := 59) ?hr ?_; (case hd => rfl); (case hg => rfl); (case hr => first | (go_simp; done) | (go_simp; rfl)); intro gb225 hg w3 hbox hb; have n0_ := Aside0.mk (Kd.V_below (Kd.V_elderB (Less.vx HO0_2.out) gb225 (Nat.le_of_eq hg.symm)) hb); have n1_ := Aside0.mk (Kd.V_below (Kd.V_elderB (Less.vx HO0_3.out) gb225 (Nat.le_of_eq hg.symm)) hb); have n2_ := Aside0.mk (below_step (Less.hx HB.out) hb); have n3_ := Aside0.mk (hbox); have n4_ := Aside0.mk ((by rw [hg]; exact (below_size (Less.hx HB.out)) : w.heap.size ≤ gb225)); have n5_ := Aside0.mk ((by rw [hg]; exact (below_size (Less.hx HB.out)) : w.heap.size ≤ gb225)); clear HO0_2; clear HO0_3; clear HB; have HO0_2 := n0_; have HO0_3 := n1_; have HB := n2_; have BK225 := n3_; have GW225 := n4_; have GE225 := n5_; clear n0_ n1_ n2_ n3_ n4_ n5_; clear hb hbox hg) | ((with_reducible refine gate_dst (N := 2) rfl ?_); (try (refine gate_guard (by rfl) ?_; dsimp only)); refine box_event ?hg (N := 2) ?hd (cs := #[.bool false, .int .i64 0, .slice none 0 0, .slice none 0 0]) (t := 59) ?hr ?_; (case hd => rfl); (case hg => rfl); (case hr => first | (go_simp; done) | (go_simp; rfl)); intro gb226 hg w4 hbox hb; have n0_ := Aside0.mk (Kd.V_below (Kd.V_elderB (Less.vx HO0_2.out) gb226 (Nat.le_of_eq hg.symm)) hb); have n1_ := Aside0.mk (Kd.V_below (Kd.V_elderB (Less.vx HO0_3.out) gb226 (Nat.le_of_eq hg.symm)) hb); have n2_ := Aside0.mk (blk_below (g := gb225) (o := .cells #[.bool a0_0, .int .i64 a0_1, .slice A0_2 l0_2.length c0_2, .slice A0_3 l0_3.length c0_3] 59 (0, 0)) (Less.bx BK225.out) hb); have n3_ := Aside0.mk (below_step (by repeat (first | (with_reducible first | exact HB.out | apply below_alloc | apply pw_below_drewN | apply below_drew1 | refine below_set ?_ GE225.out) | exact HB.out)) hb); have n4_ := Aside0.mk (hbox); have n5_ := Aside0.mk ((by rw [hg]; exact (below_size (by repeat (first | (with_reducible first | exact HB.out | apply below_alloc | apply pw_below_drewN | apply below_drew1 | refine below_set ?_ GE225.out) | exact HB.out))) : w.heap.size ≤ gb226)); have n6_ := Aside0.mk ((by rw [hg]; exact (below_size (by repeat (first | (with_reducible first | exact HB.out | apply below_alloc | apply pw_below_drewN | apply below_drew1 | refine below_set ?_ GE225.out) | exact HB.out))) : w.heap.size ≤ gb226)); have n7_ := Aside0.mk ((by rw [hg]; exact Nat.ne_of_lt (blk_lt (g := gb225) (o := .cells #[.bool a0_0, .int .i64 a0_1, .slice A0_2 l0_2.length c0_2, .slice A0_3 l0_3.length c0_3] 59 (0, 0)) (Less.bx BK225.out)) : gb225 ≠ gb226)); have n8_ := Aside0.mk ((by rw [hg]; exact Nat.ne_of_gt (blk_lt (g := gb225) (o := .cells #[.bool a0_0, .int .i64 a0_1, .slice A0_2 l0_2.length c0_2, .slice A0_3 l0_3.length c0_3] 59 (0, 0)) (Less.bx BK225.out)) : gb226 ≠ gb225)); clear HO0_2; clear HO0_3; clear BK225; clear HB; have HO0_2 := n0_; have HO0_3 := n1_; have BK225 := n2_; have HB := n3_; have BK226 := n4_; have GW226 := n5_; have GE226 := n6_; have NB225_226 := n7_; have NB226_225 := n8_; clear n0_ n1_ n2_ n3_ n4_ n5_ n6_ n7_ n8_; clear hb hbox hg) | ((with_reducible refine gate_dst (N := 4) rfl ?_); (try (refine gate_guard (by rfl) ?_; dsimp only)); refine box_event ?hg (N := 4) ?hd (cs := #[.bool false, .int .i64 0, .slice none 0 0, .slice none 0 0]) (t := 59) ?hr ?_; (case hd => rfl); (case hg => rfl); (case hr => first | (go_simp; done) | (go_simp; rfl)); intro gb227 hg w5 hbox hb; have n0_ := Aside0.mk (Kd.V_below (Kd.V_elderB (Less.vx HO0_2.out) gb227 (Nat.le_of_eq hg.symm)) hb); have n1_ := Aside0.mk (Kd.V_below (Kd.V_elderB (Less.vx HO0_3.out) gb227 (Nat.le_of_eq hg.symm)) hb); have n2_ := Aside0.mk (blk_below (g := gb225) (o := .cells #[.bool a0_0, .int .i64 a0_1, .slice A0_2 l0_2.length c0_2, .slice A0_3 l0_3.length c0_3] 59 (0, 0)) (Less.bx BK225.out) hb); have n3_ := Aside0.mk (blk_below (g := gb226) (o := .cells #[.bool false, .int .i64 0, .slice none 0 0, .slice none 0 0] 59 (0, 0)) (Less.bx BK226.out) hb); have n4_ := Aside0.mk (below_step (by repeat (first | (with_reducible first | exact HB.out | apply below_alloc | apply pw_below_drewN | apply below_drew1 | refine below_set ?_ GE225.out | refine below_set ?_ GE226.out) | exact HB.out)) hb); have n5_ := Aside0.mk (hbox); have n6_ := Aside0.mk ((by rw [hg]; exact (below_size (by repeat (first | (with_reducible first | exact HB.out | apply below_alloc | apply pw_below_drewN | apply below_drew1 | refine below_set ?_ GE225.out | refine below_set ?_ GE226.out) | exact HB.out))) : w.heap.size ≤ gb227)); have n7_ := Aside0.mk ((by rw [hg]; exact (below_size (by repeat (first | (with_reducible first | exact HB.out | apply below_alloc | apply pw_below_drewN | apply below_drew1 | refine below_set ?_ GE225.out | refine below_set ?_ GE226.out) | exact HB.out))) : w.heap.size ≤ gb227)); have n8_ := Aside0.mk ((by rw [hg]; exact Nat.ne_of_lt (blk_lt (g := gb225) (o := .cells #[.bool a0_0, .int .i64 a0_1, .slice A0_2 l0_2.length c0_2, .slice A0_3 l0_3.length c0_3] 59 (0, 0)) (Less.bx BK225.out)) : gb225 ≠ gb227)); have n9_ := Aside0.mk ((by rw [hg]; exact Nat.ne_of_gt (blk_lt (g := gb225) (o := .cells #[.bool a0_0, .int .i64 a0_1, .slice A0_2 l0_2.length c0_2, .slice A0_3 l0_3.length c0_3] 59 (0, 0)) (Less.bx BK225.out)) : gb227 ≠ gb225)); have n10_ := Aside0.mk ((by rw [hg]; exact Nat.ne_of_lt (blk_lt (g := gb226) (o := .cells #[.bool false, .int .i64 0, .slice none 0 0, .slice none 0 0] 59 (0, 0)) (Less.bx BK226.out)) : gb226 ≠ gb227)); have n11_ := Aside0.mk ((by rw [hg]; exact Nat.ne_of_gt (blk_lt (g := gb226) (o := .cells #[.bool false, .int .i64 0, .slice none 0 0, .slice none 0 0] 59 (0, 0)) (Less.bx BK226.out)) : gb227 ≠ gb226)); clear HO0_2; clear HO0_3; clear BK225; clear BK226; clear HB; have HO0_2 := n0_; have HO0_3 := n1_; have BK225 := n2_; have BK226 := n3_; have HB := n4_; have BK227 := n5_; have GW227 := n6_; have GE227 := n7_; have NB225_227 := n8_; have NB227_225 := n9_; have NB226_227 := n10_; have NB227_226 := n11_; clear n0_ n1_ n2_ n3_ n4_ n5_ n6_ n7_ n8_ n9_ n10_ n11_; clear hb hbox hg))
 (try simp only [Act.put, List.setIfInBounds_toArray, List.set_cons_zero, List.set_cons_succ])
 go_cut [17] (fun v17 wc => ∃ (kq : Nat) (x17_1 : Bool), v17 = .bool x17_1 ∧ Aside0 (node_Split.j0 kq x17_1 a0_0 a0_1 l0_2 l0_3 = some (r1, r2, r3, r4, r5, r6, r7, r8, r9)) ∧ Aside0 (kq ≤ k) ∧ Aside0 (Kd.V Kd.string 9 wc w.heap.size (fun k_ => ((P0_2_ k_ ∨ P0_3_ k_) ∨ w.heap.size ≤ k_) ∧ k_ ≠ gb225 ∧ k_ ≠ gb226 ∧ k_ ≠ gb227) (.slice A0_2 l0_2.length c0_2) l0_2) ∧ Aside0 (Kd.V k33 33 wc w.heap.size (fun k_ => ((P0_2_ k_ ∨ P0_3_ k_) ∨ w.heap.size ≤ k_) ∧ k_ ≠ gb225 ∧ k_ ≠ gb226 ∧ k_ ≠ gb227) (.slice A0_3 l0_3.length c0_3) l0_3) ∧ Aside0 (wc.heap[gb225]? = some (.cells #[.bool a0_0, .int .i64 a0_1, (.slice A0_2 l0_2.length c0_2), (.slice A0_3 l0_3.length c0_3)] 59 (0, 0))) ∧ Aside0 (wc.heap[gb226]? = some (.cells #[.bool false, .int .i64 0, (.slice none 0 0), (.slice none 0 0)] 59 (0, 0))) ∧ Aside0 (wc.heap[gb227]? = some (.cells #[.bool false, .int .i64 0, (.slice none 0 0), (.slice none 0 0)] 59 (0, 0))) ∧ Aside0 (Below w.heap.size w wc))
 case first =>
  have H := HC2.out
  clear HC2
  replace H := Option.bind_eq_some_iff.mp H
  obtain ⟨t228, A60, H⟩ := H
  replace H : (if t228 = true then (node_Split.j0 k (decide ((l0_3.length : Int) < 2)) a0_0 a0_1 l0_2 l0_3) else (node_Split.j0 k true a0_0 a0_1 l0_2 l0_3)) = some (r1, r2, r3, r4, r5, r6, r7, r8, r9) := H
  have A6 := Aside0.mk A60
  clear A60
  by_cases c7 : t228 = true
  ·subst c7
   have H1 : (node_Split.j0 k (decide ((l0_3.length : Int) < 2)) a0_0 a0_1 l0_2 l0_3) = some (r1, r2, r3, r4, r5, r6, r7, r8, r9) := by rw [if_pos rfl] at H; exact H
   clear H
   have H := H1
   clear H1
   have H' := Aside0.mk H
   clear H
   have hnb8 := NB225_226.out
   have hnc8 := NB226_225.out
   have hnb9 := NB225_227.out
   have hnc9 := NB227_225.out
   have hcz10_0 : w5.cell? ⟨gb225, 0, none⟩ = some (.bool a0_0) := (blk_cell BK225.out 0).trans rfl
   have hcz10_1 : w5.cell? ⟨gb225, 1, none⟩ = some (.int .i64 a0_1) := (blk_cell BK225.out 1).trans rfl
   have hcz10_2 : w5.cell? ⟨gb225, 2, none⟩ = some (.slice A0_2 l0_2.length c0_2) := (blk_cell BK225.out 2).trans rfl
   have hcz10_3 : w5.cell? ⟨gb225, 3, none⟩ = some (.slice A0_3 l0_3.length c0_3) := (blk_cell BK225.out 3).trans rfl
   have hfz10_0 := blk_frozen BK225.out 0
   have hfz10_1 := blk_frozen BK225.out 1
   have hfz10_2 := blk_frozen BK225.out 2
   have hfz10_3 := blk_frozen BK225.out 3
   go_wp2_with (first | ((with_reducible refine gate_callee (f := 93) rfl ?_); refine goesL_ (some 10) rfl rfl Try.func93 (by kernel_rfl) rfl #[.agg #[.bool a0_0, .int .i64 a0_1, .slice A0_2 l0_2.length c0_2, .slice A0_3 l0_3.length c0_3]] rfl (by (try simp only [List.map_toArray, List.map_cons, List.map_nil]); first | done | rfl | (simp only [List.length_drop, List.length_take]; rfl)) ?_; (with_reducible refine (node_shape.calls a0_0 a0_1 _ _ l0_2 _ _ l0_3 true _ ?side1 ?side2 ?side3 ?side4 A6.out).mono ?_); (case side1 => exact Less.cx ((Kd.V_reads' HO0_2.out).2.2)); (case side2 => exact (Kd.V_reads' HO0_2.out).2.1); (case side3 => exact Less.cx ((Kd.V_reads' HO0_3.out).2.2)); (case side4 => exact (Kd.V_reads' HO0_3.out).2.1); rintro e w11 ⟨rfl, hb⟩; refine ⟨_, rfl, ?_⟩; have n0_ := Aside0.mk (Kd.V_below (Less.vx HO0_2.out) hb); have n1_ := Aside0.mk (Kd.V_below (Less.vx HO0_3.out) hb); have n2_ := Aside0.mk (blk_below (g := gb225) (o := .cells #[.bool a0_0, .int .i64 a0_1, .slice A0_2 l0_2.length c0_2, .slice A0_3 l0_3.length c0_3] 59 (0, 0)) (Less.bx BK225.out) hb); have n3_ := Aside0.mk (blk_below (g := gb226) (o := .cells #[.bool false, .int .i64 0, .slice none 0 0, .slice none 0 0] 59 (0, 0)) (Less.bx BK226.out) hb); have n4_ := Aside0.mk (blk_below (g := gb227) (o := .cells #[.bool false, .int .i64 0, .slice none 0 0, .slice none 0 0] 59 (0, 0)) (Less.bx BK227.out) hb); have n5_ := Aside0.mk (below_step (by repeat (first | (with_reducible first | exact HB.out | apply below_alloc | apply pw_below_drewN | apply below_drew1 | refine below_set ?_ GE225.out | refine below_set ?_ GE226.out | refine below_set ?_ GE227.out) | exact HB.out)) hb); clear HO0_2; clear HO0_3; clear BK225; clear BK226; clear BK227; clear HB; have HO0_2 := n0_; have HO0_3 := n1_; have BK225 := n2_; have BK226 := n3_; have BK227 := n4_; have HB := n5_; clear n0_ n1_ n2_ n3_ n4_ n5_; (try clear hb); (try clear hb2); (try clear hk); (try clear hi); have hcz12_0 : w11.cell? ⟨gb225, 0, none⟩ = some (.bool a0_0) := (blk_cell BK225.out 0).trans rfl; have hcz12_1 : w11.cell? ⟨gb225, 1, none⟩ = some (.int .i64 a0_1) := (blk_cell BK225.out 1).trans rfl; have hcz12_2 : w11.cell? ⟨gb225, 2, none⟩ = some (.slice A0_2 l0_2.length c0_2) := (blk_cell BK225.out 2).trans rfl; have hcz12_3 : w11.cell? ⟨gb225, 3, none⟩ = some (.slice A0_3 l0_3.length c0_3) := (blk_cell BK225.out 3).trans rfl; have hfz12_0 := blk_frozen BK225.out 0; have hfz12_1 := blk_frozen BK225.out 1; have hfz12_2 := blk_frozen BK225.out 2; have hfz12_3 := blk_frozen BK225.out 3))
   go_meet
   case rel => exact ⟨_, (decide ((l0_3.length : Int) < 2)), (by first | rfl | (simp; done) | (simp [*]; done)), H', ⟨by first | omega | exact Nat.le_refl _⟩, ⟨by (with_reducible repeat (first | apply Kd.V_alloc | apply Kd.V_drewN | apply Kd.V_drew)); exact Kd.V_mono HO0_2.out (fun _ hk => ⟨hk.1.1.1, ⟨hk.1.1.2, ⟨hk.1.2, hk.2⟩⟩⟩)⟩, ⟨by (with_reducible repeat (first | apply Kd.V_alloc | apply Kd.V_drewN | apply Kd.V_drew)); exact Kd.V_mono HO0_3.out (fun _ hk => ⟨hk.1.1.1, ⟨hk.1.1.2, ⟨hk.1.2, hk.2⟩⟩⟩)⟩, ⟨Less.bx BK225.out⟩, ⟨Less.bx BK226.out⟩, ⟨Less.bx BK227.out⟩, ⟨by repeat (first | (with_reducible first | exact HB.out | apply below_alloc | apply pw_below_drewN | apply below_drew1 | refine below_set ?_ GE225.out | refine below_set ?_ GE226.out | refine below_set ?_ GE227.out) | exact HB.out)⟩⟩
  ·replace c7 := Bool.eq_false_iff.mpr c7
   subst c7
   have H1 : (node_Split.j0 k true a0_0 a0_1 l0_2 l0_3) = some (r1, r2, r3, r4, r5, r6, r7, r8, r9) := by rw [if_neg (show ¬ (false = true) by decide)] at H; exact H
   clear H
   have H := H1
   clear H1
   have H' := Aside0.mk H
   clear H
   have hnb13 := NB225_226.out
   have hnc13 := NB226_225.out
   have hnb14 := NB225_227.out
   have hnc14 := NB227_225.out
   have hcz15_0 : w5.cell? ⟨gb225, 0, none⟩ = some (.bool a0_0) := (blk_cell BK225.out 0).trans rfl
   have hcz15_1 : w5.cell? ⟨gb225, 1, none⟩ = some (.int .i64 a0_1) := (blk_cell BK225.out 1).trans rfl
   have hcz15_2 : w5.cell? ⟨gb225, 2, none⟩ = some (.slice A0_2 l0_2.length c0_2) := (blk_cell BK225.out 2).trans rfl
   have hcz15_3 : w5.cell? ⟨gb225, 3, none⟩ = some (.slice A0_3 l0_3.length c0_3) := (blk_cell BK225.out 3).trans rfl
   have hfz15_0 := blk_frozen BK225.out 0
   have hfz15_1 := blk_frozen BK225.out 1
   have hfz15_2 := blk_frozen BK225.out 2
   have hfz15_3 := blk_frozen BK225.out 3
   go_wp2_with (first | ((with_reducible refine gate_callee (f := 93) rfl ?_); refine goesL_ (some 10) rfl rfl Try.func93 (by kernel_rfl) rfl #[.agg #[.bool a0_0, .int .i64 a0_1, .slice A0_2 l0_2.length c0_2, .slice A0_3 l0_3.length c0_3]] rfl (by (try simp only [List.map_toArray, List.map_cons, List.map_nil]); first | done | rfl | (simp only [List.length_drop, List.length_take]; rfl)) ?_; (with_reducible refine (node_shape.calls a0_0 a0_1 _ _ l0_2 _ _ l0_3 false _ ?side1 ?side2 ?side3 ?side4 A6.out).mono ?_); (case side1 => exact Less.cx ((Kd.V_reads' HO0_2.out).2.2)); (case side2 => exact (Kd.V_reads' HO0_2.out).2.1); (case side3 => exact Less.cx ((Kd.V_reads' HO0_3.out).2.2)); (case side4 => exact (Kd.V_reads' HO0_3.out).2.1); rintro e w16 ⟨rfl, hb⟩; refine ⟨_, rfl, ?_⟩; have n0_ := Aside0.mk (Kd.V_below (Less.vx HO0_2.out) hb); have n1_ := Aside0.mk (Kd.V_below (Less.vx HO0_3.out) hb); have n2_ := Aside0.mk (blk_below (g := gb225) (o := .cells #[.bool a0_0, .int .i64 a0_1, .slice A0_2 l0_2.length c0_2, .slice A0_3 l0_3.length c0_3] 59 (0, 0)) (Less.bx BK225.out) hb); have n3_ := Aside0.mk (blk_below (g := gb226) (o := .cells #[.bool false, .int .i64 0, .slice none 0 0, .slice none 0 0] 59 (0, 0)) (Less.bx BK226.out) hb); have n4_ := Aside0.mk (blk_below (g := gb227) (o := .cells #[.bool false, .int .i64 0, .slice none 0 0, .slice none 0 0] 59 (0, 0)) (Less.bx BK227.out) hb); have n5_ := Aside0.mk (below_step (by repeat (first | (with_reducible first | exact HB.out | apply below_alloc | apply pw_below_drewN | apply below_drew1 | refine below_set ?_ GE225.out | refine below_set ?_ GE226.out | refine below_set ?_ GE227.out) | exact HB.out)) hb); clear HO0_2; clear HO0_3; clear BK225; clear BK226; clear BK227; clear HB; have HO0_2 := n0_; have HO0_3 := n1_; have BK225 := n2_; have BK226 := n3_; have BK227 := n4_; have HB := n5_; clear n0_ n1_ n2_ n3_ n4_ n5_; (try clear hb); (try clear hb2); (try clear hk); (try clear hi)))
   go_meet
   case rel => exact ⟨_, (true), (by first | rfl | (simp; done) | (simp [*]; done)), H', ⟨by first | omega | exact Nat.le_refl _⟩, ⟨by (with_reducible repeat (first | apply Kd.V_alloc | apply Kd.V_drewN | apply Kd.V_drew)); exact Kd.V_mono HO0_2.out (fun _ hk => ⟨hk.1.1.1, ⟨hk.1.1.2, ⟨hk.1.2, hk.2⟩⟩⟩)⟩, ⟨by (with_reducible repeat (first | apply Kd.V_alloc | apply Kd.V_drewN | apply Kd.V_drew)); exact Kd.V_mono HO0_3.out (fun _ hk => ⟨hk.1.1.1, ⟨hk.1.1.2, ⟨hk.1.2, hk.2⟩⟩⟩)⟩, ⟨Less.bx BK225.out⟩, ⟨Less.bx BK226.out⟩, ⟨Less.bx BK227.out⟩, ⟨by repeat (first | (with_reducible first | exact HB.out | apply below_alloc | apply pw_below_drewN | apply below_drew1 | refine below_set ?_ GE225.out | refine below_set ?_ GE226.out | refine below_set ?_ GE227.out) | exact HB.out)⟩⟩
 case rest =>
  clear HC2
  try clear c1
  try clear p2
  try clear c5
  try clear c7
  try clear c8
  try clear c9
  try clear c13
  try clear c14
  try clear hcz10_0
  try clear hcz10_1
  try clear hcz10_2
  try clear hcz10_3
  try clear hcz12_0
  try clear hcz12_1
  try clear hcz12_2
  try clear hcz12_3
  try clear hcz15_0
  try clear hcz15_1
  try clear hcz15_2
  try clear hcz15_3
  try clear hfz10_0
  try clear hfz10_1
  try clear hfz10_2
  try clear hfz10_3
  try clear hfz12_0
  try clear hfz12_1
  try clear hfz12_2
  try clear hfz12_3
  try clear hfz15_0
  try clear hfz15_1
  try clear hfz15_2
  try clear hfz15_3
  obtain ⟨kq, x17_1, rfl, HA, HJ1, HO_226002, HO_226003, BK225, BK226, BK227, HB⟩ := hcut
  cases kq with
  | zero => exact absurd HA.out (by simp [node_Split.j0])
  | succ kj1 =>
   have H := HA.out
   clear HA
   simp only [node_Split.j0] at H
   by_cases c17 : x17_1 = true
   ·subst c17
    have H1 : (some (a0_0, a0_1, l0_2, l0_3, (⟨#[]⟩ : ByteArray), false, 0, ([] : List ByteArray), ([] : List (S33)))) = some (r1, r2, r3, r4, r5, r6, r7, r8, r9) := by rw [if_pos rfl] at H; exact H
    clear H
    have H := H1
    clear H1
    simp only [Option.some.injEq, Prod.mk.injEq] at H
    obtain ⟨rfl, rfl, rfl, rfl, rfl, rfl, rfl, rfl, rfl⟩ := H
    have hnb18 := NB225_226.out
    have hnc18 := NB226_225.out
    have hnb19 := NB225_227.out
    have hnc19 := NB227_225.out
    have hcz20_0 : wc.cell? ⟨gb225, 0, none⟩ = some (.bool a0_0) := (blk_cell BK225.out 0).trans rfl
    have hcz20_1 : wc.cell? ⟨gb225, 1, none⟩ = some (.int .i64 a0_1) := (blk_cell BK225.out 1).trans rfl
    have hcz20_2 : wc.cell? ⟨gb225, 2, none⟩ = some (.slice A0_2 l0_2.length c0_2) := (blk_cell BK225.out 2).trans rfl
    have hcz20_3 : wc.cell? ⟨gb225, 3, none⟩ = some (.slice A0_3 l0_3.length c0_3) := (blk_cell BK225.out 3).trans rfl
    have hfz20_0 := blk_frozen BK225.out 0
    have hfz20_1 := blk_frozen BK225.out 1
    have hfz20_2 := blk_frozen BK225.out 2
    have hfz20_3 := blk_frozen BK225.out 3
    have hnb21 := NB226_227.out
    have hnc21 := NB227_226.out
    have hcz22_0 : wc.cell? ⟨gb226, 0, none⟩ = some (.bool false) := (blk_cell BK226.out 0).trans rfl
    have hcz22_1 : wc.cell? ⟨gb226, 1, none⟩ = some (.int .i64 0) := (blk_cell BK226.out 1).trans rfl
    have hcz22_2 : wc.cell? ⟨gb226, 2, none⟩ = some (.slice none 0 0) := (blk_cell BK226.out 2).trans rfl
    have hcz22_3 : wc.cell? ⟨gb226, 3, none⟩ = some (.slice none 0 0) := (blk_cell BK226.out 3).trans rfl
    have hfz22_0 := blk_frozen BK226.out 0
    have hfz22_1 := blk_frozen BK226.out 1
    have hfz22_2 := blk_frozen BK226.out 2
    have hfz22_3 := blk_frozen BK226.out 3
    have hcz23_0 : wc.cell? ⟨gb227, 0, none⟩ = some (.bool false) := (blk_cell BK227.out 0).trans rfl
    have hcz23_1 : wc.cell? ⟨gb227, 1, none⟩ = some (.int .i64 0) := (blk_cell BK227.out 1).trans rfl
    have hcz23_2 : wc.cell? ⟨gb227, 2, none⟩ = some (.slice none 0 0) := (blk_cell BK227.out 2).trans rfl
    have hcz23_3 : wc.cell? ⟨gb227, 3, none⟩ = some (.slice none 0 0) := (blk_cell BK227.out 3).trans rfl
    have hfz23_0 := blk_frozen BK227.out 0
    have hfz23_1 := blk_frozen BK227.out 1
    have hfz23_2 := blk_frozen BK227.out 2
    have hfz23_3 := blk_frozen BK227.out 3
    go_wp2
    refine bodyPost_ret (results_list (rs := [.cell 2 59, .tmp 3, .cell 4 59]) rfl (by simp) (.cell gb226 59 #[.bool a0_0, .int .i64 a0_1, .slice A0_2 l0_2.length c0_2, .slice A0_3 l0_3.length c0_3] (0, 0) _ rfl ?rk1 Try.underlying59 rfl (by kernel_rfl) (.tmp (.cell gb227 59 #[.bool false, .int .i64 0, .slice none 0 0, .slice none 0 0] (0, 0) _ rfl ?rk2 Try.underlying59 rfl (by kernel_rfl) .nil)))) rfl ?_
    case rk1 => (with_reducible repeat (first | refine blk_drewN ?_ _ | refine blk_drew ?_ | refine blk_alloc ?_ _)); refine blk_far ?_ NB226_227.out _; (with_reducible repeat (first | refine blk_drewN ?_ _ | refine blk_drew ?_ | refine blk_alloc ?_ _)); refine blk_far ?_ NB226_227.out _; (with_reducible repeat (first | refine blk_drewN ?_ _ | refine blk_drew ?_ | refine blk_alloc ?_ _)); refine blk_far ?_ NB226_227.out _; (with_reducible repeat (first | refine blk_drewN ?_ _ | refine blk_drew ?_ | refine blk_alloc ?_ _)); refine blk_far ?_ NB226_227.out _; (with_reducible repeat (first | refine blk_drewN ?_ _ | refine blk_drew ?_ | refine blk_alloc ?_ _)); refine blk_put (cs := #[.bool a0_0, .int .i64 a0_1, .slice A0_2 l0_2.length c0_2, .slice none 0 0]) ?_ 3 _ rfl; (with_reducible repeat (first | refine blk_drewN ?_ _ | refine blk_drew ?_ | refine blk_alloc ?_ _)); refine blk_put (cs := #[.bool a0_0, .int .i64 a0_1, .slice none 0 0, .slice none 0 0]) ?_ 2 _ rfl; (with_reducible repeat (first | refine blk_drewN ?_ _ | refine blk_drew ?_ | refine blk_alloc ?_ _)); refine blk_put (cs := #[.bool a0_0, .int .i64 0, .slice none 0 0, .slice none 0 0]) ?_ 1 _ rfl; (with_reducible repeat (first | refine blk_drewN ?_ _ | refine blk_drew ?_ | refine blk_alloc ?_ _)); refine blk_put (cs := #[.bool false, .int .i64 0, .slice none 0 0, .slice none 0 0]) ?_ 0 _ rfl; (with_reducible repeat (first | refine blk_drewN ?_ _ | refine blk_drew ?_ | refine blk_alloc ?_ _)); exact BK226.out
    case rk2 => (with_reducible repeat (first | refine blk_drewN ?_ _ | refine blk_drew ?_ | refine blk_alloc ?_ _)); refine blk_put (cs := #[.bool false, .int .i64 0, .slice none 0 0, .slice none 0 0]) ?_ 3 _ rfl; (with_reducible repeat (first | refine blk_drewN ?_ _ | refine blk_drew ?_ | refine blk_alloc ?_ _)); refine blk_put (cs := #[.bool false, .int .i64 0, .slice none 0 0, .slice none 0 0]) ?_ 2 _ rfl; (with_reducible repeat (first | refine blk_drewN ?_ _ | refine blk_drew ?_ | refine blk_alloc ?_ _)); refine blk_put (cs := #[.bool false, .int .i64 0, .slice none 0 0, .slice none 0 0]) ?_ 1 _ rfl; (with_reducible repeat (first | refine blk_drewN ?_ _ | refine blk_drew ?_ | refine blk_alloc ?_ _)); refine blk_put (cs := #[.bool false, .int .i64 0, .slice none 0 0, .slice none 0 0]) ?_ 0 _ rfl; (with_reducible repeat (first | refine blk_drewN ?_ _ | refine blk_drew ?_ | refine blk_alloc ?_ _)); refine blk_far ?_ NB227_226.out _; (with_reducible repeat (first | refine blk_drewN ?_ _ | refine blk_drew ?_ | refine blk_alloc ?_ _)); refine blk_far ?_ NB227_226.out _; (with_reducible repeat (first | refine blk_drewN ?_ _ | refine blk_drew ?_ | refine blk_alloc ?_ _)); refine blk_far ?_ NB227_226.out _; (with_reducible repeat (first | refine blk_drewN ?_ _ | refine blk_drew ?_ | refine blk_alloc ?_ _)); refine blk_far ?_ NB227_226.out _; (with_reducible repeat (first | refine blk_drewN ?_ _ | refine blk_drew ?_ | refine blk_alloc ?_ _)); exact BK227.out
    exact ⟨_, _, _, _, by first | rfl | (simp [errW_none, errW_some] <;> rfl) | (simp [*, errW_none, errW_some] <;> rfl), by (with_reducible repeat (first | apply Kd.V_alloc | apply Kd.V_drewN | apply Kd.V_drew)); exact Kd.V_mono (Kd.V_far (p := ⟨gb227, 3, none⟩) (Kd.V_far (p := ⟨gb227, 2, none⟩) (Kd.V_far (p := ⟨gb227, 1, none⟩) (Kd.V_far (p := ⟨gb227, 0, none⟩) (Kd.V_far (p := ⟨gb226, 3, none⟩) (Kd.V_far (p := ⟨gb226, 2, none⟩) (Kd.V_far (p := ⟨gb226, 1, none⟩) (Kd.V_far (p := ⟨gb226, 0, none⟩) (Kd.V_mono (Kd.V_mono HO_226002.out (fun k_ hk => (⟨hk, hk.2.2.1⟩ : _ ∧ k_ ≠ gb226))) (fun k_ hk => (⟨hk, hk.1.2.2.2⟩ : _ ∧ k_ ≠ gb227))) (fun _ hk => hk.1.2) (.bool a0_0)) (fun _ hk => hk.1.2) (.int .i64 a0_1)) (fun _ hk => hk.1.2) (.slice A0_2 l0_2.length c0_2)) (fun _ hk => hk.1.2) (.slice A0_3 l0_3.length c0_3)) (fun _ hk => hk.2) (.bool false)) (fun _ hk => hk.2) (.int .i64 0)) (fun _ hk => hk.2) (.slice none 0 0)) (fun _ hk => hk.2) (.slice none 0 0)) (fun _ hk => ⟨hk.1.1.1, ⟨(by simp [Value.ownBlock]), (by simp [Value.ownBlock])⟩⟩), by (with_reducible repeat (first | apply Kd.V_alloc | apply Kd.V_drewN | apply Kd.V_drew)); exact Kd.V_mono (Kd.V_far (p := ⟨gb227, 3, none⟩) (Kd.V_far (p := ⟨gb227, 2, none⟩) (Kd.V_far (p := ⟨gb227, 1, none⟩) (Kd.V_far (p := ⟨gb227, 0, none⟩) (Kd.V_far (p := ⟨gb226, 3, none⟩) (Kd.V_far (p := ⟨gb226, 2, none⟩) (Kd.V_far (p := ⟨gb226, 1, none⟩) (Kd.V_far (p := ⟨gb226, 0, none⟩) (Kd.V_mono (Kd.V_mono HO_226003.out (fun k_ hk => (⟨hk, hk.2.2.1⟩ : _ ∧ k_ ≠ gb226))) (fun k_ hk => (⟨hk, hk.1.2.2.2⟩ : _ ∧ k_ ≠ gb227))) (fun _ hk => hk.1.2) (.bool a0_0)) (fun _ hk => hk.1.2) (.int .i64 a0_1)) (fun _ hk => hk.1.2) (.slice A0_2 l0_2.length c0_2)) (fun _ hk => hk.1.2) (.slice A0_3 l0_3.length c0_3)) (fun _ hk => hk.2) (.bool false)) (fun _ hk => hk.2) (.int .i64 0)) (fun _ hk => hk.2) (.slice none 0 0)) (fun _ hk => hk.2) (.slice none 0 0)) (fun _ hk => ⟨hk.1.1.1, ⟨(by simp [Value.ownBlock]), (by simp [Value.ownBlock])⟩⟩), by first | exact Kd.R_nil _ _ _ _ _ | exact Kd.N_nil _ _ _ _ _ | exact Kd.V_nil _ _ _ _ _ | exact Kd.Q_nil _ _ _ _ _ | exact Kd.S_nil _ _ _ _ _, by first | exact Kd.R_nil _ _ _ _ _ | exact Kd.N_nil _ _ _ _ _ | exact Kd.V_nil _ _ _ _ _ | exact Kd.Q_nil _ _ _ _ _ | exact Kd.S_nil _ _ _ _ _, by repeat (first | (with_reducible first | exact HB.out | apply below_alloc | apply pw_below_drewN | apply below_drew1 | refine below_set ?_ GE225.out | refine below_set ?_ GE226.out | refine below_set ?_ GE227.out) | exact HB.out)⟩
   ·replace c17 := Bool.eq_false_iff.mpr c17
    subst c17
    have H1 : (if 0 ≤ (wrap64 ((l0_3.length : Int) - (wrap64 ((l0_3.length : Int) / 2)))) then (if (wrap64 ((l0_3.length : Int) - (wrap64 ((l0_3.length : Int) / 2)))) ≤ (l0_2.length : Int) then ((node_copied_string.f (l0_2.drop ((wrap64 ((l0_3.length : Int) - (wrap64 ((l0_3.length : Int) / 2)))) : Int).toNat) ([] : List ByteArray)).bind fun t234 => (if (wrap64 ((l0_3.length : Int) - (wrap64 ((l0_3.length : Int) / 2)))) ≤ (l0_3.length : Int) then ((api_Ref_106.f (l0_3.drop ((wrap64 ((l0_3.length : Int) - (wrap64 ((l0_3.length : Int) / 2)))) : Int).toNat) ([] : List (S33))).bind fun t242 => (if a0_0 = true then (if (wrap64 ((l0_3.length : Int) - (wrap64 ((l0_3.length : Int) / 2)))) < (l0_2.length : Int) then ((node_copied_string.f (l0_2.take ((wrap64 ((l0_3.length : Int) - (wrap64 ((l0_3.length : Int) / 2)))) : Int).toNat) ([] : List ByteArray)).bind fun t252 => ((api_Ref_106.f (l0_3.take ((wrap64 ((l0_3.length : Int) - (wrap64 ((l0_3.length : Int) / 2)))) : Int).toNat) ([] : List (S33))).bind fun t260 => (some (a0_0, wrap64 (a0_1 + 1), t252, t260, rdOf ByteArray.empty l0_2 (wrap64 ((l0_3.length : Int) - (wrap64 ((l0_3.length : Int) / 2)))), a0_0, 1, t234, t242)))) else (none)) else (if 0 ≤ (wrap64 ((wrap64 ((l0_3.length : Int) - (wrap64 ((l0_3.length : Int) / 2)))) - 1)) then (if (wrap64 ((wrap64 ((l0_3.length : Int) - (wrap64 ((l0_3.length : Int) / 2)))) - 1)) < (l0_2.length : Int) then (if (wrap64 ((wrap64 ((l0_3.length : Int) - (wrap64 ((l0_3.length : Int) / 2)))) - 1)) ≤ (l0_2.length : Int) then ((node_copied_string.f (l0_2.take ((wrap64 ((wrap64 ((l0_3.length : Int) - (wrap64 ((l0_3.length : Int) / 2)))) - 1)) : Int).toNat) ([] : List ByteArray)).bind fun t269 => ((api_Ref_106.f (l0_3.take ((wrap64 ((l0_3.length : Int) - (wrap64 ((l0_3.length : Int) / 2)))) : Int).toNat) ([] : List (S33))).bind fun t277 => (some (a0_0, wrap64 (a0_1 + 1), t269, t277, rdOf ByteArray.empty l0_2 (wrap64 ((wrap64 ((l0_3.length : Int) - (wrap64 ((l0_3.length : Int) / 2)))) - 1)), a0_0, 1, t234, t242)))) else (none)) else (none)) else (none)))) else (none))) else (none)) else (none)) = some (r1, r2, r3, r4, r5, r6, r7, r8, r9) := by rw [if_neg (show ¬ (false = true) by decide)] at H; exact H
    clear H
    have H := H1
    clear H1
    obtain ⟨ji24, hji24⟩ : ∃ j_ : Int, (wrap64 ((l0_3.length : Int) - (wrap64 ((l0_3.length : Int) / 2)))) = j_ := ⟨_, rfl⟩
    replace H : (if 0 ≤ (ji24) then (if (ji24) ≤ (l0_2.length : Int) then ((node_copied_string.f (l0_2.drop ((ji24) : Int).toNat) ([] : List ByteArray)).bind fun t234 => (if (ji24) ≤ (l0_3.length : Int) then ((api_Ref_106.f (l0_3.drop ((ji24) : Int).toNat) ([] : List (S33))).bind fun t242 => (if a0_0 = true then (if (ji24) < (l0_2.length : Int) then ((node_copied_string.f (l0_2.take ((ji24) : Int).toNat) ([] : List ByteArray)).bind fun t252 => ((api_Ref_106.f (l0_3.take ((ji24) : Int).toNat) ([] : List (S33))).bind fun t260 => (some (a0_0, wrap64 (a0_1 + 1), t252, t260, rdOf ByteArray.empty l0_2 (ji24), a0_0, 1, t234, t242)))) else (none)) else (if 0 ≤ (wrap64 ((ji24) - 1)) then (if (wrap64 ((ji24) - 1)) < (l0_2.length : Int) then (if (wrap64 ((ji24) - 1)) ≤ (l0_2.length : Int) then ((node_copied_string.f (l0_2.take ((wrap64 ((ji24) - 1)) : Int).toNat) ([] : List ByteArray)).bind fun t269 => ((api_Ref_106.f (l0_3.take ((ji24) : Int).toNat) ([] : List (S33))).bind fun t277 => (some (a0_0, wrap64 (a0_1 + 1), t269, t277, rdOf ByteArray.empty l0_2 (wrap64 ((ji24) - 1)), a0_0, 1, t234, t242)))) else (none)) else (none)) else (none)))) else (none))) else (none)) else (none)) = some (r1, r2, r3, r4, r5, r6, r7, r8, r9) := by first | (rw [hji24] at H; exact H) | (simp only [hji24] at H ⊢; exact H)
    have hji24w : (IntKind.i64.wrap ((l0_3.length : Int) - (wrap64 ((l0_3.length : Int) / 2)))) = ji24 := (i64_w _).trans hji24
    by_cases c25 : 0 ≤ (ji24)
    ·rw [if_pos c25] at H
     have c25b0 := eq_true c25
     have c25b1 : decide (0 ≤ (ji24)) = true := decide_eq_true c25
     clear c25
     by_cases c26 : (ji24) ≤ (l0_2.length : Int)
     ·rw [if_pos c26] at H
      have c26b0 := eq_true c26
      have c26b1 : decide ((ji24) ≤ (l0_2.length : Int)) = true := decide_eq_true c26
      clear c26
      obtain ⟨y229, hy229⟩ : ∃ y_ : List ByteArray, y_ = (l0_2.drop ((ji24) : Int).toNat) := ⟨_, rfl⟩
      replace H : ((node_copied_string.f y229 ([] : List ByteArray)).bind fun t234 => (if (ji24) ≤ (l0_3.length : Int) then ((api_Ref_106.f (l0_3.drop ((ji24) : Int).toNat) ([] : List (S33))).bind fun t242 => (if a0_0 = true then (if (ji24) < (l0_2.length : Int) then ((node_copied_string.f (l0_2.take ((ji24) : Int).toNat) ([] : List ByteArray)).bind fun t252 => ((api_Ref_106.f (l0_3.take ((ji24) : Int).toNat) ([] : List (S33))).bind fun t260 => (some (a0_0, wrap64 (a0_1 + 1), t252, t260, rdOf ByteArray.empty l0_2 (ji24), a0_0, 1, t234, t242)))) else (none)) else (if 0 ≤ (wrap64 ((ji24) - 1)) then (if (wrap64 ((ji24) - 1)) < (l0_2.length : Int) then (if (wrap64 ((ji24) - 1)) ≤ (l0_2.length : Int) then ((node_copied_string.f (l0_2.take ((wrap64 ((ji24) - 1)) : Int).toNat) ([] : List ByteArray)).bind fun t269 => ((api_Ref_106.f (l0_3.take ((ji24) : Int).toNat) ([] : List (S33))).bind fun t277 => (some (a0_0, wrap64 (a0_1 + 1), t269, t277, rdOf ByteArray.empty l0_2 (wrap64 ((ji24) - 1)), a0_0, 1, t234, t242)))) else (none)) else (none)) else (none)))) else (none))) = some (r1, r2, r3, r4, r5, r6, r7, r8, r9) := by first | (rw [hy229]; with_reducible exact H) | (have H2_ := (Option.bind_some _ _).symm.trans H; rw [hy229]; with_reducible exact H2_) | (have H2_ := (Option.bind_some _ _).symm.trans H; with_reducible exact H2_) | with_reducible exact H | (rw [hy229]; exact H) | exact H
      have Ny229 := Aside0.mk hy229
      clear hy229
      replace H := Option.bind_eq_some_iff.mp H
      obtain ⟨t234, A270, H⟩ := H
      replace H : (if (ji24) ≤ (l0_3.length : Int) then ((api_Ref_106.f (l0_3.drop ((ji24) : Int).toNat) ([] : List (S33))).bind fun t242 => (if a0_0 = true then (if (ji24) < (l0_2.length : Int) then ((node_copied_string.f (l0_2.take ((ji24) : Int).toNat) ([] : List ByteArray)).bind fun t252 => ((api_Ref_106.f (l0_3.take ((ji24) : Int).toNat) ([] : List (S33))).bind fun t260 => (some (a0_0, wrap64 (a0_1 + 1), t252, t260, rdOf ByteArray.empty l0_2 (ji24), a0_0, 1, t234, t242)))) else (none)) else (if 0 ≤ (wrap64 ((ji24) - 1)) then (if (wrap64 ((ji24) - 1)) < (l0_2.length : Int) then (if (wrap64 ((ji24) - 1)) ≤ (l0_2.length : Int) then ((node_copied_string.f (l0_2.take ((wrap64 ((ji24) - 1)) : Int).toNat) ([] : List ByteArray)).bind fun t269 => ((api_Ref_106.f (l0_3.take ((ji24) : Int).toNat) ([] : List (S33))).bind fun t277 => (some (a0_0, wrap64 (a0_1 + 1), t269, t277, rdOf ByteArray.empty l0_2 (wrap64 ((ji24) - 1)), a0_0, 1, t234, t242)))) else (none)) else (none)) else (none)))) else (none)) = some (r1, r2, r3, r4, r5, r6, r7, r8, r9) := H
      have A27 := Aside0.mk A270
      clear A270
      have c28b0 := eq_true (of_decide_eq_true (by first | (with_reducible assumption) | assumption) : 0 ≤ (ji24))
      by_cases c29 : (ji24) ≤ (l0_3.length : Int)
      ·rw [if_pos c29] at H
       have c29b0 := eq_true c29
       have c29b1 : decide ((ji24) ≤ (l0_3.length : Int)) = true := decide_eq_true c29
       clear c29
       obtain ⟨y237, hy237⟩ : ∃ y_ : List (S33), y_ = (l0_3.drop ((ji24) : Int).toNat) := ⟨_, rfl⟩
       replace H : ((api_Ref_106.f y237 ([] : List (S33))).bind fun t242 => (if a0_0 = true then (if (ji24) < (l0_2.length : Int) then ((node_copied_string.f (l0_2.take ((ji24) : Int).toNat) ([] : List ByteArray)).bind fun t252 => ((api_Ref_106.f (l0_3.take ((ji24) : Int).toNat) ([] : List (S33))).bind fun t260 => (some (a0_0, wrap64 (a0_1 + 1), t252, t260, rdOf ByteArray.empty l0_2 (ji24), a0_0, 1, t234, t242)))) else (none)) else (if 0 ≤ (wrap64 ((ji24) - 1)) then (if (wrap64 ((ji24) - 1)) < (l0_2.length : Int) then (if (wrap64 ((ji24) - 1)) ≤ (l0_2.length : Int) then ((node_copied_string.f (l0_2.take ((wrap64 ((ji24) - 1)) : Int).toNat) ([] : List ByteArray)).bind fun t269 => ((api_Ref_106.f (l0_3.take ((ji24) : Int).toNat) ([] : List (S33))).bind fun t277 => (some (a0_0, wrap64 (a0_1 + 1), t269, t277, rdOf ByteArray.empty l0_2 (wrap64 ((ji24) - 1)), a0_0, 1, t234, t242)))) else (none)) else (none)) else (none)))) = some (r1, r2, r3, r4, r5, r6, r7, r8, r9) := by first | (rw [hy237]; with_reducible exact H) | (have H2_ := (Option.bind_some _ _).symm.trans H; rw [hy237]; with_reducible exact H2_) | (have H2_ := (Option.bind_some _ _).symm.trans H; with_reducible exact H2_) | with_reducible exact H | (rw [hy237]; exact H) | exact H
       have Ny237 := Aside0.mk hy237
       clear hy237
       replace H := Option.bind_eq_some_iff.mp H
       obtain ⟨t242, A300, H⟩ := H
       replace H : (if a0_0 = true then (if (ji24) < (l0_2.length : Int) then ((node_copied_string.f (l0_2.take ((ji24) : Int).toNat) ([] : List ByteArray)).bind fun t252 => ((api_Ref_106.f (l0_3.take ((ji24) : Int).toNat) ([] : List (S33))).bind fun t260 => (some (a0_0, wrap64 (a0_1 + 1), t252, t260, rdOf ByteArray.empty l0_2 (ji24), a0_0, 1, t234, t242)))) else (none)) else (if 0 ≤ (wrap64 ((ji24) - 1)) then (if (wrap64 ((ji24) - 1)) < (l0_2.length : Int) then (if (wrap64 ((ji24) - 1)) ≤ (l0_2.length : Int) then ((node_copied_string.f (l0_2.take ((wrap64 ((ji24) - 1)) : Int).toNat) ([] : List ByteArray)).bind fun t269 => ((api_Ref_106.f (l0_3.take ((ji24) : Int).toNat) ([] : List (S33))).bind fun t277 => (some (a0_0, wrap64 (a0_1 + 1), t269, t277, rdOf ByteArray.empty l0_2 (wrap64 ((ji24) - 1)), a0_0, 1, t234, t242)))) else (none)) else (none)) else (none))) = some (r1, r2, r3, r4, r5, r6, r7, r8, r9) := H
       have A30 := Aside0.mk A300
       clear A300
       by_cases c31 : a0_0 = true
       ·exact absurd c31 HLF_.out
       ·replace c31 := Bool.eq_false_iff.mpr c31
        subst c31
        have H1 : (if 0 ≤ (wrap64 ((ji24) - 1)) then (if (wrap64 ((ji24) - 1)) < (l0_2.length : Int) then (if (wrap64 ((ji24) - 1)) ≤ (l0_2.length : Int) then ((node_copied_string.f (l0_2.take ((wrap64 ((ji24) - 1)) : Int).toNat) ([] : List ByteArray)).bind fun t269 => ((api_Ref_106.f (l0_3.take ((ji24) : Int).toNat) ([] : List (S33))).bind fun t277 => (some (false, wrap64 (a0_1 + 1), t269, t277, rdOf ByteArray.empty l0_2 (wrap64 ((ji24) - 1)), false, 1, t234, t242)))) else (none)) else (none)) else (none)) = some (r1, r2, r3, r4, r5, r6, r7, r8, r9) := by rw [if_neg (show ¬ (false = true) by decide)] at H; exact H
        clear H
        have H := H1
        clear H1
        obtain ⟨ji80, hji80⟩ : ∃ j_ : Int, (wrap64 ((ji24) - 1)) = j_ := ⟨_, rfl⟩
        replace H : (if 0 ≤ (ji80) then (if (ji80) < (l0_2.length : Int) then (if (ji80) ≤ (l0_2.length : Int) then ((node_copied_string.f (l0_2.take ((ji80) : Int).toNat) ([] : List ByteArray)).bind fun t269 => ((api_Ref_106.f (l0_3.take ((ji24) : Int).toNat) ([] : List (S33))).bind fun t277 => (some (false, wrap64 (a0_1 + 1), t269, t277, rdOf ByteArray.empty l0_2 (ji80), false, 1, t234, t242)))) else (none)) else (none)) else (none)) = some (r1, r2, r3, r4, r5, r6, r7, r8, r9) := by first | (rw [hji80] at H; exact H) | (simp only [hji80] at H ⊢; exact H)
        (try rw [hji80] at A27)
        (try rw [hji80] at A30)
        have hji80w : (IntKind.i64.wrap ((ji24) - 1)) = ji80 := (i64_w _).trans hji80
        by_cases c81 : 0 ≤ (ji80)
        ·rw [if_pos c81] at H
         have c81b0 : decide (0 ≤ (ji80)) = true := decide_eq_true c81
         clear c81
         by_cases c82 : (ji80) < (l0_2.length : Int)
         ·rw [if_pos c82] at H
          have c82b0 : decide ((ji80) < (l0_2.length : Int)) = true := decide_eq_true c82
          clear c82
          have c83b0 := eq_true (of_decide_eq_true (by first | (with_reducible assumption) | assumption) : 0 ≤ (ji80))
          by_cases c84 : (ji80) ≤ (l0_2.length : Int)
          ·rw [if_pos c84] at H
           have c84b0 := eq_true c84
           have c84b1 : decide ((ji80) ≤ (l0_2.length : Int)) = true := decide_eq_true c84
           clear c84
           obtain ⟨y264, hy264⟩ : ∃ y_ : List ByteArray, y_ = (l0_2.take ((ji80) : Int).toNat) := ⟨_, rfl⟩
           replace H : ((node_copied_string.f y264 ([] : List ByteArray)).bind fun t269 => ((api_Ref_106.f (l0_3.take ((ji24) : Int).toNat) ([] : List (S33))).bind fun t277 => (some (false, wrap64 (a0_1 + 1), t269, t277, rdOf ByteArray.empty l0_2 (ji80), false, 1, t234, t242)))) = some (r1, r2, r3, r4, r5, r6, r7, r8, r9) := by first | (rw [hy264]; with_reducible exact H) | (have H2_ := (Option.bind_some _ _).symm.trans H; rw [hy264]; with_reducible exact H2_) | (have H2_ := (Option.bind_some _ _).symm.trans H; with_reducible exact H2_) | with_reducible exact H | (rw [hy264]; exact H) | exact H
           have Ny264 := Aside0.mk hy264
           clear hy264
           replace H := Option.bind_eq_some_iff.mp H
           obtain ⟨t269, A850, H⟩ := H
           replace H : ((api_Ref_106.f (l0_3.take ((ji24) : Int).toNat) ([] : List (S33))).bind fun t277 => (some (false, wrap64 (a0_1 + 1), t269, t277, rdOf ByteArray.empty l0_2 (ji80), false, 1, t234, t242))) = some (r1, r2, r3, r4, r5, r6, r7, r8, r9) := H
           have A85 := Aside0.mk A850
           clear A850
           have c86b0 := eq_true (of_decide_eq_true (by first | (with_reducible assumption) | assumption) : 0 ≤ (ji24))
           have c87b0 := eq_true (of_decide_eq_true (by first | (with_reducible assumption) | assumption) : (ji24) ≤ (l0_3.length : Int))
           obtain ⟨y272, hy272⟩ : ∃ y_ : List (S33), y_ = (l0_3.take ((ji24) : Int).toNat) := ⟨_, rfl⟩
           replace H : ((api_Ref_106.f y272 ([] : List (S33))).bind fun t277 => (some (false, wrap64 (a0_1 + 1), t269, t277, rdOf ByteArray.empty l0_2 (ji80), false, 1, t234, t242))) = some (r1, r2, r3, r4, r5, r6, r7, r8, r9) := by first | (rw [hy272]; with_reducible exact H) | (have H2_ := (Option.bind_some _ _).symm.trans H; rw [hy272]; with_reducible exact H2_) | (have H2_ := (Option.bind_some _ _).symm.trans H; with_reducible exact H2_) | with_reducible exact H | (rw [hy272]; exact H) | exact H
           have Ny272 := Aside0.mk hy272
           clear hy272
           replace H := Option.bind_eq_some_iff.mp H
           obtain ⟨t277, A880, H⟩ := H
           replace H : (some (false, wrap64 (a0_1 + 1), t269, t277, rdOf ByteArray.empty l0_2 (ji80), false, 1, t234, t242)) = some (r1, r2, r3, r4, r5, r6, r7, r8, r9) := H
           have A88 := Aside0.mk A880
           clear A880
           simp only [Option.some.injEq, Prod.mk.injEq] at H
           obtain ⟨rfl, rfl, rfl, rfl, rfl, rfl, rfl, rfl, rfl⟩ := H
           have hnb89 := NB225_226.out
           have hnc89 := NB226_225.out
           have hnb90 := NB225_227.out
           have hnc90 := NB227_225.out
           have hcz91_0 : wc.cell? ⟨gb225, 0, none⟩ = some (.bool false) := (blk_cell BK225.out 0).trans rfl
           have hcz91_1 : wc.cell? ⟨gb225, 1, none⟩ = some (.int .i64 a0_1) := (blk_cell BK225.out 1).trans rfl
           have hcz91_2 : wc.cell? ⟨gb225, 2, none⟩ = some (.slice A0_2 l0_2.length c0_2) := (blk_cell BK225.out 2).trans rfl
           have hcz91_3 : wc.cell? ⟨gb225, 3, none⟩ = some (.slice A0_3 l0_3.length c0_3) := (blk_cell BK225.out 3).trans rfl
           have hfz91_0 := blk_frozen BK225.out 0
           have hfz91_1 := blk_frozen BK225.out 1
           have hfz91_2 := blk_frozen BK225.out 2
           have hfz91_3 := blk_frozen BK225.out 3
           try go_wp2
           have n0_ := Aside0.mk (Kd.V_drew HO_226002.out)
           have n1_ := Aside0.mk (Kd.V_drew HO_226003.out)
           have n2_ := Aside0.mk (blk_drew BK225.out)
           have n3_ := Aside0.mk (blk_drew BK226.out)
           have n4_ := Aside0.mk (blk_drew BK227.out)
           have n5_ := Aside0.mk (below_drew1 HB.out)
           clear HO_226002
           clear HO_226003
           clear BK225
           clear BK226
           clear BK227
           clear HB
           have HO_226002 := n0_
           have HO_226003 := n1_
           have BK225 := n2_
           have BK226 := n3_
           have BK227 := n4_
           have HB := n5_
           clear n0_ n1_ n2_ n3_ n4_ n5_
           have q93 : ((ji24) : Int) ≤ ((l0_2.length : Int) : Int) := of_decide_eq_true (by first | (with_reducible assumption) | assumption)
           obtain ⟨i093, hi093, _, hsz93, _⟩ := info_parts info9
           have hroom93 : l0_2.length ≤ c0_2 := (Kd.V_reads' HO_226002.out).2.1
           have hC93 : Kd.F Kd.string _ _ A0_2 l0_2.length l0_2 := (Kd.V_at (base := w.heap.size) HO_226002.out).2.2
           have q093 : (0 : Int) ≤ ((ji24) : Int) := of_decide_eq_true (by first | (with_reducible assumption) | assumption)
           have hcut93 := cut_from (P := Try.prog) 57 9 .i64 Try.underlying57 hi093 1 hsz93 A0_2 l0_2.length c0_2 (ji24) q093 q93
           have hr93 := Kd.F_cut (m := ((ji24) : Int).toNat) (c := c0_2) hC93 (by omega) hroom93
           obtain ⟨A93, hA93⟩ : ∃ A1, A1 = (if c0_2 = ((ji24) : Int).toNat then A0_2 else (A0_2 : Option Addr).map (·.add (((ji24) : Int).toNat * 1))) := ⟨_, rfl⟩
           obtain ⟨c93, hc93⟩ : ∃ c1, c1 = c0_2 - ((ji24) : Int).toNat := ⟨_, rfl⟩
           have hy93 : y229.length = l0_2.length - ((ji24) : Int).toNat := (by rw [Ny229.out, List.length_drop] <;> omega)
           rw [show (l0_2).drop ((ji24) : Int).toNat = y229 from Ny229.out.symm] at hr93
           replace hr93 : Kd.F Kd.string _ _ A93 y229.length y229 := (by rw [hA93]; exact hr93)
           rw [← hy93, ← hA93, ← hc93] at hcut93
           have HO233 := Aside0.mk (show Kd.V Kd.string 9 _ w.heap.size _ (.slice A93 y229.length c93) y229 from Kd.V_mk (by rw [hy93, hc93]; exact Nat.sub_le_sub_right hroom93 _) hr93)
           have HC233 := Aside0.mk (show y229.length ≤ c93 from by rw [hy93, hc93]; exact Nat.sub_le_sub_right hroom93 _)
           clear hr93 hC93 hroom93 hi093 hsz93 hc93
           have KY93 := Aside0.mk hy93
           have KA93 := Aside0.mk hA93
           clear hy93 hA93
           replace q93 := eq_true q93
           have q94 : ((ji24) : Int) ≤ ((l0_3.length : Int) : Int) := of_decide_eq_true (by first | (with_reducible assumption) | assumption)
           obtain ⟨i094, hi094, _, hsz94, _⟩ := info_parts info33
           have hroom94 : l0_3.length ≤ c0_3 := (Kd.V_reads' HO_226003.out).2.1
           have hC94 : Kd.F k33 _ _ A0_3 l0_3.length l0_3 := (Kd.V_at (base := w.heap.size) HO_226003.out).2.2
           have q094 : (0 : Int) ≤ ((ji24) : Int) := of_decide_eq_true (by first | (with_reducible assumption) | assumption)
           have hcut94 := cut_from (P := Try.prog) 31 33 .i64 Try.underlying31 hi094 2 hsz94 A0_3 l0_3.length c0_3 (ji24) q094 q94
           have hr94 := Kd.F_cut (m := ((ji24) : Int).toNat) (c := c0_3) hC94 (by omega) hroom94
           obtain ⟨A94, hA94⟩ : ∃ A1, A1 = (if c0_3 = ((ji24) : Int).toNat then A0_3 else (A0_3 : Option Addr).map (·.add (((ji24) : Int).toNat * 2))) := ⟨_, rfl⟩
           obtain ⟨c94, hc94⟩ : ∃ c1, c1 = c0_3 - ((ji24) : Int).toNat := ⟨_, rfl⟩
           have hy94 : y237.length = l0_3.length - ((ji24) : Int).toNat := (by rw [Ny237.out, List.length_drop] <;> omega)
           rw [show (l0_3).drop ((ji24) : Int).toNat = y237 from Ny237.out.symm] at hr94
           replace hr94 : Kd.F k33 _ _ A94 y237.length y237 := (by rw [hA94]; exact hr94)
           rw [← hy94, ← hA94, ← hc94] at hcut94
           have HO241 := Aside0.mk (show Kd.V k33 33 _ w.heap.size _ (.slice A94 y237.length c94) y237 from Kd.V_mk (by rw [hy94, hc94]; exact Nat.sub_le_sub_right hroom94 _) hr94)
           have HC241 := Aside0.mk (show y237.length ≤ c94 from by rw [hy94, hc94]; exact Nat.sub_le_sub_right hroom94 _)
           clear hr94 hC94 hroom94 hi094 hsz94 hc94
           have KY94 := Aside0.mk hy94
           have KA94 := Aside0.mk hA94
           clear hy94 hA94
           replace q94 := eq_true q94
           refine start_ (n := 15) (S := fun w' => w'.cell? ⟨gb225, 0, none⟩ = some (.bool false) ∧ w'.cell? ⟨gb225, 1, none⟩ = some (.int .i64 a0_1) ∧ w'.cell? ⟨gb225, 2, none⟩ = some (.slice A0_2 l0_2.length c0_2) ∧ w'.cell? ⟨gb225, 3, none⟩ = some (.slice A0_3 l0_3.length c0_3)) (ds := []) #[false, false, false, false, false, false, false, false, false, false, false, false, false, false, false] (by kernel_rfl) rfl rfl ⟨(blk_cell BK225.out 0).trans rfl, (blk_cell BK225.out 1).trans rfl, (blk_cell BK225.out 2).trans rfl, (blk_cell BK225.out 3).trans rfl⟩ (fun hHeld => ?_); refine with_tabW node_Split.tab4 node_Split.bits4 (fun HT_ HW_ => ?_)
           generalize wc.drew = w92 at HO_226002 HO_226003 BK225 BK226 BK227 HB HO233 HO241 hHeld ⊢
           refine pure_ (i := 0) (N := some 28) (v := ?_) (a' := ?_) #[true, false, false, false, false, false, false, false, false, false, false, false, false, false, false] rfl rfl (any_of HT_.out (by kernel_rfl)) (fun _ _ _ h => h) (Or.inl ⟨by rfl, ?_⟩) ?_ ?_
           rotate_left
           ·intro w'
            go_simp
            with_reducible rfl
           rotate_left
           ·simp only [Act.put, List.setIfInBounds_toArray, List.set_cons_zero, List.set_cons_succ, i64_w, i32_w]
            rfl
           refine pure_ (i := 2) (N := some 30) (v := ?_) (a' := ?_) #[true, false, true, false, false, false, false, false, false, false, false, false, false, false, false] rfl rfl (any_of HT_.out (by kernel_rfl)) (fun _ _ _ h => h) (Or.inl ⟨by rfl, ?_⟩) ?_ ?_
           rotate_left
           ·intro w'
            go_simp
            with_reducible rfl
           rotate_left
           ·simp only [Act.put, List.setIfInBounds_toArray, List.set_cons_zero, List.set_cons_succ, i64_w, i32_w]
            rfl
           refine pure_ (i := 4) (N := some 32) (v := ?_) (a' := ?_) #[true, false, true, false, true, false, false, false, false, false, false, false, false, false, false] rfl rfl (any_of HT_.out (by kernel_rfl)) (fun _ _ _ h => h) (Or.inl ⟨by rfl, ?_⟩) ?_ ?_
           rotate_left
           ·intro w'
            go_simp
            with_reducible rfl
           rotate_left
           ·simp only [Act.put, List.setIfInBounds_toArray, List.set_cons_zero, List.set_cons_succ, i64_w, i32_w]
            rfl
           refine pure_ (i := 7) (N := some 35) (v := ?_) (a' := ?_) #[true, false, true, false, true, false, false, true, false, false, false, false, false, false, false] rfl rfl (any_of HT_.out (by kernel_rfl)) (fun _ _ _ h => h) (Or.inl ⟨by rfl, ?_⟩) ?_ ?_
           rotate_left
           ·intro w'
            go_simp
            with_reducible rfl
           rotate_left
           ·simp only [Act.put, List.setIfInBounds_toArray, List.set_cons_zero, List.set_cons_succ, i64_w, i32_w]
            rfl
           refine pure_ (i := 9) (N := some 37) (v := ?_) (a' := ?_) #[true, false, true, false, true, false, false, true, false, true, false, false, false, false, false] rfl rfl (any_of HT_.out (by kernel_rfl)) (fun _ _ _ h => h) (Or.inl ⟨by rfl, ?_⟩) ?_ ?_
           rotate_left
           ·intro w'
            go_simp
            with_reducible rfl
           rotate_left
           ·simp only [Act.put, List.setIfInBounds_toArray, List.set_cons_zero, List.set_cons_succ, i64_w, i32_w]
            rfl
           refine take_ (i := 1) (N := some 29) (v := ?_) (a' := ?_) #[true, true, true, false, true, false, false, true, false, true, false, false, false, false, false] rfl rfl (take_ofW HT_.out HW_.out (by kernel_rfl)) (fun _ _ _ h => h) (Or.inl ⟨by rfl, ?_⟩) hHeld ?_ ?_
           rotate_left
           ·rintro w' ⟨s0, s1, s2, s3⟩
            go_simp
            with_reducible rfl
           rotate_left
           ·simp only [Act.put, List.setIfInBounds_toArray, List.set_cons_zero, List.set_cons_succ, i64_w, i32_w]
            rfl
           refine take_ (i := 3) (N := some 31) (v := ?_) (a' := ?_) #[true, true, true, true, true, false, false, true, false, true, false, false, false, false, false] rfl rfl (take_ofW HT_.out HW_.out (by kernel_rfl)) (fun _ _ _ h => h) (Or.inl ⟨by rfl, ?_⟩) hHeld ?_ ?_
           rotate_left
           ·rintro w' ⟨s0, s1, s2, s3⟩
            go_simp
            with_reducible rfl
           rotate_left
           ·simp only [Act.put, List.setIfInBounds_toArray, List.set_cons_zero, List.set_cons_succ, i64_w, i32_w]
            rfl
           refine pure_ (i := 5) (N := some 33) (v := ?_) (a' := ?_) #[true, true, true, true, true, true, false, true, false, true, false, false, false, false, false] rfl rfl (any_of HT_.out (by kernel_rfl)) (fun _ _ _ h => h) (Or.inl ⟨by rfl, ?_⟩) ?_ ?_
           rotate_left
           ·intro w'
            go_simp
            with_reducible rfl
           rotate_left
           ·simp only [Act.put, List.setIfInBounds_toArray, List.set_cons_zero, List.set_cons_succ, i64_w, i32_w]
            rfl
           refine take_ (i := 8) (N := some 36) (v := ?_) (a' := ?_) #[true, true, true, true, true, true, false, true, true, true, false, false, false, false, false] rfl rfl (take_ofW HT_.out HW_.out (by kernel_rfl)) (fun _ _ _ h => h) (Or.inl ⟨by rfl, ?_⟩) hHeld ?_ ?_
           rotate_left
           ·rintro w' ⟨s0, s1, s2, s3⟩
            go_simp
            with_reducible rfl
           rotate_left
           ·simp only [Act.put, List.setIfInBounds_toArray, List.set_cons_zero, List.set_cons_succ, i64_w, i32_w]
            rfl
           refine pure_ (i := 10) (N := some 38) (v := ?_) (a' := ?_) #[true, true, true, true, true, true, false, true, true, true, true, false, false, false, false] rfl rfl (any_of HT_.out (by kernel_rfl)) (fun _ _ _ h => h) (Or.inl ⟨by rfl, ?_⟩) ?_ ?_
           rotate_left
           ·intro w'
            go_simp
            with_reducible rfl
           rotate_left
           ·simp only [Act.put, List.setIfInBounds_toArray, List.set_cons_zero, List.set_cons_succ, i64_w, i32_w]
            rfl
           refine join_ (σ := Value × Value × Nat) 1 #[true, true, true, true, true, true, true, true, true, true, true, true, true, true, false] (fun s_ => [(34, s_.1), (39, s_.2.1), (6, .pointer (some ⟨s_.2.2, 0, none⟩)), (40, .agg #[.bool false, .int .i64 1, s_.1, s_.2.1])]) (fun s_ w' => (w'.cell? ⟨gb225, 0, none⟩ = some (.bool false) ∧ w'.cell? ⟨gb225, 1, none⟩ = some (.int .i64 a0_1) ∧ w'.cell? ⟨gb225, 2, none⟩ = some (.slice A0_2 l0_2.length c0_2) ∧ w'.cell? ⟨gb225, 3, none⟩ = some (.slice A0_3 l0_3.length c0_3)) ∧ (Kd.V Kd.string 9 w' w.heap.size (fun k_ => ((P0_2_ k_ ∨ P0_3_ k_) ∨ w.heap.size ≤ k_) ∧ some k_ ≠ (s_.1 : Value).ownBlock ∧ some k_ ≠ (s_.2.1 : Value).ownBlock ∧ k_ ≠ gb225 ∧ k_ ≠ gb226 ∧ k_ ≠ gb227 ∧ k_ ≠ s_.2.2) (.slice A93 y229.length c93) y229) ∧ (Kd.R Kd.string 9 w' w.heap.size (fun k_ => (w.heap.size ≤ k_)) s_.1 t234) ∧ (Kd.V k33 33 w' w.heap.size (fun k_ => ((P0_2_ k_ ∨ P0_3_ k_) ∨ w.heap.size ≤ k_) ∧ some k_ ≠ (s_.1 : Value).ownBlock ∧ some k_ ≠ (s_.2.1 : Value).ownBlock ∧ k_ ≠ gb225 ∧ k_ ≠ gb226 ∧ k_ ≠ gb227 ∧ k_ ≠ s_.2.2) (.slice A94 y237.length c94) y237) ∧ (Kd.R k33 33 w' w.heap.size (fun k_ => (w.heap.size ≤ k_)) s_.2.1 t242) ∧ (Kd.V Kd.string 9 w' w.heap.size (fun k_ => ((P0_2_ k_ ∨ P0_3_ k_) ∨ w.heap.size ≤ k_) ∧ some k_ ≠ (s_.1 : Value).ownBlock ∧ some k_ ≠ (s_.2.1 : Value).ownBlock ∧ k_ ≠ gb225 ∧ k_ ≠ gb226 ∧ k_ ≠ gb227 ∧ k_ ≠ s_.2.2) (.slice A0_2 l0_2.length c0_2) l0_2) ∧ (Kd.V k33 33 w' w.heap.size (fun k_ => ((P0_2_ k_ ∨ P0_3_ k_) ∨ w.heap.size ≤ k_) ∧ some k_ ≠ (s_.1 : Value).ownBlock ∧ some k_ ≠ (s_.2.1 : Value).ownBlock ∧ k_ ≠ gb225 ∧ k_ ≠ gb226 ∧ k_ ≠ gb227 ∧ k_ ≠ s_.2.2) (.slice A0_3 l0_3.length c0_3) l0_3) ∧ (w'.heap[gb225]? = some (.cells #[.bool false, .int .i64 a0_1, .slice A0_2 l0_2.length c0_2, .slice A0_3 l0_3.length c0_3] 59 (0, 0))) ∧ (w'.heap[gb226]? = some (.cells #[.bool false, .int .i64 0, .slice none 0 0, .slice none 0 0] 59 (0, 0))) ∧ (w'.heap[gb227]? = some (.cells #[.bool false, .int .i64 0, .slice none 0 0, .slice none 0 0] 59 (0, 0))) ∧ (w'.heap[s_.2.2]? = some (.cells #[.bool false, .int .i64 0, .slice none 0 0, .slice none 0 0] 59 (0, 0))) ∧ (w.heap.size ≤ s_.2.2) ∧ (w.heap.size ≤ s_.2.2) ∧ (gb225 ≠ s_.2.2) ∧ (s_.2.2 ≠ gb225) ∧ (gb226 ≠ s_.2.2) ∧ (s_.2.2 ≠ gb226) ∧ (gb227 ≠ s_.2.2) ∧ (s_.2.2 ≠ gb227) ∧ (Below w.heap.size w w')) ?_ ?_
           rotate_left
           ·intro hCont
            refine two_ (i := 6) (j := 13) (Ni := some 34) (Nj := some 6) #[true, true, true, true, true, true, true, true, true, true, true, false, false, false, false] #[true, true, true, true, true, true, false, true, true, true, true, false, false, true, false] rfl rfl rfl rfl (two_of HT_.out (by kernel_rfl)) (by decide) (by decide) (fun K hK => ?_) (fun K hK => ?_)
            ·skip
             refine goes_ Try.func105 (by kernel_rfl) rfl #[.slice A93 y229.length c93, .slice none 0 0] (by rfl) rfl rfl (by (try simp only [List.map_toArray, List.map_cons, List.map_nil]); first | done | rfl | (simp only [List.length_drop, List.length_take]; rfl)) ?_
             refine (node_copied_string.calls _ _ y229 _ _ ([] : List ByteArray) t234 _ ?side1 ?side2 ?side3 ?side4 A27.out).mono ?_
             (case side1 => exact Less.cx ((Kd.V_reads' HO233.out).2.2))
             (case side2 => exact (Kd.V_reads' HO233.out).2.1)
             (case side3 => exact Kd.C_nil _ _)
             (case side4 => exact Nat.le_refl _)
             rintro e w95 ⟨v235, rfl, ho0, hb⟩
             refine ⟨_, rfl, ?_⟩
             have n0_ := Aside0.mk (Kd.V_elder' (Less.vx HO_226002.out) (Kd.R_base ho0) hb)
             have n1_ := Aside0.mk (Kd.V_elder' (Less.vx HO_226003.out) (Kd.R_base ho0) hb)
             have n2_ := Aside0.mk (Kd.V_elder' (Less.vx HO233.out) (Kd.R_base ho0) hb)
             have n3_ := Aside0.mk (Kd.V_elder' (Less.vx HO241.out) (Kd.R_base ho0) hb)
             have n4_ := Aside0.mk (Kd.R_lower (Kd.R_newM (M := fun k_ => (w.heap.size ≤ k_)) ho0 (below_size (by repeat (first | (with_reducible first | exact HB.out | apply below_alloc | apply pw_below_drewN | apply below_drew1 | refine below_set ?_ GE225.out | refine below_set ?_ GE226.out | refine below_set ?_ GE227.out) | exact HB.out))) (fun k_ h_ => h_)) (below_size (by repeat (first | (with_reducible first | exact HB.out | apply below_alloc | apply pw_below_drewN | apply below_drew1 | refine below_set ?_ GE225.out | refine below_set ?_ GE226.out | refine below_set ?_ GE227.out) | exact HB.out))))
             have n5_ := Aside0.mk (blk_below (g := gb225) (o := .cells #[.bool false, .int .i64 a0_1, .slice A0_2 l0_2.length c0_2, .slice A0_3 l0_3.length c0_3] 59 (0, 0)) (Less.bx BK225.out) hb)
             have n6_ := Aside0.mk (blk_below (g := gb226) (o := .cells #[.bool false, .int .i64 0, .slice none 0 0, .slice none 0 0] 59 (0, 0)) (Less.bx BK226.out) hb)
             have n7_ := Aside0.mk (blk_below (g := gb227) (o := .cells #[.bool false, .int .i64 0, .slice none 0 0, .slice none 0 0] 59 (0, 0)) (Less.bx BK227.out) hb)
             have n8_ := Aside0.mk (below_step (by repeat (first | (with_reducible first | exact HB.out | apply below_alloc | apply pw_below_drewN | apply below_drew1 | refine below_set ?_ GE225.out | refine below_set ?_ GE226.out | refine below_set ?_ GE227.out) | exact HB.out)) hb)
             clear HO_226002
             clear HO_226003
             clear HO233
             clear HO241
             clear BK225
             clear BK226
             clear BK227
             clear HB
             have HO_226002 := n0_
             have HO_226003 := n1_
             have HO233 := n2_
             have HO241 := n3_
             have HO236 := n4_
             have BK225 := n5_
             have BK226 := n6_
             have BK227 := n7_
             have HB := n8_
             clear n0_ n1_ n2_ n3_ n4_ n5_ n6_ n7_ n8_
             (try clear hb)
             (try clear hb2)
             (try clear hk)
             (try clear hi)
             (try clear ho0)
             refine hK.out _ _ ⟨(blk_cell BK225.out 0).trans rfl, (blk_cell BK225.out 1).trans rfl, (blk_cell BK225.out 2).trans rfl, (blk_cell BK225.out 3).trans rfl⟩ (fun hHeld => ?_)
             clear hK K
             refine norm_ (a' := ?_) ?_ ?_
             rotate_left
             ·show Act.put _ (some 34) _ = _
              simp only [Act.put, List.setIfInBounds_toArray, List.set_cons_zero, List.set_cons_succ, i64_w, i32_w]
              rfl
             refine two_ (i := 11) (j := 13) (Ni := some 39) (Nj := some 6) #[true, true, true, true, true, true, true, true, true, true, true, true, false, false, false] #[true, true, true, true, true, true, true, true, true, true, true, false, false, true, false] rfl rfl rfl rfl (two_of HT_.out (by kernel_rfl)) (by decide) (by decide) (fun K hK => ?_) (fun K hK => ?_)
             ·skip
              refine goes_ Try.func106 (by kernel_rfl) rfl #[.slice A94 y237.length c94, .slice none 0 0] (by rfl) rfl rfl (by (try simp only [List.map_toArray, List.map_cons, List.map_nil]); first | done | rfl | (simp only [List.length_drop, List.length_take]; rfl)) ?_
              refine (api_Ref_106.calls _ _ y237 _ _ ([] : List (S33)) t242 _ ?side1 ?side2 ?side3 ?side4 A30.out).mono ?_
              (case side1 => exact Less.cx ((Kd.V_reads' HO241.out).2.2))
              (case side2 => exact (Kd.V_reads' HO241.out).2.1)
              (case side3 => exact Kd.C_nil _ _)
              (case side4 => exact Nat.le_refl _)
              rintro e w96 ⟨v243, rfl, ho0, hb⟩
              refine ⟨_, rfl, ?_⟩
              have n0_ := Aside0.mk (Kd.V_elder' (Less.vx HO_226002.out) (Kd.R_base ho0) hb)
              have n1_ := Aside0.mk (Kd.V_elder' (Less.vx HO_226003.out) (Kd.R_base ho0) hb)
              have n2_ := Aside0.mk (Kd.V_elder' (Less.vx HO233.out) (Kd.R_base ho0) hb)
              have n3_ := Aside0.mk (Kd.V_elder' (Less.vx HO241.out) (Kd.R_base ho0) hb)
              have n4_ := Aside0.mk (Kd.R_below (Less.rx HO236.out) hb)
              have n5_ := Aside0.mk (Kd.R_lower (Kd.R_newM (M := fun k_ => (w.heap.size ≤ k_)) ho0 (below_size (by repeat (first | (with_reducible first | exact HB.out | apply below_alloc | apply pw_below_drewN | apply below_drew1 | refine below_set ?_ GE225.out | refine below_set ?_ GE226.out | refine below_set ?_ GE227.out) | exact HB.out))) (fun k_ h_ => h_)) (below_size (by repeat (first | (with_reducible first | exact HB.out | apply below_alloc | apply pw_below_drewN | apply below_drew1 | refine below_set ?_ GE225.out | refine below_set ?_ GE226.out | refine below_set ?_ GE227.out) | exact HB.out))))
              have n6_ := Aside0.mk (blk_below (g := gb225) (o := .cells #[.bool false, .int .i64 a0_1, .slice A0_2 l0_2.length c0_2, .slice A0_3 l0_3.length c0_3] 59 (0, 0)) (Less.bx BK225.out) hb)
              have n7_ := Aside0.mk (blk_below (g := gb226) (o := .cells #[.bool false, .int .i64 0, .slice none 0 0, .slice none 0 0] 59 (0, 0)) (Less.bx BK226.out) hb)
              have n8_ := Aside0.mk (blk_below (g := gb227) (o := .cells #[.bool false, .int .i64 0, .slice none 0 0, .slice none 0 0] 59 (0, 0)) (Less.bx BK227.out) hb)
              have n9_ := Aside0.mk (below_step (by repeat (first | (with_reducible first | exact HB.out | apply below_alloc | apply pw_below_drewN | apply below_drew1 | refine below_set ?_ GE225.out | refine below_set ?_ GE226.out | refine below_set ?_ GE227.out) | exact HB.out)) hb)
              clear HO_226002
              clear HO_226003
              clear HO233
              clear HO241
              clear HO236
              clear BK225
              clear BK226
              clear BK227
              clear HB
              have HO_226002 := n0_
              have HO_226003 := n1_
              have HO233 := n2_
              have HO241 := n3_
              have HO236 := n4_
              have HO244 := n5_
              have BK225 := n6_
              have BK226 := n7_
              have BK227 := n8_
              have HB := n9_
              clear n0_ n1_ n2_ n3_ n4_ n5_ n6_ n7_ n8_ n9_
              (try clear hb)
              (try clear hb2)
              (try clear hk)
              (try clear hi)
              (try clear ho0)
              obtain ⟨Ao97, co97, eo97⟩ := Kd.R_slice HO244.out
              (first | subst eo97 | (injection eo97 with f1_ f2_ f3_; have f4_ := f1_.symm; have f5_ := f3_.symm; clear f1_ f2_ f3_; subst f4_; subst f5_))
              obtain ⟨Ao98, co98, eo98⟩ := Kd.R_slice HO236.out
              (first | subst eo98 | (injection eo98 with f1_ f2_ f3_; have f4_ := f1_.symm; have f5_ := f3_.symm; clear f1_ f2_ f3_; subst f4_; subst f5_))
              refine hK.out _ _ ⟨(blk_cell BK225.out 0).trans rfl, (blk_cell BK225.out 1).trans rfl, (blk_cell BK225.out 2).trans rfl, (blk_cell BK225.out 3).trans rfl⟩ (fun hHeld => ?_)
              clear hK K
              refine norm_ (a' := ?_) ?_ ?_
              rotate_left
              ·show Act.put _ (some 39) _ = _
               simp only [Act.put, List.setIfInBounds_toArray, List.set_cons_zero, List.set_cons_succ, i64_w, i32_w]
               rfl
              refine pure_ (i := 12) (N := some 40) (v := ?_) (a' := ?_) #[true, true, true, true, true, true, true, true, true, true, true, true, true, false, false] rfl rfl (any_of HT_.out (by kernel_rfl)) (fun _ _ _ h => h) (Or.inl ⟨by rfl, ?_⟩) ?_ ?_
              rotate_left
              ·intro w'
               go_simp
               with_reducible rfl
              rotate_left
              ·simp only [Act.put, List.setIfInBounds_toArray, List.set_cons_zero, List.set_cons_succ, i64_w, i32_w]
               rfl
              refine one_ (i := 13) (N := some 6) #[true, true, true, true, true, true, true, true, true, true, true, true, true, true, false] rfl rfl (one_of HT_.out (by kernel_rfl)) (by decide) (fun K hK => ?_)
              refine box_step ?hg (N := 6) ?hd (cs := #[.bool false, .int .i64 0, .slice none 0 0, .slice none 0 0]) (t := 59) ?hr ?_; (case hd => rfl); (case hg => rfl); (case hr => first | (go_simp; done) | (go_simp; rfl))
              intro gb245 hg w99 hbox hb
              have n0_ := Aside0.mk (Kd.V_below (Kd.V_elderB (Less.vx HO_226002.out) gb245 (Nat.le_of_eq hg.symm)) hb)
              have n1_ := Aside0.mk (Kd.V_below (Kd.V_elderB (Less.vx HO_226003.out) gb245 (Nat.le_of_eq hg.symm)) hb)
              have n2_ := Aside0.mk (Kd.V_below (Kd.V_elderB (Less.vx HO233.out) gb245 (Nat.le_of_eq hg.symm)) hb)
              have n3_ := Aside0.mk (Kd.V_below (Kd.V_elderB (Less.vx HO241.out) gb245 (Nat.le_of_eq hg.symm)) hb)
              have n4_ := Aside0.mk (Kd.R_below (Less.rx HO236.out) hb)
              have n5_ := Aside0.mk (Kd.R_below (Less.rx HO244.out) hb)
              have n6_ := Aside0.mk (blk_below (g := gb225) (o := .cells #[.bool false, .int .i64 a0_1, .slice A0_2 l0_2.length c0_2, .slice A0_3 l0_3.length c0_3] 59 (0, 0)) (Less.bx BK225.out) hb)
              have n7_ := Aside0.mk (blk_below (g := gb226) (o := .cells #[.bool false, .int .i64 0, .slice none 0 0, .slice none 0 0] 59 (0, 0)) (Less.bx BK226.out) hb)
              have n8_ := Aside0.mk (blk_below (g := gb227) (o := .cells #[.bool false, .int .i64 0, .slice none 0 0, .slice none 0 0] 59 (0, 0)) (Less.bx BK227.out) hb)
              have n9_ := Aside0.mk (below_step (by repeat (first | (with_reducible first | exact HB.out | apply below_alloc | apply pw_below_drewN | apply below_drew1 | refine below_set ?_ GE225.out | refine below_set ?_ GE226.out | refine below_set ?_ GE227.out) | exact HB.out)) hb)
              have n10_ := Aside0.mk (hbox)
              have n11_ := Aside0.mk ((by rw [hg]; exact (below_size (by repeat (first | (with_reducible first | exact HB.out | apply below_alloc | apply pw_below_drewN | apply below_drew1 | refine below_set ?_ GE225.out | refine below_set ?_ GE226.out | refine below_set ?_ GE227.out) | exact HB.out))) : w.heap.size ≤ gb245))
              have n12_ := Aside0.mk ((by rw [hg]; exact (below_size (by repeat (first | (with_reducible first | exact HB.out | apply below_alloc | apply pw_below_drewN | apply below_drew1 | refine below_set ?_ GE225.out | refine below_set ?_ GE226.out | refine below_set ?_ GE227.out) | exact HB.out))) : w.heap.size ≤ gb245))
              have n13_ := Aside0.mk ((by rw [hg]; exact Nat.ne_of_lt (blk_lt (g := gb225) (o := .cells #[.bool false, .int .i64 a0_1, .slice A0_2 l0_2.length c0_2, .slice A0_3 l0_3.length c0_3] 59 (0, 0)) (Less.bx BK225.out)) : gb225 ≠ gb245))
              have n14_ := Aside0.mk ((by rw [hg]; exact Nat.ne_of_gt (blk_lt (g := gb225) (o := .cells #[.bool false, .int .i64 a0_1, .slice A0_2 l0_2.length c0_2, .slice A0_3 l0_3.length c0_3] 59 (0, 0)) (Less.bx BK225.out)) : gb245 ≠ gb225))
              have n15_ := Aside0.mk ((by rw [hg]; exact Nat.ne_of_lt (blk_lt (g := gb226) (o := .cells #[.bool false, .int .i64 0, .slice none 0 0, .slice none 0 0] 59 (0, 0)) (Less.bx BK226.out)) : gb226 ≠ gb245))
              have n16_ := Aside0.mk ((by rw [hg]; exact Nat.ne_of_gt (blk_lt (g := gb226) (o := .cells #[.bool false, .int .i64 0, .slice none 0 0, .slice none 0 0] 59 (0, 0)) (Less.bx BK226.out)) : gb245 ≠ gb226))
              have n17_ := Aside0.mk ((by rw [hg]; exact Nat.ne_of_lt (blk_lt (g := gb227) (o := .cells #[.bool false, .int .i64 0, .slice none 0 0, .slice none 0 0] 59 (0, 0)) (Less.bx BK227.out)) : gb227 ≠ gb245))
              have n18_ := Aside0.mk ((by rw [hg]; exact Nat.ne_of_gt (blk_lt (g := gb227) (o := .cells #[.bool false, .int .i64 0, .slice none 0 0, .slice none 0 0] 59 (0, 0)) (Less.bx BK227.out)) : gb245 ≠ gb227))
              clear HO_226002
              clear HO_226003
              clear HO233
              clear HO241
              clear HO236
              clear HO244
              clear BK225
              clear BK226
              clear BK227
              clear HB
              have HO_226002 := n0_
              have HO_226003 := n1_
              have HO233 := n2_
              have HO241 := n3_
              have HO236 := n4_
              have HO244 := n5_
              have BK225 := n6_
              have BK226 := n7_
              have BK227 := n8_
              have HB := n9_
              have BK245 := n10_
              have GW245 := n11_
              have GE245 := n12_
              have NB225_245 := n13_
              have NB245_225 := n14_
              have NB226_245 := n15_
              have NB245_226 := n16_
              have NB227_245 := n17_
              have NB245_227 := n18_
              clear n0_ n1_ n2_ n3_ n4_ n5_ n6_ n7_ n8_ n9_ n10_ n11_ n12_ n13_ n14_ n15_ n16_ n17_ n18_
              clear hb hbox hg
              refine hK.out _ _ ⟨(blk_cell BK225.out 0).trans rfl, (blk_cell BK225.out 1).trans rfl, (blk_cell BK225.out 2).trans rfl, (blk_cell BK225.out 3).trans rfl⟩ (fun hHeld => ?_)
              clear hK K
              refine norm_ (a' := ?_) ?_ ?_
              rotate_left
              ·show Act.put _ (some 6) _ = _
               simp only [Act.put, List.setIfInBounds_toArray, List.set_cons_zero, List.set_cons_succ, i64_w, i32_w]
               rfl
              exact norm_ (by simp only [putAll, Act.put, List.setIfInBounds_toArray, List.set_cons_zero, List.set_cons_succ]) (hCont (.slice Ao98 t234.length co98, .slice Ao97 t242.length co97, gb245) _ ⟨hHeld, (by (with_reducible repeat (first | apply Kd.V_alloc | apply Kd.V_drewN | apply Kd.V_drew)); exact Kd.V_mono HO233.out (fun _ hk => ⟨hk.1.1.1.1, ⟨hk.1.1.2, ⟨hk.1.2, ⟨hk.1.1.1.2.1, ⟨hk.1.1.1.2.2.1, ⟨hk.1.1.1.2.2.2, hk.2⟩⟩⟩⟩⟩⟩)), (by (with_reducible repeat (first | apply Kd.R_alloc | apply Kd.R_drewN | apply Kd.R_drew)); exact Kd.R_mono HO236.out (fun _ hk => hk.1)), (by (with_reducible repeat (first | apply Kd.V_alloc | apply Kd.V_drewN | apply Kd.V_drew)); exact Kd.V_mono HO241.out (fun _ hk => ⟨hk.1.1.1.1, ⟨hk.1.1.2, ⟨hk.1.2, ⟨hk.1.1.1.2.1, ⟨hk.1.1.1.2.2.1, ⟨hk.1.1.1.2.2.2, hk.2⟩⟩⟩⟩⟩⟩)), (by (with_reducible repeat (first | apply Kd.R_alloc | apply Kd.R_drewN | apply Kd.R_drew)); exact Kd.R_mono HO244.out (fun _ hk => hk.1)), (by (with_reducible repeat (first | apply Kd.V_alloc | apply Kd.V_drewN | apply Kd.V_drew)); exact Kd.V_mono HO_226002.out (fun _ hk => ⟨hk.1.1.1.1, ⟨hk.1.1.2, ⟨hk.1.2, ⟨hk.1.1.1.2.1, ⟨hk.1.1.1.2.2.1, ⟨hk.1.1.1.2.2.2, hk.2⟩⟩⟩⟩⟩⟩)), (by (with_reducible repeat (first | apply Kd.V_alloc | apply Kd.V_drewN | apply Kd.V_drew)); exact Kd.V_mono HO_226003.out (fun _ hk => ⟨hk.1.1.1.1, ⟨hk.1.1.2, ⟨hk.1.2, ⟨hk.1.1.1.2.1, ⟨hk.1.1.1.2.2.1, ⟨hk.1.1.1.2.2.2, hk.2⟩⟩⟩⟩⟩⟩)), (Less.bx BK225.out), (Less.bx BK226.out), (Less.bx BK227.out), (Less.bx BK245.out), GW245.out, GE245.out, NB225_245.out, NB245_225.out, NB226_245.out, NB245_226.out, NB227_245.out, NB245_227.out, (by repeat (first | (with_reducible first | exact HB.out | apply below_alloc | apply pw_below_drewN | apply below_drew1 | refine below_set ?_ GE225.out | refine below_set ?_ GE226.out | refine below_set ?_ GE227.out | refine below_set ?_ GE245.out) | exact HB.out))⟩)
             ·skip
              refine box_step ?hg (N := 6) ?hd (cs := #[.bool false, .int .i64 0, .slice none 0 0, .slice none 0 0]) (t := 59) ?hr ?_; (case hd => rfl); (case hg => rfl); (case hr => first | (go_simp; done) | (go_simp; rfl))
              intro gb245 hg w96 hbox hb
              have n0_ := Aside0.mk (Kd.V_below (Kd.V_elderB (Less.vx HO_226002.out) gb245 (Nat.le_of_eq hg.symm)) hb)
              have n1_ := Aside0.mk (Kd.V_below (Kd.V_elderB (Less.vx HO_226003.out) gb245 (Nat.le_of_eq hg.symm)) hb)
              have n2_ := Aside0.mk (Kd.V_below (Kd.V_elderB (Less.vx HO233.out) gb245 (Nat.le_of_eq hg.symm)) hb)
              have n3_ := Aside0.mk (Kd.V_below (Kd.V_elderB (Less.vx HO241.out) gb245 (Nat.le_of_eq hg.symm)) hb)
              have n4_ := Aside0.mk (Kd.R_below (Less.rx HO236.out) hb)
              have n5_ := Aside0.mk (blk_below (g := gb225) (o := .cells #[.bool false, .int .i64 a0_1, .slice A0_2 l0_2.length c0_2, .slice A0_3 l0_3.length c0_3] 59 (0, 0)) (Less.bx BK225.out) hb)
              have n6_ := Aside0.mk (blk_below (g := gb226) (o := .cells #[.bool false, .int .i64 0, .slice none 0 0, .slice none 0 0] 59 (0, 0)) (Less.bx BK226.out) hb)
              have n7_ := Aside0.mk (blk_below (g := gb227) (o := .cells #[.bool false, .int .i64 0, .slice none 0 0, .slice none 0 0] 59 (0, 0)) (Less.bx BK227.out) hb)
              have n8_ := Aside0.mk (below_step (by repeat (first | (with_reducible first | exact HB.out | apply below_alloc | apply pw_below_drewN | apply below_drew1 | refine below_set ?_ GE225.out | refine below_set ?_ GE226.out | refine below_set ?_ GE227.out) | exact HB.out)) hb)
              have n9_ := Aside0.mk (hbox)
              have n10_ := Aside0.mk ((by rw [hg]; exact (below_size (by repeat (first | (with_reducible first | exact HB.out | apply below_alloc | apply pw_below_drewN | apply below_drew1 | refine below_set ?_ GE225.out | refine below_set ?_ GE226.out | refine below_set ?_ GE227.out) | exact HB.out))) : w.heap.size ≤ gb245))
              have n11_ := Aside0.mk ((by rw [hg]; exact (below_size (by repeat (first | (with_reducible first | exact HB.out | apply below_alloc | apply pw_below_drewN | apply below_drew1 | refine below_set ?_ GE225.out | refine below_set ?_ GE226.out | refine below_set ?_ GE227.out) | exact HB.out))) : w.heap.size ≤ gb245))
              have n12_ := Aside0.mk ((by rw [hg]; exact Nat.ne_of_lt (blk_lt (g := gb225) (o := .cells #[.bool false, .int .i64 a0_1, .slice A0_2 l0_2.length c0_2, .slice A0_3 l0_3.length c0_3] 59 (0, 0)) (Less.bx BK225.out)) : gb225 ≠ gb245))
              have n13_ := Aside0.mk ((by rw [hg]; exact Nat.ne_of_gt (blk_lt (g := gb225) (o := .cells #[.bool false, .int .i64 a0_1, .slice A0_2 l0_2.length c0_2, .slice A0_3 l0_3.length c0_3] 59 (0, 0)) (Less.bx BK225.out)) : gb245 ≠ gb225))
              have n14_ := Aside0.mk ((by rw [hg]; exact Nat.ne_of_lt (blk_lt (g := gb226) (o := .cells #[.bool false, .int .i64 0, .slice none 0 0, .slice none 0 0] 59 (0, 0)) (Less.bx BK226.out)) : gb226 ≠ gb245))
              have n15_ := Aside0.mk ((by rw [hg]; exact Nat.ne_of_gt (blk_lt (g := gb226) (o := .cells #[.bool false, .int .i64 0, .slice none 0 0, .slice none 0 0] 59 (0, 0)) (Less.bx BK226.out)) : gb245 ≠ gb226))
              have n16_ := Aside0.mk ((by rw [hg]; exact Nat.ne_of_lt (blk_lt (g := gb227) (o := .cells #[.bool false, .int .i64 0, .slice none 0 0, .slice none 0 0] 59 (0, 0)) (Less.bx BK227.out)) : gb227 ≠ gb245))
              have n17_ := Aside0.mk ((by rw [hg]; exact Nat.ne_of_gt (blk_lt (g := gb227) (o := .cells #[.bool false, .int .i64 0, .slice none 0 0, .slice none 0 0] 59 (0, 0)) (Less.bx BK227.out)) : gb245 ≠ gb227))
              clear HO_226002
              clear HO_226003
              clear HO233
              clear HO241
              clear HO236
              clear BK225
              clear BK226
              clear BK227
              clear HB
              have HO_226002 := n0_
              have HO_226003 := n1_
              have HO233 := n2_
              have HO241 := n3_
              have HO236 := n4_
              have BK225 := n5_
              have BK226 := n6_
              have BK227 := n7_
              have HB := n8_
              have BK245 := n9_
              have GW245 := n10_
              have GE245 := n11_
              have NB225_245 := n12_
              have NB245_225 := n13_
              have NB226_245 := n14_
              have NB245_226 := n15_
              have NB227_245 := n16_
              have NB245_227 := n17_
              clear n0_ n1_ n2_ n3_ n4_ n5_ n6_ n7_ n8_ n9_ n10_ n11_ n12_ n13_ n14_ n15_ n16_ n17_
              clear hb hbox hg
              refine hK.out _ _ ⟨(blk_cell BK225.out 0).trans rfl, (blk_cell BK225.out 1).trans rfl, (blk_cell BK225.out 2).trans rfl, (blk_cell BK225.out 3).trans rfl⟩ (fun hHeld => ?_)
              clear hK K
              refine norm_ (a' := ?_) ?_ ?_
              rotate_left
              ·show Act.put _ (some 6) _ = _
               simp only [Act.put, List.setIfInBounds_toArray, List.set_cons_zero, List.set_cons_succ, i64_w, i32_w]
               rfl
              refine one_ (i := 11) (N := some 39) #[true, true, true, true, true, true, true, true, true, true, true, true, false, true, false] rfl rfl (one_of HT_.out (by kernel_rfl)) (by decide) (fun K hK => ?_)
              refine goes_ Try.func106 (by kernel_rfl) rfl #[.slice A94 y237.length c94, .slice none 0 0] (by rfl) rfl rfl (by (try simp only [List.map_toArray, List.map_cons, List.map_nil]); first | done | rfl | (simp only [List.length_drop, List.length_take]; rfl)) ?_
              refine (api_Ref_106.calls _ _ y237 _ _ ([] : List (S33)) t242 _ ?side1 ?side2 ?side3 ?side4 A30.out).mono ?_
              (case side1 => exact Less.cx ((Kd.V_reads' HO241.out).2.2))
              (case side2 => exact (Kd.V_reads' HO241.out).2.1)
              (case side3 => exact Kd.C_nil _ _)
              (case side4 => exact Nat.le_refl _)
              rintro e w97 ⟨v243, rfl, ho0, hb⟩
              refine ⟨_, rfl, ?_⟩
              have n0_ := Aside0.mk (Kd.V_elder' (Less.vx HO_226002.out) (Kd.R_base ho0) hb)
              have n1_ := Aside0.mk (Kd.V_elder' (Less.vx HO_226003.out) (Kd.R_base ho0) hb)
              have n2_ := Aside0.mk (Kd.V_elder' (Less.vx HO233.out) (Kd.R_base ho0) hb)
              have n3_ := Aside0.mk (Kd.V_elder' (Less.vx HO241.out) (Kd.R_base ho0) hb)
              have n4_ := Aside0.mk (Kd.R_below (Less.rx HO236.out) hb)
              have n5_ := Aside0.mk (Kd.R_lower (Kd.R_newM (M := fun k_ => (w.heap.size ≤ k_)) ho0 (below_size (by repeat (first | (with_reducible first | exact HB.out | apply below_alloc | apply pw_below_drewN | apply below_drew1 | refine below_set ?_ GE225.out | refine below_set ?_ GE226.out | refine below_set ?_ GE227.out | refine below_set ?_ GE245.out) | exact HB.out))) (fun k_ h_ => h_)) (below_size (by repeat (first | (with_reducible first | exact HB.out | apply below_alloc | apply pw_below_drewN | apply below_drew1 | refine below_set ?_ GE225.out | refine below_set ?_ GE226.out | refine below_set ?_ GE227.out | refine below_set ?_ GE245.out) | exact HB.out))))
              have n6_ := Aside0.mk (blk_below (g := gb225) (o := .cells #[.bool false, .int .i64 a0_1, .slice A0_2 l0_2.length c0_2, .slice A0_3 l0_3.length c0_3] 59 (0, 0)) (Less.bx BK225.out) hb)
              have n7_ := Aside0.mk (blk_below (g := gb226) (o := .cells #[.bool false, .int .i64 0, .slice none 0 0, .slice none 0 0] 59 (0, 0)) (Less.bx BK226.out) hb)
              have n8_ := Aside0.mk (blk_below (g := gb227) (o := .cells #[.bool false, .int .i64 0, .slice none 0 0, .slice none 0 0] 59 (0, 0)) (Less.bx BK227.out) hb)
              have n9_ := Aside0.mk (blk_below (g := gb245) (o := .cells #[.bool false, .int .i64 0, .slice none 0 0, .slice none 0 0] 59 (0, 0)) (Less.bx BK245.out) hb)
              have n10_ := Aside0.mk (below_step (by repeat (first | (with_reducible first | exact HB.out | apply below_alloc | apply pw_below_drewN | apply below_drew1 | refine below_set ?_ GE225.out | refine below_set ?_ GE226.out | refine below_set ?_ GE227.out | refine below_set ?_ GE245.out) | exact HB.out)) hb)
              clear HO_226002
              clear HO_226003
              clear HO233
              clear HO241
              clear HO236
              clear BK225
              clear BK226
              clear BK227
              clear BK245
              clear HB
              have HO_226002 := n0_
              have HO_226003 := n1_
              have HO233 := n2_
              have HO241 := n3_
              have HO236 := n4_
              have HO244 := n5_
              have BK225 := n6_
              have BK226 := n7_
              have BK227 := n8_
              have BK245 := n9_
              have HB := n10_
              clear n0_ n1_ n2_ n3_ n4_ n5_ n6_ n7_ n8_ n9_ n10_
              (try clear hb)
              (try clear hb2)
              (try clear hk)
              (try clear hi)
              (try clear ho0)
              obtain ⟨Ao98, co98, eo98⟩ := Kd.R_slice HO244.out
              (first | subst eo98 | (injection eo98 with f1_ f2_ f3_; have f4_ := f1_.symm; have f5_ := f3_.symm; clear f1_ f2_ f3_; subst f4_; subst f5_))
              obtain ⟨Ao99, co99, eo99⟩ := Kd.R_slice HO236.out
              (first | subst eo99 | (injection eo99 with f1_ f2_ f3_; have f4_ := f1_.symm; have f5_ := f3_.symm; clear f1_ f2_ f3_; subst f4_; subst f5_))
              refine hK.out _ _ ⟨(blk_cell BK225.out 0).trans rfl, (blk_cell BK225.out 1).trans rfl, (blk_cell BK225.out 2).trans rfl, (blk_cell BK225.out 3).trans rfl⟩ (fun hHeld => ?_)
              clear hK K
              refine norm_ (a' := ?_) ?_ ?_
              rotate_left
              ·show Act.put _ (some 39) _ = _
               simp only [Act.put, List.setIfInBounds_toArray, List.set_cons_zero, List.set_cons_succ, i64_w, i32_w]
               rfl
              refine pure_ (i := 12) (N := some 40) (v := ?_) (a' := ?_) #[true, true, true, true, true, true, true, true, true, true, true, true, true, true, false] rfl rfl (any_of HT_.out (by kernel_rfl)) (fun _ _ _ h => h) (Or.inl ⟨by rfl, ?_⟩) ?_ ?_
              rotate_left
              ·intro w'
               go_simp
               with_reducible rfl
              rotate_left
              ·simp only [Act.put, List.setIfInBounds_toArray, List.set_cons_zero, List.set_cons_succ, i64_w, i32_w]
               rfl
              exact norm_ (by simp only [putAll, Act.put, List.setIfInBounds_toArray, List.set_cons_zero, List.set_cons_succ]) (hCont (.slice Ao99 t234.length co99, .slice Ao98 t242.length co98, gb245) _ ⟨hHeld, (by (with_reducible repeat (first | apply Kd.V_alloc | apply Kd.V_drewN | apply Kd.V_drew)); exact Kd.V_mono HO233.out (fun _ hk => ⟨hk.1.1.1.1, ⟨hk.1.1.2, ⟨hk.2, ⟨hk.1.1.1.2.1, ⟨hk.1.1.1.2.2.1, ⟨hk.1.1.1.2.2.2, hk.1.2⟩⟩⟩⟩⟩⟩)), (by (with_reducible repeat (first | apply Kd.R_alloc | apply Kd.R_drewN | apply Kd.R_drew)); exact Kd.R_mono HO236.out (fun _ hk => hk.1)), (by (with_reducible repeat (first | apply Kd.V_alloc | apply Kd.V_drewN | apply Kd.V_drew)); exact Kd.V_mono HO241.out (fun _ hk => ⟨hk.1.1.1.1, ⟨hk.1.1.2, ⟨hk.2, ⟨hk.1.1.1.2.1, ⟨hk.1.1.1.2.2.1, ⟨hk.1.1.1.2.2.2, hk.1.2⟩⟩⟩⟩⟩⟩)), (by (with_reducible repeat (first | apply Kd.R_alloc | apply Kd.R_drewN | apply Kd.R_drew)); exact Kd.R_mono HO244.out (fun _ hk => hk.1)), (by (with_reducible repeat (first | apply Kd.V_alloc | apply Kd.V_drewN | apply Kd.V_drew)); exact Kd.V_mono HO_226002.out (fun _ hk => ⟨hk.1.1.1.1, ⟨hk.1.1.2, ⟨hk.2, ⟨hk.1.1.1.2.1, ⟨hk.1.1.1.2.2.1, ⟨hk.1.1.1.2.2.2, hk.1.2⟩⟩⟩⟩⟩⟩)), (by (with_reducible repeat (first | apply Kd.V_alloc | apply Kd.V_drewN | apply Kd.V_drew)); exact Kd.V_mono HO_226003.out (fun _ hk => ⟨hk.1.1.1.1, ⟨hk.1.1.2, ⟨hk.2, ⟨hk.1.1.1.2.1, ⟨hk.1.1.1.2.2.1, ⟨hk.1.1.1.2.2.2, hk.1.2⟩⟩⟩⟩⟩⟩)), (Less.bx BK225.out), (Less.bx BK226.out), (Less.bx BK227.out), (Less.bx BK245.out), GW245.out, GE245.out, NB225_245.out, NB245_225.out, NB226_245.out, NB245_226.out, NB227_245.out, NB245_227.out, (by repeat (first | (with_reducible first | exact HB.out | apply below_alloc | apply pw_below_drewN | apply below_drew1 | refine below_set ?_ GE225.out | refine below_set ?_ GE226.out | refine below_set ?_ GE227.out | refine below_set ?_ GE245.out) | exact HB.out))⟩)
            ·skip
             refine box_step ?hg (N := 6) ?hd (cs := #[.bool false, .int .i64 0, .slice none 0 0, .slice none 0 0]) (t := 59) ?hr ?_; (case hd => rfl); (case hg => rfl); (case hr => first | (go_simp; done) | (go_simp; rfl))
             intro gb245 hg w95 hbox hb
             have n0_ := Aside0.mk (Kd.V_below (Kd.V_elderB (Less.vx HO_226002.out) gb245 (Nat.le_of_eq hg.symm)) hb)
             have n1_ := Aside0.mk (Kd.V_below (Kd.V_elderB (Less.vx HO_226003.out) gb245 (Nat.le_of_eq hg.symm)) hb)
             have n2_ := Aside0.mk (Kd.V_below (Kd.V_elderB (Less.vx HO233.out) gb245 (Nat.le_of_eq hg.symm)) hb)
             have n3_ := Aside0.mk (Kd.V_below (Kd.V_elderB (Less.vx HO241.out) gb245 (Nat.le_of_eq hg.symm)) hb)
             have n4_ := Aside0.mk (blk_below (g := gb225) (o := .cells #[.bool false, .int .i64 a0_1, .slice A0_2 l0_2.length c0_2, .slice A0_3 l0_3.length c0_3] 59 (0, 0)) (Less.bx BK225.out) hb)
             have n5_ := Aside0.mk (blk_below (g := gb226) (o := .cells #[.bool false, .int .i64 0, .slice none 0 0, .slice none 0 0] 59 (0, 0)) (Less.bx BK226.out) hb)
             have n6_ := Aside0.mk (blk_below (g := gb227) (o := .cells #[.bool false, .int .i64 0, .slice none 0 0, .slice none 0 0] 59 (0, 0)) (Less.bx BK227.out) hb)
             have n7_ := Aside0.mk (below_step (by repeat (first | (with_reducible first | exact HB.out | apply below_alloc | apply pw_below_drewN | apply below_drew1 | refine below_set ?_ GE225.out | refine below_set ?_ GE226.out | refine below_set ?_ GE227.out) | exact HB.out)) hb)
             have n8_ := Aside0.mk (hbox)
             have n9_ := Aside0.mk ((by rw [hg]; exact (below_size (by repeat (first | (with_reducible first | exact HB.out | apply below_alloc | apply pw_below_drewN | apply below_drew1 | refine below_set ?_ GE225.out | refine below_set ?_ GE226.out | refine below_set ?_ GE227.out) | exact HB.out))) : w.heap.size ≤ gb245))
             have n10_ := Aside0.mk ((by rw [hg]; exact (below_size (by repeat (first | (with_reducible first | exact HB.out | apply below_alloc | apply pw_below_drewN | apply below_drew1 | refine below_set ?_ GE225.out | refine below_set ?_ GE226.out | refine below_set ?_ GE227.out) | exact HB.out))) : w.heap.size ≤ gb245))
             have n11_ := Aside0.mk ((by rw [hg]; exact Nat.ne_of_lt (blk_lt (g := gb225) (o := .cells #[.bool false, .int .i64 a0_1, .slice A0_2 l0_2.length c0_2, .slice A0_3 l0_3.length c0_3] 59 (0, 0)) (Less.bx BK225.out)) : gb225 ≠ gb245))
             have n12_ := Aside0.mk ((by rw [hg]; exact Nat.ne_of_gt (blk_lt (g := gb225) (o := .cells #[.bool false, .int .i64 a0_1, .slice A0_2 l0_2.length c0_2, .slice A0_3 l0_3.length c0_3] 59 (0, 0)) (Less.bx BK225.out)) : gb245 ≠ gb225))
             have n13_ := Aside0.mk ((by rw [hg]; exact Nat.ne_of_lt (blk_lt (g := gb226) (o := .cells #[.bool false, .int .i64 0, .slice none 0 0, .slice none 0 0] 59 (0, 0)) (Less.bx BK226.out)) : gb226 ≠ gb245))
             have n14_ := Aside0.mk ((by rw [hg]; exact Nat.ne_of_gt (blk_lt (g := gb226) (o := .cells #[.bool false, .int .i64 0, .slice none 0 0, .slice none 0 0] 59 (0, 0)) (Less.bx BK226.out)) : gb245 ≠ gb226))
             have n15_ := Aside0.mk ((by rw [hg]; exact Nat.ne_of_lt (blk_lt (g := gb227) (o := .cells #[.bool false, .int .i64 0, .slice none 0 0, .slice none 0 0] 59 (0, 0)) (Less.bx BK227.out)) : gb227 ≠ gb245))
             have n16_ := Aside0.mk ((by rw [hg]; exact Nat.ne_of_gt (blk_lt (g := gb227) (o := .cells #[.bool false, .int .i64 0, .slice none 0 0, .slice none 0 0] 59 (0, 0)) (Less.bx BK227.out)) : gb245 ≠ gb227))
             clear HO_226002
             clear HO_226003
             clear HO233
             clear HO241
             clear BK225
             clear BK226
             clear BK227
             clear HB
             have HO_226002 := n0_
             have HO_226003 := n1_
             have HO233 := n2_
             have HO241 := n3_
             have BK225 := n4_
             have BK226 := n5_
             have BK227 := n6_
             have HB := n7_
             have BK245 := n8_
             have GW245 := n9_
             have GE245 := n10_
             have NB225_245 := n11_
             have NB245_225 := n12_
             have NB226_245 := n13_
             have NB245_226 := n14_
             have NB227_245 := n15_
             have NB245_227 := n16_
             clear n0_ n1_ n2_ n3_ n4_ n5_ n6_ n7_ n8_ n9_ n10_ n11_ n12_ n13_ n14_ n15_ n16_
             clear hb hbox hg
             refine hK.out _ _ ⟨(blk_cell BK225.out 0).trans rfl, (blk_cell BK225.out 1).trans rfl, (blk_cell BK225.out 2).trans rfl, (blk_cell BK225.out 3).trans rfl⟩ (fun hHeld => ?_)
             clear hK K
             refine norm_ (a' := ?_) ?_ ?_
             rotate_left
             ·show Act.put _ (some 6) _ = _
              simp only [Act.put, List.setIfInBounds_toArray, List.set_cons_zero, List.set_cons_succ, i64_w, i32_w]
              rfl
             refine one_ (i := 6) (N := some 34) #[true, true, true, true, true, true, true, true, true, true, true, false, false, true, false] rfl rfl (one_of HT_.out (by kernel_rfl)) (by decide) (fun K hK => ?_)
             refine goes_ Try.func105 (by kernel_rfl) rfl #[.slice A93 y229.length c93, .slice none 0 0] (by rfl) rfl rfl (by (try simp only [List.map_toArray, List.map_cons, List.map_nil]); first | done | rfl | (simp only [List.length_drop, List.length_take]; rfl)) ?_
             refine (node_copied_string.calls _ _ y229 _ _ ([] : List ByteArray) t234 _ ?side1 ?side2 ?side3 ?side4 A27.out).mono ?_
             (case side1 => exact Less.cx ((Kd.V_reads' HO233.out).2.2))
             (case side2 => exact (Kd.V_reads' HO233.out).2.1)
             (case side3 => exact Kd.C_nil _ _)
             (case side4 => exact Nat.le_refl _)
             rintro e w96 ⟨v235, rfl, ho0, hb⟩
             refine ⟨_, rfl, ?_⟩
             have n0_ := Aside0.mk (Kd.V_elder' (Less.vx HO_226002.out) (Kd.R_base ho0) hb)
             have n1_ := Aside0.mk (Kd.V_elder' (Less.vx HO_226003.out) (Kd.R_base ho0) hb)
             have n2_ := Aside0.mk (Kd.V_elder' (Less.vx HO233.out) (Kd.R_base ho0) hb)
             have n3_ := Aside0.mk (Kd.V_elder' (Less.vx HO241.out) (Kd.R_base ho0) hb)
             have n4_ := Aside0.mk (Kd.R_lower (Kd.R_newM (M := fun k_ => (w.heap.size ≤ k_)) ho0 (below_size (by repeat (first | (with_reducible first | exact HB.out | apply below_alloc | apply pw_below_drewN | apply below_drew1 | refine below_set ?_ GE225.out | refine below_set ?_ GE226.out | refine below_set ?_ GE227.out | refine below_set ?_ GE245.out) | exact HB.out))) (fun k_ h_ => h_)) (below_size (by repeat (first | (with_reducible first | exact HB.out | apply below_alloc | apply pw_below_drewN | apply below_drew1 | refine below_set ?_ GE225.out | refine below_set ?_ GE226.out | refine below_set ?_ GE227.out | refine below_set ?_ GE245.out) | exact HB.out))))
             have n5_ := Aside0.mk (blk_below (g := gb225) (o := .cells #[.bool false, .int .i64 a0_1, .slice A0_2 l0_2.length c0_2, .slice A0_3 l0_3.length c0_3] 59 (0, 0)) (Less.bx BK225.out) hb)
             have n6_ := Aside0.mk (blk_below (g := gb226) (o := .cells #[.bool false, .int .i64 0, .slice none 0 0, .slice none 0 0] 59 (0, 0)) (Less.bx BK226.out) hb)
             have n7_ := Aside0.mk (blk_below (g := gb227) (o := .cells #[.bool false, .int .i64 0, .slice none 0 0, .slice none 0 0] 59 (0, 0)) (Less.bx BK227.out) hb)
             have n8_ := Aside0.mk (blk_below (g := gb245) (o := .cells #[.bool false, .int .i64 0, .slice none 0 0, .slice none 0 0] 59 (0, 0)) (Less.bx BK245.out) hb)
             have n9_ := Aside0.mk (below_step (by repeat (first | (with_reducible first | exact HB.out | apply below_alloc | apply pw_below_drewN | apply below_drew1 | refine below_set ?_ GE225.out | refine below_set ?_ GE226.out | refine below_set ?_ GE227.out | refine below_set ?_ GE245.out) | exact HB.out)) hb)
             clear HO_226002
             clear HO_226003
             clear HO233
             clear HO241
             clear BK225
             clear BK226
             clear BK227
             clear BK245
             clear HB
             have HO_226002 := n0_
             have HO_226003 := n1_
             have HO233 := n2_
             have HO241 := n3_
             have HO236 := n4_
             have BK225 := n5_
             have BK226 := n6_
             have BK227 := n7_
             have BK245 := n8_
             have HB := n9_
             clear n0_ n1_ n2_ n3_ n4_ n5_ n6_ n7_ n8_ n9_
             (try clear hb)
             (try clear hb2)
             (try clear hk)
             (try clear hi)
             (try clear ho0)
             refine hK.out _ _ ⟨(blk_cell BK225.out 0).trans rfl, (blk_cell BK225.out 1).trans rfl, (blk_cell BK225.out 2).trans rfl, (blk_cell BK225.out 3).trans rfl⟩ (fun hHeld => ?_)
             clear hK K
             refine norm_ (a' := ?_) ?_ ?_
             rotate_left
             ·show Act.put _ (some 34) _ = _
              simp only [Act.put, List.setIfInBounds_toArray, List.set_cons_zero, List.set_cons_succ, i64_w, i32_w]
              rfl
             refine one_ (i := 11) (N := some 39) #[true, true, true, true, true, true, true, true, true, true, true, true, false, true, false] rfl rfl (one_of HT_.out (by kernel_rfl)) (by decide) (fun K hK => ?_)
             refine goes_ Try.func106 (by kernel_rfl) rfl #[.slice A94 y237.length c94, .slice none 0 0] (by rfl) rfl rfl (by (try simp only [List.map_toArray, List.map_cons, List.map_nil]); first | done | rfl | (simp only [List.length_drop, List.length_take]; rfl)) ?_
             refine (api_Ref_106.calls _ _ y237 _ _ ([] : List (S33)) t242 _ ?side1 ?side2 ?side3 ?side4 A30.out).mono ?_
             (case side1 => exact Less.cx ((Kd.V_reads' HO241.out).2.2))
             (case side2 => exact (Kd.V_reads' HO241.out).2.1)
             (case side3 => exact Kd.C_nil _ _)
             (case side4 => exact Nat.le_refl _)
             rintro e w97 ⟨v243, rfl, ho0, hb⟩
             refine ⟨_, rfl, ?_⟩
             have n0_ := Aside0.mk (Kd.V_elder' (Less.vx HO_226002.out) (Kd.R_base ho0) hb)
             have n1_ := Aside0.mk (Kd.V_elder' (Less.vx HO_226003.out) (Kd.R_base ho0) hb)
             have n2_ := Aside0.mk (Kd.V_elder' (Less.vx HO233.out) (Kd.R_base ho0) hb)
             have n3_ := Aside0.mk (Kd.V_elder' (Less.vx HO241.out) (Kd.R_base ho0) hb)
             have n4_ := Aside0.mk (Kd.R_below (Less.rx HO236.out) hb)
             have n5_ := Aside0.mk (Kd.R_lower (Kd.R_newM (M := fun k_ => (w.heap.size ≤ k_)) ho0 (below_size (by repeat (first | (with_reducible first | exact HB.out | apply below_alloc | apply pw_below_drewN | apply below_drew1 | refine below_set ?_ GE225.out | refine below_set ?_ GE226.out | refine below_set ?_ GE227.out | refine below_set ?_ GE245.out) | exact HB.out))) (fun k_ h_ => h_)) (below_size (by repeat (first | (with_reducible first | exact HB.out | apply below_alloc | apply pw_below_drewN | apply below_drew1 | refine below_set ?_ GE225.out | refine below_set ?_ GE226.out | refine below_set ?_ GE227.out | refine below_set ?_ GE245.out) | exact HB.out))))
             have n6_ := Aside0.mk (blk_below (g := gb225) (o := .cells #[.bool false, .int .i64 a0_1, .slice A0_2 l0_2.length c0_2, .slice A0_3 l0_3.length c0_3] 59 (0, 0)) (Less.bx BK225.out) hb)
             have n7_ := Aside0.mk (blk_below (g := gb226) (o := .cells #[.bool false, .int .i64 0, .slice none 0 0, .slice none 0 0] 59 (0, 0)) (Less.bx BK226.out) hb)
             have n8_ := Aside0.mk (blk_below (g := gb227) (o := .cells #[.bool false, .int .i64 0, .slice none 0 0, .slice none 0 0] 59 (0, 0)) (Less.bx BK227.out) hb)
             have n9_ := Aside0.mk (blk_below (g := gb245) (o := .cells #[.bool false, .int .i64 0, .slice none 0 0, .slice none 0 0] 59 (0, 0)) (Less.bx BK245.out) hb)
             have n10_ := Aside0.mk (below_step (by repeat (first | (with_reducible first | exact HB.out | apply below_alloc | apply pw_below_drewN | apply below_drew1 | refine below_set ?_ GE225.out | refine below_set ?_ GE226.out | refine below_set ?_ GE227.out | refine below_set ?_ GE245.out) | exact HB.out)) hb)
             clear HO_226002
             clear HO_226003
             clear HO233
             clear HO241
             clear HO236
             clear BK225
             clear BK226
             clear BK227
             clear BK245
             clear HB
             have HO_226002 := n0_
             have HO_226003 := n1_
             have HO233 := n2_
             have HO241 := n3_
             have HO236 := n4_
             have HO244 := n5_
             have BK225 := n6_
             have BK226 := n7_
             have BK227 := n8_
             have BK245 := n9_
             have HB := n10_
             clear n0_ n1_ n2_ n3_ n4_ n5_ n6_ n7_ n8_ n9_ n10_
             (try clear hb)
             (try clear hb2)
             (try clear hk)
             (try clear hi)
             (try clear ho0)
             obtain ⟨Ao98, co98, eo98⟩ := Kd.R_slice HO244.out
             (first | subst eo98 | (injection eo98 with f1_ f2_ f3_; have f4_ := f1_.symm; have f5_ := f3_.symm; clear f1_ f2_ f3_; subst f4_; subst f5_))
             obtain ⟨Ao99, co99, eo99⟩ := Kd.R_slice HO236.out
             (first | subst eo99 | (injection eo99 with f1_ f2_ f3_; have f4_ := f1_.symm; have f5_ := f3_.symm; clear f1_ f2_ f3_; subst f4_; subst f5_))
             refine hK.out _ _ ⟨(blk_cell BK225.out 0).trans rfl, (blk_cell BK225.out 1).trans rfl, (blk_cell BK225.out 2).trans rfl, (blk_cell BK225.out 3).trans rfl⟩ (fun hHeld => ?_)
             clear hK K
             refine norm_ (a' := ?_) ?_ ?_
             rotate_left
             ·show Act.put _ (some 39) _ = _
              simp only [Act.put, List.setIfInBounds_toArray, List.set_cons_zero, List.set_cons_succ, i64_w, i32_w]
              rfl
             refine pure_ (i := 12) (N := some 40) (v := ?_) (a' := ?_) #[true, true, true, true, true, true, true, true, true, true, true, true, true, true, false] rfl rfl (any_of HT_.out (by kernel_rfl)) (fun _ _ _ h => h) (Or.inl ⟨by rfl, ?_⟩) ?_ ?_
             rotate_left
             ·intro w'
              go_simp
              with_reducible rfl
             rotate_left
             ·simp only [Act.put, List.setIfInBounds_toArray, List.set_cons_zero, List.set_cons_succ, i64_w, i32_w]
              rfl
             exact norm_ (by simp only [putAll, Act.put, List.setIfInBounds_toArray, List.set_cons_zero, List.set_cons_succ]) (hCont (.slice Ao99 t234.length co99, .slice Ao98 t242.length co98, gb245) _ ⟨hHeld, (by (with_reducible repeat (first | apply Kd.V_alloc | apply Kd.V_drewN | apply Kd.V_drew)); exact Kd.V_mono HO233.out (fun _ hk => ⟨hk.1.1.1.1, ⟨hk.1.2, ⟨hk.2, ⟨hk.1.1.1.2.1, ⟨hk.1.1.1.2.2.1, ⟨hk.1.1.1.2.2.2, hk.1.1.2⟩⟩⟩⟩⟩⟩)), (by (with_reducible repeat (first | apply Kd.R_alloc | apply Kd.R_drewN | apply Kd.R_drew)); exact Kd.R_mono HO236.out (fun _ hk => hk.1)), (by (with_reducible repeat (first | apply Kd.V_alloc | apply Kd.V_drewN | apply Kd.V_drew)); exact Kd.V_mono HO241.out (fun _ hk => ⟨hk.1.1.1.1, ⟨hk.1.2, ⟨hk.2, ⟨hk.1.1.1.2.1, ⟨hk.1.1.1.2.2.1, ⟨hk.1.1.1.2.2.2, hk.1.1.2⟩⟩⟩⟩⟩⟩)), (by (with_reducible repeat (first | apply Kd.R_alloc | apply Kd.R_drewN | apply Kd.R_drew)); exact Kd.R_mono HO244.out (fun _ hk => hk.1)), (by (with_reducible repeat (first | apply Kd.V_alloc | apply Kd.V_drewN | apply Kd.V_drew)); exact Kd.V_mono HO_226002.out (fun _ hk => ⟨hk.1.1.1.1, ⟨hk.1.2, ⟨hk.2, ⟨hk.1.1.1.2.1, ⟨hk.1.1.1.2.2.1, ⟨hk.1.1.1.2.2.2, hk.1.1.2⟩⟩⟩⟩⟩⟩)), (by (with_reducible repeat (first | apply Kd.V_alloc | apply Kd.V_drewN | apply Kd.V_drew)); exact Kd.V_mono HO_226003.out (fun _ hk => ⟨hk.1.1.1.1, ⟨hk.1.2, ⟨hk.2, ⟨hk.1.1.1.2.1, ⟨hk.1.1.1.2.2.1, ⟨hk.1.1.1.2.2.2, hk.1.1.2⟩⟩⟩⟩⟩⟩)), (Less.bx BK225.out), (Less.bx BK226.out), (Less.bx BK227.out), (Less.bx BK245.out), GW245.out, GE245.out, NB225_245.out, NB245_225.out, NB226_245.out, NB245_226.out, NB227_245.out, NB245_227.out, (by repeat (first | (with_reducible first | exact HB.out | apply below_alloc | apply pw_below_drewN | apply below_drew1 | refine below_set ?_ GE225.out | refine below_set ?_ GE226.out | refine below_set ?_ GE227.out | refine below_set ?_ GE245.out) | exact HB.out))⟩)
           rintro ⟨v235, v243, gb245⟩ w100 ⟨hS_, h0_, h1_, h2_, h3_, h4_, h5_, h6_, h7_, h8_, h9_, h10_, h11_, h12_, h13_, h14_, h15_, h16_, h17_, h18_⟩
           have n0_ : Aside0 (Kd.V Kd.string 9 w100 w.heap.size (fun k_ => ((P0_2_ k_ ∨ P0_3_ k_) ∨ w.heap.size ≤ k_) ∧ some k_ ≠ (v235 : Value).ownBlock ∧ some k_ ≠ (v243 : Value).ownBlock ∧ k_ ≠ gb225 ∧ k_ ≠ gb226 ∧ k_ ≠ gb227 ∧ k_ ≠ gb245) (.slice A93 y229.length c93) y229) := ⟨h0_⟩
           have n1_ : Aside0 (Kd.R Kd.string 9 w100 w.heap.size (fun k_ => (w.heap.size ≤ k_)) v235 t234) := ⟨h1_⟩
           have n2_ : Aside0 (Kd.V k33 33 w100 w.heap.size (fun k_ => ((P0_2_ k_ ∨ P0_3_ k_) ∨ w.heap.size ≤ k_) ∧ some k_ ≠ (v235 : Value).ownBlock ∧ some k_ ≠ (v243 : Value).ownBlock ∧ k_ ≠ gb225 ∧ k_ ≠ gb226 ∧ k_ ≠ gb227 ∧ k_ ≠ gb245) (.slice A94 y237.length c94) y237) := ⟨h2_⟩
           have n3_ : Aside0 (Kd.R k33 33 w100 w.heap.size (fun k_ => (w.heap.size ≤ k_)) v243 t242) := ⟨h3_⟩
           have n4_ : Aside0 (Kd.V Kd.string 9 w100 w.heap.size (fun k_ => ((P0_2_ k_ ∨ P0_3_ k_) ∨ w.heap.size ≤ k_) ∧ some k_ ≠ (v235 : Value).ownBlock ∧ some k_ ≠ (v243 : Value).ownBlock ∧ k_ ≠ gb225 ∧ k_ ≠ gb226 ∧ k_ ≠ gb227 ∧ k_ ≠ gb245) (.slice A0_2 l0_2.length c0_2) l0_2) := ⟨h4_⟩
           have n5_ : Aside0 (Kd.V k33 33 w100 w.heap.size (fun k_ => ((P0_2_ k_ ∨ P0_3_ k_) ∨ w.heap.size ≤ k_) ∧ some k_ ≠ (v235 : Value).ownBlock ∧ some k_ ≠ (v243 : Value).ownBlock ∧ k_ ≠ gb225 ∧ k_ ≠ gb226 ∧ k_ ≠ gb227 ∧ k_ ≠ gb245) (.slice A0_3 l0_3.length c0_3) l0_3) := ⟨h5_⟩
           have n6_ : Aside0 (w100.heap[gb225]? = some (.cells #[.bool false, .int .i64 a0_1, .slice A0_2 l0_2.length c0_2, .slice A0_3 l0_3.length c0_3] 59 (0, 0))) := ⟨h6_⟩
           have n7_ : Aside0 (w100.heap[gb226]? = some (.cells #[.bool false, .int .i64 0, .slice none 0 0, .slice none 0 0] 59 (0, 0))) := ⟨h7_⟩
           have n8_ : Aside0 (w100.heap[gb227]? = some (.cells #[.bool false, .int .i64 0, .slice none 0 0, .slice none 0 0] 59 (0, 0))) := ⟨h8_⟩
           have n9_ : Aside0 (w100.heap[gb245]? = some (.cells #[.bool false, .int .i64 0, .slice none 0 0, .slice none 0 0] 59 (0, 0))) := ⟨h9_⟩
           have n10_ : Aside0 (w.heap.size ≤ gb245) := ⟨h10_⟩
           have n11_ : Aside0 (w.heap.size ≤ gb245) := ⟨h11_⟩
           have n12_ : Aside0 (gb225 ≠ gb245) := ⟨h12_⟩
           have n13_ : Aside0 (gb245 ≠ gb225) := ⟨h13_⟩
           have n14_ : Aside0 (gb226 ≠ gb245) := ⟨h14_⟩
           have n15_ : Aside0 (gb245 ≠ gb226) := ⟨h15_⟩
           have n16_ : Aside0 (gb227 ≠ gb245) := ⟨h16_⟩
           have n17_ : Aside0 (gb245 ≠ gb227) := ⟨h17_⟩
           have n18_ : Aside0 (Below w.heap.size w w100) := ⟨h18_⟩
           clear HO_226002
           clear HO_226003
           clear BK225
           clear BK226
           clear BK227
           clear HB
           clear h0_ h1_ h2_ h3_ h4_ h5_ h6_ h7_ h8_ h9_ h10_ h11_ h12_ h13_ h14_ h15_ h16_ h17_ h18_
           have HO233 := n0_
           have HO236 := n1_
           have HO241 := n2_
           have HO244 := n3_
           have HO_226002 := n4_
           have HO_226003 := n5_
           have BK225 := n6_
           have BK226 := n7_
           have BK227 := n8_
           have BK245 := n9_
           have GW245 := n10_
           have GE245 := n11_
           have NB225_245 := n12_
           have NB245_225 := n13_
           have NB226_245 := n14_
           have NB245_226 := n15_
           have NB227_245 := n16_
           have NB245_227 := n17_
           have HB := n18_
           clear n0_ n1_ n2_ n3_ n4_ n5_ n6_ n7_ n8_ n9_ n10_ n11_ n12_ n13_ n14_ n15_ n16_ n17_ n18_
           have hHeld : w100.cell? ⟨gb225, 0, none⟩ = some (.bool false) ∧ w100.cell? ⟨gb225, 1, none⟩ = some (.int .i64 a0_1) ∧ w100.cell? ⟨gb225, 2, none⟩ = some (.slice A0_2 l0_2.length c0_2) ∧ w100.cell? ⟨gb225, 3, none⟩ = some (.slice A0_3 l0_3.length c0_3) := hS_
           obtain ⟨Ao101, co101, eo101⟩ := Kd.R_slice HO244.out
           (first | subst eo101 | (injection eo101 with f1_ f2_ f3_; have f4_ := f1_.symm; have f5_ := f3_.symm; clear f1_ f2_ f3_; subst f4_; subst f5_))
           obtain ⟨Ao102, co102, eo102⟩ := Kd.R_slice HO236.out
           (first | subst eo102 | (injection eo102 with f1_ f2_ f3_; have f4_ := f1_.symm; have f5_ := f3_.symm; clear f1_ f2_ f3_; subst f4_; subst f5_))
           refine norm_ (a' := ?_) ?_ ?_
           rotate_left
           ·simp only [putAll, Act.put, List.setIfInBounds_toArray, List.set_cons_zero, List.set_cons_succ]
            rfl
           refine one_ (i := 14) (N := none) #[true, true, true, true, true, true, true, true, true, true, true, true, true, true, true] rfl rfl (one_of HT_.out (by kernel_rfl)) (by decide) (fun K hK => ?_)
           have hs103 : w100.cell? ⟨gb245, 0, none⟩ = some (.bool false) := (blk_cell BK245.out 0).trans rfl
           have hfs103 := blk_frozen BK245.out 0
           have hns103_0 := NB225_245.out
           have hns103_1 := NB226_245.out
           have hns103_2 := NB227_245.out
           have hms103_0 := NB245_225.out
           have hms103_1 := NB245_226.out
           have hms103_2 := NB245_227.out
           have hs104 : w100.cell? ⟨gb245, 1, none⟩ = some (.int .i64 0) := (blk_cell BK245.out 1).trans rfl
           have hfs104 := blk_frozen BK245.out 1
           have hns104_0 := NB225_245.out
           have hns104_1 := NB226_245.out
           have hns104_2 := NB227_245.out
           have hms104_0 := NB245_225.out
           have hms104_1 := NB245_226.out
           have hms104_2 := NB245_227.out
           have hs105 : w100.cell? ⟨gb245, 2, none⟩ = some (.slice none 0 0) := (blk_cell BK245.out 2).trans rfl
           have hfs105 := blk_frozen BK245.out 2
           have hns105_0 := NB225_245.out
           have hns105_1 := NB226_245.out
           have hns105_2 := NB227_245.out
           have hms105_0 := NB245_225.out
           have hms105_1 := NB245_226.out
           have hms105_2 := NB245_227.out
           have hs106 : w100.cell? ⟨gb245, 3, none⟩ = some (.slice none 0 0) := (blk_cell BK245.out 3).trans rfl
           have hfs106 := blk_frozen BK245.out 3
           have hns106_0 := NB225_245.out
           have hns106_1 := NB226_245.out
           have hns106_2 := NB227_245.out
           have hms106_0 := NB245_225.out
           have hms106_1 := NB245_226.out
           have hms106_2 := NB245_227.out
           refine skip_ (w1 := ?_) (by rfl) rfl ?_ ?_
           rotate_left
           ·go_simp
            rfl
           refine hK.out _ _ ⟨((cell_far (p := ⟨gb245, _, none⟩) NB225_245.out _).trans (((cell_far (p := ⟨gb245, _, none⟩) NB225_245.out _).trans (((cell_far (p := ⟨gb245, _, none⟩) NB225_245.out _).trans (((cell_far (p := ⟨gb245, _, none⟩) NB225_245.out _).trans (hHeld.1)))))))), ((cell_far (p := ⟨gb245, _, none⟩) NB225_245.out _).trans (((cell_far (p := ⟨gb245, _, none⟩) NB225_245.out _).trans (((cell_far (p := ⟨gb245, _, none⟩) NB225_245.out _).trans (((cell_far (p := ⟨gb245, _, none⟩) NB225_245.out _).trans (hHeld.2.1)))))))), ((cell_far (p := ⟨gb245, _, none⟩) NB225_245.out _).trans (((cell_far (p := ⟨gb245, _, none⟩) NB225_245.out _).trans (((cell_far (p := ⟨gb245, _, none⟩) NB225_245.out _).trans (((cell_far (p := ⟨gb245, _, none⟩) NB225_245.out _).trans (hHeld.2.2.1)))))))), ((cell_far (p := ⟨gb245, _, none⟩) NB225_245.out _).trans (((cell_far (p := ⟨gb245, _, none⟩) NB225_245.out _).trans (((cell_far (p := ⟨gb245, _, none⟩) NB225_245.out _).trans (((cell_far (p := ⟨gb245, _, none⟩) NB225_245.out _).trans (hHeld.2.2.2))))))))⟩ (fun hHeld => ?_)
           clear hK K
           refine done_ (done_of HT_.out (by kernel_rfl)) ?_
           have hnb107 := NB225_245.out
           have hnc107 := NB245_225.out
           have n0_ : Aside0 (Kd.V Kd.string 9 ((((w100.setCell ⟨gb245, 0, none⟩ (.bool false)).setCell ⟨gb245, 1, none⟩ (.int .i64 1)).setCell ⟨gb245, 2, none⟩ (.slice Ao102 t234.length co102)).setCell ⟨gb245, 3, none⟩ (.slice Ao101 t242.length co101)) w.heap.size (fun k_ => ((P0_2_ k_ ∨ P0_3_ k_) ∨ w.heap.size ≤ k_) ∧ some k_ ≠ (.slice Ao102 t234.length co102 : Value).ownBlock ∧ some k_ ≠ (.slice Ao101 t242.length co101 : Value).ownBlock ∧ k_ ≠ gb225 ∧ k_ ≠ gb226 ∧ k_ ≠ gb227 ∧ k_ ≠ gb245) (.slice A0_2 l0_2.length c0_2) l0_2) := ⟨by (with_reducible repeat (first | apply Kd.V_alloc | apply Kd.V_drewN | apply Kd.V_drew)); exact Kd.V_mono (Kd.V_far (p := ⟨gb245, 3, none⟩) (Kd.V_far (p := ⟨gb245, 2, none⟩) (Kd.V_far (p := ⟨gb245, 1, none⟩) (Kd.V_far (p := ⟨gb245, 0, none⟩) (Kd.V_mono HO_226002.out (fun k_ hk => (⟨hk, hk.2.2.2.2.2.2⟩ : _ ∧ k_ ≠ gb245))) (fun _ hk => hk.2) (.bool false)) (fun _ hk => hk.2) (.int .i64 1)) (fun _ hk => hk.2) (.slice Ao102 t234.length co102)) (fun _ hk => hk.2) (.slice Ao101 t242.length co101)) (fun _ hk => ⟨hk.1.1, ⟨hk.1.2.1, ⟨hk.1.2.2.1, ⟨hk.1.2.2.2.1, ⟨hk.1.2.2.2.2.1, ⟨hk.1.2.2.2.2.2.1, hk.1.2.2.2.2.2.2⟩⟩⟩⟩⟩⟩)⟩
           have n1_ : Aside0 (Kd.V k33 33 ((((w100.setCell ⟨gb245, 0, none⟩ (.bool false)).setCell ⟨gb245, 1, none⟩ (.int .i64 1)).setCell ⟨gb245, 2, none⟩ (.slice Ao102 t234.length co102)).setCell ⟨gb245, 3, none⟩ (.slice Ao101 t242.length co101)) w.heap.size (fun k_ => ((P0_2_ k_ ∨ P0_3_ k_) ∨ w.heap.size ≤ k_) ∧ some k_ ≠ (.slice Ao102 t234.length co102 : Value).ownBlock ∧ some k_ ≠ (.slice Ao101 t242.length co101 : Value).ownBlock ∧ k_ ≠ gb225 ∧ k_ ≠ gb226 ∧ k_ ≠ gb227 ∧ k_ ≠ gb245) (.slice A0_3 l0_3.length c0_3) l0_3) := ⟨by (with_reducible repeat (first | apply Kd.V_alloc | apply Kd.V_drewN | apply Kd.V_drew)); exact Kd.V_mono (Kd.V_far (p := ⟨gb245, 3, none⟩) (Kd.V_far (p := ⟨gb245, 2, none⟩) (Kd.V_far (p := ⟨gb245, 1, none⟩) (Kd.V_far (p := ⟨gb245, 0, none⟩) (Kd.V_mono HO_226003.out (fun k_ hk => (⟨hk, hk.2.2.2.2.2.2⟩ : _ ∧ k_ ≠ gb245))) (fun _ hk => hk.2) (.bool false)) (fun _ hk => hk.2) (.int .i64 1)) (fun _ hk => hk.2) (.slice Ao102 t234.length co102)) (fun _ hk => hk.2) (.slice Ao101 t242.length co101)) (fun _ hk => ⟨hk.1.1, ⟨hk.1.2.1, ⟨hk.1.2.2.1, ⟨hk.1.2.2.2.1, ⟨hk.1.2.2.2.2.1, ⟨hk.1.2.2.2.2.2.1, hk.1.2.2.2.2.2.2⟩⟩⟩⟩⟩⟩)⟩
           have n2_ : Aside0 (Kd.V Kd.string 9 ((((w100.setCell ⟨gb245, 0, none⟩ (.bool false)).setCell ⟨gb245, 1, none⟩ (.int .i64 1)).setCell ⟨gb245, 2, none⟩ (.slice Ao102 t234.length co102)).setCell ⟨gb245, 3, none⟩ (.slice Ao101 t242.length co101)) w.heap.size (fun k_ => ((P0_2_ k_ ∨ P0_3_ k_) ∨ w.heap.size ≤ k_) ∧ some k_ ≠ (.slice Ao102 t234.length co102 : Value).ownBlock ∧ some k_ ≠ (.slice Ao101 t242.length co101 : Value).ownBlock ∧ k_ ≠ gb225 ∧ k_ ≠ gb226 ∧ k_ ≠ gb227 ∧ k_ ≠ gb245) (.slice A93 y229.length c93) y229) := ⟨by (with_reducible repeat (first | apply Kd.V_alloc | apply Kd.V_drewN | apply Kd.V_drew)); exact Kd.V_mono (Kd.V_far (p := ⟨gb245, 3, none⟩) (Kd.V_far (p := ⟨gb245, 2, none⟩) (Kd.V_far (p := ⟨gb245, 1, none⟩) (Kd.V_far (p := ⟨gb245, 0, none⟩) (Kd.V_mono HO233.out (fun k_ hk => (⟨hk, hk.2.2.2.2.2.2⟩ : _ ∧ k_ ≠ gb245))) (fun _ hk => hk.2) (.bool false)) (fun _ hk => hk.2) (.int .i64 1)) (fun _ hk => hk.2) (.slice Ao102 t234.length co102)) (fun _ hk => hk.2) (.slice Ao101 t242.length co101)) (fun _ hk => ⟨hk.1.1, ⟨hk.1.2.1, ⟨hk.1.2.2.1, ⟨hk.1.2.2.2.1, ⟨hk.1.2.2.2.2.1, ⟨hk.1.2.2.2.2.2.1, hk.1.2.2.2.2.2.2⟩⟩⟩⟩⟩⟩)⟩
           have n3_ : Aside0 (Kd.V k33 33 ((((w100.setCell ⟨gb245, 0, none⟩ (.bool false)).setCell ⟨gb245, 1, none⟩ (.int .i64 1)).setCell ⟨gb245, 2, none⟩ (.slice Ao102 t234.length co102)).setCell ⟨gb245, 3, none⟩ (.slice Ao101 t242.length co101)) w.heap.size (fun k_ => ((P0_2_ k_ ∨ P0_3_ k_) ∨ w.heap.size ≤ k_) ∧ some k_ ≠ (.slice Ao102 t234.length co102 : Value).ownBlock ∧ some k_ ≠ (.slice Ao101 t242.length co101 : Value).ownBlock ∧ k_ ≠ gb225 ∧ k_ ≠ gb226 ∧ k_ ≠ gb227 ∧ k_ ≠ gb245) (.slice A94 y237.length c94) y237) := ⟨by (with_reducible repeat (first | apply Kd.V_alloc | apply Kd.V_drewN | apply Kd.V_drew)); exact Kd.V_mono (Kd.V_far (p := ⟨gb245, 3, none⟩) (Kd.V_far (p := ⟨gb245, 2, none⟩) (Kd.V_far (p := ⟨gb245, 1, none⟩) (Kd.V_far (p := ⟨gb245, 0, none⟩) (Kd.V_mono HO241.out (fun k_ hk => (⟨hk, hk.2.2.2.2.2.2⟩ : _ ∧ k_ ≠ gb245))) (fun _ hk => hk.2) (.bool false)) (fun _ hk => hk.2) (.int .i64 1)) (fun _ hk => hk.2) (.slice Ao102 t234.length co102)) (fun _ hk => hk.2) (.slice Ao101 t242.length co101)) (fun _ hk => ⟨hk.1.1, ⟨hk.1.2.1, ⟨hk.1.2.2.1, ⟨hk.1.2.2.2.1, ⟨hk.1.2.2.2.2.1, ⟨hk.1.2.2.2.2.2.1, hk.1.2.2.2.2.2.2⟩⟩⟩⟩⟩⟩)⟩
           have n4_ : Aside0 (Kd.R Kd.string 9 ((((w100.setCell ⟨gb245, 0, none⟩ (.bool false)).setCell ⟨gb245, 1, none⟩ (.int .i64 1)).setCell ⟨gb245, 2, none⟩ (.slice Ao102 t234.length co102)).setCell ⟨gb245, 3, none⟩ (.slice Ao101 t242.length co101)) w.heap.size (fun k_ => (w.heap.size ≤ k_)) (.slice Ao102 t234.length co102) t234) := ⟨by (with_reducible repeat (first | apply Kd.R_alloc | apply Kd.R_drewN | apply Kd.R_drew)); exact Kd.R_mono (Kd.R_far (p := ⟨gb245, 3, none⟩) (Kd.R_far (p := ⟨gb245, 2, none⟩) (Kd.R_far (p := ⟨gb245, 1, none⟩) (Kd.R_far (p := ⟨gb245, 0, none⟩) (Kd.R_types HO236.out BK245.out (by decide)) (fun _ hk => hk.2) (.bool false)) (fun _ hk => hk.2) (.int .i64 1)) (fun _ hk => hk.2) (.slice Ao102 t234.length co102)) (fun _ hk => hk.2) (.slice Ao101 t242.length co101)) (fun _ hk => hk.1)⟩
           have n5_ : Aside0 (Kd.R k33 33 ((((w100.setCell ⟨gb245, 0, none⟩ (.bool false)).setCell ⟨gb245, 1, none⟩ (.int .i64 1)).setCell ⟨gb245, 2, none⟩ (.slice Ao102 t234.length co102)).setCell ⟨gb245, 3, none⟩ (.slice Ao101 t242.length co101)) w.heap.size (fun k_ => (w.heap.size ≤ k_)) (.slice Ao101 t242.length co101) t242) := ⟨by (with_reducible repeat (first | apply Kd.R_alloc | apply Kd.R_drewN | apply Kd.R_drew)); exact Kd.R_mono (Kd.R_far (p := ⟨gb245, 3, none⟩) (Kd.R_far (p := ⟨gb245, 2, none⟩) (Kd.R_far (p := ⟨gb245, 1, none⟩) (Kd.R_far (p := ⟨gb245, 0, none⟩) (Kd.R_types HO244.out BK245.out (by decide)) (fun _ hk => hk.2) (.bool false)) (fun _ hk => hk.2) (.int .i64 1)) (fun _ hk => hk.2) (.slice Ao102 t234.length co102)) (fun _ hk => hk.2) (.slice Ao101 t242.length co101)) (fun _ hk => hk.1)⟩
           have n6_ : Aside0 (((((w100.setCell ⟨gb245, 0, none⟩ (.bool false)).setCell ⟨gb245, 1, none⟩ (.int .i64 1)).setCell ⟨gb245, 2, none⟩ (.slice Ao102 t234.length co102)).setCell ⟨gb245, 3, none⟩ (.slice Ao101 t242.length co101)).heap[gb225]? = some (.cells #[.bool false, .int .i64 a0_1, .slice A0_2 l0_2.length c0_2, .slice A0_3 l0_3.length c0_3] 59 (0, 0))) := ⟨by (with_reducible repeat (first | refine blk_drewN ?_ _ | refine blk_drew ?_ | refine blk_alloc ?_ _)); refine blk_far ?_ NB225_245.out _; (with_reducible repeat (first | refine blk_drewN ?_ _ | refine blk_drew ?_ | refine blk_alloc ?_ _)); refine blk_far ?_ NB225_245.out _; (with_reducible repeat (first | refine blk_drewN ?_ _ | refine blk_drew ?_ | refine blk_alloc ?_ _)); refine blk_far ?_ NB225_245.out _; (with_reducible repeat (first | refine blk_drewN ?_ _ | refine blk_drew ?_ | refine blk_alloc ?_ _)); refine blk_far ?_ NB225_245.out _; (with_reducible repeat (first | refine blk_drewN ?_ _ | refine blk_drew ?_ | refine blk_alloc ?_ _)); exact BK225.out⟩
           have n7_ : Aside0 (((((w100.setCell ⟨gb245, 0, none⟩ (.bool false)).setCell ⟨gb245, 1, none⟩ (.int .i64 1)).setCell ⟨gb245, 2, none⟩ (.slice Ao102 t234.length co102)).setCell ⟨gb245, 3, none⟩ (.slice Ao101 t242.length co101)).heap[gb226]? = some (.cells #[.bool false, .int .i64 0, .slice none 0 0, .slice none 0 0] 59 (0, 0))) := ⟨by (with_reducible repeat (first | refine blk_drewN ?_ _ | refine blk_drew ?_ | refine blk_alloc ?_ _)); refine blk_far ?_ NB226_245.out _; (with_reducible repeat (first | refine blk_drewN ?_ _ | refine blk_drew ?_ | refine blk_alloc ?_ _)); refine blk_far ?_ NB226_245.out _; (with_reducible repeat (first | refine blk_drewN ?_ _ | refine blk_drew ?_ | refine blk_alloc ?_ _)); refine blk_far ?_ NB226_245.out _; (with_reducible repeat (first | refine blk_drewN ?_ _ | refine blk_drew ?_ | refine blk_alloc ?_ _)); refine blk_far ?_ NB226_245.out _; (with_reducible repeat (first | refine blk_drewN ?_ _ | refine blk_drew ?_ | refine blk_alloc ?_ _)); exact BK226.out⟩
           have n8_ : Aside0 (((((w100.setCell ⟨gb245, 0, none⟩ (.bool false)).setCell ⟨gb245, 1, none⟩ (.int .i64 1)).setCell ⟨gb245, 2, none⟩ (.slice Ao102 t234.length co102)).setCell ⟨gb245, 3, none⟩ (.slice Ao101 t242.length co101)).heap[gb227]? = some (.cells #[.bool false, .int .i64 0, .slice none 0 0, .slice none 0 0] 59 (0, 0))) := ⟨by (with_reducible repeat (first | refine blk_drewN ?_ _ | refine blk_drew ?_ | refine blk_alloc ?_ _)); refine blk_far ?_ NB227_245.out _; (with_reducible repeat (first | refine blk_drewN ?_ _ | refine blk_drew ?_ | refine blk_alloc ?_ _)); refine blk_far ?_ NB227_245.out _; (with_reducible repeat (first | refine blk_drewN ?_ _ | refine blk_drew ?_ | refine blk_alloc ?_ _)); refine blk_far ?_ NB227_245.out _; (with_reducible repeat (first | refine blk_drewN ?_ _ | refine blk_drew ?_ | refine blk_alloc ?_ _)); refine blk_far ?_ NB227_245.out _; (with_reducible repeat (first | refine blk_drewN ?_ _ | refine blk_drew ?_ | refine blk_alloc ?_ _)); exact BK227.out⟩
           have n9_ : Aside0 (((((w100.setCell ⟨gb245, 0, none⟩ (.bool false)).setCell ⟨gb245, 1, none⟩ (.int .i64 1)).setCell ⟨gb245, 2, none⟩ (.slice Ao102 t234.length co102)).setCell ⟨gb245, 3, none⟩ (.slice Ao101 t242.length co101)).heap[gb245]? = some (.cells #[.bool false, .int .i64 1, .slice Ao102 t234.length co102, .slice Ao101 t242.length co101] 59 (0, 0))) := ⟨by (with_reducible repeat (first | refine blk_drewN ?_ _ | refine blk_drew ?_ | refine blk_alloc ?_ _)); refine blk_put (cs := #[.bool false, .int .i64 1, .slice Ao102 t234.length co102, .slice none 0 0]) ?_ 3 _ rfl; (with_reducible repeat (first | refine blk_drewN ?_ _ | refine blk_drew ?_ | refine blk_alloc ?_ _)); refine blk_put (cs := #[.bool false, .int .i64 1, .slice none 0 0, .slice none 0 0]) ?_ 2 _ rfl; (with_reducible repeat (first | refine blk_drewN ?_ _ | refine blk_drew ?_ | refine blk_alloc ?_ _)); refine blk_put (cs := #[.bool false, .int .i64 0, .slice none 0 0, .slice none 0 0]) ?_ 1 _ rfl; (with_reducible repeat (first | refine blk_drewN ?_ _ | refine blk_drew ?_ | refine blk_alloc ?_ _)); refine blk_put (cs := #[.bool false, .int .i64 0, .slice none 0 0, .slice none 0 0]) ?_ 0 _ rfl; (with_reducible repeat (first | refine blk_drewN ?_ _ | refine blk_drew ?_ | refine blk_alloc ?_ _)); exact BK245.out⟩
           have n10_ : Aside0 (Below w.heap.size w ((((w100.setCell ⟨gb245, 0, none⟩ (.bool false)).setCell ⟨gb245, 1, none⟩ (.int .i64 1)).setCell ⟨gb245, 2, none⟩ (.slice Ao102 t234.length co102)).setCell ⟨gb245, 3, none⟩ (.slice Ao101 t242.length co101))) := ⟨by repeat (first | (with_reducible first | exact HB.out | apply below_alloc | apply pw_below_drewN | apply below_drew1 | refine below_set ?_ GE225.out | refine below_set ?_ GE226.out | refine below_set ?_ GE227.out | refine below_set ?_ GE245.out) | exact HB.out)⟩
           (try clear HO_226002)
           (try clear HO_226003)
           (try clear HO233)
           (try clear HO241)
           (try clear HO236)
           (try clear HO244)
           (try clear BK225)
           (try clear BK226)
           (try clear BK227)
           (try clear BK245)
           (try clear HB)
           generalize ((((w100.setCell ⟨gb245, 0, none⟩ (.bool false)).setCell ⟨gb245, 1, none⟩ (.int .i64 1)).setCell ⟨gb245, 2, none⟩ (.slice Ao102 t234.length co102)).setCell ⟨gb245, 3, none⟩ (.slice Ao101 t242.length co101)) = w109 at n0_ n1_ n2_ n3_ n4_ n5_ n6_ n7_ n8_ n9_ n10_ ⊢
           have HO_226002 := n0_
           have HO_226003 := n1_
           have HO233 := n2_
           have HO241 := n3_
           have HO236 := n4_
           have HO244 := n5_
           have BK225 := n6_
           have BK226 := n7_
           have BK227 := n8_
           have BK245 := n9_
           have HB := n10_
           clear n0_ n1_ n2_ n3_ n4_ n5_ n6_ n7_ n8_ n9_ n10_
           have hcz108_0 : w109.cell? ⟨gb225, 0, none⟩ = some (.bool false) := (blk_cell BK225.out 0).trans rfl
           have hcz108_1 : w109.cell? ⟨gb225, 1, none⟩ = some (.int .i64 a0_1) := (blk_cell BK225.out 1).trans rfl
           have hcz108_2 : w109.cell? ⟨gb225, 2, none⟩ = some (.slice A0_2 l0_2.length c0_2) := (blk_cell BK225.out 2).trans rfl
           have hcz108_3 : w109.cell? ⟨gb225, 3, none⟩ = some (.slice A0_3 l0_3.length c0_3) := (blk_cell BK225.out 3).trans rfl
           have hfz108_0 := blk_frozen BK225.out 0
           have hfz108_1 := blk_frozen BK225.out 1
           have hfz108_2 := blk_frozen BK225.out 2
           have hfz108_3 := blk_frozen BK225.out 3
           have p263 : 0 ≤ ((ji80) : Int) := of_decide_eq_true (by first | (with_reducible assumption) | assumption)
           have q263 : (ji80) < (l0_2.length : Int) := of_decide_eq_true (by first | (with_reducible assumption) | assumption)
           obtain ⟨ad263, e263, hx263_0⟩ := Kd.at_string (Kd.V_reads' HO_226002.out).2.2 (ji80) p263 q263
           cases e263
           replace p263 := eq_true p263
           replace q263 := eq_true q263
           try go_wp2
           have n0_ := Aside0.mk (Kd.V_drew HO_226002.out)
           have n1_ := Aside0.mk (Kd.V_drew HO_226003.out)
           have n2_ := Aside0.mk (Kd.V_drew HO233.out)
           have n3_ := Aside0.mk (Kd.V_drew HO241.out)
           have n4_ := Aside0.mk (Kd.R_drew HO236.out)
           have n5_ := Aside0.mk (Kd.R_drew HO244.out)
           have n6_ := Aside0.mk (blk_drew BK225.out)
           have n7_ := Aside0.mk (blk_drew BK226.out)
           have n8_ := Aside0.mk (blk_drew BK227.out)
           have n9_ := Aside0.mk (blk_drew BK245.out)
           have n10_ := Aside0.mk (below_drew1 HB.out)
           clear HO_226002
           clear HO_226003
           clear HO233
           clear HO241
           clear HO236
           clear HO244
           clear BK225
           clear BK226
           clear BK227
           clear BK245
           clear HB
           have HO_226002 := n0_
           have HO_226003 := n1_
           have HO233 := n2_
           have HO241 := n3_
           have HO236 := n4_
           have HO244 := n5_
           have BK225 := n6_
           have BK226 := n7_
           have BK227 := n8_
           have BK245 := n9_
           have HB := n10_
           clear n0_ n1_ n2_ n3_ n4_ n5_ n6_ n7_ n8_ n9_ n10_
           have q111 : ((ji80) : Int) ≤ ((l0_2.length : Int) : Int) := of_decide_eq_true (by first | (with_reducible assumption) | assumption)
           obtain ⟨i0111, hi0111, _, hsz111, _⟩ := info_parts info9
           have hroom111 : l0_2.length ≤ c0_2 := (Kd.V_reads' HO_226002.out).2.1
           have hC111 : Kd.F Kd.string _ _ (some ad263) l0_2.length l0_2 := (Kd.V_at (base := w.heap.size) HO_226002.out).2.2
           have hcut111 := cut_to (P := Try.prog) 57 9 .i64 Try.underlying57 hi0111 (some ad263) l0_2.length c0_2 (ji80) (of_decide_eq_true (by first | (with_reducible assumption) | assumption)) q111 hroom111
           have hr111 := Kd.F_take (m := ((ji80) : Int).toNat) hC111 (by omega)
           have hy111 : y264.length = ((ji80) : Int).toNat := (by rw [Ny264.out, List.length_take]; omega)
           rw [← Ny264.out] at hr111
           rw [← hy111] at hcut111
           have HO268 := Aside0.mk (show Kd.V Kd.string 9 _ w.heap.size _ (.slice (some ad263) y264.length c0_2) y264 from Kd.V_mk (by omega) hr111)
           have HC268 := Aside0.mk (show y264.length ≤ c0_2 from by omega)
           clear hr111 hC111 hroom111 hi0111 hsz111
           have KY111 := Aside0.mk hy111
           clear hy111
           replace q111 := eq_true q111
           have q112 : ((ji24) : Int) ≤ ((l0_3.length : Int) : Int) := of_decide_eq_true (by first | (with_reducible assumption) | assumption)
           obtain ⟨i0112, hi0112, _, hsz112, _⟩ := info_parts info33
           have hroom112 : l0_3.length ≤ c0_3 := (Kd.V_reads' HO_226003.out).2.1
           have hC112 : Kd.F k33 _ _ A0_3 l0_3.length l0_3 := (Kd.V_at (base := w.heap.size) HO_226003.out).2.2
           have hcut112 := cut_to (P := Try.prog) 31 33 .i64 Try.underlying31 hi0112 A0_3 l0_3.length c0_3 (ji24) (of_decide_eq_true (by first | (with_reducible assumption) | assumption)) q112 hroom112
           have hr112 := Kd.F_take (m := ((ji24) : Int).toNat) hC112 (by omega)
           have hy112 : y272.length = ((ji24) : Int).toNat := (by rw [Ny272.out, List.length_take]; omega)
           rw [← Ny272.out] at hr112
           rw [← hy112] at hcut112
           have HO276 := Aside0.mk (show Kd.V k33 33 _ w.heap.size _ (.slice A0_3 y272.length c0_3) y272 from Kd.V_mk (by omega) hr112)
           have HC276 := Aside0.mk (show y272.length ≤ c0_3 from by omega)
           clear hr112 hC112 hroom112 hi0112 hsz112
           have KY112 := Aside0.mk hy112
           clear hy112
           replace q112 := eq_true q112
           refine start_ (n := 14) (S := fun w' => w'.cell? ⟨gb225, 0, none⟩ = some (.bool false) ∧ w'.cell? ⟨gb225, 1, none⟩ = some (.int .i64 a0_1) ∧ w'.cell? ⟨gb225, 2, none⟩ = some (.slice (some ad263) l0_2.length c0_2) ∧ w'.cell? ⟨gb225, 3, none⟩ = some (.slice A0_3 l0_3.length c0_3)) (ds := [11, 13]) #[false, false, false, false, false, false, false, false, false, false, false, false, false, false] (by kernel_rfl) rfl rfl ⟨(blk_cell BK225.out 0).trans rfl, (blk_cell BK225.out 1).trans rfl, (blk_cell BK225.out 2).trans rfl, (blk_cell BK225.out 3).trans rfl⟩ (fun hHeld => ?_); refine with_tabW node_Split.tab9 node_Split.bits9 (fun HT_ HW_ => ?_)
           generalize w109.drew = w110 at HO_226002 HO_226003 HO233 HO241 HO236 HO244 BK225 BK226 BK227 BK245 HB HO268 HO276 hHeld ⊢
           refine pure_ (i := 0) (N := some 52) (v := ?_) (a' := ?_) #[true, false, false, false, false, false, false, false, false, false, false, false, false, false] rfl rfl (any_of HT_.out (by kernel_rfl)) (fun _ _ _ h => h) (Or.inl ⟨by rfl, ?_⟩) ?_ ?_
           rotate_left
           ·intro w'
            go_simp
            with_reducible rfl
           rotate_left
           ·simp only [Act.put, List.setIfInBounds_toArray, List.set_cons_zero, List.set_cons_succ, i64_w, i32_w]
            rfl
           refine pure_ (i := 2) (N := some 54) (v := ?_) (a' := ?_) #[true, false, true, false, false, false, false, false, false, false, false, false, false, false] rfl rfl (any_of HT_.out (by kernel_rfl)) (fun _ _ _ h => h) (Or.inl ⟨by rfl, ?_⟩) ?_ ?_
           rotate_left
           ·intro w'
            go_simp
            with_reducible rfl
           rotate_left
           ·simp only [Act.put, List.setIfInBounds_toArray, List.set_cons_zero, List.set_cons_succ, i64_w, i32_w]
            rfl
           refine pure_ (i := 5) (N := some 57) (v := ?_) (a' := ?_) #[true, false, true, false, false, true, false, false, false, false, false, false, false, false] rfl rfl (any_of HT_.out (by kernel_rfl)) (fun _ _ _ h => h) (Or.inl ⟨by rfl, ?_⟩) ?_ ?_
           rotate_left
           ·intro w'
            go_simp
            with_reducible rfl
           rotate_left
           ·simp only [Act.put, List.setIfInBounds_toArray, List.set_cons_zero, List.set_cons_succ, i64_w, i32_w]
            rfl
           refine pure_ (i := 7) (N := some 59) (v := ?_) (a' := ?_) #[true, false, true, false, false, true, false, true, false, false, false, false, false, false] rfl rfl (any_of HT_.out (by kernel_rfl)) (fun _ _ _ h => h) (Or.inl ⟨by rfl, ?_⟩) ?_ ?_
           rotate_left
           ·intro w'
            go_simp
            with_reducible rfl
           rotate_left
           ·simp only [Act.put, List.setIfInBounds_toArray, List.set_cons_zero, List.set_cons_succ, i64_w, i32_w]
            rfl
           refine take_ (i := 1) (N := some 53) (v := ?_) (a' := ?_) #[true, true, true, false, false, true, false, true, false, false, false, false, false, false] rfl rfl (take_ofW HT_.out HW_.out (by kernel_rfl)) (fun _ _ _ h => h) (Or.inl ⟨by rfl, ?_⟩) hHeld ?_ ?_
           rotate_left
           ·rintro w' ⟨s0, s1, s2, s3⟩
            go_simp
            with_reducible rfl
           rotate_left
           ·simp only [Act.put, List.setIfInBounds_toArray, List.set_cons_zero, List.set_cons_succ, i64_w, i32_w]
            rfl
           refine pure_ (i := 3) (N := some 55) (v := ?_) (a' := ?_) #[true, true, true, true, false, true, false, true, false, false, false, false, false, false] rfl rfl (any_of HT_.out (by kernel_rfl)) (fun _ _ _ h => h) (Or.inl ⟨by rfl, ?_⟩) ?_ ?_
           rotate_left
           ·intro w'
            go_simp
            with_reducible rfl
           rotate_left
           ·simp only [Act.put, List.setIfInBounds_toArray, List.set_cons_zero, List.set_cons_succ, i64_w, i32_w]
            rfl
           refine take_ (i := 6) (N := some 58) (v := ?_) (a' := ?_) #[true, true, true, true, false, true, true, true, false, false, false, false, false, false] rfl rfl (take_ofW HT_.out HW_.out (by kernel_rfl)) (fun _ _ _ h => h) (Or.inl ⟨by rfl, ?_⟩) hHeld ?_ ?_
           rotate_left
           ·rintro w' ⟨s0, s1, s2, s3⟩
            go_simp
            with_reducible rfl
           rotate_left
           ·simp only [Act.put, List.setIfInBounds_toArray, List.set_cons_zero, List.set_cons_succ, i64_w, i32_w]
            rfl
           refine pure_ (i := 8) (N := some 60) (v := ?_) (a' := ?_) #[true, true, true, true, false, true, true, true, true, false, false, false, false, false] rfl rfl (any_of HT_.out (by kernel_rfl)) (fun _ _ _ h => h) (Or.inl ⟨by rfl, ?_⟩) ?_ ?_
           rotate_left
           ·intro w'
            go_simp
            with_reducible rfl
           rotate_left
           ·simp only [Act.put, List.setIfInBounds_toArray, List.set_cons_zero, List.set_cons_succ, i64_w, i32_w]
            rfl
           refine one_ (i := 4) (N := some 56) #[true, true, true, true, true, true, true, true, true, false, false, false, false, false] rfl rfl (one_of HT_.out (by kernel_rfl)) (by decide) (fun K hK => ?_)
           refine goes_ Try.func105 (by kernel_rfl) rfl #[.slice (some ad263) y264.length c0_2, .slice none 0 0] (by rfl) rfl rfl (by (try simp only [List.map_toArray, List.map_cons, List.map_nil]); first | done | rfl | (simp only [List.length_drop, List.length_take]; rfl)) ?_
           refine (node_copied_string.calls _ _ y264 _ _ ([] : List ByteArray) t269 _ ?side1 ?side2 ?side3 ?side4 A85.out).mono ?_
           (case side1 => exact Less.cx ((Kd.V_reads' HO268.out).2.2))
           (case side2 => exact (Kd.V_reads' HO268.out).2.1)
           (case side3 => exact Kd.C_nil _ _)
           (case side4 => exact Nat.le_refl _)
           rintro e w113 ⟨v270, rfl, ho0, hb⟩
           refine ⟨_, rfl, ?_⟩
           have n0_ := Aside0.mk (Kd.V_elder' (Less.vx HO_226002.out) (Kd.R_base ho0) hb)
           have n1_ := Aside0.mk (Kd.V_elder' (Less.vx HO_226003.out) (Kd.R_base ho0) hb)
           have n2_ := Aside0.mk (Kd.V_elder' (Less.vx HO233.out) (Kd.R_base ho0) hb)
           have n3_ := Aside0.mk (Kd.V_elder' (Less.vx HO241.out) (Kd.R_base ho0) hb)
           have n4_ := Aside0.mk (Kd.R_elder' (Less.rx HO236.out) (Kd.R_base ho0) hb)
           have n5_ := Aside0.mk (Kd.R_below (Less.rx HO244.out) hb)
           have n6_ := Aside0.mk (Kd.V_elder' (Less.vx HO268.out) (Kd.R_base ho0) hb)
           have n7_ := Aside0.mk (Kd.V_elder' (Less.vx HO276.out) (Kd.R_base ho0) hb)
           have n8_ := Aside0.mk (Kd.R_lower (Kd.R_new' (Kd.R_newM (M := fun k_ => (w.heap.size ≤ k_)) ho0 (below_size (by repeat (first | (with_reducible first | exact HB.out | apply below_alloc | apply pw_below_drewN | apply below_drew1 | refine below_set ?_ GE225.out | refine below_set ?_ GE226.out | refine below_set ?_ GE227.out | refine below_set ?_ GE245.out) | exact HB.out))) (fun k_ h_ => h_)) (Kd.R_lt (Less.rx HO236.out))) (below_size (by repeat (first | (with_reducible first | exact HB.out | apply below_alloc | apply pw_below_drewN | apply below_drew1 | refine below_set ?_ GE225.out | refine below_set ?_ GE226.out | refine below_set ?_ GE227.out | refine below_set ?_ GE245.out) | exact HB.out))))
           have n9_ := Aside0.mk (blk_below (g := gb225) (o := .cells #[.bool false, .int .i64 a0_1, .slice (some ad263) l0_2.length c0_2, .slice A0_3 l0_3.length c0_3] 59 (0, 0)) (Less.bx BK225.out) hb)
           have n10_ := Aside0.mk (blk_below (g := gb226) (o := .cells #[.bool false, .int .i64 0, .slice none 0 0, .slice none 0 0] 59 (0, 0)) (Less.bx BK226.out) hb)
           have n11_ := Aside0.mk (blk_below (g := gb227) (o := .cells #[.bool false, .int .i64 0, .slice none 0 0, .slice none 0 0] 59 (0, 0)) (Less.bx BK227.out) hb)
           have n12_ := Aside0.mk (blk_below (g := gb245) (o := .cells #[.bool false, .int .i64 1, .slice Ao102 t234.length co102, .slice Ao101 t242.length co101] 59 (0, 0)) (Less.bx BK245.out) hb)
           have n13_ := Aside0.mk (below_step (by repeat (first | (with_reducible first | exact HB.out | apply below_alloc | apply pw_below_drewN | apply below_drew1 | refine below_set ?_ GE225.out | refine below_set ?_ GE226.out | refine below_set ?_ GE227.out | refine below_set ?_ GE245.out) | exact HB.out)) hb)
           clear HO_226002
           clear HO_226003
           clear HO233
           clear HO241
           clear HO236
           clear HO244
           clear HO268
           clear HO276
           clear BK225
           clear BK226
           clear BK227
           clear BK245
           clear HB
           have HO_226002 := n0_
           have HO_226003 := n1_
           have HO233 := n2_
           have HO241 := n3_
           have HO236 := n4_
           have HO244 := n5_
           have HO268 := n6_
           have HO276 := n7_
           have HO271 := n8_
           have BK225 := n9_
           have BK226 := n10_
           have BK227 := n11_
           have BK245 := n12_
           have HB := n13_
           clear n0_ n1_ n2_ n3_ n4_ n5_ n6_ n7_ n8_ n9_ n10_ n11_ n12_ n13_
           (try clear hb)
           (try clear hb2)
           (try clear hk)
           (try clear hi)
           (try clear ho0)
           refine hK.out _ _ ⟨(blk_cell BK225.out 0).trans rfl, (blk_cell BK225.out 1).trans rfl, (blk_cell BK225.out 2).trans rfl, (blk_cell BK225.out 3).trans rfl⟩ (fun hHeld => ?_)
           clear hK K
           refine norm_ (a' := ?_) ?_ ?_
           rotate_left
           ·show Act.put _ (some 56) _ = _
            simp only [Act.put, List.setIfInBounds_toArray, List.set_cons_zero, List.set_cons_succ, i64_w, i32_w]
            rfl
           refine pure_ (i := 10) (N := some 62) (v := ?_) (a' := ?_) #[true, true, true, true, true, true, true, true, true, false, true, false, false, false] rfl rfl (any_of HT_.out (by kernel_rfl)) (fun _ _ _ h => h) (Or.inl ⟨by rfl, ?_⟩) ?_ ?_
           rotate_left
           ·intro w'
            go_simp
            with_reducible rfl
           rotate_left
           ·simp only [Act.put, List.setIfInBounds_toArray, List.set_cons_zero, List.set_cons_succ, i64_w, i32_w]
            rfl
           refine one_ (i := 9) (N := some 61) #[true, true, true, true, true, true, true, true, true, true, true, false, false, false] rfl rfl (one_of HT_.out (by kernel_rfl)) (by decide) (fun K hK => ?_)
           refine goes_ Try.func106 (by kernel_rfl) rfl #[.slice A0_3 y272.length c0_3, .slice none 0 0] (by rfl) rfl rfl (by (try simp only [List.map_toArray, List.map_cons, List.map_nil]); first | done | rfl | (simp only [List.length_drop, List.length_take]; rfl)) ?_
           refine (api_Ref_106.calls _ _ y272 _ _ ([] : List (S33)) t277 _ ?side1 ?side2 ?side3 ?side4 A88.out).mono ?_
           (case side1 => exact Less.cx ((Kd.V_reads' HO276.out).2.2))
           (case side2 => exact (Kd.V_reads' HO276.out).2.1)
           (case side3 => exact Kd.C_nil _ _)
           (case side4 => exact Nat.le_refl _)
           rintro e w114 ⟨v278, rfl, ho0, hb⟩
           refine ⟨_, rfl, ?_⟩
           have n0_ := Aside0.mk (Kd.V_elder' (Less.vx HO_226002.out) (Kd.R_base ho0) hb)
           have n1_ := Aside0.mk (Kd.V_elder' (Less.vx HO_226003.out) (Kd.R_base ho0) hb)
           have n2_ := Aside0.mk (Kd.V_elder' (Less.vx HO233.out) (Kd.R_base ho0) hb)
           have n3_ := Aside0.mk (Kd.V_elder' (Less.vx HO241.out) (Kd.R_base ho0) hb)
           have n4_ := Aside0.mk (Kd.R_below (Less.rx HO236.out) hb)
           have n5_ := Aside0.mk (Kd.R_elder' (Less.rx HO244.out) (Kd.R_base ho0) hb)
           have n6_ := Aside0.mk (Kd.V_elder' (Less.vx HO268.out) (Kd.R_base ho0) hb)
           have n7_ := Aside0.mk (Kd.V_elder' (Less.vx HO276.out) (Kd.R_base ho0) hb)
           have n8_ := Aside0.mk (Kd.R_below (Less.rx HO271.out) hb)
           have n9_ := Aside0.mk (Kd.R_lower (Kd.R_new' (Kd.R_newM (M := fun k_ => (w.heap.size ≤ k_)) ho0 (below_size (by repeat (first | (with_reducible first | exact HB.out | apply below_alloc | apply pw_below_drewN | apply below_drew1 | refine below_set ?_ GE225.out | refine below_set ?_ GE226.out | refine below_set ?_ GE227.out | refine below_set ?_ GE245.out) | exact HB.out))) (fun k_ h_ => h_)) (Kd.R_lt (Less.rx HO244.out))) (below_size (by repeat (first | (with_reducible first | exact HB.out | apply below_alloc | apply pw_below_drewN | apply below_drew1 | refine below_set ?_ GE225.out | refine below_set ?_ GE226.out | refine below_set ?_ GE227.out | refine below_set ?_ GE245.out) | exact HB.out))))
           have n10_ := Aside0.mk (blk_below (g := gb225) (o := .cells #[.bool false, .int .i64 a0_1, .slice (some ad263) l0_2.length c0_2, .slice A0_3 l0_3.length c0_3] 59 (0, 0)) (Less.bx BK225.out) hb)
           have n11_ := Aside0.mk (blk_below (g := gb226) (o := .cells #[.bool false, .int .i64 0, .slice none 0 0, .slice none 0 0] 59 (0, 0)) (Less.bx BK226.out) hb)
           have n12_ := Aside0.mk (blk_below (g := gb227) (o := .cells #[.bool false, .int .i64 0, .slice none 0 0, .slice none 0 0] 59 (0, 0)) (Less.bx BK227.out) hb)
           have n13_ := Aside0.mk (blk_below (g := gb245) (o := .cells #[.bool false, .int .i64 1, .slice Ao102 t234.length co102, .slice Ao101 t242.length co101] 59 (0, 0)) (Less.bx BK245.out) hb)
           have n14_ := Aside0.mk (below_step (by repeat (first | (with_reducible first | exact HB.out | apply below_alloc | apply pw_below_drewN | apply below_drew1 | refine below_set ?_ GE225.out | refine below_set ?_ GE226.out | refine below_set ?_ GE227.out | refine below_set ?_ GE245.out) | exact HB.out)) hb)
           clear HO_226002
           clear HO_226003
           clear HO233
           clear HO241
           clear HO236
           clear HO244
           clear HO268
           clear HO276
           clear HO271
           clear BK225
           clear BK226
           clear BK227
           clear BK245
           clear HB
           have HO_226002 := n0_
           have HO_226003 := n1_
           have HO233 := n2_
           have HO241 := n3_
           have HO236 := n4_
           have HO244 := n5_
           have HO268 := n6_
           have HO276 := n7_
           have HO271 := n8_
           have HO279 := n9_
           have BK225 := n10_
           have BK226 := n11_
           have BK227 := n12_
           have BK245 := n13_
           have HB := n14_
           clear n0_ n1_ n2_ n3_ n4_ n5_ n6_ n7_ n8_ n9_ n10_ n11_ n12_ n13_ n14_
           (try clear hb)
           (try clear hb2)
           (try clear hk)
           (try clear hi)
           (try clear ho0)
           obtain ⟨Ao115, co115, eo115⟩ := Kd.R_slice HO271.out
           (first | subst eo115 | (injection eo115 with f1_ f2_ f3_; have f4_ := f1_.symm; have f5_ := f3_.symm; clear f1_ f2_ f3_; subst f4_; subst f5_))
           obtain ⟨Ao117, co117, eo117⟩ := Kd.R_slice HO279.out
           (first | subst eo117 | (injection eo117 with f1_ f2_ f3_; have f4_ := f1_.symm; have f5_ := f3_.symm; clear f1_ f2_ f3_; subst f4_; subst f5_))
           refine hK.out _ _ ⟨(blk_cell BK225.out 0).trans rfl, (blk_cell BK225.out 1).trans rfl, (blk_cell BK225.out 2).trans rfl, (blk_cell BK225.out 3).trans rfl⟩ (fun hHeld => ?_)
           clear hK K
           refine norm_ (a' := ?_) ?_ ?_
           rotate_left
           ·show Act.put _ (some 61) _ = _
            simp only [Act.put, List.setIfInBounds_toArray, List.set_cons_zero, List.set_cons_succ, i64_w, i32_w]
            rfl
           refine last_ (i := 11) (N := none) #[true, true, true, true, true, true, true, true, true, true, true, true, false, false] rfl rfl (one_of HT_.out (by kernel_rfl)) (by decide) (fun K hK => ?_)
           have hs116 : w114.cell? ⟨gb225, 2, none⟩ = some (.slice (some ad263) l0_2.length c0_2) := (blk_cell BK225.out 2).trans rfl
           have hfs116 := blk_frozen BK225.out 2
           have hns116_1 := NB226_225.out
           have hns116_2 := NB227_225.out
           have hns116_3 := NB245_225.out
           have hms116_1 := NB225_226.out
           have hms116_2 := NB225_227.out
           have hms116_3 := NB225_245.out
           refine skip_ (w1 := ?_) (by rfl) rfl ?_ ?_
           rotate_left
           ·go_simp
            rfl
           refine hK.out _ _ ?_
           clear hK K
           refine pure_ (i := 12) (N := some 63) (v := ?_) (a' := ?_) #[true, true, true, true, true, true, true, true, true, true, true, true, true, false] rfl rfl (any_of HT_.out (by kernel_rfl)) (fun _ _ _ h => h) (Or.inl ⟨by rfl, ?_⟩) ?_ ?_
           rotate_left
           ·intro w'
            go_simp
            with_reducible rfl
           rotate_left
           ·simp only [Act.put, List.setIfInBounds_toArray, List.set_cons_zero, List.set_cons_succ, i64_w, i32_w]
            rfl
           refine last_ (i := 13) (N := none) #[true, true, true, true, true, true, true, true, true, true, true, true, true, true] rfl rfl (one_of HT_.out (by kernel_rfl)) (by decide) (fun K hK => ?_)
           have hs118 : w114.cell? ⟨gb225, 3, none⟩ = some (.slice A0_3 l0_3.length c0_3) := (blk_cell BK225.out 3).trans rfl
           have hfs118 := blk_frozen BK225.out 3
           have hns118_1 := NB226_225.out
           have hns118_2 := NB227_225.out
           have hns118_3 := NB245_225.out
           have hms118_1 := NB225_226.out
           have hms118_2 := NB225_227.out
           have hms118_3 := NB225_245.out
           refine skip_ (w1 := ?_) (by rfl) rfl ?_ ?_
           rotate_left
           ·go_simp
            rfl
           refine hK.out _ _ ?_
           clear hK K
           refine done_ (done_of HT_.out (by kernel_rfl)) ?_
           have hcz119_0 : w114.cell? ⟨gb225, 0, none⟩ = some (.bool false) := (blk_cell BK225.out 0).trans rfl
           have hcz119_1 : w114.cell? ⟨gb225, 1, none⟩ = some (.int .i64 a0_1) := (blk_cell BK225.out 1).trans rfl
           have hcz119_2 : w114.cell? ⟨gb225, 2, none⟩ = some (.slice (some ad263) l0_2.length c0_2) := (blk_cell BK225.out 2).trans rfl
           have hcz119_3 : w114.cell? ⟨gb225, 3, none⟩ = some (.slice A0_3 l0_3.length c0_3) := (blk_cell BK225.out 3).trans rfl
           have hfz119_0 := blk_frozen BK225.out 0
           have hfz119_1 := blk_frozen BK225.out 1
           have hfz119_2 := blk_frozen BK225.out 2
           have hfz119_3 := blk_frozen BK225.out 3
           try go_wp2
           have n0_ : Aside0 (Kd.V Kd.string 9 (((w114.setCell ⟨gb225, 2, none⟩ (.slice Ao115 t269.length co115)).setCell ⟨gb225, 3, none⟩ (.slice Ao117 t277.length co117)).setCell ⟨gb225, 1, none⟩ (.int .i64 (wrap64 (a0_1 + 1)))) w.heap.size (fun k_ => ((P0_2_ k_ ∨ P0_3_ k_) ∨ w.heap.size ≤ k_) ∧ some k_ ≠ (.slice Ao102 t234.length co102 : Value).ownBlock ∧ some k_ ≠ (.slice Ao101 t242.length co101 : Value).ownBlock ∧ some k_ ≠ (.slice Ao115 t269.length co115 : Value).ownBlock ∧ some k_ ≠ (.slice Ao117 t277.length co117 : Value).ownBlock ∧ k_ ≠ gb225 ∧ k_ ≠ gb226 ∧ k_ ≠ gb227 ∧ k_ ≠ gb245) (.slice (some ad263) l0_2.length c0_2) l0_2) := ⟨by (with_reducible repeat (first | apply Kd.V_alloc | apply Kd.V_drewN | apply Kd.V_drew)); exact Kd.V_mono (Kd.V_far (p := ⟨gb225, 1, none⟩) (Kd.V_far (p := ⟨gb225, 3, none⟩) (Kd.V_far (p := ⟨gb225, 2, none⟩) (Kd.V_mono HO_226002.out (fun k_ hk => (⟨hk, hk.1.1.2.2.2.1⟩ : _ ∧ k_ ≠ gb225))) (fun _ hk => hk.2) (.slice Ao115 t269.length co115)) (fun _ hk => hk.2) (.slice Ao117 t277.length co117)) (fun _ hk => hk.2) (.int .i64 (wrap64 (a0_1 + 1)))) (fun _ hk => ⟨hk.1.1.1.1, ⟨hk.1.1.1.2.1, ⟨hk.1.1.1.2.2.1, ⟨hk.1.1.2, ⟨hk.1.2, ⟨hk.1.1.1.2.2.2.1, ⟨hk.1.1.1.2.2.2.2.1, ⟨hk.1.1.1.2.2.2.2.2.1, hk.1.1.1.2.2.2.2.2.2⟩⟩⟩⟩⟩⟩⟩⟩)⟩
           have n1_ : Aside0 (Kd.V k33 33 (((w114.setCell ⟨gb225, 2, none⟩ (.slice Ao115 t269.length co115)).setCell ⟨gb225, 3, none⟩ (.slice Ao117 t277.length co117)).setCell ⟨gb225, 1, none⟩ (.int .i64 (wrap64 (a0_1 + 1)))) w.heap.size (fun k_ => ((P0_2_ k_ ∨ P0_3_ k_) ∨ w.heap.size ≤ k_) ∧ some k_ ≠ (.slice Ao102 t234.length co102 : Value).ownBlock ∧ some k_ ≠ (.slice Ao101 t242.length co101 : Value).ownBlock ∧ some k_ ≠ (.slice Ao115 t269.length co115 : Value).ownBlock ∧ some k_ ≠ (.slice Ao117 t277.length co117 : Value).ownBlock ∧ k_ ≠ gb225 ∧ k_ ≠ gb226 ∧ k_ ≠ gb227 ∧ k_ ≠ gb245) (.slice A0_3 l0_3.length c0_3) l0_3) := ⟨by (with_reducible repeat (first | apply Kd.V_alloc | apply Kd.V_drewN | apply Kd.V_drew)); exact Kd.V_mono (Kd.V_far (p := ⟨gb225, 1, none⟩) (Kd.V_far (p := ⟨gb225, 3, none⟩) (Kd.V_far (p := ⟨gb225, 2, none⟩) (Kd.V_mono HO_226003.out (fun k_ hk => (⟨hk, hk.1.1.2.2.2.1⟩ : _ ∧ k_ ≠ gb225))) (fun _ hk => hk.2) (.slice Ao115 t269.length co115)) (fun _ hk => hk.2) (.slice Ao117 t277.length co117)) (fun _ hk => hk.2) (.int .i64 (wrap64 (a0_1 + 1)))) (fun _ hk => ⟨hk.1.1.1.1, ⟨hk.1.1.1.2.1, ⟨hk.1.1.1.2.2.1, ⟨hk.1.1.2, ⟨hk.1.2, ⟨hk.1.1.1.2.2.2.1, ⟨hk.1.1.1.2.2.2.2.1, ⟨hk.1.1.1.2.2.2.2.2.1, hk.1.1.1.2.2.2.2.2.2⟩⟩⟩⟩⟩⟩⟩⟩)⟩
           have n2_ : Aside0 (Kd.V Kd.string 9 (((w114.setCell ⟨gb225, 2, none⟩ (.slice Ao115 t269.length co115)).setCell ⟨gb225, 3, none⟩ (.slice Ao117 t277.length co117)).setCell ⟨gb225, 1, none⟩ (.int .i64 (wrap64 (a0_1 + 1)))) w.heap.size (fun k_ => ((P0_2_ k_ ∨ P0_3_ k_) ∨ w.heap.size ≤ k_) ∧ some k_ ≠ (.slice Ao102 t234.length co102 : Value).ownBlock ∧ some k_ ≠ (.slice Ao101 t242.length co101 : Value).ownBlock ∧ some k_ ≠ (.slice Ao115 t269.length co115 : Value).ownBlock ∧ some k_ ≠ (.slice Ao117 t277.length co117 : Value).ownBlock ∧ k_ ≠ gb225 ∧ k_ ≠ gb226 ∧ k_ ≠ gb227 ∧ k_ ≠ gb245) (.slice A93 y229.length c93) y229) := ⟨by (with_reducible repeat (first | apply Kd.V_alloc | apply Kd.V_drewN | apply Kd.V_drew)); exact Kd.V_mono (Kd.V_far (p := ⟨gb225, 1, none⟩) (Kd.V_far (p := ⟨gb225, 3, none⟩) (Kd.V_far (p := ⟨gb225, 2, none⟩) (Kd.V_mono HO233.out (fun k_ hk => (⟨hk, hk.1.1.2.2.2.1⟩ : _ ∧ k_ ≠ gb225))) (fun _ hk => hk.2) (.slice Ao115 t269.length co115)) (fun _ hk => hk.2) (.slice Ao117 t277.length co117)) (fun _ hk => hk.2) (.int .i64 (wrap64 (a0_1 + 1)))) (fun _ hk => ⟨hk.1.1.1.1, ⟨hk.1.1.1.2.1, ⟨hk.1.1.1.2.2.1, ⟨hk.1.1.2, ⟨hk.1.2, ⟨hk.1.1.1.2.2.2.1, ⟨hk.1.1.1.2.2.2.2.1, ⟨hk.1.1.1.2.2.2.2.2.1, hk.1.1.1.2.2.2.2.2.2⟩⟩⟩⟩⟩⟩⟩⟩)⟩
           have n3_ : Aside0 (Kd.V k33 33 (((w114.setCell ⟨gb225, 2, none⟩ (.slice Ao115 t269.length co115)).setCell ⟨gb225, 3, none⟩ (.slice Ao117 t277.length co117)).setCell ⟨gb225, 1, none⟩ (.int .i64 (wrap64 (a0_1 + 1)))) w.heap.size (fun k_ => ((P0_2_ k_ ∨ P0_3_ k_) ∨ w.heap.size ≤ k_) ∧ some k_ ≠ (.slice Ao102 t234.length co102 : Value).ownBlock ∧ some k_ ≠ (.slice Ao101 t242.length co101 : Value).ownBlock ∧ some k_ ≠ (.slice Ao115 t269.length co115 : Value).ownBlock ∧ some k_ ≠ (.slice Ao117 t277.length co117 : Value).ownBlock ∧ k_ ≠ gb225 ∧ k_ ≠ gb226 ∧ k_ ≠ gb227 ∧ k_ ≠ gb245) (.slice A94 y237.length c94) y237) := ⟨by (with_reducible repeat (first | apply Kd.V_alloc | apply Kd.V_drewN | apply Kd.V_drew)); exact Kd.V_mono (Kd.V_far (p := ⟨gb225, 1, none⟩) (Kd.V_far (p := ⟨gb225, 3, none⟩) (Kd.V_far (p := ⟨gb225, 2, none⟩) (Kd.V_mono HO241.out (fun k_ hk => (⟨hk, hk.1.1.2.2.2.1⟩ : _ ∧ k_ ≠ gb225))) (fun _ hk => hk.2) (.slice Ao115 t269.length co115)) (fun _ hk => hk.2) (.slice Ao117 t277.length co117)) (fun _ hk => hk.2) (.int .i64 (wrap64 (a0_1 + 1)))) (fun _ hk => ⟨hk.1.1.1.1, ⟨hk.1.1.1.2.1, ⟨hk.1.1.1.2.2.1, ⟨hk.1.1.2, ⟨hk.1.2, ⟨hk.1.1.1.2.2.2.1, ⟨hk.1.1.1.2.2.2.2.1, ⟨hk.1.1.1.2.2.2.2.2.1, hk.1.1.1.2.2.2.2.2.2⟩⟩⟩⟩⟩⟩⟩⟩)⟩
           have n4_ : Aside0 (Kd.R Kd.string 9 (((w114.setCell ⟨gb225, 2, none⟩ (.slice Ao115 t269.length co115)).setCell ⟨gb225, 3, none⟩ (.slice Ao117 t277.length co117)).setCell ⟨gb225, 1, none⟩ (.int .i64 (wrap64 (a0_1 + 1)))) w.heap.size (fun k_ => (w.heap.size ≤ k_) ∧ some k_ ≠ (.slice Ao115 t269.length co115 : Value).ownBlock) (.slice Ao102 t234.length co102) t234) := ⟨by (with_reducible repeat (first | apply Kd.R_alloc | apply Kd.R_drewN | apply Kd.R_drew)); exact Kd.R_mono (Kd.R_far (p := ⟨gb225, 1, none⟩) (Kd.R_far (p := ⟨gb225, 3, none⟩) (Kd.R_far (p := ⟨gb225, 2, none⟩) (Kd.R_types HO236.out BK225.out (by decide)) (fun _ hk => hk.2) (.slice Ao115 t269.length co115)) (fun _ hk => hk.2) (.slice Ao117 t277.length co117)) (fun _ hk => hk.2) (.int .i64 (wrap64 (a0_1 + 1)))) (fun _ hk => ⟨hk.1.1, hk.1.2⟩)⟩
           have n5_ : Aside0 (Kd.R k33 33 (((w114.setCell ⟨gb225, 2, none⟩ (.slice Ao115 t269.length co115)).setCell ⟨gb225, 3, none⟩ (.slice Ao117 t277.length co117)).setCell ⟨gb225, 1, none⟩ (.int .i64 (wrap64 (a0_1 + 1)))) w.heap.size (fun k_ => (w.heap.size ≤ k_) ∧ some k_ ≠ (.slice Ao117 t277.length co117 : Value).ownBlock) (.slice Ao101 t242.length co101) t242) := ⟨by (with_reducible repeat (first | apply Kd.R_alloc | apply Kd.R_drewN | apply Kd.R_drew)); exact Kd.R_mono (Kd.R_far (p := ⟨gb225, 1, none⟩) (Kd.R_far (p := ⟨gb225, 3, none⟩) (Kd.R_far (p := ⟨gb225, 2, none⟩) (Kd.R_types HO244.out BK225.out (by decide)) (fun _ hk => hk.2) (.slice Ao115 t269.length co115)) (fun _ hk => hk.2) (.slice Ao117 t277.length co117)) (fun _ hk => hk.2) (.int .i64 (wrap64 (a0_1 + 1)))) (fun _ hk => ⟨hk.1.1, hk.1.2⟩)⟩
           have n6_ : Aside0 (Kd.V Kd.string 9 (((w114.setCell ⟨gb225, 2, none⟩ (.slice Ao115 t269.length co115)).setCell ⟨gb225, 3, none⟩ (.slice Ao117 t277.length co117)).setCell ⟨gb225, 1, none⟩ (.int .i64 (wrap64 (a0_1 + 1)))) w.heap.size (fun k_ => ((P0_2_ k_ ∨ P0_3_ k_) ∨ w.heap.size ≤ k_) ∧ some k_ ≠ (.slice Ao102 t234.length co102 : Value).ownBlock ∧ some k_ ≠ (.slice Ao101 t242.length co101 : Value).ownBlock ∧ some k_ ≠ (.slice Ao115 t269.length co115 : Value).ownBlock ∧ some k_ ≠ (.slice Ao117 t277.length co117 : Value).ownBlock ∧ k_ ≠ gb225 ∧ k_ ≠ gb226 ∧ k_ ≠ gb227 ∧ k_ ≠ gb245) (.slice (some ad263) y264.length c0_2) y264) := ⟨by (with_reducible repeat (first | apply Kd.V_alloc | apply Kd.V_drewN | apply Kd.V_drew)); exact Kd.V_mono (Kd.V_far (p := ⟨gb225, 1, none⟩) (Kd.V_far (p := ⟨gb225, 3, none⟩) (Kd.V_far (p := ⟨gb225, 2, none⟩) (Kd.V_mono HO268.out (fun k_ hk => (⟨hk, hk.1.1.2.2.2.1⟩ : _ ∧ k_ ≠ gb225))) (fun _ hk => hk.2) (.slice Ao115 t269.length co115)) (fun _ hk => hk.2) (.slice Ao117 t277.length co117)) (fun _ hk => hk.2) (.int .i64 (wrap64 (a0_1 + 1)))) (fun _ hk => ⟨hk.1.1.1.1, ⟨hk.1.1.1.2.1, ⟨hk.1.1.1.2.2.1, ⟨hk.1.1.2, ⟨hk.1.2, ⟨hk.1.1.1.2.2.2.1, ⟨hk.1.1.1.2.2.2.2.1, ⟨hk.1.1.1.2.2.2.2.2.1, hk.1.1.1.2.2.2.2.2.2⟩⟩⟩⟩⟩⟩⟩⟩)⟩
           have n7_ : Aside0 (Kd.V k33 33 (((w114.setCell ⟨gb225, 2, none⟩ (.slice Ao115 t269.length co115)).setCell ⟨gb225, 3, none⟩ (.slice Ao117 t277.length co117)).setCell ⟨gb225, 1, none⟩ (.int .i64 (wrap64 (a0_1 + 1)))) w.heap.size (fun k_ => ((P0_2_ k_ ∨ P0_3_ k_) ∨ w.heap.size ≤ k_) ∧ some k_ ≠ (.slice Ao102 t234.length co102 : Value).ownBlock ∧ some k_ ≠ (.slice Ao101 t242.length co101 : Value).ownBlock ∧ some k_ ≠ (.slice Ao115 t269.length co115 : Value).ownBlock ∧ some k_ ≠ (.slice Ao117 t277.length co117 : Value).ownBlock ∧ k_ ≠ gb225 ∧ k_ ≠ gb226 ∧ k_ ≠ gb227 ∧ k_ ≠ gb245) (.slice A0_3 y272.length c0_3) y272) := ⟨by (with_reducible repeat (first | apply Kd.V_alloc | apply Kd.V_drewN | apply Kd.V_drew)); exact Kd.V_mono (Kd.V_far (p := ⟨gb225, 1, none⟩) (Kd.V_far (p := ⟨gb225, 3, none⟩) (Kd.V_far (p := ⟨gb225, 2, none⟩) (Kd.V_mono HO276.out (fun k_ hk => (⟨hk, hk.1.1.2.2.2.1⟩ : _ ∧ k_ ≠ gb225))) (fun _ hk => hk.2) (.slice Ao115 t269.length co115)) (fun _ hk => hk.2) (.slice Ao117 t277.length co117)) (fun _ hk => hk.2) (.int .i64 (wrap64 (a0_1 + 1)))) (fun _ hk => ⟨hk.1.1.1.1, ⟨hk.1.1.1.2.1, ⟨hk.1.1.1.2.2.1, ⟨hk.1.1.2, ⟨hk.1.2, ⟨hk.1.1.1.2.2.2.1, ⟨hk.1.1.1.2.2.2.2.1, ⟨hk.1.1.1.2.2.2.2.2.1, hk.1.1.1.2.2.2.2.2.2⟩⟩⟩⟩⟩⟩⟩⟩)⟩
           have n8_ : Aside0 (Kd.R Kd.string 9 (((w114.setCell ⟨gb225, 2, none⟩ (.slice Ao115 t269.length co115)).setCell ⟨gb225, 3, none⟩ (.slice Ao117 t277.length co117)).setCell ⟨gb225, 1, none⟩ (.int .i64 (wrap64 (a0_1 + 1)))) w.heap.size (fun k_ => (w.heap.size ≤ k_) ∧ some k_ ≠ (.slice Ao102 t234.length co102 : Value).ownBlock) (.slice Ao115 t269.length co115) t269) := ⟨by (with_reducible repeat (first | apply Kd.R_alloc | apply Kd.R_drewN | apply Kd.R_drew)); exact Kd.R_mono (Kd.R_far (p := ⟨gb225, 1, none⟩) (Kd.R_far (p := ⟨gb225, 3, none⟩) (Kd.R_far (p := ⟨gb225, 2, none⟩) (Kd.R_types HO271.out BK225.out (by decide)) (fun _ hk => hk.2) (.slice Ao115 t269.length co115)) (fun _ hk => hk.2) (.slice Ao117 t277.length co117)) (fun _ hk => hk.2) (.int .i64 (wrap64 (a0_1 + 1)))) (fun _ hk => ⟨hk.1.1.1, hk.1.2⟩)⟩
           have n9_ : Aside0 (Kd.R k33 33 (((w114.setCell ⟨gb225, 2, none⟩ (.slice Ao115 t269.length co115)).setCell ⟨gb225, 3, none⟩ (.slice Ao117 t277.length co117)).setCell ⟨gb225, 1, none⟩ (.int .i64 (wrap64 (a0_1 + 1)))) w.heap.size (fun k_ => (w.heap.size ≤ k_) ∧ some k_ ≠ (.slice Ao101 t242.length co101 : Value).ownBlock) (.slice Ao117 t277.length co117) t277) := ⟨by (with_reducible repeat (first | apply Kd.R_alloc | apply Kd.R_drewN | apply Kd.R_drew)); exact Kd.R_mono (Kd.R_far (p := ⟨gb225, 1, none⟩) (Kd.R_far (p := ⟨gb225, 3, none⟩) (Kd.R_far (p := ⟨gb225, 2, none⟩) (Kd.R_types HO279.out BK225.out (by decide)) (fun _ hk => hk.2) (.slice Ao115 t269.length co115)) (fun _ hk => hk.2) (.slice Ao117 t277.length co117)) (fun _ hk => hk.2) (.int .i64 (wrap64 (a0_1 + 1)))) (fun _ hk => ⟨hk.1.1.1, hk.1.2⟩)⟩
           have n10_ : Aside0 ((((w114.setCell ⟨gb225, 2, none⟩ (.slice Ao115 t269.length co115)).setCell ⟨gb225, 3, none⟩ (.slice Ao117 t277.length co117)).setCell ⟨gb225, 1, none⟩ (.int .i64 (wrap64 (a0_1 + 1)))).heap[gb225]? = some (.cells #[.bool false, .int .i64 (wrap64 (a0_1 + 1)), .slice Ao115 t269.length co115, .slice Ao117 t277.length co117] 59 (0, 0))) := ⟨by (with_reducible repeat (first | refine blk_drewN ?_ _ | refine blk_drew ?_ | refine blk_alloc ?_ _)); refine blk_put (cs := #[.bool false, .int .i64 a0_1, .slice Ao115 t269.length co115, .slice Ao117 t277.length co117]) ?_ 1 _ rfl; (with_reducible repeat (first | refine blk_drewN ?_ _ | refine blk_drew ?_ | refine blk_alloc ?_ _)); refine blk_put (cs := #[.bool false, .int .i64 a0_1, .slice Ao115 t269.length co115, .slice A0_3 l0_3.length c0_3]) ?_ 3 _ rfl; (with_reducible repeat (first | refine blk_drewN ?_ _ | refine blk_drew ?_ | refine blk_alloc ?_ _)); refine blk_put (cs := #[.bool false, .int .i64 a0_1, .slice (some ad263) l0_2.length c0_2, .slice A0_3 l0_3.length c0_3]) ?_ 2 _ rfl; (with_reducible repeat (first | refine blk_drewN ?_ _ | refine blk_drew ?_ | refine blk_alloc ?_ _)); exact BK225.out⟩
           have n11_ : Aside0 ((((w114.setCell ⟨gb225, 2, none⟩ (.slice Ao115 t269.length co115)).setCell ⟨gb225, 3, none⟩ (.slice Ao117 t277.length co117)).setCell ⟨gb225, 1, none⟩ (.int .i64 (wrap64 (a0_1 + 1)))).heap[gb226]? = some (.cells #[.bool false, .int .i64 0, .slice none 0 0, .slice none 0 0] 59 (0, 0))) := ⟨by (with_reducible repeat (first | refine blk_drewN ?_ _ | refine blk_drew ?_ | refine blk_alloc ?_ _)); refine blk_far ?_ NB226_225.out _; (with_reducible repeat (first | refine blk_drewN ?_ _ | refine blk_drew ?_ | refine blk_alloc ?_ _)); refine blk_far ?_ NB226_225.out _; (with_reducible repeat (first | refine blk_drewN ?_ _ | refine blk_drew ?_ | refine blk_alloc ?_ _)); refine blk_far ?_ NB226_225.out _; (with_reducible repeat (first | refine blk_drewN ?_ _ | refine blk_drew ?_ | refine blk_alloc ?_ _)); exact BK226.out⟩
           have n12_ : Aside0 ((((w114.setCell ⟨gb225, 2, none⟩ (.slice Ao115 t269.length co115)).setCell ⟨gb225, 3, none⟩ (.slice Ao117 t277.length co117)).setCell ⟨gb225, 1, none⟩ (.int .i64 (wrap64 (a0_1 + 1)))).heap[gb227]? = some (.cells #[.bool false, .int .i64 0, .slice none 0 0, .slice none 0 0] 59 (0, 0))) := ⟨by (with_reducible repeat (first | refine blk_drewN ?_ _ | refine blk_drew ?_ | refine blk_alloc ?_ _)); refine blk_far ?_ NB227_225.out _; (with_reducible repeat (first | refine blk_drewN ?_ _ | refine blk_drew ?_ | refine blk_alloc ?_ _)); refine blk_far ?_ NB227_225.out _; (with_reducible repeat (first | refine blk_drewN ?_ _ | refine blk_drew ?_ | refine blk_alloc ?_ _)); refine blk_far ?_ NB227_225.out _; (with_reducible repeat (first | refine blk_drewN ?_ _ | refine blk_drew ?_ | refine blk_alloc ?_ _)); exact BK227.out⟩
           have n13_ : Aside0 ((((w114.setCell ⟨gb225, 2, none⟩ (.slice Ao115 t269.length co115)).setCell ⟨gb225, 3, none⟩ (.slice Ao117 t277.length co117)).setCell ⟨gb225, 1, none⟩ (.int .i64 (wrap64 (a0_1 + 1)))).heap[gb245]? = some (.cells #[.bool false, .int .i64 1, .slice Ao102 t234.length co102, .slice Ao101 t242.length co101] 59 (0, 0))) := ⟨by (with_reducible repeat (first | refine blk_drewN ?_ _ | refine blk_drew ?_ | refine blk_alloc ?_ _)); refine blk_far ?_ NB245_225.out _; (with_reducible repeat (first | refine blk_drewN ?_ _ | refine blk_drew ?_ | refine blk_alloc ?_ _)); refine blk_far ?_ NB245_225.out _; (with_reducible repeat (first | refine blk_drewN ?_ _ | refine blk_drew ?_ | refine blk_alloc ?_ _)); refine blk_far ?_ NB245_225.out _; (with_reducible repeat (first | refine blk_drewN ?_ _ | refine blk_drew ?_ | refine blk_alloc ?_ _)); exact BK245.out⟩
           have n14_ : Aside0 (Below w.heap.size w (((w114.setCell ⟨gb225, 2, none⟩ (.slice Ao115 t269.length co115)).setCell ⟨gb225, 3, none⟩ (.slice Ao117 t277.length co117)).setCell ⟨gb225, 1, none⟩ (.int .i64 (wrap64 (a0_1 + 1))))) := ⟨by repeat (first | (with_reducible first | exact HB.out | apply below_alloc | apply pw_below_drewN | apply below_drew1 | refine below_set ?_ GE225.out | refine below_set ?_ GE226.out | refine below_set ?_ GE227.out | refine below_set ?_ GE245.out) | exact HB.out)⟩
           (try clear HO_226002)
           (try clear HO_226003)
           (try clear HO233)
           (try clear HO241)
           (try clear HO236)
           (try clear HO244)
           (try clear HO268)
           (try clear HO276)
           (try clear HO271)
           (try clear HO279)
           (try clear BK225)
           (try clear BK226)
           (try clear BK227)
           (try clear BK245)
           (try clear HB)
           generalize (((w114.setCell ⟨gb225, 2, none⟩ (.slice Ao115 t269.length co115)).setCell ⟨gb225, 3, none⟩ (.slice Ao117 t277.length co117)).setCell ⟨gb225, 1, none⟩ (.int .i64 (wrap64 (a0_1 + 1)))) = w120 at n0_ n1_ n2_ n3_ n4_ n5_ n6_ n7_ n8_ n9_ n10_ n11_ n12_ n13_ n14_ ⊢
           have HO_226002 := n0_
           have HO_226003 := n1_
           have HO233 := n2_
           have HO241 := n3_
           have HO236 := n4_
           have HO244 := n5_
           have HO268 := n6_
           have HO276 := n7_
           have HO271 := n8_
           have HO279 := n9_
           have BK225 := n10_
           have BK226 := n11_
           have BK227 := n12_
           have BK245 := n13_
           have HB := n14_
           clear n0_ n1_ n2_ n3_ n4_ n5_ n6_ n7_ n8_ n9_ n10_ n11_ n12_ n13_ n14_
           have n0_ := Aside0.mk (Kd.V_drew HO_226002.out)
           have n1_ := Aside0.mk (Kd.V_drew HO_226003.out)
           have n2_ := Aside0.mk (Kd.V_drew HO233.out)
           have n3_ := Aside0.mk (Kd.V_drew HO241.out)
           have n4_ := Aside0.mk (Kd.R_drew HO236.out)
           have n5_ := Aside0.mk (Kd.R_drew HO244.out)
           have n6_ := Aside0.mk (Kd.V_drew HO268.out)
           have n7_ := Aside0.mk (Kd.V_drew HO276.out)
           have n8_ := Aside0.mk (Kd.R_drew HO271.out)
           have n9_ := Aside0.mk (Kd.R_drew HO279.out)
           have n10_ := Aside0.mk (blk_drew BK225.out)
           have n11_ := Aside0.mk (blk_drew BK226.out)
           have n12_ := Aside0.mk (blk_drew BK227.out)
           have n13_ := Aside0.mk (blk_drew BK245.out)
           have n14_ := Aside0.mk (below_drew1 HB.out)
           clear HO_226002
           clear HO_226003
           clear HO233
           clear HO241
           clear HO236
           clear HO244
           clear HO268
           clear HO276
           clear HO271
           clear HO279
           clear BK225
           clear BK226
           clear BK227
           clear BK245
           clear HB
           have HO_226002 := n0_
           have HO_226003 := n1_
           have HO233 := n2_
           have HO241 := n3_
           have HO236 := n4_
           have HO244 := n5_
           have HO268 := n6_
           have HO276 := n7_
           have HO271 := n8_
           have HO279 := n9_
           have BK225 := n10_
           have BK226 := n11_
           have BK227 := n12_
           have BK245 := n13_
           have HB := n14_
           clear n0_ n1_ n2_ n3_ n4_ n5_ n6_ n7_ n8_ n9_ n10_ n11_ n12_ n13_ n14_
           refine start_ (n := 6) (S := fun w' => w'.cell? ⟨gb225, 0, none⟩ = some (.bool false) ∧ w'.cell? ⟨gb225, 1, none⟩ = some (.int .i64 (wrap64 (a0_1 + 1))) ∧ w'.cell? ⟨gb225, 2, none⟩ = some (.slice Ao115 t269.length co115) ∧ w'.cell? ⟨gb225, 3, none⟩ = some (.slice Ao117 t277.length co117) ∧ w'.cell? ⟨gb245, 0, none⟩ = some (.bool false) ∧ w'.cell? ⟨gb245, 1, none⟩ = some (.int .i64 1) ∧ w'.cell? ⟨gb245, 2, none⟩ = some (.slice Ao102 t234.length co102) ∧ w'.cell? ⟨gb245, 3, none⟩ = some (.slice Ao101 t242.length co101)) (ds := []) #[false, false, false, false, false, false] (by kernel_rfl) rfl rfl ⟨(blk_cell BK225.out 0).trans rfl, (blk_cell BK225.out 1).trans rfl, (blk_cell BK225.out 2).trans rfl, (blk_cell BK225.out 3).trans rfl, (blk_cell BK245.out 0).trans rfl, (blk_cell BK245.out 1).trans rfl, (blk_cell BK245.out 2).trans rfl, (blk_cell BK245.out 3).trans rfl⟩ (fun hHeld => ?_)
           generalize w120.drew = w121 at HO_226002 HO_226003 HO233 HO241 HO236 HO244 HO268 HO276 HO271 HO279 BK225 BK226 BK227 BK245 HB hHeld ⊢
           refine pure_ (i := 1) (N := some 69) (v := ?_) (a' := ?_) #[false, true, false, false, false, false] rfl rfl (by kernel_rfl) (fun _ _ _ h => h) (Or.inl ⟨by rfl, ?_⟩) ?_ ?_
           rotate_left
           ·intro w'
            go_simp
            with_reducible rfl
           rotate_left
           ·simp only [Act.put, List.setIfInBounds_toArray, List.set_cons_zero, List.set_cons_succ, i64_w, i32_w]
            rfl
           refine take_ (i := 0) (N := some 68) (v := ?_) (a' := ?_) #[true, true, false, false, false, false] rfl rfl (by kernel_rfl) (fun _ _ _ h => h) (Or.inl ⟨by rfl, ?_⟩) hHeld ?_ ?_
           rotate_left
           ·rintro w' ⟨s0, s1, s2, s3, s4, s5, s6, s7⟩
            go_simp
            with_reducible rfl
           rotate_left
           ·simp only [Act.put, List.setIfInBounds_toArray, List.set_cons_zero, List.set_cons_succ, i64_w, i32_w]
            rfl
           refine take_ (i := 2) (N := some 70) (v := ?_) (a' := ?_) #[true, true, true, false, false, false] rfl rfl (by kernel_rfl) (fun _ _ _ h => h) (Or.inl ⟨by rfl, ?_⟩) hHeld ?_ ?_
           rotate_left
           ·rintro w' ⟨s0, s1, s2, s3, s4, s5, s6, s7⟩
            go_simp
            with_reducible rfl
           rotate_left
           ·simp only [Act.put, List.setIfInBounds_toArray, List.set_cons_zero, List.set_cons_succ, i64_w, i32_w]
            rfl
           refine one_ (i := 3) (N := none) #[true, true, true, true, false, false] rfl rfl (by kernel_rfl) (by decide) (fun K hK => ?_)
           have hs122 : w121.cell? ⟨gb226, 0, none⟩ = some (.bool false) := (blk_cell BK226.out 0).trans rfl
           have hfs122 := blk_frozen BK226.out 0
           have hns122_0 := NB225_226.out
           have hns122_2 := NB227_226.out
           have hns122_3 := NB245_226.out
           have hms122_0 := NB226_225.out
           have hms122_2 := NB226_227.out
           have hms122_3 := NB226_245.out
           have hs123 : w121.cell? ⟨gb226, 1, none⟩ = some (.int .i64 0) := (blk_cell BK226.out 1).trans rfl
           have hfs123 := blk_frozen BK226.out 1
           have hns123_0 := NB225_226.out
           have hns123_2 := NB227_226.out
           have hns123_3 := NB245_226.out
           have hms123_0 := NB226_225.out
           have hms123_2 := NB226_227.out
           have hms123_3 := NB226_245.out
           have hs124 : w121.cell? ⟨gb226, 2, none⟩ = some (.slice none 0 0) := (blk_cell BK226.out 2).trans rfl
           have hfs124 := blk_frozen BK226.out 2
           have hns124_0 := NB225_226.out
           have hns124_2 := NB227_226.out
           have hns124_3 := NB245_226.out
           have hms124_0 := NB226_225.out
           have hms124_2 := NB226_227.out
           have hms124_3 := NB226_245.out
           have hs125 : w121.cell? ⟨gb226, 3, none⟩ = some (.slice none 0 0) := (blk_cell BK226.out 3).trans rfl
           have hfs125 := blk_frozen BK226.out 3
           have hns125_0 := NB225_226.out
           have hns125_2 := NB227_226.out
           have hns125_3 := NB245_226.out
           have hms125_0 := NB226_225.out
           have hms125_2 := NB226_227.out
           have hms125_3 := NB226_245.out
           refine skip_ (w1 := ?_) (by rfl) rfl ?_ ?_
           rotate_left
           ·go_simp
            rfl
           refine hK.out _ _ ⟨((cell_far (p := ⟨gb226, _, none⟩) NB225_226.out _).trans (((cell_far (p := ⟨gb226, _, none⟩) NB225_226.out _).trans (((cell_far (p := ⟨gb226, _, none⟩) NB225_226.out _).trans (((cell_far (p := ⟨gb226, _, none⟩) NB225_226.out _).trans (hHeld.1)))))))), ((cell_far (p := ⟨gb226, _, none⟩) NB225_226.out _).trans (((cell_far (p := ⟨gb226, _, none⟩) NB225_226.out _).trans (((cell_far (p := ⟨gb226, _, none⟩) NB225_226.out _).trans (((cell_far (p := ⟨gb226, _, none⟩) NB225_226.out _).trans (hHeld.2.1)))))))), ((cell_far (p := ⟨gb226, _, none⟩) NB225_226.out _).trans (((cell_far (p := ⟨gb226, _, none⟩) NB225_226.out _).trans (((cell_far (p := ⟨gb226, _, none⟩) NB225_226.out _).trans (((cell_far (p := ⟨gb226, _, none⟩) NB225_226.out _).trans (hHeld.2.2.1)))))))), ((cell_far (p := ⟨gb226, _, none⟩) NB225_226.out _).trans (((cell_far (p := ⟨gb226, _, none⟩) NB225_226.out _).trans (((cell_far (p := ⟨gb226, _, none⟩) NB225_226.out _).trans (((cell_far (p := ⟨gb226, _, none⟩) NB225_226.out _).trans (hHeld.2.2.2.1)))))))), ((cell_far (p := ⟨gb226, _, none⟩) NB245_226.out _).trans (((cell_far (p := ⟨gb226, _, none⟩) NB245_226.out _).trans (((cell_far (p := ⟨gb226, _, none⟩) NB245_226.out _).trans (((cell_far (p := ⟨gb226, _, none⟩) NB245_226.out _).trans (hHeld.2.2.2.2.1)))))))), ((cell_far (p := ⟨gb226, _, none⟩) NB245_226.out _).trans (((cell_far (p := ⟨gb226, _, none⟩) NB245_226.out _).trans (((cell_far (p := ⟨gb226, _, none⟩) NB245_226.out _).trans (((cell_far (p := ⟨gb226, _, none⟩) NB245_226.out _).trans (hHeld.2.2.2.2.2.1)))))))), ((cell_far (p := ⟨gb226, _, none⟩) NB245_226.out _).trans (((cell_far (p := ⟨gb226, _, none⟩) NB245_226.out _).trans (((cell_far (p := ⟨gb226, _, none⟩) NB245_226.out _).trans (((cell_far (p := ⟨gb226, _, none⟩) NB245_226.out _).trans (hHeld.2.2.2.2.2.2.1)))))))), ((cell_far (p := ⟨gb226, _, none⟩) NB245_226.out _).trans (((cell_far (p := ⟨gb226, _, none⟩) NB245_226.out _).trans (((cell_far (p := ⟨gb226, _, none⟩) NB245_226.out _).trans (((cell_far (p := ⟨gb226, _, none⟩) NB245_226.out _).trans (hHeld.2.2.2.2.2.2.2))))))))⟩ (fun hHeld => ?_)
           clear hK K
           refine pure_ (i := 4) (N := some 3) (v := ?_) (a' := ?_) #[true, true, true, true, true, false] rfl rfl (by kernel_rfl) (fun _ _ _ h => h) (Or.inl ⟨by rfl, ?_⟩) ?_ ?_
           rotate_left
           ·intro w'
            go_simp
            with_reducible rfl
           rotate_left
           ·simp only [Act.put, List.setIfInBounds_toArray, List.set_cons_zero, List.set_cons_succ, i64_w, i32_w]
            rfl
           refine one_ (i := 5) (N := none) #[true, true, true, true, true, true] rfl rfl (by kernel_rfl) (by decide) (fun K hK => ?_)
           have hs126 : w121.cell? ⟨gb227, 0, none⟩ = some (.bool false) := (blk_cell BK227.out 0).trans rfl
           have hfs126 := blk_frozen BK227.out 0
           have hns126_0 := NB225_227.out
           have hns126_1 := NB226_227.out
           have hns126_3 := NB245_227.out
           have hms126_0 := NB227_225.out
           have hms126_1 := NB227_226.out
           have hms126_3 := NB227_245.out
           have hs127 : w121.cell? ⟨gb227, 1, none⟩ = some (.int .i64 0) := (blk_cell BK227.out 1).trans rfl
           have hfs127 := blk_frozen BK227.out 1
           have hns127_0 := NB225_227.out
           have hns127_1 := NB226_227.out
           have hns127_3 := NB245_227.out
           have hms127_0 := NB227_225.out
           have hms127_1 := NB227_226.out
           have hms127_3 := NB227_245.out
           have hs128 : w121.cell? ⟨gb227, 2, none⟩ = some (.slice none 0 0) := (blk_cell BK227.out 2).trans rfl
           have hfs128 := blk_frozen BK227.out 2
           have hns128_0 := NB225_227.out
           have hns128_1 := NB226_227.out
           have hns128_3 := NB245_227.out
           have hms128_0 := NB227_225.out
           have hms128_1 := NB227_226.out
           have hms128_3 := NB227_245.out
           have hs129 : w121.cell? ⟨gb227, 3, none⟩ = some (.slice none 0 0) := (blk_cell BK227.out 3).trans rfl
           have hfs129 := blk_frozen BK227.out 3
           have hns129_0 := NB225_227.out
           have hns129_1 := NB226_227.out
           have hns129_3 := NB245_227.out
           have hms129_0 := NB227_225.out
           have hms129_1 := NB227_226.out
           have hms129_3 := NB227_245.out
           refine skip_ (w1 := ?_) (by rfl) rfl ?_ ?_
           rotate_left
           ·go_simp
            rfl
           refine hK.out _ _ ⟨((cell_far (p := ⟨gb227, _, none⟩) NB225_227.out _).trans (((cell_far (p := ⟨gb227, _, none⟩) NB225_227.out _).trans (((cell_far (p := ⟨gb227, _, none⟩) NB225_227.out _).trans (((cell_far (p := ⟨gb227, _, none⟩) NB225_227.out _).trans (hHeld.1)))))))), ((cell_far (p := ⟨gb227, _, none⟩) NB225_227.out _).trans (((cell_far (p := ⟨gb227, _, none⟩) NB225_227.out _).trans (((cell_far (p := ⟨gb227, _, none⟩) NB225_227.out _).trans (((cell_far (p := ⟨gb227, _, none⟩) NB225_227.out _).trans (hHeld.2.1)))))))), ((cell_far (p := ⟨gb227, _, none⟩) NB225_227.out _).trans (((cell_far (p := ⟨gb227, _, none⟩) NB225_227.out _).trans (((cell_far (p := ⟨gb227, _, none⟩) NB225_227.out _).trans (((cell_far (p := ⟨gb227, _, none⟩) NB225_227.out _).trans (hHeld.2.2.1)))))))), ((cell_far (p := ⟨gb227, _, none⟩) NB225_227.out _).trans (((cell_far (p := ⟨gb227, _, none⟩) NB225_227.out _).trans (((cell_far (p := ⟨gb227, _, none⟩) NB225_227.out _).trans (((cell_far (p := ⟨gb227, _, none⟩) NB225_227.out _).trans (hHeld.2.2.2.1)))))))), ((cell_far (p := ⟨gb227, _, none⟩) NB245_227.out _).trans (((cell_far (p := ⟨gb227, _, none⟩) NB245_227.out _).trans (((cell_far (p := ⟨gb227, _, none⟩) NB245_227.out _).trans (((cell_far (p := ⟨gb227, _, none⟩) NB245_227.out _).trans (hHeld.2.2.2.2.1)))))))), ((cell_far (p := ⟨gb227, _, none⟩) NB245_227.out _).trans (((cell_far (p := ⟨gb227, _, none⟩) NB245_227.out _).trans (((cell_far (p := ⟨gb227, _, none⟩) NB245_227.out _).trans (((cell_far (p := ⟨gb227, _, none⟩) NB245_227.out _).trans (hHeld.2.2.2.2.2.1)))))))), ((cell_far (p := ⟨gb227, _, none⟩) NB245_227.out _).trans (((cell_far (p := ⟨gb227, _, none⟩) NB245_227.out _).trans (((cell_far (p := ⟨gb227, _, none⟩) NB245_227.out _).trans (((cell_far (p := ⟨gb227, _, none⟩) NB245_227.out _).trans (hHeld.2.2.2.2.2.2.1)))))))), ((cell_far (p := ⟨gb227, _, none⟩) NB245_227.out _).trans (((cell_far (p := ⟨gb227, _, none⟩) NB245_227.out _).trans (((cell_far (p := ⟨gb227, _, none⟩) NB245_227.out _).trans (((cell_far (p := ⟨gb227, _, none⟩) NB245_227.out _).trans (hHeld.2.2.2.2.2.2.2))))))))⟩ (fun hHeld => ?_)
           clear hK K
           refine done_ (by kernel_rfl) ?_
           try go_wp2
           refine bodyPost_ret (results_list (rs := [.cell 2 59, .tmp 3, .cell 4 59]) rfl (by simp) (.cell gb226 59 #[.bool false, .int .i64 (wrap64 (a0_1 + 1)), .slice Ao115 t269.length co115, .slice Ao117 t277.length co117] (0, 0) _ rfl ?rk1 Try.underlying59 rfl (by kernel_rfl) (.tmp (.cell gb227 59 #[.bool false, .int .i64 1, .slice Ao102 t234.length co102, .slice Ao101 t242.length co101] (0, 0) _ rfl ?rk2 Try.underlying59 rfl (by kernel_rfl) .nil)))) rfl ?_
           case rk1 => (with_reducible repeat (first | refine blk_drewN ?_ _ | refine blk_drew ?_ | refine blk_alloc ?_ _)); refine blk_far ?_ NB226_227.out _; (with_reducible repeat (first | refine blk_drewN ?_ _ | refine blk_drew ?_ | refine blk_alloc ?_ _)); refine blk_far ?_ NB226_227.out _; (with_reducible repeat (first | refine blk_drewN ?_ _ | refine blk_drew ?_ | refine blk_alloc ?_ _)); refine blk_far ?_ NB226_227.out _; (with_reducible repeat (first | refine blk_drewN ?_ _ | refine blk_drew ?_ | refine blk_alloc ?_ _)); refine blk_far ?_ NB226_227.out _; (with_reducible repeat (first | refine blk_drewN ?_ _ | refine blk_drew ?_ | refine blk_alloc ?_ _)); refine blk_put (cs := #[.bool false, .int .i64 (wrap64 (a0_1 + 1)), .slice Ao115 t269.length co115, .slice none 0 0]) ?_ 3 _ rfl; (with_reducible repeat (first | refine blk_drewN ?_ _ | refine blk_drew ?_ | refine blk_alloc ?_ _)); refine blk_put (cs := #[.bool false, .int .i64 (wrap64 (a0_1 + 1)), .slice none 0 0, .slice none 0 0]) ?_ 2 _ rfl; (with_reducible repeat (first | refine blk_drewN ?_ _ | refine blk_drew ?_ | refine blk_alloc ?_ _)); refine blk_put (cs := #[.bool false, .int .i64 0, .slice none 0 0, .slice none 0 0]) ?_ 1 _ rfl; (with_reducible repeat (first | refine blk_drewN ?_ _ | refine blk_drew ?_ | refine blk_alloc ?_ _)); refine blk_put (cs := #[.bool false, .int .i64 0, .slice none 0 0, .slice none 0 0]) ?_ 0 _ rfl; (with_reducible repeat (first | refine blk_drewN ?_ _ | refine blk_drew ?_ | refine blk_alloc ?_ _)); exact BK226.out
           case rk2 => (with_reducible repeat (first | refine blk_drewN ?_ _ | refine blk_drew ?_ | refine blk_alloc ?_ _)); refine blk_put (cs := #[.bool false, .int .i64 1, .slice Ao102 t234.length co102, .slice none 0 0]) ?_ 3 _ rfl; (with_reducible repeat (first | refine blk_drewN ?_ _ | refine blk_drew ?_ | refine blk_alloc ?_ _)); refine blk_put (cs := #[.bool false, .int .i64 1, .slice none 0 0, .slice none 0 0]) ?_ 2 _ rfl; (with_reducible repeat (first | refine blk_drewN ?_ _ | refine blk_drew ?_ | refine blk_alloc ?_ _)); refine blk_put (cs := #[.bool false, .int .i64 0, .slice none 0 0, .slice none 0 0]) ?_ 1 _ rfl; (with_reducible repeat (first | refine blk_drewN ?_ _ | refine blk_drew ?_ | refine blk_alloc ?_ _)); refine blk_put (cs := #[.bool false, .int .i64 0, .slice none 0 0, .slice none 0 0]) ?_ 0 _ rfl; (with_reducible repeat (first | refine blk_drewN ?_ _ | refine blk_drew ?_ | refine blk_alloc ?_ _)); refine blk_far ?_ NB227_226.out _; (with_reducible repeat (first | refine blk_drewN ?_ _ | refine blk_drew ?_ | refine blk_alloc ?_ _)); refine blk_far ?_ NB227_226.out _; (with_reducible repeat (first | refine blk_drewN ?_ _ | refine blk_drew ?_ | refine blk_alloc ?_ _)); refine blk_far ?_ NB227_226.out _; (with_reducible repeat (first | refine blk_drewN ?_ _ | refine blk_drew ?_ | refine blk_alloc ?_ _)); refine blk_far ?_ NB227_226.out _; (with_reducible repeat (first | refine blk_drewN ?_ _ | refine blk_drew ?_ | refine blk_alloc ?_ _)); exact BK227.out
           refine ⟨_, _, _, _, by first | rfl | (simp [errW_none, errW_some] <;> rfl) | (simp only [← hji24, ← hji80]; first | rfl | (simp [errW_none, errW_some] <;> rfl)) | (simp [*, errW_none, errW_some] <;> rfl), ?_, ?_, ?_, ?_, ?_⟩
           ·refine Kd.R_V (base := w.heap.size) ?_
            (with_reducible repeat (first | apply Kd.R_alloc | apply Kd.R_drewN | apply Kd.R_drew))
            exact Kd.R_mono (Kd.R_far (p := ⟨gb227, 3, none⟩) (Kd.R_far (p := ⟨gb227, 2, none⟩) (Kd.R_far (p := ⟨gb227, 1, none⟩) (Kd.R_far (p := ⟨gb227, 0, none⟩) (Kd.R_far (p := ⟨gb226, 3, none⟩) (Kd.R_far (p := ⟨gb226, 2, none⟩) (Kd.R_far (p := ⟨gb226, 1, none⟩) (Kd.R_far (p := ⟨gb226, 0, none⟩) (Kd.R_types (Kd.R_types (Kd.R_apart' HO271.out (Kd.R_typed HO244.out) (by decide)) BK226.out (by decide)) BK227.out (by decide)) (fun _ hk => hk.1.2) (.bool false)) (fun _ hk => hk.1.2) (.int .i64 (wrap64 (a0_1 + 1)))) (fun _ hk => hk.1.2) (.slice Ao115 t269.length co115)) (fun _ hk => hk.1.2) (.slice Ao117 t277.length co117)) (fun _ hk => hk.2) (.bool false)) (fun _ hk => hk.2) (.int .i64 1)) (fun _ hk => hk.2) (.slice Ao102 t234.length co102)) (fun _ hk => hk.2) (.slice Ao101 t242.length co101)) (fun _ hk => ⟨.inr (hk.1.1.1.1), ⟨hk.1.1.1.2, hk.1.1.2⟩⟩)
           ·refine Kd.R_V (base := w.heap.size) ?_
            (with_reducible repeat (first | apply Kd.R_alloc | apply Kd.R_drewN | apply Kd.R_drew))
            exact Kd.R_mono (Kd.R_far (p := ⟨gb227, 3, none⟩) (Kd.R_far (p := ⟨gb227, 2, none⟩) (Kd.R_far (p := ⟨gb227, 1, none⟩) (Kd.R_far (p := ⟨gb227, 0, none⟩) (Kd.R_far (p := ⟨gb226, 3, none⟩) (Kd.R_far (p := ⟨gb226, 2, none⟩) (Kd.R_far (p := ⟨gb226, 1, none⟩) (Kd.R_far (p := ⟨gb226, 0, none⟩) (Kd.R_types (Kd.R_types (Kd.R_apart' HO279.out (Kd.R_typed HO236.out) (by decide)) BK226.out (by decide)) BK227.out (by decide)) (fun _ hk => hk.1.2) (.bool false)) (fun _ hk => hk.1.2) (.int .i64 (wrap64 (a0_1 + 1)))) (fun _ hk => hk.1.2) (.slice Ao115 t269.length co115)) (fun _ hk => hk.1.2) (.slice Ao117 t277.length co117)) (fun _ hk => hk.2) (.bool false)) (fun _ hk => hk.2) (.int .i64 1)) (fun _ hk => hk.2) (.slice Ao102 t234.length co102)) (fun _ hk => hk.2) (.slice Ao101 t242.length co101)) (fun _ hk => ⟨.inr (hk.1.1.1.1), ⟨hk.1.1.2, hk.1.1.1.2⟩⟩)
           ·(with_reducible repeat (first | apply Kd.R_alloc | apply Kd.R_drewN | apply Kd.R_drew)); exact Kd.R_mono (Kd.R_far (p := ⟨gb227, 3, none⟩) (Kd.R_far (p := ⟨gb227, 2, none⟩) (Kd.R_far (p := ⟨gb227, 1, none⟩) (Kd.R_far (p := ⟨gb227, 0, none⟩) (Kd.R_far (p := ⟨gb226, 3, none⟩) (Kd.R_far (p := ⟨gb226, 2, none⟩) (Kd.R_far (p := ⟨gb226, 1, none⟩) (Kd.R_far (p := ⟨gb226, 0, none⟩) (Kd.R_types (Kd.R_types HO236.out BK226.out (by decide)) BK227.out (by decide)) (fun _ hk => hk.1.2) (.bool false)) (fun _ hk => hk.1.2) (.int .i64 (wrap64 (a0_1 + 1)))) (fun _ hk => hk.1.2) (.slice Ao115 t269.length co115)) (fun _ hk => hk.1.2) (.slice Ao117 t277.length co117)) (fun _ hk => hk.2) (.bool false)) (fun _ hk => hk.2) (.int .i64 1)) (fun _ hk => hk.2) (.slice Ao102 t234.length co102)) (fun _ hk => hk.2) (.slice Ao101 t242.length co101)) (fun _ hk => hk.1.1.1)
           ·(with_reducible repeat (first | apply Kd.R_alloc | apply Kd.R_drewN | apply Kd.R_drew)); exact Kd.R_mono (Kd.R_far (p := ⟨gb227, 3, none⟩) (Kd.R_far (p := ⟨gb227, 2, none⟩) (Kd.R_far (p := ⟨gb227, 1, none⟩) (Kd.R_far (p := ⟨gb227, 0, none⟩) (Kd.R_far (p := ⟨gb226, 3, none⟩) (Kd.R_far (p := ⟨gb226, 2, none⟩) (Kd.R_far (p := ⟨gb226, 1, none⟩) (Kd.R_far (p := ⟨gb226, 0, none⟩) (Kd.R_types (Kd.R_types HO244.out BK226.out (by decide)) BK227.out (by decide)) (fun _ hk => hk.1.2) (.bool false)) (fun _ hk => hk.1.2) (.int .i64 (wrap64 (a0_1 + 1)))) (fun _ hk => hk.1.2) (.slice Ao115 t269.length co115)) (fun _ hk => hk.1.2) (.slice Ao117 t277.length co117)) (fun _ hk => hk.2) (.bool false)) (fun _ hk => hk.2) (.int .i64 1)) (fun _ hk => hk.2) (.slice Ao102 t234.length co102)) (fun _ hk => hk.2) (.slice Ao101 t242.length co101)) (fun _ hk => hk.1.1.1)
           ·repeat (first | (with_reducible first | exact HB.out | apply below_alloc | apply pw_below_drewN | apply below_drew1 | refine below_set ?_ GE225.out | refine below_set ?_ GE226.out | refine below_set ?_ GE227.out | refine below_set ?_ GE245.out) | exact HB.out)
          ·rw [if_neg c84] at H
           exact absurd H (by simp)
         ·rw [if_neg c82] at H
          exact absurd H (by simp)
        ·rw [if_neg c81] at H
         exact absurd H (by simp)
      ·rw [if_neg c29] at H
       exact absurd H (by simp)
     ·rw [if_neg c26] at H
      exact absurd H (by simp)
    ·rw [if_neg c25] at H
     exact absurd H (by simp)


end Go.Proofs.Ytglbcfkmaamhaaa.PNode

