/- A text of this claim: parts BsN BsK Opens. No condition. -/
import Derived.Test.YtglbcfkmaamhaaaEG21
import Derived.Test.YtglbcfkmaamhaaaEG0
import Derived.OpenShut
import Derived.ChangeArms
import Derived.Deep.Slices
import Derived.WideShapes
set_option linter.unusedVariables false
set_option linter.unusedSimpArgs false
set_option maxHeartbeats 16000000
set_option maxRecDepth 100000
namespace Go.Proofs.Ytglbcfkmaamhaaa.Bs
open Go Go.RowKit Go.Proofs.YtglbcfkmaamhaaaW.PrintWords Go.Proofs.YtglbcfkmaamhaaaW.PrintLast Go.Proofs.YtglbcfkmaamhaaaW.PrintMore Go.Proofs.Ytglbcfkmaamhaaa.Hv Go.Proofs.Ytglbcfkmaamhaaa.Arm Go.Proofs.Ytglbcfkmaamhaaa.Nd Go.Proofs.Ytglbcfkmaamhaaa.Tr
section
variable {w0 w w1 : World} {L L' R : List Ob} {t : Tm} {s : Ar} {f : Int} {on : Value} {J : Jx}
theorem findNil.calls (w : World) (key : ByteArray) : Calls Try.prog 78 #[.pointer none, .string key] w fun e w' => e = .returned (.tuple #[.agg #[.int .i64 0, .int .i64 0], .bool false, .agg #[.int .i64 0, .int .i64 0, .int .i64 0]]) ∧ Below w.heap.size w w' := by
 have hu33 := Try.underlying33
 have hu85 := Try.underlying85
 have hu116 := Try.underlying116
 have hu126 := Try.underlying126
 have hu189 := Try.underlying189
 have H1 := As (Hv.start w)
 go_enter Try.func78, Try.ntmps78
 go_wp2_with fail
 exact bodyPost_ret (v := .tuple #[.agg #[.int .i64 0, .int .i64 0], .bool false, .agg #[.int .i64 0, .int .i64 0, .int .i64 0]]) (by simp [results, Try.results78, go_sem, hu33, hu85, hu126]) rfl ⟨rfl, (by repeat (first | exact Below.refl _ _ | exact H1.out.bel | apply pw_below_drewN | apply below_drew1 | apply below_alloc | (refine Below.setCell ?_ (by simp) _)))⟩
theorem leafNil.calls (w : World) (key : ByteArray) : Calls Try.prog 87 #[.pointer none, .string key] w fun e w' => e = .returned (.tuple #[.agg #[.int .i64 0, .int .i64 0, .int .i64 0], .slice none 0 0, .string ⟨#[]⟩]) ∧ Below w.heap.size w w' := by
 have hu33 := Try.underlying33
 have hu85 := Try.underlying85
 have hu116 := Try.underlying116
 have hu126 := Try.underlying126
 have hu189 := Try.underlying189
 have H1 := As (Hv.start w)
 go_enter Try.func87, Try.ntmps87
 go_wp2_with fail
 exact bodyPost_ret (v := .tuple #[.agg #[.int .i64 0, .int .i64 0, .int .i64 0], .slice none 0 0, .string ⟨#[]⟩]) (by simp [results, Try.results87, go_sem, hu33, hu85, hu126]) rfl ⟨rfl, (by repeat (first | exact Below.refl _ _ | exact H1.out.bel | apply pw_below_drewN | apply below_drew1 | apply below_alloc | (refine Below.setCell ?_ (by simp) _)))⟩
theorem freshNil.calls (w : World) (r : Rf) (x : Int) : Calls Try.prog 89 #[.pointer none, .agg #[.int .i64 r.1, .int .i64 r.2, .int .i64 x]] w fun e w' => e = .returned (.bool false) ∧ Below w.heap.size w w' := by
 have hu33 := Try.underlying33
 have hu85 := Try.underlying85
 have hu116 := Try.underlying116
 have hu126 := Try.underlying126
 have hu189 := Try.underlying189
 have H1 := As (Hv.start w)
 go_enter Try.func89, Try.ntmps89
 go_upto_region 1 with (fail)
 go_region
 all_goals (
  go_wp2_with fail
  exact bodyPost_ret (v := .bool false) (by simp [results, Try.results89, go_sem]) rfl ⟨rfl, (by repeat (first | exact Below.refl _ _ | exact H1.out.bel | apply pw_below_drewN | apply below_drew1 | apply below_alloc | (refine Below.setCell ?_ (by simp) _)))⟩)
theorem getNil.calls (w : World) (r : Rf) : Calls Try.prog 82 #[.pointer none, .agg #[.int .i64 r.1, .int .i64 r.2]] w fun e w' => e = .returned (.tuple #[.agg #[.string ⟨#[]⟩, .int .i64 0, .string ⟨#[]⟩], .bool false]) ∧ Below w.heap.size w w' := by
 have hu33 := Try.underlying33
 have hu85 := Try.underlying85
 have hu116 := Try.underlying116
 have hu126 := Try.underlying126
 have hu189 := Try.underlying189
 have H1 := As (Hv.start w)
 go_enter Try.func82, Try.ntmps82
 go_wp2_with fail
 exact bodyPost_ret (v := .tuple #[.agg #[.string ⟨#[]⟩, .int .i64 0, .string ⟨#[]⟩], .bool false]) (by simp [results, Try.results82, go_sem, hu33, hu85, hu126]) rfl ⟨rfl, (by repeat (first | exact Below.refl _ _ | exact H1.out.bel | apply pw_below_drewN | apply below_drew1 | apply below_alloc | (refine Below.setCell ?_ (by simp) _)))⟩
theorem placeNil.calls (w : World) (key : ByteArray) : Calls Try.prog 76 #[.pointer none, .string key] w fun e w' => e = .returned (.tuple #[.agg #[.int .i64 0, .int .i64 0], .slice none 0 0, .int .i64 1]) ∧ Below w.heap.size w w' := by
 have hu33 := Try.underlying33
 have hu85 := Try.underlying85
 have hu116 := Try.underlying116
 have hu126 := Try.underlying126
 have hu189 := Try.underlying189
 have H1 := As (Hv.start w)
 go_enter Try.func76, Try.ntmps76
 go_wp2_with fail
 exact bodyPost_ret (v := .tuple #[.agg #[.int .i64 0, .int .i64 0], .slice none 0 0, .int .i64 1]) (by simp [results, Try.results76, go_sem, hu33, hu85, hu126]) rfl ⟨rfl, (by repeat (first | exact Below.refl _ _ | exact H1.out.bel | apply pw_below_drewN | apply below_drew1 | apply below_alloc | (refine Below.setCell ?_ (by simp) _)))⟩
theorem lockNil.calls (w : World) (r : Rf) : Calls Try.prog 79 #[.pointer none, .agg #[.int .i64 r.1, .int .i64 r.2]] w fun e w' => e = .returned (.bool false) ∧ Below w.heap.size w w' := by
 have hu33 := Try.underlying33
 have hu85 := Try.underlying85
 have hu116 := Try.underlying116
 have hu126 := Try.underlying126
 have hu189 := Try.underlying189
 have HV := As (show Hv w (w.alloc (.cells #[.int .i64 r.1, .int .i64 r.2] 33)) [cb w.heap.size 33 #[.int .i64 r.1, .int .i64 r.2]] from (Hv.start w).alloc _)
 obtain ⟨a0, a1, -, -⟩ := HV.out.c2 w.heap.size 33 (.int .i64 r.1) (.int .i64 r.2) (by simp)
 go_enter Try.func79, Try.ntmps79
 go_wp2_with (go_at_call 82; go_loud (refine (getNil.calls _ r).mono ?_; rintro e1 w1 ⟨rfl, hb⟩; have H1 := As (HV.out.call hb); clear hb; clear a0 a1))
 exact bodyPost_ret (v := .bool false) (by simp [results, Try.results79, go_sem, hu33, hu85, hu126]) rfl ⟨rfl, (by repeat (first | exact Below.refl _ _ | exact H1.out.bel | apply pw_below_drewN | apply below_drew1 | apply below_alloc | (refine Below.setCell ?_ (by simp) _)))⟩
theorem heldNil.calls (w : World) (r : Rf) : Calls Try.prog 139 #[.pointer none, .agg #[.int .i64 r.1, .int .i64 r.2]] w fun e w' => e = .returned (.tuple #[.agg #[.string ⟨#[]⟩, .int .i64 0, .string ⟨#[]⟩], .bool false]) ∧ Below w.heap.size w w' := by
 have hu33 := Try.underlying33
 have hu85 := Try.underlying85
 have hu116 := Try.underlying116
 have hu126 := Try.underlying126
 have hu189 := Try.underlying189
 have HV := As (show Hv w ((w.alloc (.cells #[.int .i64 r.1, .int .i64 r.2] 33)).alloc (.cells #[.string ⟨#[]⟩, .int .i64 0, .string ⟨#[]⟩] 126)) [cb (w.heap.size + 1) 126 #[.string ⟨#[]⟩, .int .i64 0, .string ⟨#[]⟩], cb w.heap.size 33 #[.int .i64 r.1, .int .i64 r.2]] by
  have := ((Hv.start w).alloc (.cells #[.int .i64 r.1, .int .i64 r.2] 33)).alloc (.cells #[.string ⟨#[]⟩, .int .i64 0, .string ⟨#[]⟩] 126)
  simpa [cb] using this)
 obtain ⟨a0, a1, -, -⟩ := HV.out.c2 w.heap.size 33 (.int .i64 r.1) (.int .i64 r.2) (by simp)
 go_enter Try.func139, Try.ntmps139
 go_upto_region 2 with (go_at_call 82; go_loud (refine (getNil.calls _ r).mono ?_; rintro e1 w1 ⟨rfl, hb⟩; have H1 := As (HV.out.call hb); clear hb; clear a0 a1))
 obtain ⟨W2, hW, hM⟩ : ∃ W, W = w1.alloc (.cells #[.string ⟨#[]⟩, .int .i64 0, .string ⟨#[]⟩] 126) ∧ Hv w W (cb w1.heap.size 126 #[.string ⟨#[]⟩, .int .i64 0, .string ⟨#[]⟩] :: [cb (w.heap.size + 1) 126 #[.string ⟨#[]⟩, .int .i64 0, .string ⟨#[]⟩], cb w.heap.size 33 #[.int .i64 r.1, .int .i64 r.2]]) := ⟨_, rfl, H1.out.alloc _⟩
 rw [← hW]
 have H1 := As hM
 clear hW hM
 generalize w1.heap.size = g5 at H1 ⊢
 obtain ⟨b0, b1, b2, -, -, -⟩ := H1.out.c3 g5 126 (.string ⟨#[]⟩) (.int .i64 0) (.string ⟨#[]⟩) (by simp)
 obtain ⟨d0, d1, d2, f0, f1, f2⟩ := H1.out.c3 (w.heap.size + 1) 126 (.string ⟨#[]⟩) (.int .i64 0) (.string ⟨#[]⟩) (by simp)
 go_region
 all_goals (
  go_wp2_with fail
  obtain ⟨wg, hw, hg⟩ : ∃ wg, wg = _ ∧ Hv w wg (cb g5 126 #[.string ⟨#[]⟩, .int .i64 0, .string ⟨#[]⟩] :: cb (w.heap.size + 1) 126 #[.string ⟨#[]⟩, .int .i64 0, .string ⟨#[]⟩] :: cb w.heap.size 33 #[.int .i64 r.1, .int .i64 r.2] :: []) := ⟨_, rfl, Hv.drew (Hv.put1 (Hv.put1 (Hv.put1 H1.out 0 (.string ⟨#[]⟩) rfl) 1 (.int .i64 0) rfl) 2 (.string ⟨#[]⟩) rfl)⟩
  rw [← hw]
  obtain ⟨e0, e1, e2, -, -, -⟩ := hg.c3 (w.heap.size + 1) 126 (.string ⟨#[]⟩) (.int .i64 0) (.string ⟨#[]⟩) (by simp)
  exact bodyPost_ret (v := .tuple #[.agg #[.string ⟨#[]⟩, .int .i64 0, .string ⟨#[]⟩], .bool false]) (by simp [results, Try.results139, go_sem, e0, e1, e2, hu126]) rfl ⟨rfl, hg.bel⟩)
theorem unlockNil.calls (w : World) (r : Rf) : Calls Try.prog 83 #[.pointer none, .agg #[.int .i64 r.1, .int .i64 r.2]] w fun e w' => e = .returned (.bool false) ∧ Below w.heap.size w w' := by
 have hu33 := Try.underlying33
 have hu85 := Try.underlying85
 have hu116 := Try.underlying116
 have hu126 := Try.underlying126
 have hu189 := Try.underlying189
 have HV := As (show Hv w (w.alloc (.cells #[.int .i64 r.1, .int .i64 r.2] 33)) [cb w.heap.size 33 #[.int .i64 r.1, .int .i64 r.2]] from (Hv.start w).alloc _)
 obtain ⟨a0, a1, -, -⟩ := HV.out.c2 w.heap.size 33 (.int .i64 r.1) (.int .i64 r.2) (by simp)
 go_enter Try.func83, Try.ntmps83
 go_wp2_with (go_at_call 139; go_loud (refine (heldNil.calls _ r).mono ?_; rintro e1 w1 ⟨rfl, hb⟩; have H1 := As (HV.out.call hb); clear hb; clear a0 a1))
 exact bodyPost_ret (v := .bool false) (by simp [results, Try.results83, go_sem, hu33, hu85, hu126]) rfl ⟨rfl, (by repeat (first | exact Below.refl _ _ | exact H1.out.bel | apply pw_below_drewN | apply below_drew1 | apply below_alloc | (refine Below.setCell ?_ (by simp) _)))⟩
theorem installNil.calls (w : World) (r : Rf) (x : Int) (d : ByteArray) (ab : Bool) : Calls Try.prog 84 #[.pointer none, .agg #[.int .i64 r.1, .int .i64 r.2], .int .i64 x, .string d, .bool ab] w fun e w' => e = .returned (.bool false) ∧ Below w.heap.size w w' := by
 have hu33 := Try.underlying33
 have hu85 := Try.underlying85
 have hu116 := Try.underlying116
 have hu126 := Try.underlying126
 have hu189 := Try.underlying189
 have HV := As (show Hv w (w.alloc (.cells #[.int .i64 r.1, .int .i64 r.2] 33)) [cb w.heap.size 33 #[.int .i64 r.1, .int .i64 r.2]] from (Hv.start w).alloc _)
 obtain ⟨a0, a1, -, -⟩ := HV.out.c2 w.heap.size 33 (.int .i64 r.1) (.int .i64 r.2) (by simp)
 go_enter Try.func84, Try.ntmps84
 go_wp2_with (go_at_call 139; go_loud (refine (heldNil.calls _ r).mono ?_; rintro e1 w1 ⟨rfl, hb⟩; have H1 := As (HV.out.call hb); clear hb; clear a0 a1))
 exact bodyPost_ret (v := .bool false) (by simp [results, Try.results84, go_sem, hu33, hu85, hu126]) rfl ⟨rfl, (by repeat (first | exact Below.refl _ _ | exact H1.out.bel | apply pw_below_drewN | apply below_drew1 | apply below_alloc | (refine Below.setCell ?_ (by simp) _)))⟩
theorem unlinkNil.calls (w : World) (r : Rf) : Calls Try.prog 77 #[.pointer none, .agg #[.int .i64 r.1, .int .i64 r.2]] w fun e w' => e = .returned (.tuple #[.slice none 0 0, .bool false]) ∧ Below w.heap.size w w' := by
 have hu33 := Try.underlying33
 have hu85 := Try.underlying85
 have hu116 := Try.underlying116
 have hu126 := Try.underlying126
 have hu189 := Try.underlying189
 have HV := As (show Hv w (w.alloc (.cells #[.int .i64 r.1, .int .i64 r.2] 33)) [cb w.heap.size 33 #[.int .i64 r.1, .int .i64 r.2]] from (Hv.start w).alloc _)
 obtain ⟨a0, a1, -, -⟩ := HV.out.c2 w.heap.size 33 (.int .i64 r.1) (.int .i64 r.2) (by simp)
 go_enter Try.func77, Try.ntmps77
 go_wp2_with (go_at_call 82; go_loud (refine (getNil.calls _ r).mono ?_; rintro e1 w1 ⟨rfl, hb⟩; have H1 := As (HV.out.call hb); clear hb; clear a0 a1))
 exact bodyPost_ret (v := .tuple #[.slice none 0 0, .bool false]) (by simp [results, Try.results77, go_sem, hu33, hu85, hu126]) rfl ⟨rfl, (by repeat (first | exact Below.refl _ _ | exact H1.out.bel | apply pw_below_drewN | apply below_drew1 | apply below_alloc | (refine Below.setCell ?_ (by simp) _)))⟩
theorem freeRecordNil.calls (w : World) (r : Rf) : Calls Try.prog 80 #[.pointer none, .agg #[.int .i64 r.1, .int .i64 r.2]] w fun e w' => e = .returned (.bool false) ∧ Below w.heap.size w w' := by
 have hu33 := Try.underlying33
 have hu85 := Try.underlying85
 have hu116 := Try.underlying116
 have hu126 := Try.underlying126
 have hu189 := Try.underlying189
 have HV := As (show Hv w (w.alloc (.cells #[.int .i64 r.1, .int .i64 r.2] 33)) [cb w.heap.size 33 #[.int .i64 r.1, .int .i64 r.2]] from (Hv.start w).alloc _)
 obtain ⟨a0, a1, -, -⟩ := HV.out.c2 w.heap.size 33 (.int .i64 r.1) (.int .i64 r.2) (by simp)
 go_enter Try.func80, Try.ntmps80
 go_upto_region 2 with (go_at_call 82; go_loud (refine (getNil.calls _ r).mono ?_; rintro e1 w1 ⟨rfl, hb⟩; have H1 := As (HV.out.call hb); clear hb; clear a0 a1))
 obtain ⟨W2, hW, hM⟩ : ∃ W, W = w1.alloc (.cells #[.string ⟨#[]⟩, .int .i64 0, .string ⟨#[]⟩] 126) ∧ Hv w W (cb w1.heap.size 126 #[.string ⟨#[]⟩, .int .i64 0, .string ⟨#[]⟩] :: [cb w.heap.size 33 #[.int .i64 r.1, .int .i64 r.2]]) := ⟨_, rfl, H1.out.alloc _⟩
 rw [← hW]
 have H1 := As hM
 clear hW hM
 generalize w1.heap.size = g5 at H1 ⊢
 obtain ⟨b0, b1, b2, -, -, -⟩ := H1.out.c3 g5 126 (.string ⟨#[]⟩) (.int .i64 0) (.string ⟨#[]⟩) (by simp)
 go_region
 all_goals (
  go_wp2_with fail
  exact bodyPost_ret (v := .bool false) (by simp [results, Try.results80, go_sem]) rfl ⟨rfl, (by repeat (first | exact Below.refl _ _ | exact H1.out.bel | apply pw_below_drewN | apply below_drew1 | apply below_alloc | (refine Below.setCell ?_ (by simp) _)))⟩)
theorem freeNodeNil.calls (w : World) (r : Rf) : Calls Try.prog 88 #[.pointer none, .agg #[.int .i64 r.1, .int .i64 r.2]] w fun e w' => e = .returned (.bool false) ∧ Below w.heap.size w w' := by
 have hu33 := Try.underlying33
 have hu85 := Try.underlying85
 have hu116 := Try.underlying116
 have hu126 := Try.underlying126
 have hu189 := Try.underlying189
 have H1 := As (Hv.start w)
 go_enter Try.func88, Try.ntmps88
 go_upto_region 1 with (fail)
 go_region
 all_goals (
  go_wp2_with fail
  exact bodyPost_ret (v := .bool false) (by simp [results, Try.results88, go_sem]) rfl ⟨rfl, (by repeat (first | exact Below.refl _ _ | exact H1.out.bel | apply pw_below_drewN | apply below_drew1 | apply below_alloc | (refine Below.setCell ?_ (by simp) _)))⟩)
theorem allNil.calls (w : World)  : Calls Try.prog 90 #[.pointer none] w fun e w' => e = .returned (.slice none 0 0) ∧ Below w.heap.size w w' := by
 have hu33 := Try.underlying33
 have hu85 := Try.underlying85
 have hu116 := Try.underlying116
 have hu126 := Try.underlying126
 have hu189 := Try.underlying189
 have H1 := As (Hv.start w)
 go_enter Try.func90, Try.ntmps90
 go_wp2_with fail
 exact bodyPost_ret (v := .slice none 0 0) (by simp [results, Try.results90, go_sem, hu33, hu85, hu126]) rfl ⟨rfl, (by repeat (first | exact Below.refl _ _ | exact H1.out.bel | apply pw_below_drewN | apply below_drew1 | apply below_alloc | (refine Below.setCell ?_ (by simp) _)))⟩
theorem countsNil.calls (w : World)  : Calls Try.prog 86 #[.pointer none] w fun e w' => e = .returned (.tuple #[.int .i64 0, .int .i64 0, .int .i64 0]) ∧ Below w.heap.size w w' := by
 have hu33 := Try.underlying33
 have hu85 := Try.underlying85
 have hu116 := Try.underlying116
 have hu126 := Try.underlying126
 have hu189 := Try.underlying189
 have H1 := As (Hv.start w)
 go_enter Try.func86, Try.ntmps86
 go_wp2_with fail
 exact bodyPost_ret (v := .tuple #[.int .i64 0, .int .i64 0, .int .i64 0]) (by simp [results, Try.results86, go_sem, hu33, hu85, hu126]) rfl ⟨rfl, (by repeat (first | exact Below.refl _ _ | exact H1.out.bel | apply pw_below_drewN | apply below_drew1 | apply below_alloc | (refine Below.setCell ?_ (by simp) _)))⟩
theorem faultsNil.calls (w : World)  : Calls Try.prog 81 #[.pointer none] w fun e w' => e = .returned (.int .i64 0) ∧ Below w.heap.size w w' := by
 have hu33 := Try.underlying33
 have hu85 := Try.underlying85
 have hu116 := Try.underlying116
 have hu126 := Try.underlying126
 have hu189 := Try.underlying189
 have H1 := As (Hv.start w)
 go_enter Try.func81, Try.ntmps81
 go_wp2_with fail
 exact bodyPost_ret (v := .int .i64 0) (by simp [results, Try.results81, go_sem, hu33, hu85, hu126]) rfl ⟨rfl, (by repeat (first | exact Below.refl _ _ | exact H1.out.bel | apply pw_below_drewN | apply below_drew1 | apply below_alloc | (refine Below.setCell ?_ (by simp) _)))⟩
theorem checkNil.calls (w : World)  : Calls Try.prog 85 #[.pointer none] w fun e w' => e = .returned (.bool false) ∧ Below w.heap.size w w' := by
 have hu33 := Try.underlying33
 have hu85 := Try.underlying85
 have hu116 := Try.underlying116
 have hu126 := Try.underlying126
 have hu189 := Try.underlying189
 have H1 := As (Hv.start w)
 go_enter Try.func85, Try.ntmps85
 go_wp2_with fail
 exact bodyPost_ret (v := .bool false) (by simp [results, Try.results85, go_sem, hu33, hu85, hu126]) rfl ⟨rfl, (by repeat (first | exact Below.refl _ _ | exact H1.out.bel | apply pw_below_drewN | apply below_drew1 | apply below_alloc | (refine Below.setCell ?_ (by simp) _)))⟩
end
section
variable {w0 w w1 : World} {L L' R : List Ob} {t : Tm} {s : Ar} {f : Int} {on : Value} {J : Jx}
theorem cells8 {g : Nat} {kd old wd : Int} {key dat : ByteArray} {ab : Bool} {r : Rf} (h : Hv w0 w L) (hm : cb g 124 #[.int .i64 kd, .int .i64 old, .int .i64 wd, .string key, .string dat, .bool ab, .int .i64 r.1, .int .i64 r.2] ∈ L) : w.cell? ⟨g, 2, none⟩ = some (.int .i64 wd) ∧ w.cell? ⟨g, 3, none⟩ = some (.string key) ∧ w.cell? ⟨g, 4, none⟩ = some (.string dat) ∧ w.cell? ⟨g, 5, none⟩ = some (.bool ab) ∧ w.cell? ⟨g, 6, none⟩ = some (.int .i64 r.1) ∧ w.cell? ⟨g, 7, none⟩ = some (.int .i64 r.2) :=
 ⟨h.cell hm 2 rfl, h.cell hm 3 rfl, h.cell hm 4 rfl, h.cell hm 5 rfl, h.cell hm 6 rfl, h.cell hm 7 rfl⟩
theorem eq33z (w : World) : (binOp .eql 33 (.agg #[.int .i64 0, .int .i64 0]) (.agg #[.int .i64 0, .int .i64 0])).run Try.prog w = .ok (.bool true) w := by kernel_rfl
theorem eq126z (w : World) : (binOp .eql 126 (.agg #[.string ⟨#[]⟩, .int .i64 0, .string ⟨#[]⟩]) (.agg #[.string ⟨#[]⟩, .int .i64 0, .string ⟨#[]⟩])).run Try.prog w = .ok (.bool true) w := by kernel_rfl
theorem none_.calls (w : World) (kd old wd : Int) (key dat : ByteArray) (ab : Bool) (r : Rf) : Calls Try.prog 14 #[.agg #[.int .i64 kd, .int .i64 old, .int .i64 wd, .string key, .string dat, .bool ab, .int .i64 r.1, .int .i64 r.2]] w fun e w' => e = .returned (.bool true) ∧ Below w.heap.size w w' := by
 have hu33 := Try.underlying33
 have hu85 := Try.underlying85
 have hu31 := Try.underlying31
 have hu116 := Try.underlying116
 have hu124 := Try.underlying124
 have hu126 := Try.underlying126
 have hz33 := eq33z
 have hz126 := eq126z
 have HV := As (show Hv w (w.alloc (.cells #[.int .i64 kd, .int .i64 old, .int .i64 wd, .string key, .string dat, .bool ab, .int .i64 r.1, .int .i64 r.2] 124)) [cb w.heap.size 124 #[.int .i64 kd, .int .i64 old, .int .i64 wd, .string key, .string dat, .bool ab, .int .i64 r.1, .int .i64 r.2]] from (Hv.start w).alloc _)
 obtain ⟨y2, y3, y4, y5, y6, y7⟩ := cells8 (g := w.heap.size) (kd := kd) (old := old) (wd := wd) (key := key) (dat := dat) (ab := ab) (r := r) HV.out (by simp)
 go_enter Try.func14, Try.ntmps14
 go_upto_region 3 with (go_at_call 76; go_loud (refine (placeNil.calls _ key).mono ?_; rintro e1 w1 ⟨rfl, hh⟩; have H1 := As (HV.out.call hh); clear hh; clear y2 y3 y4 y5 y6 y7; obtain ⟨y2, y3, y4, y5, y6, y7⟩ := cells8 (g := w.heap.size) (kd := kd) (old := old) (wd := wd) (key := key) (dat := dat) (ab := ab) (r := r) H1.out (by simp)))
 obtain ⟨W1, hW, hw⟩ : ∃ W, W = w1.alloc (.cells #[.int .i64 0, .int .i64 0] 33) ∧ Hv w W (cb w1.heap.size 33 #[.int .i64 0, .int .i64 0] :: [cb w.heap.size 124 #[.int .i64 kd, .int .i64 old, .int .i64 wd, .string key, .string dat, .bool ab, .int .i64 r.1, .int .i64 r.2]]) := ⟨_, rfl, H1.out.alloc _⟩
 rw [← hW]
 have H2 := As hw
 clear hW hw
 generalize w1.heap.size = b1 at H2 ⊢
 clear y2 y3 y4 y5 y6 y7
 obtain ⟨y2, y3, y4, y5, y6, y7⟩ := cells8 (g := w.heap.size) (kd := kd) (old := old) (wd := wd) (key := key) (dat := dat) (ab := ab) (r := r) H2.out (by simp)
 obtain ⟨p0, p1, -, -⟩ := H2.out.c2 b1 33 (.int .i64 0) (.int .i64 0) (by simp)
 go_upto_region 4 with (go_at_call 82; go_loud (refine (getNil.calls _ r).mono ?_; rintro e3 w3 ⟨rfl, hh⟩; have H3 := As (H2.out.call hh); clear hh; clear y2 y3 y4 y5 y6 y7 p0 p1; obtain ⟨y2, y3, y4, y5, y6, y7⟩ := cells8 (g := w.heap.size) (kd := kd) (old := old) (wd := wd) (key := key) (dat := dat) (ab := ab) (r := r) H3.out (by simp); obtain ⟨p0, p1, -, -⟩ := H3.out.c2 b1 33 (.int .i64 0) (.int .i64 0) (by simp)))
 obtain ⟨W3, hW, hw⟩ : ∃ W, W = w3.alloc (.cells #[.string ⟨#[]⟩, .int .i64 0, .string ⟨#[]⟩] 126) ∧ Hv w W (cb w3.heap.size 126 #[.string ⟨#[]⟩, .int .i64 0, .string ⟨#[]⟩] :: cb b1 33 #[.int .i64 0, .int .i64 0] :: [cb w.heap.size 124 #[.int .i64 kd, .int .i64 old, .int .i64 wd, .string key, .string dat, .bool ab, .int .i64 r.1, .int .i64 r.2]]) := ⟨_, rfl, H3.out.alloc _⟩
 rw [← hW]
 have H4 := As hw
 clear hW hw
 generalize w3.heap.size = b3 at H4 ⊢
 clear y2 y3 y4 y5 y6 y7 p0 p1
 obtain ⟨y2, y3, y4, y5, y6, y7⟩ := cells8 (g := w.heap.size) (kd := kd) (old := old) (wd := wd) (key := key) (dat := dat) (ab := ab) (r := r) H4.out (by simp)
 obtain ⟨p0, p1, -, -⟩ := H4.out.c2 b1 33 (.int .i64 0) (.int .i64 0) (by simp)
 obtain ⟨q0, q1, q2, -, -, -⟩ := H4.out.c3 b3 126 (.string ⟨#[]⟩) (.int .i64 0) (.string ⟨#[]⟩) (by simp)
 go_upto_region 5 with (go_at_call 77; go_loud (refine (unlinkNil.calls _ r).mono ?_; rintro e5 w5 ⟨rfl, hh⟩; have H5 := As (H4.out.call hh); clear hh; clear y2 y3 y4 y5 y6 y7 p0 p1 q0 q1 q2; obtain ⟨y2, y3, y4, y5, y6, y7⟩ := cells8 (g := w.heap.size) (kd := kd) (old := old) (wd := wd) (key := key) (dat := dat) (ab := ab) (r := r) H5.out (by simp); obtain ⟨p0, p1, -, -⟩ := H5.out.c2 b1 33 (.int .i64 0) (.int .i64 0) (by simp); obtain ⟨q0, q1, q2, -, -, -⟩ := H5.out.c3 b3 126 (.string ⟨#[]⟩) (.int .i64 0) (.string ⟨#[]⟩) (by simp)))
 go_upto_region 6 with (go_at_call 86; go_loud (refine (countsNil.calls _).mono ?_; rintro e6 w6 ⟨rfl, hh⟩; have H6 := As (H5.out.call hh); clear hh; clear y2 y3 y4 y5 y6 y7 p0 p1 q0 q1 q2; obtain ⟨y2, y3, y4, y5, y6, y7⟩ := cells8 (g := w.heap.size) (kd := kd) (old := old) (wd := wd) (key := key) (dat := dat) (ab := ab) (r := r) H6.out (by simp); obtain ⟨p0, p1, -, -⟩ := H6.out.c2 b1 33 (.int .i64 0) (.int .i64 0) (by simp); obtain ⟨q0, q1, q2, -, -, -⟩ := H6.out.c3 b3 126 (.string ⟨#[]⟩) (.int .i64 0) (.string ⟨#[]⟩) (by simp)))
 go_upto_region 7 with (go_at_call 78; go_loud (refine (findNil.calls _ key).mono ?_; rintro e7 w7 ⟨rfl, hh⟩; have H7 := As (H6.out.call hh); clear hh; clear y2 y3 y4 y5 y6 y7 p0 p1 q0 q1 q2; obtain ⟨y2, y3, y4, y5, y6, y7⟩ := cells8 (g := w.heap.size) (kd := kd) (old := old) (wd := wd) (key := key) (dat := dat) (ab := ab) (r := r) H7.out (by simp); obtain ⟨p0, p1, -, -⟩ := H7.out.c2 b1 33 (.int .i64 0) (.int .i64 0) (by simp); obtain ⟨q0, q1, q2, -, -, -⟩ := H7.out.c3 b3 126 (.string ⟨#[]⟩) (.int .i64 0) (.string ⟨#[]⟩) (by simp)))
 obtain ⟨W7, hW, hw⟩ : ∃ W, W = (w7.alloc (.cells #[.int .i64 0, .int .i64 0] 33)).alloc (.cells #[.int .i64 0, .int .i64 0, .int .i64 0] 85) ∧ Hv w W (cb b3 126 #[.string ⟨#[]⟩, .int .i64 0, .string ⟨#[]⟩] :: cb b1 33 #[.int .i64 0, .int .i64 0] :: [cb w.heap.size 124 #[.int .i64 kd, .int .i64 old, .int .i64 wd, .string key, .string dat, .bool ab, .int .i64 r.1, .int .i64 r.2]]) := ⟨_, rfl, (((H7.out.alloc _).alloc _).tail).tail⟩
 rw [← hW]
 have H8 := As hw
 clear hW hw
 generalize w7.heap.size = b7
 clear y2 y3 y4 y5 y6 y7 p0 p1 q0 q1 q2
 obtain ⟨y2, y3, y4, y5, y6, y7⟩ := cells8 (g := w.heap.size) (kd := kd) (old := old) (wd := wd) (key := key) (dat := dat) (ab := ab) (r := r) H8.out (by simp)
 obtain ⟨p0, p1, -, -⟩ := H8.out.c2 b1 33 (.int .i64 0) (.int .i64 0) (by simp)
 obtain ⟨q0, q1, q2, -, -, -⟩ := H8.out.c3 b3 126 (.string ⟨#[]⟩) (.int .i64 0) (.string ⟨#[]⟩) (by simp)
 go_upto_region 8 with (go_at_call 87; go_loud (refine (leafNil.calls _ key).mono ?_; rintro e9 w9 ⟨rfl, hh⟩; have H9 := As (H8.out.call hh); clear hh; clear y2 y3 y4 y5 y6 y7 p0 p1 q0 q1 q2; obtain ⟨y2, y3, y4, y5, y6, y7⟩ := cells8 (g := w.heap.size) (kd := kd) (old := old) (wd := wd) (key := key) (dat := dat) (ab := ab) (r := r) H9.out (by simp); obtain ⟨p0, p1, -, -⟩ := H9.out.c2 b1 33 (.int .i64 0) (.int .i64 0) (by simp); obtain ⟨q0, q1, q2, -, -, -⟩ := H9.out.c3 b3 126 (.string ⟨#[]⟩) (.int .i64 0) (.string ⟨#[]⟩) (by simp)))
 obtain ⟨W9, hW, hw⟩ : ∃ W, W = w9.alloc (.cells #[.int .i64 0, .int .i64 0, .int .i64 0] 85) ∧ Hv w W (cb b3 126 #[.string ⟨#[]⟩, .int .i64 0, .string ⟨#[]⟩] :: cb b1 33 #[.int .i64 0, .int .i64 0] :: [cb w.heap.size 124 #[.int .i64 kd, .int .i64 old, .int .i64 wd, .string key, .string dat, .bool ab, .int .i64 r.1, .int .i64 r.2]]) := ⟨_, rfl, (H9.out.alloc _).tail⟩
 rw [← hW]
 have H10 := As hw
 clear hW hw
 generalize w9.heap.size = b9
 clear y2 y3 y4 y5 y6 y7 p0 p1 q0 q1 q2
 obtain ⟨y2, y3, y4, y5, y6, y7⟩ := cells8 (g := w.heap.size) (kd := kd) (old := old) (wd := wd) (key := key) (dat := dat) (ab := ab) (r := r) H10.out (by simp)
 obtain ⟨p0, p1, -, -⟩ := H10.out.c2 b1 33 (.int .i64 0) (.int .i64 0) (by simp)
 obtain ⟨q0, q1, q2, -, -, -⟩ := H10.out.c3 b3 126 (.string ⟨#[]⟩) (.int .i64 0) (.string ⟨#[]⟩) (by simp)
 go_wp2_with (first
  | (go_at_call 79; have hx := H10.out; clear hx; go_loud (refine (lockNil.calls _ r).mono ?_; rintro e20 w20 ⟨rfl, hh⟩; have H11 := As (H10.out.call hh); clear hh; clear y2 y3 y4 y5 y6 y7 p0 p1 q0 q1 q2; obtain ⟨y2, y3, y4, y5, y6, y7⟩ := cells8 (g := w.heap.size) (kd := kd) (old := old) (wd := wd) (key := key) (dat := dat) (ab := ab) (r := r) H11.out (by simp); obtain ⟨p0, p1, -, -⟩ := H11.out.c2 b1 33 (.int .i64 0) (.int .i64 0) (by simp); obtain ⟨q0, q1, q2, -, -, -⟩ := H11.out.c3 b3 126 (.string ⟨#[]⟩) (.int .i64 0) (.string ⟨#[]⟩) (by simp)))
  | (go_at_call 83; have hx := H11.out; clear hx; go_loud (refine (unlockNil.calls _ r).mono ?_; rintro e21 w21 ⟨rfl, hh⟩; have H12 := As (H11.out.call hh); clear hh; clear y2 y3 y4 y5 y6 y7 p0 p1 q0 q1 q2; obtain ⟨y2, y3, y4, y5, y6, y7⟩ := cells8 (g := w.heap.size) (kd := kd) (old := old) (wd := wd) (key := key) (dat := dat) (ab := ab) (r := r) H12.out (by simp); obtain ⟨p0, p1, -, -⟩ := H12.out.c2 b1 33 (.int .i64 0) (.int .i64 0) (by simp); obtain ⟨q0, q1, q2, -, -, -⟩ := H12.out.c3 b3 126 (.string ⟨#[]⟩) (.int .i64 0) (.string ⟨#[]⟩) (by simp)))
  | (go_at_call 84; have hx := H12.out; clear hx; go_loud (refine (installNil.calls _ r wd dat ab).mono ?_; rintro e22 w22 ⟨rfl, hh⟩; have H13 := As (H12.out.call hh); clear hh; clear y2 y3 y4 y5 y6 y7 p0 p1 q0 q1 q2; obtain ⟨y2, y3, y4, y5, y6, y7⟩ := cells8 (g := w.heap.size) (kd := kd) (old := old) (wd := wd) (key := key) (dat := dat) (ab := ab) (r := r) H13.out (by simp); obtain ⟨p0, p1, -, -⟩ := H13.out.c2 b1 33 (.int .i64 0) (.int .i64 0) (by simp); obtain ⟨q0, q1, q2, -, -, -⟩ := H13.out.c3 b3 126 (.string ⟨#[]⟩) (.int .i64 0) (.string ⟨#[]⟩) (by simp)))
  | (go_at_call 80; have hx := H13.out; clear hx; go_loud (refine (freeRecordNil.calls _ r).mono ?_; rintro e23 w23 ⟨rfl, hh⟩; have H14 := As (H13.out.call hh); clear hh; clear y2 y3 y4 y5 y6 y7 p0 p1 q0 q1 q2; obtain ⟨y2, y3, y4, y5, y6, y7⟩ := cells8 (g := w.heap.size) (kd := kd) (old := old) (wd := wd) (key := key) (dat := dat) (ab := ab) (r := r) H14.out (by simp); obtain ⟨p0, p1, -, -⟩ := H14.out.c2 b1 33 (.int .i64 0) (.int .i64 0) (by simp); obtain ⟨q0, q1, q2, -, -, -⟩ := H14.out.c3 b3 126 (.string ⟨#[]⟩) (.int .i64 0) (.string ⟨#[]⟩) (by simp)))
  | (go_at_call 88; have hx := H14.out; clear hx; go_loud (refine (freeNodeNil.calls _ r).mono ?_; rintro e24 w24 ⟨rfl, hh⟩; have H15 := As (H14.out.call hh); clear hh; clear y2 y3 y4 y5 y6 y7 p0 p1 q0 q1 q2; obtain ⟨y2, y3, y4, y5, y6, y7⟩ := cells8 (g := w.heap.size) (kd := kd) (old := old) (wd := wd) (key := key) (dat := dat) (ab := ab) (r := r) H15.out (by simp); obtain ⟨p0, p1, -, -⟩ := H15.out.c2 b1 33 (.int .i64 0) (.int .i64 0) (by simp); obtain ⟨q0, q1, q2, -, -, -⟩ := H15.out.c3 b3 126 (.string ⟨#[]⟩) (.int .i64 0) (.string ⟨#[]⟩) (by simp)))
  | (go_at_call 89; have hx := H15.out; clear hx; go_loud (refine (freshNil.calls _ (0, 0) 0).mono ?_; rintro e25 w25 ⟨rfl, hh⟩; have H16 := As (H15.out.call hh); clear hh; clear y2 y3 y4 y5 y6 y7 p0 p1 q0 q1 q2; obtain ⟨y2, y3, y4, y5, y6, y7⟩ := cells8 (g := w.heap.size) (kd := kd) (old := old) (wd := wd) (key := key) (dat := dat) (ab := ab) (r := r) H16.out (by simp); obtain ⟨p0, p1, -, -⟩ := H16.out.c2 b1 33 (.int .i64 0) (.int .i64 0) (by simp); obtain ⟨q0, q1, q2, -, -, -⟩ := H16.out.c3 b3 126 (.string ⟨#[]⟩) (.int .i64 0) (.string ⟨#[]⟩) (by simp)))
  | (go_at_call 90; have hx := H16.out; clear hx; go_loud (refine (allNil.calls _).mono ?_; rintro e26 w26 ⟨rfl, hh⟩; have H17 := As (H16.out.call hh); clear hh; clear y2 y3 y4 y5 y6 y7 p0 p1 q0 q1 q2; obtain ⟨y2, y3, y4, y5, y6, y7⟩ := cells8 (g := w.heap.size) (kd := kd) (old := old) (wd := wd) (key := key) (dat := dat) (ab := ab) (r := r) H17.out (by simp); obtain ⟨p0, p1, -, -⟩ := H17.out.c2 b1 33 (.int .i64 0) (.int .i64 0) (by simp); obtain ⟨q0, q1, q2, -, -, -⟩ := H17.out.c3 b3 126 (.string ⟨#[]⟩) (.int .i64 0) (.string ⟨#[]⟩) (by simp)))
  | (go_at_call 81; have hx := H17.out; clear hx; go_loud (refine (faultsNil.calls _).mono ?_; rintro e27 w27 ⟨rfl, hh⟩; have H18 := As (H17.out.call hh); clear hh; clear y2 y3 y4 y5 y6 y7 p0 p1 q0 q1 q2; obtain ⟨y2, y3, y4, y5, y6, y7⟩ := cells8 (g := w.heap.size) (kd := kd) (old := old) (wd := wd) (key := key) (dat := dat) (ab := ab) (r := r) H18.out (by simp); obtain ⟨p0, p1, -, -⟩ := H18.out.c2 b1 33 (.int .i64 0) (.int .i64 0) (by simp); obtain ⟨q0, q1, q2, -, -, -⟩ := H18.out.c3 b3 126 (.string ⟨#[]⟩) (.int .i64 0) (.string ⟨#[]⟩) (by simp)))
  | (go_at_call 85; have hx := H18.out; clear hx; go_loud (refine (checkNil.calls _).mono ?_; rintro e28 w28 ⟨rfl, hh⟩; have H19 := As (H18.out.call hh); clear hh; clear y2 y3 y4 y5 y6 y7 p0 p1 q0 q1 q2; obtain ⟨y2, y3, y4, y5, y6, y7⟩ := cells8 (g := w.heap.size) (kd := kd) (old := old) (wd := wd) (key := key) (dat := dat) (ab := ab) (r := r) H19.out (by simp); obtain ⟨p0, p1, -, -⟩ := H19.out.c2 b1 33 (.int .i64 0) (.int .i64 0) (by simp); obtain ⟨q0, q1, q2, -, -, -⟩ := H19.out.c3 b3 126 (.string ⟨#[]⟩) (.int .i64 0) (.string ⟨#[]⟩) (by simp)))
  | (go_at_call 74; have hx := H19.out; clear hx; go_loud (refine (awake.calls _).mono ?_; rintro e29 w29 ⟨rfl, hh⟩; have H20 := As (H19.out.call hh); clear hh; clear y2 y3 y4 y5 y6 y7 p0 p1 q0 q1 q2; obtain ⟨y2, y3, y4, y5, y6, y7⟩ := cells8 (g := w.heap.size) (kd := kd) (old := old) (wd := wd) (key := key) (dat := dat) (ab := ab) (r := r) H20.out (by simp); obtain ⟨p0, p1, -, -⟩ := H20.out.c2 b1 33 (.int .i64 0) (.int .i64 0) (by simp); obtain ⟨q0, q1, q2, -, -, -⟩ := H20.out.c3 b3 126 (.string ⟨#[]⟩) (.int .i64 0) (.string ⟨#[]⟩) (by simp)))
  )
 exact bodyPost_ret (v := .bool true) (by simp [results, Try.results14, go_sem]) rfl ⟨rfl, H20.out.bel⟩
end
end Go.Proofs.Ytglbcfkmaamhaaa.Bs
namespace Go.Proofs.Ytglbcfkmaamhaaa.Opens
open Go.RowKit Go.Proofs.YtglbcfkmaamhaaaW.PrintWords Go.WideShapes
section
def Opens {α : Type} (P : Program) (d : Kd α) (good : α → Prop) (t : TypeId) : Prop :=
 ∀ (H : Type) (enc : TypeId × Value → H) (w : World) (base : Nat) (spare : Nat → Bool) (held : Bool) (fuel : Nat) (cs : List Value) (x : DataW H × List MemPlace),
  DataW.trod enc P w base spare held fuel t cs = some x → ∃ v, d.K w v cs ∧ good v
theorem Opens.imp {α : Type} {P : Program} {d : Kd α} {g g' : α → Prop} {t : TypeId} (h : Opens P d g t) (hg : ∀ x, g x → g' x) : Opens P d g' t := fun H enc w base spare held fuel cs x hx => by
 obtain ⟨v, hv, h1⟩ := h H enc w base spare held fuel cs x hx
 exact ⟨v, hv, hg v h1⟩
theorem opens_int {P : Program} {k : IntKind} {t : TypeId} (ht : P.underlying t = some (.int k)) : Opens P (Kd.int k) (fun n => (Lit.int k n).wf = true) t := fun H enc w base spare held fuel cs x hx => by
 obtain ⟨n, rfl, _, hw⟩ := DataW.trod_int ht hx
 exact ⟨n, rfl, hw⟩
theorem opens_bool {P : Program} {t : TypeId} (ht : P.underlying t = some .bool) : Opens P Kd.bool (fun _ => True) t := fun H enc w base spare held fuel cs x hx => by
 obtain ⟨b, rfl, _⟩ := DataW.trod_bool ht hx
 exact ⟨b, rfl, trivial⟩
theorem opens_string {P : Program} {t : TypeId} (ht : P.underlying t = some .string) : Opens P Kd.string (fun s => s.size ≤ maxLen) t := fun H enc w base spare held fuel cs x hx => by
 obtain ⟨s, rfl, _, hs⟩ := DataW.trod_string ht hx
 exact ⟨s, rfl, hs⟩
def Fields {α : Type} (P : Program) (d : Kd α) (good : α → Prop) (fs : Array Field) (i o : Nat) : Prop :=
 ∀ (H : Type) (enc : TypeId × Value → H) (w : World) (base : Nat) (spare : Nat → Bool) (held : Bool) (n : Nat) (cs : List Value) (xs : List (DataW H × List MemPlace)), xs.length = fs.size → cs.length = o + d.sz →
  (∀ (i : Nat) (f : Field), fs[i]? = some f → DataW.trod enc P w base spare held n f.type ((cs.drop f.offset).take (P.cellsOf f.type)) = xs[i]?) → ∃ v, d.K w v (cs.drop o) ∧ good v
theorem fields_last {α : Type} {P : Program} {d : Kd α} {g : α → Prop} {fs : Array Field} {i o : Nat} {f : Field} (hf : fs[i]? = some f) (ho : f.offset = o) (hs : P.cellsOf f.type = d.sz) (h : Opens P d g f.type) : Fields P d g fs i o :=
 fun H enc w base spare held n cs xs hx hl hr => by
  have hi : i < xs.length := by rw [hx]; exact (Array.getElem?_eq_some_iff.1 hf).1
  have h1 := hr i f hf
  rw [List.getElem?_eq_getElem hi, ho, hs, List.take_of_length_le (by rw [List.length_drop]; omega)] at h1
  exact h H enc w base spare held n _ _ h1
theorem fields_cons {α β : Type} {P : Program} {a : Kd α} {b : Kd β} {g : α → Prop} {g' : β → Prop} {fs : Array Field} {i o : Nat} {f : Field} (hf : fs[i]? = some f) (ho : f.offset = o) (hs : P.cellsOf f.type = a.sz) (h : Opens P a g f.type)
  (hr : Fields P b g' fs (i + 1) (o + a.sz)) : Fields P (Kd.pair a b) (fun x => g x.1 ∧ g' x.2) fs i o :=
 fun H enc w base spare held n cs xs hx hl hrd => by
  have hi : i < xs.length := by rw [hx]; exact (Array.getElem?_eq_some_iff.1 hf).1
  have h1 := hrd i f hf
  rw [List.getElem?_eq_getElem hi, ho, hs] at h1
  obtain ⟨v, hv, hg⟩ := h H enc w base spare held n _ _ h1
  obtain ⟨u, hu, hg'⟩ := hr H enc w base spare held n cs xs hx (by rw [hl]; show o + (a.sz + b.sz) = _; omega) hrd
  refine ⟨(v, u), ⟨_, _, ?_, hv, hu⟩, hg, hg'⟩
  rw [← List.drop_drop, List.take_append_drop]
theorem opens_struct {α β : Type} {P : Program} {d : Kd α} {g : α → Prop} {t : TypeId} {fs : Array Field} (ht : P.underlying t = some (.struct fs)) (hs : P.cellsOf t = d.sz) (h : Fields P d g fs 0 0) (f : β → α) (inv : α → β) (hfi : ∀ y, f (inv y) = y) :
  Opens P (Kd.iso d f) (fun x => g (f x)) t := fun H enc w base spare held fuel cs x hx => by
 obtain ⟨xs, n, _, _, hl, hxl, hr⟩ := DataW.trod_struct ht hx
 obtain ⟨v, hv, hg⟩ := h H enc w base spare held n cs xs hxl (by rw [hl, hs]; omega) hr
 refine ⟨inv v, ?_, by show g (f (inv v)); rw [hfi]; exact hg⟩
 show d.K w (f (inv v)) cs
 rw [hfi]
 exact hv
theorem arg_struct {α : Type} {P : Program} {d : Kd α} {g : α → Prop} {t : TypeId} {fs : Array Field} (ht : P.underlying t = some (.struct fs)) (he : Opens P d g t)
  {H : Type} {enc : TypeId × Value → H} {w : World} {base b0 : Nat} {spare : Nat → Bool} {held : Bool} {r : Reach} {v : Value} {x : DataW H} {p : List MemPlace} (hv : Value.okWide P w r b0 t v) (h : DataW.Trod enc P w base spare held t v x p) :
  ∃ (z : α) (cs : List Value), v = .agg cs.toArray ∧ d.K w z cs ∧ g z := by
 obtain ⟨cs, rfl, _⟩ := okWide_struct ht hv
 obtain ⟨fuel, hf⟩ := h
 obtain ⟨z, hz, hg⟩ := he H enc w base spare held fuel _ _ hf
 exact ⟨z, cs.toList, by simp, hz, hg⟩
end
end Go.Proofs.Ytglbcfkmaamhaaa.Opens
