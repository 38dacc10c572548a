/- A text of this claim: parts BsE BsF BsG. No condition. -/
import Derived.Test.YtglbcfkmaamhaaaFG19
import Derived.Test.YtglbcfkmaamhaaaFG2
import Derived.Test.YtglbcfkmaamhaaaFG0
set_option linter.unusedVariables false
set_option linter.unusedSimpArgs false
set_option maxHeartbeats 16000000
set_option maxRecDepth 100000
namespace Go.Proofs.Ytglbcfkmaamhaaa.Bs
open Go Go.RowKit Go.Proofs.YtglbcfkmaamhaaaW.PrintWords Go.Proofs.YtglbcfkmaamhaaaW.PrintLast Go.Proofs.YtglbcfkmaamhaaaW.PrintMore Go.Proofs.Ytglbcfkmaamhaaa.Hv Go.Proofs.Ytglbcfkmaamhaaa.Arm Go.Proofs.Ytglbcfkmaamhaaa.Nd Go.Proofs.Ytglbcfkmaamhaaa.Tr
section
variable {w0 w w1 : World} {L L' R : List Ob} {t : Tm} {s : Ar} {f : Int} {on : Value} {J : Jx}
theorem freeRec.live (h : Bt w0 w J t s f on R L) (r : Rf) {c : ByteArray × Int × ByteArray} (hg : Got s r c true) (hd : Pur 135 #[.int .i64 c.2.1] (.bool false)) (hf : 0 ≤ f) (hf2 : f ≤ 1000000) : Calls Try.prog 80 #[.pointer (some ⟨J.b, 0, none⟩), .agg #[.int .i64 r.1, .int .i64 r.2]] w fun e w' => e = .returned (.bool false) ∧ Bt w0 w' J t s f on R L := by
 have hu33 := Try.underlying33
 have hu126 := Try.underlying126
 have hu189 := Try.underlying189
 have HM := As (show Bt w0 _ J t s f on R (cb (w.heap.size) 33 #[.int .i64 r.1, .int .i64 r.2] :: L) from h.alloc _)
 have HF := As (And.intro hf hf2)
 have HY := As (hd)
 have HG := As hg
 clear h hg hf hf2 hd
 obtain ⟨t3_0, t3_1, t3_f0, t3_f1⟩ := HM.out.other.c2 (w.heap.size) 33 (.int .i64 r.1) (.int .i64 r.2) (by simp)
 go_enter Try.func80, Try.ntmps80
 go_upto_region 2 with (go_at_call 82; go_loud (refine (get.calls HM.out r HG.out HF.out.1 HF.out.2).mono ?_; rintro e2 w2 ⟨rfl, hh⟩; have H2 := As hh; clear hh))
 clear t3_0 t3_f0 t3_1 t3_f1
 obtain ⟨W3, hW, hM⟩ : ∃ W, W = w2.alloc (.cells #[.string c.1, .int .i64 c.2.1, .string c.2.2] 126) ∧ Bt w0 W J t s f on R (cb w2.heap.size 126 #[.string c.1, .int .i64 c.2.1, .string c.2.2] :: cb (w.heap.size) 33 #[.int .i64 r.1, .int .i64 r.2] :: L) := ⟨_, rfl, H2.out.alloc _⟩
 rw [← hW]
 have H3 := As hM
 clear hW hM
 generalize w2.heap.size = g5 at H3 ⊢
 obtain ⟨t3_0, t3_1, t3_f0, t3_f1⟩ := H3.out.other.c2 (w.heap.size) 33 (.int .i64 r.1) (.int .i64 r.2) (by simp)
 obtain ⟨t5_0, t5_1, t5_2, t5_f0, t5_f1, t5_f2⟩ := H3.out.other.c3 (g5) 126 (.string c.1) (.int .i64 c.2.1) (.string c.2.2) (by simp)
 obtain ⟨c0, c1, c2, c3⟩ := H3.out.cells
 have SP := As (show ∀ (w' : World) (t' : Tm) (s' : Ar) (f' : Int) (on' : Value) (R' L' : List Ob), Bt w0 w' J t' s' f' on' R' L' → cb (w.heap.size) 33 #[.int .i64 r.1, .int .i64 r.2] ∈ L' → cb (g5) 126 #[.string c.1, .int .i64 c.2.1, .string c.2.2] ∈ L' → (w'.cell? ⟨J.b, 0, none⟩ = some (.pointer (some ⟨J.K.1, 0, none⟩)) ∧ w'.cell? ⟨J.b, 1, none⟩ = some (.pointer (some ⟨J.g, 0, none⟩)) ∧ w'.cell? ⟨w.heap.size, 0, none⟩ = some (.int .i64 r.1) ∧ w'.cell? ⟨w.heap.size, 1, none⟩ = some (.int .i64 r.2) ∧ w'.cell? ⟨g5, 0, none⟩ = some (.string c.1) ∧ w'.cell? ⟨g5, 1, none⟩ = some (.int .i64 c.2.1) ∧ w'.cell? ⟨g5, 2, none⟩ = some (.string c.2.2)) from fun w' t' s' f' on' R' L' h m0 m1 => by
  obtain ⟨c0, c1, -, -⟩ := h.cells
  obtain ⟨t3_0, t3_1, -, -⟩ := h.other.c2 _ _ _ _ m0
  obtain ⟨t5_0, t5_1, t5_2, -, -, -⟩ := h.other.c3 _ _ _ _ _ m1
  exact ⟨c0, c1, t3_0, t3_1, t5_0, t5_1, t5_2⟩)
 clear t3_0 t3_f0 t3_1 t3_f1 t5_0 t5_f0 t5_1 t5_f1 t5_2 t5_f2; clear c0 c1 c2 c3
 have HD := As H3.out.drew
 refine start_ (n := 15) (S := fun w' => w'.cell? ⟨J.b, 0, none⟩ = some (.pointer (some ⟨J.K.1, 0, none⟩)) ∧ w'.cell? ⟨J.b, 1, none⟩ = some (.pointer (some ⟨J.g, 0, none⟩)) ∧ w'.cell? ⟨w.heap.size, 0, none⟩ = some (.int .i64 r.1) ∧ w'.cell? ⟨w.heap.size, 1, none⟩ = some (.int .i64 r.2) ∧ w'.cell? ⟨g5, 0, none⟩ = some (.string c.1) ∧ w'.cell? ⟨g5, 1, none⟩ = some (.int .i64 c.2.1) ∧ w'.cell? ⟨g5, 2, none⟩ = some (.string c.2.2)) (ds := []) #[false, false, false, false, false, false, false, false, false, false, false, false, false, false, false] (by kernel_rfl) rfl rfl (SP.out _ _ _ _ _ _ _ HD.out (by simp) (by simp)) (fun hHeld => ?_)
 generalize W3.drew = wx at HD hHeld ⊢
 refine pu_ 0 (some 13) ?_
 refine pu_ 1 (some 14) ?_
 refine pu_ 2 (some 15) ?_
 refine ta_ 3 (some 16) hHeld ?_ (hy := Or.inl ⟨by rfl, by rintro w' ⟨s0, s1, s2, s3, s4, s5, s6⟩; go_simp; with_reducible rfl⟩)
 refine on_ 4 (some 17) fun K_ hK => ?_
 refine gs_ Try.func135 #[.int .i64 c.2.1] ?_
 refine (HY.out _).mono ?_
 rintro e9 wy1 ⟨rfl, hb⟩
 refine ⟨_, rfl, ?_⟩
 have HY1 := As (show Bt w0 wy1 J t s f on R (cb (g5) 126 #[.string c.1, .int .i64 c.2.1, .string c.2.2] :: cb (w.heap.size) 33 #[.int .i64 r.1, .int .i64 r.2] :: L) from HD.out.call hb)
 clear hb
 refine hK.out _ _ (SP.out _ _ _ _ _ _ _ HY1.out (by simp) (by simp)) (fun hHeld => ?_)
 clear hK K_
 refine nm_ ?_
 refine pu_ 5 (some 18) ?_
 refine pu_ 6 (some 19) ?_
 refine pure_ (i := 7) (N := some 20) (v := undef) (a' := ?_) #[true, true, true, true, true, true, true, true, false, false, false, false, false, false, false] rfl rfl (by kernel_rfl) (fun _ _ _ h => h) (Or.inr ⟨by rfl, rfl⟩) ?_ ?_
 rotate_left
 ·simp only [Act.put, List.setIfInBounds_toArray, List.set_cons_zero, List.set_cons_succ, i64_w, i32_w]
  rfl
 refine pure_ (i := 8) (N := some 21) (v := undef) (a' := ?_) #[true, true, true, true, true, true, true, true, true, false, false, false, false, false, false] rfl rfl (by kernel_rfl) (fun _ _ _ h => h) (Or.inr ⟨by rfl, rfl⟩) ?_ ?_
 rotate_left
 ·simp only [Act.put, List.setIfInBounds_toArray, List.set_cons_zero, List.set_cons_succ, i64_w, i32_w]
  rfl
 refine pure_ (i := 9) (N := some 22) (v := undef) (a' := ?_) #[true, true, true, true, true, true, true, true, true, true, false, false, false, false, false] rfl rfl (by kernel_rfl) (fun _ _ _ h => h) (Or.inr ⟨by rfl, rfl⟩) ?_ ?_
 rotate_left
 ·simp only [Act.put, List.setIfInBounds_toArray, List.set_cons_zero, List.set_cons_succ, i64_w, i32_w]
  rfl
 refine pure_ (i := 10) (N := some 23) (v := undef) (a' := ?_) #[true, true, true, true, true, true, true, true, true, true, true, false, false, false, false] rfl rfl (by kernel_rfl) (fun _ _ _ h => h) (Or.inr ⟨by rfl, rfl⟩) ?_ ?_
 rotate_left
 ·simp only [Act.put, List.setIfInBounds_toArray, List.set_cons_zero, List.set_cons_succ, i64_w, i32_w]
  rfl
 refine pure_ (i := 11) (N := some 24) (v := undef) (a' := ?_) #[true, true, true, true, true, true, true, true, true, true, true, true, false, false, false] rfl rfl (by kernel_rfl) (fun _ _ _ h => h) (Or.inr ⟨by rfl, rfl⟩) ?_ ?_
 rotate_left
 ·simp only [Act.put, List.setIfInBounds_toArray, List.set_cons_zero, List.set_cons_succ, i64_w, i32_w]
  rfl
 refine pure_ (i := 12) (N := some 25) (v := undef) (a' := ?_) #[true, true, true, true, true, true, true, true, true, true, true, true, true, false, false] rfl rfl (by kernel_rfl) (fun _ _ _ h => h) (Or.inr ⟨by rfl, rfl⟩) ?_ ?_
 rotate_left
 ·simp only [Act.put, List.setIfInBounds_toArray, List.set_cons_zero, List.set_cons_succ, i64_w, i32_w]
  rfl
 refine pu_ 13 (some 26) ?_
 refine pu_ 14 (some 4) ?_
 refine done_ (by kernel_rfl) ?_
 go_wp2_with fail
 exact bodyPost_ret (v := .bool false) (by simp [results, Try.results80, go_sem]) rfl ⟨rfl, HY1.out.tail.tail⟩
theorem freeRec.dead (h : Bt w0 w J t s f on R L) (r : Rf) {c : ByteArray × Int × ByteArray} (hg : Got s r c true) (hd : Pur 135 #[.int .i64 c.2.1] (.bool true)) {s' : Ar} (hh : s.has r.1 r.2 = true) (hs : s.free r.1 r.2 (rcell (⟨#[]⟩, 0, ⟨#[]⟩)) = s') (hf : 0 ≤ f) (hf2 : f ≤ 1000000) : Calls Try.prog 80 #[.pointer (some ⟨J.b, 0, none⟩), .agg #[.int .i64 r.1, .int .i64 r.2]] w fun e w' => e = .returned (.bool true) ∧ Bt w0 w' J t s' f on R L := by
 have hu33 := Try.underlying33
 have hu126 := Try.underlying126
 have hu189 := Try.underlying189
 have HM := As (show Bt w0 _ J t s f on R (cb (w.heap.size) 33 #[.int .i64 r.1, .int .i64 r.2] :: L) from h.alloc _)
 have HF := As (And.intro hf hf2)
 have HY := As (And.intro hd (And.intro hh hs))
 have HG := As hg
 clear h hg hf hf2 hd hh hs
 obtain ⟨t3_0, t3_1, t3_f0, t3_f1⟩ := HM.out.other.c2 (w.heap.size) 33 (.int .i64 r.1) (.int .i64 r.2) (by simp)
 go_enter Try.func80, Try.ntmps80
 go_upto_region 2 with (go_at_call 82; go_loud (refine (get.calls HM.out r HG.out HF.out.1 HF.out.2).mono ?_; rintro e2 w2 ⟨rfl, hh⟩; have H2 := As hh; clear hh))
 clear t3_0 t3_f0 t3_1 t3_f1
 obtain ⟨W3, hW, hM⟩ : ∃ W, W = w2.alloc (.cells #[.string c.1, .int .i64 c.2.1, .string c.2.2] 126) ∧ Bt w0 W J t s f on R (cb w2.heap.size 126 #[.string c.1, .int .i64 c.2.1, .string c.2.2] :: cb (w.heap.size) 33 #[.int .i64 r.1, .int .i64 r.2] :: L) := ⟨_, rfl, H2.out.alloc _⟩
 rw [← hW]
 have H3 := As hM
 clear hW hM
 generalize w2.heap.size = g5 at H3 ⊢
 obtain ⟨t3_0, t3_1, t3_f0, t3_f1⟩ := H3.out.other.c2 (w.heap.size) 33 (.int .i64 r.1) (.int .i64 r.2) (by simp)
 obtain ⟨t5_0, t5_1, t5_2, t5_f0, t5_f1, t5_f2⟩ := H3.out.other.c3 (g5) 126 (.string c.1) (.int .i64 c.2.1) (.string c.2.2) (by simp)
 obtain ⟨c0, c1, c2, c3⟩ := H3.out.cells
 go_region_with (first | (go_at_call 135; go_loud (have hx := H3.out; clear hx; refine (HY.out.1 _).mono ?_; rintro e4 w4 ⟨rfl, hb⟩; have H4 := As (show Bt w0 w4 J t s f on R (cb (g5) 126 #[.string c.1, .int .i64 c.2.1, .string c.2.2] :: cb (w.heap.size) 33 #[.int .i64 r.1, .int .i64 r.2] :: L) from (by first | exact H3.out.call hb | exact H3.out.drew.call hb | exact (H3.out.drewN _).call hb)); clear hb; clear t3_0 t3_f0 t3_1 t3_f1 t5_0 t5_f0 t5_1 t5_f1 t5_2 t5_f2; clear c0 c1 c2 c3; obtain ⟨t3_0, t3_1, t3_f0, t3_f1⟩ := H4.out.other.c2 (w.heap.size) 33 (.int .i64 r.1) (.int .i64 r.2) (by simp); obtain ⟨t5_0, t5_1, t5_2, t5_f0, t5_f1, t5_f2⟩ := H4.out.other.c3 (g5) 126 (.string c.1) (.int .i64 c.2.1) (.string c.2.2) (by simp); obtain ⟨c0, c1, c2, c3⟩ := H4.out.cells)) | (go_at_call 133; go_loud (refine (rfree.calls (show Bt w0 _ J t s f on R (cb (g5) 126 #[.string c.1, .int .i64 c.2.1, .string c.2.2] :: cb (w.heap.size) 33 #[.int .i64 r.1, .int .i64 r.2] :: L) from (by first | exact H4.out | exact H4.out.drew | exact H4.out.drewN _)) r HY.out.2.1 HY.out.2.2).mono ?_; rintro e5 w5 ⟨rfl, h5⟩; have H5 := As h5; clear h5; clear t3_0 t3_f0 t3_1 t3_f1 t5_0 t5_f0 t5_1 t5_f1 t5_2 t5_f2; clear c0 c1 c2 c3)))
 all_goals (
  go_wp2_with fail
  exact bodyPost_ret (v := .bool true) (by simp [results, Try.results80, go_sem]) rfl ⟨rfl, (by first | exact H5.out.tail.tail | exact H5.out.drew.tail.tail)⟩)
theorem lock.locked (h : Bt w0 w J t s f on R L) (r : Rf) {c : ByteArray × Int × ByteArray} (hg : Got s r c true) (hk : Pur 134 #[.int .i64 c.2.1] (.bool true)) (hf : 0 ≤ f) (hf2 : f ≤ 1000000) : Calls Try.prog 79 #[.pointer (some ⟨J.b, 0, none⟩), .agg #[.int .i64 r.1, .int .i64 r.2]] w fun e w' => e = .returned (.bool false) ∧ Bt w0 w' J t s f on R L := by
 have hu33 := Try.underlying33
 have hu126 := Try.underlying126
 have hu189 := Try.underlying189
 have HM := As (show Bt w0 _ J t s f on R (cb (w.heap.size) 33 #[.int .i64 r.1, .int .i64 r.2] :: L) from h.alloc _)
 have HF := As (And.intro hf hf2)
 have HY := As (hk)
 have HG := As hg
 clear h hg hf hf2 hk
 obtain ⟨t3_0, t3_1, t3_f0, t3_f1⟩ := HM.out.other.c2 (w.heap.size) 33 (.int .i64 r.1) (.int .i64 r.2) (by simp)
 go_enter Try.func79, Try.ntmps79
 go_upto_region 2 with (go_at_call 82; go_loud (refine (get.calls HM.out r HG.out HF.out.1 HF.out.2).mono ?_; rintro e2 w2 ⟨rfl, hh⟩; have H2 := As hh; clear hh))
 clear t3_0 t3_f0 t3_1 t3_f1
 obtain ⟨W3, hW, hM⟩ : ∃ W, W = w2.alloc (.cells #[.string c.1, .int .i64 c.2.1, .string c.2.2] 126) ∧ Bt w0 W J t s f on R (cb w2.heap.size 126 #[.string c.1, .int .i64 c.2.1, .string c.2.2] :: cb (w.heap.size) 33 #[.int .i64 r.1, .int .i64 r.2] :: L) := ⟨_, rfl, H2.out.alloc _⟩
 rw [← hW]
 have H3 := As hM
 clear hW hM
 generalize w2.heap.size = g5 at H3 ⊢
 obtain ⟨t3_0, t3_1, t3_f0, t3_f1⟩ := H3.out.other.c2 (w.heap.size) 33 (.int .i64 r.1) (.int .i64 r.2) (by simp)
 obtain ⟨t5_0, t5_1, t5_2, t5_f0, t5_f1, t5_f2⟩ := H3.out.other.c3 (g5) 126 (.string c.1) (.int .i64 c.2.1) (.string c.2.2) (by simp)
 obtain ⟨c0, c1, c2, c3⟩ := H3.out.cells
 go_wp2_with (first | (go_at_call 134; go_loud (have hx := H3.out; clear hx; refine (HY.out _).mono ?_; rintro e4 w4 ⟨rfl, hb⟩; have H4 := As (show Bt w0 w4 J t s f on R (cb (g5) 126 #[.string c.1, .int .i64 c.2.1, .string c.2.2] :: cb (w.heap.size) 33 #[.int .i64 r.1, .int .i64 r.2] :: L) from (by first | exact H3.out.call hb | exact H3.out.drew.call hb | exact (H3.out.drewN _).call hb)); clear hb; clear t3_0 t3_f0 t3_1 t3_f1 t5_0 t5_f0 t5_1 t5_f1 t5_2 t5_f2; clear c0 c1 c2 c3; obtain ⟨t3_0, t3_1, t3_f0, t3_f1⟩ := H4.out.other.c2 (w.heap.size) 33 (.int .i64 r.1) (.int .i64 r.2) (by simp); obtain ⟨t5_0, t5_1, t5_2, t5_f0, t5_f1, t5_f2⟩ := H4.out.other.c3 (g5) 126 (.string c.1) (.int .i64 c.2.1) (.string c.2.2) (by simp); obtain ⟨c0, c1, c2, c3⟩ := H4.out.cells)))
 exact bodyPost_ret (v := .bool false) (by simp [results, Try.results79, go_sem]) rfl ⟨rfl, H4.out.tail.tail⟩
theorem lock.dead (h : Bt w0 w J t s f on R L) (r : Rf) {c : ByteArray × Int × ByteArray} (hg : Got s r c true) (hk : Pur 134 #[.int .i64 c.2.1] (.bool false)) (hd : Pur 135 #[.int .i64 c.2.1] (.bool true)) (hf : 0 ≤ f) (hf2 : f ≤ 1000000) : Calls Try.prog 79 #[.pointer (some ⟨J.b, 0, none⟩), .agg #[.int .i64 r.1, .int .i64 r.2]] w fun e w' => e = .returned (.bool false) ∧ Bt w0 w' J t s f on R L := by
 have hu33 := Try.underlying33
 have hu126 := Try.underlying126
 have hu189 := Try.underlying189
 have HM := As (show Bt w0 _ J t s f on R (cb (w.heap.size) 33 #[.int .i64 r.1, .int .i64 r.2] :: L) from h.alloc _)
 have HF := As (And.intro hf hf2)
 have HY := As (And.intro hk hd)
 have HG := As hg
 clear h hg hf hf2 hk hd
 obtain ⟨t3_0, t3_1, t3_f0, t3_f1⟩ := HM.out.other.c2 (w.heap.size) 33 (.int .i64 r.1) (.int .i64 r.2) (by simp)
 go_enter Try.func79, Try.ntmps79
 go_upto_region 2 with (go_at_call 82; go_loud (refine (get.calls HM.out r HG.out HF.out.1 HF.out.2).mono ?_; rintro e2 w2 ⟨rfl, hh⟩; have H2 := As hh; clear hh))
 clear t3_0 t3_f0 t3_1 t3_f1
 obtain ⟨W3, hW, hM⟩ : ∃ W, W = w2.alloc (.cells #[.string c.1, .int .i64 c.2.1, .string c.2.2] 126) ∧ Bt w0 W J t s f on R (cb w2.heap.size 126 #[.string c.1, .int .i64 c.2.1, .string c.2.2] :: cb (w.heap.size) 33 #[.int .i64 r.1, .int .i64 r.2] :: L) := ⟨_, rfl, H2.out.alloc _⟩
 rw [← hW]
 have H3 := As hM
 clear hW hM
 generalize w2.heap.size = g5 at H3 ⊢
 obtain ⟨t3_0, t3_1, t3_f0, t3_f1⟩ := H3.out.other.c2 (w.heap.size) 33 (.int .i64 r.1) (.int .i64 r.2) (by simp)
 obtain ⟨t5_0, t5_1, t5_2, t5_f0, t5_f1, t5_f2⟩ := H3.out.other.c3 (g5) 126 (.string c.1) (.int .i64 c.2.1) (.string c.2.2) (by simp)
 obtain ⟨c0, c1, c2, c3⟩ := H3.out.cells
 go_wp2_with (first | (go_at_call 135; go_loud (have hx := H4.out; clear hx; refine (HY.out.2 _).mono ?_; rintro e4 w5 ⟨rfl, hb⟩; have H5 := As (show Bt w0 w5 J t s f on R (cb (g5) 126 #[.string c.1, .int .i64 c.2.1, .string c.2.2] :: cb (w.heap.size) 33 #[.int .i64 r.1, .int .i64 r.2] :: L) from (by first | exact H4.out.call hb | exact H4.out.drew.call hb | exact (H4.out.drewN _).call hb)); clear hb; clear t3_0 t3_f0 t3_1 t3_f1 t5_0 t5_f0 t5_1 t5_f1 t5_2 t5_f2; clear c0 c1 c2 c3; obtain ⟨t3_0, t3_1, t3_f0, t3_f1⟩ := H5.out.other.c2 (w.heap.size) 33 (.int .i64 r.1) (.int .i64 r.2) (by simp); obtain ⟨t5_0, t5_1, t5_2, t5_f0, t5_f1, t5_f2⟩ := H5.out.other.c3 (g5) 126 (.string c.1) (.int .i64 c.2.1) (.string c.2.2) (by simp); obtain ⟨c0, c1, c2, c3⟩ := H5.out.cells)) | (go_at_call 134; go_loud (have hx := H3.out; clear hx; refine (HY.out.1 _).mono ?_; rintro e4 w4 ⟨rfl, hb⟩; have H4 := As (show Bt w0 w4 J t s f on R (cb (g5) 126 #[.string c.1, .int .i64 c.2.1, .string c.2.2] :: cb (w.heap.size) 33 #[.int .i64 r.1, .int .i64 r.2] :: L) from (by first | exact H3.out.call hb | exact H3.out.drew.call hb | exact (H3.out.drewN _).call hb)); clear hb; clear t3_0 t3_f0 t3_1 t3_f1 t5_0 t5_f0 t5_1 t5_f1 t5_2 t5_f2; clear c0 c1 c2 c3; obtain ⟨t3_0, t3_1, t3_f0, t3_f1⟩ := H4.out.other.c2 (w.heap.size) 33 (.int .i64 r.1) (.int .i64 r.2) (by simp); obtain ⟨t5_0, t5_1, t5_2, t5_f0, t5_f1, t5_f2⟩ := H4.out.other.c3 (g5) 126 (.string c.1) (.int .i64 c.2.1) (.string c.2.2) (by simp); obtain ⟨c0, c1, c2, c3⟩ := H4.out.cells)))
 exact bodyPost_ret (v := .bool false) (by simp [results, Try.results79, go_sem]) rfl ⟨rfl, H5.out.tail.tail⟩
theorem lock.ok (h : Bt w0 w J t s f on R L) (r : Rf) {c : ByteArray × Int × ByteArray} (hg : Got s r c true) (hk : Pur 134 #[.int .i64 c.2.1] (.bool false)) (hd : Pur 135 #[.int .i64 c.2.1] (.bool false)) {ab : Bool} {wd : Int} (ha : Pur 136 #[.int .i64 c.2.1] (.bool ab)) (hw : Pur 132 #[.int .i64 c.2.1, .bool true, .bool ab, .bool false] (.int .i64 wd)) {s' : Ar} (hh : s.has r.1 r.2 = true) (hs : s.set r.1 r.2 (rcell (c.1, wd, c.2.2)) = s') (hf : 0 ≤ f) (hf2 : f ≤ 1000000) : Calls Try.prog 79 #[.pointer (some ⟨J.b, 0, none⟩), .agg #[.int .i64 r.1, .int .i64 r.2]] w fun e w' => e = .returned (.bool true) ∧ Bt w0 w' J t s' f on R L := by
 have hu33 := Try.underlying33
 have hu126 := Try.underlying126
 have hu189 := Try.underlying189
 have HM := As (show Bt w0 _ J t s f on R (cb (w.heap.size) 33 #[.int .i64 r.1, .int .i64 r.2] :: L) from h.alloc _)
 have HF := As (And.intro hf hf2)
 have HY := As (And.intro hk (And.intro hd (And.intro ha (And.intro hw (And.intro hh hs)))))
 have HG := As hg
 clear h hg hf hf2 hk hd ha hw hh hs
 obtain ⟨t3_0, t3_1, t3_f0, t3_f1⟩ := HM.out.other.c2 (w.heap.size) 33 (.int .i64 r.1) (.int .i64 r.2) (by simp)
 go_enter Try.func79, Try.ntmps79
 go_upto_region 2 with (go_at_call 82; go_loud (refine (get.calls HM.out r HG.out HF.out.1 HF.out.2).mono ?_; rintro e2 w2 ⟨rfl, hh⟩; have H2 := As hh; clear hh))
 clear t3_0 t3_f0 t3_1 t3_f1
 obtain ⟨W3, hW, hM⟩ : ∃ W, W = w2.alloc (.cells #[.string c.1, .int .i64 c.2.1, .string c.2.2] 126) ∧ Bt w0 W J t s f on R (cb w2.heap.size 126 #[.string c.1, .int .i64 c.2.1, .string c.2.2] :: cb (w.heap.size) 33 #[.int .i64 r.1, .int .i64 r.2] :: L) := ⟨_, rfl, H2.out.alloc _⟩
 rw [← hW]
 have H3 := As hM
 clear hW hM
 generalize w2.heap.size = g5 at H3 ⊢
 obtain ⟨t3_0, t3_1, t3_f0, t3_f1⟩ := H3.out.other.c2 (w.heap.size) 33 (.int .i64 r.1) (.int .i64 r.2) (by simp)
 obtain ⟨t5_0, t5_1, t5_2, t5_f0, t5_f1, t5_f2⟩ := H3.out.other.c3 (g5) 126 (.string c.1) (.int .i64 c.2.1) (.string c.2.2) (by simp)
 obtain ⟨c0, c1, c2, c3⟩ := H3.out.cells
 go_upto_region 4 with (first | (go_at_call 135; go_loud (have hx := H4.out; clear hx; refine (HY.out.2.1 _).mono ?_; rintro e4 w5 ⟨rfl, hb⟩; have H5 := As (show Bt w0 w5 J t s f on R (cb (g5) 126 #[.string c.1, .int .i64 c.2.1, .string c.2.2] :: cb (w.heap.size) 33 #[.int .i64 r.1, .int .i64 r.2] :: L) from (by first | exact H4.out.call hb | exact H4.out.drew.call hb | exact (H4.out.drewN _).call hb)); clear hb; clear t3_0 t3_f0 t3_1 t3_f1 t5_0 t5_f0 t5_1 t5_f1 t5_2 t5_f2; clear c0 c1 c2 c3; obtain ⟨t3_0, t3_1, t3_f0, t3_f1⟩ := H5.out.other.c2 (w.heap.size) 33 (.int .i64 r.1) (.int .i64 r.2) (by simp); obtain ⟨t5_0, t5_1, t5_2, t5_f0, t5_f1, t5_f2⟩ := H5.out.other.c3 (g5) 126 (.string c.1) (.int .i64 c.2.1) (.string c.2.2) (by simp); obtain ⟨c0, c1, c2, c3⟩ := H5.out.cells)) | (go_at_call 134; go_loud (have hx := H3.out; clear hx; refine (HY.out.1 _).mono ?_; rintro e4 w4 ⟨rfl, hb⟩; have H4 := As (show Bt w0 w4 J t s f on R (cb (g5) 126 #[.string c.1, .int .i64 c.2.1, .string c.2.2] :: cb (w.heap.size) 33 #[.int .i64 r.1, .int .i64 r.2] :: L) from (by first | exact H3.out.call hb | exact H3.out.drew.call hb | exact (H3.out.drewN _).call hb)); clear hb; clear t3_0 t3_f0 t3_1 t3_f1 t5_0 t5_f0 t5_1 t5_f1 t5_2 t5_f2; clear c0 c1 c2 c3; obtain ⟨t3_0, t3_1, t3_f0, t3_f1⟩ := H4.out.other.c2 (w.heap.size) 33 (.int .i64 r.1) (.int .i64 r.2) (by simp); obtain ⟨t5_0, t5_1, t5_2, t5_f0, t5_f1, t5_f2⟩ := H4.out.other.c3 (g5) 126 (.string c.1) (.int .i64 c.2.1) (.string c.2.2) (by simp); obtain ⟨c0, c1, c2, c3⟩ := H4.out.cells)))
 clear t3_0 t3_f0 t3_1 t3_f1 t5_0 t5_f0 t5_1 t5_f1 t5_2 t5_f2; clear c0 c1 c2 c3
 have SQ := As (show ∀ (w' : World) (t' : Tm) (s' : Ar) (f' : Int) (on' : Value) (R' L' : List Ob), Bt w0 w' J t' s' f' on' R' L' → cb (w.heap.size) 33 #[.int .i64 r.1, .int .i64 r.2] ∈ L' → cb (g5) 126 #[.string c.1, .int .i64 c.2.1, .string c.2.2] ∈ L' → (w'.cell? ⟨J.b, 0, none⟩ = some (.pointer (some ⟨J.K.1, 0, none⟩)) ∧ w'.cell? ⟨J.b, 1, none⟩ = some (.pointer (some ⟨J.g, 0, none⟩)) ∧ w'.cell? ⟨w.heap.size, 0, none⟩ = some (.int .i64 r.1) ∧ w'.cell? ⟨w.heap.size, 1, none⟩ = some (.int .i64 r.2) ∧ w'.cell? ⟨g5, 0, none⟩ = some (.string c.1) ∧ w'.cell? ⟨g5, 1, none⟩ = some (.int .i64 c.2.1) ∧ w'.cell? ⟨g5, 2, none⟩ = some (.string c.2.2)) from fun w' t' s' f' on' R' L' h m0 m1 => by
  obtain ⟨c0, c1, -, -⟩ := h.cells
  obtain ⟨t3_0, t3_1, -, -⟩ := h.other.c2 _ _ _ _ m0
  obtain ⟨t5_0, t5_1, t5_2, -, -, -⟩ := h.other.c3 _ _ _ _ _ m1
  exact ⟨c0, c1, t3_0, t3_1, t5_0, t5_1, t5_2⟩)
 have HDSQ := As H5.out.drew
 refine start_ (n := 8) (S := fun w' => w'.cell? ⟨J.b, 0, none⟩ = some (.pointer (some ⟨J.K.1, 0, none⟩)) ∧ w'.cell? ⟨J.b, 1, none⟩ = some (.pointer (some ⟨J.g, 0, none⟩)) ∧ w'.cell? ⟨w.heap.size, 0, none⟩ = some (.int .i64 r.1) ∧ w'.cell? ⟨w.heap.size, 1, none⟩ = some (.int .i64 r.2) ∧ w'.cell? ⟨g5, 0, none⟩ = some (.string c.1) ∧ w'.cell? ⟨g5, 1, none⟩ = some (.int .i64 c.2.1) ∧ w'.cell? ⟨g5, 2, none⟩ = some (.string c.2.2)) (ds := [7]) #[false, false, false, false, false, false, false, false] (by kernel_rfl) rfl rfl (SQ.out _ _ _ _ _ _ _ HDSQ.out (by simp) (by simp)) (fun hHeld => ?_)
 generalize w5.drew = wxsq at HDSQ hHeld ⊢
 refine pu_ 0 (some 25) ?_
 refine pu_ 2 (some 27) ?_
 refine ta_ 1 (some 26) hHeld ?_ (hy := Or.inl ⟨by rfl, by rintro w' ⟨s0, s1, s2, s3, s4, s5, s6⟩; go_simp; with_reducible rfl⟩)
 refine ta_ 3 (some 28) hHeld ?_ (hy := Or.inl ⟨by rfl, by rintro w' ⟨s0, s1, s2, s3, s4, s5, s6⟩; go_simp; with_reducible rfl⟩)
 refine on_ 4 (some 29) fun K_ hK => ?_
 refine gs_ Try.func136 #[.int .i64 c.2.1] ?_
 refine (HY.out.2.2.1 _).mono ?_
 rintro e9 wysq1 ⟨rfl, hb⟩
 refine ⟨_, rfl, ?_⟩
 have HYsq1 := As (show Bt w0 wysq1 J t s f on R (cb (g5) 126 #[.string c.1, .int .i64 c.2.1, .string c.2.2] :: cb (w.heap.size) 33 #[.int .i64 r.1, .int .i64 r.2] :: L) from HDSQ.out.call hb)
 clear hb
 refine hK.out _ _ (SQ.out _ _ _ _ _ _ _ HYsq1.out (by simp) (by simp)) (fun hHeld => ?_)
 clear hK K_
 refine nm_ ?_
 refine on_ 5 (some 30) fun K_ hK => ?_
 refine gs_ Try.func132 #[.int .i64 c.2.1, .bool true, .bool ab, .bool false] ?_
 refine (HY.out.2.2.2.1 _).mono ?_
 rintro e9 wysq2 ⟨rfl, hb⟩
 refine ⟨_, rfl, ?_⟩
 have HYsq2 := As (show Bt w0 wysq2 J t s f on R (cb (g5) 126 #[.string c.1, .int .i64 c.2.1, .string c.2.2] :: cb (w.heap.size) 33 #[.int .i64 r.1, .int .i64 r.2] :: L) from HYsq1.out.call hb)
 clear hb
 refine hK.out _ _ (SQ.out _ _ _ _ _ _ _ HYsq2.out (by simp) (by simp)) (fun hHeld => ?_)
 clear hK K_
 refine nm_ ?_
 refine pu_ 6 (some 31) ?_
 refine la_ 7 none fun K_ hK => ?_
 obtain ⟨b0, b1, b2, d0, d1, d2⟩ := HYsq2.out.other.c3 (g5) 126 (.string c.1) (.int .i64 c.2.1) (.string c.2.2) (by simp)
 refine sk_ (hK.out _ _ ?_)
 clear hK K_ b0 b1 b2 d0 d1 d2
 obtain ⟨wysq3, hW, hvv⟩ : ∃ W, W = _ ∧ Bt w0 W J t s f on R (cb (g5) 126 #[.string c.1, .int .i64 wd, .string c.2.2] :: cb (w.heap.size) 33 #[.int .i64 r.1, .int .i64 r.2] :: L) := ⟨_, rfl, Bt.putB0 HYsq2.out 1 (.int .i64 wd) rfl⟩
 rw [← hW]
 have HYsq3 := As hvv
 clear hW hvv
 refine done_ (by kernel_rfl) ?_
 clear SQ
 go_upto_region 5 with (fail)
 have SR := As (show ∀ (w' : World) (t' : Tm) (s' : Ar) (f' : Int) (on' : Value) (R' L' : List Ob), Bt w0 w' J t' s' f' on' R' L' → cb (w.heap.size) 33 #[.int .i64 r.1, .int .i64 r.2] ∈ L' → cb (g5) 126 #[.string c.1, .int .i64 wd, .string c.2.2] ∈ L' → (w'.cell? ⟨J.b, 0, none⟩ = some (.pointer (some ⟨J.K.1, 0, none⟩)) ∧ w'.cell? ⟨J.b, 1, none⟩ = some (.pointer (some ⟨J.g, 0, none⟩)) ∧ w'.cell? ⟨w.heap.size, 0, none⟩ = some (.int .i64 r.1) ∧ w'.cell? ⟨w.heap.size, 1, none⟩ = some (.int .i64 r.2) ∧ w'.cell? ⟨g5, 0, none⟩ = some (.string c.1) ∧ w'.cell? ⟨g5, 1, none⟩ = some (.int .i64 wd) ∧ w'.cell? ⟨g5, 2, none⟩ = some (.string c.2.2)) from fun w' t' s' f' on' R' L' h m0 m1 => by
  obtain ⟨c0, c1, -, -⟩ := h.cells
  obtain ⟨t3_0, t3_1, -, -⟩ := h.other.c2 _ _ _ _ m0
  obtain ⟨t5_0, t5_1, t5_2, -, -, -⟩ := h.other.c3 _ _ _ _ _ m1
  exact ⟨c0, c1, t3_0, t3_1, t5_0, t5_1, t5_2⟩)
 have HDSR := As HYsq3.out.drew
 refine start_ (n := 8) (S := fun w' => w'.cell? ⟨J.b, 0, none⟩ = some (.pointer (some ⟨J.K.1, 0, none⟩)) ∧ w'.cell? ⟨J.b, 1, none⟩ = some (.pointer (some ⟨J.g, 0, none⟩)) ∧ w'.cell? ⟨w.heap.size, 0, none⟩ = some (.int .i64 r.1) ∧ w'.cell? ⟨w.heap.size, 1, none⟩ = some (.int .i64 r.2) ∧ w'.cell? ⟨g5, 0, none⟩ = some (.string c.1) ∧ w'.cell? ⟨g5, 1, none⟩ = some (.int .i64 wd) ∧ w'.cell? ⟨g5, 2, none⟩ = some (.string c.2.2)) (ds := []) #[false, false, false, false, false, false, false, false] (by kernel_rfl) rfl rfl (SR.out _ _ _ _ _ _ _ HDSR.out (by simp) (by simp)) (fun hHeld => ?_)
 generalize wysq3.drew = wxsr at HDSR hHeld ⊢
 refine pu_ 0 (some 32) ?_
 refine pu_ 1 (some 33) ?_
 refine pu_ 2 (some 34) ?_
 refine ta_ 3 (some 35) hHeld ?_ (hy := Or.inl ⟨by rfl, by rintro w' ⟨s0, s1, s2, s3, s4, s5, s6⟩; go_simp; with_reducible rfl⟩)
 refine ta_ 4 (some 36) hHeld ?_ (hy := Or.inl ⟨by rfl, by rintro w' ⟨s0, s1, s2, s3, s4, s5, s6⟩; go_simp; with_reducible rfl⟩)
 refine ta_ 5 (some 37) hHeld ?_ (hy := Or.inl ⟨by rfl, by rintro w' ⟨s0, s1, s2, s3, s4, s5, s6⟩; go_simp; with_reducible rfl⟩)
 refine on_ 6 (some 38) fun K_ hK => ?_
 refine gs_ Try.func137 #[.pointer (some ⟨J.g, 0, none⟩), .agg #[.int .i64 r.1, .int .i64 r.2], .agg #[.string c.1, .int .i64 wd, .string c.2.2]] ?_
 refine (rset.calls HDSR.out r (c.1, wd, c.2.2) HY.out.2.2.2.2.1 HY.out.2.2.2.2.2).mono ?_
 rintro e9 wysr1 ⟨rfl, hh⟩
 refine ⟨_, rfl, ?_⟩
 have HYsr1 := As (show Bt w0 wysr1 J t s' f on R (cb (g5) 126 #[.string c.1, .int .i64 wd, .string c.2.2] :: cb (w.heap.size) 33 #[.int .i64 r.1, .int .i64 r.2] :: L) from hh)
 clear hh
 refine hK.out _ _ (SR.out _ _ _ _ _ _ _ HYsr1.out (by simp) (by simp)) (fun hHeld => ?_)
 clear hK K_
 refine nm_ ?_
 refine pu_ 7 (some 4) ?_
 refine done_ (by kernel_rfl) ?_
 go_wp2_with fail
 exact bodyPost_ret (v := .bool true) (by simp [results, Try.results79, go_sem]) rfl ⟨rfl, HYsr1.out.tail.tail⟩
end
section
variable {w0 w w1 : World} {L L' R : List Ob} {t : Tm} {s : Ar} {f : Int} {on : Value} {J : Jx}
theorem unlock.no (h : Bt w0 w J t s f on R L) (r : Rf) {c : ByteArray × Int × ByteArray} (hg : Got s r c false) (hf : 0 ≤ f) (hf2 : f ≤ 1000000) : Calls Try.prog 83 #[.pointer (some ⟨J.b, 0, none⟩), .agg #[.int .i64 r.1, .int .i64 r.2]] w fun e w' => e = .returned (.bool false) ∧ Bt w0 w' J t s (f + 1) on R L := by
 have hu33 := Try.underlying33
 have hu126 := Try.underlying126
 have hu189 := Try.underlying189
 have HM := As (show Bt w0 _ J t s f on R (cb (w.heap.size) 33 #[.int .i64 r.1, .int .i64 r.2] :: L) from h.alloc _)
 have HF := As (And.intro hf hf2)
 have HY := As (And.intro hg trivial)
 clear h hf hf2 hg
 obtain ⟨t3_0, t3_1, t3_f0, t3_f1⟩ := HM.out.other.c2 (w.heap.size) 33 (.int .i64 r.1) (.int .i64 r.2) (by simp)
 go_enter Try.func83, Try.ntmps83
 go_upto_region 2 with (go_at_call 139; go_loud (refine (held.calls (lk := true) HM.out r HY.out.1 (fun e => by cases e) HF.out.1 HF.out.2).mono ?_; rintro e2 w2 ⟨rfl, hh⟩; have H2 := As hh; clear hh))
 clear t3_0 t3_f0 t3_1 t3_f1
 obtain ⟨W3, hW, hM⟩ : ∃ W, W = w2.alloc (.cells #[.string c.1, .int .i64 c.2.1, .string c.2.2] 126) ∧ Bt w0 W J t s (f + 1) on R (cb w2.heap.size 126 #[.string c.1, .int .i64 c.2.1, .string c.2.2] :: cb (w.heap.size) 33 #[.int .i64 r.1, .int .i64 r.2] :: L) := ⟨_, rfl, H2.out.alloc _⟩
 rw [← hW]
 have H3 := As hM
 clear hW hM
 generalize w2.heap.size = g5 at H3 ⊢
 obtain ⟨t3_0, t3_1, t3_f0, t3_f1⟩ := H3.out.other.c2 (w.heap.size) 33 (.int .i64 r.1) (.int .i64 r.2) (by simp)
 obtain ⟨t5_0, t5_1, t5_2, t5_f0, t5_f1, t5_f2⟩ := H3.out.other.c3 (g5) 126 (.string c.1) (.int .i64 c.2.1) (.string c.2.2) (by simp)
 obtain ⟨c0, c1, c2, c3⟩ := H3.out.cells
 go_wp2_with fail
 exact bodyPost_ret (v := .bool false) (by simp [results, Try.results83, go_sem]) rfl ⟨rfl, H3.out.tail.tail⟩
theorem install.no (h : Bt w0 w J t s f on R L) (r : Rf) {c : ByteArray × Int × ByteArray} (wd : Int) (dd : ByteArray) (ab : Bool) (hg : Got s r c false) (hf : 0 ≤ f) (hf2 : f ≤ 1000000) : Calls Try.prog 84 #[.pointer (some ⟨J.b, 0, none⟩), .agg #[.int .i64 r.1, .int .i64 r.2], .int .i64 wd, .string dd, .bool ab] w fun e w' => e = .returned (.bool false) ∧ Bt w0 w' J t s (f + 1) on R L := by
 have hu33 := Try.underlying33
 have hu126 := Try.underlying126
 have hu189 := Try.underlying189
 have HM := As (show Bt w0 _ J t s f on R (cb (w.heap.size) 33 #[.int .i64 r.1, .int .i64 r.2] :: L) from h.alloc _)
 have HF := As (And.intro hf hf2)
 have HY := As (And.intro hg trivial)
 clear h hf hf2 hg
 obtain ⟨t3_0, t3_1, t3_f0, t3_f1⟩ := HM.out.other.c2 (w.heap.size) 33 (.int .i64 r.1) (.int .i64 r.2) (by simp)
 go_enter Try.func84, Try.ntmps84
 go_upto_region 2 with (go_at_call 139; go_loud (refine (held.calls (lk := true) HM.out r HY.out.1 (fun e => by cases e) HF.out.1 HF.out.2).mono ?_; rintro e2 w2 ⟨rfl, hh⟩; have H2 := As hh; clear hh))
 clear t3_0 t3_f0 t3_1 t3_f1
 obtain ⟨W3, hW, hM⟩ : ∃ W, W = w2.alloc (.cells #[.string c.1, .int .i64 c.2.1, .string c.2.2] 126) ∧ Bt w0 W J t s (f + 1) on R (cb w2.heap.size 126 #[.string c.1, .int .i64 c.2.1, .string c.2.2] :: cb (w.heap.size) 33 #[.int .i64 r.1, .int .i64 r.2] :: L) := ⟨_, rfl, H2.out.alloc _⟩
 rw [← hW]
 have H3 := As hM
 clear hW hM
 generalize w2.heap.size = g5 at H3 ⊢
 obtain ⟨t3_0, t3_1, t3_f0, t3_f1⟩ := H3.out.other.c2 (w.heap.size) 33 (.int .i64 r.1) (.int .i64 r.2) (by simp)
 obtain ⟨t5_0, t5_1, t5_2, t5_f0, t5_f1, t5_f2⟩ := H3.out.other.c3 (g5) 126 (.string c.1) (.int .i64 c.2.1) (.string c.2.2) (by simp)
 obtain ⟨c0, c1, c2, c3⟩ := H3.out.cells
 go_wp2_with fail
 exact bodyPost_ret (v := .bool false) (by simp [results, Try.results84, go_sem]) rfl ⟨rfl, H3.out.tail.tail⟩
theorem install.ok (h : Bt w0 w J t s f on R L) (r : Rf) {c : ByteArray × Int × ByteArray} (w1' : Int) (dd : ByteArray) (ab : Bool) {wd : Int} (hg : Got s r c true) (hk : Pur 134 #[.int .i64 c.2.1] (.bool true)) (hw : Pur 132 #[.int .i64 w1', .bool false, .bool ab, .bool false] (.int .i64 wd)) {s' : Ar} (hh : s.has r.1 r.2 = true) (hs : s.set r.1 r.2 (rcell (c.1, wd, dd)) = s') (hf : 0 ≤ f) (hf2 : f ≤ 1000000) : Calls Try.prog 84 #[.pointer (some ⟨J.b, 0, none⟩), .agg #[.int .i64 r.1, .int .i64 r.2], .int .i64 w1', .string dd, .bool ab] w fun e w' => e = .returned (.bool true) ∧ Bt w0 w' J t s' f on R L := by
 have hu33 := Try.underlying33
 have hu126 := Try.underlying126
 have hu189 := Try.underlying189
 have HM := As (show Bt w0 _ J t s f on R (cb (w.heap.size) 33 #[.int .i64 r.1, .int .i64 r.2] :: L) from h.alloc _)
 have HF := As (And.intro hf hf2)
 have HY := As (And.intro hg (And.intro hk (And.intro hw (And.intro hh hs))))
 clear h hf hf2 hg hk hw hh hs
 obtain ⟨t3_0, t3_1, t3_f0, t3_f1⟩ := HM.out.other.c2 (w.heap.size) 33 (.int .i64 r.1) (.int .i64 r.2) (by simp)
 go_enter Try.func84, Try.ntmps84
 go_upto_region 2 with (go_at_call 139; go_loud (refine (held.calls (lk := true) HM.out r HY.out.1 (fun _ => HY.out.2.1) HF.out.1 HF.out.2).mono ?_; rintro e2 w2 ⟨rfl, hh⟩; have H2 := As hh; clear hh))
 clear t3_0 t3_f0 t3_1 t3_f1
 obtain ⟨W3, hW, hM⟩ : ∃ W, W = w2.alloc (.cells #[.string c.1, .int .i64 c.2.1, .string c.2.2] 126) ∧ Bt w0 W J t s f on R (cb w2.heap.size 126 #[.string c.1, .int .i64 c.2.1, .string c.2.2] :: cb (w.heap.size) 33 #[.int .i64 r.1, .int .i64 r.2] :: L) := ⟨_, rfl, H2.out.alloc _⟩
 rw [← hW]
 have H3 := As hM
 clear hW hM
 generalize w2.heap.size = g5 at H3 ⊢
 obtain ⟨t3_0, t3_1, t3_f0, t3_f1⟩ := H3.out.other.c2 (w.heap.size) 33 (.int .i64 r.1) (.int .i64 r.2) (by simp)
 obtain ⟨t5_0, t5_1, t5_2, t5_f0, t5_f1, t5_f2⟩ := H3.out.other.c3 (g5) 126 (.string c.1) (.int .i64 c.2.1) (.string c.2.2) (by simp)
 obtain ⟨c0, c1, c2, c3⟩ := H3.out.cells
 go_upto_region 5 with (go_at_call 132; go_loud (have hx := H3.out; clear hx; refine (HY.out.2.2.1 _).mono ?_; rintro e4 w4 ⟨rfl, hb⟩; have H4 := As (show Bt w0 w4 J t s f on R (cb (g5) 126 #[.string c.1, .int .i64 c.2.1, .string c.2.2] :: cb (w.heap.size) 33 #[.int .i64 r.1, .int .i64 r.2] :: L) from (by first | exact H3.out.call hb | exact H3.out.drew.call hb | exact (H3.out.drewN _).call hb)); clear hb; clear t3_0 t3_f0 t3_1 t3_f1 t5_0 t5_f0 t5_1 t5_f1 t5_2 t5_f2; clear c0 c1 c2 c3; obtain ⟨t3_0, t3_1, t3_f0, t3_f1⟩ := H4.out.other.c2 (w.heap.size) 33 (.int .i64 r.1) (.int .i64 r.2) (by simp); obtain ⟨t5_0, t5_1, t5_2, t5_f0, t5_f1, t5_f2⟩ := H4.out.other.c3 (g5) 126 (.string c.1) (.int .i64 c.2.1) (.string c.2.2) (by simp); obtain ⟨c0, c1, c2, c3⟩ := H4.out.cells))
 obtain ⟨W5, hW, hM⟩ : ∃ W, W = _ ∧ Bt w0 W J t s f on R (cb (g5) 126 #[.string c.1, .int .i64 wd, .string dd] :: cb (w.heap.size) 33 #[.int .i64 r.1, .int .i64 r.2] :: L) := ⟨_, rfl, (H4.out.putB0 1 (.int .i64 wd) rfl).putB0 2 (.string dd) rfl⟩
 rw [← hW]
 have H5 := As hM
 clear hW hM
 clear t3_0 t3_f0 t3_1 t3_f1 t5_0 t5_f0 t5_1 t5_f1 t5_2 t5_f2; clear c0 c1 c2 c3
 have SR := As (show ∀ (w' : World) (t' : Tm) (s' : Ar) (f' : Int) (on' : Value) (R' L' : List Ob), Bt w0 w' J t' s' f' on' R' L' → cb (w.heap.size) 33 #[.int .i64 r.1, .int .i64 r.2] ∈ L' → cb (g5) 126 #[.string c.1, .int .i64 wd, .string dd] ∈ L' → (w'.cell? ⟨J.b, 0, none⟩ = some (.pointer (some ⟨J.K.1, 0, none⟩)) ∧ w'.cell? ⟨J.b, 1, none⟩ = some (.pointer (some ⟨J.g, 0, none⟩)) ∧ w'.cell? ⟨w.heap.size, 0, none⟩ = some (.int .i64 r.1) ∧ w'.cell? ⟨w.heap.size, 1, none⟩ = some (.int .i64 r.2) ∧ w'.cell? ⟨g5, 0, none⟩ = some (.string c.1) ∧ w'.cell? ⟨g5, 1, none⟩ = some (.int .i64 wd) ∧ w'.cell? ⟨g5, 2, none⟩ = some (.string dd)) from fun w' t' s' f' on' R' L' h m0 m1 => by
  obtain ⟨c0, c1, -, -⟩ := h.cells
  obtain ⟨t3_0, t3_1, -, -⟩ := h.other.c2 _ _ _ _ m0
  obtain ⟨t5_0, t5_1, t5_2, -, -, -⟩ := h.other.c3 _ _ _ _ _ m1
  exact ⟨c0, c1, t3_0, t3_1, t5_0, t5_1, t5_2⟩)
 have HDSR := As H5.out.drew
 refine start_ (n := 8) (S := fun w' => w'.cell? ⟨J.b, 0, none⟩ = some (.pointer (some ⟨J.K.1, 0, none⟩)) ∧ w'.cell? ⟨J.b, 1, none⟩ = some (.pointer (some ⟨J.g, 0, none⟩)) ∧ w'.cell? ⟨w.heap.size, 0, none⟩ = some (.int .i64 r.1) ∧ w'.cell? ⟨w.heap.size, 1, none⟩ = some (.int .i64 r.2) ∧ w'.cell? ⟨g5, 0, none⟩ = some (.string c.1) ∧ w'.cell? ⟨g5, 1, none⟩ = some (.int .i64 wd) ∧ w'.cell? ⟨g5, 2, none⟩ = some (.string dd)) (ds := []) #[false, false, false, false, false, false, false, false] (by kernel_rfl) rfl rfl (SR.out _ _ _ _ _ _ _ HDSR.out (by simp) (by simp)) (fun hHeld => ?_)
 generalize W5.drew = wxsr at HDSR hHeld ⊢
 refine pu_ 0 (some 27) ?_
 refine pu_ 1 (some 28) ?_
 refine pu_ 2 (some 29) ?_
 refine ta_ 3 (some 30) hHeld ?_ (hy := Or.inl ⟨by rfl, by rintro w' ⟨s0, s1, s2, s3, s4, s5, s6⟩; go_simp; with_reducible rfl⟩)
 refine ta_ 4 (some 31) hHeld ?_ (hy := Or.inl ⟨by rfl, by rintro w' ⟨s0, s1, s2, s3, s4, s5, s6⟩; go_simp; with_reducible rfl⟩)
 refine ta_ 5 (some 32) hHeld ?_ (hy := Or.inl ⟨by rfl, by rintro w' ⟨s0, s1, s2, s3, s4, s5, s6⟩; go_simp; with_reducible rfl⟩)
 refine on_ 6 (some 33) fun K_ hK => ?_
 refine gs_ Try.func137 #[.pointer (some ⟨J.g, 0, none⟩), .agg #[.int .i64 r.1, .int .i64 r.2], .agg #[.string c.1, .int .i64 wd, .string dd]] ?_
 refine (rset.calls HDSR.out r (c.1, wd, dd) HY.out.2.2.2.1 HY.out.2.2.2.2).mono ?_
 rintro e9 wysr1 ⟨rfl, hh⟩
 refine ⟨_, rfl, ?_⟩
 have HYsr1 := As (show Bt w0 wysr1 J t s' f on R (cb (g5) 126 #[.string c.1, .int .i64 wd, .string dd] :: cb (w.heap.size) 33 #[.int .i64 r.1, .int .i64 r.2] :: L) from hh)
 clear hh
 refine hK.out _ _ (SR.out _ _ _ _ _ _ _ HYsr1.out (by simp) (by simp)) (fun hHeld => ?_)
 clear hK K_
 refine nm_ ?_
 refine pu_ 7 (some 10) ?_
 refine done_ (by kernel_rfl) ?_
 go_wp2_with fail
 exact bodyPost_ret (v := .bool true) (by simp [results, Try.results84, go_sem]) rfl ⟨rfl, HYsr1.out.tail.tail⟩
theorem find.calls (h : Bt w0 w J t s f on R L) (key : ByteArray) {l : List (Rf × Nat)} {q : Rf} (hd : Dn t key t.root l q) (ho : Nd.Ok (t.at q)) : Calls Try.prog 78 #[.pointer (some ⟨J.b, 0, none⟩), .string key] w fun e w' => e = .returned (.tuple #[.agg #[.int .i64 (t.find key q).1.1, .int .i64 (t.find key q).1.2], .bool (t.find key q).2, .agg #[.int .i64 q.1, .int .i64 q.2, .int .i64 (t.at q).ver]]) ∧ Bt w0 w' J t s f .nilFunc R L := by
 have hu33 := Try.underlying33
 have hu85 := Try.underlying85
 have hu116 := Try.underlying116
 have hu185 := Try.underlying185
 have hu189 := Try.underlying189
 have HM := As (show Bt w0 _ J t s f on R (cb (w.heap.size + 1) 85 #[.int .i64 0, .int .i64 0, .int .i64 0] :: cb (w.heap.size) 33 #[.int .i64 0, .int .i64 0] :: L) by
  have := (h.alloc (.cells #[.int .i64 0, .int .i64 0] 33)).alloc (.cells #[.int .i64 0, .int .i64 0, .int .i64 0] 85)
  simpa [cb] using this)
 have HY := As (And.intro hd ho)
 clear h hd ho
 obtain ⟨t4_0, t4_1, t4_f0, t4_f1⟩ := HM.out.other.c2 (w.heap.size) 33 (.int .i64 0) (.int .i64 0) (by simp)
 obtain ⟨t6_0, t6_1, t6_2, t6_f0, t6_f1, t6_f2⟩ := HM.out.other.c3 (w.heap.size + 1) 85 (.int .i64 0) (.int .i64 0) (.int .i64 0) (by simp)
 obtain ⟨c0, c1, c2, c3⟩ := HM.out.cells
 go_enter Try.func78, Try.ntmps78
 go_wp2_with (go_at_call 71; go_loud (obtain ⟨Lx, hL, hLx, back⟩ := HM.out.tree; refine (Tr.find.calls hL key HY.out.1 HY.out.2).mono ?_; rintro e2 w2 ⟨rfl, hh⟩; have H2 := As (show Bt w0 w2 J t s f .nilFunc R (cb (w.heap.size + 1) 85 #[.int .i64 0, .int .i64 0, .int .i64 0] :: cb (w.heap.size) 33 #[.int .i64 0, .int .i64 0] :: L) from back w2 _ _ _ [] hh); clear hh back hLx hL; clear t4_0 t4_f0 t4_1 t4_f1 t6_0 t6_f0 t6_1 t6_f1 t6_2 t6_f2; clear c0 c1 c2 c3; obtain ⟨t4_0, t4_1, t4_f0, t4_f1⟩ := H2.out.other.c2 (w.heap.size) 33 (.int .i64 0) (.int .i64 0) (by simp); obtain ⟨t6_0, t6_1, t6_2, t6_f0, t6_f1, t6_f2⟩ := H2.out.other.c3 (w.heap.size + 1) 85 (.int .i64 0) (.int .i64 0) (.int .i64 0) (by simp); obtain ⟨c0, c1, c2, c3⟩ := H2.out.cells))
 obtain ⟨wg, hw, hg⟩ : ∃ wg, wg = _ ∧ Bt w0 wg J t s f .nilFunc R (cb (w.heap.size + 1) 85 #[.int .i64 q.1, .int .i64 q.2, .int .i64 (t.at q).ver] :: cb w.heap.size 33 #[.int .i64 (t.find key q).1.1, .int .i64 (t.find key q).1.2] :: L) := ⟨_, rfl, (Bt.putB0 (Bt.putB0 (Bt.putB0 (Bt.putB1 (Bt.putB1 H2.out 0 (.int .i64 (t.find key q).1.1) rfl) 1 (.int .i64 (t.find key q).1.2) rfl) 0 (.int .i64 q.1) rfl) 1 (.int .i64 q.2) rfl) 2 (.int .i64 (t.at q).ver) rfl)⟩
 rw [← hw]
 obtain ⟨e0, e1, -, -⟩ := hg.other.c2 w.heap.size 33 (.int .i64 (t.find key q).1.1) (.int .i64 (t.find key q).1.2) (by simp)
 obtain ⟨e2, e3, e4, -, -, -⟩ := hg.other.c3 (w.heap.size + 1) 85 (.int .i64 q.1) (.int .i64 q.2) (.int .i64 (t.at q).ver) (by simp)
 exact bodyPost_ret (v := .tuple #[.agg #[.int .i64 (t.find key q).1.1, .int .i64 (t.find key q).1.2], .bool (t.find key q).2, .agg #[.int .i64 q.1, .int .i64 q.2, .int .i64 (t.at q).ver]]) (by simp [results, Try.results78, go_sem, e0, e1, e2, e3, e4, hu33, hu85]) rfl ⟨rfl, hg.tail.tail⟩
theorem counts.calls (h : Bt w0 w J t s f on R L) (hg : t.gone.length ≤ 1000000) : Calls Try.prog 86 #[.pointer (some ⟨J.b, 0, none⟩)] w fun e w' => e = .returned (.tuple #[.int .i64 (s.live.length : Int), .int .i64 ((t.p.held : Int) - (t.gone.length : Int)), .int .i64 (t.gone.length : Int)]) ∧ Bt w0 w' J t s f on R L := by
 have hu31 := Try.underlying31
 have hu116 := Try.underlying116
 have hu185 := Try.underlying185
 have hu189 := Try.underlying189
 have HM := As h
 have HY := As hg
 clear h hg
 obtain ⟨c0, c1, c2, c3⟩ := HM.out.cells
 go_enter Try.func86, Try.ntmps86
 go_wp2_with (first | (go_at_call 141; have hx := H2.out; clear hx; go_loud (refine (rlive.calls H2.out).mono ?_; rintro e3 w3 ⟨ad, c, rfl, hh⟩; have H3 := As hh; clear hh)) | (go_at_call 68; go_loud (obtain ⟨Lx, hL, hLx, back⟩ := HM.out.tree; refine (Tr.nodes.calls hL HY.out).mono ?_; rintro e2 w2 ⟨rfl, hh⟩; have H2 := As (show Bt w0 w2 J t s f on R L from back w2 _ _ _ [] hh); clear hh back hLx hL; clear c0 c1 c2 c3; obtain ⟨c0, c1, c2, c3⟩ := H2.out.cells)))
 exact bodyPost_ret (v := .tuple #[.int .i64 (s.live.length : Int), .int .i64 ((t.p.held : Int) - (t.gone.length : Int)), .int .i64 (t.gone.length : Int)]) (by simp [results, Try.results86, go_sem]) rfl ⟨rfl, H3.out⟩
end
section
variable {w0 w w1 : World} {L L' R : List Ob} {t : Tm} {s : Ar} {f : Int} {on : Value} {J : Jx}
theorem Bt.make {K : Nat × Nat × Nat} (h : Mt w0 w K t on R L) : ∃ Q, Hv w0 w Q ∧ ∀ w' g sb s, ArR.Arn w0 w' g sb s Q → Bt w0 (w'.alloc (.cells #[.pointer (some ⟨K.1, 0, none⟩), .pointer (some ⟨g, 0, none⟩), .int .i64 0] 189)) ⟨w'.heap.size, K, g, sb⟩ t s 0 on R L := by
 obtain ⟨sn, gv, G, e, ⟨bn, Bn, k1, k2, k3⟩, k4, k5⟩ := h
 refine ⟨_, k1, fun w' g sb s h' => ?_⟩
 obtain ⟨bv, B, q1, q2, q3⟩ := h'
 refine ⟨bv, B, q2, q3, sn, gv, G, e, ⟨bn, Bn, (q1.alloc _).perm ?_, k2, k3⟩, k4, k5⟩
 have := List.Perm.append_right L (List.perm_append_comm (l₁ := ArN.AL K.2.1 K.2.2 bn Bn sn ++ (tb K t gv on :: (G ++ R))) (l₂ := cb w'.heap.size 189 #[.pointer (some ⟨K.1, 0, none⟩), .pointer (some ⟨g, 0, none⟩), .int .i64 0] :: ArR.AL g sb bv B s))
 simpa [List.append_assoc, cb] using this
theorem new.calls (hv : Hv w0 w L) (n m : Int) (h1 : 1 ≤ n) (h2 : n ≤ 4096) (h3 : 1 ≤ m) (h4 : m ≤ 1024) : Calls Try.prog 75 #[.int .i64 n, .int .i64 m] w fun e w' => ∃ J, e = .returned (.tuple #[.pointer (some ⟨J.b, 0, none⟩), .int .i64 0]) ∧ Bt w0 w' J (Tm.new m.toNat) (Ar.new (many n) [.string ⟨#[]⟩, .int .i64 0, .string ⟨#[]⟩]) 0 .nilFunc [] L := by
 have hu185 := Try.underlying185
 have hu189 := Try.underlying189
 have HV := As hv
 have HM := As (And.intro h3 h4)
 have d1 : ¬ n < 1 := by omega
 have d2 : ¬ n > 4096 := by omega
 have d3 : ¬ 4096 < n := by omega
 clear hv h1 h2 h3 h4
 go_enter Try.func75, Try.ntmps75
 go_wp2_with (first | (go_at_call 129; have hx := H2.out; clear hx; go_loud (obtain ⟨Q, hQ, back⟩ := Bt.make H2.out; refine (ArR.New hQ n).mono ?_; rintro e3 w3 ⟨g, sb, rfl, hh⟩; have H3 := As (back _ _ _ _ hh); clear hh back hQ)) | (go_at_call 58; go_loud (refine (newOk.calls HV.out m HM.out.1 HM.out.2).mono ?_; rintro e2 w2 ⟨K, rfl, hh⟩; have H2 := As hh; clear hh)))
 exact bodyPost_ret (v := .tuple #[.pointer (some ⟨w3.heap.size, 0, none⟩), .int .i64 0]) (by simp [results, Try.results75, go_sem]) rfl ⟨⟨w3.heap.size, K, g, sb⟩, rfl, H3.out⟩
def DelC (w0 : World) (K : Nat × Nat × Nat) (t t' : Tm) (n : Nat) (key : ByteArray) : Prop := ∀ (w : World) (on : Value) (R Lx : List Ob), Mt w0 w K t on R Lx → Calls Try.prog 64 #[.pointer (some ⟨K.1, 0, none⟩), .string key] w fun e w' => ∃ ad cp A R' rr b, e = .returned (.tuple #[.agg #[.int .i64 (rr : Rf).1, .int .i64 rr.2], .slice ad n cp, .bool b]) ∧ Mt w0 w' K t' .nilFunc R' (A ++ Lx)
theorem unlink.ok (h : Bt w0 w J t s f on R L) (r : Rf) {c : ByteArray × Int × ByteArray} (hg : Got s r c true) (hk : Pur 134 #[.int .i64 c.2.1] (.bool false)) (hd : Pur 135 #[.int .i64 c.2.1] (.bool false)) {ab : Bool} {wd : Int} (ha : Pur 136 #[.int .i64 c.2.1] (.bool ab)) (hw : Pur 132 #[.int .i64 c.2.1, .bool false, .bool ab, .bool true] (.int .i64 wd)) {s' : Ar} (hh : s.has r.1 r.2 = true) (hs : s.set r.1 r.2 (rcell (c.1, wd, c.2.2)) = s') {t' : Tm} {n : Nat} (hdel : DelC w0 J.K t t' n c.1) (hf : 0 ≤ f) (hf2 : f ≤ 1000000) : Calls Try.prog 77 #[.pointer (some ⟨J.b, 0, none⟩), .agg #[.int .i64 r.1, .int .i64 r.2]] w fun e w' => ∃ ad cp R', e = .returned (.tuple #[.slice ad n cp, .bool true]) ∧ Bt w0 w' J t' s' f .nilFunc R' L := by
 have hu33 := Try.underlying33
 have hu126 := Try.underlying126
 have hu185 := Try.underlying185
 have hu189 := Try.underlying189
 have HM := As (show Bt w0 _ J t s f on R (cb (w.heap.size) 33 #[.int .i64 r.1, .int .i64 r.2] :: L) from h.alloc _)
 have HF := As (And.intro hf hf2)
 have HG := As hg
 have HY := As (And.intro hk (And.intro hd (And.intro ha (And.intro hw (And.intro hh hs)))))
 have HDL := As hdel
 clear h hf hf2 hg hk hd ha hw hh hs hdel
 obtain ⟨t3_0, t3_1, t3_f0, t3_f1⟩ := HM.out.other.c2 (w.heap.size) 33 (.int .i64 r.1) (.int .i64 r.2) (by simp)
 go_enter Try.func77, Try.ntmps77
 go_upto_region 2 with (go_at_call 82; go_loud (refine (get.calls HM.out r HG.out HF.out.1 HF.out.2).mono ?_; rintro e2 w2 ⟨rfl, hh⟩; have H2 := As hh; clear hh))
 clear t3_0 t3_f0 t3_1 t3_f1
 obtain ⟨W3, hW, hM⟩ : ∃ W, W = w2.alloc (.cells #[.string c.1, .int .i64 c.2.1, .string c.2.2] 126) ∧ Bt w0 W J t s f on R (cb w2.heap.size 126 #[.string c.1, .int .i64 c.2.1, .string c.2.2] :: cb (w.heap.size) 33 #[.int .i64 r.1, .int .i64 r.2] :: L) := ⟨_, rfl, H2.out.alloc _⟩
 rw [← hW]
 have H3 := As hM
 clear hW hM
 generalize w2.heap.size = g6 at H3 ⊢
 obtain ⟨t3_0, t3_1, t3_f0, t3_f1⟩ := H3.out.other.c2 (w.heap.size) 33 (.int .i64 r.1) (.int .i64 r.2) (by simp)
 obtain ⟨t6_0, t6_1, t6_2, t6_f0, t6_f1, t6_f2⟩ := H3.out.other.c3 (g6) 126 (.string c.1) (.int .i64 c.2.1) (.string c.2.2) (by simp)
 obtain ⟨c0, c1, c2, c3⟩ := H3.out.cells
 go_upto_region 4 with (first | (go_at_call 135; go_loud (have hx := H4.out; clear hx; refine (HY.out.2.1 _).mono ?_; rintro e4 w5 ⟨rfl, hb⟩; have H5 := As (show Bt w0 w5 J t s f on R (cb (g6) 126 #[.string c.1, .int .i64 c.2.1, .string c.2.2] :: cb (w.heap.size) 33 #[.int .i64 r.1, .int .i64 r.2] :: L) from H4.out.call hb); clear hb; clear t3_0 t3_f0 t3_1 t3_f1 t6_0 t6_f0 t6_1 t6_f1 t6_2 t6_f2; clear c0 c1 c2 c3; obtain ⟨t3_0, t3_1, t3_f0, t3_f1⟩ := H5.out.other.c2 (w.heap.size) 33 (.int .i64 r.1) (.int .i64 r.2) (by simp); obtain ⟨t6_0, t6_1, t6_2, t6_f0, t6_f1, t6_f2⟩ := H5.out.other.c3 (g6) 126 (.string c.1) (.int .i64 c.2.1) (.string c.2.2) (by simp); obtain ⟨c0, c1, c2, c3⟩ := H5.out.cells)) | (go_at_call 134; go_loud (have hx := H3.out; clear hx; refine (HY.out.1 _).mono ?_; rintro e4 w4 ⟨rfl, hb⟩; have H4 := As (show Bt w0 w4 J t s f on R (cb (g6) 126 #[.string c.1, .int .i64 c.2.1, .string c.2.2] :: cb (w.heap.size) 33 #[.int .i64 r.1, .int .i64 r.2] :: L) from H3.out.call hb); clear hb; clear t3_0 t3_f0 t3_1 t3_f1 t6_0 t6_f0 t6_1 t6_f1 t6_2 t6_f2; clear c0 c1 c2 c3; obtain ⟨t3_0, t3_1, t3_f0, t3_f1⟩ := H4.out.other.c2 (w.heap.size) 33 (.int .i64 r.1) (.int .i64 r.2) (by simp); obtain ⟨t6_0, t6_1, t6_2, t6_f0, t6_f1, t6_f2⟩ := H4.out.other.c3 (g6) 126 (.string c.1) (.int .i64 c.2.1) (.string c.2.2) (by simp); obtain ⟨c0, c1, c2, c3⟩ := H4.out.cells)))
 clear t3_0 t3_f0 t3_1 t3_f1 t6_0 t6_f0 t6_1 t6_f1 t6_2 t6_f2; clear c0 c1 c2 c3
 have SQ := As (show ∀ (w' : World) (t' : Tm) (s' : Ar) (f' : Int) (on' : Value) (R' L' : List Ob), Bt w0 w' J t' s' f' on' R' L' → cb (w.heap.size) 33 #[.int .i64 r.1, .int .i64 r.2] ∈ L' → cb (g6) 126 #[.string c.1, .int .i64 c.2.1, .string c.2.2] ∈ L' → (w'.cell? ⟨J.b, 0, none⟩ = some (.pointer (some ⟨J.K.1, 0, none⟩)) ∧ w'.cell? ⟨J.b, 1, none⟩ = some (.pointer (some ⟨J.g, 0, none⟩)) ∧ w'.cell? ⟨w.heap.size, 0, none⟩ = some (.int .i64 r.1) ∧ w'.cell? ⟨w.heap.size, 1, none⟩ = some (.int .i64 r.2) ∧ w'.cell? ⟨g6, 0, none⟩ = some (.string c.1) ∧ w'.cell? ⟨g6, 1, none⟩ = some (.int .i64 c.2.1) ∧ w'.cell? ⟨g6, 2, none⟩ = some (.string c.2.2)) from fun w' t' s' f' on' R' L' h m0 m1 => by
  obtain ⟨c0, c1, -, -⟩ := h.cells
  obtain ⟨t3_0, t3_1, -, -⟩ := h.other.c2 _ _ _ _ m0
  obtain ⟨t6_0, t6_1, t6_2, -, -, -⟩ := h.other.c3 _ _ _ _ _ m1
  exact ⟨c0, c1, t3_0, t3_1, t6_0, t6_1, t6_2⟩)
 have HDSQ := As H5.out.drew
 refine start_ (n := 16) (S := fun w' => w'.cell? ⟨J.b, 0, none⟩ = some (.pointer (some ⟨J.K.1, 0, none⟩)) ∧ w'.cell? ⟨J.b, 1, none⟩ = some (.pointer (some ⟨J.g, 0, none⟩)) ∧ w'.cell? ⟨w.heap.size, 0, none⟩ = some (.int .i64 r.1) ∧ w'.cell? ⟨w.heap.size, 1, none⟩ = some (.int .i64 r.2) ∧ w'.cell? ⟨g6, 0, none⟩ = some (.string c.1) ∧ w'.cell? ⟨g6, 1, none⟩ = some (.int .i64 c.2.1) ∧ w'.cell? ⟨g6, 2, none⟩ = some (.string c.2.2)) (ds := [13]) #[false, false, false, false, false, false, false, false, false, false, false, false, false, false, false, false] (by kernel_rfl) rfl rfl (SQ.out _ _ _ _ _ _ _ HDSQ.out (by simp) (by simp)) (fun hHeld => ?_)
 generalize w5.drew = wxsq at HDSQ hHeld ⊢
 refine pu_ 0 (some 30) ?_
 refine pu_ 1 (some 31) ?_
 refine pu_ 2 (some 32) ?_
 refine pu_ 3 (some 33) ?_
 refine pu_ 5 (some 35) ?_
 refine ta_ 4 (some 34) hHeld ?_ (hy := Or.inl ⟨by rfl, by rintro w' ⟨s0, s1, s2, s3, s4, s5, s6⟩; go_simp; with_reducible rfl⟩)
 refine ta_ 6 (some 36) hHeld ?_ (hy := Or.inl ⟨by rfl, by rintro w' ⟨s0, s1, s2, s3, s4, s5, s6⟩; go_simp; with_reducible rfl⟩)
 refine two_ (i := 7) (j := 12) (Ni := some 37) (Nj := some 8) #[true, true, true, true, true, true, true, true, false, false, false, false, false, false, false, false] #[true, true, true, true, true, true, true, false, false, false, false, false, true, false, false, false] rfl rfl rfl rfl (by kernel_rfl) (by decide) (by decide) (fun K_ hK => ?_) (fun K_ hK => ?_)
 ·refine gs_ Try.func64 #[.pointer (some ⟨J.K.1, 0, none⟩), .string c.1] ?_
  obtain ⟨Lx, hL, hLx, back⟩ := HDSQ.out.tree
  refine (HDL.out _ _ _ _ hL).mono ?_
  rintro e9 wysq1 ⟨ad1, cp1, A1, R1, rr1, b1, rfl, hh⟩
  refine ⟨_, rfl, ?_⟩
  have HYsq1 := As (show Bt w0 wysq1 J t' s f .nilFunc R1 (A1 ++ (cb (g6) 126 #[.string c.1, .int .i64 c.2.1, .string c.2.2] :: cb (w.heap.size) 33 #[.int .i64 r.1, .int .i64 r.2] :: L)) from back _ _ _ _ _ hh)
  clear hh back hLx hL
  refine hK.out _ _ (SQ.out _ _ _ _ _ _ _ HYsq1.out (by simp) (by simp)) (fun hHeld => ?_)
  clear hK K_
  refine nm_ ?_
  refine pu_ 8 (some 29) ?_
  refine pu_ 9 (some 38) ?_
  refine pu_ 10 (some 39) ?_
  refine pu_ 11 (some 40) ?_
  refine on_ 12 (some 8) fun K_ hK => ?_
  refine value_ (v := .pointer (some ⟨wysq1.heap.size, 0, none⟩)) (w1 := wysq1.alloc (.cells #[.int .i64 0, .int .i64 0] 33)) (by rfl) rfl ?_ ?_
  ·go_simp
  obtain ⟨wysq2, hW, hvv⟩ : ∃ W, W = wysq1.alloc (.cells #[.int .i64 0, .int .i64 0] 33) ∧ Bt w0 W J t' s f .nilFunc R1 (cb (wysq1.heap.size) 33 #[.int .i64 0, .int .i64 0] :: (A1 ++ (cb (g6) 126 #[.string c.1, .int .i64 c.2.1, .string c.2.2] :: cb (w.heap.size) 33 #[.int .i64 r.1, .int .i64 r.2] :: L))) := ⟨_, rfl, HYsq1.out.alloc _⟩
  rw [← hW]
  have HYsq2 := As hvv
  clear hW hvv
  refine hK.out _ _ (SQ.out _ _ _ _ _ _ _ HYsq2.out (by simp) (by simp)) (fun hHeld => ?_)
  clear hK K_
  refine nm_ ?_
  refine la_ 13 none fun K_ hK => ?_
  obtain ⟨b0, b1_, d0, d1⟩ := HYsq2.out.other.c2 (wysq1.heap.size) 33 (.int .i64 0) (.int .i64 0) (by simp)
  refine sk_ (hK.out _ _ ?_)
  clear hK K_ b0 b1_ d0 d1
  obtain ⟨wysq3, hW, hvv⟩ : ∃ W, W = _ ∧ Bt w0 W J t' s f .nilFunc R1 (cb (wysq1.heap.size) 33 #[.int .i64 rr1.1, .int .i64 rr1.2] :: (A1 ++ (cb (g6) 126 #[.string c.1, .int .i64 c.2.1, .string c.2.2] :: cb (w.heap.size) 33 #[.int .i64 r.1, .int .i64 r.2] :: L))) := ⟨_, rfl, (Bt.put (X := []) (Bt.put (X := []) HYsq2.out 0 (.int .i64 rr1.1) rfl) 1 (.int .i64 rr1.2) rfl)⟩
  rw [← hW]
  have HYsq3 := As hvv
  clear hW hvv
  refine pu_ 14 (some 9) ?_
  refine pu_ 15 (some 10) ?_
  refine done_ (by kernel_rfl) ?_
  clear SQ
  have HB := As (show Bt w0 wysq3 J t' s f .nilFunc R1 (cb (g6) 126 #[.string c.1, .int .i64 c.2.1, .string c.2.2] :: cb (w.heap.size) 33 #[.int .i64 r.1, .int .i64 r.2] :: L) from HYsq3.out.tail.drop (List.sublist_append_right A1 _))
  generalize wysq1.heap.size = gx at HYsq3 ⊢
  clear HYsq3
  go_upto_region 5 with (fail)
  have S5 := As (show ∀ (w' : World) (t' : Tm) (s' : Ar) (f' : Int) (on' : Value) (R' L' : List Ob), Bt w0 w' J t' s' f' on' R' L' → cb (w.heap.size) 33 #[.int .i64 r.1, .int .i64 r.2] ∈ L' → cb (g6) 126 #[.string c.1, .int .i64 c.2.1, .string c.2.2] ∈ L' → (w'.cell? ⟨J.b, 0, none⟩ = some (.pointer (some ⟨J.K.1, 0, none⟩)) ∧ w'.cell? ⟨J.b, 1, none⟩ = some (.pointer (some ⟨J.g, 0, none⟩)) ∧ w'.cell? ⟨w.heap.size, 0, none⟩ = some (.int .i64 r.1) ∧ w'.cell? ⟨w.heap.size, 1, none⟩ = some (.int .i64 r.2) ∧ w'.cell? ⟨g6, 0, none⟩ = some (.string c.1) ∧ w'.cell? ⟨g6, 1, none⟩ = some (.int .i64 c.2.1) ∧ w'.cell? ⟨g6, 2, none⟩ = some (.string c.2.2)) from fun w' t' s' f' on' R' L' h m0 m1 => by
   obtain ⟨c0, c1, -, -⟩ := h.cells
   obtain ⟨t3_0, t3_1, -, -⟩ := h.other.c2 _ _ _ _ m0
   obtain ⟨t6_0, t6_1, t6_2, -, -, -⟩ := h.other.c3 _ _ _ _ _ m1
   exact ⟨c0, c1, t3_0, t3_1, t6_0, t6_1, t6_2⟩)
  have HDS5 := As HB.out.drew
  refine start_ (n := 8) (S := fun w' => w'.cell? ⟨J.b, 0, none⟩ = some (.pointer (some ⟨J.K.1, 0, none⟩)) ∧ w'.cell? ⟨J.b, 1, none⟩ = some (.pointer (some ⟨J.g, 0, none⟩)) ∧ w'.cell? ⟨w.heap.size, 0, none⟩ = some (.int .i64 r.1) ∧ w'.cell? ⟨w.heap.size, 1, none⟩ = some (.int .i64 r.2) ∧ w'.cell? ⟨g6, 0, none⟩ = some (.string c.1) ∧ w'.cell? ⟨g6, 1, none⟩ = some (.int .i64 c.2.1) ∧ w'.cell? ⟨g6, 2, none⟩ = some (.string c.2.2)) (ds := [7]) #[false, false, false, false, false, false, false, false] (by kernel_rfl) rfl rfl (S5.out _ _ _ _ _ _ _ HDS5.out (by simp) (by simp)) (fun hHeld => ?_)
  generalize wysq3.drew = wxs5 at HDS5 hHeld ⊢
  refine pu_ 0 (some 41) ?_
  refine pu_ 2 (some 43) ?_
  refine ta_ 1 (some 42) hHeld ?_ (hy := Or.inl ⟨by rfl, by rintro w' ⟨s0, s1, s2, s3, s4, s5, s6⟩; go_simp; with_reducible rfl⟩)
  refine ta_ 3 (some 44) hHeld ?_ (hy := Or.inl ⟨by rfl, by rintro w' ⟨s0, s1, s2, s3, s4, s5, s6⟩; go_simp; with_reducible rfl⟩)
  refine on_ 4 (some 45) fun K_ hK => ?_
  refine gs_ Try.func136 #[.int .i64 c.2.1] ?_
  refine (HY.out.2.2.1 _).mono ?_
  rintro e9 wys51 ⟨rfl, hb⟩
  refine ⟨_, rfl, ?_⟩
  have HYs51 := As (show Bt w0 wys51 J t' s f .nilFunc R1 (cb (g6) 126 #[.string c.1, .int .i64 c.2.1, .string c.2.2] :: cb (w.heap.size) 33 #[.int .i64 r.1, .int .i64 r.2] :: L) from HDS5.out.call hb)
  clear hb
  refine hK.out _ _ (S5.out _ _ _ _ _ _ _ HYs51.out (by simp) (by simp)) (fun hHeld => ?_)
  clear hK K_
  refine nm_ ?_
  refine on_ 5 (some 46) fun K_ hK => ?_
  refine gs_ Try.func132 #[.int .i64 c.2.1, .bool false, .bool ab, .bool true] ?_
  refine (HY.out.2.2.2.1 _).mono ?_
  rintro e9 wys52 ⟨rfl, hb⟩
  refine ⟨_, rfl, ?_⟩
  have HYs52 := As (show Bt w0 wys52 J t' s f .nilFunc R1 (cb (g6) 126 #[.string c.1, .int .i64 c.2.1, .string c.2.2] :: cb (w.heap.size) 33 #[.int .i64 r.1, .int .i64 r.2] :: L) from HYs51.out.call hb)
  clear hb
  refine hK.out _ _ (S5.out _ _ _ _ _ _ _ HYs52.out (by simp) (by simp)) (fun hHeld => ?_)
  clear hK K_
  refine nm_ ?_
  refine pu_ 6 (some 47) ?_
  refine la_ 7 none fun K_ hK => ?_
  obtain ⟨b0, b1, b2, d0, d1, d2⟩ := HYs52.out.other.c3 (g6) 126 (.string c.1) (.int .i64 c.2.1) (.string c.2.2) (by simp)
  refine sk_ (hK.out _ _ ?_)
  clear hK K_ b0 b1 b2 d0 d1 d2
  obtain ⟨wys53, hW, hvv⟩ : ∃ W, W = _ ∧ Bt w0 W J t' s f .nilFunc R1 (cb (g6) 126 #[.string c.1, .int .i64 wd, .string c.2.2] :: cb (w.heap.size) 33 #[.int .i64 r.1, .int .i64 r.2] :: L) := ⟨_, rfl, Bt.putB0 HYs52.out 1 (.int .i64 wd) rfl⟩
  rw [← hW]
  have HYs53 := As hvv
  clear hW hvv
  refine done_ (by kernel_rfl) ?_
  clear S5
  go_upto_region 6 with (fail)
  have S6 := As (show ∀ (w' : World) (t' : Tm) (s' : Ar) (f' : Int) (on' : Value) (R' L' : List Ob), Bt w0 w' J t' s' f' on' R' L' → cb (w.heap.size) 33 #[.int .i64 r.1, .int .i64 r.2] ∈ L' → cb (g6) 126 #[.string c.1, .int .i64 wd, .string c.2.2] ∈ L' → (w'.cell? ⟨J.b, 0, none⟩ = some (.pointer (some ⟨J.K.1, 0, none⟩)) ∧ w'.cell? ⟨J.b, 1, none⟩ = some (.pointer (some ⟨J.g, 0, none⟩)) ∧ w'.cell? ⟨w.heap.size, 0, none⟩ = some (.int .i64 r.1) ∧ w'.cell? ⟨w.heap.size, 1, none⟩ = some (.int .i64 r.2) ∧ w'.cell? ⟨g6, 0, none⟩ = some (.string c.1) ∧ w'.cell? ⟨g6, 1, none⟩ = some (.int .i64 wd) ∧ w'.cell? ⟨g6, 2, none⟩ = some (.string c.2.2)) from fun w' t' s' f' on' R' L' h m0 m1 => by
   obtain ⟨c0, c1, -, -⟩ := h.cells
   obtain ⟨t3_0, t3_1, -, -⟩ := h.other.c2 _ _ _ _ m0
   obtain ⟨t6_0, t6_1, t6_2, -, -, -⟩ := h.other.c3 _ _ _ _ _ m1
   exact ⟨c0, c1, t3_0, t3_1, t6_0, t6_1, t6_2⟩)
  have HDS6 := As HYs53.out.drew
  refine start_ (n := 10) (S := fun w' => w'.cell? ⟨J.b, 0, none⟩ = some (.pointer (some ⟨J.K.1, 0, none⟩)) ∧ w'.cell? ⟨J.b, 1, none⟩ = some (.pointer (some ⟨J.g, 0, none⟩)) ∧ w'.cell? ⟨w.heap.size, 0, none⟩ = some (.int .i64 r.1) ∧ w'.cell? ⟨w.heap.size, 1, none⟩ = some (.int .i64 r.2) ∧ w'.cell? ⟨g6, 0, none⟩ = some (.string c.1) ∧ w'.cell? ⟨g6, 1, none⟩ = some (.int .i64 wd) ∧ w'.cell? ⟨g6, 2, none⟩ = some (.string c.2.2)) (ds := []) #[false, false, false, false, false, false, false, false, false, false] (by kernel_rfl) rfl rfl (S6.out _ _ _ _ _ _ _ HDS6.out (by simp) (by simp)) (fun hHeld => ?_)
  generalize wys53.drew = wxs6 at HDS6 hHeld ⊢
  refine pu_ 0 (some 48) ?_
  refine pu_ 1 (some 49) ?_
  refine pu_ 2 (some 50) ?_
  refine pu_ 3 (some 51) ?_
  refine ta_ 4 (some 52) hHeld ?_ (hy := Or.inl ⟨by rfl, by rintro w' ⟨s0, s1, s2, s3, s4, s5, s6⟩; go_simp; with_reducible rfl⟩)
  refine ta_ 5 (some 53) hHeld ?_ (hy := Or.inl ⟨by rfl, by rintro w' ⟨s0, s1, s2, s3, s4, s5, s6⟩; go_simp; with_reducible rfl⟩)
  refine ta_ 6 (some 54) hHeld ?_ (hy := Or.inl ⟨by rfl, by rintro w' ⟨s0, s1, s2, s3, s4, s5, s6⟩; go_simp; with_reducible rfl⟩)
  refine on_ 7 (some 55) fun K_ hK => ?_
  refine gs_ Try.func137 #[.pointer (some ⟨J.g, 0, none⟩), .agg #[.int .i64 r.1, .int .i64 r.2], .agg #[.string c.1, .int .i64 wd, .string c.2.2]] ?_
  refine (rset.calls HDS6.out r (c.1, wd, c.2.2) HY.out.2.2.2.2.1 HY.out.2.2.2.2.2).mono ?_
  rintro e9 wys61 ⟨rfl, hh⟩
  refine ⟨_, rfl, ?_⟩
  have HYs61 := As (show Bt w0 wys61 J t' s' f .nilFunc R1 (cb (g6) 126 #[.string c.1, .int .i64 wd, .string c.2.2] :: cb (w.heap.size) 33 #[.int .i64 r.1, .int .i64 r.2] :: L) from hh)
  clear hh
  refine hK.out _ _ (S6.out _ _ _ _ _ _ _ HYs61.out (by simp) (by simp)) (fun hHeld => ?_)
  clear hK K_
  refine nm_ ?_
  refine pu_ 8 (some 4) ?_
  refine pu_ 9 (some 5) ?_
  refine done_ (by kernel_rfl) ?_
  go_wp2_with fail
  exact bodyPost_ret (v := .tuple #[.slice ad1 n cp1, .bool true]) (by simp [results, Try.results77, go_sem]) rfl ⟨ad1, cp1, R1, rfl, HYs61.out.tail.tail⟩
 ·refine value_ (v := .pointer (some ⟨wxsq.heap.size, 0, none⟩)) (w1 := wxsq.alloc (.cells #[.int .i64 0, .int .i64 0] 33)) (by rfl) rfl ?_ ?_
  ·go_simp
  obtain ⟨wysq1, hW, hvv⟩ : ∃ W, W = wxsq.alloc (.cells #[.int .i64 0, .int .i64 0] 33) ∧ Bt w0 W J t s f on R (cb (wxsq.heap.size) 33 #[.int .i64 0, .int .i64 0] :: cb (g6) 126 #[.string c.1, .int .i64 c.2.1, .string c.2.2] :: cb (w.heap.size) 33 #[.int .i64 r.1, .int .i64 r.2] :: L) := ⟨_, rfl, HDSQ.out.alloc _⟩
  rw [← hW]
  have HYsq1 := As hvv
  clear hW hvv
  refine hK.out _ _ (SQ.out _ _ _ _ _ _ _ HYsq1.out (by simp) (by simp)) (fun hHeld => ?_)
  clear hK K_
  refine nm_ ?_
  refine on_ 7 (some 37) fun K_ hK => ?_
  refine gs_ Try.func64 #[.pointer (some ⟨J.K.1, 0, none⟩), .string c.1] ?_
  obtain ⟨Lx, hL, hLx, back⟩ := HYsq1.out.tree
  refine (HDL.out _ _ _ _ hL).mono ?_
  rintro e9 wysq2 ⟨ad1, cp1, A1, R1, rr1, b1, rfl, hh⟩
  refine ⟨_, rfl, ?_⟩
  have HYsq2 := As (show Bt w0 wysq2 J t' s f .nilFunc R1 (A1 ++ (cb (wxsq.heap.size) 33 #[.int .i64 0, .int .i64 0] :: cb (g6) 126 #[.string c.1, .int .i64 c.2.1, .string c.2.2] :: cb (w.heap.size) 33 #[.int .i64 r.1, .int .i64 r.2] :: L)) from back _ _ _ _ _ hh)
  clear hh back hLx hL
  refine hK.out _ _ (SQ.out _ _ _ _ _ _ _ HYsq2.out (by simp) (by simp)) (fun hHeld => ?_)
  clear hK K_
  refine nm_ ?_
  refine pu_ 8 (some 29) ?_
  refine pu_ 9 (some 38) ?_
  refine pu_ 10 (some 39) ?_
  refine pu_ 11 (some 40) ?_
  refine la_ 13 none fun K_ hK => ?_
  obtain ⟨b0, b1_, d0, d1⟩ := HYsq2.out.other.c2 (wxsq.heap.size) 33 (.int .i64 0) (.int .i64 0) (by simp)
  refine sk_ (hK.out _ _ ?_)
  clear hK K_ b0 b1_ d0 d1
  obtain ⟨wysq3, hW, hvv⟩ : ∃ W, W = _ ∧ Bt w0 W J t' s f .nilFunc R1 (A1 ++ (cb (wxsq.heap.size) 33 #[.int .i64 rr1.1, .int .i64 rr1.2] :: cb (g6) 126 #[.string c.1, .int .i64 c.2.1, .string c.2.2] :: cb (w.heap.size) 33 #[.int .i64 r.1, .int .i64 r.2] :: L)) := ⟨_, rfl, (Bt.put (X := A1) (Bt.put (X := A1) HYsq2.out 0 (.int .i64 rr1.1) rfl) 1 (.int .i64 rr1.2) rfl)⟩
  rw [← hW]
  have HYsq3 := As hvv
  clear hW hvv
  refine pu_ 14 (some 9) ?_
  refine pu_ 15 (some 10) ?_
  refine done_ (by kernel_rfl) ?_
  clear SQ
  have HB := As (show Bt w0 wysq3 J t' s f .nilFunc R1 (cb (g6) 126 #[.string c.1, .int .i64 c.2.1, .string c.2.2] :: cb (w.heap.size) 33 #[.int .i64 r.1, .int .i64 r.2] :: L) from HYsq3.out.drop ((List.sublist_cons_self _ _).trans (List.sublist_append_right A1 _)))
  generalize wxsq.heap.size = gx at HYsq3 ⊢
  clear HYsq3
  go_upto_region 5 with (fail)
  have S5 := As (show ∀ (w' : World) (t' : Tm) (s' : Ar) (f' : Int) (on' : Value) (R' L' : List Ob), Bt w0 w' J t' s' f' on' R' L' → cb (w.heap.size) 33 #[.int .i64 r.1, .int .i64 r.2] ∈ L' → cb (g6) 126 #[.string c.1, .int .i64 c.2.1, .string c.2.2] ∈ L' → (w'.cell? ⟨J.b, 0, none⟩ = some (.pointer (some ⟨J.K.1, 0, none⟩)) ∧ w'.cell? ⟨J.b, 1, none⟩ = some (.pointer (some ⟨J.g, 0, none⟩)) ∧ w'.cell? ⟨w.heap.size, 0, none⟩ = some (.int .i64 r.1) ∧ w'.cell? ⟨w.heap.size, 1, none⟩ = some (.int .i64 r.2) ∧ w'.cell? ⟨g6, 0, none⟩ = some (.string c.1) ∧ w'.cell? ⟨g6, 1, none⟩ = some (.int .i64 c.2.1) ∧ w'.cell? ⟨g6, 2, none⟩ = some (.string c.2.2)) from fun w' t' s' f' on' R' L' h m0 m1 => by
   obtain ⟨c0, c1, -, -⟩ := h.cells
   obtain ⟨t3_0, t3_1, -, -⟩ := h.other.c2 _ _ _ _ m0
   obtain ⟨t6_0, t6_1, t6_2, -, -, -⟩ := h.other.c3 _ _ _ _ _ m1
   exact ⟨c0, c1, t3_0, t3_1, t6_0, t6_1, t6_2⟩)
  have HDS5 := As HB.out.drew
  refine start_ (n := 8) (S := fun w' => w'.cell? ⟨J.b, 0, none⟩ = some (.pointer (some ⟨J.K.1, 0, none⟩)) ∧ w'.cell? ⟨J.b, 1, none⟩ = some (.pointer (some ⟨J.g, 0, none⟩)) ∧ w'.cell? ⟨w.heap.size, 0, none⟩ = some (.int .i64 r.1) ∧ w'.cell? ⟨w.heap.size, 1, none⟩ = some (.int .i64 r.2) ∧ w'.cell? ⟨g6, 0, none⟩ = some (.string c.1) ∧ w'.cell? ⟨g6, 1, none⟩ = some (.int .i64 c.2.1) ∧ w'.cell? ⟨g6, 2, none⟩ = some (.string c.2.2)) (ds := [7]) #[false, false, false, false, false, false, false, false] (by kernel_rfl) rfl rfl (S5.out _ _ _ _ _ _ _ HDS5.out (by simp) (by simp)) (fun hHeld => ?_)
  generalize wysq3.drew = wxs5 at HDS5 hHeld ⊢
  refine pu_ 0 (some 41) ?_
  refine pu_ 2 (some 43) ?_
  refine ta_ 1 (some 42) hHeld ?_ (hy := Or.inl ⟨by rfl, by rintro w' ⟨s0, s1, s2, s3, s4, s5, s6⟩; go_simp; with_reducible rfl⟩)
  refine ta_ 3 (some 44) hHeld ?_ (hy := Or.inl ⟨by rfl, by rintro w' ⟨s0, s1, s2, s3, s4, s5, s6⟩; go_simp; with_reducible rfl⟩)
  refine on_ 4 (some 45) fun K_ hK => ?_
  refine gs_ Try.func136 #[.int .i64 c.2.1] ?_
  refine (HY.out.2.2.1 _).mono ?_
  rintro e9 wys51 ⟨rfl, hb⟩
  refine ⟨_, rfl, ?_⟩
  have HYs51 := As (show Bt w0 wys51 J t' s f .nilFunc R1 (cb (g6) 126 #[.string c.1, .int .i64 c.2.1, .string c.2.2] :: cb (w.heap.size) 33 #[.int .i64 r.1, .int .i64 r.2] :: L) from HDS5.out.call hb)
  clear hb
  refine hK.out _ _ (S5.out _ _ _ _ _ _ _ HYs51.out (by simp) (by simp)) (fun hHeld => ?_)
  clear hK K_
  refine nm_ ?_
  refine on_ 5 (some 46) fun K_ hK => ?_
  refine gs_ Try.func132 #[.int .i64 c.2.1, .bool false, .bool ab, .bool true] ?_
  refine (HY.out.2.2.2.1 _).mono ?_
  rintro e9 wys52 ⟨rfl, hb⟩
  refine ⟨_, rfl, ?_⟩
  have HYs52 := As (show Bt w0 wys52 J t' s f .nilFunc R1 (cb (g6) 126 #[.string c.1, .int .i64 c.2.1, .string c.2.2] :: cb (w.heap.size) 33 #[.int .i64 r.1, .int .i64 r.2] :: L) from HYs51.out.call hb)
  clear hb
  refine hK.out _ _ (S5.out _ _ _ _ _ _ _ HYs52.out (by simp) (by simp)) (fun hHeld => ?_)
  clear hK K_
  refine nm_ ?_
  refine pu_ 6 (some 47) ?_
  refine la_ 7 none fun K_ hK => ?_
  obtain ⟨b0, b1, b2, d0, d1, d2⟩ := HYs52.out.other.c3 (g6) 126 (.string c.1) (.int .i64 c.2.1) (.string c.2.2) (by simp)
  refine sk_ (hK.out _ _ ?_)
  clear hK K_ b0 b1 b2 d0 d1 d2
  obtain ⟨wys53, hW, hvv⟩ : ∃ W, W = _ ∧ Bt w0 W J t' s f .nilFunc R1 (cb (g6) 126 #[.string c.1, .int .i64 wd, .string c.2.2] :: cb (w.heap.size) 33 #[.int .i64 r.1, .int .i64 r.2] :: L) := ⟨_, rfl, Bt.putB0 HYs52.out 1 (.int .i64 wd) rfl⟩
  rw [← hW]
  have HYs53 := As hvv
  clear hW hvv
  refine done_ (by kernel_rfl) ?_
  clear S5
  go_upto_region 6 with (fail)
  have S6 := As (show ∀ (w' : World) (t' : Tm) (s' : Ar) (f' : Int) (on' : Value) (R' L' : List Ob), Bt w0 w' J t' s' f' on' R' L' → cb (w.heap.size) 33 #[.int .i64 r.1, .int .i64 r.2] ∈ L' → cb (g6) 126 #[.string c.1, .int .i64 wd, .string c.2.2] ∈ L' → (w'.cell? ⟨J.b, 0, none⟩ = some (.pointer (some ⟨J.K.1, 0, none⟩)) ∧ w'.cell? ⟨J.b, 1, none⟩ = some (.pointer (some ⟨J.g, 0, none⟩)) ∧ w'.cell? ⟨w.heap.size, 0, none⟩ = some (.int .i64 r.1) ∧ w'.cell? ⟨w.heap.size, 1, none⟩ = some (.int .i64 r.2) ∧ w'.cell? ⟨g6, 0, none⟩ = some (.string c.1) ∧ w'.cell? ⟨g6, 1, none⟩ = some (.int .i64 wd) ∧ w'.cell? ⟨g6, 2, none⟩ = some (.string c.2.2)) from fun w' t' s' f' on' R' L' h m0 m1 => by
   obtain ⟨c0, c1, -, -⟩ := h.cells
   obtain ⟨t3_0, t3_1, -, -⟩ := h.other.c2 _ _ _ _ m0
   obtain ⟨t6_0, t6_1, t6_2, -, -, -⟩ := h.other.c3 _ _ _ _ _ m1
   exact ⟨c0, c1, t3_0, t3_1, t6_0, t6_1, t6_2⟩)
  have HDS6 := As HYs53.out.drew
  refine start_ (n := 10) (S := fun w' => w'.cell? ⟨J.b, 0, none⟩ = some (.pointer (some ⟨J.K.1, 0, none⟩)) ∧ w'.cell? ⟨J.b, 1, none⟩ = some (.pointer (some ⟨J.g, 0, none⟩)) ∧ w'.cell? ⟨w.heap.size, 0, none⟩ = some (.int .i64 r.1) ∧ w'.cell? ⟨w.heap.size, 1, none⟩ = some (.int .i64 r.2) ∧ w'.cell? ⟨g6, 0, none⟩ = some (.string c.1) ∧ w'.cell? ⟨g6, 1, none⟩ = some (.int .i64 wd) ∧ w'.cell? ⟨g6, 2, none⟩ = some (.string c.2.2)) (ds := []) #[false, false, false, false, false, false, false, false, false, false] (by kernel_rfl) rfl rfl (S6.out _ _ _ _ _ _ _ HDS6.out (by simp) (by simp)) (fun hHeld => ?_)
  generalize wys53.drew = wxs6 at HDS6 hHeld ⊢
  refine pu_ 0 (some 48) ?_
  refine pu_ 1 (some 49) ?_
  refine pu_ 2 (some 50) ?_
  refine pu_ 3 (some 51) ?_
  refine ta_ 4 (some 52) hHeld ?_ (hy := Or.inl ⟨by rfl, by rintro w' ⟨s0, s1, s2, s3, s4, s5, s6⟩; go_simp; with_reducible rfl⟩)
  refine ta_ 5 (some 53) hHeld ?_ (hy := Or.inl ⟨by rfl, by rintro w' ⟨s0, s1, s2, s3, s4, s5, s6⟩; go_simp; with_reducible rfl⟩)
  refine ta_ 6 (some 54) hHeld ?_ (hy := Or.inl ⟨by rfl, by rintro w' ⟨s0, s1, s2, s3, s4, s5, s6⟩; go_simp; with_reducible rfl⟩)
  refine on_ 7 (some 55) fun K_ hK => ?_
  refine gs_ Try.func137 #[.pointer (some ⟨J.g, 0, none⟩), .agg #[.int .i64 r.1, .int .i64 r.2], .agg #[.string c.1, .int .i64 wd, .string c.2.2]] ?_
  refine (rset.calls HDS6.out r (c.1, wd, c.2.2) HY.out.2.2.2.2.1 HY.out.2.2.2.2.2).mono ?_
  rintro e9 wys61 ⟨rfl, hh⟩
  refine ⟨_, rfl, ?_⟩
  have HYs61 := As (show Bt w0 wys61 J t' s' f .nilFunc R1 (cb (g6) 126 #[.string c.1, .int .i64 wd, .string c.2.2] :: cb (w.heap.size) 33 #[.int .i64 r.1, .int .i64 r.2] :: L) from hh)
  clear hh
  refine hK.out _ _ (S6.out _ _ _ _ _ _ _ HYs61.out (by simp) (by simp)) (fun hHeld => ?_)
  clear hK K_
  refine nm_ ?_
  refine pu_ 8 (some 4) ?_
  refine pu_ 9 (some 5) ?_
  refine done_ (by kernel_rfl) ?_
  go_wp2_with fail
  exact bodyPost_ret (v := .tuple #[.slice ad1 n cp1, .bool true]) (by simp [results, Try.results77, go_sem]) rfl ⟨ad1, cp1, R1, rfl, HYs61.out.tail.tail⟩
end
end Go.Proofs.Ytglbcfkmaamhaaa.Bs
