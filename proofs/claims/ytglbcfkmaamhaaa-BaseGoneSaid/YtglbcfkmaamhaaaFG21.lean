/- A text of this claim: parts BsH. No condition. -/
import Derived.Test.YtglbcfkmaamhaaaFG20
import Derived.Test.YtglbcfkmaamhaaaFG2
import Derived.Test.YtglbcfkmaamhaaaFG0
set_option linter.unusedVariables false
set_option linter.unusedSimpArgs false
set_option maxHeartbeats 16000000
set_option maxRecDepth 100000
namespace Go.Proofs.Ytglbcfkmaamhaaa.Bs
open Go Go.RowKit Go.Proofs.YtglbcfkmaamhaaaW.PrintWords Go.Proofs.YtglbcfkmaamhaaaW.PrintLast Go.Proofs.YtglbcfkmaamhaaaW.PrintMore Go.Proofs.Ytglbcfkmaamhaaa.Hv Go.Proofs.Ytglbcfkmaamhaaa.Arm Go.Proofs.Ytglbcfkmaamhaaa.Nd Go.Proofs.Ytglbcfkmaamhaaa.Tr
variable {w0 w w1 : World} {L L' R : List Ob} {t : Tm} {s : Ar} {f : Int} {on : Value} {J : Jx}
def PutC (w0 : World) (K : Nat × Nat × Nat) (t t' : Tm) (n : Nat) (er : Int) (key : ByteArray) (r : Rf) : Prop := ∀ (w : World) (on : Value) (R Lx : List Ob), Mt w0 w K t on R Lx → Calls Try.prog 66 #[.pointer (some ⟨K.1, 0, none⟩), .string key, .agg #[.int .i64 r.1, .int .i64 r.2]] w fun e w' => ∃ ad cp A R', e = .returned (.tuple #[.slice ad n cp, .int .i64 er]) ∧ Mt w0 w' K t' .nilFunc R' (A ++ Lx)
theorem place.dup (h : Bt w0 w J t s f on R L) (key : ByteArray) {l : List (Rf × Nat)} {q : Rf} (hd : Dn t key t.root l q) (ho : Nd.Ok (t.at q)) (hfi : (t.find key q).2 = true) : Calls Try.prog 76 #[.pointer (some ⟨J.b, 0, none⟩), .string key] w fun e w' => e = .returned (.tuple #[.agg #[.int .i64 0, .int .i64 0], .slice none 0 0, .int .i64 13]) ∧ Bt w0 w' J t s f .nilFunc R L := by
 have hu33 := Try.underlying33
 have hu85 := Try.underlying85
 have hu116 := Try.underlying116
 have hu126 := Try.underlying126
 have hu185 := Try.underlying185
 have hu189 := Try.underlying189
 have HM := As (show Bt w0 _ J t s f on R (cb (w.heap.size + 1) 33 #[.int .i64 0, .int .i64 0] :: cb (w.heap.size) 33 #[.int .i64 0, .int .i64 0] :: L) by
  have := (h.alloc (.cells #[.int .i64 0, .int .i64 0] 33)).alloc (.cells #[.int .i64 0, .int .i64 0] 33)
  simpa [cb] using this)
 have HY := As (And.intro hd ho)
 have HFI := As hfi
 clear h hd ho hfi
 obtain ⟨t4_0, t4_1, t4_f0, t4_f1⟩ := HM.out.other.c2 (w.heap.size) 33 (.int .i64 0) (.int .i64 0) (by simp)
 obtain ⟨t7_0, t7_1, t7_f0, t7_f1⟩ := HM.out.other.c2 (w.heap.size + 1) 33 (.int .i64 0) (.int .i64 0) (by simp)
 go_enter Try.func76, Try.ntmps76
 go_upto_region 5 with (go_at_call 78; go_loud (refine (find.calls HM.out key HY.out.1 HY.out.2).mono ?_; rintro e2 w2 ⟨rfl, hh⟩; have H2 := As hh; clear hh))
 clear t4_0 t4_f0 t4_1 t4_f1 t7_0 t7_f0 t7_1 t7_f1
 obtain ⟨W3, hW, hM⟩ : ∃ W, W = (w2.alloc (.cells #[.int .i64 (t.find key q).1.1, .int .i64 (t.find key q).1.2] 33)).alloc (.cells #[.int .i64 q.1, .int .i64 q.2, .int .i64 (t.at q).ver] 85) ∧ Bt w0 W J t s f .nilFunc R (cb (w.heap.size + 1) 33 #[.int .i64 0, .int .i64 0] :: cb (w.heap.size) 33 #[.int .i64 0, .int .i64 0] :: L) := ⟨_, rfl, (((H2.out.alloc _).alloc _).tail).tail⟩
 rw [← hW]
 have H3 := As hM
 clear hW hM
 generalize w2.heap.size = g8
 rw [HFI.out]
 obtain ⟨t4_0, t4_1, t4_f0, t4_f1⟩ := H3.out.other.c2 (w.heap.size) 33 (.int .i64 0) (.int .i64 0) (by simp)
 obtain ⟨t7_0, t7_1, t7_f0, t7_f1⟩ := H3.out.other.c2 (w.heap.size + 1) 33 (.int .i64 0) (.int .i64 0) (by simp)
 obtain ⟨c0, c1, c2, c3⟩ := H3.out.cells
 go_wp2_with fail
 obtain ⟨wg, hw, hg⟩ : ∃ wg, wg = _ ∧ Bt w0 wg J t s f .nilFunc R (cb (w.heap.size + 1) 33 #[.int .i64 0, .int .i64 0] :: cb (w.heap.size) 33 #[.int .i64 0, .int .i64 0] :: L) := ⟨_, rfl, (Bt.putB1 (Bt.putB1 H3.out 0 (.int .i64 0) rfl) 1 (.int .i64 0) rfl)⟩
 rw [← hw]
 clear t4_0 t4_f0 t4_1 t4_f1 t7_0 t7_f0 t7_1 t7_f1
 obtain ⟨t4_0, t4_1, t4_f0, t4_f1⟩ := hg.other.c2 (w.heap.size) 33 (.int .i64 0) (.int .i64 0) (by simp)
 exact bodyPost_ret (v := .tuple #[.agg #[.int .i64 0, .int .i64 0], .slice none 0 0, .int .i64 13]) (by simp [results, Try.results76, go_sem, t4_0, t4_1, hu33]) rfl ⟨rfl, hg.tail.tail⟩
theorem place.ok (h : Bt w0 w J t s f on R L) (key : ByteArray) {l : List (Rf × Nat)} {q : Rf} (hd : Dn t key t.root l q) (ho : Nd.Ok (t.at q)) (hfi : (t.find key q).2 = false) (hr : ¬ s.room = 0) {r : Rf} (htk : tk s = (r.1, r.2, 0)) {s1 : Ar} (hs1 : s.took (rcell (key, 2, ⟨#[]⟩)) = s1) {t' : Tm} {n : Nat} (hput : PutC w0 J.K t t' n 0 key r) : Calls Try.prog 76 #[.pointer (some ⟨J.b, 0, none⟩), .string key] w fun e w' => ∃ ad cp R', e = .returned (.tuple #[.agg #[.int .i64 r.1, .int .i64 r.2], .slice ad n cp, .int .i64 0]) ∧ Bt w0 w' J t' s1 f .nilFunc R' L := by
 have hu33 := Try.underlying33
 have hu85 := Try.underlying85
 have hu116 := Try.underlying116
 have hu126 := Try.underlying126
 have hu185 := Try.underlying185
 have hu189 := Try.underlying189
 have HM := As (show Bt w0 _ J t s f on R (cb (w.heap.size + 1) 33 #[.int .i64 0, .int .i64 0] :: cb (w.heap.size) 33 #[.int .i64 0, .int .i64 0] :: L) by
  have := (h.alloc (.cells #[.int .i64 0, .int .i64 0] 33)).alloc (.cells #[.int .i64 0, .int .i64 0] 33)
  simpa [cb] using this)
 have HY := As (And.intro hd ho)
 have HFI := As hfi
 have HR := As hr
 have HT := As (And.intro htk hs1)
 have HP := As hput
 clear h hd ho hfi hr htk hs1 hput
 obtain ⟨t4_0, t4_1, t4_f0, t4_f1⟩ := HM.out.other.c2 (w.heap.size) 33 (.int .i64 0) (.int .i64 0) (by simp)
 obtain ⟨t7_0, t7_1, t7_f0, t7_f1⟩ := HM.out.other.c2 (w.heap.size + 1) 33 (.int .i64 0) (.int .i64 0) (by simp)
 go_enter Try.func76, Try.ntmps76
 go_upto_region 5 with (go_at_call 78; go_loud (refine (find.calls HM.out key HY.out.1 HY.out.2).mono ?_; rintro e2 w2 ⟨rfl, hh⟩; have H2 := As hh; clear hh))
 clear t4_0 t4_f0 t4_1 t4_f1 t7_0 t7_f0 t7_1 t7_f1
 obtain ⟨W3, hW, hM⟩ : ∃ W, W = (w2.alloc (.cells #[.int .i64 (t.find key q).1.1, .int .i64 (t.find key q).1.2] 33)).alloc (.cells #[.int .i64 q.1, .int .i64 q.2, .int .i64 (t.at q).ver] 85) ∧ Bt w0 W J t s f .nilFunc R (cb (w.heap.size + 1) 33 #[.int .i64 0, .int .i64 0] :: cb (w.heap.size) 33 #[.int .i64 0, .int .i64 0] :: L) := ⟨_, rfl, (((H2.out.alloc _).alloc _).tail).tail⟩
 rw [← hW]
 have H3 := As hM
 clear hW hM
 generalize w2.heap.size = g8
 rw [HFI.out]
 obtain ⟨t4_0, t4_1, t4_f0, t4_f1⟩ := H3.out.other.c2 (w.heap.size) 33 (.int .i64 0) (.int .i64 0) (by simp)
 obtain ⟨t7_0, t7_1, t7_f0, t7_f1⟩ := H3.out.other.c2 (w.heap.size + 1) 33 (.int .i64 0) (.int .i64 0) (by simp)
 obtain ⟨c0, c1, c2, c3⟩ := H3.out.cells
 have hr0 : (s.room == 0) = false := by rw [beq_eq_false_iff_ne]; exact HR.out
 have hr1 := HR.out
 go_upto_region 9 with (go_at_call 130; go_loud (refine (rroom.calls H3.out).mono ?_; rintro e4 w4 ⟨rfl, hh⟩; have H4 := As hh; clear hh))
 clear t4_0 t4_f0 t4_1 t4_f1 t7_0 t7_f0 t7_1 t7_f1; clear c0 c1 c2 c3; clear hr0 hr1
 have S9 := As (show ∀ (w' : World) (t' : Tm) (s' : Ar) (f' : Int) (on' : Value) (R' L' : List Ob), Bt w0 w' J t' s' f' on' R' L' → cb (w.heap.size + 1) 33 #[.int .i64 0, .int .i64 0] ∈ L' → (w'.cell? ⟨J.b, 0, none⟩ = some (.pointer (some ⟨J.K.1, 0, none⟩)) ∧ w'.cell? ⟨J.b, 1, none⟩ = some (.pointer (some ⟨J.g, 0, none⟩)) ∧ w'.cell? ⟨w.heap.size + 1, 0, none⟩ = some (.int .i64 0) ∧ w'.cell? ⟨w.heap.size + 1, 1, none⟩ = some (.int .i64 0)) from fun w' t' s' f' on' R' L' h m0 => by
  obtain ⟨c0, c1, -, -⟩ := h.cells
  obtain ⟨t7_0, t7_1, -, -⟩ := h.other.c2 _ _ _ _ m0
  exact ⟨c0, c1, t7_0, t7_1⟩)
 have HDS9 := As H4.out.drew
 refine start_ (n := 14) (S := fun w' => w'.cell? ⟨J.b, 0, none⟩ = some (.pointer (some ⟨J.K.1, 0, none⟩)) ∧ w'.cell? ⟨J.b, 1, none⟩ = some (.pointer (some ⟨J.g, 0, none⟩)) ∧ w'.cell? ⟨w.heap.size + 1, 0, none⟩ = some (.int .i64 0) ∧ w'.cell? ⟨w.heap.size + 1, 1, none⟩ = some (.int .i64 0)) (ds := [12]) #[false, false, false, false, false, false, false, false, false, false, false, false, false, false] (by kernel_rfl) rfl rfl (S9.out _ _ _ _ _ _ _ HDS9.out (by simp)) (fun hHeld => ?_)
 generalize w4.drew = wxs9 at HDS9 hHeld ⊢
 refine pu_ 0 (some 35) ?_
 refine pu_ 1 (some 36) ?_
 refine pu_ 2 (some 37) ?_
 refine pu_ 4 (some 39) ?_
 refine ta_ 3 (some 38) hHeld ?_ (hy := Or.inl ⟨by rfl, by rintro w' ⟨s0, s1, s2, s3⟩; go_simp; with_reducible rfl⟩)
 refine two_ (i := 5) (j := 11) (Ni := some 40) (Nj := some 11) #[true, true, true, true, true, true, false, false, false, false, false, false, false, false] #[true, true, true, true, true, false, false, false, false, false, false, true, false, false] rfl rfl rfl rfl (by kernel_rfl) (by decide) (by decide) (fun K_ hK => ?_) (fun K_ hK => ?_)
 ·refine gs_ Try.func132 #[.int .i64 0, .bool false, .bool true, .bool false] ?_
  refine (with0ftf _).mono ?_
  rintro e9 wys91 ⟨rfl, hb⟩
  refine ⟨_, rfl, ?_⟩
  have HYs91 := As (show Bt w0 wys91 J t s f .nilFunc R (cb (w.heap.size + 1) 33 #[.int .i64 0, .int .i64 0] :: cb (w.heap.size) 33 #[.int .i64 0, .int .i64 0] :: L) from HDS9.out.call hb)
  clear hb
  refine hK.out _ _ (S9.out _ _ _ _ _ _ _ HYs91.out (by simp)) (fun hHeld => ?_)
  clear hK K_
  refine nm_ ?_
  refine pu_ 6 (some 41) ?_
  refine two_ (i := 7) (j := 11) (Ni := some 42) (Nj := some 11) #[true, true, true, true, true, true, true, true, false, false, false, false, false, false] #[true, true, true, true, true, true, true, false, false, false, false, true, false, false] rfl rfl rfl rfl (by kernel_rfl) (by decide) (by decide) (fun K_ hK => ?_) (fun K_ hK => ?_)
  ·refine gs_ Try.func131 #[.pointer (some ⟨J.g, 0, none⟩), .agg #[.string key, .int .i64 2, .string ⟨#[]⟩]] ?_
   refine (rtake.calls HYs91.out (key, 2, ⟨#[]⟩) HT.out.1 HT.out.2).mono ?_
   rintro e9 wys92 ⟨rfl, hh⟩
   refine ⟨_, rfl, ?_⟩
   have HYs92 := As (show Bt w0 wys92 J t s1 f .nilFunc R (cb (w.heap.size + 1) 33 #[.int .i64 0, .int .i64 0] :: cb (w.heap.size) 33 #[.int .i64 0, .int .i64 0] :: L) from hh)
   clear hh
   refine hK.out _ _ (S9.out _ _ _ _ _ _ _ HYs92.out (by simp)) (fun hHeld => ?_)
   clear hK K_
   refine nm_ ?_
   refine pu_ 8 (some 34) ?_
   refine pu_ 9 (some 43) ?_
   refine pu_ 10 (some 44) ?_
   refine on_ 11 (some 11) fun K_ hK => ?_
   refine value_ (v := .pointer (some ⟨wys92.heap.size, 0, none⟩)) (w1 := wys92.alloc (.cells #[.int .i64 0, .int .i64 0] 33)) (by rfl) rfl ?_ ?_
   ·go_simp
   obtain ⟨wys93, hW, hvv⟩ : ∃ W, W = wys92.alloc (.cells #[.int .i64 0, .int .i64 0] 33) ∧ Bt w0 W J t s1 f .nilFunc R (cb (wys92.heap.size) 33 #[.int .i64 0, .int .i64 0] :: cb (w.heap.size + 1) 33 #[.int .i64 0, .int .i64 0] :: cb (w.heap.size) 33 #[.int .i64 0, .int .i64 0] :: L) := ⟨_, rfl, HYs92.out.alloc _⟩
   rw [← hW]
   have HYs93 := As hvv
   clear hW hvv
   refine hK.out _ _ (S9.out _ _ _ _ _ _ _ HYs93.out (by simp)) (fun hHeld => ?_)
   clear hK K_
   refine nm_ ?_
   refine la_ 12 none fun K_ hK => ?_
   obtain ⟨b0, b1, d0, d1⟩ := HYs93.out.other.c2 (wys92.heap.size) 33 (.int .i64 0) (.int .i64 0) List.mem_cons_self
   refine sk_ (hK.out _ _ ?_)
   clear hK K_ b0 b1 d0 d1
   obtain ⟨wys94, hW, hvv⟩ : ∃ W, W = _ ∧ Bt w0 W J t s1 f .nilFunc R (cb (wys92.heap.size) 33 #[.int .i64 r.1, .int .i64 r.2] :: cb (w.heap.size + 1) 33 #[.int .i64 0, .int .i64 0] :: cb (w.heap.size) 33 #[.int .i64 0, .int .i64 0] :: L) := ⟨_, rfl, (Bt.putB0 (Bt.putB0 HYs93.out 0 (.int .i64 r.1) rfl) 1 (.int .i64 r.2) rfl)⟩
   rw [← hW]
   have HYs94 := As hvv
   clear hW hvv
   refine pu_ 13 (some 12) ?_
   refine done_ (by kernel_rfl) ?_
   clear S9
   have HB := As (show Bt w0 wys94 J t s1 f .nilFunc R (cb (wys92.heap.size) 33 #[.int .i64 r.1, .int .i64 r.2] :: cb (w.heap.size + 1) 33 #[.int .i64 0, .int .i64 0] :: cb (w.heap.size) 33 #[.int .i64 0, .int .i64 0] :: L) from HYs94.out)
   clear HYs94
   generalize wys92.heap.size = gx at HB ⊢
   go_upto_region 10 with (fail)
   have SA := As (show ∀ (w' : World) (t' : Tm) (s' : Ar) (f' : Int) (on' : Value) (R' L' : List Ob), Bt w0 w' J t' s' f' on' R' L' → cb (w.heap.size + 1) 33 #[.int .i64 0, .int .i64 0] ∈ L' → cb (gx) 33 #[.int .i64 r.1, .int .i64 r.2] ∈ L' → (w'.cell? ⟨J.b, 0, none⟩ = some (.pointer (some ⟨J.K.1, 0, none⟩)) ∧ w'.cell? ⟨J.b, 1, none⟩ = some (.pointer (some ⟨J.g, 0, none⟩)) ∧ w'.cell? ⟨w.heap.size + 1, 0, none⟩ = some (.int .i64 0) ∧ w'.cell? ⟨w.heap.size + 1, 1, none⟩ = some (.int .i64 0) ∧ w'.cell? ⟨gx, 0, none⟩ = some (.int .i64 r.1) ∧ w'.cell? ⟨gx, 1, none⟩ = some (.int .i64 r.2)) from fun w' t' s' f' on' R' L' h m0 m1 => by
    obtain ⟨c0, c1, -, -⟩ := h.cells
    obtain ⟨t7_0, t7_1, -, -⟩ := h.other.c2 _ _ _ _ m0
    obtain ⟨t11_0, t11_1, -, -⟩ := h.other.c2 _ _ _ _ m1
    exact ⟨c0, c1, t7_0, t7_1, t11_0, t11_1⟩)
   have HDSA := As HB.out.drew
   refine start_ (n := 13) (S := fun w' => w'.cell? ⟨J.b, 0, none⟩ = some (.pointer (some ⟨J.K.1, 0, none⟩)) ∧ w'.cell? ⟨J.b, 1, none⟩ = some (.pointer (some ⟨J.g, 0, none⟩)) ∧ w'.cell? ⟨w.heap.size + 1, 0, none⟩ = some (.int .i64 0) ∧ w'.cell? ⟨w.heap.size + 1, 1, none⟩ = some (.int .i64 0) ∧ w'.cell? ⟨gx, 0, none⟩ = some (.int .i64 r.1) ∧ w'.cell? ⟨gx, 1, none⟩ = some (.int .i64 r.2)) (ds := []) #[false, false, false, false, false, false, false, false, false, false, false, false, false] (by kernel_rfl) rfl rfl (SA.out _ _ _ _ _ _ _ HDSA.out (by simp) (by simp)) (fun hHeld => ?_)
   generalize wys94.drew = wxsa at HDSA hHeld ⊢
   refine pu_ 0 (some 46) ?_
   refine pu_ 1 (some 47) ?_
   refine pu_ 2 (some 48) ?_
   refine pu_ 3 (some 49) ?_
   refine pu_ 5 (some 51) ?_
   refine ta_ 4 (some 50) hHeld ?_ (hy := Or.inl ⟨by rfl, by rintro w' ⟨s0, s1, s2, s3, s4, s5⟩; go_simp; with_reducible rfl⟩)
   refine ta_ 6 (some 52) hHeld ?_ (hy := Or.inl ⟨by rfl, by rintro w' ⟨s0, s1, s2, s3, s4, s5⟩; go_simp; with_reducible rfl⟩)
   refine on_ 7 (some 53) fun K_ hK => ?_
   refine gs_ Try.func66 #[.pointer (some ⟨J.K.1, 0, none⟩), .string key, .agg #[.int .i64 r.1, .int .i64 r.2]] ?_
   obtain ⟨Lx, hL, hLx, back⟩ := HDSA.out.tree
   refine (HP.out _ _ _ _ hL).mono ?_
   rintro e9 wysa1 ⟨ad1, cp1, A1, R1, rfl, hh⟩
   refine ⟨_, rfl, ?_⟩
   have HYsa1 := As (show Bt w0 wysa1 J t' s1 f .nilFunc R1 (A1 ++ (cb (gx) 33 #[.int .i64 r.1, .int .i64 r.2] :: cb (w.heap.size + 1) 33 #[.int .i64 0, .int .i64 0] :: cb (w.heap.size) 33 #[.int .i64 0, .int .i64 0] :: L)) from back _ _ _ _ _ hh)
   clear hh back hLx hL
   refine hK.out _ _ (SA.out _ _ _ _ _ _ _ HYsa1.out (by simp) (by simp)) (fun hHeld => ?_)
   clear hK K_
   refine nm_ ?_
   refine pu_ 8 (some 45) ?_
   refine pu_ 9 (some 54) ?_
   refine pu_ 10 (some 55) ?_
   refine pu_ 11 (some 13) ?_
   refine pu_ 12 (some 14) ?_
   refine done_ (by kernel_rfl) ?_
   clear SA
   have HC := As (show Bt w0 wysa1 J t' s1 f .nilFunc R1 (cb (gx) 33 #[.int .i64 r.1, .int .i64 r.2] :: cb (w.heap.size + 1) 33 #[.int .i64 0, .int .i64 0] :: cb (w.heap.size) 33 #[.int .i64 0, .int .i64 0] :: L) from HYsa1.out.drop (List.sublist_append_right A1 _))
   clear HYsa1
   obtain ⟨t4_0, t4_1, t4_f0, t4_f1⟩ := HC.out.other.c2 (w.heap.size) 33 (.int .i64 0) (.int .i64 0) (by simp)
   obtain ⟨t11_0, t11_1, t11_f0, t11_f1⟩ := HC.out.other.c2 (gx) 33 (.int .i64 r.1) (.int .i64 r.2) (by simp)
   go_wp2_with fail
   obtain ⟨wg, hw, hg⟩ : ∃ wg, wg = _ ∧ Bt w0 wg J t' s1 f .nilFunc R1 (cb (gx) 33 #[.int .i64 r.1, .int .i64 r.2] :: cb (w.heap.size + 1) 33 #[.int .i64 0, .int .i64 0] :: cb (w.heap.size) 33 #[.int .i64 r.1, .int .i64 r.2] :: L) := ⟨_, rfl, (Bt.putB2 (Bt.putB2 HC.out 0 (.int .i64 r.1) rfl) 1 (.int .i64 r.2) rfl)⟩
   rw [← hw]
   obtain ⟨e0, e1, -, -⟩ := hg.other.c2 w.heap.size 33 (.int .i64 r.1) (.int .i64 r.2) (by simp)
   exact bodyPost_ret (v := .tuple #[.agg #[.int .i64 r.1, .int .i64 r.2], .slice ad1 n cp1, .int .i64 0]) (by simp [results, Try.results76, go_sem, e0, e1, hu33]) rfl ⟨ad1, cp1, R1, rfl, hg.tail.tail.tail⟩
  ·refine value_ (v := .pointer (some ⟨wys91.heap.size, 0, none⟩)) (w1 := wys91.alloc (.cells #[.int .i64 0, .int .i64 0] 33)) (by rfl) rfl ?_ ?_
   ·go_simp
   obtain ⟨wys92, hW, hvv⟩ : ∃ W, W = wys91.alloc (.cells #[.int .i64 0, .int .i64 0] 33) ∧ Bt w0 W J t s f .nilFunc R (cb (wys91.heap.size) 33 #[.int .i64 0, .int .i64 0] :: cb (w.heap.size + 1) 33 #[.int .i64 0, .int .i64 0] :: cb (w.heap.size) 33 #[.int .i64 0, .int .i64 0] :: L) := ⟨_, rfl, HYs91.out.alloc _⟩
   rw [← hW]
   have HYs92 := As hvv
   clear hW hvv
   refine hK.out _ _ (S9.out _ _ _ _ _ _ _ HYs92.out (by simp)) (fun hHeld => ?_)
   clear hK K_
   refine nm_ ?_
   refine on_ 7 (some 42) fun K_ hK => ?_
   refine gs_ Try.func131 #[.pointer (some ⟨J.g, 0, none⟩), .agg #[.string key, .int .i64 2, .string ⟨#[]⟩]] ?_
   refine (rtake.calls HYs92.out (key, 2, ⟨#[]⟩) HT.out.1 HT.out.2).mono ?_
   rintro e9 wys93 ⟨rfl, hh⟩
   refine ⟨_, rfl, ?_⟩
   have HYs93 := As (show Bt w0 wys93 J t s1 f .nilFunc R (cb (wys91.heap.size) 33 #[.int .i64 0, .int .i64 0] :: cb (w.heap.size + 1) 33 #[.int .i64 0, .int .i64 0] :: cb (w.heap.size) 33 #[.int .i64 0, .int .i64 0] :: L) from hh)
   clear hh
   refine hK.out _ _ (S9.out _ _ _ _ _ _ _ HYs93.out (by simp)) (fun hHeld => ?_)
   clear hK K_
   refine nm_ ?_
   refine pu_ 8 (some 34) ?_
   refine pu_ 9 (some 43) ?_
   refine pu_ 10 (some 44) ?_
   refine la_ 12 none fun K_ hK => ?_
   obtain ⟨b0, b1, d0, d1⟩ := HYs93.out.other.c2 (wys91.heap.size) 33 (.int .i64 0) (.int .i64 0) List.mem_cons_self
   refine sk_ (hK.out _ _ ?_)
   clear hK K_ b0 b1 d0 d1
   obtain ⟨wys94, hW, hvv⟩ : ∃ W, W = _ ∧ Bt w0 W J t s1 f .nilFunc R (cb (wys91.heap.size) 33 #[.int .i64 r.1, .int .i64 r.2] :: cb (w.heap.size + 1) 33 #[.int .i64 0, .int .i64 0] :: cb (w.heap.size) 33 #[.int .i64 0, .int .i64 0] :: L) := ⟨_, rfl, (Bt.putB0 (Bt.putB0 HYs93.out 0 (.int .i64 r.1) rfl) 1 (.int .i64 r.2) rfl)⟩
   rw [← hW]
   have HYs94 := As hvv
   clear hW hvv
   refine pu_ 13 (some 12) ?_
   refine done_ (by kernel_rfl) ?_
   clear S9
   have HB := As (show Bt w0 wys94 J t s1 f .nilFunc R (cb (wys91.heap.size) 33 #[.int .i64 r.1, .int .i64 r.2] :: cb (w.heap.size + 1) 33 #[.int .i64 0, .int .i64 0] :: cb (w.heap.size) 33 #[.int .i64 0, .int .i64 0] :: L) from HYs94.out)
   clear HYs94
   generalize wys91.heap.size = gx at HB ⊢
   go_upto_region 10 with (fail)
   have SA := As (show ∀ (w' : World) (t' : Tm) (s' : Ar) (f' : Int) (on' : Value) (R' L' : List Ob), Bt w0 w' J t' s' f' on' R' L' → cb (w.heap.size + 1) 33 #[.int .i64 0, .int .i64 0] ∈ L' → cb (gx) 33 #[.int .i64 r.1, .int .i64 r.2] ∈ L' → (w'.cell? ⟨J.b, 0, none⟩ = some (.pointer (some ⟨J.K.1, 0, none⟩)) ∧ w'.cell? ⟨J.b, 1, none⟩ = some (.pointer (some ⟨J.g, 0, none⟩)) ∧ w'.cell? ⟨w.heap.size + 1, 0, none⟩ = some (.int .i64 0) ∧ w'.cell? ⟨w.heap.size + 1, 1, none⟩ = some (.int .i64 0) ∧ w'.cell? ⟨gx, 0, none⟩ = some (.int .i64 r.1) ∧ w'.cell? ⟨gx, 1, none⟩ = some (.int .i64 r.2)) from fun w' t' s' f' on' R' L' h m0 m1 => by
    obtain ⟨c0, c1, -, -⟩ := h.cells
    obtain ⟨t7_0, t7_1, -, -⟩ := h.other.c2 _ _ _ _ m0
    obtain ⟨t11_0, t11_1, -, -⟩ := h.other.c2 _ _ _ _ m1
    exact ⟨c0, c1, t7_0, t7_1, t11_0, t11_1⟩)
   have HDSA := As HB.out.drew
   refine start_ (n := 13) (S := fun w' => w'.cell? ⟨J.b, 0, none⟩ = some (.pointer (some ⟨J.K.1, 0, none⟩)) ∧ w'.cell? ⟨J.b, 1, none⟩ = some (.pointer (some ⟨J.g, 0, none⟩)) ∧ w'.cell? ⟨w.heap.size + 1, 0, none⟩ = some (.int .i64 0) ∧ w'.cell? ⟨w.heap.size + 1, 1, none⟩ = some (.int .i64 0) ∧ w'.cell? ⟨gx, 0, none⟩ = some (.int .i64 r.1) ∧ w'.cell? ⟨gx, 1, none⟩ = some (.int .i64 r.2)) (ds := []) #[false, false, false, false, false, false, false, false, false, false, false, false, false] (by kernel_rfl) rfl rfl (SA.out _ _ _ _ _ _ _ HDSA.out (by simp) (by simp)) (fun hHeld => ?_)
   generalize wys94.drew = wxsa at HDSA hHeld ⊢
   refine pu_ 0 (some 46) ?_
   refine pu_ 1 (some 47) ?_
   refine pu_ 2 (some 48) ?_
   refine pu_ 3 (some 49) ?_
   refine pu_ 5 (some 51) ?_
   refine ta_ 4 (some 50) hHeld ?_ (hy := Or.inl ⟨by rfl, by rintro w' ⟨s0, s1, s2, s3, s4, s5⟩; go_simp; with_reducible rfl⟩)
   refine ta_ 6 (some 52) hHeld ?_ (hy := Or.inl ⟨by rfl, by rintro w' ⟨s0, s1, s2, s3, s4, s5⟩; go_simp; with_reducible rfl⟩)
   refine on_ 7 (some 53) fun K_ hK => ?_
   refine gs_ Try.func66 #[.pointer (some ⟨J.K.1, 0, none⟩), .string key, .agg #[.int .i64 r.1, .int .i64 r.2]] ?_
   obtain ⟨Lx, hL, hLx, back⟩ := HDSA.out.tree
   refine (HP.out _ _ _ _ hL).mono ?_
   rintro e9 wysa1 ⟨ad1, cp1, A1, R1, rfl, hh⟩
   refine ⟨_, rfl, ?_⟩
   have HYsa1 := As (show Bt w0 wysa1 J t' s1 f .nilFunc R1 (A1 ++ (cb (gx) 33 #[.int .i64 r.1, .int .i64 r.2] :: cb (w.heap.size + 1) 33 #[.int .i64 0, .int .i64 0] :: cb (w.heap.size) 33 #[.int .i64 0, .int .i64 0] :: L)) from back _ _ _ _ _ hh)
   clear hh back hLx hL
   refine hK.out _ _ (SA.out _ _ _ _ _ _ _ HYsa1.out (by simp) (by simp)) (fun hHeld => ?_)
   clear hK K_
   refine nm_ ?_
   refine pu_ 8 (some 45) ?_
   refine pu_ 9 (some 54) ?_
   refine pu_ 10 (some 55) ?_
   refine pu_ 11 (some 13) ?_
   refine pu_ 12 (some 14) ?_
   refine done_ (by kernel_rfl) ?_
   clear SA
   have HC := As (show Bt w0 wysa1 J t' s1 f .nilFunc R1 (cb (gx) 33 #[.int .i64 r.1, .int .i64 r.2] :: cb (w.heap.size + 1) 33 #[.int .i64 0, .int .i64 0] :: cb (w.heap.size) 33 #[.int .i64 0, .int .i64 0] :: L) from HYsa1.out.drop (List.sublist_append_right A1 _))
   clear HYsa1
   obtain ⟨t4_0, t4_1, t4_f0, t4_f1⟩ := HC.out.other.c2 (w.heap.size) 33 (.int .i64 0) (.int .i64 0) (by simp)
   obtain ⟨t11_0, t11_1, t11_f0, t11_f1⟩ := HC.out.other.c2 (gx) 33 (.int .i64 r.1) (.int .i64 r.2) (by simp)
   go_wp2_with fail
   obtain ⟨wg, hw, hg⟩ : ∃ wg, wg = _ ∧ Bt w0 wg J t' s1 f .nilFunc R1 (cb (gx) 33 #[.int .i64 r.1, .int .i64 r.2] :: cb (w.heap.size + 1) 33 #[.int .i64 0, .int .i64 0] :: cb (w.heap.size) 33 #[.int .i64 r.1, .int .i64 r.2] :: L) := ⟨_, rfl, (Bt.putB2 (Bt.putB2 HC.out 0 (.int .i64 r.1) rfl) 1 (.int .i64 r.2) rfl)⟩
   rw [← hw]
   obtain ⟨e0, e1, -, -⟩ := hg.other.c2 w.heap.size 33 (.int .i64 r.1) (.int .i64 r.2) (by simp)
   exact bodyPost_ret (v := .tuple #[.agg #[.int .i64 r.1, .int .i64 r.2], .slice ad1 n cp1, .int .i64 0]) (by simp [results, Try.results76, go_sem, e0, e1, hu33]) rfl ⟨ad1, cp1, R1, rfl, hg.tail.tail.tail⟩
 ·refine value_ (v := .pointer (some ⟨wxs9.heap.size, 0, none⟩)) (w1 := wxs9.alloc (.cells #[.int .i64 0, .int .i64 0] 33)) (by rfl) rfl ?_ ?_
  ·go_simp
  obtain ⟨wys91, hW, hvv⟩ : ∃ W, W = wxs9.alloc (.cells #[.int .i64 0, .int .i64 0] 33) ∧ Bt w0 W J t s f .nilFunc R (cb (wxs9.heap.size) 33 #[.int .i64 0, .int .i64 0] :: cb (w.heap.size + 1) 33 #[.int .i64 0, .int .i64 0] :: cb (w.heap.size) 33 #[.int .i64 0, .int .i64 0] :: L) := ⟨_, rfl, HDS9.out.alloc _⟩
  rw [← hW]
  have HYs91 := As hvv
  clear hW hvv
  refine hK.out _ _ (S9.out _ _ _ _ _ _ _ HYs91.out (by simp)) (fun hHeld => ?_)
  clear hK K_
  refine nm_ ?_
  refine on_ 5 (some 40) fun K_ hK => ?_
  refine gs_ Try.func132 #[.int .i64 0, .bool false, .bool true, .bool false] ?_
  refine (with0ftf _).mono ?_
  rintro e9 wys92 ⟨rfl, hb⟩
  refine ⟨_, rfl, ?_⟩
  have HYs92 := As (show Bt w0 wys92 J t s f .nilFunc R (cb (wxs9.heap.size) 33 #[.int .i64 0, .int .i64 0] :: cb (w.heap.size + 1) 33 #[.int .i64 0, .int .i64 0] :: cb (w.heap.size) 33 #[.int .i64 0, .int .i64 0] :: L) from HYs91.out.call hb)
  clear hb
  refine hK.out _ _ (S9.out _ _ _ _ _ _ _ HYs92.out (by simp)) (fun hHeld => ?_)
  clear hK K_
  refine nm_ ?_
  refine pu_ 6 (some 41) ?_
  refine on_ 7 (some 42) fun K_ hK => ?_
  refine gs_ Try.func131 #[.pointer (some ⟨J.g, 0, none⟩), .agg #[.string key, .int .i64 2, .string ⟨#[]⟩]] ?_
  refine (rtake.calls HYs92.out (key, 2, ⟨#[]⟩) HT.out.1 HT.out.2).mono ?_
  rintro e9 wys93 ⟨rfl, hh⟩
  refine ⟨_, rfl, ?_⟩
  have HYs93 := As (show Bt w0 wys93 J t s1 f .nilFunc R (cb (wxs9.heap.size) 33 #[.int .i64 0, .int .i64 0] :: cb (w.heap.size + 1) 33 #[.int .i64 0, .int .i64 0] :: cb (w.heap.size) 33 #[.int .i64 0, .int .i64 0] :: L) from hh)
  clear hh
  refine hK.out _ _ (S9.out _ _ _ _ _ _ _ HYs93.out (by simp)) (fun hHeld => ?_)
  clear hK K_
  refine nm_ ?_
  refine pu_ 8 (some 34) ?_
  refine pu_ 9 (some 43) ?_
  refine pu_ 10 (some 44) ?_
  refine la_ 12 none fun K_ hK => ?_
  obtain ⟨b0, b1, d0, d1⟩ := HYs93.out.other.c2 (wxs9.heap.size) 33 (.int .i64 0) (.int .i64 0) List.mem_cons_self
  refine sk_ (hK.out _ _ ?_)
  clear hK K_ b0 b1 d0 d1
  obtain ⟨wys94, hW, hvv⟩ : ∃ W, W = _ ∧ Bt w0 W J t s1 f .nilFunc R (cb (wxs9.heap.size) 33 #[.int .i64 r.1, .int .i64 r.2] :: cb (w.heap.size + 1) 33 #[.int .i64 0, .int .i64 0] :: cb (w.heap.size) 33 #[.int .i64 0, .int .i64 0] :: L) := ⟨_, rfl, (Bt.putB0 (Bt.putB0 HYs93.out 0 (.int .i64 r.1) rfl) 1 (.int .i64 r.2) rfl)⟩
  rw [← hW]
  have HYs94 := As hvv
  clear hW hvv
  refine pu_ 13 (some 12) ?_
  refine done_ (by kernel_rfl) ?_
  clear S9
  have HB := As (show Bt w0 wys94 J t s1 f .nilFunc R (cb (wxs9.heap.size) 33 #[.int .i64 r.1, .int .i64 r.2] :: cb (w.heap.size + 1) 33 #[.int .i64 0, .int .i64 0] :: cb (w.heap.size) 33 #[.int .i64 0, .int .i64 0] :: L) from HYs94.out)
  clear HYs94
  generalize wxs9.heap.size = gx at HB ⊢
  go_upto_region 10 with (fail)
  have SA := As (show ∀ (w' : World) (t' : Tm) (s' : Ar) (f' : Int) (on' : Value) (R' L' : List Ob), Bt w0 w' J t' s' f' on' R' L' → cb (w.heap.size + 1) 33 #[.int .i64 0, .int .i64 0] ∈ L' → cb (gx) 33 #[.int .i64 r.1, .int .i64 r.2] ∈ L' → (w'.cell? ⟨J.b, 0, none⟩ = some (.pointer (some ⟨J.K.1, 0, none⟩)) ∧ w'.cell? ⟨J.b, 1, none⟩ = some (.pointer (some ⟨J.g, 0, none⟩)) ∧ w'.cell? ⟨w.heap.size + 1, 0, none⟩ = some (.int .i64 0) ∧ w'.cell? ⟨w.heap.size + 1, 1, none⟩ = some (.int .i64 0) ∧ w'.cell? ⟨gx, 0, none⟩ = some (.int .i64 r.1) ∧ w'.cell? ⟨gx, 1, none⟩ = some (.int .i64 r.2)) from fun w' t' s' f' on' R' L' h m0 m1 => by
   obtain ⟨c0, c1, -, -⟩ := h.cells
   obtain ⟨t7_0, t7_1, -, -⟩ := h.other.c2 _ _ _ _ m0
   obtain ⟨t11_0, t11_1, -, -⟩ := h.other.c2 _ _ _ _ m1
   exact ⟨c0, c1, t7_0, t7_1, t11_0, t11_1⟩)
  have HDSA := As HB.out.drew
  refine start_ (n := 13) (S := fun w' => w'.cell? ⟨J.b, 0, none⟩ = some (.pointer (some ⟨J.K.1, 0, none⟩)) ∧ w'.cell? ⟨J.b, 1, none⟩ = some (.pointer (some ⟨J.g, 0, none⟩)) ∧ w'.cell? ⟨w.heap.size + 1, 0, none⟩ = some (.int .i64 0) ∧ w'.cell? ⟨w.heap.size + 1, 1, none⟩ = some (.int .i64 0) ∧ w'.cell? ⟨gx, 0, none⟩ = some (.int .i64 r.1) ∧ w'.cell? ⟨gx, 1, none⟩ = some (.int .i64 r.2)) (ds := []) #[false, false, false, false, false, false, false, false, false, false, false, false, false] (by kernel_rfl) rfl rfl (SA.out _ _ _ _ _ _ _ HDSA.out (by simp) (by simp)) (fun hHeld => ?_)
  generalize wys94.drew = wxsa at HDSA hHeld ⊢
  refine pu_ 0 (some 46) ?_
  refine pu_ 1 (some 47) ?_
  refine pu_ 2 (some 48) ?_
  refine pu_ 3 (some 49) ?_
  refine pu_ 5 (some 51) ?_
  refine ta_ 4 (some 50) hHeld ?_ (hy := Or.inl ⟨by rfl, by rintro w' ⟨s0, s1, s2, s3, s4, s5⟩; go_simp; with_reducible rfl⟩)
  refine ta_ 6 (some 52) hHeld ?_ (hy := Or.inl ⟨by rfl, by rintro w' ⟨s0, s1, s2, s3, s4, s5⟩; go_simp; with_reducible rfl⟩)
  refine on_ 7 (some 53) fun K_ hK => ?_
  refine gs_ Try.func66 #[.pointer (some ⟨J.K.1, 0, none⟩), .string key, .agg #[.int .i64 r.1, .int .i64 r.2]] ?_
  obtain ⟨Lx, hL, hLx, back⟩ := HDSA.out.tree
  refine (HP.out _ _ _ _ hL).mono ?_
  rintro e9 wysa1 ⟨ad1, cp1, A1, R1, rfl, hh⟩
  refine ⟨_, rfl, ?_⟩
  have HYsa1 := As (show Bt w0 wysa1 J t' s1 f .nilFunc R1 (A1 ++ (cb (gx) 33 #[.int .i64 r.1, .int .i64 r.2] :: cb (w.heap.size + 1) 33 #[.int .i64 0, .int .i64 0] :: cb (w.heap.size) 33 #[.int .i64 0, .int .i64 0] :: L)) from back _ _ _ _ _ hh)
  clear hh back hLx hL
  refine hK.out _ _ (SA.out _ _ _ _ _ _ _ HYsa1.out (by simp) (by simp)) (fun hHeld => ?_)
  clear hK K_
  refine nm_ ?_
  refine pu_ 8 (some 45) ?_
  refine pu_ 9 (some 54) ?_
  refine pu_ 10 (some 55) ?_
  refine pu_ 11 (some 13) ?_
  refine pu_ 12 (some 14) ?_
  refine done_ (by kernel_rfl) ?_
  clear SA
  have HC := As (show Bt w0 wysa1 J t' s1 f .nilFunc R1 (cb (gx) 33 #[.int .i64 r.1, .int .i64 r.2] :: cb (w.heap.size + 1) 33 #[.int .i64 0, .int .i64 0] :: cb (w.heap.size) 33 #[.int .i64 0, .int .i64 0] :: L) from HYsa1.out.drop (List.sublist_append_right A1 _))
  clear HYsa1
  obtain ⟨t4_0, t4_1, t4_f0, t4_f1⟩ := HC.out.other.c2 (w.heap.size) 33 (.int .i64 0) (.int .i64 0) (by simp)
  obtain ⟨t11_0, t11_1, t11_f0, t11_f1⟩ := HC.out.other.c2 (gx) 33 (.int .i64 r.1) (.int .i64 r.2) (by simp)
  go_wp2_with fail
  obtain ⟨wg, hw, hg⟩ : ∃ wg, wg = _ ∧ Bt w0 wg J t' s1 f .nilFunc R1 (cb (gx) 33 #[.int .i64 r.1, .int .i64 r.2] :: cb (w.heap.size + 1) 33 #[.int .i64 0, .int .i64 0] :: cb (w.heap.size) 33 #[.int .i64 r.1, .int .i64 r.2] :: L) := ⟨_, rfl, (Bt.putB2 (Bt.putB2 HC.out 0 (.int .i64 r.1) rfl) 1 (.int .i64 r.2) rfl)⟩
  rw [← hw]
  obtain ⟨e0, e1, -, -⟩ := hg.other.c2 w.heap.size 33 (.int .i64 r.1) (.int .i64 r.2) (by simp)
  exact bodyPost_ret (v := .tuple #[.agg #[.int .i64 r.1, .int .i64 r.2], .slice ad1 n cp1, .int .i64 0]) (by simp [results, Try.results76, go_sem, e0, e1, hu33]) rfl ⟨ad1, cp1, R1, rfl, hg.tail.tail.tail⟩
theorem place.full (h : Bt w0 w J t s f on R L) (key : ByteArray) {l : List (Rf × Nat)} {q : Rf} (hd : Dn t key t.root l q) (ho : Nd.Ok (t.at q)) (hfi : (t.find key q).2 = false) (hr : ¬ s.room = 0) {r : Rf} (htk : tk s = (r.1, r.2, 0)) {s1 : Ar} (hs1 : s.took (rcell (key, 2, ⟨#[]⟩)) = s1) {t' : Tm} {n : Nat} {er : Int} (her : ¬ er = 0) {s2 : Ar} (hs1h : s1.has r.1 r.2 = true) (hs2 : s1.free r.1 r.2 (rcell (⟨#[]⟩, 0, ⟨#[]⟩)) = s2) (hput : PutC w0 J.K t t' n er key r) : Calls Try.prog 76 #[.pointer (some ⟨J.b, 0, none⟩), .string key] w fun e w' => ∃ R', e = .returned (.tuple #[.agg #[.int .i64 0, .int .i64 0], .slice none 0 0, .int .i64 er]) ∧ Bt w0 w' J t' s2 f .nilFunc R' L := by
 have hu33 := Try.underlying33
 have hu85 := Try.underlying85
 have hu116 := Try.underlying116
 have hu126 := Try.underlying126
 have hu185 := Try.underlying185
 have hu189 := Try.underlying189
 have HM := As (show Bt w0 _ J t s f on R (cb (w.heap.size + 1) 33 #[.int .i64 0, .int .i64 0] :: cb (w.heap.size) 33 #[.int .i64 0, .int .i64 0] :: L) by
  have := (h.alloc (.cells #[.int .i64 0, .int .i64 0] 33)).alloc (.cells #[.int .i64 0, .int .i64 0] 33)
  simpa [cb] using this)
 have HY := As (And.intro hd ho)
 have HFI := As hfi
 have HR := As hr
 have HT := As (And.intro htk hs1)
 have HP := As hput
 have HE := As (And.intro her (And.intro hs1h hs2))
 clear h hd ho hfi hr htk hs1 her hs1h hs2 hput
 obtain ⟨t4_0, t4_1, t4_f0, t4_f1⟩ := HM.out.other.c2 (w.heap.size) 33 (.int .i64 0) (.int .i64 0) (by simp)
 obtain ⟨t7_0, t7_1, t7_f0, t7_f1⟩ := HM.out.other.c2 (w.heap.size + 1) 33 (.int .i64 0) (.int .i64 0) (by simp)
 go_enter Try.func76, Try.ntmps76
 go_upto_region 5 with (go_at_call 78; go_loud (refine (find.calls HM.out key HY.out.1 HY.out.2).mono ?_; rintro e2 w2 ⟨rfl, hh⟩; have H2 := As hh; clear hh))
 clear t4_0 t4_f0 t4_1 t4_f1 t7_0 t7_f0 t7_1 t7_f1
 obtain ⟨W3, hW, hM⟩ : ∃ W, W = (w2.alloc (.cells #[.int .i64 (t.find key q).1.1, .int .i64 (t.find key q).1.2] 33)).alloc (.cells #[.int .i64 q.1, .int .i64 q.2, .int .i64 (t.at q).ver] 85) ∧ Bt w0 W J t s f .nilFunc R (cb (w.heap.size + 1) 33 #[.int .i64 0, .int .i64 0] :: cb (w.heap.size) 33 #[.int .i64 0, .int .i64 0] :: L) := ⟨_, rfl, (((H2.out.alloc _).alloc _).tail).tail⟩
 rw [← hW]
 have H3 := As hM
 clear hW hM
 generalize w2.heap.size = g8
 rw [HFI.out]
 obtain ⟨t4_0, t4_1, t4_f0, t4_f1⟩ := H3.out.other.c2 (w.heap.size) 33 (.int .i64 0) (.int .i64 0) (by simp)
 obtain ⟨t7_0, t7_1, t7_f0, t7_f1⟩ := H3.out.other.c2 (w.heap.size + 1) 33 (.int .i64 0) (.int .i64 0) (by simp)
 obtain ⟨c0, c1, c2, c3⟩ := H3.out.cells
 have hr0 : (s.room == 0) = false := by rw [beq_eq_false_iff_ne]; exact HR.out
 have hr1 := HR.out
 go_upto_region 9 with (go_at_call 130; go_loud (refine (rroom.calls H3.out).mono ?_; rintro e4 w4 ⟨rfl, hh⟩; have H4 := As hh; clear hh))
 clear t4_0 t4_f0 t4_1 t4_f1 t7_0 t7_f0 t7_1 t7_f1; clear c0 c1 c2 c3; clear hr0 hr1
 have S9 := As (show ∀ (w' : World) (t' : Tm) (s' : Ar) (f' : Int) (on' : Value) (R' L' : List Ob), Bt w0 w' J t' s' f' on' R' L' → cb (w.heap.size + 1) 33 #[.int .i64 0, .int .i64 0] ∈ L' → (w'.cell? ⟨J.b, 0, none⟩ = some (.pointer (some ⟨J.K.1, 0, none⟩)) ∧ w'.cell? ⟨J.b, 1, none⟩ = some (.pointer (some ⟨J.g, 0, none⟩)) ∧ w'.cell? ⟨w.heap.size + 1, 0, none⟩ = some (.int .i64 0) ∧ w'.cell? ⟨w.heap.size + 1, 1, none⟩ = some (.int .i64 0)) from fun w' t' s' f' on' R' L' h m0 => by
  obtain ⟨c0, c1, -, -⟩ := h.cells
  obtain ⟨t7_0, t7_1, -, -⟩ := h.other.c2 _ _ _ _ m0
  exact ⟨c0, c1, t7_0, t7_1⟩)
 have HDS9 := As H4.out.drew
 refine start_ (n := 14) (S := fun w' => w'.cell? ⟨J.b, 0, none⟩ = some (.pointer (some ⟨J.K.1, 0, none⟩)) ∧ w'.cell? ⟨J.b, 1, none⟩ = some (.pointer (some ⟨J.g, 0, none⟩)) ∧ w'.cell? ⟨w.heap.size + 1, 0, none⟩ = some (.int .i64 0) ∧ w'.cell? ⟨w.heap.size + 1, 1, none⟩ = some (.int .i64 0)) (ds := [12]) #[false, false, false, false, false, false, false, false, false, false, false, false, false, false] (by kernel_rfl) rfl rfl (S9.out _ _ _ _ _ _ _ HDS9.out (by simp)) (fun hHeld => ?_)
 generalize w4.drew = wxs9 at HDS9 hHeld ⊢
 refine pu_ 0 (some 35) ?_
 refine pu_ 1 (some 36) ?_
 refine pu_ 2 (some 37) ?_
 refine pu_ 4 (some 39) ?_
 refine ta_ 3 (some 38) hHeld ?_ (hy := Or.inl ⟨by rfl, by rintro w' ⟨s0, s1, s2, s3⟩; go_simp; with_reducible rfl⟩)
 refine two_ (i := 5) (j := 11) (Ni := some 40) (Nj := some 11) #[true, true, true, true, true, true, false, false, false, false, false, false, false, false] #[true, true, true, true, true, false, false, false, false, false, false, true, false, false] rfl rfl rfl rfl (by kernel_rfl) (by decide) (by decide) (fun K_ hK => ?_) (fun K_ hK => ?_)
 ·refine gs_ Try.func132 #[.int .i64 0, .bool false, .bool true, .bool false] ?_
  refine (with0ftf _).mono ?_
  rintro e9 wys91 ⟨rfl, hb⟩
  refine ⟨_, rfl, ?_⟩
  have HYs91 := As (show Bt w0 wys91 J t s f .nilFunc R (cb (w.heap.size + 1) 33 #[.int .i64 0, .int .i64 0] :: cb (w.heap.size) 33 #[.int .i64 0, .int .i64 0] :: L) from HDS9.out.call hb)
  clear hb
  refine hK.out _ _ (S9.out _ _ _ _ _ _ _ HYs91.out (by simp)) (fun hHeld => ?_)
  clear hK K_
  refine nm_ ?_
  refine pu_ 6 (some 41) ?_
  refine two_ (i := 7) (j := 11) (Ni := some 42) (Nj := some 11) #[true, true, true, true, true, true, true, true, false, false, false, false, false, false] #[true, true, true, true, true, true, true, false, false, false, false, true, false, false] rfl rfl rfl rfl (by kernel_rfl) (by decide) (by decide) (fun K_ hK => ?_) (fun K_ hK => ?_)
  ·refine gs_ Try.func131 #[.pointer (some ⟨J.g, 0, none⟩), .agg #[.string key, .int .i64 2, .string ⟨#[]⟩]] ?_
   refine (rtake.calls HYs91.out (key, 2, ⟨#[]⟩) HT.out.1 HT.out.2).mono ?_
   rintro e9 wys92 ⟨rfl, hh⟩
   refine ⟨_, rfl, ?_⟩
   have HYs92 := As (show Bt w0 wys92 J t s1 f .nilFunc R (cb (w.heap.size + 1) 33 #[.int .i64 0, .int .i64 0] :: cb (w.heap.size) 33 #[.int .i64 0, .int .i64 0] :: L) from hh)
   clear hh
   refine hK.out _ _ (S9.out _ _ _ _ _ _ _ HYs92.out (by simp)) (fun hHeld => ?_)
   clear hK K_
   refine nm_ ?_
   refine pu_ 8 (some 34) ?_
   refine pu_ 9 (some 43) ?_
   refine pu_ 10 (some 44) ?_
   refine on_ 11 (some 11) fun K_ hK => ?_
   refine value_ (v := .pointer (some ⟨wys92.heap.size, 0, none⟩)) (w1 := wys92.alloc (.cells #[.int .i64 0, .int .i64 0] 33)) (by rfl) rfl ?_ ?_
   ·go_simp
   obtain ⟨wys93, hW, hvv⟩ : ∃ W, W = wys92.alloc (.cells #[.int .i64 0, .int .i64 0] 33) ∧ Bt w0 W J t s1 f .nilFunc R (cb (wys92.heap.size) 33 #[.int .i64 0, .int .i64 0] :: cb (w.heap.size + 1) 33 #[.int .i64 0, .int .i64 0] :: cb (w.heap.size) 33 #[.int .i64 0, .int .i64 0] :: L) := ⟨_, rfl, HYs92.out.alloc _⟩
   rw [← hW]
   have HYs93 := As hvv
   clear hW hvv
   refine hK.out _ _ (S9.out _ _ _ _ _ _ _ HYs93.out (by simp)) (fun hHeld => ?_)
   clear hK K_
   refine nm_ ?_
   refine la_ 12 none fun K_ hK => ?_
   obtain ⟨b0, b1, d0, d1⟩ := HYs93.out.other.c2 (wys92.heap.size) 33 (.int .i64 0) (.int .i64 0) List.mem_cons_self
   refine sk_ (hK.out _ _ ?_)
   clear hK K_ b0 b1 d0 d1
   obtain ⟨wys94, hW, hvv⟩ : ∃ W, W = _ ∧ Bt w0 W J t s1 f .nilFunc R (cb (wys92.heap.size) 33 #[.int .i64 r.1, .int .i64 r.2] :: cb (w.heap.size + 1) 33 #[.int .i64 0, .int .i64 0] :: cb (w.heap.size) 33 #[.int .i64 0, .int .i64 0] :: L) := ⟨_, rfl, (Bt.putB0 (Bt.putB0 HYs93.out 0 (.int .i64 r.1) rfl) 1 (.int .i64 r.2) rfl)⟩
   rw [← hW]
   have HYs94 := As hvv
   clear hW hvv
   refine pu_ 13 (some 12) ?_
   refine done_ (by kernel_rfl) ?_
   clear S9
   have HB := As (show Bt w0 wys94 J t s1 f .nilFunc R (cb (wys92.heap.size) 33 #[.int .i64 r.1, .int .i64 r.2] :: cb (w.heap.size + 1) 33 #[.int .i64 0, .int .i64 0] :: cb (w.heap.size) 33 #[.int .i64 0, .int .i64 0] :: L) from HYs94.out)
   clear HYs94
   generalize wys92.heap.size = gx at HB ⊢
   go_upto_region 10 with (fail)
   have SA := As (show ∀ (w' : World) (t' : Tm) (s' : Ar) (f' : Int) (on' : Value) (R' L' : List Ob), Bt w0 w' J t' s' f' on' R' L' → cb (w.heap.size + 1) 33 #[.int .i64 0, .int .i64 0] ∈ L' → cb (gx) 33 #[.int .i64 r.1, .int .i64 r.2] ∈ L' → (w'.cell? ⟨J.b, 0, none⟩ = some (.pointer (some ⟨J.K.1, 0, none⟩)) ∧ w'.cell? ⟨J.b, 1, none⟩ = some (.pointer (some ⟨J.g, 0, none⟩)) ∧ w'.cell? ⟨w.heap.size + 1, 0, none⟩ = some (.int .i64 0) ∧ w'.cell? ⟨w.heap.size + 1, 1, none⟩ = some (.int .i64 0) ∧ w'.cell? ⟨gx, 0, none⟩ = some (.int .i64 r.1) ∧ w'.cell? ⟨gx, 1, none⟩ = some (.int .i64 r.2)) from fun w' t' s' f' on' R' L' h m0 m1 => by
    obtain ⟨c0, c1, -, -⟩ := h.cells
    obtain ⟨t7_0, t7_1, -, -⟩ := h.other.c2 _ _ _ _ m0
    obtain ⟨t11_0, t11_1, -, -⟩ := h.other.c2 _ _ _ _ m1
    exact ⟨c0, c1, t7_0, t7_1, t11_0, t11_1⟩)
   have HDSA := As HB.out.drew
   refine start_ (n := 13) (S := fun w' => w'.cell? ⟨J.b, 0, none⟩ = some (.pointer (some ⟨J.K.1, 0, none⟩)) ∧ w'.cell? ⟨J.b, 1, none⟩ = some (.pointer (some ⟨J.g, 0, none⟩)) ∧ w'.cell? ⟨w.heap.size + 1, 0, none⟩ = some (.int .i64 0) ∧ w'.cell? ⟨w.heap.size + 1, 1, none⟩ = some (.int .i64 0) ∧ w'.cell? ⟨gx, 0, none⟩ = some (.int .i64 r.1) ∧ w'.cell? ⟨gx, 1, none⟩ = some (.int .i64 r.2)) (ds := []) #[false, false, false, false, false, false, false, false, false, false, false, false, false] (by kernel_rfl) rfl rfl (SA.out _ _ _ _ _ _ _ HDSA.out (by simp) (by simp)) (fun hHeld => ?_)
   generalize wys94.drew = wxsa at HDSA hHeld ⊢
   refine pu_ 0 (some 46) ?_
   refine pu_ 1 (some 47) ?_
   refine pu_ 2 (some 48) ?_
   refine pu_ 3 (some 49) ?_
   refine pu_ 5 (some 51) ?_
   refine ta_ 4 (some 50) hHeld ?_ (hy := Or.inl ⟨by rfl, by rintro w' ⟨s0, s1, s2, s3, s4, s5⟩; go_simp; with_reducible rfl⟩)
   refine ta_ 6 (some 52) hHeld ?_ (hy := Or.inl ⟨by rfl, by rintro w' ⟨s0, s1, s2, s3, s4, s5⟩; go_simp; with_reducible rfl⟩)
   refine on_ 7 (some 53) fun K_ hK => ?_
   refine gs_ Try.func66 #[.pointer (some ⟨J.K.1, 0, none⟩), .string key, .agg #[.int .i64 r.1, .int .i64 r.2]] ?_
   obtain ⟨Lx, hL, hLx, back⟩ := HDSA.out.tree
   refine (HP.out _ _ _ _ hL).mono ?_
   rintro e9 wysa1 ⟨ad1, cp1, A1, R1, rfl, hh⟩
   refine ⟨_, rfl, ?_⟩
   have HYsa1 := As (show Bt w0 wysa1 J t' s1 f .nilFunc R1 (A1 ++ (cb (gx) 33 #[.int .i64 r.1, .int .i64 r.2] :: cb (w.heap.size + 1) 33 #[.int .i64 0, .int .i64 0] :: cb (w.heap.size) 33 #[.int .i64 0, .int .i64 0] :: L)) from back _ _ _ _ _ hh)
   clear hh back hLx hL
   refine hK.out _ _ (SA.out _ _ _ _ _ _ _ HYsa1.out (by simp) (by simp)) (fun hHeld => ?_)
   clear hK K_
   refine nm_ ?_
   refine pu_ 8 (some 45) ?_
   refine pu_ 9 (some 54) ?_
   refine pu_ 10 (some 55) ?_
   refine pu_ 11 (some 13) ?_
   refine pu_ 12 (some 14) ?_
   refine done_ (by kernel_rfl) ?_
   clear SA
   have HC := As (show Bt w0 wysa1 J t' s1 f .nilFunc R1 (cb (gx) 33 #[.int .i64 r.1, .int .i64 r.2] :: cb (w.heap.size + 1) 33 #[.int .i64 0, .int .i64 0] :: cb (w.heap.size) 33 #[.int .i64 0, .int .i64 0] :: L) from HYsa1.out.drop (List.sublist_append_right A1 _))
   clear HYsa1
   have her := HE.out.1
   have her0 : (er == 0) = false := by rw [beq_eq_false_iff_ne]; exact her
   go_upto_region 12 with (fail)
   clear her her0
   have SC := As (show ∀ (w' : World) (t' : Tm) (s' : Ar) (f' : Int) (on' : Value) (R' L' : List Ob), Bt w0 w' J t' s' f' on' R' L' → cb (w.heap.size + 1) 33 #[.int .i64 0, .int .i64 0] ∈ L' → cb (gx) 33 #[.int .i64 r.1, .int .i64 r.2] ∈ L' → (w'.cell? ⟨J.b, 0, none⟩ = some (.pointer (some ⟨J.K.1, 0, none⟩)) ∧ w'.cell? ⟨J.b, 1, none⟩ = some (.pointer (some ⟨J.g, 0, none⟩)) ∧ w'.cell? ⟨w.heap.size + 1, 0, none⟩ = some (.int .i64 0) ∧ w'.cell? ⟨w.heap.size + 1, 1, none⟩ = some (.int .i64 0) ∧ w'.cell? ⟨gx, 0, none⟩ = some (.int .i64 r.1) ∧ w'.cell? ⟨gx, 1, none⟩ = some (.int .i64 r.2)) from fun w' t' s' f' on' R' L' h m0 m1 => by
    obtain ⟨c0, c1, -, -⟩ := h.cells
    obtain ⟨t7_0, t7_1, -, -⟩ := h.other.c2 _ _ _ _ m0
    obtain ⟨t11_0, t11_1, -, -⟩ := h.other.c2 _ _ _ _ m1
    exact ⟨c0, c1, t7_0, t7_1, t11_0, t11_1⟩)
   have HDSC := As HC.out.drew
   refine start_ (n := 6) (S := fun w' => w'.cell? ⟨J.b, 0, none⟩ = some (.pointer (some ⟨J.K.1, 0, none⟩)) ∧ w'.cell? ⟨J.b, 1, none⟩ = some (.pointer (some ⟨J.g, 0, none⟩)) ∧ w'.cell? ⟨w.heap.size + 1, 0, none⟩ = some (.int .i64 0) ∧ w'.cell? ⟨w.heap.size + 1, 1, none⟩ = some (.int .i64 0) ∧ w'.cell? ⟨gx, 0, none⟩ = some (.int .i64 r.1) ∧ w'.cell? ⟨gx, 1, none⟩ = some (.int .i64 r.2)) (ds := []) #[false, false, false, false, false, false] (by kernel_rfl) rfl rfl (SC.out _ _ _ _ _ _ _ HDSC.out (by simp) (by simp)) (fun hHeld => ?_)
   generalize wysa1.drew = wxsc at HDSC hHeld ⊢
   refine pu_ 0 (some 58) ?_
   refine pu_ 1 (some 59) ?_
   refine pu_ 2 (some 60) ?_
   refine ta_ 3 (some 61) hHeld ?_ (hy := Or.inl ⟨by rfl, by rintro w' ⟨s0, s1, s2, s3, s4, s5⟩; go_simp; with_reducible rfl⟩)
   refine ta_ 4 (some 62) hHeld ?_ (hy := Or.inl ⟨by rfl, by rintro w' ⟨s0, s1, s2, s3, s4, s5⟩; go_simp; with_reducible rfl⟩)
   refine on_ 5 (some 63) fun K_ hK => ?_
   refine gs_ Try.func133 #[.pointer (some ⟨J.g, 0, none⟩), .agg #[.int .i64 r.1, .int .i64 r.2]] ?_
   refine (rfree.calls HDSC.out r HE.out.2.1 HE.out.2.2).mono ?_
   rintro e9 wysc1 ⟨rfl, hh⟩
   refine ⟨_, rfl, ?_⟩
   have HYsc1 := As (show Bt w0 wysc1 J t' s2 f .nilFunc R1 (cb (gx) 33 #[.int .i64 r.1, .int .i64 r.2] :: cb (w.heap.size + 1) 33 #[.int .i64 0, .int .i64 0] :: cb (w.heap.size) 33 #[.int .i64 0, .int .i64 0] :: L) from hh)
   clear hh
   refine hK.out _ _ (SC.out _ _ _ _ _ _ _ HYsc1.out (by simp) (by simp)) (fun hHeld => ?_)
   clear hK K_
   refine nm_ ?_
   refine done_ (by kernel_rfl) ?_
   clear SC
   obtain ⟨t4_0, t4_1, t4_f0, t4_f1⟩ := HYsc1.out.other.c2 (w.heap.size) 33 (.int .i64 0) (.int .i64 0) (by simp)
   obtain ⟨t7_0, t7_1, t7_f0, t7_f1⟩ := HYsc1.out.other.c2 (w.heap.size + 1) 33 (.int .i64 0) (.int .i64 0) (by simp)
   go_wp2_with fail
   obtain ⟨wg, hw, hg⟩ : ∃ wg, wg = _ ∧ Bt w0 wg J t' s2 f .nilFunc R1 (cb (gx) 33 #[.int .i64 r.1, .int .i64 r.2] :: cb (w.heap.size + 1) 33 #[.int .i64 0, .int .i64 0] :: cb (w.heap.size) 33 #[.int .i64 0, .int .i64 0] :: L) := ⟨_, rfl, (Bt.putB2 (Bt.putB2 HYsc1.out 0 (.int .i64 0) rfl) 1 (.int .i64 0) rfl)⟩
   rw [← hw]
   obtain ⟨e0, e1, -, -⟩ := hg.other.c2 w.heap.size 33 (.int .i64 0) (.int .i64 0) (by simp)
   exact bodyPost_ret (v := .tuple #[.agg #[.int .i64 0, .int .i64 0], .slice none 0 0, .int .i64 er]) (by simp [results, Try.results76, go_sem, e0, e1, hu33]) rfl ⟨R1, rfl, hg.tail.tail.tail⟩
  ·refine value_ (v := .pointer (some ⟨wys91.heap.size, 0, none⟩)) (w1 := wys91.alloc (.cells #[.int .i64 0, .int .i64 0] 33)) (by rfl) rfl ?_ ?_
   ·go_simp
   obtain ⟨wys92, hW, hvv⟩ : ∃ W, W = wys91.alloc (.cells #[.int .i64 0, .int .i64 0] 33) ∧ Bt w0 W J t s f .nilFunc R (cb (wys91.heap.size) 33 #[.int .i64 0, .int .i64 0] :: cb (w.heap.size + 1) 33 #[.int .i64 0, .int .i64 0] :: cb (w.heap.size) 33 #[.int .i64 0, .int .i64 0] :: L) := ⟨_, rfl, HYs91.out.alloc _⟩
   rw [← hW]
   have HYs92 := As hvv
   clear hW hvv
   refine hK.out _ _ (S9.out _ _ _ _ _ _ _ HYs92.out (by simp)) (fun hHeld => ?_)
   clear hK K_
   refine nm_ ?_
   refine on_ 7 (some 42) fun K_ hK => ?_
   refine gs_ Try.func131 #[.pointer (some ⟨J.g, 0, none⟩), .agg #[.string key, .int .i64 2, .string ⟨#[]⟩]] ?_
   refine (rtake.calls HYs92.out (key, 2, ⟨#[]⟩) HT.out.1 HT.out.2).mono ?_
   rintro e9 wys93 ⟨rfl, hh⟩
   refine ⟨_, rfl, ?_⟩
   have HYs93 := As (show Bt w0 wys93 J t s1 f .nilFunc R (cb (wys91.heap.size) 33 #[.int .i64 0, .int .i64 0] :: cb (w.heap.size + 1) 33 #[.int .i64 0, .int .i64 0] :: cb (w.heap.size) 33 #[.int .i64 0, .int .i64 0] :: L) from hh)
   clear hh
   refine hK.out _ _ (S9.out _ _ _ _ _ _ _ HYs93.out (by simp)) (fun hHeld => ?_)
   clear hK K_
   refine nm_ ?_
   refine pu_ 8 (some 34) ?_
   refine pu_ 9 (some 43) ?_
   refine pu_ 10 (some 44) ?_
   refine la_ 12 none fun K_ hK => ?_
   obtain ⟨b0, b1, d0, d1⟩ := HYs93.out.other.c2 (wys91.heap.size) 33 (.int .i64 0) (.int .i64 0) List.mem_cons_self
   refine sk_ (hK.out _ _ ?_)
   clear hK K_ b0 b1 d0 d1
   obtain ⟨wys94, hW, hvv⟩ : ∃ W, W = _ ∧ Bt w0 W J t s1 f .nilFunc R (cb (wys91.heap.size) 33 #[.int .i64 r.1, .int .i64 r.2] :: cb (w.heap.size + 1) 33 #[.int .i64 0, .int .i64 0] :: cb (w.heap.size) 33 #[.int .i64 0, .int .i64 0] :: L) := ⟨_, rfl, (Bt.putB0 (Bt.putB0 HYs93.out 0 (.int .i64 r.1) rfl) 1 (.int .i64 r.2) rfl)⟩
   rw [← hW]
   have HYs94 := As hvv
   clear hW hvv
   refine pu_ 13 (some 12) ?_
   refine done_ (by kernel_rfl) ?_
   clear S9
   have HB := As (show Bt w0 wys94 J t s1 f .nilFunc R (cb (wys91.heap.size) 33 #[.int .i64 r.1, .int .i64 r.2] :: cb (w.heap.size + 1) 33 #[.int .i64 0, .int .i64 0] :: cb (w.heap.size) 33 #[.int .i64 0, .int .i64 0] :: L) from HYs94.out)
   clear HYs94
   generalize wys91.heap.size = gx at HB ⊢
   go_upto_region 10 with (fail)
   have SA := As (show ∀ (w' : World) (t' : Tm) (s' : Ar) (f' : Int) (on' : Value) (R' L' : List Ob), Bt w0 w' J t' s' f' on' R' L' → cb (w.heap.size + 1) 33 #[.int .i64 0, .int .i64 0] ∈ L' → cb (gx) 33 #[.int .i64 r.1, .int .i64 r.2] ∈ L' → (w'.cell? ⟨J.b, 0, none⟩ = some (.pointer (some ⟨J.K.1, 0, none⟩)) ∧ w'.cell? ⟨J.b, 1, none⟩ = some (.pointer (some ⟨J.g, 0, none⟩)) ∧ w'.cell? ⟨w.heap.size + 1, 0, none⟩ = some (.int .i64 0) ∧ w'.cell? ⟨w.heap.size + 1, 1, none⟩ = some (.int .i64 0) ∧ w'.cell? ⟨gx, 0, none⟩ = some (.int .i64 r.1) ∧ w'.cell? ⟨gx, 1, none⟩ = some (.int .i64 r.2)) from fun w' t' s' f' on' R' L' h m0 m1 => by
    obtain ⟨c0, c1, -, -⟩ := h.cells
    obtain ⟨t7_0, t7_1, -, -⟩ := h.other.c2 _ _ _ _ m0
    obtain ⟨t11_0, t11_1, -, -⟩ := h.other.c2 _ _ _ _ m1
    exact ⟨c0, c1, t7_0, t7_1, t11_0, t11_1⟩)
   have HDSA := As HB.out.drew
   refine start_ (n := 13) (S := fun w' => w'.cell? ⟨J.b, 0, none⟩ = some (.pointer (some ⟨J.K.1, 0, none⟩)) ∧ w'.cell? ⟨J.b, 1, none⟩ = some (.pointer (some ⟨J.g, 0, none⟩)) ∧ w'.cell? ⟨w.heap.size + 1, 0, none⟩ = some (.int .i64 0) ∧ w'.cell? ⟨w.heap.size + 1, 1, none⟩ = some (.int .i64 0) ∧ w'.cell? ⟨gx, 0, none⟩ = some (.int .i64 r.1) ∧ w'.cell? ⟨gx, 1, none⟩ = some (.int .i64 r.2)) (ds := []) #[false, false, false, false, false, false, false, false, false, false, false, false, false] (by kernel_rfl) rfl rfl (SA.out _ _ _ _ _ _ _ HDSA.out (by simp) (by simp)) (fun hHeld => ?_)
   generalize wys94.drew = wxsa at HDSA hHeld ⊢
   refine pu_ 0 (some 46) ?_
   refine pu_ 1 (some 47) ?_
   refine pu_ 2 (some 48) ?_
   refine pu_ 3 (some 49) ?_
   refine pu_ 5 (some 51) ?_
   refine ta_ 4 (some 50) hHeld ?_ (hy := Or.inl ⟨by rfl, by rintro w' ⟨s0, s1, s2, s3, s4, s5⟩; go_simp; with_reducible rfl⟩)
   refine ta_ 6 (some 52) hHeld ?_ (hy := Or.inl ⟨by rfl, by rintro w' ⟨s0, s1, s2, s3, s4, s5⟩; go_simp; with_reducible rfl⟩)
   refine on_ 7 (some 53) fun K_ hK => ?_
   refine gs_ Try.func66 #[.pointer (some ⟨J.K.1, 0, none⟩), .string key, .agg #[.int .i64 r.1, .int .i64 r.2]] ?_
   obtain ⟨Lx, hL, hLx, back⟩ := HDSA.out.tree
   refine (HP.out _ _ _ _ hL).mono ?_
   rintro e9 wysa1 ⟨ad1, cp1, A1, R1, rfl, hh⟩
   refine ⟨_, rfl, ?_⟩
   have HYsa1 := As (show Bt w0 wysa1 J t' s1 f .nilFunc R1 (A1 ++ (cb (gx) 33 #[.int .i64 r.1, .int .i64 r.2] :: cb (w.heap.size + 1) 33 #[.int .i64 0, .int .i64 0] :: cb (w.heap.size) 33 #[.int .i64 0, .int .i64 0] :: L)) from back _ _ _ _ _ hh)
   clear hh back hLx hL
   refine hK.out _ _ (SA.out _ _ _ _ _ _ _ HYsa1.out (by simp) (by simp)) (fun hHeld => ?_)
   clear hK K_
   refine nm_ ?_
   refine pu_ 8 (some 45) ?_
   refine pu_ 9 (some 54) ?_
   refine pu_ 10 (some 55) ?_
   refine pu_ 11 (some 13) ?_
   refine pu_ 12 (some 14) ?_
   refine done_ (by kernel_rfl) ?_
   clear SA
   have HC := As (show Bt w0 wysa1 J t' s1 f .nilFunc R1 (cb (gx) 33 #[.int .i64 r.1, .int .i64 r.2] :: cb (w.heap.size + 1) 33 #[.int .i64 0, .int .i64 0] :: cb (w.heap.size) 33 #[.int .i64 0, .int .i64 0] :: L) from HYsa1.out.drop (List.sublist_append_right A1 _))
   clear HYsa1
   have her := HE.out.1
   have her0 : (er == 0) = false := by rw [beq_eq_false_iff_ne]; exact her
   go_upto_region 12 with (fail)
   clear her her0
   have SC := As (show ∀ (w' : World) (t' : Tm) (s' : Ar) (f' : Int) (on' : Value) (R' L' : List Ob), Bt w0 w' J t' s' f' on' R' L' → cb (w.heap.size + 1) 33 #[.int .i64 0, .int .i64 0] ∈ L' → cb (gx) 33 #[.int .i64 r.1, .int .i64 r.2] ∈ L' → (w'.cell? ⟨J.b, 0, none⟩ = some (.pointer (some ⟨J.K.1, 0, none⟩)) ∧ w'.cell? ⟨J.b, 1, none⟩ = some (.pointer (some ⟨J.g, 0, none⟩)) ∧ w'.cell? ⟨w.heap.size + 1, 0, none⟩ = some (.int .i64 0) ∧ w'.cell? ⟨w.heap.size + 1, 1, none⟩ = some (.int .i64 0) ∧ w'.cell? ⟨gx, 0, none⟩ = some (.int .i64 r.1) ∧ w'.cell? ⟨gx, 1, none⟩ = some (.int .i64 r.2)) from fun w' t' s' f' on' R' L' h m0 m1 => by
    obtain ⟨c0, c1, -, -⟩ := h.cells
    obtain ⟨t7_0, t7_1, -, -⟩ := h.other.c2 _ _ _ _ m0
    obtain ⟨t11_0, t11_1, -, -⟩ := h.other.c2 _ _ _ _ m1
    exact ⟨c0, c1, t7_0, t7_1, t11_0, t11_1⟩)
   have HDSC := As HC.out.drew
   refine start_ (n := 6) (S := fun w' => w'.cell? ⟨J.b, 0, none⟩ = some (.pointer (some ⟨J.K.1, 0, none⟩)) ∧ w'.cell? ⟨J.b, 1, none⟩ = some (.pointer (some ⟨J.g, 0, none⟩)) ∧ w'.cell? ⟨w.heap.size + 1, 0, none⟩ = some (.int .i64 0) ∧ w'.cell? ⟨w.heap.size + 1, 1, none⟩ = some (.int .i64 0) ∧ w'.cell? ⟨gx, 0, none⟩ = some (.int .i64 r.1) ∧ w'.cell? ⟨gx, 1, none⟩ = some (.int .i64 r.2)) (ds := []) #[false, false, false, false, false, false] (by kernel_rfl) rfl rfl (SC.out _ _ _ _ _ _ _ HDSC.out (by simp) (by simp)) (fun hHeld => ?_)
   generalize wysa1.drew = wxsc at HDSC hHeld ⊢
   refine pu_ 0 (some 58) ?_
   refine pu_ 1 (some 59) ?_
   refine pu_ 2 (some 60) ?_
   refine ta_ 3 (some 61) hHeld ?_ (hy := Or.inl ⟨by rfl, by rintro w' ⟨s0, s1, s2, s3, s4, s5⟩; go_simp; with_reducible rfl⟩)
   refine ta_ 4 (some 62) hHeld ?_ (hy := Or.inl ⟨by rfl, by rintro w' ⟨s0, s1, s2, s3, s4, s5⟩; go_simp; with_reducible rfl⟩)
   refine on_ 5 (some 63) fun K_ hK => ?_
   refine gs_ Try.func133 #[.pointer (some ⟨J.g, 0, none⟩), .agg #[.int .i64 r.1, .int .i64 r.2]] ?_
   refine (rfree.calls HDSC.out r HE.out.2.1 HE.out.2.2).mono ?_
   rintro e9 wysc1 ⟨rfl, hh⟩
   refine ⟨_, rfl, ?_⟩
   have HYsc1 := As (show Bt w0 wysc1 J t' s2 f .nilFunc R1 (cb (gx) 33 #[.int .i64 r.1, .int .i64 r.2] :: cb (w.heap.size + 1) 33 #[.int .i64 0, .int .i64 0] :: cb (w.heap.size) 33 #[.int .i64 0, .int .i64 0] :: L) from hh)
   clear hh
   refine hK.out _ _ (SC.out _ _ _ _ _ _ _ HYsc1.out (by simp) (by simp)) (fun hHeld => ?_)
   clear hK K_
   refine nm_ ?_
   refine done_ (by kernel_rfl) ?_
   clear SC
   obtain ⟨t4_0, t4_1, t4_f0, t4_f1⟩ := HYsc1.out.other.c2 (w.heap.size) 33 (.int .i64 0) (.int .i64 0) (by simp)
   obtain ⟨t7_0, t7_1, t7_f0, t7_f1⟩ := HYsc1.out.other.c2 (w.heap.size + 1) 33 (.int .i64 0) (.int .i64 0) (by simp)
   go_wp2_with fail
   obtain ⟨wg, hw, hg⟩ : ∃ wg, wg = _ ∧ Bt w0 wg J t' s2 f .nilFunc R1 (cb (gx) 33 #[.int .i64 r.1, .int .i64 r.2] :: cb (w.heap.size + 1) 33 #[.int .i64 0, .int .i64 0] :: cb (w.heap.size) 33 #[.int .i64 0, .int .i64 0] :: L) := ⟨_, rfl, (Bt.putB2 (Bt.putB2 HYsc1.out 0 (.int .i64 0) rfl) 1 (.int .i64 0) rfl)⟩
   rw [← hw]
   obtain ⟨e0, e1, -, -⟩ := hg.other.c2 w.heap.size 33 (.int .i64 0) (.int .i64 0) (by simp)
   exact bodyPost_ret (v := .tuple #[.agg #[.int .i64 0, .int .i64 0], .slice none 0 0, .int .i64 er]) (by simp [results, Try.results76, go_sem, e0, e1, hu33]) rfl ⟨R1, rfl, hg.tail.tail.tail⟩
 ·refine value_ (v := .pointer (some ⟨wxs9.heap.size, 0, none⟩)) (w1 := wxs9.alloc (.cells #[.int .i64 0, .int .i64 0] 33)) (by rfl) rfl ?_ ?_
  ·go_simp
  obtain ⟨wys91, hW, hvv⟩ : ∃ W, W = wxs9.alloc (.cells #[.int .i64 0, .int .i64 0] 33) ∧ Bt w0 W J t s f .nilFunc R (cb (wxs9.heap.size) 33 #[.int .i64 0, .int .i64 0] :: cb (w.heap.size + 1) 33 #[.int .i64 0, .int .i64 0] :: cb (w.heap.size) 33 #[.int .i64 0, .int .i64 0] :: L) := ⟨_, rfl, HDS9.out.alloc _⟩
  rw [← hW]
  have HYs91 := As hvv
  clear hW hvv
  refine hK.out _ _ (S9.out _ _ _ _ _ _ _ HYs91.out (by simp)) (fun hHeld => ?_)
  clear hK K_
  refine nm_ ?_
  refine on_ 5 (some 40) fun K_ hK => ?_
  refine gs_ Try.func132 #[.int .i64 0, .bool false, .bool true, .bool false] ?_
  refine (with0ftf _).mono ?_
  rintro e9 wys92 ⟨rfl, hb⟩
  refine ⟨_, rfl, ?_⟩
  have HYs92 := As (show Bt w0 wys92 J t s f .nilFunc R (cb (wxs9.heap.size) 33 #[.int .i64 0, .int .i64 0] :: cb (w.heap.size + 1) 33 #[.int .i64 0, .int .i64 0] :: cb (w.heap.size) 33 #[.int .i64 0, .int .i64 0] :: L) from HYs91.out.call hb)
  clear hb
  refine hK.out _ _ (S9.out _ _ _ _ _ _ _ HYs92.out (by simp)) (fun hHeld => ?_)
  clear hK K_
  refine nm_ ?_
  refine pu_ 6 (some 41) ?_
  refine on_ 7 (some 42) fun K_ hK => ?_
  refine gs_ Try.func131 #[.pointer (some ⟨J.g, 0, none⟩), .agg #[.string key, .int .i64 2, .string ⟨#[]⟩]] ?_
  refine (rtake.calls HYs92.out (key, 2, ⟨#[]⟩) HT.out.1 HT.out.2).mono ?_
  rintro e9 wys93 ⟨rfl, hh⟩
  refine ⟨_, rfl, ?_⟩
  have HYs93 := As (show Bt w0 wys93 J t s1 f .nilFunc R (cb (wxs9.heap.size) 33 #[.int .i64 0, .int .i64 0] :: cb (w.heap.size + 1) 33 #[.int .i64 0, .int .i64 0] :: cb (w.heap.size) 33 #[.int .i64 0, .int .i64 0] :: L) from hh)
  clear hh
  refine hK.out _ _ (S9.out _ _ _ _ _ _ _ HYs93.out (by simp)) (fun hHeld => ?_)
  clear hK K_
  refine nm_ ?_
  refine pu_ 8 (some 34) ?_
  refine pu_ 9 (some 43) ?_
  refine pu_ 10 (some 44) ?_
  refine la_ 12 none fun K_ hK => ?_
  obtain ⟨b0, b1, d0, d1⟩ := HYs93.out.other.c2 (wxs9.heap.size) 33 (.int .i64 0) (.int .i64 0) List.mem_cons_self
  refine sk_ (hK.out _ _ ?_)
  clear hK K_ b0 b1 d0 d1
  obtain ⟨wys94, hW, hvv⟩ : ∃ W, W = _ ∧ Bt w0 W J t s1 f .nilFunc R (cb (wxs9.heap.size) 33 #[.int .i64 r.1, .int .i64 r.2] :: cb (w.heap.size + 1) 33 #[.int .i64 0, .int .i64 0] :: cb (w.heap.size) 33 #[.int .i64 0, .int .i64 0] :: L) := ⟨_, rfl, (Bt.putB0 (Bt.putB0 HYs93.out 0 (.int .i64 r.1) rfl) 1 (.int .i64 r.2) rfl)⟩
  rw [← hW]
  have HYs94 := As hvv
  clear hW hvv
  refine pu_ 13 (some 12) ?_
  refine done_ (by kernel_rfl) ?_
  clear S9
  have HB := As (show Bt w0 wys94 J t s1 f .nilFunc R (cb (wxs9.heap.size) 33 #[.int .i64 r.1, .int .i64 r.2] :: cb (w.heap.size + 1) 33 #[.int .i64 0, .int .i64 0] :: cb (w.heap.size) 33 #[.int .i64 0, .int .i64 0] :: L) from HYs94.out)
  clear HYs94
  generalize wxs9.heap.size = gx at HB ⊢
  go_upto_region 10 with (fail)
  have SA := As (show ∀ (w' : World) (t' : Tm) (s' : Ar) (f' : Int) (on' : Value) (R' L' : List Ob), Bt w0 w' J t' s' f' on' R' L' → cb (w.heap.size + 1) 33 #[.int .i64 0, .int .i64 0] ∈ L' → cb (gx) 33 #[.int .i64 r.1, .int .i64 r.2] ∈ L' → (w'.cell? ⟨J.b, 0, none⟩ = some (.pointer (some ⟨J.K.1, 0, none⟩)) ∧ w'.cell? ⟨J.b, 1, none⟩ = some (.pointer (some ⟨J.g, 0, none⟩)) ∧ w'.cell? ⟨w.heap.size + 1, 0, none⟩ = some (.int .i64 0) ∧ w'.cell? ⟨w.heap.size + 1, 1, none⟩ = some (.int .i64 0) ∧ w'.cell? ⟨gx, 0, none⟩ = some (.int .i64 r.1) ∧ w'.cell? ⟨gx, 1, none⟩ = some (.int .i64 r.2)) from fun w' t' s' f' on' R' L' h m0 m1 => by
   obtain ⟨c0, c1, -, -⟩ := h.cells
   obtain ⟨t7_0, t7_1, -, -⟩ := h.other.c2 _ _ _ _ m0
   obtain ⟨t11_0, t11_1, -, -⟩ := h.other.c2 _ _ _ _ m1
   exact ⟨c0, c1, t7_0, t7_1, t11_0, t11_1⟩)
  have HDSA := As HB.out.drew
  refine start_ (n := 13) (S := fun w' => w'.cell? ⟨J.b, 0, none⟩ = some (.pointer (some ⟨J.K.1, 0, none⟩)) ∧ w'.cell? ⟨J.b, 1, none⟩ = some (.pointer (some ⟨J.g, 0, none⟩)) ∧ w'.cell? ⟨w.heap.size + 1, 0, none⟩ = some (.int .i64 0) ∧ w'.cell? ⟨w.heap.size + 1, 1, none⟩ = some (.int .i64 0) ∧ w'.cell? ⟨gx, 0, none⟩ = some (.int .i64 r.1) ∧ w'.cell? ⟨gx, 1, none⟩ = some (.int .i64 r.2)) (ds := []) #[false, false, false, false, false, false, false, false, false, false, false, false, false] (by kernel_rfl) rfl rfl (SA.out _ _ _ _ _ _ _ HDSA.out (by simp) (by simp)) (fun hHeld => ?_)
  generalize wys94.drew = wxsa at HDSA hHeld ⊢
  refine pu_ 0 (some 46) ?_
  refine pu_ 1 (some 47) ?_
  refine pu_ 2 (some 48) ?_
  refine pu_ 3 (some 49) ?_
  refine pu_ 5 (some 51) ?_
  refine ta_ 4 (some 50) hHeld ?_ (hy := Or.inl ⟨by rfl, by rintro w' ⟨s0, s1, s2, s3, s4, s5⟩; go_simp; with_reducible rfl⟩)
  refine ta_ 6 (some 52) hHeld ?_ (hy := Or.inl ⟨by rfl, by rintro w' ⟨s0, s1, s2, s3, s4, s5⟩; go_simp; with_reducible rfl⟩)
  refine on_ 7 (some 53) fun K_ hK => ?_
  refine gs_ Try.func66 #[.pointer (some ⟨J.K.1, 0, none⟩), .string key, .agg #[.int .i64 r.1, .int .i64 r.2]] ?_
  obtain ⟨Lx, hL, hLx, back⟩ := HDSA.out.tree
  refine (HP.out _ _ _ _ hL).mono ?_
  rintro e9 wysa1 ⟨ad1, cp1, A1, R1, rfl, hh⟩
  refine ⟨_, rfl, ?_⟩
  have HYsa1 := As (show Bt w0 wysa1 J t' s1 f .nilFunc R1 (A1 ++ (cb (gx) 33 #[.int .i64 r.1, .int .i64 r.2] :: cb (w.heap.size + 1) 33 #[.int .i64 0, .int .i64 0] :: cb (w.heap.size) 33 #[.int .i64 0, .int .i64 0] :: L)) from back _ _ _ _ _ hh)
  clear hh back hLx hL
  refine hK.out _ _ (SA.out _ _ _ _ _ _ _ HYsa1.out (by simp) (by simp)) (fun hHeld => ?_)
  clear hK K_
  refine nm_ ?_
  refine pu_ 8 (some 45) ?_
  refine pu_ 9 (some 54) ?_
  refine pu_ 10 (some 55) ?_
  refine pu_ 11 (some 13) ?_
  refine pu_ 12 (some 14) ?_
  refine done_ (by kernel_rfl) ?_
  clear SA
  have HC := As (show Bt w0 wysa1 J t' s1 f .nilFunc R1 (cb (gx) 33 #[.int .i64 r.1, .int .i64 r.2] :: cb (w.heap.size + 1) 33 #[.int .i64 0, .int .i64 0] :: cb (w.heap.size) 33 #[.int .i64 0, .int .i64 0] :: L) from HYsa1.out.drop (List.sublist_append_right A1 _))
  clear HYsa1
  have her := HE.out.1
  have her0 : (er == 0) = false := by rw [beq_eq_false_iff_ne]; exact her
  go_upto_region 12 with (fail)
  clear her her0
  have SC := As (show ∀ (w' : World) (t' : Tm) (s' : Ar) (f' : Int) (on' : Value) (R' L' : List Ob), Bt w0 w' J t' s' f' on' R' L' → cb (w.heap.size + 1) 33 #[.int .i64 0, .int .i64 0] ∈ L' → cb (gx) 33 #[.int .i64 r.1, .int .i64 r.2] ∈ L' → (w'.cell? ⟨J.b, 0, none⟩ = some (.pointer (some ⟨J.K.1, 0, none⟩)) ∧ w'.cell? ⟨J.b, 1, none⟩ = some (.pointer (some ⟨J.g, 0, none⟩)) ∧ w'.cell? ⟨w.heap.size + 1, 0, none⟩ = some (.int .i64 0) ∧ w'.cell? ⟨w.heap.size + 1, 1, none⟩ = some (.int .i64 0) ∧ w'.cell? ⟨gx, 0, none⟩ = some (.int .i64 r.1) ∧ w'.cell? ⟨gx, 1, none⟩ = some (.int .i64 r.2)) from fun w' t' s' f' on' R' L' h m0 m1 => by
   obtain ⟨c0, c1, -, -⟩ := h.cells
   obtain ⟨t7_0, t7_1, -, -⟩ := h.other.c2 _ _ _ _ m0
   obtain ⟨t11_0, t11_1, -, -⟩ := h.other.c2 _ _ _ _ m1
   exact ⟨c0, c1, t7_0, t7_1, t11_0, t11_1⟩)
  have HDSC := As HC.out.drew
  refine start_ (n := 6) (S := fun w' => w'.cell? ⟨J.b, 0, none⟩ = some (.pointer (some ⟨J.K.1, 0, none⟩)) ∧ w'.cell? ⟨J.b, 1, none⟩ = some (.pointer (some ⟨J.g, 0, none⟩)) ∧ w'.cell? ⟨w.heap.size + 1, 0, none⟩ = some (.int .i64 0) ∧ w'.cell? ⟨w.heap.size + 1, 1, none⟩ = some (.int .i64 0) ∧ w'.cell? ⟨gx, 0, none⟩ = some (.int .i64 r.1) ∧ w'.cell? ⟨gx, 1, none⟩ = some (.int .i64 r.2)) (ds := []) #[false, false, false, false, false, false] (by kernel_rfl) rfl rfl (SC.out _ _ _ _ _ _ _ HDSC.out (by simp) (by simp)) (fun hHeld => ?_)
  generalize wysa1.drew = wxsc at HDSC hHeld ⊢
  refine pu_ 0 (some 58) ?_
  refine pu_ 1 (some 59) ?_
  refine pu_ 2 (some 60) ?_
  refine ta_ 3 (some 61) hHeld ?_ (hy := Or.inl ⟨by rfl, by rintro w' ⟨s0, s1, s2, s3, s4, s5⟩; go_simp; with_reducible rfl⟩)
  refine ta_ 4 (some 62) hHeld ?_ (hy := Or.inl ⟨by rfl, by rintro w' ⟨s0, s1, s2, s3, s4, s5⟩; go_simp; with_reducible rfl⟩)
  refine on_ 5 (some 63) fun K_ hK => ?_
  refine gs_ Try.func133 #[.pointer (some ⟨J.g, 0, none⟩), .agg #[.int .i64 r.1, .int .i64 r.2]] ?_
  refine (rfree.calls HDSC.out r HE.out.2.1 HE.out.2.2).mono ?_
  rintro e9 wysc1 ⟨rfl, hh⟩
  refine ⟨_, rfl, ?_⟩
  have HYsc1 := As (show Bt w0 wysc1 J t' s2 f .nilFunc R1 (cb (gx) 33 #[.int .i64 r.1, .int .i64 r.2] :: cb (w.heap.size + 1) 33 #[.int .i64 0, .int .i64 0] :: cb (w.heap.size) 33 #[.int .i64 0, .int .i64 0] :: L) from hh)
  clear hh
  refine hK.out _ _ (SC.out _ _ _ _ _ _ _ HYsc1.out (by simp) (by simp)) (fun hHeld => ?_)
  clear hK K_
  refine nm_ ?_
  refine done_ (by kernel_rfl) ?_
  clear SC
  obtain ⟨t4_0, t4_1, t4_f0, t4_f1⟩ := HYsc1.out.other.c2 (w.heap.size) 33 (.int .i64 0) (.int .i64 0) (by simp)
  obtain ⟨t7_0, t7_1, t7_f0, t7_f1⟩ := HYsc1.out.other.c2 (w.heap.size + 1) 33 (.int .i64 0) (.int .i64 0) (by simp)
  go_wp2_with fail
  obtain ⟨wg, hw, hg⟩ : ∃ wg, wg = _ ∧ Bt w0 wg J t' s2 f .nilFunc R1 (cb (gx) 33 #[.int .i64 r.1, .int .i64 r.2] :: cb (w.heap.size + 1) 33 #[.int .i64 0, .int .i64 0] :: cb (w.heap.size) 33 #[.int .i64 0, .int .i64 0] :: L) := ⟨_, rfl, (Bt.putB2 (Bt.putB2 HYsc1.out 0 (.int .i64 0) rfl) 1 (.int .i64 0) rfl)⟩
  rw [← hw]
  obtain ⟨e0, e1, -, -⟩ := hg.other.c2 w.heap.size 33 (.int .i64 0) (.int .i64 0) (by simp)
  exact bodyPost_ret (v := .tuple #[.agg #[.int .i64 0, .int .i64 0], .slice none 0 0, .int .i64 er]) (by simp [results, Try.results76, go_sem, e0, e1, hu33]) rfl ⟨R1, rfl, hg.tail.tail.tail⟩
end Go.Proofs.Ytglbcfkmaamhaaa.Bs
