/- A text of this claim: parts BsH BsI BsJ. No condition. -/
import Derived.Test.YtglbcfkmaamhaaaEG20
import Derived.Test.YtglbcfkmaamhaaaEG2
import Derived.Test.YtglbcfkmaamhaaaEG0
import Derived.Test.YtglbcfkmaamhaaaEG17
import Derived.Test.YtglbcfkmaamhaaaEG16
set_option linter.unusedVariables false
set_option linter.unusedSimpArgs false
set_option maxHeartbeats 16000000
set_option maxRecDepth 100000
namespace Go.Proofs.Ytglbcfkmaamhaaa.Bs
open Go Go.RowKit Go.Proofs.YtglbcfkmaamhaaaW.PrintWords Go.Proofs.YtglbcfkmaamhaaaW.PrintLast Go.Proofs.YtglbcfkmaamhaaaW.PrintMore Go.Proofs.Ytglbcfkmaamhaaa.Hv Go.Proofs.Ytglbcfkmaamhaaa.Arm Go.Proofs.Ytglbcfkmaamhaaa.Nd Go.Proofs.Ytglbcfkmaamhaaa.Tr
section
variable {w0 w w1 : World} {L L' R : List Ob} {t : Tm} {s : Ar} {f : Int} {on : Value} {J : Jx}
def PutC (w0 : World) (K : Nat × Nat × Nat) (t t' : Tm) (n : Nat) (er : Int) (key : ByteArray) (r : Rf) : Prop := ∀ (w : World) (on : Value) (R Lx : List Ob), Mt w0 w K t on R Lx → Calls Try.prog 66 #[.pointer (some ⟨K.1, 0, none⟩), .string key, .agg #[.int .i64 r.1, .int .i64 r.2]] w fun e w' => ∃ ad cp A R', e = .returned (.tuple #[.slice ad n cp, .int .i64 er]) ∧ Mt w0 w' K t' .nilFunc R' (A ++ Lx)
theorem place.dup (h : Bt w0 w J t s f on R L) (key : ByteArray) {l : List (Rf × Nat)} {q : Rf} (hd : Dn t key t.root l q) (ho : Nd.Ok (t.at q)) (hfi : (t.find key q).2 = true) : Calls Try.prog 76 #[.pointer (some ⟨J.b, 0, none⟩), .string key] w fun e w' => e = .returned (.tuple #[.agg #[.int .i64 0, .int .i64 0], .slice none 0 0, .int .i64 13]) ∧ Bt w0 w' J t s f .nilFunc R L := by
 have hu33 := Try.underlying33
 have hu85 := Try.underlying85
 have hu116 := Try.underlying116
 have hu126 := Try.underlying126
 have hu185 := Try.underlying185
 have hu189 := Try.underlying189
 have HM := As (show Bt w0 _ J t s f on R (cb (w.heap.size + 1) 33 #[.int .i64 0, .int .i64 0] :: cb (w.heap.size) 33 #[.int .i64 0, .int .i64 0] :: L) by
  have := (h.alloc (.cells #[.int .i64 0, .int .i64 0] 33)).alloc (.cells #[.int .i64 0, .int .i64 0] 33)
  simpa [cb] using this)
 have HY := As (And.intro hd ho)
 have HFI := As hfi
 clear h hd ho hfi
 obtain ⟨t4_0, t4_1, t4_f0, t4_f1⟩ := HM.out.other.c2 (w.heap.size) 33 (.int .i64 0) (.int .i64 0) (by simp)
 obtain ⟨t7_0, t7_1, t7_f0, t7_f1⟩ := HM.out.other.c2 (w.heap.size + 1) 33 (.int .i64 0) (.int .i64 0) (by simp)
 go_enter Try.func76, Try.ntmps76
 go_upto_region 5 with (go_at_call 78; go_loud (refine (find.calls HM.out key HY.out.1 HY.out.2).mono ?_; rintro e2 w2 ⟨rfl, hh⟩; have H2 := As hh; clear hh))
 clear t4_0 t4_f0 t4_1 t4_f1 t7_0 t7_f0 t7_1 t7_f1
 obtain ⟨W3, hW, hM⟩ : ∃ W, W = (w2.alloc (.cells #[.int .i64 (t.find key q).1.1, .int .i64 (t.find key q).1.2] 33)).alloc (.cells #[.int .i64 q.1, .int .i64 q.2, .int .i64 (t.at q).ver] 85) ∧ Bt w0 W J t s f .nilFunc R (cb (w.heap.size + 1) 33 #[.int .i64 0, .int .i64 0] :: cb (w.heap.size) 33 #[.int .i64 0, .int .i64 0] :: L) := ⟨_, rfl, (((H2.out.alloc _).alloc _).tail).tail⟩
 rw [← hW]
 have H3 := As hM
 clear hW hM
 generalize w2.heap.size = g8
 rw [HFI.out]
 obtain ⟨t4_0, t4_1, t4_f0, t4_f1⟩ := H3.out.other.c2 (w.heap.size) 33 (.int .i64 0) (.int .i64 0) (by simp)
 obtain ⟨t7_0, t7_1, t7_f0, t7_f1⟩ := H3.out.other.c2 (w.heap.size + 1) 33 (.int .i64 0) (.int .i64 0) (by simp)
 obtain ⟨c0, c1, c2, c3⟩ := H3.out.cells
 go_wp2_with fail
 obtain ⟨wg, hw, hg⟩ : ∃ wg, wg = _ ∧ Bt w0 wg J t s f .nilFunc R (cb (w.heap.size + 1) 33 #[.int .i64 0, .int .i64 0] :: cb (w.heap.size) 33 #[.int .i64 0, .int .i64 0] :: L) := ⟨_, rfl, (Bt.putB1 (Bt.putB1 H3.out 0 (.int .i64 0) rfl) 1 (.int .i64 0) rfl)⟩
 rw [← hw]
 clear t4_0 t4_f0 t4_1 t4_f1 t7_0 t7_f0 t7_1 t7_f1
 obtain ⟨t4_0, t4_1, t4_f0, t4_f1⟩ := hg.other.c2 (w.heap.size) 33 (.int .i64 0) (.int .i64 0) (by simp)
 exact bodyPost_ret (v := .tuple #[.agg #[.int .i64 0, .int .i64 0], .slice none 0 0, .int .i64 13]) (by simp [results, Try.results76, go_sem, t4_0, t4_1, hu33]) rfl ⟨rfl, hg.tail.tail⟩
theorem place.ok (h : Bt w0 w J t s f on R L) (key : ByteArray) {l : List (Rf × Nat)} {q : Rf} (hd : Dn t key t.root l q) (ho : Nd.Ok (t.at q)) (hfi : (t.find key q).2 = false) (hr : ¬ s.room = 0) {r : Rf} (htk : tk s = (r.1, r.2, 0)) {s1 : Ar} (hs1 : s.took (rcell (key, 2, ⟨#[]⟩)) = s1) {t' : Tm} {n : Nat} (hput : PutC w0 J.K t t' n 0 key r) : Calls Try.prog 76 #[.pointer (some ⟨J.b, 0, none⟩), .string key] w fun e w' => ∃ ad cp R', e = .returned (.tuple #[.agg #[.int .i64 r.1, .int .i64 r.2], .slice ad n cp, .int .i64 0]) ∧ Bt w0 w' J t' s1 f .nilFunc R' L := by
 have hu33 := Try.underlying33
 have hu85 := Try.underlying85
 have hu116 := Try.underlying116
 have hu126 := Try.underlying126
 have hu185 := Try.underlying185
 have hu189 := Try.underlying189
 have HM := As (show Bt w0 _ J t s f on R (cb (w.heap.size + 1) 33 #[.int .i64 0, .int .i64 0] :: cb (w.heap.size) 33 #[.int .i64 0, .int .i64 0] :: L) by
  have := (h.alloc (.cells #[.int .i64 0, .int .i64 0] 33)).alloc (.cells #[.int .i64 0, .int .i64 0] 33)
  simpa [cb] using this)
 have HY := As (And.intro hd ho)
 have HFI := As hfi
 have HR := As hr
 have HT := As (And.intro htk hs1)
 have HP := As hput
 clear h hd ho hfi hr htk hs1 hput
 obtain ⟨t4_0, t4_1, t4_f0, t4_f1⟩ := HM.out.other.c2 (w.heap.size) 33 (.int .i64 0) (.int .i64 0) (by simp)
 obtain ⟨t7_0, t7_1, t7_f0, t7_f1⟩ := HM.out.other.c2 (w.heap.size + 1) 33 (.int .i64 0) (.int .i64 0) (by simp)
 go_enter Try.func76, Try.ntmps76
 go_upto_region 5 with (go_at_call 78; go_loud (refine (find.calls HM.out key HY.out.1 HY.out.2).mono ?_; rintro e2 w2 ⟨rfl, hh⟩; have H2 := As hh; clear hh))
 clear t4_0 t4_f0 t4_1 t4_f1 t7_0 t7_f0 t7_1 t7_f1
 obtain ⟨W3, hW, hM⟩ : ∃ W, W = (w2.alloc (.cells #[.int .i64 (t.find key q).1.1, .int .i64 (t.find key q).1.2] 33)).alloc (.cells #[.int .i64 q.1, .int .i64 q.2, .int .i64 (t.at q).ver] 85) ∧ Bt w0 W J t s f .nilFunc R (cb (w.heap.size + 1) 33 #[.int .i64 0, .int .i64 0] :: cb (w.heap.size) 33 #[.int .i64 0, .int .i64 0] :: L) := ⟨_, rfl, (((H2.out.alloc _).alloc _).tail).tail⟩
 rw [← hW]
 have H3 := As hM
 clear hW hM
 generalize w2.heap.size = g8
 rw [HFI.out]
 obtain ⟨t4_0, t4_1, t4_f0, t4_f1⟩ := H3.out.other.c2 (w.heap.size) 33 (.int .i64 0) (.int .i64 0) (by simp)
 obtain ⟨t7_0, t7_1, t7_f0, t7_f1⟩ := H3.out.other.c2 (w.heap.size + 1) 33 (.int .i64 0) (.int .i64 0) (by simp)
 obtain ⟨c0, c1, c2, c3⟩ := H3.out.cells
 have hr0 : (s.room == 0) = false := by rw [beq_eq_false_iff_ne]; exact HR.out
 have hr1 := HR.out
 go_upto_region 9 with (go_at_call 130; go_loud (refine (rroom.calls H3.out).mono ?_; rintro e4 w4 ⟨rfl, hh⟩; have H4 := As hh; clear hh))
 clear t4_0 t4_f0 t4_1 t4_f1 t7_0 t7_f0 t7_1 t7_f1; clear c0 c1 c2 c3; clear hr0 hr1
 have S9 := As (show ∀ (w' : World) (t' : Tm) (s' : Ar) (f' : Int) (on' : Value) (R' L' : List Ob), Bt w0 w' J t' s' f' on' R' L' → cb (w.heap.size + 1) 33 #[.int .i64 0, .int .i64 0] ∈ L' → (w'.cell? ⟨J.b, 0, none⟩ = some (.pointer (some ⟨J.K.1, 0, none⟩)) ∧ w'.cell? ⟨J.b, 1, none⟩ = some (.pointer (some ⟨J.g, 0, none⟩)) ∧ w'.cell? ⟨w.heap.size + 1, 0, none⟩ = some (.int .i64 0) ∧ w'.cell? ⟨w.heap.size + 1, 1, none⟩ = some (.int .i64 0)) from fun w' t' s' f' on' R' L' h m0 => by
  obtain ⟨c0, c1, -, -⟩ := h.cells
  obtain ⟨t7_0, t7_1, -, -⟩ := h.other.c2 _ _ _ _ m0
  exact ⟨c0, c1, t7_0, t7_1⟩)
 have HDS9 := As H4.out.drew
 refine start_ (n := 14) (S := fun w' => w'.cell? ⟨J.b, 0, none⟩ = some (.pointer (some ⟨J.K.1, 0, none⟩)) ∧ w'.cell? ⟨J.b, 1, none⟩ = some (.pointer (some ⟨J.g, 0, none⟩)) ∧ w'.cell? ⟨w.heap.size + 1, 0, none⟩ = some (.int .i64 0) ∧ w'.cell? ⟨w.heap.size + 1, 1, none⟩ = some (.int .i64 0)) (ds := [12]) #[false, false, false, false, false, false, false, false, false, false, false, false, false, false] (by kernel_rfl) rfl rfl (S9.out _ _ _ _ _ _ _ HDS9.out (by simp)) (fun hHeld => ?_)
 generalize w4.drew = wxs9 at HDS9 hHeld ⊢
 refine pu_ 0 (some 35) ?_
 refine pu_ 1 (some 36) ?_
 refine pu_ 2 (some 37) ?_
 refine pu_ 4 (some 39) ?_
 refine ta_ 3 (some 38) hHeld ?_ (hy := Or.inl ⟨by rfl, by rintro w' ⟨s0, s1, s2, s3⟩; go_simp; with_reducible rfl⟩)
 refine two_ (i := 5) (j := 11) (Ni := some 40) (Nj := some 11) #[true, true, true, true, true, true, false, false, false, false, false, false, false, false] #[true, true, true, true, true, false, false, false, false, false, false, true, false, false] rfl rfl rfl rfl (by kernel_rfl) (by decide) (by decide) (fun K_ hK => ?_) (fun K_ hK => ?_)
 ·refine gs_ Try.func132 #[.int .i64 0, .bool false, .bool true, .bool false] ?_
  refine (with0ftf _).mono ?_
  rintro e9 wys91 ⟨rfl, hb⟩
  refine ⟨_, rfl, ?_⟩
  have HYs91 := As (show Bt w0 wys91 J t s f .nilFunc R (cb (w.heap.size + 1) 33 #[.int .i64 0, .int .i64 0] :: cb (w.heap.size) 33 #[.int .i64 0, .int .i64 0] :: L) from HDS9.out.call hb)
  clear hb
  refine hK.out _ _ (S9.out _ _ _ _ _ _ _ HYs91.out (by simp)) (fun hHeld => ?_)
  clear hK K_
  refine nm_ ?_
  refine pu_ 6 (some 41) ?_
  refine two_ (i := 7) (j := 11) (Ni := some 42) (Nj := some 11) #[true, true, true, true, true, true, true, true, false, false, false, false, false, false] #[true, true, true, true, true, true, true, false, false, false, false, true, false, false] rfl rfl rfl rfl (by kernel_rfl) (by decide) (by decide) (fun K_ hK => ?_) (fun K_ hK => ?_)
  ·refine gs_ Try.func131 #[.pointer (some ⟨J.g, 0, none⟩), .agg #[.string key, .int .i64 2, .string ⟨#[]⟩]] ?_
   refine (rtake.calls HYs91.out (key, 2, ⟨#[]⟩) HT.out.1 HT.out.2).mono ?_
   rintro e9 wys92 ⟨rfl, hh⟩
   refine ⟨_, rfl, ?_⟩
   have HYs92 := As (show Bt w0 wys92 J t s1 f .nilFunc R (cb (w.heap.size + 1) 33 #[.int .i64 0, .int .i64 0] :: cb (w.heap.size) 33 #[.int .i64 0, .int .i64 0] :: L) from hh)
   clear hh
   refine hK.out _ _ (S9.out _ _ _ _ _ _ _ HYs92.out (by simp)) (fun hHeld => ?_)
   clear hK K_
   refine nm_ ?_
   refine pu_ 8 (some 34) ?_
   refine pu_ 9 (some 43) ?_
   refine pu_ 10 (some 44) ?_
   refine on_ 11 (some 11) fun K_ hK => ?_
   refine value_ (v := .pointer (some ⟨wys92.heap.size, 0, none⟩)) (w1 := wys92.alloc (.cells #[.int .i64 0, .int .i64 0] 33)) (by rfl) rfl ?_ ?_
   ·go_simp
   obtain ⟨wys93, hW, hvv⟩ : ∃ W, W = wys92.alloc (.cells #[.int .i64 0, .int .i64 0] 33) ∧ Bt w0 W J t s1 f .nilFunc R (cb (wys92.heap.size) 33 #[.int .i64 0, .int .i64 0] :: cb (w.heap.size + 1) 33 #[.int .i64 0, .int .i64 0] :: cb (w.heap.size) 33 #[.int .i64 0, .int .i64 0] :: L) := ⟨_, rfl, HYs92.out.alloc _⟩
   rw [← hW]
   have HYs93 := As hvv
   clear hW hvv
   refine hK.out _ _ (S9.out _ _ _ _ _ _ _ HYs93.out (by simp)) (fun hHeld => ?_)
   clear hK K_
   refine nm_ ?_
   refine la_ 12 none fun K_ hK => ?_
   obtain ⟨b0, b1, d0, d1⟩ := HYs93.out.other.c2 (wys92.heap.size) 33 (.int .i64 0) (.int .i64 0) List.mem_cons_self
   refine sk_ (hK.out _ _ ?_)
   clear hK K_ b0 b1 d0 d1
   obtain ⟨wys94, hW, hvv⟩ : ∃ W, W = _ ∧ Bt w0 W J t s1 f .nilFunc R (cb (wys92.heap.size) 33 #[.int .i64 r.1, .int .i64 r.2] :: cb (w.heap.size + 1) 33 #[.int .i64 0, .int .i64 0] :: cb (w.heap.size) 33 #[.int .i64 0, .int .i64 0] :: L) := ⟨_, rfl, (Bt.putB0 (Bt.putB0 HYs93.out 0 (.int .i64 r.1) rfl) 1 (.int .i64 r.2) rfl)⟩
   rw [← hW]
   have HYs94 := As hvv
   clear hW hvv
   refine pu_ 13 (some 12) ?_
   refine done_ (by kernel_rfl) ?_
   clear S9
   have HB := As (show Bt w0 wys94 J t s1 f .nilFunc R (cb (wys92.heap.size) 33 #[.int .i64 r.1, .int .i64 r.2] :: cb (w.heap.size + 1) 33 #[.int .i64 0, .int .i64 0] :: cb (w.heap.size) 33 #[.int .i64 0, .int .i64 0] :: L) from HYs94.out)
   clear HYs94
   generalize wys92.heap.size = gx at HB ⊢
   go_upto_region 10 with (fail)
   have SA := As (show ∀ (w' : World) (t' : Tm) (s' : Ar) (f' : Int) (on' : Value) (R' L' : List Ob), Bt w0 w' J t' s' f' on' R' L' → cb (w.heap.size + 1) 33 #[.int .i64 0, .int .i64 0] ∈ L' → cb (gx) 33 #[.int .i64 r.1, .int .i64 r.2] ∈ L' → (w'.cell? ⟨J.b, 0, none⟩ = some (.pointer (some ⟨J.K.1, 0, none⟩)) ∧ w'.cell? ⟨J.b, 1, none⟩ = some (.pointer (some ⟨J.g, 0, none⟩)) ∧ w'.cell? ⟨w.heap.size + 1, 0, none⟩ = some (.int .i64 0) ∧ w'.cell? ⟨w.heap.size + 1, 1, none⟩ = some (.int .i64 0) ∧ w'.cell? ⟨gx, 0, none⟩ = some (.int .i64 r.1) ∧ w'.cell? ⟨gx, 1, none⟩ = some (.int .i64 r.2)) from fun w' t' s' f' on' R' L' h m0 m1 => by
    obtain ⟨c0, c1, -, -⟩ := h.cells
    obtain ⟨t7_0, t7_1, -, -⟩ := h.other.c2 _ _ _ _ m0
    obtain ⟨t11_0, t11_1, -, -⟩ := h.other.c2 _ _ _ _ m1
    exact ⟨c0, c1, t7_0, t7_1, t11_0, t11_1⟩)
   have HDSA := As HB.out.drew
   refine start_ (n := 13) (S := fun w' => w'.cell? ⟨J.b, 0, none⟩ = some (.pointer (some ⟨J.K.1, 0, none⟩)) ∧ w'.cell? ⟨J.b, 1, none⟩ = some (.pointer (some ⟨J.g, 0, none⟩)) ∧ w'.cell? ⟨w.heap.size + 1, 0, none⟩ = some (.int .i64 0) ∧ w'.cell? ⟨w.heap.size + 1, 1, none⟩ = some (.int .i64 0) ∧ w'.cell? ⟨gx, 0, none⟩ = some (.int .i64 r.1) ∧ w'.cell? ⟨gx, 1, none⟩ = some (.int .i64 r.2)) (ds := []) #[false, false, false, false, false, false, false, false, false, false, false, false, false] (by kernel_rfl) rfl rfl (SA.out _ _ _ _ _ _ _ HDSA.out (by simp) (by simp)) (fun hHeld => ?_)
   generalize wys94.drew = wxsa at HDSA hHeld ⊢
   refine pu_ 0 (some 46) ?_
   refine pu_ 1 (some 47) ?_
   refine pu_ 2 (some 48) ?_
   refine pu_ 3 (some 49) ?_
   refine pu_ 5 (some 51) ?_
   refine ta_ 4 (some 50) hHeld ?_ (hy := Or.inl ⟨by rfl, by rintro w' ⟨s0, s1, s2, s3, s4, s5⟩; go_simp; with_reducible rfl⟩)
   refine ta_ 6 (some 52) hHeld ?_ (hy := Or.inl ⟨by rfl, by rintro w' ⟨s0, s1, s2, s3, s4, s5⟩; go_simp; with_reducible rfl⟩)
   refine on_ 7 (some 53) fun K_ hK => ?_
   refine gs_ Try.func66 #[.pointer (some ⟨J.K.1, 0, none⟩), .string key, .agg #[.int .i64 r.1, .int .i64 r.2]] ?_
   obtain ⟨Lx, hL, hLx, back⟩ := HDSA.out.tree
   refine (HP.out _ _ _ _ hL).mono ?_
   rintro e9 wysa1 ⟨ad1, cp1, A1, R1, rfl, hh⟩
   refine ⟨_, rfl, ?_⟩
   have HYsa1 := As (show Bt w0 wysa1 J t' s1 f .nilFunc R1 (A1 ++ (cb (gx) 33 #[.int .i64 r.1, .int .i64 r.2] :: cb (w.heap.size + 1) 33 #[.int .i64 0, .int .i64 0] :: cb (w.heap.size) 33 #[.int .i64 0, .int .i64 0] :: L)) from back _ _ _ _ _ hh)
   clear hh back hLx hL
   refine hK.out _ _ (SA.out _ _ _ _ _ _ _ HYsa1.out (by simp) (by simp)) (fun hHeld => ?_)
   clear hK K_
   refine nm_ ?_
   refine pu_ 8 (some 45) ?_
   refine pu_ 9 (some 54) ?_
   refine pu_ 10 (some 55) ?_
   refine pu_ 11 (some 13) ?_
   refine pu_ 12 (some 14) ?_
   refine done_ (by kernel_rfl) ?_
   clear SA
   have HC := As (show Bt w0 wysa1 J t' s1 f .nilFunc R1 (cb (gx) 33 #[.int .i64 r.1, .int .i64 r.2] :: cb (w.heap.size + 1) 33 #[.int .i64 0, .int .i64 0] :: cb (w.heap.size) 33 #[.int .i64 0, .int .i64 0] :: L) from HYsa1.out.drop (List.sublist_append_right A1 _))
   clear HYsa1
   obtain ⟨t4_0, t4_1, t4_f0, t4_f1⟩ := HC.out.other.c2 (w.heap.size) 33 (.int .i64 0) (.int .i64 0) (by simp)
   obtain ⟨t11_0, t11_1, t11_f0, t11_f1⟩ := HC.out.other.c2 (gx) 33 (.int .i64 r.1) (.int .i64 r.2) (by simp)
   go_wp2_with fail
   obtain ⟨wg, hw, hg⟩ : ∃ wg, wg = _ ∧ Bt w0 wg J t' s1 f .nilFunc R1 (cb (gx) 33 #[.int .i64 r.1, .int .i64 r.2] :: cb (w.heap.size + 1) 33 #[.int .i64 0, .int .i64 0] :: cb (w.heap.size) 33 #[.int .i64 r.1, .int .i64 r.2] :: L) := ⟨_, rfl, (Bt.putB2 (Bt.putB2 HC.out 0 (.int .i64 r.1) rfl) 1 (.int .i64 r.2) rfl)⟩
   rw [← hw]
   obtain ⟨e0, e1, -, -⟩ := hg.other.c2 w.heap.size 33 (.int .i64 r.1) (.int .i64 r.2) (by simp)
   exact bodyPost_ret (v := .tuple #[.agg #[.int .i64 r.1, .int .i64 r.2], .slice ad1 n cp1, .int .i64 0]) (by simp [results, Try.results76, go_sem, e0, e1, hu33]) rfl ⟨ad1, cp1, R1, rfl, hg.tail.tail.tail⟩
  ·refine value_ (v := .pointer (some ⟨wys91.heap.size, 0, none⟩)) (w1 := wys91.alloc (.cells #[.int .i64 0, .int .i64 0] 33)) (by rfl) rfl ?_ ?_
   ·go_simp
   obtain ⟨wys92, hW, hvv⟩ : ∃ W, W = wys91.alloc (.cells #[.int .i64 0, .int .i64 0] 33) ∧ Bt w0 W J t s f .nilFunc R (cb (wys91.heap.size) 33 #[.int .i64 0, .int .i64 0] :: cb (w.heap.size + 1) 33 #[.int .i64 0, .int .i64 0] :: cb (w.heap.size) 33 #[.int .i64 0, .int .i64 0] :: L) := ⟨_, rfl, HYs91.out.alloc _⟩
   rw [← hW]
   have HYs92 := As hvv
   clear hW hvv
   refine hK.out _ _ (S9.out _ _ _ _ _ _ _ HYs92.out (by simp)) (fun hHeld => ?_)
   clear hK K_
   refine nm_ ?_
   refine on_ 7 (some 42) fun K_ hK => ?_
   refine gs_ Try.func131 #[.pointer (some ⟨J.g, 0, none⟩), .agg #[.string key, .int .i64 2, .string ⟨#[]⟩]] ?_
   refine (rtake.calls HYs92.out (key, 2, ⟨#[]⟩) HT.out.1 HT.out.2).mono ?_
   rintro e9 wys93 ⟨rfl, hh⟩
   refine ⟨_, rfl, ?_⟩
   have HYs93 := As (show Bt w0 wys93 J t s1 f .nilFunc R (cb (wys91.heap.size) 33 #[.int .i64 0, .int .i64 0] :: cb (w.heap.size + 1) 33 #[.int .i64 0, .int .i64 0] :: cb (w.heap.size) 33 #[.int .i64 0, .int .i64 0] :: L) from hh)
   clear hh
   refine hK.out _ _ (S9.out _ _ _ _ _ _ _ HYs93.out (by simp)) (fun hHeld => ?_)
   clear hK K_
   refine nm_ ?_
   refine pu_ 8 (some 34) ?_
   refine pu_ 9 (some 43) ?_
   refine pu_ 10 (some 44) ?_
   refine la_ 12 none fun K_ hK => ?_
   obtain ⟨b0, b1, d0, d1⟩ := HYs93.out.other.c2 (wys91.heap.size) 33 (.int .i64 0) (.int .i64 0) List.mem_cons_self
   refine sk_ (hK.out _ _ ?_)
   clear hK K_ b0 b1 d0 d1
   obtain ⟨wys94, hW, hvv⟩ : ∃ W, W = _ ∧ Bt w0 W J t s1 f .nilFunc R (cb (wys91.heap.size) 33 #[.int .i64 r.1, .int .i64 r.2] :: cb (w.heap.size + 1) 33 #[.int .i64 0, .int .i64 0] :: cb (w.heap.size) 33 #[.int .i64 0, .int .i64 0] :: L) := ⟨_, rfl, (Bt.putB0 (Bt.putB0 HYs93.out 0 (.int .i64 r.1) rfl) 1 (.int .i64 r.2) rfl)⟩
   rw [← hW]
   have HYs94 := As hvv
   clear hW hvv
   refine pu_ 13 (some 12) ?_
   refine done_ (by kernel_rfl) ?_
   clear S9
   have HB := As (show Bt w0 wys94 J t s1 f .nilFunc R (cb (wys91.heap.size) 33 #[.int .i64 r.1, .int .i64 r.2] :: cb (w.heap.size + 1) 33 #[.int .i64 0, .int .i64 0] :: cb (w.heap.size) 33 #[.int .i64 0, .int .i64 0] :: L) from HYs94.out)
   clear HYs94
   generalize wys91.heap.size = gx at HB ⊢
   go_upto_region 10 with (fail)
   have SA := As (show ∀ (w' : World) (t' : Tm) (s' : Ar) (f' : Int) (on' : Value) (R' L' : List Ob), Bt w0 w' J t' s' f' on' R' L' → cb (w.heap.size + 1) 33 #[.int .i64 0, .int .i64 0] ∈ L' → cb (gx) 33 #[.int .i64 r.1, .int .i64 r.2] ∈ L' → (w'.cell? ⟨J.b, 0, none⟩ = some (.pointer (some ⟨J.K.1, 0, none⟩)) ∧ w'.cell? ⟨J.b, 1, none⟩ = some (.pointer (some ⟨J.g, 0, none⟩)) ∧ w'.cell? ⟨w.heap.size + 1, 0, none⟩ = some (.int .i64 0) ∧ w'.cell? ⟨w.heap.size + 1, 1, none⟩ = some (.int .i64 0) ∧ w'.cell? ⟨gx, 0, none⟩ = some (.int .i64 r.1) ∧ w'.cell? ⟨gx, 1, none⟩ = some (.int .i64 r.2)) from fun w' t' s' f' on' R' L' h m0 m1 => by
    obtain ⟨c0, c1, -, -⟩ := h.cells
    obtain ⟨t7_0, t7_1, -, -⟩ := h.other.c2 _ _ _ _ m0
    obtain ⟨t11_0, t11_1, -, -⟩ := h.other.c2 _ _ _ _ m1
    exact ⟨c0, c1, t7_0, t7_1, t11_0, t11_1⟩)
   have HDSA := As HB.out.drew
   refine start_ (n := 13) (S := fun w' => w'.cell? ⟨J.b, 0, none⟩ = some (.pointer (some ⟨J.K.1, 0, none⟩)) ∧ w'.cell? ⟨J.b, 1, none⟩ = some (.pointer (some ⟨J.g, 0, none⟩)) ∧ w'.cell? ⟨w.heap.size + 1, 0, none⟩ = some (.int .i64 0) ∧ w'.cell? ⟨w.heap.size + 1, 1, none⟩ = some (.int .i64 0) ∧ w'.cell? ⟨gx, 0, none⟩ = some (.int .i64 r.1) ∧ w'.cell? ⟨gx, 1, none⟩ = some (.int .i64 r.2)) (ds := []) #[false, false, false, false, false, false, false, false, false, false, false, false, false] (by kernel_rfl) rfl rfl (SA.out _ _ _ _ _ _ _ HDSA.out (by simp) (by simp)) (fun hHeld => ?_)
   generalize wys94.drew = wxsa at HDSA hHeld ⊢
   refine pu_ 0 (some 46) ?_
   refine pu_ 1 (some 47) ?_
   refine pu_ 2 (some 48) ?_
   refine pu_ 3 (some 49) ?_
   refine pu_ 5 (some 51) ?_
   refine ta_ 4 (some 50) hHeld ?_ (hy := Or.inl ⟨by rfl, by rintro w' ⟨s0, s1, s2, s3, s4, s5⟩; go_simp; with_reducible rfl⟩)
   refine ta_ 6 (some 52) hHeld ?_ (hy := Or.inl ⟨by rfl, by rintro w' ⟨s0, s1, s2, s3, s4, s5⟩; go_simp; with_reducible rfl⟩)
   refine on_ 7 (some 53) fun K_ hK => ?_
   refine gs_ Try.func66 #[.pointer (some ⟨J.K.1, 0, none⟩), .string key, .agg #[.int .i64 r.1, .int .i64 r.2]] ?_
   obtain ⟨Lx, hL, hLx, back⟩ := HDSA.out.tree
   refine (HP.out _ _ _ _ hL).mono ?_
   rintro e9 wysa1 ⟨ad1, cp1, A1, R1, rfl, hh⟩
   refine ⟨_, rfl, ?_⟩
   have HYsa1 := As (show Bt w0 wysa1 J t' s1 f .nilFunc R1 (A1 ++ (cb (gx) 33 #[.int .i64 r.1, .int .i64 r.2] :: cb (w.heap.size + 1) 33 #[.int .i64 0, .int .i64 0] :: cb (w.heap.size) 33 #[.int .i64 0, .int .i64 0] :: L)) from back _ _ _ _ _ hh)
   clear hh back hLx hL
   refine hK.out _ _ (SA.out _ _ _ _ _ _ _ HYsa1.out (by simp) (by simp)) (fun hHeld => ?_)
   clear hK K_
   refine nm_ ?_
   refine pu_ 8 (some 45) ?_
   refine pu_ 9 (some 54) ?_
   refine pu_ 10 (some 55) ?_
   refine pu_ 11 (some 13) ?_
   refine pu_ 12 (some 14) ?_
   refine done_ (by kernel_rfl) ?_
   clear SA
   have HC := As (show Bt w0 wysa1 J t' s1 f .nilFunc R1 (cb (gx) 33 #[.int .i64 r.1, .int .i64 r.2] :: cb (w.heap.size + 1) 33 #[.int .i64 0, .int .i64 0] :: cb (w.heap.size) 33 #[.int .i64 0, .int .i64 0] :: L) from HYsa1.out.drop (List.sublist_append_right A1 _))
   clear HYsa1
   obtain ⟨t4_0, t4_1, t4_f0, t4_f1⟩ := HC.out.other.c2 (w.heap.size) 33 (.int .i64 0) (.int .i64 0) (by simp)
   obtain ⟨t11_0, t11_1, t11_f0, t11_f1⟩ := HC.out.other.c2 (gx) 33 (.int .i64 r.1) (.int .i64 r.2) (by simp)
   go_wp2_with fail
   obtain ⟨wg, hw, hg⟩ : ∃ wg, wg = _ ∧ Bt w0 wg J t' s1 f .nilFunc R1 (cb (gx) 33 #[.int .i64 r.1, .int .i64 r.2] :: cb (w.heap.size + 1) 33 #[.int .i64 0, .int .i64 0] :: cb (w.heap.size) 33 #[.int .i64 r.1, .int .i64 r.2] :: L) := ⟨_, rfl, (Bt.putB2 (Bt.putB2 HC.out 0 (.int .i64 r.1) rfl) 1 (.int .i64 r.2) rfl)⟩
   rw [← hw]
   obtain ⟨e0, e1, -, -⟩ := hg.other.c2 w.heap.size 33 (.int .i64 r.1) (.int .i64 r.2) (by simp)
   exact bodyPost_ret (v := .tuple #[.agg #[.int .i64 r.1, .int .i64 r.2], .slice ad1 n cp1, .int .i64 0]) (by simp [results, Try.results76, go_sem, e0, e1, hu33]) rfl ⟨ad1, cp1, R1, rfl, hg.tail.tail.tail⟩
 ·refine value_ (v := .pointer (some ⟨wxs9.heap.size, 0, none⟩)) (w1 := wxs9.alloc (.cells #[.int .i64 0, .int .i64 0] 33)) (by rfl) rfl ?_ ?_
  ·go_simp
  obtain ⟨wys91, hW, hvv⟩ : ∃ W, W = wxs9.alloc (.cells #[.int .i64 0, .int .i64 0] 33) ∧ Bt w0 W J t s f .nilFunc R (cb (wxs9.heap.size) 33 #[.int .i64 0, .int .i64 0] :: cb (w.heap.size + 1) 33 #[.int .i64 0, .int .i64 0] :: cb (w.heap.size) 33 #[.int .i64 0, .int .i64 0] :: L) := ⟨_, rfl, HDS9.out.alloc _⟩
  rw [← hW]
  have HYs91 := As hvv
  clear hW hvv
  refine hK.out _ _ (S9.out _ _ _ _ _ _ _ HYs91.out (by simp)) (fun hHeld => ?_)
  clear hK K_
  refine nm_ ?_
  refine on_ 5 (some 40) fun K_ hK => ?_
  refine gs_ Try.func132 #[.int .i64 0, .bool false, .bool true, .bool false] ?_
  refine (with0ftf _).mono ?_
  rintro e9 wys92 ⟨rfl, hb⟩
  refine ⟨_, rfl, ?_⟩
  have HYs92 := As (show Bt w0 wys92 J t s f .nilFunc R (cb (wxs9.heap.size) 33 #[.int .i64 0, .int .i64 0] :: cb (w.heap.size + 1) 33 #[.int .i64 0, .int .i64 0] :: cb (w.heap.size) 33 #[.int .i64 0, .int .i64 0] :: L) from HYs91.out.call hb)
  clear hb
  refine hK.out _ _ (S9.out _ _ _ _ _ _ _ HYs92.out (by simp)) (fun hHeld => ?_)
  clear hK K_
  refine nm_ ?_
  refine pu_ 6 (some 41) ?_
  refine on_ 7 (some 42) fun K_ hK => ?_
  refine gs_ Try.func131 #[.pointer (some ⟨J.g, 0, none⟩), .agg #[.string key, .int .i64 2, .string ⟨#[]⟩]] ?_
  refine (rtake.calls HYs92.out (key, 2, ⟨#[]⟩) HT.out.1 HT.out.2).mono ?_
  rintro e9 wys93 ⟨rfl, hh⟩
  refine ⟨_, rfl, ?_⟩
  have HYs93 := As (show Bt w0 wys93 J t s1 f .nilFunc R (cb (wxs9.heap.size) 33 #[.int .i64 0, .int .i64 0] :: cb (w.heap.size + 1) 33 #[.int .i64 0, .int .i64 0] :: cb (w.heap.size) 33 #[.int .i64 0, .int .i64 0] :: L) from hh)
  clear hh
  refine hK.out _ _ (S9.out _ _ _ _ _ _ _ HYs93.out (by simp)) (fun hHeld => ?_)
  clear hK K_
  refine nm_ ?_
  refine pu_ 8 (some 34) ?_
  refine pu_ 9 (some 43) ?_
  refine pu_ 10 (some 44) ?_
  refine la_ 12 none fun K_ hK => ?_
  obtain ⟨b0, b1, d0, d1⟩ := HYs93.out.other.c2 (wxs9.heap.size) 33 (.int .i64 0) (.int .i64 0) List.mem_cons_self
  refine sk_ (hK.out _ _ ?_)
  clear hK K_ b0 b1 d0 d1
  obtain ⟨wys94, hW, hvv⟩ : ∃ W, W = _ ∧ Bt w0 W J t s1 f .nilFunc R (cb (wxs9.heap.size) 33 #[.int .i64 r.1, .int .i64 r.2] :: cb (w.heap.size + 1) 33 #[.int .i64 0, .int .i64 0] :: cb (w.heap.size) 33 #[.int .i64 0, .int .i64 0] :: L) := ⟨_, rfl, (Bt.putB0 (Bt.putB0 HYs93.out 0 (.int .i64 r.1) rfl) 1 (.int .i64 r.2) rfl)⟩
  rw [← hW]
  have HYs94 := As hvv
  clear hW hvv
  refine pu_ 13 (some 12) ?_
  refine done_ (by kernel_rfl) ?_
  clear S9
  have HB := As (show Bt w0 wys94 J t s1 f .nilFunc R (cb (wxs9.heap.size) 33 #[.int .i64 r.1, .int .i64 r.2] :: cb (w.heap.size + 1) 33 #[.int .i64 0, .int .i64 0] :: cb (w.heap.size) 33 #[.int .i64 0, .int .i64 0] :: L) from HYs94.out)
  clear HYs94
  generalize wxs9.heap.size = gx at HB ⊢
  go_upto_region 10 with (fail)
  have SA := As (show ∀ (w' : World) (t' : Tm) (s' : Ar) (f' : Int) (on' : Value) (R' L' : List Ob), Bt w0 w' J t' s' f' on' R' L' → cb (w.heap.size + 1) 33 #[.int .i64 0, .int .i64 0] ∈ L' → cb (gx) 33 #[.int .i64 r.1, .int .i64 r.2] ∈ L' → (w'.cell? ⟨J.b, 0, none⟩ = some (.pointer (some ⟨J.K.1, 0, none⟩)) ∧ w'.cell? ⟨J.b, 1, none⟩ = some (.pointer (some ⟨J.g, 0, none⟩)) ∧ w'.cell? ⟨w.heap.size + 1, 0, none⟩ = some (.int .i64 0) ∧ w'.cell? ⟨w.heap.size + 1, 1, none⟩ = some (.int .i64 0) ∧ w'.cell? ⟨gx, 0, none⟩ = some (.int .i64 r.1) ∧ w'.cell? ⟨gx, 1, none⟩ = some (.int .i64 r.2)) from fun w' t' s' f' on' R' L' h m0 m1 => by
   obtain ⟨c0, c1, -, -⟩ := h.cells
   obtain ⟨t7_0, t7_1, -, -⟩ := h.other.c2 _ _ _ _ m0
   obtain ⟨t11_0, t11_1, -, -⟩ := h.other.c2 _ _ _ _ m1
   exact ⟨c0, c1, t7_0, t7_1, t11_0, t11_1⟩)
  have HDSA := As HB.out.drew
  refine start_ (n := 13) (S := fun w' => w'.cell? ⟨J.b, 0, none⟩ = some (.pointer (some ⟨J.K.1, 0, none⟩)) ∧ w'.cell? ⟨J.b, 1, none⟩ = some (.pointer (some ⟨J.g, 0, none⟩)) ∧ w'.cell? ⟨w.heap.size + 1, 0, none⟩ = some (.int .i64 0) ∧ w'.cell? ⟨w.heap.size + 1, 1, none⟩ = some (.int .i64 0) ∧ w'.cell? ⟨gx, 0, none⟩ = some (.int .i64 r.1) ∧ w'.cell? ⟨gx, 1, none⟩ = some (.int .i64 r.2)) (ds := []) #[false, false, false, false, false, false, false, false, false, false, false, false, false] (by kernel_rfl) rfl rfl (SA.out _ _ _ _ _ _ _ HDSA.out (by simp) (by simp)) (fun hHeld => ?_)
  generalize wys94.drew = wxsa at HDSA hHeld ⊢
  refine pu_ 0 (some 46) ?_
  refine pu_ 1 (some 47) ?_
  refine pu_ 2 (some 48) ?_
  refine pu_ 3 (some 49) ?_
  refine pu_ 5 (some 51) ?_
  refine ta_ 4 (some 50) hHeld ?_ (hy := Or.inl ⟨by rfl, by rintro w' ⟨s0, s1, s2, s3, s4, s5⟩; go_simp; with_reducible rfl⟩)
  refine ta_ 6 (some 52) hHeld ?_ (hy := Or.inl ⟨by rfl, by rintro w' ⟨s0, s1, s2, s3, s4, s5⟩; go_simp; with_reducible rfl⟩)
  refine on_ 7 (some 53) fun K_ hK => ?_
  refine gs_ Try.func66 #[.pointer (some ⟨J.K.1, 0, none⟩), .string key, .agg #[.int .i64 r.1, .int .i64 r.2]] ?_
  obtain ⟨Lx, hL, hLx, back⟩ := HDSA.out.tree
  refine (HP.out _ _ _ _ hL).mono ?_
  rintro e9 wysa1 ⟨ad1, cp1, A1, R1, rfl, hh⟩
  refine ⟨_, rfl, ?_⟩
  have HYsa1 := As (show Bt w0 wysa1 J t' s1 f .nilFunc R1 (A1 ++ (cb (gx) 33 #[.int .i64 r.1, .int .i64 r.2] :: cb (w.heap.size + 1) 33 #[.int .i64 0, .int .i64 0] :: cb (w.heap.size) 33 #[.int .i64 0, .int .i64 0] :: L)) from back _ _ _ _ _ hh)
  clear hh back hLx hL
  refine hK.out _ _ (SA.out _ _ _ _ _ _ _ HYsa1.out (by simp) (by simp)) (fun hHeld => ?_)
  clear hK K_
  refine nm_ ?_
  refine pu_ 8 (some 45) ?_
  refine pu_ 9 (some 54) ?_
  refine pu_ 10 (some 55) ?_
  refine pu_ 11 (some 13) ?_
  refine pu_ 12 (some 14) ?_
  refine done_ (by kernel_rfl) ?_
  clear SA
  have HC := As (show Bt w0 wysa1 J t' s1 f .nilFunc R1 (cb (gx) 33 #[.int .i64 r.1, .int .i64 r.2] :: cb (w.heap.size + 1) 33 #[.int .i64 0, .int .i64 0] :: cb (w.heap.size) 33 #[.int .i64 0, .int .i64 0] :: L) from HYsa1.out.drop (List.sublist_append_right A1 _))
  clear HYsa1
  obtain ⟨t4_0, t4_1, t4_f0, t4_f1⟩ := HC.out.other.c2 (w.heap.size) 33 (.int .i64 0) (.int .i64 0) (by simp)
  obtain ⟨t11_0, t11_1, t11_f0, t11_f1⟩ := HC.out.other.c2 (gx) 33 (.int .i64 r.1) (.int .i64 r.2) (by simp)
  go_wp2_with fail
  obtain ⟨wg, hw, hg⟩ : ∃ wg, wg = _ ∧ Bt w0 wg J t' s1 f .nilFunc R1 (cb (gx) 33 #[.int .i64 r.1, .int .i64 r.2] :: cb (w.heap.size + 1) 33 #[.int .i64 0, .int .i64 0] :: cb (w.heap.size) 33 #[.int .i64 r.1, .int .i64 r.2] :: L) := ⟨_, rfl, (Bt.putB2 (Bt.putB2 HC.out 0 (.int .i64 r.1) rfl) 1 (.int .i64 r.2) rfl)⟩
  rw [← hw]
  obtain ⟨e0, e1, -, -⟩ := hg.other.c2 w.heap.size 33 (.int .i64 r.1) (.int .i64 r.2) (by simp)
  exact bodyPost_ret (v := .tuple #[.agg #[.int .i64 r.1, .int .i64 r.2], .slice ad1 n cp1, .int .i64 0]) (by simp [results, Try.results76, go_sem, e0, e1, hu33]) rfl ⟨ad1, cp1, R1, rfl, hg.tail.tail.tail⟩
end
section
variable {w0 w w1 : World} {L L' R : List Ob} {t : Tm} {s : Ar} {f : Int} {on : Value} {J : Jx}
theorem icel_at : ∀ (l : List It) (k j : Nat) (x : It) (u : Value), l[k]? = some x → (icel x)[j]? = some u → (l.flatMap icel)[k * 3 + j]? = some u
 | [], k, j, x, u, h, _ => by simp at h
 | a :: l, 0, j, x, u, h, hu => by
  have e : a = x := by simpa using h
  subst e
  have hj := (List.getElem?_eq_some_iff.1 hu).1
  rw [List.flatMap_cons, Nat.zero_mul, Nat.zero_add, List.getElem?_append_left hj]
  exact hu
 | a :: l, k + 1, j, x, u, h, hu => by
  have h1 := icel_at l k j x u (by simpa using h) hu
  rw [List.flatMap_cons, List.getElem?_append_right (by simp [icel]; omega), show (k + 1) * 3 + j - (icel a).length = k * 3 + j by simp [icel]; omega]
  exact h1
theorem icells {l : List It} {a : Addr} {k : Nat} {x : It} (h : Rd 3 w (some a) l.length (l.flatMap icel)) (hx : l[k]? = some x) : w.cell? (a.add (k * 3)) = some (.string x.1) ∧ w.cell? { block := (a.add (k * 3)).block, off := (a.add (k * 3)).off + 1 } = some (.int .i64 x.2.1) ∧ w.cell? { block := (a.add (k * 3)).block, off := (a.add (k * 3)).off + 2 } = some (.int .i64 x.2.2) := by
 have hk := (List.getElem?_eq_some_iff.1 hx).1
 obtain ⟨b, e, hc⟩ := h.2 (by omega)
 cases e
 have z0 := hc (k * 3) _ (icel_at l k 0 x (.string x.1) hx rfl)
 have z1 := hc (k * 3 + 1) _ (icel_at l k 1 x (.int .i64 x.2.1) hx rfl)
 have z2 := hc (k * 3 + 2) _ (icel_at l k 2 x (.int .i64 x.2.2) hx rfl)
 rw [← Addr.add_add] at z1 z2
 exact ⟨z0, z1, z2⟩
def CheckC (w0 : World) (K : Nat × Nat × Nat) (t : Tm) : Prop := ∀ (w : World) (on : Value) (R Lx : List Ob), Mt w0 w K t on R Lx → Calls Try.prog 70 #[.pointer (some ⟨K.1, 0, none⟩)] w fun e w' => e = .returned (.bool true) ∧ Mt w0 w' K t on R Lx
def ItemsC (w0 : World) (K : Nat × Nat × Nat) (t : Tm) (l : List It) : Prop := ∀ (w : World) (on : Value) (R Lx : List Ob), Mt w0 w K t on R Lx → Calls Try.prog 69 #[.pointer (some ⟨K.1, 0, none⟩)] w fun e w' => ∃ ad cp A, e = .returned (.slice ad l.length cp) ∧ Gr 104 3 (.slice ad l.length cp) l.length (l.flatMap icel) A ∧ Mt w0 w' K t on R (A ++ Lx)
def AllGot (s : Ar) (l : List It) : Prop := ∀ (k : Nat) (x : It), l[k]? = some x → ∃ wd d, Got s x.2 (x.1, wd, d) true ∧ Pur 135 #[.int .i64 wd] (.bool false)
theorem check.calls (h : Bt w0 w J t s f on R L) {l : List It} (hl : l.length ≤ 1000000) (hc : CheckC w0 J.K t) (hi : ItemsC w0 J.K t l) (ha : AllGot s l) : Calls Try.prog 85 #[.pointer (some ⟨J.b, 0, none⟩)] w fun e w' => e = .returned (.bool true) ∧ Bt w0 w' J t s f on R L := by
 have hu33 := Try.underlying33
 have hu89 := Try.underlying89
 have hu104 := Try.underlying104
 have hu116 := Try.underlying116
 have hu126 := Try.underlying126
 have hu185 := Try.underlying185
 have hu189 := Try.underlying189
 have HM := As h
 have HY := As (And.intro hl (And.intro hc (And.intro hi ha)))
 clear h hl hc hi ha
 obtain ⟨c0, c1, c2, c3⟩ := HM.out.cells
 go_enter Try.func85, Try.ntmps85
 go_wp2_with (first
  | (go_at_call 69; have hx := H2.out; clear hx; go_loud (obtain ⟨Lx, hL, hLx, back⟩ := H2.out.tree; refine (HY.out.2.2.1 _ _ _ _ hL).mono ?_; rintro e3 w3 ⟨ad, cp, A, rfl, hG, hh⟩; have H3 := As (show Bt w0 w3 J t s f on R (A ++ L) from back _ _ _ _ A hh); have HG := As hG; clear hh back hLx hL hG; clear c0 c1 c2 c3))
  | (go_at_call 70; go_loud (obtain ⟨Lx, hL, hLx, back⟩ := HM.out.tree; refine (HY.out.2.1 _ _ _ _ hL).mono ?_; rintro e2 w2 ⟨rfl, hh⟩; have H2 := As (show Bt w0 w2 J t s f on R L from back _ _ _ _ [] hh); clear hh back hLx hL; clear c0 c1 c2 c3; obtain ⟨c0, c1, c2, c3⟩ := H2.out.cells)))
 go_loopg [25] l.length (fun kq v25 wr => ∃ (k : Nat), v25 = .int .i64 (k : Int) ∧ kq = l.length - k ∧ k ≤ l.length ∧ Aside0 (Bt w0 wr J t s f on R (A ++ L)))
 case atStart => exact ⟨0, rfl, rfl, Nat.zero_le _, ⟨H3.out⟩⟩
 case round =>
  obtain ⟨k, rfl, rfl, hk, HS⟩ := hrel
  clear H3
  by_cases hlt : k < l.length
  ·obtain ⟨x, hx⟩ : ∃ x, l[k]? = some x := ⟨_, List.getElem?_eq_getElem hlt⟩
   obtain ⟨wd, d, hgot, hdead⟩ := HY.out.2.2.2 k x hx
   have HGT := As (And.intro hgot hdead)
   have hlt' : (k : Int) < (l.length : Int) := by omega
   obtain ⟨hr1, hr2⟩ := (Rdy.of_rw (w0 := w0) (Rw.of_gr HG.out)).now HS.out.other.left
   obtain ⟨wa, ea, -⟩ := hr2 (by omega)
   cases ea
   obtain ⟨z0, z1, z2⟩ := icells ⟨hr1, hr2⟩ hx
   have ew : IntKind.i64.wrap ((k : Int) + 1) = ((k + 1 : Nat) : Int) := by rw [IntKind.wrap_i64]; have := HY.out.1; omega
   have ew' : wrap64 ((k : Int) + 1) = ((k + 1 : Nat) : Int) := by unfold wrap64; have := HY.out.1; omega
   have EW := As (And.intro ew ew')
   clear hr1 hr2 hgot hdead ew ew'
   go_upto_region 6 with (fail)
   obtain ⟨W4, hW, hM⟩ : ∃ W, W = wr.alloc (.cells #[.string x.1, .int .i64 x.2.1, .int .i64 x.2.2] 104) ∧ Bt w0 W J t s f on R (cb wr.heap.size 104 #[.string x.1, .int .i64 x.2.1, .int .i64 x.2.2] :: (A ++ L)) := ⟨_, rfl, HS.out.alloc _⟩
   rw [← hW]
   have H4 := As hM
   clear hW hM z0 z1 z2
   generalize hg4 : wr.heap.size = g4 at H4 ⊢
   clear hg4
   have S6 := As (show ∀ (w' : World) (t' : Tm) (s' : Ar) (f' : Int) (on' : Value) (R' L' : List Ob), Bt w0 w' J t' s' f' on' R' L' → cb (g4) 104 #[.string x.1, .int .i64 x.2.1, .int .i64 x.2.2] ∈ L' → (w'.cell? ⟨J.b, 0, none⟩ = some (.pointer (some ⟨J.K.1, 0, none⟩)) ∧ w'.cell? ⟨J.b, 1, none⟩ = some (.pointer (some ⟨J.g, 0, none⟩)) ∧ w'.cell? ⟨g4, 0, none⟩ = some (.string x.1) ∧ w'.cell? ⟨g4, 1, none⟩ = some (.int .i64 x.2.1) ∧ w'.cell? ⟨g4, 2, none⟩ = some (.int .i64 x.2.2)) from fun w' t' s' f' on' R' L' h m0 => by
    obtain ⟨c0, c1, -, -⟩ := h.cells
    obtain ⟨t4_0, t4_1, t4_2, -, -, -⟩ := h.other.c3 _ _ _ _ _ m0
    exact ⟨c0, c1, t4_0, t4_1, t4_2⟩)
   have HDS6 := As H4.out.drew
   refine start_ (n := 13) (S := fun w' => w'.cell? ⟨J.b, 0, none⟩ = some (.pointer (some ⟨J.K.1, 0, none⟩)) ∧ w'.cell? ⟨J.b, 1, none⟩ = some (.pointer (some ⟨J.g, 0, none⟩)) ∧ w'.cell? ⟨g4, 0, none⟩ = some (.string x.1) ∧ w'.cell? ⟨g4, 1, none⟩ = some (.int .i64 x.2.1) ∧ w'.cell? ⟨g4, 2, none⟩ = some (.int .i64 x.2.2)) (ds := [11]) #[false, false, false, false, false, false, false, false, false, false, false, false, false] (by kernel_rfl) rfl rfl (S6.out _ _ _ _ _ _ _ HDS6.out (by simp)) (fun hHeld => ?_)
   generalize W4.drew = wxs6 at HDS6 hHeld ⊢
   refine pu_ 0 (some 30) ?_
   refine pu_ 1 (some 31) ?_
   refine pu_ 2 (some 32) ?_
   refine pu_ 4 (some 34) ?_
   refine ta_ 3 (some 33) hHeld ?_ (hy := Or.inl ⟨by rfl, by rintro w' ⟨s0, s1, s2, s3, s4⟩; go_simp; with_reducible rfl⟩)
   refine ta_ 5 (some 35) hHeld ?_ (hy := Or.inl ⟨by rfl, by rintro w' ⟨s0, s1, s2, s3, s4⟩; go_simp; with_reducible rfl⟩)
   refine two_ (i := 6) (j := 10) (Ni := some 36) (Nj := some 5) #[true, true, true, true, true, true, true, false, false, false, false, false, false] #[true, true, true, true, true, true, false, false, false, false, true, false, false] rfl rfl rfl rfl (by kernel_rfl) (by decide) (by decide) (fun K_ hK => ?_) (fun K_ hK => ?_)
   ·refine gs_ Try.func138 #[.pointer (some ⟨J.g, 0, none⟩), .agg #[.int .i64 x.2.1, .int .i64 x.2.2]] ?_
    refine (rget.calls HDS6.out x.2 HGT.out.1).mono ?_
    rintro e9 wys61 ⟨rfl, hh⟩
    refine ⟨_, rfl, ?_⟩
    have HYs61 := As (show Bt w0 wys61 J t s f on R (cb (g4) 104 #[.string x.1, .int .i64 x.2.1, .int .i64 x.2.2] :: (A ++ L)) from hh)
    clear hh
    refine hK.out _ _ (S6.out _ _ _ _ _ _ _ HYs61.out (by simp)) (fun hHeld => ?_)
    clear hK K_
    refine nm_ ?_
    refine pu_ 7 (some 29) ?_
    refine pu_ 8 (some 37) ?_
    refine pu_ 9 (some 38) ?_
    refine on_ 10 (some 5) fun K_ hK => ?_
    refine value_ (v := .pointer (some ⟨wys61.heap.size, 0, none⟩)) (w1 := wys61.alloc (.cells #[.string ⟨#[]⟩, .int .i64 0, .string ⟨#[]⟩] 126)) (by rfl) rfl ?_ ?_
    ·go_simp
    obtain ⟨wys62, hW, hvv⟩ : ∃ W, W = wys61.alloc (.cells #[.string ⟨#[]⟩, .int .i64 0, .string ⟨#[]⟩] 126) ∧ Bt w0 W J t s f on R (cb (wys61.heap.size) 126 #[.string ⟨#[]⟩, .int .i64 0, .string ⟨#[]⟩] :: cb (g4) 104 #[.string x.1, .int .i64 x.2.1, .int .i64 x.2.2] :: (A ++ L)) := ⟨_, rfl, HYs61.out.alloc _⟩
    rw [← hW]
    have HYs62 := As hvv
    clear hW hvv
    refine hK.out _ _ (S6.out _ _ _ _ _ _ _ HYs62.out (by simp)) (fun hHeld => ?_)
    clear hK K_
    refine nm_ ?_
    refine la_ 11 none fun K_ hK => ?_
    obtain ⟨b0, b1, b2, d0, d1, d2⟩ := HYs62.out.other.c3 (wys61.heap.size) 126 (.string ⟨#[]⟩) (.int .i64 0) (.string ⟨#[]⟩) List.mem_cons_self
    refine sk_ (hK.out _ _ ?_)
    clear hK K_ b0 b1 b2 d0 d1 d2
    obtain ⟨wys63, hW, hvv⟩ : ∃ W, W = _ ∧ Bt w0 W J t s f on R (cb (wys61.heap.size) 126 #[.string x.1, .int .i64 wd, .string d] :: cb (g4) 104 #[.string x.1, .int .i64 x.2.1, .int .i64 x.2.2] :: (A ++ L)) := ⟨_, rfl, (Bt.putB0 (Bt.putB0 (Bt.putB0 HYs62.out 0 (.string x.1) rfl) 1 (.int .i64 wd) rfl) 2 (.string d) rfl)⟩
    rw [← hW]
    have HYs63 := As hvv
    clear hW hvv
    refine pu_ 12 (some 6) ?_
    refine done_ (by kernel_rfl) ?_
    clear S6
    have HB := As (show Bt w0 wys63 J t s f on R (cb (wys61.heap.size) 126 #[.string x.1, .int .i64 wd, .string d] :: cb (g4) 104 #[.string x.1, .int .i64 x.2.1, .int .i64 x.2.2] :: (A ++ L)) from HYs63.out)
    clear HYs63
    generalize wys61.heap.size = gx at HB ⊢
    obtain ⟨x0, x1, x2, -, -, -⟩ := HB.out.other.c3 gx 126 (.string x.1) (.int .i64 wd) (.string d) (by simp)
    obtain ⟨y0, y1, y2, -, -, -⟩ := HB.out.other.c3 g4 104 (.string x.1) (.int .i64 x.2.1) (.int .i64 x.2.2) (by simp)
    obtain ⟨ew, ew'⟩ := EW.out
    go_wp2_with (go_at_call 135; go_loud (refine (HGT.out.2 _).mono ?_; rintro e7 w7 ⟨rfl, hb⟩; have H7 := As (HB.out.call hb); clear hb))
    go_roundg (l.length - (k + 1))
    case measure => omega
    case rel => exact ⟨k + 1, by first | rfl | go_num, rfl, hlt, ⟨H7.out.tail.tail⟩⟩
   ·refine value_ (v := .pointer (some ⟨wxs6.heap.size, 0, none⟩)) (w1 := wxs6.alloc (.cells #[.string ⟨#[]⟩, .int .i64 0, .string ⟨#[]⟩] 126)) (by rfl) rfl ?_ ?_
    ·go_simp
    obtain ⟨wys61, hW, hvv⟩ : ∃ W, W = wxs6.alloc (.cells #[.string ⟨#[]⟩, .int .i64 0, .string ⟨#[]⟩] 126) ∧ Bt w0 W J t s f on R (cb (wxs6.heap.size) 126 #[.string ⟨#[]⟩, .int .i64 0, .string ⟨#[]⟩] :: cb (g4) 104 #[.string x.1, .int .i64 x.2.1, .int .i64 x.2.2] :: (A ++ L)) := ⟨_, rfl, HDS6.out.alloc _⟩
    rw [← hW]
    have HYs61 := As hvv
    clear hW hvv
    refine hK.out _ _ (S6.out _ _ _ _ _ _ _ HYs61.out (by simp)) (fun hHeld => ?_)
    clear hK K_
    refine nm_ ?_
    refine on_ 6 (some 36) fun K_ hK => ?_
    refine gs_ Try.func138 #[.pointer (some ⟨J.g, 0, none⟩), .agg #[.int .i64 x.2.1, .int .i64 x.2.2]] ?_
    refine (rget.calls HYs61.out x.2 HGT.out.1).mono ?_
    rintro e9 wys62 ⟨rfl, hh⟩
    refine ⟨_, rfl, ?_⟩
    have HYs62 := As (show Bt w0 wys62 J t s f on R (cb (wxs6.heap.size) 126 #[.string ⟨#[]⟩, .int .i64 0, .string ⟨#[]⟩] :: cb (g4) 104 #[.string x.1, .int .i64 x.2.1, .int .i64 x.2.2] :: (A ++ L)) from hh)
    clear hh
    refine hK.out _ _ (S6.out _ _ _ _ _ _ _ HYs62.out (by simp)) (fun hHeld => ?_)
    clear hK K_
    refine nm_ ?_
    refine pu_ 7 (some 29) ?_
    refine pu_ 8 (some 37) ?_
    refine pu_ 9 (some 38) ?_
    refine la_ 11 none fun K_ hK => ?_
    obtain ⟨b0, b1, b2, d0, d1, d2⟩ := HYs62.out.other.c3 (wxs6.heap.size) 126 (.string ⟨#[]⟩) (.int .i64 0) (.string ⟨#[]⟩) List.mem_cons_self
    refine sk_ (hK.out _ _ ?_)
    clear hK K_ b0 b1 b2 d0 d1 d2
    obtain ⟨wys63, hW, hvv⟩ : ∃ W, W = _ ∧ Bt w0 W J t s f on R (cb (wxs6.heap.size) 126 #[.string x.1, .int .i64 wd, .string d] :: cb (g4) 104 #[.string x.1, .int .i64 x.2.1, .int .i64 x.2.2] :: (A ++ L)) := ⟨_, rfl, (Bt.putB0 (Bt.putB0 (Bt.putB0 HYs62.out 0 (.string x.1) rfl) 1 (.int .i64 wd) rfl) 2 (.string d) rfl)⟩
    rw [← hW]
    have HYs63 := As hvv
    clear hW hvv
    refine pu_ 12 (some 6) ?_
    refine done_ (by kernel_rfl) ?_
    clear S6
    have HB := As (show Bt w0 wys63 J t s f on R (cb (wxs6.heap.size) 126 #[.string x.1, .int .i64 wd, .string d] :: cb (g4) 104 #[.string x.1, .int .i64 x.2.1, .int .i64 x.2.2] :: (A ++ L)) from HYs63.out)
    clear HYs63
    generalize wxs6.heap.size = gx at HB ⊢
    obtain ⟨x0, x1, x2, -, -, -⟩ := HB.out.other.c3 gx 126 (.string x.1) (.int .i64 wd) (.string d) (by simp)
    obtain ⟨y0, y1, y2, -, -, -⟩ := HB.out.other.c3 g4 104 (.string x.1) (.int .i64 x.2.1) (.int .i64 x.2.2) (by simp)
    obtain ⟨ew, ew'⟩ := EW.out
    go_wp2_with (go_at_call 135; go_loud (refine (HGT.out.2 _).mono ?_; rintro e7 w7 ⟨rfl, hb⟩; have H7 := As (HB.out.call hb); clear hb))
    go_roundg (l.length - (k + 1))
    case measure => omega
    case rel => exact ⟨k + 1, by first | rfl | go_num, rfl, hlt, ⟨H7.out.tail.tail⟩⟩
  ·have hge : ¬ (k : Int) < (l.length : Int) := by omega
   go_wp2_with fail
   exact bodyPost_ret (v := .bool true) (by simp [results, Try.results85, go_sem]) rfl ⟨rfl, HS.out.drop (List.sublist_append_right A L)⟩
end
section
variable {w0 w w1 : World} {L L' R : List Ob} {t : Tm} {s : Ar} {f : Int} {on : Value} {J : Jx}
def ka : ByteArray := ⟨#[97]⟩
def kx : ByteArray := ⟨#[120]⟩
def t0 : Tm := Tm.new 5
def t1 : Tm := (t0.putW ka (0, 1) [] (0, 1)).1
def t2 : Tm := t1.set (0, 1) ((t1.at (0, 1)).delete ka).1
def s0 : Ar := Ar.new 3 (rcell (⟨#[]⟩, 0, ⟨#[]⟩))
def s1 : Ar := s0.took (rcell (ka, 2, ⟨#[]⟩))
def s2 : Ar := s1.set 0 1 (rcell (ka, 3, ⟨#[]⟩))
def s3 : Ar := s2.set 0 1 (rcell (ka, 8, kx))
def s4 : Ar := s3.set 0 1 (rcell (ka, 12, kx))
def s5 : Ar := s4.free 0 1 (rcell (⟨#[]⟩, 0, ⟨#[]⟩))
abbrev r0 : Rf := (0, 1)
theorem g1 : Got s1 r0 (ka, 2, ⟨#[]⟩) true := .inl ⟨rfl, by kernel_rfl, by kernel_rfl⟩
theorem g2 : Got s2 r0 (ka, 3, ⟨#[]⟩) true := .inl ⟨rfl, by kernel_rfl, by kernel_rfl⟩
theorem g3 : Got s3 r0 (ka, 8, kx) true := .inl ⟨rfl, by kernel_rfl, by kernel_rfl⟩
theorem g4 : Got s4 r0 (ka, 12, kx) true := .inl ⟨rfl, by kernel_rfl, by kernel_rfl⟩
theorem g5 : Got s5 r0 (⟨#[]⟩, 0, ⟨#[]⟩) false := .inr ⟨rfl, by kernel_rfl, rfl⟩
theorem dn0 : Dn t0 ka t0.root [] (0, 1) := by
 have hr : t0.root = (0, 1) := by kernel_rfl
 rw [hr]; exact Dn.leaf _ (by kernel_rfl)
theorem dn1 : Dn t1 ka t1.root [] (0, 1) := by
 have hr : t1.root = (0, 1) := by kernel_rfl
 rw [hr]; exact Dn.leaf _ (by kernel_rfl)
theorem put1 (K : Nat × Nat × Nat) : PutC w0 K t0 t1 1 0 ka r0 := fun w on R Lx h => by
 have hl : (t0.putW ka (0, 1) [] (0, 1)).2.1.length = 1 := by kernel_rfl
 have he : (t0.putW ka (0, 1) [] (0, 1)).2.2 = 0 := by kernel_rfl
 refine (tput.calls h ka (0, 1) dn0 (ok_of (by kernel_rfl)) (mb := 10) (by decide) (bd_of (by kernel_rfl)) (by decide)).mono ?_
 rintro e w' ⟨ad, c, A, R', rfl, hG, hh⟩
 exact ⟨ad, c, A, R', by rw [hl, he], hh⟩
theorem del1 (K : Nat × Nat × Nat) : DelC w0 K t1 t2 0 ka := fun w on R Lx h => by
 have hd1 : ((t1.at (0, 1)).delete ka).2 = ((0, 1), true) := by kernel_rfl
 refine (delT.lone h ka dn1 (ok_of (by kernel_rfl)) (by decide) (hl0 := rfl) (m := ((t1.at (0, 1)).delete ka).1) (r := (0, 1)) (Prod.ext rfl hd1) (p1 := (t2, [])) (p2 := (t2, [])) (k2 := 0) (Up1.top _) (Up2.stop 0 _ (.inl (by kernel_rfl))) (by decide)).mono ?_
 rintro e w' ⟨ad, c, A, R', rfl, hG, hh⟩
 exact ⟨ad, c, A, R', (0, 1), true, rfl, hh⟩
theorem chk2 (K : Nat × Nat × Nat) : CheckC w0 K t2 := fun w on R Lx h => by
 have hr : t2.root = (0, 1) := by kernel_rfl
 have hb : ((visits t2 0 t2.root 0 ⟨#[]⟩ ⟨#[]⟩).foldl chkS chk0).ok = true := by kernel_rfl
 have hc : ((visits t2 0 t2.root 0 ⟨#[]⟩ ⟨#[]⟩).foldl chkS chk0).cnt = 1 := by kernel_rfl
 have hh1 : ((t2.p.held : Int) - (t2.gone.length : Int)) = 1 := by kernel_rfl
 have hs : Nd.Sm (t2.at t2.root) := (ok_of (by rw [hr]; kernel_rfl)).sm
 exact tcheck.calls h (hh := 0) (m := 10) (by decide) ⟨by rw [hr]; kernel_rfl, hs⟩ (by show 1 ≤ 10; decide) (by decide) (Nat.le_of_ble_eq_true (by kernel_rfl)) rfl (by rw [hb, hc, hh1]; rfl)
theorem its2 (K : Nat × Nat × Nat) : ItemsC w0 K t2 [] := fun w on R Lx h => by
 have hr : t2.root = (0, 1) := by kernel_rfl
 have hci : CI (t2.at t2.root) := fun _ => by
  rw [hr]
  exact ⟨by kernel_rfl, Nat.le_of_ble_eq_true (by kernel_rfl)⟩
 have hv : (visits t2 0 t2.root 0 ⟨#[]⟩ ⟨#[]⟩).flatMap visI = [] := by kernel_rfl
 exact titems.calls h (hh := 0) (m := 10) (by decide) ⟨by rw [hr]; kernel_rfl, hci⟩ (by show 1 ≤ 10; decide) (by decide) hv
theorem cplace (h : Bt w0 w J t0 s0 0 on R L) : Calls Try.prog 76 #[.pointer (some ⟨J.b, 0, none⟩), .string ⟨#[97]⟩] w fun e w' => ∃ ad cp R', e = .returned (.tuple #[.agg #[.int .i64 0, .int .i64 1], .slice ad 1 cp, .int .i64 0]) ∧ Bt w0 w' J t1 s1 0 .nilFunc R' L := by
  have hf : (t0.find ka (0, 1)).2 = false := by kernel_rfl
  have hr : ¬ s0.room = 0 := by have : s0.room = 3 := by kernel_rfl
                                rw [this]; decide
  have ht : tk s0 = ((0 : Int), (1 : Int), (0 : Int)) := by kernel_rfl
  exact place.ok h ka dn0 (ok_of (by kernel_rfl)) hf hr (r := (0, 1)) ht (s1 := s1) rfl (put1 J.K)
theorem cdup (h : Bt w0 w J t1 s1 0 on R L) : Calls Try.prog 76 #[.pointer (some ⟨J.b, 0, none⟩), .string ⟨#[97]⟩] w fun e w' => e = .returned (.tuple #[.agg #[.int .i64 0, .int .i64 0], .slice none 0 0, .int .i64 13]) ∧ Bt w0 w' J t1 s1 0 .nilFunc R L := by
 have hf : (t1.find ka (0, 1)).2 = true := by kernel_rfl
 exact place.dup h ka dn1 (ok_of (by kernel_rfl)) hf
theorem clock (h : Bt w0 w J t1 s1 0 on R L) : Calls Try.prog 79 #[.pointer (some ⟨J.b, 0, none⟩), .agg #[.int .i64 0, .int .i64 1]] w fun e w' => e = .returned (.bool true) ∧ Bt w0 w' J t1 s2 0 on R L := lock.ok h r0 g1 locked2 dead2 absent2 with2ttf (by kernel_rfl) rfl (by decide) (by decide)
theorem clock2 (h : Bt w0 w J t1 s2 0 on R L) : Calls Try.prog 79 #[.pointer (some ⟨J.b, 0, none⟩), .agg #[.int .i64 0, .int .i64 1]] w fun e w' => e = .returned (.bool false) ∧ Bt w0 w' J t1 s2 0 on R L := lock.locked h r0 g2 locked3 (by decide) (by decide)
theorem cinst (h : Bt w0 w J t1 s2 0 on R L) : Calls Try.prog 84 #[.pointer (some ⟨J.b, 0, none⟩), .agg #[.int .i64 0, .int .i64 1], .int .i64 8, .string ⟨#[120]⟩, .bool false] w fun e w' => e = .returned (.bool true) ∧ Bt w0 w' J t1 s3 0 on R L := install.ok h r0 8 kx false g2 locked3 with8fff (by kernel_rfl) rfl (by decide) (by decide)
theorem cget (h : Bt w0 w J t1 s3 0 on R L) : Calls Try.prog 82 #[.pointer (some ⟨J.b, 0, none⟩), .agg #[.int .i64 0, .int .i64 1]] w fun e w' => e = .returned (.tuple #[.agg #[.string ⟨#[97]⟩, .int .i64 8, .string ⟨#[120]⟩], .bool true]) ∧ Bt w0 w' J t1 s3 0 on R L := get.calls h r0 g3 (by decide) (by decide)
theorem cearly (h : Bt w0 w J t1 s3 0 on R L) : Calls Try.prog 80 #[.pointer (some ⟨J.b, 0, none⟩), .agg #[.int .i64 0, .int .i64 1]] w fun e w' => e = .returned (.bool false) ∧ Bt w0 w' J t1 s3 0 on R L := freeRec.live h r0 g3 dead8 (by decide) (by decide)
theorem cunl (h : Bt w0 w J t1 s3 0 on R L) : Calls Try.prog 77 #[.pointer (some ⟨J.b, 0, none⟩), .agg #[.int .i64 0, .int .i64 1]] w fun e w' => ∃ ad cp R', e = .returned (.tuple #[.slice ad 0 cp, .bool true]) ∧ Bt w0 w' J t2 s4 0 .nilFunc R' L := unlink.ok h r0 g3 locked8 dead8 absent8 with8fft (by kernel_rfl) rfl (del1 J.K) (by decide) (by decide)
theorem cfree (h : Bt w0 w J t2 s4 0 on R L) : Calls Try.prog 80 #[.pointer (some ⟨J.b, 0, none⟩), .agg #[.int .i64 0, .int .i64 1]] w fun e w' => e = .returned (.bool true) ∧ Bt w0 w' J t2 s5 0 on R L := freeRec.dead h r0 g4 dead12 (by kernel_rfl) rfl (by decide) (by decide)
theorem cgone (h : Bt w0 w J t2 s5 0 on R L) : Calls Try.prog 82 #[.pointer (some ⟨J.b, 0, none⟩), .agg #[.int .i64 0, .int .i64 1]] w fun e w' => e = .returned (.tuple #[.agg #[.string ⟨#[]⟩, .int .i64 0, .string ⟨#[]⟩], .bool false]) ∧ Bt w0 w' J t2 s5 1 on R L := get.calls h r0 g5 (by decide) (by decide)
theorem ccounts (h : Bt w0 w J t2 s5 1 on R L) : Calls Try.prog 86 #[.pointer (some ⟨J.b, 0, none⟩)] w fun e w' => e = .returned (.tuple #[.int .i64 0, .int .i64 1, .int .i64 0]) ∧ Bt w0 w' J t2 s5 1 on R L := by
 have h1 : (s5.live.length : Int) = 0 := by kernel_rfl
 have h2 : ((t2.p.held : Int) - (t2.gone.length : Int)) = 1 := by kernel_rfl
 have h3 : (t2.gone.length : Int) = 0 := by kernel_rfl
 have := counts.calls h (Nat.le_of_ble_eq_true (by kernel_rfl))
 rwa [h1, h2, h3] at this
theorem cfaults (h : Bt w0 w J t2 s5 1 on R L) : Calls Try.prog 81 #[.pointer (some ⟨J.b, 0, none⟩)] w fun e w' => e = .returned (.int .i64 1) ∧ Bt w0 w' J t2 s5 1 on R L := faults.calls h
theorem ccheck (h : Bt w0 w J t2 s5 1 on R L) : Calls Try.prog 85 #[.pointer (some ⟨J.b, 0, none⟩)] w fun e w' => e = .returned (.bool true) ∧ Bt w0 w' J t2 s5 1 on R L := check.calls h (l := []) (by decide) (chk2 J.K) (its2 J.K) (fun k x hx => by simp at hx)
theorem eq126x (w : World) : (binOp .eql 126 (.agg #[.string ⟨#[97]⟩, .int .i64 8, .string ⟨#[120]⟩]) (.agg #[.string ⟨#[97]⟩, .int .i64 8, .string ⟨#[120]⟩])).run Try.prog w = .ok (.bool true) w := by kernel_rfl
theorem awake.calls (w : World) : Calls Try.prog 74 #[] w fun e w' => e = .returned (.bool true) ∧ Below w.heap.size w w' := by
 have hu33 := Try.underlying33
 have hu31 := Try.underlying31
 have hu116 := Try.underlying116
 have hu126 := Try.underlying126
 have hz := eq126x
 go_enter Try.func74, Try.ntmps74
 go_upto_region 4 with (go_at_call 75; go_loud (refine (new.calls (Hv.start w) 3 5 (by decide) (by decide) (by decide) (by decide)).mono ?_; rintro e1 w1 ⟨J, rfl, h1⟩; have H1 := As (show Bt w w1 J t0 s0 0 .nilFunc [] [] from h1); clear h1))
 go_upto_region 5 with (go_at_call 76; go_loud (refine (cplace H1.out).mono ?_; rintro e2 w2 ⟨ad, cp, R1, rfl, hh⟩; have H2 := As hh; clear hh))
 obtain ⟨W3, hW, hw⟩ : ∃ W, W = w2.alloc (.cells #[.int .i64 0, .int .i64 1] 33) ∧ Bt w W J t1 s1 0 .nilFunc R1 ([cb w2.heap.size 33 #[.int .i64 0, .int .i64 1]]) := ⟨_, rfl, H2.out.alloc _⟩
 rw [← hW]
 have H3 := As hw
 clear hW hw
 generalize w2.heap.size = b3 at H3 ⊢
 go_upto_region 6 with (go_at_call 76; go_loud (refine (cdup H3.out).mono ?_; rintro e4 w4 ⟨rfl, hh⟩; have H4 := As hh; clear hh))
 obtain ⟨W5, hW, hw⟩ : ∃ W, W = w4.alloc (.cells #[.int .i64 0, .int .i64 0] 33) ∧ Bt w W J t1 s1 0 .nilFunc R1 ([cb b3 33 #[.int .i64 0, .int .i64 1]]) := ⟨_, rfl, (H4.out.alloc _).tail⟩
 rw [← hW]
 have H5 := As hw
 clear hW hw
 obtain ⟨a0, a1, -, -⟩ := H5.out.other.c2 b3 33 (.int .i64 0) (.int .i64 1) (by simp)
 go_upto_region 7 with (go_at_call 79; go_loud (refine (clock H5.out).mono ?_; rintro e6 w6 ⟨rfl, hh⟩; have H6 := As hh; clear hh; clear a0 a1; obtain ⟨a0, a1, -, -⟩ := H6.out.other.c2 b3 33 (.int .i64 0) (.int .i64 1) (by simp)))
 go_upto_region 8 with (go_at_call 79; go_loud (refine (clock2 H6.out).mono ?_; rintro e7 w7 ⟨rfl, hh⟩; have H7 := As hh; clear hh; clear a0 a1; obtain ⟨a0, a1, -, -⟩ := H7.out.other.c2 b3 33 (.int .i64 0) (.int .i64 1) (by simp)))
 go_upto_region 9 with (go_at_call 84; go_loud (refine (cinst H7.out).mono ?_; rintro e8 w8 ⟨rfl, hh⟩; have H8 := As hh; clear hh; clear a0 a1; obtain ⟨a0, a1, -, -⟩ := H8.out.other.c2 b3 33 (.int .i64 0) (.int .i64 1) (by simp)))
 go_upto_region 10 with (go_at_call 82; go_loud (refine (cget H8.out).mono ?_; rintro e9 w9 ⟨rfl, hh⟩; have H9 := As hh; clear hh; clear a0 a1))
 obtain ⟨W10, hW, hw⟩ : ∃ W, W = w9.alloc (.cells #[.string ⟨#[97]⟩, .int .i64 8, .string ⟨#[120]⟩] 126) ∧ Bt w W J t1 s3 0 .nilFunc R1 (cb w9.heap.size 126 #[.string ⟨#[97]⟩, .int .i64 8, .string ⟨#[120]⟩] :: [cb b3 33 #[.int .i64 0, .int .i64 1]]) := ⟨_, rfl, H9.out.alloc _⟩
 rw [← hW]
 have H10 := As hw
 clear hW hw
 generalize w9.heap.size = b10 at H10 ⊢
 obtain ⟨a0, a1, -, -⟩ := H10.out.other.c2 b3 33 (.int .i64 0) (.int .i64 1) (by simp)
 obtain ⟨x0, x1, x2, -, -, -⟩ := H10.out.other.c3 b10 126 (.string ⟨#[97]⟩) (.int .i64 8) (.string ⟨#[120]⟩) (by simp)
 go_upto_region 11 with (go_at_call 80; go_loud (refine (cearly H10.out).mono ?_; rintro e11 w11 ⟨rfl, hh⟩; have H11 := As hh; clear hh; clear a0 a1 x0 x1 x2; obtain ⟨a0, a1, -, -⟩ := H11.out.other.c2 b3 33 (.int .i64 0) (.int .i64 1) (by simp); obtain ⟨x0, x1, x2, -, -, -⟩ := H11.out.other.c3 b10 126 (.string ⟨#[97]⟩) (.int .i64 8) (.string ⟨#[120]⟩) (by simp)))
 go_upto_region 12 with (go_at_call 77; go_loud (refine (cunl H11.out).mono ?_; rintro e12 w12 ⟨ad2, cp2, R2, rfl, hh⟩; have H12 := As hh; clear hh; clear a0 a1 x0 x1 x2; obtain ⟨a0, a1, -, -⟩ := H12.out.other.c2 b3 33 (.int .i64 0) (.int .i64 1) (by simp); obtain ⟨x0, x1, x2, -, -, -⟩ := H12.out.other.c3 b10 126 (.string ⟨#[97]⟩) (.int .i64 8) (.string ⟨#[120]⟩) (by simp)))
 go_upto_region 13 with (go_at_call 80; go_loud (refine (cfree H12.out).mono ?_; rintro e13 w13 ⟨rfl, hh⟩; have H13 := As hh; clear hh; clear a0 a1 x0 x1 x2; obtain ⟨a0, a1, -, -⟩ := H13.out.other.c2 b3 33 (.int .i64 0) (.int .i64 1) (by simp); obtain ⟨x0, x1, x2, -, -, -⟩ := H13.out.other.c3 b10 126 (.string ⟨#[97]⟩) (.int .i64 8) (.string ⟨#[120]⟩) (by simp)))
 go_upto_region 14 with (go_at_call 82; go_loud (refine (cgone H13.out).mono ?_; rintro e14 w14 ⟨rfl, hh⟩; have H14 := As hh; clear hh; clear a0 a1 x0 x1 x2))
 obtain ⟨W15, hW, hw⟩ : ∃ W, W = w14.alloc (.cells #[.string ⟨#[]⟩, .int .i64 0, .string ⟨#[]⟩] 126) ∧ Bt w W J t2 s5 1 .nilFunc R2 (cb b10 126 #[.string ⟨#[97]⟩, .int .i64 8, .string ⟨#[120]⟩] :: [cb b3 33 #[.int .i64 0, .int .i64 1]]) := ⟨_, rfl, (H14.out.alloc _).tail⟩
 rw [← hW]
 have H15 := As hw
 clear hW hw
 obtain ⟨a0, a1, -, -⟩ := H15.out.other.c2 b3 33 (.int .i64 0) (.int .i64 1) (by simp)
 obtain ⟨x0, x1, x2, -, -, -⟩ := H15.out.other.c3 b10 126 (.string ⟨#[97]⟩) (.int .i64 8) (.string ⟨#[120]⟩) (by simp)
 go_upto_region 15 with (go_at_call 86; go_loud (refine (ccounts H15.out).mono ?_; rintro e16 w16 ⟨rfl, hh⟩; have H16 := As hh; clear hh; clear a0 a1 x0 x1 x2; obtain ⟨a0, a1, -, -⟩ := H16.out.other.c2 b3 33 (.int .i64 0) (.int .i64 1) (by simp); obtain ⟨x0, x1, x2, -, -, -⟩ := H16.out.other.c3 b10 126 (.string ⟨#[97]⟩) (.int .i64 8) (.string ⟨#[120]⟩) (by simp)))
 go_wp2_with (first | (go_at_call 85; have hx := H17.out; clear hx; go_loud (refine (ccheck H17.out).mono ?_; rintro e18 w18 ⟨rfl, hh⟩; have H18 := As hh; clear hh)) | (go_at_call 81; go_loud (refine (cfaults H16.out).mono ?_; rintro e17 w17 ⟨rfl, hh⟩; have H17 := As hh; clear hh; clear a0 a1 x0 x1 x2; obtain ⟨a0, a1, -, -⟩ := H17.out.other.c2 b3 33 (.int .i64 0) (.int .i64 1) (by simp); obtain ⟨x0, x1, x2, -, -, -⟩ := H17.out.other.c3 b10 126 (.string ⟨#[97]⟩) (.int .i64 8) (.string ⟨#[120]⟩) (by simp))))
 exact bodyPost_ret (v := .bool true) (by simp [results, Try.results74, go_sem]) rfl ⟨rfl, H18.out.bel⟩
end
end Go.Proofs.Ytglbcfkmaamhaaa.Bs
