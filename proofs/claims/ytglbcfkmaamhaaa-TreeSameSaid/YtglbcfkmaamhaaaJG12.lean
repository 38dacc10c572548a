/- A text of this claim: parts TrL TrM TrN TrO TrP TrQ TrR TrS TrT. No condition. -/
import Derived.Test.YtglbcfkmaamhaaaJG11
import Derived.Test.YtglbcfkmaamhaaaJG7
import Derived.Test.YtglbcfkmaamhaaaJG10
import Derived.Test.YtglbcfkmaamhaaaJG2
import Derived.Test.YtglbcfkmaamhaaaJG0
import Derived.RangeFuncNested
import Derived.RangeFuncBound
import Derived.RangeFuncCalls
import Derived.RangeFuncLeaves
import Derived.Shelf.Abstract
import Derived.Shelf.RegionOpen
import Derived.OwnWalkIn
import Derived.TacticsInMore
import Derived.LoopNIn
import Derived.LoopIn
import Derived.RangeFuncWrites
set_option linter.unusedVariables false
set_option linter.unusedSimpArgs false
set_option maxHeartbeats 16000000
set_option maxRecDepth 100000
namespace Go.Proofs.Ytglbcfkmaamhaaa.Tr
open Go Go.RowKit Go.Proofs.YtglbcfkmaamhaaaW.PrintWords Go.Proofs.YtglbcfkmaamhaaaW.PrintLast Go.Proofs.YtglbcfkmaamhaaaW.PrintMore Go.Proofs.Ytglbcfkmaamhaaa.Hv Go.Proofs.Ytglbcfkmaamhaaa.Arm Go.Proofs.Ytglbcfkmaamhaaa.Nd Go.Proofs.Ytglbcfkmaamhaaa.ArN
section
variable {w0 w w1 : World} {L L' R : List Ob} {K : Nat × Nat × Nat} {t : Tm} {on : Value}
theorem splitT.under (h : Mt w0 w K t on R L) (r : Rf) (ho : Nd.Sm (t.at r)) {ua : Addr} {u : Rf} (hua : Rdy 2 w0 L (some ua) 1 (rcel u)) (hou : ∀ t2 : Tm, t2 = (t.set r (t.at r).split.1).take (t.at r).split.2.2 → Nd.Sm (t2.at u)) : Calls Try.prog 120 #[.pointer (some ⟨K.1, 0, none⟩), .agg #[.int .i64 r.1, .int .i64 r.2], .pointer (some ua)] w (SplP w0 K on R L (t.split r (some u))) := by
 have hu59 := Try.underlying59
 have hu33 := Try.underlying33
 have hu31 := Try.underlying31
 have hu57 := Try.underlying57
 have hu160 := Try.underlying160
 have HM := As (show Mt w0 _ K t on R (cb (w.heap.size + 1) 33 #[.int .i64 0, .int .i64 0] :: cb (w.heap.size) 33 #[.int .i64 r.1, .int .i64 r.2] :: L) by
  have := (h.alloc (.cells #[.int .i64 r.1, .int .i64 r.2] 33)).alloc (.cells #[.int .i64 0, .int .i64 0] 33)
  simpa [cb] using this)
 obtain ⟨n, hn⟩ : ∃ n, t.at r = n := ⟨_, rfl⟩
 obtain ⟨a, mid, b, hsp⟩ : ∃ a mid b, n.split = (a, mid, b) := ⟨_, _, _, rfl⟩
 rw [hn] at ho
 obtain ⟨t1, ht1⟩ : ∃ t1, t.set r a = t1 := ⟨_, rfl⟩
 obtain ⟨t2, ht2⟩ : ∃ t2, t1.take b = t2 := ⟨_, rfl⟩
 have HE := As (And.intro hn (And.intro hsp (And.intro ht1 ht2)))
 have HO := As ho
 have hou2 := hou t2 (by rw [hn, hsp]; simp only []; rw [ht1, ht2])
 have HU := As (And.intro hua hou2)
 clear hua hou hou2
 clear h ho hn hsp ht1 ht2
 obtain ⟨t4_0, t4_1, t4_f0, t4_f1⟩ := HM.out.other.c2 (w.heap.size) 33 (.int .i64 r.1) (.int .i64 r.2) (by simp)
 obtain ⟨t6_0, t6_1, t6_f0, t6_f1⟩ := HM.out.other.c2 (w.heap.size + 1) 33 (.int .i64 0) (.int .i64 0) (by simp)
 go_enter Try.func120, Try.ntmps120
 go_upto_region 2 with (first | (go_at_call 51; have hx2 := H2.out; clear hx2; go_loud ((obtain ⟨Lf, hL, hRf, hLf, back⟩ := H2.out.lens); (refine (Nd.split.calls (w0 := w0) (R := R) hL hRf ⟨ka, kc, ra, rc, rfl, HN.out⟩ HO.out).mono ?_); rw [HE.out.2.1]; rintro e3 w3 ⟨va, vb, A1, rfl, hna, hnb, hh⟩; have H3 := As (back w3 A1 hh); clear back hL hRf hLf hh; obtain ⟨ka1, kc1, ra1, rc1, ev, hr1⟩ := hna; have ev1 : va = .agg #[.bool a.leaf, .int .i64 a.ver, .slice ka1 a.keys.length kc1, .slice ra1 a.refs.length rc1] := ev; subst ev1; clear ev; obtain ⟨ka2, kc2, ra2, rc2, ev, hr2⟩ := hnb; have ev2 : vb = .agg #[.bool b.leaf, .int .i64 b.ver, .slice ka2 b.keys.length kc2, .slice ra2 b.refs.length rc2] := ev; subst ev2; clear ev; have HR1 := As (And.intro hr1 hr2); clear hr1 hr2; clear t4_0 t4_f0 t4_1 t4_f1 t6_0 t6_f0 t6_1 t6_f1; obtain ⟨t4_0, t4_1, t4_f0, t4_f1⟩ := H3.out.other.c2 (w.heap.size) 33 (.int .i64 r.1) (.int .i64 r.2) (by simp); obtain ⟨t6_0, t6_1, t6_f0, t6_f1⟩ := H3.out.other.c2 (w.heap.size + 1) 33 (.int .i64 0) (.int .i64 0) (by simp))) | (go_at_call 111; go_loud ((refine (at.calls HM.out r).mono ?_); rintro e2 w2 ⟨v, rfl, hnv, hh⟩; rw [HE.out.1] at hnv; obtain ⟨ka, kc, ra, rc, ev, hr⟩ := hnv; have ev0 : v = .agg #[.bool n.leaf, .int .i64 n.ver, .slice ka n.keys.length kc, .slice ra n.refs.length rc] := ev; subst ev0; clear ev; have HN := As hr; have H2 := As hh; clear hh hr; clear t4_0 t4_f0 t4_1 t4_f1 t6_0 t6_f0 t6_1 t6_f1; obtain ⟨t4_0, t4_1, t4_f0, t4_f1⟩ := H2.out.other.c2 (w.heap.size) 33 (.int .i64 r.1) (.int .i64 r.2) (by simp); obtain ⟨t6_0, t6_1, t6_f0, t6_f1⟩ := H2.out.other.c2 (w.heap.size + 1) 33 (.int .i64 0) (.int .i64 0) (by simp))))
 obtain ⟨W4, hW, hM⟩ : ∃ W, W = (w3.alloc (.cells #[.bool a.leaf, .int .i64 a.ver, .slice ka1 a.keys.length kc1, .slice ra1 a.refs.length rc1] 59)).alloc (.cells #[.bool b.leaf, .int .i64 b.ver, .slice ka2 b.keys.length kc2, .slice ra2 b.refs.length rc2] 59) ∧ Mt w0 W K t on (A1 ++ R) (cb (w3.heap.size + 1) 59 #[.bool b.leaf, .int .i64 b.ver, .slice ka2 b.keys.length kc2, .slice ra2 b.refs.length rc2] :: cb (w3.heap.size) 59 #[.bool a.leaf, .int .i64 a.ver, .slice ka1 a.keys.length kc1, .slice ra1 a.refs.length rc1] :: cb (w.heap.size + 1) 33 #[.int .i64 0, .int .i64 0] :: cb (w.heap.size) 33 #[.int .i64 r.1, .int .i64 r.2] :: L) := ⟨_, rfl, by have := (H3.out.alloc (.cells #[.bool a.leaf, .int .i64 a.ver, .slice ka1 a.keys.length kc1, .slice ra1 a.refs.length rc1] 59)).alloc (.cells #[.bool b.leaf, .int .i64 b.ver, .slice ka2 b.keys.length kc2, .slice ra2 b.refs.length rc2] 59); simpa [cb] using this⟩
 rw [← hW]
 have H4 := As hM
 clear hW hM
 clear t4_0 t4_f0 t4_1 t4_f1 t6_0 t6_f0 t6_1 t6_f1
 generalize w3.heap.size = g7 at H4 ⊢
 have SP := As (show ∀ (w' : World) (t' : Tm) (R' L' : List Ob), Mt w0 w' K t' on R' L' → cb (w.heap.size) 33 #[.int .i64 r.1, .int .i64 r.2] ∈ L' → cb (g7) 59 #[.bool a.leaf, .int .i64 a.ver, .slice ka1 a.keys.length kc1, .slice ra1 a.refs.length rc1] ∈ L' → (w'.cell? ⟨K.1, 0, none⟩ = some (.pointer (some ⟨K.2.1, 0, none⟩)) ∧ w'.cell? ⟨w.heap.size, 0, none⟩ = some (.int .i64 r.1) ∧ w'.cell? ⟨w.heap.size, 1, none⟩ = some (.int .i64 r.2) ∧ w'.cell? ⟨g7, 0, none⟩ = some (.bool a.leaf) ∧ w'.cell? ⟨g7, 1, none⟩ = some (.int .i64 a.ver) ∧ w'.cell? ⟨g7, 2, none⟩ = some (.slice ka1 a.keys.length kc1) ∧ w'.cell? ⟨g7, 3, none⟩ = some (.slice ra1 a.refs.length rc1)) from fun w' t' R' L' h m0 m1 => by
  obtain ⟨c0, -, -, -, -, -, -⟩ := h.cells
  obtain ⟨t4_0, t4_1, -, -⟩ := h.other.c2 _ _ _ _ m0
  obtain ⟨t7_0, t7_1, t7_2, t7_3, -, -, -, -⟩ := h.other.c4 _ _ _ _ _ _ m1
  exact ⟨c0, t4_0, t4_1, t7_0, t7_1, t7_2, t7_3⟩)
 have HD2 := As H4.out.drew
 refine start_ (n := 7) (S := fun w' => w'.cell? ⟨K.1, 0, none⟩ = some (.pointer (some ⟨K.2.1, 0, none⟩)) ∧ w'.cell? ⟨w.heap.size, 0, none⟩ = some (.int .i64 r.1) ∧ w'.cell? ⟨w.heap.size, 1, none⟩ = some (.int .i64 r.2) ∧ w'.cell? ⟨g7, 0, none⟩ = some (.bool a.leaf) ∧ w'.cell? ⟨g7, 1, none⟩ = some (.int .i64 a.ver) ∧ w'.cell? ⟨g7, 2, none⟩ = some (.slice ka1 a.keys.length kc1) ∧ w'.cell? ⟨g7, 3, none⟩ = some (.slice ra1 a.refs.length rc1)) (ds := []) #[false, false, false, false, false, false, false] (by kernel_rfl) rfl rfl (SP.out _ _ _ _ HD2.out (by simp) (by simp)) (fun hHeld => ?_)
 generalize W4.drew = wx2 at HD2 hHeld ⊢
 refine pu_ 0 (some 21) ?_
 refine pu_ 1 (some 22) ?_
 refine pu_ 2 (some 23) ?_
 refine ta_ 3 (some 24) hHeld ?_ (hy := Or.inl ⟨by rfl, by rintro w' ⟨s0, s1, s2, s3, s4, s5, s6⟩; go_simp; with_reducible rfl⟩)
 refine ta_ 4 (some 25) hHeld ?_ (hy := Or.inl ⟨by rfl, by rintro w' ⟨s0, s1, s2, s3, s4, s5, s6⟩; go_simp; with_reducible rfl⟩)
 refine ta_ 5 (some 26) hHeld ?_ (hy := Or.inl ⟨by rfl, by rintro w' ⟨s0, s1, s2, s3, s4, s5, s6⟩; go_simp; with_reducible rfl⟩)
 refine on_ 6 (some 27) fun K_ hK => ?_
 refine gs_ Try.func112 #[.pointer (some ⟨K.2.1, 0, none⟩), .agg #[.int .i64 r.1, .int .i64 r.2], .agg #[.bool a.leaf, .int .i64 a.ver, .slice ka1 a.keys.length kc1, .slice ra1 a.refs.length rc1]] ?_
 refine (Mt.set HD2.out r (n := a) ⟨ka1, kc1, ra1, rc1, rfl, HR1.out.1⟩).mono ?_
 rw [HE.out.2.2.1]
 rintro e9 w5 ⟨rfl, hh⟩
 refine ⟨_, rfl, ?_⟩
 have H5 := As hh
 clear hh
 refine hK.out _ _ (SP.out _ _ _ _ H5.out (by simp) (by simp)) (fun hHeld => ?_)
 clear hK K_
 refine nm_ ?_
 refine done_ (by kernel_rfl) ?_
 clear SP hHeld
 have SP3 := As (show ∀ (w' : World) (t' : Tm) (R' L' : List Ob), Mt w0 w' K t' on R' L' → cb (g7 + 1) 59 #[.bool b.leaf, .int .i64 b.ver, .slice ka2 b.keys.length kc2, .slice ra2 b.refs.length rc2] ∈ L' → (w'.cell? ⟨K.1, 0, none⟩ = some (.pointer (some ⟨K.2.1, 0, none⟩)) ∧ w'.cell? ⟨g7 + 1, 0, none⟩ = some (.bool b.leaf) ∧ w'.cell? ⟨g7 + 1, 1, none⟩ = some (.int .i64 b.ver) ∧ w'.cell? ⟨g7 + 1, 2, none⟩ = some (.slice ka2 b.keys.length kc2) ∧ w'.cell? ⟨g7 + 1, 3, none⟩ = some (.slice ra2 b.refs.length rc2)) from fun w' t' R' L' h m0 => by
  obtain ⟨c0, -, -, -, -, -, -⟩ := h.cells
  obtain ⟨t9_0, t9_1, t9_2, t9_3, -, -, -, -⟩ := h.other.c4 _ _ _ _ _ _ m0
  exact ⟨c0, t9_0, t9_1, t9_2, t9_3⟩)
 have HD3 := As H5.out.drew
 go_upto_region 3 with (fail)
 refine start_ (n := 12) (S := fun w' => w'.cell? ⟨K.1, 0, none⟩ = some (.pointer (some ⟨K.2.1, 0, none⟩)) ∧ w'.cell? ⟨g7 + 1, 0, none⟩ = some (.bool b.leaf) ∧ w'.cell? ⟨g7 + 1, 1, none⟩ = some (.int .i64 b.ver) ∧ w'.cell? ⟨g7 + 1, 2, none⟩ = some (.slice ka2 b.keys.length kc2) ∧ w'.cell? ⟨g7 + 1, 3, none⟩ = some (.slice ra2 b.refs.length rc2)) (ds := [10]) #[false, false, false, false, false, false, false, false, false, false, false, false] (by kernel_rfl) rfl rfl (SP3.out _ _ _ _ HD3.out (by simp)) (fun hHeld => ?_)
 generalize w5.drew = wx3 at HD3 hHeld ⊢
 refine pu_ 0 (some 29) ?_
 refine pu_ 1 (some 30) ?_
 refine pu_ 2 (some 31) ?_
 refine ta_ 3 (some 32) hHeld ?_ (hy := Or.inl ⟨by rfl, by rintro w' ⟨s0, s1, s2, s3, s4⟩; go_simp; with_reducible rfl⟩)
 refine ta_ 4 (some 33) hHeld ?_ (hy := Or.inl ⟨by rfl, by rintro w' ⟨s0, s1, s2, s3, s4⟩; go_simp; with_reducible rfl⟩)
 refine two_ (i := 5) (j := 9) (Ni := some 34) (Nj := some 10) #[true, true, true, true, true, true, false, false, false, false, false, false] #[true, true, true, true, true, false, false, false, false, true, false, false] rfl rfl rfl rfl (by kernel_rfl) (by decide) (by decide) (fun K_ hK => ?_) (fun K_ hK => ?_)
 ·refine gs_ Try.func108 #[.pointer (some ⟨K.2.1, 0, none⟩), .agg #[.bool b.leaf, .int .i64 b.ver, .slice ka2 b.keys.length kc2, .slice ra2 b.refs.length rc2]] ?_
  refine (Mt.Take HD3.out (n := b) ⟨ka2, kc2, ra2, rc2, rfl, HR1.out.2⟩).mono ?_
  rw [HE.out.2.2.2]
  rintro e9 wy1 ⟨er, rfl, hh⟩
  refine ⟨_, rfl, ?_⟩
  have HY1 := As (show Mt w0 wy1 K t2 on (A1 ++ R) (cb (g7 + 1) 59 #[.bool b.leaf, .int .i64 b.ver, .slice ka2 b.keys.length kc2, .slice ra2 b.refs.length rc2] :: cb (g7) 59 #[.bool a.leaf, .int .i64 a.ver, .slice ka1 a.keys.length kc1, .slice ra1 a.refs.length rc1] :: cb (w.heap.size + 1) 33 #[.int .i64 0, .int .i64 0] :: cb (w.heap.size) 33 #[.int .i64 r.1, .int .i64 r.2] :: L) from hh)
  clear hh
  refine hK.out _ _ (SP3.out _ _ _ _ HY1.out (by simp)) (fun hHeld => ?_)
  clear hK K_
  refine nm_ ?_
  refine pu_ 6 (some 28) ?_
  refine pu_ 7 (some 35) ?_
  refine pu_ 8 (some 36) ?_
  refine on_ 9 (some 10) fun K_ hK => ?_
  refine value_ (v := .pointer (some ⟨wy1.heap.size, 0, none⟩)) (w1 := wy1.alloc (.cells #[.int .i64 0, .int .i64 0] 33)) (by rfl) rfl ?_ ?_
  ·go_simp
  obtain ⟨wy2, hW, hvv⟩ : ∃ W, W = wy1.alloc (.cells #[.int .i64 0, .int .i64 0] 33) ∧ Mt w0 W K t2 on (A1 ++ R) (cb (wy1.heap.size) 33 #[.int .i64 0, .int .i64 0] :: cb (g7 + 1) 59 #[.bool b.leaf, .int .i64 b.ver, .slice ka2 b.keys.length kc2, .slice ra2 b.refs.length rc2] :: cb (g7) 59 #[.bool a.leaf, .int .i64 a.ver, .slice ka1 a.keys.length kc1, .slice ra1 a.refs.length rc1] :: cb (w.heap.size + 1) 33 #[.int .i64 0, .int .i64 0] :: cb (w.heap.size) 33 #[.int .i64 r.1, .int .i64 r.2] :: L) := ⟨_, rfl, HY1.out.alloc _⟩
  rw [← hW]
  have HY2 := As hvv
  clear hW hvv
  refine hK.out _ _ (SP3.out _ _ _ _ HY2.out (by simp)) (fun hHeld => ?_)
  clear hK K_
  refine nm_ ?_
  refine la_ 10 none fun K_ hK => ?_
  obtain ⟨b0, b1, d0, d1⟩ := HY2.out.other.c2 (wy1.heap.size) 33 (.int .i64 0) (.int .i64 0) List.mem_cons_self
  refine sk_ (hK.out _ _ ?_)
  clear hK K_ b0 b1 d0 d1
  obtain ⟨wy3, hW, hvv⟩ : ∃ W, W = _ ∧ Mt w0 W K t2 on (A1 ++ R) (cb (wy1.heap.size) 33 #[.int .i64 t1.tk.1, .int .i64 t1.tk.2] :: cb (g7 + 1) 59 #[.bool b.leaf, .int .i64 b.ver, .slice ka2 b.keys.length kc2, .slice ra2 b.refs.length rc2] :: cb (g7) 59 #[.bool a.leaf, .int .i64 a.ver, .slice ka1 a.keys.length kc1, .slice ra1 a.refs.length rc1] :: cb (w.heap.size + 1) 33 #[.int .i64 0, .int .i64 0] :: cb (w.heap.size) 33 #[.int .i64 r.1, .int .i64 r.2] :: L) := ⟨_, rfl, (Mt.putB0 (Mt.putB0 HY2.out 0 (.int .i64 t1.tk.1) rfl) 1 (.int .i64 t1.tk.2) rfl)⟩
  rw [← hW]
  have HY3 := As hvv
  clear hW hvv
  refine pu_ 11 (some 11) ?_
  refine done_ (by kernel_rfl) ?_
  clear SP3
  generalize wy1.heap.size = g10 at HY3 ⊢
  have H6 := As (show Mt w0 wy3 K t2 on (A1 ++ R) (cb (g10) 33 #[.int .i64 t1.tk.1, .int .i64 t1.tk.2] :: cb (g7 + 1) 59 #[.bool b.leaf, .int .i64 b.ver, .slice ka2 b.keys.length kc2, .slice ra2 b.refs.length rc2] :: cb (g7) 59 #[.bool a.leaf, .int .i64 a.ver, .slice ka1 a.keys.length kc1, .slice ra1 a.refs.length rc1] :: cb (w.heap.size + 1) 33 #[.int .i64 0, .int .i64 0] :: cb (w.heap.size) 33 #[.int .i64 r.1, .int .i64 r.2] :: L) from HY3.out)
  have UP := As (show ∀ (W : World) (L' : List Ob), Hv w0 W L' → (∀ x ∈ L, x ∈ L') → W.cell? ua = some (.int .i64 u.1) ∧ W.cell? { block := ua.block, off := ua.off + 1 } = some (.int .i64 u.2) from fun W L' h hL => by
   obtain ⟨a0, e1, hc⟩ := (HU.out.1 W L' h hL).2 (by omega)
   cases e1
   have h0 := hc 0 _ rfl
   have h1 := hc 1 _ rfl
   rw [Addr.add_zero'] at h0
   exact ⟨h0, h1⟩)
  obtain ⟨p, hp⟩ : ∃ p, t2.at u = p := ⟨_, rfl⟩
  have HPE := As hp
  have hop := HU.out.2
  rw [hp] at hop
  have HOP := As hop
  clear hop hp
  obtain ⟨z0, z1⟩ := UP.out _ _ H6.out.other (fun x hx => by simp [hx])
  go_upto_region 8 with (go_at_call 111; go_loud ((refine (at.calls H6.out u).mono ?_); rintro e7 w7 ⟨v, rfl, hnv, hh⟩; rw [HPE.out] at hnv; obtain ⟨ka3, kc3, ra3, rc3, ev, hr⟩ := hnv; have ev3 : v = .agg #[.bool p.leaf, .int .i64 p.ver, .slice ka3 p.keys.length kc3, .slice ra3 p.refs.length rc3] := ev; subst ev3; clear ev; have HPN := As hr; have H7 := As hh; clear hh hr z0 z1))
  obtain ⟨W8, hW, hM⟩ : ∃ W, W = w7.alloc (.cells #[.bool p.leaf, .int .i64 p.ver, .slice ka3 p.keys.length kc3, .slice ra3 p.refs.length rc3] 59) ∧ Mt w0 W K t2 on (A1 ++ R) (cb w7.heap.size 59 #[.bool p.leaf, .int .i64 p.ver, .slice ka3 p.keys.length kc3, .slice ra3 p.refs.length rc3] :: cb (g10) 33 #[.int .i64 t1.tk.1, .int .i64 t1.tk.2] :: cb (g7 + 1) 59 #[.bool b.leaf, .int .i64 b.ver, .slice ka2 b.keys.length kc2, .slice ra2 b.refs.length rc2] :: cb (g7) 59 #[.bool a.leaf, .int .i64 a.ver, .slice ka1 a.keys.length kc1, .slice ra1 a.refs.length rc1] :: cb (w.heap.size + 1) 33 #[.int .i64 0, .int .i64 0] :: cb (w.heap.size) 33 #[.int .i64 r.1, .int .i64 r.2] :: L) := ⟨_, rfl, H7.out.alloc _⟩
  rw [← hW]
  have HD8 := As hM.drew
  clear hW hM
  generalize w7.heap.size = g12 at HD8 ⊢
  have SP8 := As (show ∀ (w' : World) (t' : Tm) (R' L' : List Ob), Mt w0 w' K t' on R' L' → cb (w.heap.size) 33 #[.int .i64 r.1, .int .i64 r.2] ∈ L' → cb (g10) 33 #[.int .i64 t1.tk.1, .int .i64 t1.tk.2] ∈ L' → cb (g12) 59 #[.bool p.leaf, .int .i64 p.ver, .slice ka3 p.keys.length kc3, .slice ra3 p.refs.length rc3] ∈ L' → (∀ x ∈ L, x ∈ L') → (w'.cell? ⟨K.1, 0, none⟩ = some (.pointer (some ⟨K.2.1, 0, none⟩)) ∧ w'.cell? ⟨w.heap.size, 0, none⟩ = some (.int .i64 r.1) ∧ w'.cell? ⟨w.heap.size, 1, none⟩ = some (.int .i64 r.2) ∧ w'.cell? ⟨g10, 0, none⟩ = some (.int .i64 t1.tk.1) ∧ w'.cell? ⟨g10, 1, none⟩ = some (.int .i64 t1.tk.2) ∧ w'.cell? ⟨g12, 0, none⟩ = some (.bool p.leaf) ∧ w'.cell? ⟨g12, 1, none⟩ = some (.int .i64 p.ver) ∧ w'.cell? ⟨g12, 2, none⟩ = some (.slice ka3 p.keys.length kc3) ∧ w'.cell? ⟨g12, 3, none⟩ = some (.slice ra3 p.refs.length rc3) ∧ w'.cell? ua = some (.int .i64 u.1) ∧ w'.cell? { block := ua.block, off := ua.off + 1 } = some (.int .i64 u.2)) from fun w' t' R' L' h m0 m1 m2 hL => by
   obtain ⟨c0, -, -, -, -, -, -⟩ := h.cells
   obtain ⟨t4_0, t4_1, -, -⟩ := h.other.c2 _ _ _ _ m0
   obtain ⟨t10_0, t10_1, -, -⟩ := h.other.c2 _ _ _ _ m1
   obtain ⟨t12_0, t12_1, t12_2, t12_3, -, -, -, -⟩ := h.other.c4 _ _ _ _ _ _ m2
   obtain ⟨z0, z1⟩ := UP.out _ _ h.other hL
   exact ⟨c0, t4_0, t4_1, t10_0, t10_1, t12_0, t12_1, t12_2, t12_3, z0, z1⟩)
  refine start_ (n := 16) (S := fun w' => w'.cell? ⟨K.1, 0, none⟩ = some (.pointer (some ⟨K.2.1, 0, none⟩)) ∧ w'.cell? ⟨w.heap.size, 0, none⟩ = some (.int .i64 r.1) ∧ w'.cell? ⟨w.heap.size, 1, none⟩ = some (.int .i64 r.2) ∧ w'.cell? ⟨g10, 0, none⟩ = some (.int .i64 t1.tk.1) ∧ w'.cell? ⟨g10, 1, none⟩ = some (.int .i64 t1.tk.2) ∧ w'.cell? ⟨g12, 0, none⟩ = some (.bool p.leaf) ∧ w'.cell? ⟨g12, 1, none⟩ = some (.int .i64 p.ver) ∧ w'.cell? ⟨g12, 2, none⟩ = some (.slice ka3 p.keys.length kc3) ∧ w'.cell? ⟨g12, 3, none⟩ = some (.slice ra3 p.refs.length rc3) ∧ w'.cell? ua = some (.int .i64 u.1) ∧ w'.cell? { block := ua.block, off := ua.off + 1 } = some (.int .i64 u.2)) (ds := []) #[false, false, false, false, false, false, false, false, false, false, false, false, false, false, false, false] (by kernel_rfl) rfl rfl (SP8.out _ _ _ _ HD8.out (by simp) (by simp) (by simp) (fun x hx => by simp [hx])) (fun hHeld => ?_)
  generalize W8.drew = wx8 at HD8 hHeld ⊢
  refine pu_ 0 (some 62) ?_
  refine pu_ 1 (some 63) ?_
  refine pu_ 2 (some 64) ?_
  refine pu_ 4 (some 66) ?_
  refine pu_ 5 (some 67) ?_
  refine pu_ 8 (some 70) ?_
  refine pu_ 12 (some 74) ?_
  refine ta_ 3 (some 65) hHeld ?_ (hy := Or.inl ⟨by rfl, by rintro w' ⟨s0, s1, s2, s3, s4, s5, s6, s7, s8, s9, s10⟩; go_simp; with_reducible rfl⟩)
  refine ta_ 6 (some 68) hHeld ?_ (hy := Or.inl ⟨by rfl, by rintro w' ⟨s0, s1, s2, s3, s4, s5, s6, s7, s8, s9, s10⟩; go_simp; with_reducible rfl⟩)
  refine ta_ 7 (some 69) hHeld ?_ (hy := Or.inl ⟨by rfl, by rintro w' ⟨s0, s1, s2, s3, s4, s5, s6, s7, s8, s9, s10⟩; go_simp; with_reducible rfl⟩)
  refine ta_ 9 (some 71) hHeld ?_ (hy := Or.inl ⟨by rfl, by rintro w' ⟨s0, s1, s2, s3, s4, s5, s6, s7, s8, s9, s10⟩; go_simp; with_reducible rfl⟩)
  refine ta_ 10 (some 72) hHeld ?_ (hy := Or.inl ⟨by rfl, by rintro w' ⟨s0, s1, s2, s3, s4, s5, s6, s7, s8, s9, s10⟩; go_simp; with_reducible rfl⟩)
  refine ta_ 13 (some 75) hHeld ?_ (hy := Or.inl ⟨by rfl, by rintro w' ⟨s0, s1, s2, s3, s4, s5, s6, s7, s8, s9, s10⟩; go_simp; with_reducible rfl⟩)
  refine on_ 11 (some 73) fun K_ hK => ?_
  refine gs_ Try.func113 #[.slice ra3 p.refs.length rc3, .agg #[.int .i64 r.1, .int .i64 r.2]] ?_
  obtain ⟨Lf, hL, hRf, hLf, back⟩ := HD8.out.lens
  refine (index.calls (w0 := w0) hL p.refs HOP.out.r (HPN.out.r.mono hRf) r).mono ?_
  rintro e9 wi ⟨rfl, hh⟩
  refine ⟨_, rfl, ?_⟩
  have HI := As (show Mt w0 wi K t2 on (A1 ++ R) (cb (g12) 59 #[.bool p.leaf, .int .i64 p.ver, .slice ka3 p.keys.length kc3, .slice ra3 p.refs.length rc3] :: cb (g10) 33 #[.int .i64 t1.tk.1, .int .i64 t1.tk.2] :: cb (g7 + 1) 59 #[.bool b.leaf, .int .i64 b.ver, .slice ka2 b.keys.length kc2, .slice ra2 b.refs.length rc2] :: cb (g7) 59 #[.bool a.leaf, .int .i64 a.ver, .slice ka1 a.keys.length kc1, .slice ra1 a.refs.length rc1] :: cb (w.heap.size + 1) 33 #[.int .i64 0, .int .i64 0] :: cb (w.heap.size) 33 #[.int .i64 r.1, .int .i64 r.2] :: L) from back wi [] hh)
  clear hh hL hRf hLf back
  refine hK.out _ _ (SP8.out _ _ _ _ HI.out (by simp) (by simp) (by simp) (fun x hx => by simp [hx])) (fun hHeld => ?_)
  clear hK K_
  refine nm_ ?_
  refine on_ 14 (some 76) fun K_ hK => ?_
  refine gs_ Try.func47 #[.agg #[.bool p.leaf, .int .i64 p.ver, .slice ka3 p.keys.length kc3, .slice ra3 p.refs.length rc3], .int .i64 (idx r p.refs), .string mid, .agg #[.int .i64 t1.tk.1, .int .i64 t1.tk.2]] ?_
  obtain ⟨Lf, hL, hRf, hLf, back⟩ := HI.out.lens
  refine (Nd.insertS.calls (w0 := w0) (R := A1 ++ R) hL hRf ⟨ka3, kc3, ra3, rc3, rfl, HPN.out⟩ HOP.out (idx r p.refs) mid t1.tk).mono ?_
  rintro e9 wj ⟨vj, A2, rfl, hj, hh⟩
  refine ⟨_, rfl, ?_⟩
  have HJN := As hj
  have HJ := As (show Mt w0 wj K t2 on (A2 ++ (A1 ++ R)) (cb (g12) 59 #[.bool p.leaf, .int .i64 p.ver, .slice ka3 p.keys.length kc3, .slice ra3 p.refs.length rc3] :: cb (g10) 33 #[.int .i64 t1.tk.1, .int .i64 t1.tk.2] :: cb (g7 + 1) 59 #[.bool b.leaf, .int .i64 b.ver, .slice ka2 b.keys.length kc2, .slice ra2 b.refs.length rc2] :: cb (g7) 59 #[.bool a.leaf, .int .i64 a.ver, .slice ka1 a.keys.length kc1, .slice ra1 a.refs.length rc1] :: cb (w.heap.size + 1) 33 #[.int .i64 0, .int .i64 0] :: cb (w.heap.size) 33 #[.int .i64 r.1, .int .i64 r.2] :: L) from back wj A2 hh)
  clear hh hj hL hRf hLf back
  refine hK.out _ _ (SP8.out _ _ _ _ HJ.out (by simp) (by simp) (by simp) (fun x hx => by simp [hx])) (fun hHeld => ?_)
  clear hK K_
  refine nm_ ?_
  refine on_ 15 (some 77) fun K_ hK => ?_
  refine gs_ Try.func112 #[.pointer (some ⟨K.2.1, 0, none⟩), .agg #[.int .i64 u.1, .int .i64 u.2], vj] ?_
  refine (Mt.set HJ.out u HJN.out).mono ?_
  rintro e9 wk ⟨rfl, hh⟩
  refine ⟨_, rfl, ?_⟩
  have HK := As hh
  clear hh
  refine hK.out _ _ (SP8.out _ _ _ _ HK.out (by simp) (by simp) (by simp) (fun x hx => by simp [hx])) (fun hHeld => ?_)
  clear hK K_
  refine nm_ ?_
  refine done_ (by kernel_rfl) ?_
  obtain ⟨t10_0, t10_1, t10_f0, t10_f1⟩ := HK.out.other.c2 (g10) 33 (.int .i64 t1.tk.1) (.int .i64 t1.tk.2) (by simp)
  obtain ⟨t6_0, t6_1, t6_f0, t6_f1⟩ := HK.out.other.c2 (w.heap.size + 1) 33 (.int .i64 0) (.int .i64 0) (by simp)
  go_wp2_with fail
  obtain ⟨wg, hw, hg⟩ : ∃ wg, wg = _ ∧ Mt w0 wg K (t2.set u (p.insert (idx r p.refs) mid t1.tk)) on (A2 ++ (A1 ++ R)) (cb (g12) 59 #[.bool p.leaf, .int .i64 p.ver, .slice ka3 p.keys.length kc3, .slice ra3 p.refs.length rc3] :: cb (g10) 33 #[.int .i64 t1.tk.1, .int .i64 t1.tk.2] :: cb (g7 + 1) 59 #[.bool b.leaf, .int .i64 b.ver, .slice ka2 b.keys.length kc2, .slice ra2 b.refs.length rc2] :: cb (g7) 59 #[.bool a.leaf, .int .i64 a.ver, .slice ka1 a.keys.length kc1, .slice ra1 a.refs.length rc1] :: cb (w.heap.size + 1) 33 #[.int .i64 t1.tk.1, .int .i64 t1.tk.2] :: cb (w.heap.size) 33 #[.int .i64 r.1, .int .i64 r.2] :: L) := ⟨_, rfl, (Mt.put (X := [_, _, _, _]) (Mt.put (X := [_, _, _, _]) HK.out 0 (.int .i64 t1.tk.1) rfl) 1 (.int .i64 t1.tk.2) rfl)⟩
  rw [← hw]
  obtain ⟨e0, e1, -, -⟩ := hg.other.c2 (w.heap.size + 1) 33 (.int .i64 t1.tk.1) (.int .i64 t1.tk.2) (by simp)
  have hF : t.split r (some u) = (t2.set u (p.insert (idx r p.refs) mid t1.tk), t1.tk) := by unfold Tm.split; rw [HE.out.1, HE.out.2.1]; simp only []; rw [HE.out.2.2.1, HE.out.2.2.2, HPE.out]
  exact bodyPost_ret (v := .agg #[.int .i64 t1.tk.1, .int .i64 t1.tk.2]) (by simp [results, Try.results120, go_sem, e0, e1, hu33]) rfl ⟨by rw [hF], A2 ++ A1, by rw [hF, List.append_assoc]; exact hg.tail.tail.tail.tail.tail.tail⟩
 ·refine value_ (v := .pointer (some ⟨wx3.heap.size, 0, none⟩)) (w1 := wx3.alloc (.cells #[.int .i64 0, .int .i64 0] 33)) (by rfl) rfl ?_ ?_
  ·go_simp
  obtain ⟨wy1, hW, hvv⟩ : ∃ W, W = wx3.alloc (.cells #[.int .i64 0, .int .i64 0] 33) ∧ Mt w0 W K t1 on (A1 ++ R) (cb (wx3.heap.size) 33 #[.int .i64 0, .int .i64 0] :: cb (g7 + 1) 59 #[.bool b.leaf, .int .i64 b.ver, .slice ka2 b.keys.length kc2, .slice ra2 b.refs.length rc2] :: cb (g7) 59 #[.bool a.leaf, .int .i64 a.ver, .slice ka1 a.keys.length kc1, .slice ra1 a.refs.length rc1] :: cb (w.heap.size + 1) 33 #[.int .i64 0, .int .i64 0] :: cb (w.heap.size) 33 #[.int .i64 r.1, .int .i64 r.2] :: L) := ⟨_, rfl, HD3.out.alloc _⟩
  rw [← hW]
  have HY1 := As hvv
  clear hW hvv
  refine hK.out _ _ (SP3.out _ _ _ _ HY1.out (by simp)) (fun hHeld => ?_)
  clear hK K_
  refine nm_ ?_
  refine on_ 5 (some 34) fun K_ hK => ?_
  refine gs_ Try.func108 #[.pointer (some ⟨K.2.1, 0, none⟩), .agg #[.bool b.leaf, .int .i64 b.ver, .slice ka2 b.keys.length kc2, .slice ra2 b.refs.length rc2]] ?_
  refine (Mt.Take HY1.out (n := b) ⟨ka2, kc2, ra2, rc2, rfl, HR1.out.2⟩).mono ?_
  rw [HE.out.2.2.2]
  rintro e9 wy2 ⟨er, rfl, hh⟩
  refine ⟨_, rfl, ?_⟩
  have HY2 := As (show Mt w0 wy2 K t2 on (A1 ++ R) (cb (wx3.heap.size) 33 #[.int .i64 0, .int .i64 0] :: cb (g7 + 1) 59 #[.bool b.leaf, .int .i64 b.ver, .slice ka2 b.keys.length kc2, .slice ra2 b.refs.length rc2] :: cb (g7) 59 #[.bool a.leaf, .int .i64 a.ver, .slice ka1 a.keys.length kc1, .slice ra1 a.refs.length rc1] :: cb (w.heap.size + 1) 33 #[.int .i64 0, .int .i64 0] :: cb (w.heap.size) 33 #[.int .i64 r.1, .int .i64 r.2] :: L) from hh)
  clear hh
  refine hK.out _ _ (SP3.out _ _ _ _ HY2.out (by simp)) (fun hHeld => ?_)
  clear hK K_
  refine nm_ ?_
  refine pu_ 6 (some 28) ?_
  refine pu_ 7 (some 35) ?_
  refine pu_ 8 (some 36) ?_
  refine la_ 10 none fun K_ hK => ?_
  obtain ⟨b0, b1, d0, d1⟩ := HY2.out.other.c2 (wx3.heap.size) 33 (.int .i64 0) (.int .i64 0) List.mem_cons_self
  refine sk_ (hK.out _ _ ?_)
  clear hK K_ b0 b1 d0 d1
  obtain ⟨wy3, hW, hvv⟩ : ∃ W, W = _ ∧ Mt w0 W K t2 on (A1 ++ R) (cb (wx3.heap.size) 33 #[.int .i64 t1.tk.1, .int .i64 t1.tk.2] :: cb (g7 + 1) 59 #[.bool b.leaf, .int .i64 b.ver, .slice ka2 b.keys.length kc2, .slice ra2 b.refs.length rc2] :: cb (g7) 59 #[.bool a.leaf, .int .i64 a.ver, .slice ka1 a.keys.length kc1, .slice ra1 a.refs.length rc1] :: cb (w.heap.size + 1) 33 #[.int .i64 0, .int .i64 0] :: cb (w.heap.size) 33 #[.int .i64 r.1, .int .i64 r.2] :: L) := ⟨_, rfl, (Mt.putB0 (Mt.putB0 HY2.out 0 (.int .i64 t1.tk.1) rfl) 1 (.int .i64 t1.tk.2) rfl)⟩
  rw [← hW]
  have HY3 := As hvv
  clear hW hvv
  refine pu_ 11 (some 11) ?_
  refine done_ (by kernel_rfl) ?_
  clear SP3
  generalize wx3.heap.size = g10 at HY3 ⊢
  have H6 := As (show Mt w0 wy3 K t2 on (A1 ++ R) (cb (g10) 33 #[.int .i64 t1.tk.1, .int .i64 t1.tk.2] :: cb (g7 + 1) 59 #[.bool b.leaf, .int .i64 b.ver, .slice ka2 b.keys.length kc2, .slice ra2 b.refs.length rc2] :: cb (g7) 59 #[.bool a.leaf, .int .i64 a.ver, .slice ka1 a.keys.length kc1, .slice ra1 a.refs.length rc1] :: cb (w.heap.size + 1) 33 #[.int .i64 0, .int .i64 0] :: cb (w.heap.size) 33 #[.int .i64 r.1, .int .i64 r.2] :: L) from HY3.out)
  have UP := As (show ∀ (W : World) (L' : List Ob), Hv w0 W L' → (∀ x ∈ L, x ∈ L') → W.cell? ua = some (.int .i64 u.1) ∧ W.cell? { block := ua.block, off := ua.off + 1 } = some (.int .i64 u.2) from fun W L' h hL => by
   obtain ⟨a0, e1, hc⟩ := (HU.out.1 W L' h hL).2 (by omega)
   cases e1
   have h0 := hc 0 _ rfl
   have h1 := hc 1 _ rfl
   rw [Addr.add_zero'] at h0
   exact ⟨h0, h1⟩)
  obtain ⟨p, hp⟩ : ∃ p, t2.at u = p := ⟨_, rfl⟩
  have HPE := As hp
  have hop := HU.out.2
  rw [hp] at hop
  have HOP := As hop
  clear hop hp
  obtain ⟨z0, z1⟩ := UP.out _ _ H6.out.other (fun x hx => by simp [hx])
  go_upto_region 8 with (go_at_call 111; go_loud ((refine (at.calls H6.out u).mono ?_); rintro e7 w7 ⟨v, rfl, hnv, hh⟩; rw [HPE.out] at hnv; obtain ⟨ka3, kc3, ra3, rc3, ev, hr⟩ := hnv; have ev3 : v = .agg #[.bool p.leaf, .int .i64 p.ver, .slice ka3 p.keys.length kc3, .slice ra3 p.refs.length rc3] := ev; subst ev3; clear ev; have HPN := As hr; have H7 := As hh; clear hh hr z0 z1))
  obtain ⟨W8, hW, hM⟩ : ∃ W, W = w7.alloc (.cells #[.bool p.leaf, .int .i64 p.ver, .slice ka3 p.keys.length kc3, .slice ra3 p.refs.length rc3] 59) ∧ Mt w0 W K t2 on (A1 ++ R) (cb w7.heap.size 59 #[.bool p.leaf, .int .i64 p.ver, .slice ka3 p.keys.length kc3, .slice ra3 p.refs.length rc3] :: cb (g10) 33 #[.int .i64 t1.tk.1, .int .i64 t1.tk.2] :: cb (g7 + 1) 59 #[.bool b.leaf, .int .i64 b.ver, .slice ka2 b.keys.length kc2, .slice ra2 b.refs.length rc2] :: cb (g7) 59 #[.bool a.leaf, .int .i64 a.ver, .slice ka1 a.keys.length kc1, .slice ra1 a.refs.length rc1] :: cb (w.heap.size + 1) 33 #[.int .i64 0, .int .i64 0] :: cb (w.heap.size) 33 #[.int .i64 r.1, .int .i64 r.2] :: L) := ⟨_, rfl, H7.out.alloc _⟩
  rw [← hW]
  have HD8 := As hM.drew
  clear hW hM
  generalize w7.heap.size = g12 at HD8 ⊢
  have SP8 := As (show ∀ (w' : World) (t' : Tm) (R' L' : List Ob), Mt w0 w' K t' on R' L' → cb (w.heap.size) 33 #[.int .i64 r.1, .int .i64 r.2] ∈ L' → cb (g10) 33 #[.int .i64 t1.tk.1, .int .i64 t1.tk.2] ∈ L' → cb (g12) 59 #[.bool p.leaf, .int .i64 p.ver, .slice ka3 p.keys.length kc3, .slice ra3 p.refs.length rc3] ∈ L' → (∀ x ∈ L, x ∈ L') → (w'.cell? ⟨K.1, 0, none⟩ = some (.pointer (some ⟨K.2.1, 0, none⟩)) ∧ w'.cell? ⟨w.heap.size, 0, none⟩ = some (.int .i64 r.1) ∧ w'.cell? ⟨w.heap.size, 1, none⟩ = some (.int .i64 r.2) ∧ w'.cell? ⟨g10, 0, none⟩ = some (.int .i64 t1.tk.1) ∧ w'.cell? ⟨g10, 1, none⟩ = some (.int .i64 t1.tk.2) ∧ w'.cell? ⟨g12, 0, none⟩ = some (.bool p.leaf) ∧ w'.cell? ⟨g12, 1, none⟩ = some (.int .i64 p.ver) ∧ w'.cell? ⟨g12, 2, none⟩ = some (.slice ka3 p.keys.length kc3) ∧ w'.cell? ⟨g12, 3, none⟩ = some (.slice ra3 p.refs.length rc3) ∧ w'.cell? ua = some (.int .i64 u.1) ∧ w'.cell? { block := ua.block, off := ua.off + 1 } = some (.int .i64 u.2)) from fun w' t' R' L' h m0 m1 m2 hL => by
   obtain ⟨c0, -, -, -, -, -, -⟩ := h.cells
   obtain ⟨t4_0, t4_1, -, -⟩ := h.other.c2 _ _ _ _ m0
   obtain ⟨t10_0, t10_1, -, -⟩ := h.other.c2 _ _ _ _ m1
   obtain ⟨t12_0, t12_1, t12_2, t12_3, -, -, -, -⟩ := h.other.c4 _ _ _ _ _ _ m2
   obtain ⟨z0, z1⟩ := UP.out _ _ h.other hL
   exact ⟨c0, t4_0, t4_1, t10_0, t10_1, t12_0, t12_1, t12_2, t12_3, z0, z1⟩)
  refine start_ (n := 16) (S := fun w' => w'.cell? ⟨K.1, 0, none⟩ = some (.pointer (some ⟨K.2.1, 0, none⟩)) ∧ w'.cell? ⟨w.heap.size, 0, none⟩ = some (.int .i64 r.1) ∧ w'.cell? ⟨w.heap.size, 1, none⟩ = some (.int .i64 r.2) ∧ w'.cell? ⟨g10, 0, none⟩ = some (.int .i64 t1.tk.1) ∧ w'.cell? ⟨g10, 1, none⟩ = some (.int .i64 t1.tk.2) ∧ w'.cell? ⟨g12, 0, none⟩ = some (.bool p.leaf) ∧ w'.cell? ⟨g12, 1, none⟩ = some (.int .i64 p.ver) ∧ w'.cell? ⟨g12, 2, none⟩ = some (.slice ka3 p.keys.length kc3) ∧ w'.cell? ⟨g12, 3, none⟩ = some (.slice ra3 p.refs.length rc3) ∧ w'.cell? ua = some (.int .i64 u.1) ∧ w'.cell? { block := ua.block, off := ua.off + 1 } = some (.int .i64 u.2)) (ds := []) #[false, false, false, false, false, false, false, false, false, false, false, false, false, false, false, false] (by kernel_rfl) rfl rfl (SP8.out _ _ _ _ HD8.out (by simp) (by simp) (by simp) (fun x hx => by simp [hx])) (fun hHeld => ?_)
  generalize W8.drew = wx8 at HD8 hHeld ⊢
  refine pu_ 0 (some 62) ?_
  refine pu_ 1 (some 63) ?_
  refine pu_ 2 (some 64) ?_
  refine pu_ 4 (some 66) ?_
  refine pu_ 5 (some 67) ?_
  refine pu_ 8 (some 70) ?_
  refine pu_ 12 (some 74) ?_
  refine ta_ 3 (some 65) hHeld ?_ (hy := Or.inl ⟨by rfl, by rintro w' ⟨s0, s1, s2, s3, s4, s5, s6, s7, s8, s9, s10⟩; go_simp; with_reducible rfl⟩)
  refine ta_ 6 (some 68) hHeld ?_ (hy := Or.inl ⟨by rfl, by rintro w' ⟨s0, s1, s2, s3, s4, s5, s6, s7, s8, s9, s10⟩; go_simp; with_reducible rfl⟩)
  refine ta_ 7 (some 69) hHeld ?_ (hy := Or.inl ⟨by rfl, by rintro w' ⟨s0, s1, s2, s3, s4, s5, s6, s7, s8, s9, s10⟩; go_simp; with_reducible rfl⟩)
  refine ta_ 9 (some 71) hHeld ?_ (hy := Or.inl ⟨by rfl, by rintro w' ⟨s0, s1, s2, s3, s4, s5, s6, s7, s8, s9, s10⟩; go_simp; with_reducible rfl⟩)
  refine ta_ 10 (some 72) hHeld ?_ (hy := Or.inl ⟨by rfl, by rintro w' ⟨s0, s1, s2, s3, s4, s5, s6, s7, s8, s9, s10⟩; go_simp; with_reducible rfl⟩)
  refine ta_ 13 (some 75) hHeld ?_ (hy := Or.inl ⟨by rfl, by rintro w' ⟨s0, s1, s2, s3, s4, s5, s6, s7, s8, s9, s10⟩; go_simp; with_reducible rfl⟩)
  refine on_ 11 (some 73) fun K_ hK => ?_
  refine gs_ Try.func113 #[.slice ra3 p.refs.length rc3, .agg #[.int .i64 r.1, .int .i64 r.2]] ?_
  obtain ⟨Lf, hL, hRf, hLf, back⟩ := HD8.out.lens
  refine (index.calls (w0 := w0) hL p.refs HOP.out.r (HPN.out.r.mono hRf) r).mono ?_
  rintro e9 wi ⟨rfl, hh⟩
  refine ⟨_, rfl, ?_⟩
  have HI := As (show Mt w0 wi K t2 on (A1 ++ R) (cb (g12) 59 #[.bool p.leaf, .int .i64 p.ver, .slice ka3 p.keys.length kc3, .slice ra3 p.refs.length rc3] :: cb (g10) 33 #[.int .i64 t1.tk.1, .int .i64 t1.tk.2] :: cb (g7 + 1) 59 #[.bool b.leaf, .int .i64 b.ver, .slice ka2 b.keys.length kc2, .slice ra2 b.refs.length rc2] :: cb (g7) 59 #[.bool a.leaf, .int .i64 a.ver, .slice ka1 a.keys.length kc1, .slice ra1 a.refs.length rc1] :: cb (w.heap.size + 1) 33 #[.int .i64 0, .int .i64 0] :: cb (w.heap.size) 33 #[.int .i64 r.1, .int .i64 r.2] :: L) from back wi [] hh)
  clear hh hL hRf hLf back
  refine hK.out _ _ (SP8.out _ _ _ _ HI.out (by simp) (by simp) (by simp) (fun x hx => by simp [hx])) (fun hHeld => ?_)
  clear hK K_
  refine nm_ ?_
  refine on_ 14 (some 76) fun K_ hK => ?_
  refine gs_ Try.func47 #[.agg #[.bool p.leaf, .int .i64 p.ver, .slice ka3 p.keys.length kc3, .slice ra3 p.refs.length rc3], .int .i64 (idx r p.refs), .string mid, .agg #[.int .i64 t1.tk.1, .int .i64 t1.tk.2]] ?_
  obtain ⟨Lf, hL, hRf, hLf, back⟩ := HI.out.lens
  refine (Nd.insertS.calls (w0 := w0) (R := A1 ++ R) hL hRf ⟨ka3, kc3, ra3, rc3, rfl, HPN.out⟩ HOP.out (idx r p.refs) mid t1.tk).mono ?_
  rintro e9 wj ⟨vj, A2, rfl, hj, hh⟩
  refine ⟨_, rfl, ?_⟩
  have HJN := As hj
  have HJ := As (show Mt w0 wj K t2 on (A2 ++ (A1 ++ R)) (cb (g12) 59 #[.bool p.leaf, .int .i64 p.ver, .slice ka3 p.keys.length kc3, .slice ra3 p.refs.length rc3] :: cb (g10) 33 #[.int .i64 t1.tk.1, .int .i64 t1.tk.2] :: cb (g7 + 1) 59 #[.bool b.leaf, .int .i64 b.ver, .slice ka2 b.keys.length kc2, .slice ra2 b.refs.length rc2] :: cb (g7) 59 #[.bool a.leaf, .int .i64 a.ver, .slice ka1 a.keys.length kc1, .slice ra1 a.refs.length rc1] :: cb (w.heap.size + 1) 33 #[.int .i64 0, .int .i64 0] :: cb (w.heap.size) 33 #[.int .i64 r.1, .int .i64 r.2] :: L) from back wj A2 hh)
  clear hh hj hL hRf hLf back
  refine hK.out _ _ (SP8.out _ _ _ _ HJ.out (by simp) (by simp) (by simp) (fun x hx => by simp [hx])) (fun hHeld => ?_)
  clear hK K_
  refine nm_ ?_
  refine on_ 15 (some 77) fun K_ hK => ?_
  refine gs_ Try.func112 #[.pointer (some ⟨K.2.1, 0, none⟩), .agg #[.int .i64 u.1, .int .i64 u.2], vj] ?_
  refine (Mt.set HJ.out u HJN.out).mono ?_
  rintro e9 wk ⟨rfl, hh⟩
  refine ⟨_, rfl, ?_⟩
  have HK := As hh
  clear hh
  refine hK.out _ _ (SP8.out _ _ _ _ HK.out (by simp) (by simp) (by simp) (fun x hx => by simp [hx])) (fun hHeld => ?_)
  clear hK K_
  refine nm_ ?_
  refine done_ (by kernel_rfl) ?_
  obtain ⟨t10_0, t10_1, t10_f0, t10_f1⟩ := HK.out.other.c2 (g10) 33 (.int .i64 t1.tk.1) (.int .i64 t1.tk.2) (by simp)
  obtain ⟨t6_0, t6_1, t6_f0, t6_f1⟩ := HK.out.other.c2 (w.heap.size + 1) 33 (.int .i64 0) (.int .i64 0) (by simp)
  go_wp2_with fail
  obtain ⟨wg, hw, hg⟩ : ∃ wg, wg = _ ∧ Mt w0 wg K (t2.set u (p.insert (idx r p.refs) mid t1.tk)) on (A2 ++ (A1 ++ R)) (cb (g12) 59 #[.bool p.leaf, .int .i64 p.ver, .slice ka3 p.keys.length kc3, .slice ra3 p.refs.length rc3] :: cb (g10) 33 #[.int .i64 t1.tk.1, .int .i64 t1.tk.2] :: cb (g7 + 1) 59 #[.bool b.leaf, .int .i64 b.ver, .slice ka2 b.keys.length kc2, .slice ra2 b.refs.length rc2] :: cb (g7) 59 #[.bool a.leaf, .int .i64 a.ver, .slice ka1 a.keys.length kc1, .slice ra1 a.refs.length rc1] :: cb (w.heap.size + 1) 33 #[.int .i64 t1.tk.1, .int .i64 t1.tk.2] :: cb (w.heap.size) 33 #[.int .i64 r.1, .int .i64 r.2] :: L) := ⟨_, rfl, (Mt.put (X := [_, _, _, _]) (Mt.put (X := [_, _, _, _]) HK.out 0 (.int .i64 t1.tk.1) rfl) 1 (.int .i64 t1.tk.2) rfl)⟩
  rw [← hw]
  obtain ⟨e0, e1, -, -⟩ := hg.other.c2 (w.heap.size + 1) 33 (.int .i64 t1.tk.1) (.int .i64 t1.tk.2) (by simp)
  have hF : t.split r (some u) = (t2.set u (p.insert (idx r p.refs) mid t1.tk), t1.tk) := by unfold Tm.split; rw [HE.out.1, HE.out.2.1]; simp only []; rw [HE.out.2.2.1, HE.out.2.2.2, HPE.out]
  exact bodyPost_ret (v := .agg #[.int .i64 t1.tk.1, .int .i64 t1.tk.2]) (by simp [results, Try.results120, go_sem, e0, e1, hu33]) rfl ⟨by rw [hF], A2 ++ A1, by rw [hF, List.append_assoc]; exact hg.tail.tail.tail.tail.tail.tail⟩
end
section
variable {w0 w w1 : World} {L L' R : List Ob} {K : Nat × Nat × Nat} {t : Tm} {on : Value}
def Tm.new0 (m : Nat) : Tm := ⟨Ar.new m [], List.replicate m nd0, (0, 0), []⟩
def Tm.new (m : Nat) : Tm := { (Tm.new0 m).take ⟨true, 1, [], []⟩ with root := (Tm.new0 m).tk }
theorem Mt.new0 {g sb m : Nat} (h : Arn w0 w g sb (Ar.new m [.bool false, .int .i64 0, .slice none 0 0, .slice none 0 0]) L) :
  Mt w0 (w.alloc (.cells #[.pointer (some ⟨g, 0, none⟩), .int .i64 0, .int .i64 0, .slice none 0 0, .nilFunc] 160)) (w.heap.size, g, sb) (Tm.new0 m) .nilFunc [] L := by
 refine ⟨_, .slice none 0 0, [], ?_, h.alloc _, Gr.nil 33 2, ?_, ?_⟩
 ·simp [bare, Ar.new, Tm.new0, bareS]
 ·simp [Tm.new0, Ar.new, Ar.n]
 ·intro i n hn
  simp only [Tm.new0, List.getElem?_replicate] at hn
  split at hn
  ·rename_i hi
   cases hn
   refine ⟨none, 0, none, 0, ?_, ⟨Rdy.nil _ _, Rdy.nil _ _, Nat.le_refl _, Nat.le_refl _⟩⟩
   simp [Ar.new, Ar.slot, hi, slv, nd0]
  ·cases hn
theorem newOk.calls (hv : Hv w0 w L) (n : Int) (h1 : 1 ≤ n) (h2 : n ≤ 1024) : Calls Try.prog 58 #[.int .i64 n] w fun e w' => ∃ K, e = .returned (.tuple #[.pointer (some ⟨K.1, 0, none⟩), .int .i64 0]) ∧ Mt w0 w' K (Tm.new n.toNat) .nilFunc [] L := by
 have hu160 := Try.underlying160
 have hu59 := Try.underlying59
 have hu33 := Try.underlying33
 have HV := As hv
 have hmany : many n = n.toNat := by unfold many; rw [if_neg (by omega)]
 have HMN := As hmany
 have d1 : ¬ (n < 1) := by omega
 have d2 : ¬ (n > 1024) := by omega
 clear hv hmany h1 h2
 go_enter Try.func58, Try.ntmps58
 go_upto_region 4 with (go_at_call 107; go_loud ((refine (ArN.New HV.out n).mono ?_); rintro e1 w1 ⟨g, sb, rfl, hh⟩; rw [HMN.out] at hh; have HA := As hh; clear hh))
 obtain ⟨W2, hW, hM⟩ : ∃ W, W = _ ∧ Mt w0 W (w1.heap.size, g, sb) (Tm.new0 n.toNat) .nilFunc [] L := ⟨_, rfl, Mt.new0 HA.out⟩
 rw [← hW]
 have HM := As hM
 clear hW hM
 generalize w1.heap.size = tg at HM ⊢
 obtain ⟨c0, c1, c2, -, cf1, cf2, -⟩ := HM.out.cells
 simp only [] at c0 c1 c2 cf1 cf2
 go_wp2_with (go_at_call 108; go_loud ((refine (Mt.Take HM.out (n := ⟨true, 1, [], []⟩) ⟨none, 0, none, 0, rfl, ⟨Rdy.nil _ _, Rdy.nil _ _, Nat.le_refl _, Nat.le_refl _⟩⟩).mono ?_); rintro e3 w3 ⟨er, rfl, hh⟩; have HT := As hh; clear hh c0 c1 c2 cf1 cf2; obtain ⟨c0, c1, c2, -, cf1, cf2, -⟩ := HT.out.cells; simp only [] at c0 c1 c2 cf1 cf2))
 exact bodyPost_ret (v := .tuple #[.pointer (some ⟨tg, 0, none⟩), .int .i64 0]) (by simp [results, Try.results58, go_sem]) rfl ⟨(tg, g, sb), rfl, HT.out.setRoot (Tm.new0 n.toNat).tk⟩
end
section
variable {w0 w w1 : World} {L L' R : List Ob} {K : Nat × Nat × Nat} {t : Tm} {on : Value}
end
section
variable {w0 w w1 : World} {L L' R : List Ob} {K : Nat × Nat × Nat} {t : Tm} {on : Value}
theorem nodes.calls (h : Mt w0 w K t on R L) (hg : t.gone.length ≤ 1000000) : Calls Try.prog 68 #[.pointer (some ⟨K.1, 0, none⟩)] w fun e w' => e = .returned (.tuple #[.int .i64 ((t.p.held : Int) - (t.gone.length : Int)), .int .i64 (t.gone.length : Int)]) ∧ Mt w0 w' K t on R L := by
 have hu160 := Try.underlying160
 have hu31 := Try.underlying31
 obtain ⟨s, gv, G, e, hA, hG, hR⟩ := h
 obtain ⟨ad, c, rfl, -⟩ := hG.form
 have hlen : s.live.length = t.p.held := by rw [← e, bare_held]; exact live_len _ _
 have hmost := hA.ok.most
 have hheld := s.held_le
 have hld : s.live.length ≤ 4096 := by rw [hlen, ← e, bare_held]; omega
 have HG := As (And.intro e (And.intro hG (And.intro hR hlen)))
 have HW := As (show wrap64 ((s.live.length : Int) - (t.gone.length : Int)) = (s.live.length : Int) - (t.gone.length : Int) by unfold wrap64; omega)
 have HM := As hA
 clear hA hG hR hlen hmost hheld e hld hg
 have SP := As (show ∀ (w' : World) (L' : List Ob), Hv w0 w' L' → tb K t (.slice ad t.gone.length c) on ∈ L' → (w'.cell? ⟨K.1, 0, none⟩ = some (.pointer (some ⟨K.2.1, 0, none⟩)) ∧ w'.cell? ⟨K.1, 3, none⟩ = some (.slice ad t.gone.length c)) from fun w' L' h m1 => by
  obtain ⟨c0, -, -, c3, -, -, -, -, -, -⟩ := h.c5 _ _ _ _ _ _ _ m1
  exact ⟨c0, c3⟩)
 go_enter Try.func68, Try.ntmps68
 go_upto_region 3 with (fail)
 have HD := As HM.out.drew
 refine start_ (n := 19) (S := fun w' => w'.cell? ⟨K.1, 0, none⟩ = some (.pointer (some ⟨K.2.1, 0, none⟩)) ∧ w'.cell? ⟨K.1, 3, none⟩ = some (.slice ad t.gone.length c)) (ds := []) #[false, false, false, false, false, false, false, false, false, false, false, false, false, false, false, false, false, false, false] (by kernel_rfl) rfl rfl (SP.out _ _ HD.out.other (by simp)) (fun hHeld => ?_)
 generalize w.drew = wr0 at HD hHeld ⊢
 refine pu_ 0 (some 6) ?_
 refine pu_ 1 (some 7) ?_
 refine pu_ 2 (some 8) ?_
 refine pu_ 6 (some 12) ?_
 refine pu_ 7 (some 13) ?_
 refine pu_ 8 (some 14) ?_
 refine pu_ 12 (some 18) ?_
 refine pu_ 13 (some 19) ?_
 refine pu_ 14 (some 20) ?_
 refine ta_ 3 (some 9) hHeld ?_ (hy := Or.inl ⟨by rfl, by rintro w' ⟨s0, s1⟩; go_simp; with_reducible rfl⟩)
 refine ta_ 9 (some 15) hHeld ?_ (hy := Or.inl ⟨by rfl, by rintro w' ⟨s0, s1⟩; go_simp; with_reducible rfl⟩)
 refine pu_ 10 (some 16) ?_
 refine ta_ 15 (some 21) hHeld ?_ (hy := Or.inl ⟨by rfl, by rintro w' ⟨s0, s1⟩; go_simp; with_reducible rfl⟩)
 refine pu_ 16 (some 22) ?_
 refine on_ 4 (some 10) fun K_ hK => ?_
 refine gs_ Try.func121 #[.pointer (some ⟨K.2.1, 0, none⟩)] ?_
 refine (ArN.Arn.Live HD.out rfl rfl).mono ?_
 rintro e9 w9 ⟨ad9, c9, A9, rfl, hg9, hh⟩
 refine ⟨_, rfl, ?_⟩
 have H9 := As hh
 clear hh hg9
 refine hK.out _ _ (SP.out _ _ H9.out.other (by simp)) (fun hHeld => ?_)
 clear hK K_
 refine nm_ ?_
 refine pu_ 5 (some 11) ?_
 refine pu_ 11 (some 17) ?_
 refine pu_ 17 (some 2) ?_
 refine pu_ 18 (some 3) ?_
 refine done_ (by kernel_rfl) ?_
 have hw := HW.out
 go_wp2_with fail
 exact bodyPost_ret (v := .tuple #[.int .i64 ((s.live.length : Int) - (t.gone.length : Int)), .int .i64 (t.gone.length : Int)]) (by simp [results, Try.results68, go_sem, hw]) rfl ⟨by rw [HG.out.2.2.2], s, _, G, HG.out.1, by
  obtain ⟨bv, Bb, h1, h2, h3⟩ := H9.out
  exact ⟨bv, Bb, h1.drop (List.Sublist.append_left (List.sublist_append_right A9 _) _), h2, h3⟩, HG.out.2.1, HG.out.2.2.1⟩
end
section
variable {w0 w w1 : World} {L L' R : List Ob} {K : Nat × Nat × Nat} {t : Tm} {on : Value}
abbrev It := ByteArray × Rf
def icel (x : It) : List Value := [.string x.1, .int .i64 x.2.1, .int .i64 x.2.2]
def itemsOf (n : Nd.Nd) : List It := n.keys.zip n.refs
theorem infoI : (Try.prog.info? 104).map (fun i => (i.zero, i.size, i.bytes)) = some (some (.agg #[.string ⟨#[]⟩, .int .i64 0, .int .i64 0]), 3, 32) := by kernel_rfl
def ItemsP (w0 : World) (L : List Ob) (l : List It) (e : Ending) (w' : World) : Prop := ∃ ad c A, e = .returned (.slice ad l.length c) ∧ Gr 104 3 (.slice ad l.length c) l.length (l.flatMap icel) A ∧ Hv w0 w' (A ++ L)
theorem items.calls (hv : Hv w0 w L) (hRL : ∀ p ∈ R, p ∈ L) {n : Nd.Nd} {v : Value} (hn : NV w0 R n v) (hs : n.keys.length = n.refs.length) (hb : n.keys.length ≤ 1000000) : Calls Try.prog 124 #[v] w (ItemsP w0 L (itemsOf n)) := by
 have hu59 := Try.underlying59
 have hu57 := Try.underlying57
 have hu31 := Try.underlying31
 have hu33 := Try.underlying33
 have hu104 := Try.underlying104
 obtain ⟨ka, kc, ra, rc, rfl, hr⟩ := hn
 have HV := As (show Hv w0 _ ([] ++ (cb w.heap.size 59 #[.bool n.leaf, .int .i64 n.ver, .slice ka n.keys.length kc, .slice ra n.refs.length rc] :: L)) from hv.alloc (.cells #[.bool n.leaf, .int .i64 n.ver, .slice ka n.keys.length kc, .slice ra n.refs.length rc] 59))
 have HR := As hr
 have HRL := As hRL
 have HS := As (And.intro hs hb)
 have hil : (itemsOf n).length = n.keys.length := by simp [itemsOf, hs]
 have HIL := As hil
 clear hv hr hRL hs hb hil
 obtain ⟨y0, y1, y2, y3, -, -, -, -⟩ := HV.out.c4 w.heap.size 59 (.bool n.leaf) (.int .i64 n.ver) (.slice ka n.keys.length kc) (.slice ra n.refs.length rc) (by simp)
 unfold nval
 go_enter Try.func124, Try.ntmps124
 go_wp2_with fail
 clear y0 y1 y2 y3
 go_loopg [3, 9] n.keys.length (fun kq v3 v9 wr => ∃ (k : Nat) (ad : Option Addr) (c : Nat) (A : List Ob), v3 = .slice ad k c ∧ v9 = .int .i64 (k : Int) ∧ kq = n.keys.length - k ∧ k ≤ n.keys.length ∧ Aside0 (Gr 104 3 (.slice ad k c) k (((itemsOf n).take k).flatMap icel) A) ∧ Aside0 (Hv w0 wr (A ++ (cb w.heap.size 59 #[.bool n.leaf, .int .i64 n.ver, .slice ka n.keys.length kc, .slice ra n.refs.length rc] :: L))))
 case atStart => exact ⟨0, none, 0, [], rfl, rfl, rfl, Nat.zero_le _, ⟨Gr.nil 104 3⟩, HV⟩
 case round =>
  obtain ⟨k, ad, c, A, rfl, rfl, rfl, hk, HG, HW⟩ := hrel
  clear HV
  obtain ⟨y0, y1, y2, y3, -, -, -, -⟩ := HW.out.c4 w.heap.size 59 (.bool n.leaf) (.int .i64 n.ver) (.slice ka n.keys.length kc) (.slice ra n.refs.length rc) (by simp)
  have hk7 : k ≤ 1000000 := by have := HS.out.2; omega
  by_cases hltn : k < n.keys.length
  ·have hlt' : (k : Int) < (n.keys.length : Int) := by omega
   have hlt2 : (k : Int) < (n.refs.length : Int) := by have := HS.out.1; omega
   have ew : IntKind.i64.wrap ((k : Int) + 1) = ((k + 1 : Nat) : Int) := by rw [IntKind.wrap_i64]; omega
   have ew' : wrap64 ((k : Int) + 1) = ((k + 1 : Nat) : Int) := by unfold wrap64; omega
   obtain ⟨g1, ea, hc1⟩ := (HR.out.k _ _ HW.out (fun x hx => by simp [HRL.out x hx])).2 (by omega)
   cases ea
   obtain ⟨g2, eb, hc2⟩ := (HR.out.r _ _ HW.out (fun x hx => by simp [HRL.out x hx])).2 (by omega)
   cases eb
   obtain ⟨x, hx⟩ : ∃ x, n.keys[k]? = some x := ⟨_, List.getElem?_eq_getElem hltn⟩
   obtain ⟨q, hq⟩ : ∃ q, n.refs[k]? = some q := ⟨_, List.getElem?_eq_getElem (by omega)⟩
   have z0 := hc1 k _ (by rw [List.getElem?_map, hx]; rfl : (n.keys.map Value.string)[k]? = some (.string x))
   obtain ⟨r0, r1⟩ := rcel_get _ k q hq
   have z1 := hc2 _ _ r0
   have z2' := hc2 _ _ r1
   rw [← Addr.add_add] at z2'
   have z2 : wr.cell? { block := (g2.add (k * 2)).block, off := (g2.add (k * 2)).off + 1 } = some (.int .i64 q.2) := z2'
   have HT := As (show ((itemsOf n).take (k + 1)).flatMap icel = ((itemsOf n).take k).flatMap icel ++ icel (x, q) by
    have hi : (itemsOf n)[k]? = some (x, q) := by
     unfold itemsOf
     rw [List.getElem?_zip_eq_some]
     exact ⟨hx, hq⟩
    obtain ⟨hl, he⟩ := List.getElem?_eq_some_iff.1 hi
    rw [List.take_succ_eq_append_getElem hl, List.flatMap_append, he]
    simp)
   have HB := As (show (k + 1) * 32 ≤ 140737488355328 by omega)
   have h1 := HW.out.alloc (.cells #[.string x, .int .i64 q.1, .int .i64 q.2] 104)
   have HX := As (show Hv w0 (wr.alloc (.cells #[.string x, .int .i64 q.1, .int .i64 q.2] 104)) (A ++ (cb wr.heap.size 104 #[.string x, .int .i64 q.1, .int .i64 q.2] :: cb w.heap.size 59 #[.bool n.leaf, .int .i64 n.ver, .slice (some g1) n.keys.length kc, .slice (some g2) n.refs.length rc] :: L)) from h1.perm List.perm_middle)
   have HN := As ((Rdy.of_rw (w0 := w0) (size := 3) (n := 1) (e := 104) (c := 1) (xs := icel (x, q)) (ad := some ⟨wr.heap.size, 0, none⟩) (L := A ++ (cb wr.heap.size 104 #[.string x, .int .i64 q.1, .int .i64 q.2] :: cb w.heap.size 59 #[.bool n.leaf, .int .i64 n.ver, .slice (some g1) n.keys.length kc, .slice (some g2) n.refs.length rc] :: L)) ⟨rfl, Nat.le_refl _, fun _ => ⟨wr.heap.size, 0, #[.string x, .int .i64 q.1, .int .i64 q.2], rfl, by simp, fun i _ => by rw [Nat.zero_add]; simp [icel]⟩⟩).now HX.out)
   clear h1 hc1 hc2 r0 r1 z2' hx hq
   go_wp2_with ((with_reducible refine gate_builtin (b := .append) (xs := #[.tmp 14, .tmp 22]) rfl ?_); at_builtin; go_loud (refine append_rows (w0 := w0) (A := A) (L := cb wr.heap.size 104 #[.string x, .int .i64 q.1, .int .i64 q.2] :: cb w.heap.size 59 #[.bool n.leaf, .int .i64 n.ver, .slice (some g1) n.keys.length kc, .slice (some g2) n.refs.length rc] :: L) rfl (.tmp 14) (.tmp 22) 89 104 (.agg #[.string ⟨#[]⟩, .int .i64 0, .int .i64 0]) 3 32 rfl Try.underlying89 infoI rfl (by decide) (by decide) (.slice ad k c) k (((itemsOf n).take k).flatMap icel) rfl (some ⟨wr.heap.size, 0, none⟩) 1 1 (icel (x, q)) rfl (by intro u hu; simp [icel] at hu; rcases hu with rfl | rfl | rfl <;> rfl) HG.out HX.out HN.out HB.out ?_); intro v1 w5 A1 hG1 hv5; obtain ⟨ad1, c1, rfl, -⟩ := hG1.form; have HG1 := As hG1; have H5 := As (hv5.drop (L' := A1 ++ (cb w.heap.size 59 #[.bool n.leaf, .int .i64 n.ver, .slice (some g1) n.keys.length kc, .slice (some g2) n.refs.length rc] :: L)) (List.Sublist.append_left (List.sublist_cons_self _ _) A1)); clear hG1 hv5)
   go_roundg (n.keys.length - (k + 1))
   case measure => omega
   case rel => exact ⟨k + 1, ad1, c1, A1, rfl, by go_num, rfl, hltn, ⟨by rw [HT.out]; exact HG1.out⟩, H5⟩
  ·have hge : ¬ (k : Int) < (n.keys.length : Int) := by omega
   have hkk : k = (itemsOf n).length := by rw [HIL.out]; omega
   have HKK := As hkk
   clear hltn hk hk7 hkk
   go_wp2_with fail
   have hg := HG.out
   rw [HKK.out, List.take_length] at hg
   exact bodyPost_ret (v := .slice ad k c) (by simp [results, Try.results124, go_sem]) rfl ⟨ad, c, A, by rw [← HKK.out], hg, HW.out.drop (List.Sublist.append_left (List.sublist_cons_self _ _) A)⟩
end
section
variable {w0 w w1 : World} {L L' R : List Ob} {K : Nat × Nat × Nat} {t : Tm} {on : Value}
theorem Mt.lensY {B X : List Ob} (h : Mt w0 w K t on R (B ++ (X ++ L))) : ∃ Q, Hv w0 w (X ++ Q) ∧ (∀ p ∈ R, p ∈ Q) ∧ ∀ w' X', Hv w0 w' (X' ++ Q) → Mt w0 w' K t on R (B ++ (X' ++ L)) := by
 obtain ⟨s, gv, G, e, ⟨bv, Bb, h1, h1', h1''⟩, h2, h3⟩ := h
 have key : ∀ X' : List Ob, (AL K.2.1 K.2.2 bv Bb s ++ (tb K t gv on :: (G ++ (R ++ (B ++ (X' ++ L)))))).Perm (X' ++ (AL K.2.1 K.2.2 bv Bb s ++ (tb K t gv on :: (G ++ (R ++ (B ++ L)))))) := fun X' => by
  have e1 : ∀ P : List Ob, (P ++ (X' ++ L)).Perm (X' ++ (P ++ L)) := fun P => by
   rw [← List.append_assoc, ← List.append_assoc]
   exact List.Perm.append_right L List.perm_append_comm
  have := e1 (AL K.2.1 K.2.2 bv Bb s ++ (tb K t gv on :: (G ++ (R ++ B))))
  simpa [List.append_assoc] using this
 exact ⟨_, h1.perm (key X).symm, fun p hp => by simp [hp], fun w' X' h' => ⟨s, gv, G, e, ⟨bv, Bb, h'.perm (key X'), h1', h1''⟩, h2, h3⟩⟩
def nend (n : Nd.Nd) (k : Nat) (s : ByteArray) : ByteArray := if k < n.keys.length then n.keys.getD k ⟨#[]⟩ else s
def endF (t : Tm) (s : ByteArray) : List (Rf × Nat) → ByteArray
 | [] => s
 | x :: l => endF t (nend (t.at x.1) x.2 s) l
theorem endF_snoc (t : Tm) : ∀ (l : List (Rf × Nat)) (s : ByteArray) (x : Rf × Nat), endF t s (l ++ [x]) = nend (t.at x.1) x.2 (endF t s l)
 | [], s, x => rfl
 | y :: l, s, x => endF_snoc t l _ x
def JE (t : Tm) (g : Nat) (p : List (Rf × Nat)) (X : List Ob) : Prop := X = [cb g 9 #[.string (endF t ⟨#[]⟩ p)]]
theorem leaf1.calls {g : Nat} {s : ByteArray} {Q : List Ob} (hv : Hv w0 w (cb g 9 #[.string s] :: Q)) (hRQ : ∀ p ∈ R, p ∈ Q) {n : Nd.Nd} {ka : Option Addr} {kc : Nat} {ra : Option Addr} {rc : Nat} (hn : NR w0 R n ka kc ra rc) (r : Rf) (k : Nat) :
  Calls Try.prog 128 #[.agg #[.int .i64 r.1, .int .i64 r.2], .agg #[.bool n.leaf, .int .i64 n.ver, .slice ka n.keys.length kc, .slice ra n.refs.length rc], .int .i64 (k : Int), .pointer (some ⟨g, 0, none⟩)] w fun e w' => e = .returned (.tuple #[]) ∧ Hv w0 w' (cb g 9 #[.string (nend n k s)] :: Q) := by
 have hu59 := Try.underlying59
 have hu57 := Try.underlying57
 have HV := As (show Hv w0 _ (cb (w.heap.size + 1) 59 #[.bool n.leaf, .int .i64 n.ver, .slice ka n.keys.length kc, .slice ra n.refs.length rc] :: cb w.heap.size 33 #[.int .i64 r.1, .int .i64 r.2] :: cb g 9 #[.string s] :: Q) by
  have := (hv.alloc (.cells #[.int .i64 r.1, .int .i64 r.2] 33)).alloc (.cells #[.bool n.leaf, .int .i64 n.ver, .slice ka n.keys.length kc, .slice ra n.refs.length rc] 59)
  simpa [cb] using this)
 obtain ⟨y0, y1, y2, y3, -, -, -, -⟩ := HV.out.c4 (w.heap.size + 1) 59 (.bool n.leaf) (.int .i64 n.ver) (.slice ka n.keys.length kc) (.slice ra n.refs.length rc) (by simp)
 obtain ⟨g0, gf⟩ := HV.out.c1 g 9 (.string s) (by simp)
 by_cases hk : k < n.keys.length
 ·have hk' : (k : Int) < (n.keys.length : Int) := by omega
  obtain ⟨x, hx⟩ : ∃ x, n.keys[k]? = some x := ⟨_, List.getElem?_eq_getElem hk⟩
  obtain ⟨ad, ea, hc⟩ := (hn.k _ _ HV.out (fun p hp => by simp [hRQ p hp])).2 (by omega)
  cases ea
  have z0 := hc k _ (by rw [List.getElem?_map, hx]; rfl : (n.keys.map Value.string)[k]? = some (.string x))
  have HF := As (show nend n k s = x by unfold nend; rw [if_pos hk, List.getD_eq_getElem?_getD, hx]; rfl)
  clear hv hn hc hx hRQ
  go_enter Try.func128, Try.ntmps128
  go_wp2_with fail
  go_end0
  exact ⟨rfl, by rw [HF.out]; exact (HV.out.tail.tail.put0 0 (.string x) rfl)⟩
 ·have hk' : ¬ (k : Int) < (n.keys.length : Int) := by omega
  have HF := As (show nend n k s = s by unfold nend; rw [if_neg hk])
  clear hv hn hRQ
  go_enter Try.func128, Try.ntmps128
  go_wp2_with fail
  go_end0
  exact ⟨rfl, by rw [HF.out]; exact HV.out.tail.tail⟩
theorem leafCB {g : Nat} (W : World) (B X : List Ob) (p : List (Rf × Nat)) (r : Rf) (n : Nd.Nd) (ka : Option Addr) (kc : Nat) (ra : Option Addr) (rc k : Nat) {fv : Value} (hM : Mt w0 W K t fv R (B ++ (X ++ L))) (hJ : JE t g p X) (hr : NR w0 R n ka kc ra rc) (hn : t.at r = n) :
  Calls Try.prog 128 #[.agg #[.int .i64 r.1, .int .i64 r.2], .agg #[.bool n.leaf, .int .i64 n.ver, .slice ka n.keys.length kc, .slice ra n.refs.length rc], .int .i64 (k : Int), .pointer (some ⟨g, 0, none⟩)] W fun e w' => e = .returned (.tuple #[]) ∧ ∃ X', JE t g (p ++ [(r, k)]) X' ∧ Mt w0 w' K t fv R (B ++ (X' ++ L)) := by
 unfold JE at hJ
 subst hJ
 obtain ⟨Q, hq, hRQ, back⟩ := hM.lensY (X := [cb g 9 #[.string (endF t ⟨#[]⟩ p)]])
 refine (leaf1.calls (Q := Q) hq hRQ hr r k).mono ?_
 rintro e w' ⟨rfl, hv'⟩
 exact ⟨rfl, [cb g 9 #[.string (endF t ⟨#[]⟩ (p ++ [(r, k)]))]], rfl, back w' _ (by rw [endF_snoc, hn]; exact hv')⟩
end
section
variable {w0 w w1 : World} {L L' R : List Ob} {K : Nat × Nat × Nat} {t : Tm} {on : Value}
def LeafP (w0 : World) (K : Nat × Nat × Nat) (t : Tm) (R L : List Ob) (q : Rf) (e0 : ByteArray) (e : Ending) (w' : World) : Prop :=
 ∃ ad c A, e = .returned (.tuple #[.agg #[.int .i64 q.1, .int .i64 q.2, .int .i64 (t.at q).ver], .slice ad (itemsOf (t.at q)).length c, .string e0]) ∧ Gr 104 3 (.slice ad (itemsOf (t.at q)).length c) (itemsOf (t.at q)).length ((itemsOf (t.at q)).flatMap icel) A ∧ Mt w0 w' K t .nilFunc R (A ++ L)
theorem leaf.calls (h : Mt w0 w K t on R L) (key : ByteArray) {l : List (Rf × Nat)} {q : Rf} (hd : Dn t key t.root l q) (hm : l.length < 1000000) (hs : (t.at q).keys.length = (t.at q).refs.length) (hb : (t.at q).keys.length ≤ 1000000) : Calls Try.prog 72 #[.pointer (some ⟨K.1, 0, none⟩), .string key] w (LeafP w0 K t R L q (endF t ⟨#[]⟩ l)) := by
 have hu33 := Try.underlying33
 have hu85 := Try.underlying85
 have hu80 := Try.underlying80
 have hmf : ∀ (fn : Fn) (first cap : Array Value) (w : World), (Instr.makeFunc fn first cap).run Try.prog w = .ok (.func fn first cap) w := fun _ _ _ _ => rfl
 have HM := As (show Mt w0 _ K t on R ([cb (w.heap.size + 1) 9 #[.string ⟨#[]⟩]] ++ (cb w.heap.size 85 #[.int .i64 0, .int .i64 0, .int .i64 0] :: L)) by
  have := (h.alloc (.cells #[.int .i64 0, .int .i64 0, .int .i64 0] 85)).alloc (.cells #[.string ⟨#[]⟩] 9)
  simpa [cb] using this)
 obtain ⟨n, hn⟩ : ∃ n, t.at q = n := ⟨_, rfl⟩
 rw [hn] at hs hb
 have HE := As hn
 have HD := As (And.intro hd hm)
 have HS := As (And.intro hs hb)
 clear h hd hm hs hb hn
 go_enter Try.func72, Try.ntmps72
 go_upto_region 5 with (go_at_call 126; go_loud ((refine (downC.calls (w0 := w0) (L := cb w.heap.size 85 #[.int .i64 0, .int .i64 0, .int .i64 0] :: L) (X0 := [cb (w.heap.size + 1) 9 #[.string ⟨#[]⟩]]) (m := 1000000) (gc := w.heap.size + 1) (F := 128) (fnc := Try.f128) (J := JE t (w.heap.size + 1)) (by kernel_rfl) (by kernel_rfl) (by kernel_rfl) HM.out rfl key HD.out.1 (Nat.le_of_lt HD.out.2) (fun W B X p r n ka kc ra rc k h1 h2 _ h4 h5 _ => leafCB W B X p r n ka kc ra rc k h1 h2 h4 h5)).mono ?_); rintro e2 w2 ⟨rfl, X, hX, hm2⟩; unfold JE at hX; subst hX; have H2 := As hm2; clear hm2))
 obtain ⟨W3, hW, hM⟩ : ∃ W, W = w2.alloc (.cells #[.int .i64 q.1, .int .i64 q.2] 33) ∧ Mt w0 W K t .nilFunc R (cb w2.heap.size 33 #[.int .i64 q.1, .int .i64 q.2] :: cb (w.heap.size + 1) 9 #[.string (endF t ⟨#[]⟩ l)] :: cb w.heap.size 85 #[.int .i64 0, .int .i64 0, .int .i64 0] :: L) := ⟨_, rfl, H2.out.alloc _⟩
 rw [← hW]
 have HD5 := As hM.drew
 clear hW hM
 generalize w2.heap.size = g8 at HD5 ⊢
 have SP := As (show ∀ (w' : World) (L' : List Ob), Mt w0 w' K t .nilFunc R L' → cb g8 33 #[.int .i64 q.1, .int .i64 q.2] ∈ L' → cb (w.heap.size + 1) 9 #[.string (endF t ⟨#[]⟩ l)] ∈ L' → (w'.cell? ⟨g8, 0, none⟩ = some (.int .i64 q.1) ∧ w'.cell? ⟨g8, 1, none⟩ = some (.int .i64 q.2) ∧ w'.cell? ⟨w.heap.size + 1, 0, none⟩ = some (.string (endF t ⟨#[]⟩ l))) from fun w' L' h m1 m2 => by
  obtain ⟨q0, q1, -, -⟩ := h.other.c2 _ _ _ _ m1
  obtain ⟨e0, -⟩ := h.other.c1 _ _ _ m2
  exact ⟨q0, q1, e0⟩)
 refine start_ (n := 11) (S := fun w' => w'.cell? ⟨g8, 0, none⟩ = some (.int .i64 q.1) ∧ w'.cell? ⟨g8, 1, none⟩ = some (.int .i64 q.2) ∧ w'.cell? ⟨w.heap.size + 1, 0, none⟩ = some (.string (endF t ⟨#[]⟩ l))) (ds := []) #[false, false, false, false, false, false, false, false, false, false, false] (by kernel_rfl) rfl rfl (SP.out _ _ HD5.out (by simp) (by simp)) (fun hHeld => ?_)
 generalize W3.drew = wr0 at HD5 hHeld ⊢
 refine pu_ 0 (some 16) ?_
 refine pu_ 3 (some 19) ?_
 refine ta_ 1 (some 17) hHeld ?_ (hy := Or.inl ⟨by rfl, by rintro w' ⟨s0, s1, s2⟩; go_simp; with_reducible rfl⟩)
 refine ta_ 4 (some 20) hHeld ?_ (hy := Or.inl ⟨by rfl, by rintro w' ⟨s0, s1, s2⟩; go_simp; with_reducible rfl⟩)
 refine ta_ 7 (some 23) hHeld ?_ (hy := Or.inl ⟨by rfl, by rintro w' ⟨s0, s1, s2⟩; go_simp; with_reducible rfl⟩)
 refine on_ 2 (some 18) fun K_ hK => ?_
 refine gs_ Try.func127 #[.pointer (some ⟨K.1, 0, none⟩), .agg #[.int .i64 q.1, .int .i64 q.2]] ?_
 refine (seen.calls HD5.out q).mono ?_
 rw [HE.out]
 rintro e9 wa ⟨rfl, hh⟩
 refine ⟨_, rfl, ?_⟩
 have HA := As hh
 clear hh
 refine hK.out _ _ (SP.out _ _ HA.out (by simp) (by simp)) (fun hHeld => ?_)
 clear hK K_
 refine nm_ ?_
 refine on_ 5 (some 21) fun K_ hK => ?_
 refine gs_ Try.func111 #[.pointer (some ⟨K.1, 0, none⟩), .agg #[.int .i64 q.1, .int .i64 q.2]] ?_
 refine (at.calls HA.out q).mono ?_
 rw [HE.out]
 rintro e9 wb ⟨v, rfl, hnv, hh⟩
 refine ⟨_, rfl, ?_⟩
 have HN := As hnv
 have HB := As hh
 clear hh hnv
 refine hK.out _ _ (SP.out _ _ HB.out (by simp) (by simp)) (fun hHeld => ?_)
 clear hK K_
 refine nm_ ?_
 refine on_ 6 (some 22) fun K_ hK => ?_
 refine gs_ Try.func124 #[v] ?_
 obtain ⟨Q, hq, hRQ, back⟩ := Mt.lensY (B := [cb g8 33 #[.int .i64 q.1, .int .i64 q.2], cb (w.heap.size + 1) 9 #[.string (endF t ⟨#[]⟩ l)], cb w.heap.size 85 #[.int .i64 0, .int .i64 0, .int .i64 0]]) (X := []) (L := L) HB.out
 refine (items.calls (w0 := w0) (R := R) hq (fun p hp => hRQ p hp) HN.out HS.out.1 HS.out.2).mono ?_
 rintro e9 wc ⟨ad, c, A, rfl, hg, hh⟩
 refine ⟨_, rfl, ?_⟩
 have HG := As hg
 have HC := As (show Mt w0 wc K t .nilFunc R (cb g8 33 #[.int .i64 q.1, .int .i64 q.2] :: cb (w.heap.size + 1) 9 #[.string (endF t ⟨#[]⟩ l)] :: cb w.heap.size 85 #[.int .i64 0, .int .i64 0, .int .i64 0] :: (A ++ L)) from back wc A hh)
 clear hh hg hq hRQ back
 refine hK.out _ _ (SP.out _ _ HC.out (by simp) (by simp)) (fun hHeld => ?_)
 clear hK K_
 refine nm_ ?_
 refine on_ 8 none fun K_ hK => ?_
 obtain ⟨v0, v1, v2, vf0, vf1, vf2⟩ := HC.out.other.c3 w.heap.size 85 (.int .i64 0) (.int .i64 0) (.int .i64 0) (by simp)
 refine skip_ (w1 := ?_) (by rfl) rfl ?_ ?_
 rotate_left
 ·go_simp
  rfl
 clear v0 v1 v2 vf0 vf1 vf2
 obtain ⟨wd, hW, hvv⟩ : ∃ W, W = _ ∧ Mt w0 W K t .nilFunc R (cb g8 33 #[.int .i64 q.1, .int .i64 q.2] :: cb (w.heap.size + 1) 9 #[.string (endF t ⟨#[]⟩ l)] :: cb w.heap.size 85 #[.int .i64 q.1, .int .i64 q.2, .int .i64 n.ver] :: (A ++ L)) := ⟨_, rfl, (Mt.putB2 (Mt.putB2 (Mt.putB2 HC.out 0 (.int .i64 q.1) rfl) 1 (.int .i64 q.2) rfl) 2 (.int .i64 n.ver) rfl)⟩
 rw [← hW]
 have HDD := As hvv
 clear hW hvv
 refine hK.out _ _ (SP.out _ _ HDD.out (by simp) (by simp)) (fun hHeld => ?_)
 clear hK K_
 refine pu_ 9 (some 5) ?_
 refine pu_ 10 (some 6) ?_
 refine done_ (by kernel_rfl) ?_
 obtain ⟨e0, e1, e2, -, -, -⟩ := HDD.out.other.c3 w.heap.size 85 (.int .i64 q.1) (.int .i64 q.2) (.int .i64 n.ver) (by simp)
 go_wp2_with fail
 exact bodyPost_ret (v := .tuple #[.agg #[.int .i64 q.1, .int .i64 q.2, .int .i64 n.ver], .slice ad (itemsOf n).length c, .string (endF t ⟨#[]⟩ l)]) (by simp [results, Try.results72, go_sem, e0, e1, e2, hu33, hu85]) rfl ⟨ad, c, A, by rw [HE.out], by rw [HE.out]; exact HG.out, HDD.out.tail.tail.tail⟩
end
end Go.Proofs.Ytglbcfkmaamhaaa.Tr
namespace Go.Proofs.Ytglbcfkmaamhaaa.Tr
open Go Go.RowKit Go.Shelf Go.Proofs.YtglbcfkmaamhaaaW.PrintWords Go.Proofs.Ytglbcfkmaamhaaa.Hv Go.Proofs.Ytglbcfkmaamhaaa.Nd
section
attribute [local go_sem] Oper.semAt_some
abbrev Bk := Nat × Rf
def bkE (x : Bk) : Array Value := #[.int .i64 (x.1 : Int), .agg #[.int .i64 x.2.1, .int .i64 x.2.2]]
def bkf (s : List Rf) (k : Nat) : Bk := (s.length - 1 - k, s.getD (s.length - 1 - k) (0, 0))
def bkL (s : List Rf) (k : Nat) : List Bk := (List.range k).map (bkf s)
theorem bkL_succ (s : List Rf) (k : Nat) : bkL s (k + 1) = bkL s k ++ [bkf s k] := by simp [bkL, List.range_succ]
theorem bkL_length (s : List Rf) (k : Nat) : (bkL s k).length = k := by simp [bkL]
theorem back1_in (F : Fence) (n : Nat) (h147 : F.fn 147) (hro : F.round = none) (hn : 1 ≤ n) (l Bs : Nat) (s : List Rf) (hl : s.length ≤ 1000000) {ad : Option Addr} {c : Nat} {Rk : World → Prop} {Kp : World → World → Prop}
  (hR1 : ∀ W, Rk W → W.cell? ⟨Bs, 0, none⟩ = some (.slice ad s.length c)) (hR2 : ∀ W, Rk W → Rd 2 W ad s.length (s.flatMap rcel)) (hKR : ∀ A B, Kp A B → Rk A → Rk B) (J Jx : List Bk → World → Prop)
  (hY : ∀ pre x W, J pre W → pre.length < s.length → YieldAt F (n - 1) Try.prog l (bkE x) W fun e W' =>
   (e = .returned (.bool true) ∧ J (pre ++ [x]) W' ∧ Kp W W') ∨ (e = .returned (.bool false) ∧ Jx (pre ++ [x]) W'))
  (W : World) (hW : Rk W) (h0 : J [] W) :
  CallsIn F n Try.prog 147 #[.func (.yield l) #[] #[], .pointer (some ⟨Bs, 0, none⟩)] W fun e W' => (∃ v, e = .returned v) ∧
   ((∃ ys, ys = bkL s s.length ∧ J ys W') ∨ (∃ pre, (∃ k, k ≤ s.length ∧ pre = bkL s k) ∧ Jx pre W')) := by
 have hu31 := Try.underlying31
 have hu33 := Try.underlying33
 have hb0 := hR1 W hW
 have ew0 : wrap64 ((s.length : Int) - 1) = (s.length : Int) - 1 := by unfold wrap64; omega
 refine callsIn_of_wp Try.func147 rfl h147 ?_ hro
 simp only [Try.ntmps147, List.size_toArray, List.length_cons, List.length_nil, Nat.reduceAdd, Nat.reduceSub, Array.replicate_succ, Array.replicate_zero, List.push_toArray, List.append_toArray, List.nil_append, List.cons_append]
 gi_wp2
 clear hb0
 gi_loopw [3] (fun i wr => ∃ k : Nat, k ≤ s.length ∧ i = .int .i64 ((s.length : Int) - 1 - (k : Int)) ∧ J (bkL s k) wr ∧ Rk wr)
  (fun i _ => (intOf i + 1).toNat)
 case atStart => exact ⟨0, Nat.zero_le _, by simp [ew0], h0, hW⟩
 case round =>
  obtain ⟨k, hk, rfl, hJs, hRk⟩ := hrel
  have hb1 := hR1 wr hRk
  by_cases hlt : k < s.length
  ·obtain ⟨j, hj⟩ : ∃ j, j = s.length - 1 - k := ⟨_, rfl⟩
   have ej : (s.length : Int) - 1 - (k : Int) = (j : Int) := by omega
   obtain ⟨g1, ea, hc⟩ := (hR2 wr hRk).2 (by omega)
   subst ea
   obtain ⟨q, hq⟩ : ∃ q, s[j]? = some q := ⟨_, List.getElem?_eq_getElem (by omega)⟩
   have hbk : bkf s k = (j, q) := by unfold bkf; rw [← hj, List.getD_eq_getElem?_getD, hq]; rfl
   obtain ⟨r0, r1⟩ := rcel_get s j q hq
   have z0 := hc (j * 2) _ r0
   have z1' := hc (j * 2 + 1) _ r1
   rw [← Addr.add_add] at z1'
   have z1 : wr.cell? { block := (g1.add (j * 2)).block, off := (g1.add (j * 2)).off + 1 } = some (.int .i64 q.2) := z1'
   have hjl : (j : Int) < (s.length : Int) := by omega
   have hjn : j < s.length := by omega
   have ew : wrap64 ((j : Int) - 1) = (j : Int) - 1 := by unfold wrap64; omega
   obtain ⟨fn, tmps, assign, body, hy, hR⟩ := hY _ (j, q) wr hJs (by rw [bkL_length]; exact hlt)
   dsimp only [bkE] at hy
   rw [ej]
   have HJ := As (And.intro hj ej)
   clear hc r0 r1 z1' hj ej
   gi_wp2
   refine hR.mono ?_
   rintro e W3 (⟨rfl, hJ3, hk3⟩ | ⟨rfl, hJx3⟩)
   ·gi_wp2
    go_roundw
    case rel => exact ⟨k + 1, by omega, by have := HJ.out.2; simp [ew]; omega, by rw [bkL_succ, hbk]; exact hJ3, hKR _ _ hk3 hRk⟩
    case measure =>
     have := HJ.out.2
     simp [intOf, ew]
   ·gi_wp2
    refine bodyPost_ret (results_none rfl _ _ _) rfl ?_
    exact ⟨⟨_, rfl⟩, .inr ⟨_, ⟨k + 1, by omega, by rw [bkL_succ, hbk]⟩, hJx3⟩⟩
  ·have hkl : k = s.length := by omega
   have en : (s.length : Int) - 1 - (k : Int) = -1 := by omega
   rw [en]
   gi_wp2
   go_end0
   exact ⟨⟨_, rfl⟩, .inl ⟨_, by rw [hkl], hJs⟩⟩
end
end Go.Proofs.Ytglbcfkmaamhaaa.Tr
namespace Go.Proofs.Ytglbcfkmaamhaaa.Tr
open Go Go.RowKit Go.Shelf Go.Proofs.YtglbcfkmaamhaaaW.PrintWords Go.Proofs.Ytglbcfkmaamhaaa.Hv Go.Proofs.Ytglbcfkmaamhaaa.Arm Go.Proofs.Ytglbcfkmaamhaaa.Nd Go.Proofs.Ytglbcfkmaamhaaa.ArN
section
variable {w0 w w1 : World} {L L' R : List Ob} {K : Nat × Nat × Nat} {t : Tm} {on : Value} {B : Nat}
theorem Hv.abide (h : Hv w0 w L) {row : Option Nat} (hg : w.grownBy w1 row) (hB : w0.heap.size ≤ B) (hr : ∀ r, row = some r → B ≤ r ∧ ∃ o : Obj, w.heap[r]? = some o ∧ o.isCells = false) (hL : ∀ p ∈ L, p.1 < B ∨ p.2.isCells = true) : Hv w0 w1 L := by
 refine ⟨h.bel.grown hg h.bel.size (fun k hk => Nat.le_trans hB (hr k hk).1), fun p hp => blk_grown (h.box p hp) hg (fun e => ?_), h.new, h.nod⟩
 obtain ⟨h1, o, h2, h3⟩ := hr p.1 e.symm
 rcases hL p hp with h4 | h4
 ·omega
 ·rw [h.box p hp] at h2
  cases h2
  rw [h3] at h4
  cases h4
end
end Go.Proofs.Ytglbcfkmaamhaaa.Tr
