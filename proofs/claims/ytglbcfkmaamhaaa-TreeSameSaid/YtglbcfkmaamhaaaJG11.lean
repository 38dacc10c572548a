/- A text of this claim: parts TrK. No condition. -/
import Derived.Test.YtglbcfkmaamhaaaJG9
import Derived.Test.YtglbcfkmaamhaaaJG7
import Derived.Test.YtglbcfkmaamhaaaJG10
import Derived.Test.YtglbcfkmaamhaaaJG2
import Derived.Test.YtglbcfkmaamhaaaJG0
set_option linter.unusedVariables false
set_option linter.unusedSimpArgs false
set_option maxHeartbeats 16000000
set_option maxRecDepth 100000
namespace Go.Proofs.Ytglbcfkmaamhaaa.Tr
open Go Go.RowKit Go.Proofs.YtglbcfkmaamhaaaW.PrintWords Go.Proofs.YtglbcfkmaamhaaaW.PrintLast Go.Proofs.YtglbcfkmaamhaaaW.PrintMore Go.Proofs.Ytglbcfkmaamhaaa.Hv Go.Proofs.Ytglbcfkmaamhaaa.Arm Go.Proofs.Ytglbcfkmaamhaaa.Nd Go.Proofs.Ytglbcfkmaamhaaa.ArN
variable {w0 w w1 : World} {L L' R : List Ob} {K : Nat × Nat × Nat} {t : Tm} {on : Value}
theorem Mt.toR {o : Ob} (h : Mt w0 w K t on R (o :: L)) : Mt w0 w K t on (o :: R) L := by
 obtain ⟨s, gv, G, e, h1, h2, h3⟩ := h
 refine ⟨s, gv, G, e, h1.perm ?_, h2, h3.mono (fun p hp => List.mem_cons_of_mem _ hp)⟩
 refine List.Perm.cons _ (List.Perm.append_left G ?_)
 exact List.perm_middle.symm
def Tm.split (t : Tm) (r : Rf) (up : Option Rf) : Tm × Rf :=
 let s := (t.at r).split
 let t1 := t.set r s.1
 let t2 := t1.take s.2.2
 match up with
 | none => ({ t2.take ⟨false, 1, [s.2.1], [r, t1.tk]⟩ with root := t2.tk }, t1.tk)
 | some u => (t2.set u ((t2.at u).insert (idx r (t2.at u).refs) s.2.1 t1.tk), t1.tk)
def SplP (w0 : World) (K : Nat × Nat × Nat) (on : Value) (R L : List Ob) (s : Tm × Rf) (e : Ending) (w' : World) : Prop :=
 e = .returned (.agg #[.int .i64 s.2.1, .int .i64 s.2.2]) ∧ ∃ A, Mt w0 w' K s.1 on (A ++ R) L
theorem splitT.root (h : Mt w0 w K t on R L) (r : Rf) (ho : Nd.Sm (t.at r)) : Calls Try.prog 120 #[.pointer (some ⟨K.1, 0, none⟩), .agg #[.int .i64 r.1, .int .i64 r.2], .pointer none] w (SplP w0 K on R L (t.split r none)) := by
 have hu59 := Try.underlying59
 have hu33 := Try.underlying33
 have hu31 := Try.underlying31
 have hu57 := Try.underlying57
 have hu160 := Try.underlying160
 have HM := As (show Mt w0 _ K t on R (cb (w.heap.size + 1) 33 #[.int .i64 0, .int .i64 0] :: cb (w.heap.size) 33 #[.int .i64 r.1, .int .i64 r.2] :: L) by
  have := (h.alloc (.cells #[.int .i64 r.1, .int .i64 r.2] 33)).alloc (.cells #[.int .i64 0, .int .i64 0] 33)
  simpa [cb] using this)
 obtain ⟨n, hn⟩ : ∃ n, t.at r = n := ⟨_, rfl⟩
 obtain ⟨a, mid, b, hsp⟩ : ∃ a mid b, n.split = (a, mid, b) := ⟨_, _, _, rfl⟩
 rw [hn] at ho
 obtain ⟨t1, ht1⟩ : ∃ t1, t.set r a = t1 := ⟨_, rfl⟩
 obtain ⟨t2, ht2⟩ : ∃ t2, t1.take b = t2 := ⟨_, rfl⟩
 have HE := As (And.intro hn (And.intro hsp (And.intro ht1 ht2)))
 have HO := As ho
 clear h ho hn hsp ht1 ht2
 obtain ⟨t4_0, t4_1, t4_f0, t4_f1⟩ := HM.out.other.c2 (w.heap.size) 33 (.int .i64 r.1) (.int .i64 r.2) (by simp)
 obtain ⟨t6_0, t6_1, t6_f0, t6_f1⟩ := HM.out.other.c2 (w.heap.size + 1) 33 (.int .i64 0) (.int .i64 0) (by simp)
 go_enter Try.func120, Try.ntmps120
 go_upto_region 2 with (first | (go_at_call 51; have hx2 := H2.out; clear hx2; go_loud ((obtain ⟨Lf, hL, hRf, hLf, back⟩ := H2.out.lens); (refine (Nd.split.calls (w0 := w0) (R := R) hL hRf ⟨ka, kc, ra, rc, rfl, HN.out⟩ HO.out).mono ?_); rw [HE.out.2.1]; rintro e3 w3 ⟨va, vb, A1, rfl, hna, hnb, hh⟩; have H3 := As (back w3 A1 hh); clear back hL hRf hLf hh; obtain ⟨ka1, kc1, ra1, rc1, ev, hr1⟩ := hna; have ev1 : va = .agg #[.bool a.leaf, .int .i64 a.ver, .slice ka1 a.keys.length kc1, .slice ra1 a.refs.length rc1] := ev; subst ev1; clear ev; obtain ⟨ka2, kc2, ra2, rc2, ev, hr2⟩ := hnb; have ev2 : vb = .agg #[.bool b.leaf, .int .i64 b.ver, .slice ka2 b.keys.length kc2, .slice ra2 b.refs.length rc2] := ev; subst ev2; clear ev; have HR1 := As (And.intro hr1 hr2); clear hr1 hr2; clear t4_0 t4_f0 t4_1 t4_f1 t6_0 t6_f0 t6_1 t6_f1; obtain ⟨t4_0, t4_1, t4_f0, t4_f1⟩ := H3.out.other.c2 (w.heap.size) 33 (.int .i64 r.1) (.int .i64 r.2) (by simp); obtain ⟨t6_0, t6_1, t6_f0, t6_f1⟩ := H3.out.other.c2 (w.heap.size + 1) 33 (.int .i64 0) (.int .i64 0) (by simp))) | (go_at_call 111; go_loud ((refine (at.calls HM.out r).mono ?_); rintro e2 w2 ⟨v, rfl, hnv, hh⟩; rw [HE.out.1] at hnv; obtain ⟨ka, kc, ra, rc, ev, hr⟩ := hnv; have ev0 : v = .agg #[.bool n.leaf, .int .i64 n.ver, .slice ka n.keys.length kc, .slice ra n.refs.length rc] := ev; subst ev0; clear ev; have HN := As hr; have H2 := As hh; clear hh hr; clear t4_0 t4_f0 t4_1 t4_f1 t6_0 t6_f0 t6_1 t6_f1; obtain ⟨t4_0, t4_1, t4_f0, t4_f1⟩ := H2.out.other.c2 (w.heap.size) 33 (.int .i64 r.1) (.int .i64 r.2) (by simp); obtain ⟨t6_0, t6_1, t6_f0, t6_f1⟩ := H2.out.other.c2 (w.heap.size + 1) 33 (.int .i64 0) (.int .i64 0) (by simp))))
 obtain ⟨W4, hW, hM⟩ : ∃ W, W = (w3.alloc (.cells #[.bool a.leaf, .int .i64 a.ver, .slice ka1 a.keys.length kc1, .slice ra1 a.refs.length rc1] 59)).alloc (.cells #[.bool b.leaf, .int .i64 b.ver, .slice ka2 b.keys.length kc2, .slice ra2 b.refs.length rc2] 59) ∧ Mt w0 W K t on (A1 ++ R) (cb (w3.heap.size + 1) 59 #[.bool b.leaf, .int .i64 b.ver, .slice ka2 b.keys.length kc2, .slice ra2 b.refs.length rc2] :: cb (w3.heap.size) 59 #[.bool a.leaf, .int .i64 a.ver, .slice ka1 a.keys.length kc1, .slice ra1 a.refs.length rc1] :: cb (w.heap.size + 1) 33 #[.int .i64 0, .int .i64 0] :: cb (w.heap.size) 33 #[.int .i64 r.1, .int .i64 r.2] :: L) := ⟨_, rfl, by have := (H3.out.alloc (.cells #[.bool a.leaf, .int .i64 a.ver, .slice ka1 a.keys.length kc1, .slice ra1 a.refs.length rc1] 59)).alloc (.cells #[.bool b.leaf, .int .i64 b.ver, .slice ka2 b.keys.length kc2, .slice ra2 b.refs.length rc2] 59); simpa [cb] using this⟩
 rw [← hW]
 have H4 := As hM
 clear hW hM
 clear t4_0 t4_f0 t4_1 t4_f1 t6_0 t6_f0 t6_1 t6_f1
 generalize w3.heap.size = g7 at H4 ⊢
 have SP := As (show ∀ (w' : World) (t' : Tm) (R' L' : List Ob), Mt w0 w' K t' on R' L' → cb (w.heap.size) 33 #[.int .i64 r.1, .int .i64 r.2] ∈ L' → cb (g7) 59 #[.bool a.leaf, .int .i64 a.ver, .slice ka1 a.keys.length kc1, .slice ra1 a.refs.length rc1] ∈ L' → (w'.cell? ⟨K.1, 0, none⟩ = some (.pointer (some ⟨K.2.1, 0, none⟩)) ∧ w'.cell? ⟨w.heap.size, 0, none⟩ = some (.int .i64 r.1) ∧ w'.cell? ⟨w.heap.size, 1, none⟩ = some (.int .i64 r.2) ∧ w'.cell? ⟨g7, 0, none⟩ = some (.bool a.leaf) ∧ w'.cell? ⟨g7, 1, none⟩ = some (.int .i64 a.ver) ∧ w'.cell? ⟨g7, 2, none⟩ = some (.slice ka1 a.keys.length kc1) ∧ w'.cell? ⟨g7, 3, none⟩ = some (.slice ra1 a.refs.length rc1)) from fun w' t' R' L' h m0 m1 => by
  obtain ⟨c0, -, -, -, -, -, -⟩ := h.cells
  obtain ⟨t4_0, t4_1, -, -⟩ := h.other.c2 _ _ _ _ m0
  obtain ⟨t7_0, t7_1, t7_2, t7_3, -, -, -, -⟩ := h.other.c4 _ _ _ _ _ _ m1
  exact ⟨c0, t4_0, t4_1, t7_0, t7_1, t7_2, t7_3⟩)
 have HD2 := As H4.out.drew
 refine start_ (n := 7) (S := fun w' => w'.cell? ⟨K.1, 0, none⟩ = some (.pointer (some ⟨K.2.1, 0, none⟩)) ∧ w'.cell? ⟨w.heap.size, 0, none⟩ = some (.int .i64 r.1) ∧ w'.cell? ⟨w.heap.size, 1, none⟩ = some (.int .i64 r.2) ∧ w'.cell? ⟨g7, 0, none⟩ = some (.bool a.leaf) ∧ w'.cell? ⟨g7, 1, none⟩ = some (.int .i64 a.ver) ∧ w'.cell? ⟨g7, 2, none⟩ = some (.slice ka1 a.keys.length kc1) ∧ w'.cell? ⟨g7, 3, none⟩ = some (.slice ra1 a.refs.length rc1)) (ds := []) #[false, false, false, false, false, false, false] (by kernel_rfl) rfl rfl (SP.out _ _ _ _ HD2.out (by simp) (by simp)) (fun hHeld => ?_)
 generalize W4.drew = wx2 at HD2 hHeld ⊢
 refine pu_ 0 (some 21) ?_
 refine pu_ 1 (some 22) ?_
 refine pu_ 2 (some 23) ?_
 refine ta_ 3 (some 24) hHeld ?_ (hy := Or.inl ⟨by rfl, by rintro w' ⟨s0, s1, s2, s3, s4, s5, s6⟩; go_simp; with_reducible rfl⟩)
 refine ta_ 4 (some 25) hHeld ?_ (hy := Or.inl ⟨by rfl, by rintro w' ⟨s0, s1, s2, s3, s4, s5, s6⟩; go_simp; with_reducible rfl⟩)
 refine ta_ 5 (some 26) hHeld ?_ (hy := Or.inl ⟨by rfl, by rintro w' ⟨s0, s1, s2, s3, s4, s5, s6⟩; go_simp; with_reducible rfl⟩)
 refine on_ 6 (some 27) fun K_ hK => ?_
 refine gs_ Try.func112 #[.pointer (some ⟨K.2.1, 0, none⟩), .agg #[.int .i64 r.1, .int .i64 r.2], .agg #[.bool a.leaf, .int .i64 a.ver, .slice ka1 a.keys.length kc1, .slice ra1 a.refs.length rc1]] ?_
 refine (Mt.set HD2.out r (n := a) ⟨ka1, kc1, ra1, rc1, rfl, HR1.out.1⟩).mono ?_
 rw [HE.out.2.2.1]
 rintro e9 w5 ⟨rfl, hh⟩
 refine ⟨_, rfl, ?_⟩
 have H5 := As hh
 clear hh
 refine hK.out _ _ (SP.out _ _ _ _ H5.out (by simp) (by simp)) (fun hHeld => ?_)
 clear hK K_
 refine nm_ ?_
 refine done_ (by kernel_rfl) ?_
 clear SP hHeld
 have SP3 := As (show ∀ (w' : World) (t' : Tm) (R' L' : List Ob), Mt w0 w' K t' on R' L' → cb (g7 + 1) 59 #[.bool b.leaf, .int .i64 b.ver, .slice ka2 b.keys.length kc2, .slice ra2 b.refs.length rc2] ∈ L' → (w'.cell? ⟨K.1, 0, none⟩ = some (.pointer (some ⟨K.2.1, 0, none⟩)) ∧ w'.cell? ⟨g7 + 1, 0, none⟩ = some (.bool b.leaf) ∧ w'.cell? ⟨g7 + 1, 1, none⟩ = some (.int .i64 b.ver) ∧ w'.cell? ⟨g7 + 1, 2, none⟩ = some (.slice ka2 b.keys.length kc2) ∧ w'.cell? ⟨g7 + 1, 3, none⟩ = some (.slice ra2 b.refs.length rc2)) from fun w' t' R' L' h m0 => by
  obtain ⟨c0, -, -, -, -, -, -⟩ := h.cells
  obtain ⟨t9_0, t9_1, t9_2, t9_3, -, -, -, -⟩ := h.other.c4 _ _ _ _ _ _ m0
  exact ⟨c0, t9_0, t9_1, t9_2, t9_3⟩)
 have HD3 := As H5.out.drew
 go_upto_region 3 with (fail)
 refine start_ (n := 12) (S := fun w' => w'.cell? ⟨K.1, 0, none⟩ = some (.pointer (some ⟨K.2.1, 0, none⟩)) ∧ w'.cell? ⟨g7 + 1, 0, none⟩ = some (.bool b.leaf) ∧ w'.cell? ⟨g7 + 1, 1, none⟩ = some (.int .i64 b.ver) ∧ w'.cell? ⟨g7 + 1, 2, none⟩ = some (.slice ka2 b.keys.length kc2) ∧ w'.cell? ⟨g7 + 1, 3, none⟩ = some (.slice ra2 b.refs.length rc2)) (ds := [10]) #[false, false, false, false, false, false, false, false, false, false, false, false] (by kernel_rfl) rfl rfl (SP3.out _ _ _ _ HD3.out (by simp)) (fun hHeld => ?_)
 generalize w5.drew = wx3 at HD3 hHeld ⊢
 refine pu_ 0 (some 29) ?_
 refine pu_ 1 (some 30) ?_
 refine pu_ 2 (some 31) ?_
 refine ta_ 3 (some 32) hHeld ?_ (hy := Or.inl ⟨by rfl, by rintro w' ⟨s0, s1, s2, s3, s4⟩; go_simp; with_reducible rfl⟩)
 refine ta_ 4 (some 33) hHeld ?_ (hy := Or.inl ⟨by rfl, by rintro w' ⟨s0, s1, s2, s3, s4⟩; go_simp; with_reducible rfl⟩)
 refine two_ (i := 5) (j := 9) (Ni := some 34) (Nj := some 10) #[true, true, true, true, true, true, false, false, false, false, false, false] #[true, true, true, true, true, false, false, false, false, true, false, false] rfl rfl rfl rfl (by kernel_rfl) (by decide) (by decide) (fun K_ hK => ?_) (fun K_ hK => ?_)
 ·refine gs_ Try.func108 #[.pointer (some ⟨K.2.1, 0, none⟩), .agg #[.bool b.leaf, .int .i64 b.ver, .slice ka2 b.keys.length kc2, .slice ra2 b.refs.length rc2]] ?_
  refine (Mt.Take HD3.out (n := b) ⟨ka2, kc2, ra2, rc2, rfl, HR1.out.2⟩).mono ?_
  rw [HE.out.2.2.2]
  rintro e9 wy1 ⟨er, rfl, hh⟩
  refine ⟨_, rfl, ?_⟩
  have HY1 := As (show Mt w0 wy1 K t2 on (A1 ++ R) (cb (g7 + 1) 59 #[.bool b.leaf, .int .i64 b.ver, .slice ka2 b.keys.length kc2, .slice ra2 b.refs.length rc2] :: cb (g7) 59 #[.bool a.leaf, .int .i64 a.ver, .slice ka1 a.keys.length kc1, .slice ra1 a.refs.length rc1] :: cb (w.heap.size + 1) 33 #[.int .i64 0, .int .i64 0] :: cb (w.heap.size) 33 #[.int .i64 r.1, .int .i64 r.2] :: L) from hh)
  clear hh
  refine hK.out _ _ (SP3.out _ _ _ _ HY1.out (by simp)) (fun hHeld => ?_)
  clear hK K_
  refine nm_ ?_
  refine pu_ 6 (some 28) ?_
  refine pu_ 7 (some 35) ?_
  refine pu_ 8 (some 36) ?_
  refine on_ 9 (some 10) fun K_ hK => ?_
  refine value_ (v := .pointer (some ⟨wy1.heap.size, 0, none⟩)) (w1 := wy1.alloc (.cells #[.int .i64 0, .int .i64 0] 33)) (by rfl) rfl ?_ ?_
  ·go_simp
  obtain ⟨wy2, hW, hvv⟩ : ∃ W, W = wy1.alloc (.cells #[.int .i64 0, .int .i64 0] 33) ∧ Mt w0 W K t2 on (A1 ++ R) (cb (wy1.heap.size) 33 #[.int .i64 0, .int .i64 0] :: cb (g7 + 1) 59 #[.bool b.leaf, .int .i64 b.ver, .slice ka2 b.keys.length kc2, .slice ra2 b.refs.length rc2] :: cb (g7) 59 #[.bool a.leaf, .int .i64 a.ver, .slice ka1 a.keys.length kc1, .slice ra1 a.refs.length rc1] :: cb (w.heap.size + 1) 33 #[.int .i64 0, .int .i64 0] :: cb (w.heap.size) 33 #[.int .i64 r.1, .int .i64 r.2] :: L) := ⟨_, rfl, HY1.out.alloc _⟩
  rw [← hW]
  have HY2 := As hvv
  clear hW hvv
  refine hK.out _ _ (SP3.out _ _ _ _ HY2.out (by simp)) (fun hHeld => ?_)
  clear hK K_
  refine nm_ ?_
  refine la_ 10 none fun K_ hK => ?_
  obtain ⟨b0, b1, d0, d1⟩ := HY2.out.other.c2 (wy1.heap.size) 33 (.int .i64 0) (.int .i64 0) List.mem_cons_self
  refine sk_ (hK.out _ _ ?_)
  clear hK K_ b0 b1 d0 d1
  obtain ⟨wy3, hW, hvv⟩ : ∃ W, W = _ ∧ Mt w0 W K t2 on (A1 ++ R) (cb (wy1.heap.size) 33 #[.int .i64 t1.tk.1, .int .i64 t1.tk.2] :: cb (g7 + 1) 59 #[.bool b.leaf, .int .i64 b.ver, .slice ka2 b.keys.length kc2, .slice ra2 b.refs.length rc2] :: cb (g7) 59 #[.bool a.leaf, .int .i64 a.ver, .slice ka1 a.keys.length kc1, .slice ra1 a.refs.length rc1] :: cb (w.heap.size + 1) 33 #[.int .i64 0, .int .i64 0] :: cb (w.heap.size) 33 #[.int .i64 r.1, .int .i64 r.2] :: L) := ⟨_, rfl, (Mt.putB0 (Mt.putB0 HY2.out 0 (.int .i64 t1.tk.1) rfl) 1 (.int .i64 t1.tk.2) rfl)⟩
  rw [← hW]
  have HY3 := As hvv
  clear hW hvv
  refine pu_ 11 (some 11) ?_
  refine done_ (by kernel_rfl) ?_
  clear SP3
  generalize wy1.heap.size = g10 at HY3 ⊢
  have H6 := As (show Mt w0 wy3 K t2 on (A1 ++ R) (cb (g10) 33 #[.int .i64 t1.tk.1, .int .i64 t1.tk.2] :: cb (g7 + 1) 59 #[.bool b.leaf, .int .i64 b.ver, .slice ka2 b.keys.length kc2, .slice ra2 b.refs.length rc2] :: cb (g7) 59 #[.bool a.leaf, .int .i64 a.ver, .slice ka1 a.keys.length kc1, .slice ra1 a.refs.length rc1] :: cb (w.heap.size + 1) 33 #[.int .i64 0, .int .i64 0] :: cb (w.heap.size) 33 #[.int .i64 r.1, .int .i64 r.2] :: L) from HY3.out)
  go_upto_region 5 with (fail)
  have SP5 := As (show ∀ (w' : World) (t' : Tm) (R' L' : List Ob), Mt w0 w' K t' on R' L' → cb (w.heap.size) 33 #[.int .i64 r.1, .int .i64 r.2] ∈ L' → cb (g10) 33 #[.int .i64 t1.tk.1, .int .i64 t1.tk.2] ∈ L' → (w'.cell? ⟨K.1, 0, none⟩ = some (.pointer (some ⟨K.2.1, 0, none⟩)) ∧ w'.cell? ⟨w.heap.size, 0, none⟩ = some (.int .i64 r.1) ∧ w'.cell? ⟨w.heap.size, 1, none⟩ = some (.int .i64 r.2) ∧ w'.cell? ⟨g10, 0, none⟩ = some (.int .i64 t1.tk.1) ∧ w'.cell? ⟨g10, 1, none⟩ = some (.int .i64 t1.tk.2)) from fun w' t' R' L' h m0 m1 => by
   obtain ⟨c0, -, -, -, -, -, -⟩ := h.cells
   obtain ⟨t4_0, t4_1, -, -⟩ := h.other.c2 _ _ _ _ m0
   obtain ⟨t10_0, t10_1, -, -⟩ := h.other.c2 _ _ _ _ m1
   exact ⟨c0, t4_0, t4_1, t10_0, t10_1⟩)
  have HD5 := As H6.out.drew
  refine start_ (n := 18) (S := fun w' => w'.cell? ⟨K.1, 0, none⟩ = some (.pointer (some ⟨K.2.1, 0, none⟩)) ∧ w'.cell? ⟨w.heap.size, 0, none⟩ = some (.int .i64 r.1) ∧ w'.cell? ⟨w.heap.size, 1, none⟩ = some (.int .i64 r.2) ∧ w'.cell? ⟨g10, 0, none⟩ = some (.int .i64 t1.tk.1) ∧ w'.cell? ⟨g10, 1, none⟩ = some (.int .i64 t1.tk.2)) (ds := [17]) #[false, false, false, false, false, false, false, false, false, false, false, false, false, false, false, false, false, false] (by kernel_rfl) rfl rfl (SP5.out _ _ _ _ HD5.out (by simp) (by simp)) (fun hHeld => ?_)
  generalize wy3.drew = wx5 at HD5 hHeld ⊢
  refine pu_ 0 (some 40) ?_
  refine pu_ 1 (some 41) ?_
  refine pu_ 2 (some 42) ?_
  refine pu_ 3 (some 43) ?_
  refine pu_ 5 (some 45) ?_
  refine ta_ 4 (some 44) hHeld ?_ (hy := Or.inl ⟨by rfl, by rintro w' ⟨s0, s1, s2, s3, s4⟩; go_simp; with_reducible rfl⟩)
  refine ta_ 7 (some 47) hHeld ?_ (hy := Or.inl ⟨by rfl, by rintro w' ⟨s0, s1, s2, s3, s4⟩; go_simp; with_reducible rfl⟩)
  refine ta_ 8 (some 48) hHeld ?_ (hy := Or.inl ⟨by rfl, by rintro w' ⟨s0, s1, s2, s3, s4⟩; go_simp; with_reducible rfl⟩)
  refine two_ (i := 6) (j := 9) (Ni := some 46) (Nj := some 49) #[true, true, true, true, true, true, true, true, true, false, false, false, false, false, false, false, false, false] #[true, true, true, true, true, true, false, true, true, true, false, false, false, false, false, false, false, false] rfl rfl rfl rfl (by kernel_rfl) (by decide) (by decide) (fun K_ hK => ?_) (fun K_ hK => ?_)
  ·refine value_ (v := .slice (some ⟨wx5.heap.size, 0, none⟩) 1 1) (w1 := wx5.alloc (.cells #[.string mid] 9)) (by rfl) rfl ?_ ?_
   ·go_simp
   obtain ⟨wz1, hW, hvv⟩ : ∃ W, W = wx5.alloc (.cells #[.string mid] 9) ∧ Mt w0 W K t2 on (cb wx5.heap.size 9 #[.string mid] :: (A1 ++ R)) (cb (g10) 33 #[.int .i64 t1.tk.1, .int .i64 t1.tk.2] :: cb (g7 + 1) 59 #[.bool b.leaf, .int .i64 b.ver, .slice ka2 b.keys.length kc2, .slice ra2 b.refs.length rc2] :: cb (g7) 59 #[.bool a.leaf, .int .i64 a.ver, .slice ka1 a.keys.length kc1, .slice ra1 a.refs.length rc1] :: cb (w.heap.size + 1) 33 #[.int .i64 0, .int .i64 0] :: cb (w.heap.size) 33 #[.int .i64 r.1, .int .i64 r.2] :: L) := ⟨_, rfl, Mt.toR (HD5.out.alloc _)⟩
   rw [← hW]
   have HZ1 := As hvv
   clear hW hvv
   refine hK.out _ _ (SP5.out _ _ _ _ HZ1.out (by simp) (by simp)) (fun hHeld => ?_)
   clear hK K_
   refine nm_ ?_
   refine on_ 9 (some 49) fun K_ hK => ?_
   refine value_ (v := .slice (some ⟨wz1.heap.size, 0, none⟩) 2 2) (w1 := wz1.alloc (.cells #[.int .i64 r.1, .int .i64 r.2, .int .i64 t1.tk.1, .int .i64 t1.tk.2] 33)) (by rfl) rfl ?_ ?_
   ·go_simp
   obtain ⟨wz2, hW, hvv⟩ : ∃ W, W = wz1.alloc (.cells #[.int .i64 r.1, .int .i64 r.2, .int .i64 t1.tk.1, .int .i64 t1.tk.2] 33) ∧ Mt w0 W K t2 on (cb wz1.heap.size 33 #[.int .i64 r.1, .int .i64 r.2, .int .i64 t1.tk.1, .int .i64 t1.tk.2] :: cb wx5.heap.size 9 #[.string mid] :: (A1 ++ R)) (cb (g10) 33 #[.int .i64 t1.tk.1, .int .i64 t1.tk.2] :: cb (g7 + 1) 59 #[.bool b.leaf, .int .i64 b.ver, .slice ka2 b.keys.length kc2, .slice ra2 b.refs.length rc2] :: cb (g7) 59 #[.bool a.leaf, .int .i64 a.ver, .slice ka1 a.keys.length kc1, .slice ra1 a.refs.length rc1] :: cb (w.heap.size + 1) 33 #[.int .i64 0, .int .i64 0] :: cb (w.heap.size) 33 #[.int .i64 r.1, .int .i64 r.2] :: L) := ⟨_, rfl, Mt.toR (HZ1.out.alloc _)⟩
   rw [← hW]
   have HZ2 := As hvv
   clear hW hvv
   refine hK.out _ _ (SP5.out _ _ _ _ HZ2.out (by simp) (by simp)) (fun hHeld => ?_)
   clear hK K_
   refine nm_ ?_
   refine pu_ 10 (some 50) ?_
   refine on_ 11 (some 51) fun K_ hK => ?_
   refine gs_ Try.func108 #[.pointer (some ⟨K.2.1, 0, none⟩), .agg #[.bool false, .int .i64 1, .slice (some ⟨wx5.heap.size, 0, none⟩) 1 1, .slice (some ⟨wz1.heap.size, 0, none⟩) 2 2]] ?_
   refine (Mt.Take HZ2.out (n := ⟨false, 1, [mid], [r, t1.tk]⟩) ⟨some ⟨wx5.heap.size, 0, none⟩, 1, some ⟨wz1.heap.size, 0, none⟩, 2, rfl, ⟨Rdy.of_rw (e := 9) (c := 1) ⟨rfl, Nat.le_refl _, fun _ => ⟨wx5.heap.size, 0, #[.string mid], rfl, by simp, fun i _ => by rw [Nat.zero_add]; simp⟩⟩, Rdy.of_rw (e := 33) (c := 2) ⟨rfl, Nat.le_refl _, fun _ => ⟨wz1.heap.size, 0, #[.int .i64 r.1, .int .i64 r.2, .int .i64 t1.tk.1, .int .i64 t1.tk.2], rfl, by simp, fun i _ => by rw [Nat.zero_add]; simp [rcel]⟩⟩, Nat.le_refl _, Nat.le_refl _⟩⟩).mono ?_
   rintro e9 wz3 ⟨er2, rfl, hh⟩
   refine ⟨_, rfl, ?_⟩
   have HZ3 := As hh
   clear hh
   refine hK.out _ _ (SP5.out _ _ _ _ HZ3.out (by simp) (by simp)) (fun hHeld => ?_)
   clear hK K_
   refine nm_ ?_
   refine pu_ 12 (some 39) ?_
   refine pu_ 13 (some 52) ?_
   refine pu_ 14 (some 53) ?_
   refine pu_ 15 (some 54) ?_
   refine pu_ 16 (some 55) ?_
   refine la_ 17 none fun K_ hK => ?_
   obtain ⟨-, c1, c2, -, cf1, cf2, -⟩ := HZ3.out.cells
   refine sk_ (hK.out _ _ ?_)
   clear hK K_ c1 c2 cf1 cf2
   obtain ⟨wz4, hW, hvv⟩ : ∃ W, W = _ ∧ Mt w0 W K { t2.take ⟨false, 1, [mid], [r, t1.tk]⟩ with root := t2.tk } on (cb wz1.heap.size 33 #[.int .i64 r.1, .int .i64 r.2, .int .i64 t1.tk.1, .int .i64 t1.tk.2] :: cb wx5.heap.size 9 #[.string mid] :: (A1 ++ R)) (cb (g10) 33 #[.int .i64 t1.tk.1, .int .i64 t1.tk.2] :: cb (g7 + 1) 59 #[.bool b.leaf, .int .i64 b.ver, .slice ka2 b.keys.length kc2, .slice ra2 b.refs.length rc2] :: cb (g7) 59 #[.bool a.leaf, .int .i64 a.ver, .slice ka1 a.keys.length kc1, .slice ra1 a.refs.length rc1] :: cb (w.heap.size + 1) 33 #[.int .i64 0, .int .i64 0] :: cb (w.heap.size) 33 #[.int .i64 r.1, .int .i64 r.2] :: L) := ⟨_, rfl, HZ3.out.setRoot t2.tk⟩
   rw [← hW]
   have HZ4 := As hvv
   clear hW hvv
   refine done_ (by kernel_rfl) ?_
   obtain ⟨t10_0, t10_1, t10_f0, t10_f1⟩ := HZ4.out.other.c2 (g10) 33 (.int .i64 t1.tk.1) (.int .i64 t1.tk.2) (by simp)
   obtain ⟨t6_0, t6_1, t6_f0, t6_f1⟩ := HZ4.out.other.c2 (w.heap.size + 1) 33 (.int .i64 0) (.int .i64 0) (by simp)
   go_wp2_with fail
   obtain ⟨wg, hw, hg⟩ : ∃ wg, wg = _ ∧ Mt w0 wg K { t2.take ⟨false, 1, [mid], [r, t1.tk]⟩ with root := t2.tk } on (cb wz1.heap.size 33 #[.int .i64 r.1, .int .i64 r.2, .int .i64 t1.tk.1, .int .i64 t1.tk.2] :: cb wx5.heap.size 9 #[.string mid] :: (A1 ++ R)) (cb (g10) 33 #[.int .i64 t1.tk.1, .int .i64 t1.tk.2] :: cb (g7 + 1) 59 #[.bool b.leaf, .int .i64 b.ver, .slice ka2 b.keys.length kc2, .slice ra2 b.refs.length rc2] :: cb (g7) 59 #[.bool a.leaf, .int .i64 a.ver, .slice ka1 a.keys.length kc1, .slice ra1 a.refs.length rc1] :: cb (w.heap.size + 1) 33 #[.int .i64 t1.tk.1, .int .i64 t1.tk.2] :: cb (w.heap.size) 33 #[.int .i64 r.1, .int .i64 r.2] :: L) := ⟨_, rfl, (Mt.put (X := [_, _, _]) (Mt.put (X := [_, _, _]) HZ4.out 0 (.int .i64 t1.tk.1) rfl) 1 (.int .i64 t1.tk.2) rfl)⟩
   rw [← hw]
   obtain ⟨e0, e1, -, -⟩ := hg.other.c2 (w.heap.size + 1) 33 (.int .i64 t1.tk.1) (.int .i64 t1.tk.2) (by simp)
   have hF : t.split r none = ({ t2.take ⟨false, 1, [mid], [r, t1.tk]⟩ with root := t2.tk }, t1.tk) := by unfold Tm.split; rw [HE.out.1, HE.out.2.1]; simp only []; rw [HE.out.2.2.1, HE.out.2.2.2]
   exact bodyPost_ret (v := .agg #[.int .i64 t1.tk.1, .int .i64 t1.tk.2]) (by simp [results, Try.results120, go_sem, e0, e1, hu33]) rfl ⟨by rw [hF], [cb wz1.heap.size 33 #[.int .i64 r.1, .int .i64 r.2, .int .i64 t1.tk.1, .int .i64 t1.tk.2], cb wx5.heap.size 9 #[.string mid]] ++ A1, by rw [hF]; exact hg.tail.tail.tail.tail.tail⟩
  ·refine value_ (v := .slice (some ⟨wx5.heap.size, 0, none⟩) 2 2) (w1 := wx5.alloc (.cells #[.int .i64 r.1, .int .i64 r.2, .int .i64 t1.tk.1, .int .i64 t1.tk.2] 33)) (by rfl) rfl ?_ ?_
   ·go_simp
   obtain ⟨wz1, hW, hvv⟩ : ∃ W, W = wx5.alloc (.cells #[.int .i64 r.1, .int .i64 r.2, .int .i64 t1.tk.1, .int .i64 t1.tk.2] 33) ∧ Mt w0 W K t2 on (cb wx5.heap.size 33 #[.int .i64 r.1, .int .i64 r.2, .int .i64 t1.tk.1, .int .i64 t1.tk.2] :: (A1 ++ R)) (cb (g10) 33 #[.int .i64 t1.tk.1, .int .i64 t1.tk.2] :: cb (g7 + 1) 59 #[.bool b.leaf, .int .i64 b.ver, .slice ka2 b.keys.length kc2, .slice ra2 b.refs.length rc2] :: cb (g7) 59 #[.bool a.leaf, .int .i64 a.ver, .slice ka1 a.keys.length kc1, .slice ra1 a.refs.length rc1] :: cb (w.heap.size + 1) 33 #[.int .i64 0, .int .i64 0] :: cb (w.heap.size) 33 #[.int .i64 r.1, .int .i64 r.2] :: L) := ⟨_, rfl, Mt.toR (HD5.out.alloc _)⟩
   rw [← hW]
   have HZ1 := As hvv
   clear hW hvv
   refine hK.out _ _ (SP5.out _ _ _ _ HZ1.out (by simp) (by simp)) (fun hHeld => ?_)
   clear hK K_
   refine nm_ ?_
   refine on_ 6 (some 46) fun K_ hK => ?_
   refine value_ (v := .slice (some ⟨wz1.heap.size, 0, none⟩) 1 1) (w1 := wz1.alloc (.cells #[.string mid] 9)) (by rfl) rfl ?_ ?_
   ·go_simp
   obtain ⟨wz2, hW, hvv⟩ : ∃ W, W = wz1.alloc (.cells #[.string mid] 9) ∧ Mt w0 W K t2 on (cb wz1.heap.size 9 #[.string mid] :: cb wx5.heap.size 33 #[.int .i64 r.1, .int .i64 r.2, .int .i64 t1.tk.1, .int .i64 t1.tk.2] :: (A1 ++ R)) (cb (g10) 33 #[.int .i64 t1.tk.1, .int .i64 t1.tk.2] :: cb (g7 + 1) 59 #[.bool b.leaf, .int .i64 b.ver, .slice ka2 b.keys.length kc2, .slice ra2 b.refs.length rc2] :: cb (g7) 59 #[.bool a.leaf, .int .i64 a.ver, .slice ka1 a.keys.length kc1, .slice ra1 a.refs.length rc1] :: cb (w.heap.size + 1) 33 #[.int .i64 0, .int .i64 0] :: cb (w.heap.size) 33 #[.int .i64 r.1, .int .i64 r.2] :: L) := ⟨_, rfl, Mt.toR (HZ1.out.alloc _)⟩
   rw [← hW]
   have HZ2 := As hvv
   clear hW hvv
   refine hK.out _ _ (SP5.out _ _ _ _ HZ2.out (by simp) (by simp)) (fun hHeld => ?_)
   clear hK K_
   refine nm_ ?_
   refine pu_ 10 (some 50) ?_
   refine on_ 11 (some 51) fun K_ hK => ?_
   refine gs_ Try.func108 #[.pointer (some ⟨K.2.1, 0, none⟩), .agg #[.bool false, .int .i64 1, .slice (some ⟨wz1.heap.size, 0, none⟩) 1 1, .slice (some ⟨wx5.heap.size, 0, none⟩) 2 2]] ?_
   refine (Mt.Take HZ2.out (n := ⟨false, 1, [mid], [r, t1.tk]⟩) ⟨some ⟨wz1.heap.size, 0, none⟩, 1, some ⟨wx5.heap.size, 0, none⟩, 2, rfl, ⟨Rdy.of_rw (e := 9) (c := 1) ⟨rfl, Nat.le_refl _, fun _ => ⟨wz1.heap.size, 0, #[.string mid], rfl, by simp, fun i _ => by rw [Nat.zero_add]; simp⟩⟩, Rdy.of_rw (e := 33) (c := 2) ⟨rfl, Nat.le_refl _, fun _ => ⟨wx5.heap.size, 0, #[.int .i64 r.1, .int .i64 r.2, .int .i64 t1.tk.1, .int .i64 t1.tk.2], rfl, by simp, fun i _ => by rw [Nat.zero_add]; simp [rcel]⟩⟩, Nat.le_refl _, Nat.le_refl _⟩⟩).mono ?_
   rintro e9 wz3 ⟨er2, rfl, hh⟩
   refine ⟨_, rfl, ?_⟩
   have HZ3 := As hh
   clear hh
   refine hK.out _ _ (SP5.out _ _ _ _ HZ3.out (by simp) (by simp)) (fun hHeld => ?_)
   clear hK K_
   refine nm_ ?_
   refine pu_ 12 (some 39) ?_
   refine pu_ 13 (some 52) ?_
   refine pu_ 14 (some 53) ?_
   refine pu_ 15 (some 54) ?_
   refine pu_ 16 (some 55) ?_
   refine la_ 17 none fun K_ hK => ?_
   obtain ⟨-, c1, c2, -, cf1, cf2, -⟩ := HZ3.out.cells
   refine sk_ (hK.out _ _ ?_)
   clear hK K_ c1 c2 cf1 cf2
   obtain ⟨wz4, hW, hvv⟩ : ∃ W, W = _ ∧ Mt w0 W K { t2.take ⟨false, 1, [mid], [r, t1.tk]⟩ with root := t2.tk } on (cb wz1.heap.size 9 #[.string mid] :: cb wx5.heap.size 33 #[.int .i64 r.1, .int .i64 r.2, .int .i64 t1.tk.1, .int .i64 t1.tk.2] :: (A1 ++ R)) (cb (g10) 33 #[.int .i64 t1.tk.1, .int .i64 t1.tk.2] :: cb (g7 + 1) 59 #[.bool b.leaf, .int .i64 b.ver, .slice ka2 b.keys.length kc2, .slice ra2 b.refs.length rc2] :: cb (g7) 59 #[.bool a.leaf, .int .i64 a.ver, .slice ka1 a.keys.length kc1, .slice ra1 a.refs.length rc1] :: cb (w.heap.size + 1) 33 #[.int .i64 0, .int .i64 0] :: cb (w.heap.size) 33 #[.int .i64 r.1, .int .i64 r.2] :: L) := ⟨_, rfl, HZ3.out.setRoot t2.tk⟩
   rw [← hW]
   have HZ4 := As hvv
   clear hW hvv
   refine done_ (by kernel_rfl) ?_
   obtain ⟨t10_0, t10_1, t10_f0, t10_f1⟩ := HZ4.out.other.c2 (g10) 33 (.int .i64 t1.tk.1) (.int .i64 t1.tk.2) (by simp)
   obtain ⟨t6_0, t6_1, t6_f0, t6_f1⟩ := HZ4.out.other.c2 (w.heap.size + 1) 33 (.int .i64 0) (.int .i64 0) (by simp)
   go_wp2_with fail
   obtain ⟨wg, hw, hg⟩ : ∃ wg, wg = _ ∧ Mt w0 wg K { t2.take ⟨false, 1, [mid], [r, t1.tk]⟩ with root := t2.tk } on (cb wz1.heap.size 9 #[.string mid] :: cb wx5.heap.size 33 #[.int .i64 r.1, .int .i64 r.2, .int .i64 t1.tk.1, .int .i64 t1.tk.2] :: (A1 ++ R)) (cb (g10) 33 #[.int .i64 t1.tk.1, .int .i64 t1.tk.2] :: cb (g7 + 1) 59 #[.bool b.leaf, .int .i64 b.ver, .slice ka2 b.keys.length kc2, .slice ra2 b.refs.length rc2] :: cb (g7) 59 #[.bool a.leaf, .int .i64 a.ver, .slice ka1 a.keys.length kc1, .slice ra1 a.refs.length rc1] :: cb (w.heap.size + 1) 33 #[.int .i64 t1.tk.1, .int .i64 t1.tk.2] :: cb (w.heap.size) 33 #[.int .i64 r.1, .int .i64 r.2] :: L) := ⟨_, rfl, (Mt.put (X := [_, _, _]) (Mt.put (X := [_, _, _]) HZ4.out 0 (.int .i64 t1.tk.1) rfl) 1 (.int .i64 t1.tk.2) rfl)⟩
   rw [← hw]
   obtain ⟨e0, e1, -, -⟩ := hg.other.c2 (w.heap.size + 1) 33 (.int .i64 t1.tk.1) (.int .i64 t1.tk.2) (by simp)
   have hF : t.split r none = ({ t2.take ⟨false, 1, [mid], [r, t1.tk]⟩ with root := t2.tk }, t1.tk) := by unfold Tm.split; rw [HE.out.1, HE.out.2.1]; simp only []; rw [HE.out.2.2.1, HE.out.2.2.2]
   exact bodyPost_ret (v := .agg #[.int .i64 t1.tk.1, .int .i64 t1.tk.2]) (by simp [results, Try.results120, go_sem, e0, e1, hu33]) rfl ⟨by rw [hF], [cb wz1.heap.size 9 #[.string mid], cb wx5.heap.size 33 #[.int .i64 r.1, .int .i64 r.2, .int .i64 t1.tk.1, .int .i64 t1.tk.2]] ++ A1, by rw [hF]; exact hg.tail.tail.tail.tail.tail⟩
 ·refine value_ (v := .pointer (some ⟨wx3.heap.size, 0, none⟩)) (w1 := wx3.alloc (.cells #[.int .i64 0, .int .i64 0] 33)) (by rfl) rfl ?_ ?_
  ·go_simp
  obtain ⟨wy1, hW, hvv⟩ : ∃ W, W = wx3.alloc (.cells #[.int .i64 0, .int .i64 0] 33) ∧ Mt w0 W K t1 on (A1 ++ R) (cb (wx3.heap.size) 33 #[.int .i64 0, .int .i64 0] :: cb (g7 + 1) 59 #[.bool b.leaf, .int .i64 b.ver, .slice ka2 b.keys.length kc2, .slice ra2 b.refs.length rc2] :: cb (g7) 59 #[.bool a.leaf, .int .i64 a.ver, .slice ka1 a.keys.length kc1, .slice ra1 a.refs.length rc1] :: cb (w.heap.size + 1) 33 #[.int .i64 0, .int .i64 0] :: cb (w.heap.size) 33 #[.int .i64 r.1, .int .i64 r.2] :: L) := ⟨_, rfl, HD3.out.alloc _⟩
  rw [← hW]
  have HY1 := As hvv
  clear hW hvv
  refine hK.out _ _ (SP3.out _ _ _ _ HY1.out (by simp)) (fun hHeld => ?_)
  clear hK K_
  refine nm_ ?_
  refine on_ 5 (some 34) fun K_ hK => ?_
  refine gs_ Try.func108 #[.pointer (some ⟨K.2.1, 0, none⟩), .agg #[.bool b.leaf, .int .i64 b.ver, .slice ka2 b.keys.length kc2, .slice ra2 b.refs.length rc2]] ?_
  refine (Mt.Take HY1.out (n := b) ⟨ka2, kc2, ra2, rc2, rfl, HR1.out.2⟩).mono ?_
  rw [HE.out.2.2.2]
  rintro e9 wy2 ⟨er, rfl, hh⟩
  refine ⟨_, rfl, ?_⟩
  have HY2 := As (show Mt w0 wy2 K t2 on (A1 ++ R) (cb (wx3.heap.size) 33 #[.int .i64 0, .int .i64 0] :: cb (g7 + 1) 59 #[.bool b.leaf, .int .i64 b.ver, .slice ka2 b.keys.length kc2, .slice ra2 b.refs.length rc2] :: cb (g7) 59 #[.bool a.leaf, .int .i64 a.ver, .slice ka1 a.keys.length kc1, .slice ra1 a.refs.length rc1] :: cb (w.heap.size + 1) 33 #[.int .i64 0, .int .i64 0] :: cb (w.heap.size) 33 #[.int .i64 r.1, .int .i64 r.2] :: L) from hh)
  clear hh
  refine hK.out _ _ (SP3.out _ _ _ _ HY2.out (by simp)) (fun hHeld => ?_)
  clear hK K_
  refine nm_ ?_
  refine pu_ 6 (some 28) ?_
  refine pu_ 7 (some 35) ?_
  refine pu_ 8 (some 36) ?_
  refine la_ 10 none fun K_ hK => ?_
  obtain ⟨b0, b1, d0, d1⟩ := HY2.out.other.c2 (wx3.heap.size) 33 (.int .i64 0) (.int .i64 0) List.mem_cons_self
  refine sk_ (hK.out _ _ ?_)
  clear hK K_ b0 b1 d0 d1
  obtain ⟨wy3, hW, hvv⟩ : ∃ W, W = _ ∧ Mt w0 W K t2 on (A1 ++ R) (cb (wx3.heap.size) 33 #[.int .i64 t1.tk.1, .int .i64 t1.tk.2] :: cb (g7 + 1) 59 #[.bool b.leaf, .int .i64 b.ver, .slice ka2 b.keys.length kc2, .slice ra2 b.refs.length rc2] :: cb (g7) 59 #[.bool a.leaf, .int .i64 a.ver, .slice ka1 a.keys.length kc1, .slice ra1 a.refs.length rc1] :: cb (w.heap.size + 1) 33 #[.int .i64 0, .int .i64 0] :: cb (w.heap.size) 33 #[.int .i64 r.1, .int .i64 r.2] :: L) := ⟨_, rfl, (Mt.putB0 (Mt.putB0 HY2.out 0 (.int .i64 t1.tk.1) rfl) 1 (.int .i64 t1.tk.2) rfl)⟩
  rw [← hW]
  have HY3 := As hvv
  clear hW hvv
  refine pu_ 11 (some 11) ?_
  refine done_ (by kernel_rfl) ?_
  clear SP3
  generalize wx3.heap.size = g10 at HY3 ⊢
  have H6 := As (show Mt w0 wy3 K t2 on (A1 ++ R) (cb (g10) 33 #[.int .i64 t1.tk.1, .int .i64 t1.tk.2] :: cb (g7 + 1) 59 #[.bool b.leaf, .int .i64 b.ver, .slice ka2 b.keys.length kc2, .slice ra2 b.refs.length rc2] :: cb (g7) 59 #[.bool a.leaf, .int .i64 a.ver, .slice ka1 a.keys.length kc1, .slice ra1 a.refs.length rc1] :: cb (w.heap.size + 1) 33 #[.int .i64 0, .int .i64 0] :: cb (w.heap.size) 33 #[.int .i64 r.1, .int .i64 r.2] :: L) from HY3.out)
  go_upto_region 5 with (fail)
  have SP5 := As (show ∀ (w' : World) (t' : Tm) (R' L' : List Ob), Mt w0 w' K t' on R' L' → cb (w.heap.size) 33 #[.int .i64 r.1, .int .i64 r.2] ∈ L' → cb (g10) 33 #[.int .i64 t1.tk.1, .int .i64 t1.tk.2] ∈ L' → (w'.cell? ⟨K.1, 0, none⟩ = some (.pointer (some ⟨K.2.1, 0, none⟩)) ∧ w'.cell? ⟨w.heap.size, 0, none⟩ = some (.int .i64 r.1) ∧ w'.cell? ⟨w.heap.size, 1, none⟩ = some (.int .i64 r.2) ∧ w'.cell? ⟨g10, 0, none⟩ = some (.int .i64 t1.tk.1) ∧ w'.cell? ⟨g10, 1, none⟩ = some (.int .i64 t1.tk.2)) from fun w' t' R' L' h m0 m1 => by
   obtain ⟨c0, -, -, -, -, -, -⟩ := h.cells
   obtain ⟨t4_0, t4_1, -, -⟩ := h.other.c2 _ _ _ _ m0
   obtain ⟨t10_0, t10_1, -, -⟩ := h.other.c2 _ _ _ _ m1
   exact ⟨c0, t4_0, t4_1, t10_0, t10_1⟩)
  have HD5 := As H6.out.drew
  refine start_ (n := 18) (S := fun w' => w'.cell? ⟨K.1, 0, none⟩ = some (.pointer (some ⟨K.2.1, 0, none⟩)) ∧ w'.cell? ⟨w.heap.size, 0, none⟩ = some (.int .i64 r.1) ∧ w'.cell? ⟨w.heap.size, 1, none⟩ = some (.int .i64 r.2) ∧ w'.cell? ⟨g10, 0, none⟩ = some (.int .i64 t1.tk.1) ∧ w'.cell? ⟨g10, 1, none⟩ = some (.int .i64 t1.tk.2)) (ds := [17]) #[false, false, false, false, false, false, false, false, false, false, false, false, false, false, false, false, false, false] (by kernel_rfl) rfl rfl (SP5.out _ _ _ _ HD5.out (by simp) (by simp)) (fun hHeld => ?_)
  generalize wy3.drew = wx5 at HD5 hHeld ⊢
  refine pu_ 0 (some 40) ?_
  refine pu_ 1 (some 41) ?_
  refine pu_ 2 (some 42) ?_
  refine pu_ 3 (some 43) ?_
  refine pu_ 5 (some 45) ?_
  refine ta_ 4 (some 44) hHeld ?_ (hy := Or.inl ⟨by rfl, by rintro w' ⟨s0, s1, s2, s3, s4⟩; go_simp; with_reducible rfl⟩)
  refine ta_ 7 (some 47) hHeld ?_ (hy := Or.inl ⟨by rfl, by rintro w' ⟨s0, s1, s2, s3, s4⟩; go_simp; with_reducible rfl⟩)
  refine ta_ 8 (some 48) hHeld ?_ (hy := Or.inl ⟨by rfl, by rintro w' ⟨s0, s1, s2, s3, s4⟩; go_simp; with_reducible rfl⟩)
  refine two_ (i := 6) (j := 9) (Ni := some 46) (Nj := some 49) #[true, true, true, true, true, true, true, true, true, false, false, false, false, false, false, false, false, false] #[true, true, true, true, true, true, false, true, true, true, false, false, false, false, false, false, false, false] rfl rfl rfl rfl (by kernel_rfl) (by decide) (by decide) (fun K_ hK => ?_) (fun K_ hK => ?_)
  ·refine value_ (v := .slice (some ⟨wx5.heap.size, 0, none⟩) 1 1) (w1 := wx5.alloc (.cells #[.string mid] 9)) (by rfl) rfl ?_ ?_
   ·go_simp
   obtain ⟨wz1, hW, hvv⟩ : ∃ W, W = wx5.alloc (.cells #[.string mid] 9) ∧ Mt w0 W K t2 on (cb wx5.heap.size 9 #[.string mid] :: (A1 ++ R)) (cb (g10) 33 #[.int .i64 t1.tk.1, .int .i64 t1.tk.2] :: cb (g7 + 1) 59 #[.bool b.leaf, .int .i64 b.ver, .slice ka2 b.keys.length kc2, .slice ra2 b.refs.length rc2] :: cb (g7) 59 #[.bool a.leaf, .int .i64 a.ver, .slice ka1 a.keys.length kc1, .slice ra1 a.refs.length rc1] :: cb (w.heap.size + 1) 33 #[.int .i64 0, .int .i64 0] :: cb (w.heap.size) 33 #[.int .i64 r.1, .int .i64 r.2] :: L) := ⟨_, rfl, Mt.toR (HD5.out.alloc _)⟩
   rw [← hW]
   have HZ1 := As hvv
   clear hW hvv
   refine hK.out _ _ (SP5.out _ _ _ _ HZ1.out (by simp) (by simp)) (fun hHeld => ?_)
   clear hK K_
   refine nm_ ?_
   refine on_ 9 (some 49) fun K_ hK => ?_
   refine value_ (v := .slice (some ⟨wz1.heap.size, 0, none⟩) 2 2) (w1 := wz1.alloc (.cells #[.int .i64 r.1, .int .i64 r.2, .int .i64 t1.tk.1, .int .i64 t1.tk.2] 33)) (by rfl) rfl ?_ ?_
   ·go_simp
   obtain ⟨wz2, hW, hvv⟩ : ∃ W, W = wz1.alloc (.cells #[.int .i64 r.1, .int .i64 r.2, .int .i64 t1.tk.1, .int .i64 t1.tk.2] 33) ∧ Mt w0 W K t2 on (cb wz1.heap.size 33 #[.int .i64 r.1, .int .i64 r.2, .int .i64 t1.tk.1, .int .i64 t1.tk.2] :: cb wx5.heap.size 9 #[.string mid] :: (A1 ++ R)) (cb (g10) 33 #[.int .i64 t1.tk.1, .int .i64 t1.tk.2] :: cb (g7 + 1) 59 #[.bool b.leaf, .int .i64 b.ver, .slice ka2 b.keys.length kc2, .slice ra2 b.refs.length rc2] :: cb (g7) 59 #[.bool a.leaf, .int .i64 a.ver, .slice ka1 a.keys.length kc1, .slice ra1 a.refs.length rc1] :: cb (w.heap.size + 1) 33 #[.int .i64 0, .int .i64 0] :: cb (w.heap.size) 33 #[.int .i64 r.1, .int .i64 r.2] :: L) := ⟨_, rfl, Mt.toR (HZ1.out.alloc _)⟩
   rw [← hW]
   have HZ2 := As hvv
   clear hW hvv
   refine hK.out _ _ (SP5.out _ _ _ _ HZ2.out (by simp) (by simp)) (fun hHeld => ?_)
   clear hK K_
   refine nm_ ?_
   refine pu_ 10 (some 50) ?_
   refine on_ 11 (some 51) fun K_ hK => ?_
   refine gs_ Try.func108 #[.pointer (some ⟨K.2.1, 0, none⟩), .agg #[.bool false, .int .i64 1, .slice (some ⟨wx5.heap.size, 0, none⟩) 1 1, .slice (some ⟨wz1.heap.size, 0, none⟩) 2 2]] ?_
   refine (Mt.Take HZ2.out (n := ⟨false, 1, [mid], [r, t1.tk]⟩) ⟨some ⟨wx5.heap.size, 0, none⟩, 1, some ⟨wz1.heap.size, 0, none⟩, 2, rfl, ⟨Rdy.of_rw (e := 9) (c := 1) ⟨rfl, Nat.le_refl _, fun _ => ⟨wx5.heap.size, 0, #[.string mid], rfl, by simp, fun i _ => by rw [Nat.zero_add]; simp⟩⟩, Rdy.of_rw (e := 33) (c := 2) ⟨rfl, Nat.le_refl _, fun _ => ⟨wz1.heap.size, 0, #[.int .i64 r.1, .int .i64 r.2, .int .i64 t1.tk.1, .int .i64 t1.tk.2], rfl, by simp, fun i _ => by rw [Nat.zero_add]; simp [rcel]⟩⟩, Nat.le_refl _, Nat.le_refl _⟩⟩).mono ?_
   rintro e9 wz3 ⟨er2, rfl, hh⟩
   refine ⟨_, rfl, ?_⟩
   have HZ3 := As hh
   clear hh
   refine hK.out _ _ (SP5.out _ _ _ _ HZ3.out (by simp) (by simp)) (fun hHeld => ?_)
   clear hK K_
   refine nm_ ?_
   refine pu_ 12 (some 39) ?_
   refine pu_ 13 (some 52) ?_
   refine pu_ 14 (some 53) ?_
   refine pu_ 15 (some 54) ?_
   refine pu_ 16 (some 55) ?_
   refine la_ 17 none fun K_ hK => ?_
   obtain ⟨-, c1, c2, -, cf1, cf2, -⟩ := HZ3.out.cells
   refine sk_ (hK.out _ _ ?_)
   clear hK K_ c1 c2 cf1 cf2
   obtain ⟨wz4, hW, hvv⟩ : ∃ W, W = _ ∧ Mt w0 W K { t2.take ⟨false, 1, [mid], [r, t1.tk]⟩ with root := t2.tk } on (cb wz1.heap.size 33 #[.int .i64 r.1, .int .i64 r.2, .int .i64 t1.tk.1, .int .i64 t1.tk.2] :: cb wx5.heap.size 9 #[.string mid] :: (A1 ++ R)) (cb (g10) 33 #[.int .i64 t1.tk.1, .int .i64 t1.tk.2] :: cb (g7 + 1) 59 #[.bool b.leaf, .int .i64 b.ver, .slice ka2 b.keys.length kc2, .slice ra2 b.refs.length rc2] :: cb (g7) 59 #[.bool a.leaf, .int .i64 a.ver, .slice ka1 a.keys.length kc1, .slice ra1 a.refs.length rc1] :: cb (w.heap.size + 1) 33 #[.int .i64 0, .int .i64 0] :: cb (w.heap.size) 33 #[.int .i64 r.1, .int .i64 r.2] :: L) := ⟨_, rfl, HZ3.out.setRoot t2.tk⟩
   rw [← hW]
   have HZ4 := As hvv
   clear hW hvv
   refine done_ (by kernel_rfl) ?_
   obtain ⟨t10_0, t10_1, t10_f0, t10_f1⟩ := HZ4.out.other.c2 (g10) 33 (.int .i64 t1.tk.1) (.int .i64 t1.tk.2) (by simp)
   obtain ⟨t6_0, t6_1, t6_f0, t6_f1⟩ := HZ4.out.other.c2 (w.heap.size + 1) 33 (.int .i64 0) (.int .i64 0) (by simp)
   go_wp2_with fail
   obtain ⟨wg, hw, hg⟩ : ∃ wg, wg = _ ∧ Mt w0 wg K { t2.take ⟨false, 1, [mid], [r, t1.tk]⟩ with root := t2.tk } on (cb wz1.heap.size 33 #[.int .i64 r.1, .int .i64 r.2, .int .i64 t1.tk.1, .int .i64 t1.tk.2] :: cb wx5.heap.size 9 #[.string mid] :: (A1 ++ R)) (cb (g10) 33 #[.int .i64 t1.tk.1, .int .i64 t1.tk.2] :: cb (g7 + 1) 59 #[.bool b.leaf, .int .i64 b.ver, .slice ka2 b.keys.length kc2, .slice ra2 b.refs.length rc2] :: cb (g7) 59 #[.bool a.leaf, .int .i64 a.ver, .slice ka1 a.keys.length kc1, .slice ra1 a.refs.length rc1] :: cb (w.heap.size + 1) 33 #[.int .i64 t1.tk.1, .int .i64 t1.tk.2] :: cb (w.heap.size) 33 #[.int .i64 r.1, .int .i64 r.2] :: L) := ⟨_, rfl, (Mt.put (X := [_, _, _]) (Mt.put (X := [_, _, _]) HZ4.out 0 (.int .i64 t1.tk.1) rfl) 1 (.int .i64 t1.tk.2) rfl)⟩
   rw [← hw]
   obtain ⟨e0, e1, -, -⟩ := hg.other.c2 (w.heap.size + 1) 33 (.int .i64 t1.tk.1) (.int .i64 t1.tk.2) (by simp)
   have hF : t.split r none = ({ t2.take ⟨false, 1, [mid], [r, t1.tk]⟩ with root := t2.tk }, t1.tk) := by unfold Tm.split; rw [HE.out.1, HE.out.2.1]; simp only []; rw [HE.out.2.2.1, HE.out.2.2.2]
   exact bodyPost_ret (v := .agg #[.int .i64 t1.tk.1, .int .i64 t1.tk.2]) (by simp [results, Try.results120, go_sem, e0, e1, hu33]) rfl ⟨by rw [hF], [cb wz1.heap.size 33 #[.int .i64 r.1, .int .i64 r.2, .int .i64 t1.tk.1, .int .i64 t1.tk.2], cb wx5.heap.size 9 #[.string mid]] ++ A1, by rw [hF]; exact hg.tail.tail.tail.tail.tail⟩
  ·refine value_ (v := .slice (some ⟨wx5.heap.size, 0, none⟩) 2 2) (w1 := wx5.alloc (.cells #[.int .i64 r.1, .int .i64 r.2, .int .i64 t1.tk.1, .int .i64 t1.tk.2] 33)) (by rfl) rfl ?_ ?_
   ·go_simp
   obtain ⟨wz1, hW, hvv⟩ : ∃ W, W = wx5.alloc (.cells #[.int .i64 r.1, .int .i64 r.2, .int .i64 t1.tk.1, .int .i64 t1.tk.2] 33) ∧ Mt w0 W K t2 on (cb wx5.heap.size 33 #[.int .i64 r.1, .int .i64 r.2, .int .i64 t1.tk.1, .int .i64 t1.tk.2] :: (A1 ++ R)) (cb (g10) 33 #[.int .i64 t1.tk.1, .int .i64 t1.tk.2] :: cb (g7 + 1) 59 #[.bool b.leaf, .int .i64 b.ver, .slice ka2 b.keys.length kc2, .slice ra2 b.refs.length rc2] :: cb (g7) 59 #[.bool a.leaf, .int .i64 a.ver, .slice ka1 a.keys.length kc1, .slice ra1 a.refs.length rc1] :: cb (w.heap.size + 1) 33 #[.int .i64 0, .int .i64 0] :: cb (w.heap.size) 33 #[.int .i64 r.1, .int .i64 r.2] :: L) := ⟨_, rfl, Mt.toR (HD5.out.alloc _)⟩
   rw [← hW]
   have HZ1 := As hvv
   clear hW hvv
   refine hK.out _ _ (SP5.out _ _ _ _ HZ1.out (by simp) (by simp)) (fun hHeld => ?_)
   clear hK K_
   refine nm_ ?_
   refine on_ 6 (some 46) fun K_ hK => ?_
   refine value_ (v := .slice (some ⟨wz1.heap.size, 0, none⟩) 1 1) (w1 := wz1.alloc (.cells #[.string mid] 9)) (by rfl) rfl ?_ ?_
   ·go_simp
   obtain ⟨wz2, hW, hvv⟩ : ∃ W, W = wz1.alloc (.cells #[.string mid] 9) ∧ Mt w0 W K t2 on (cb wz1.heap.size 9 #[.string mid] :: cb wx5.heap.size 33 #[.int .i64 r.1, .int .i64 r.2, .int .i64 t1.tk.1, .int .i64 t1.tk.2] :: (A1 ++ R)) (cb (g10) 33 #[.int .i64 t1.tk.1, .int .i64 t1.tk.2] :: cb (g7 + 1) 59 #[.bool b.leaf, .int .i64 b.ver, .slice ka2 b.keys.length kc2, .slice ra2 b.refs.length rc2] :: cb (g7) 59 #[.bool a.leaf, .int .i64 a.ver, .slice ka1 a.keys.length kc1, .slice ra1 a.refs.length rc1] :: cb (w.heap.size + 1) 33 #[.int .i64 0, .int .i64 0] :: cb (w.heap.size) 33 #[.int .i64 r.1, .int .i64 r.2] :: L) := ⟨_, rfl, Mt.toR (HZ1.out.alloc _)⟩
   rw [← hW]
   have HZ2 := As hvv
   clear hW hvv
   refine hK.out _ _ (SP5.out _ _ _ _ HZ2.out (by simp) (by simp)) (fun hHeld => ?_)
   clear hK K_
   refine nm_ ?_
   refine pu_ 10 (some 50) ?_
   refine on_ 11 (some 51) fun K_ hK => ?_
   refine gs_ Try.func108 #[.pointer (some ⟨K.2.1, 0, none⟩), .agg #[.bool false, .int .i64 1, .slice (some ⟨wz1.heap.size, 0, none⟩) 1 1, .slice (some ⟨wx5.heap.size, 0, none⟩) 2 2]] ?_
   refine (Mt.Take HZ2.out (n := ⟨false, 1, [mid], [r, t1.tk]⟩) ⟨some ⟨wz1.heap.size, 0, none⟩, 1, some ⟨wx5.heap.size, 0, none⟩, 2, rfl, ⟨Rdy.of_rw (e := 9) (c := 1) ⟨rfl, Nat.le_refl _, fun _ => ⟨wz1.heap.size, 0, #[.string mid], rfl, by simp, fun i _ => by rw [Nat.zero_add]; simp⟩⟩, Rdy.of_rw (e := 33) (c := 2) ⟨rfl, Nat.le_refl _, fun _ => ⟨wx5.heap.size, 0, #[.int .i64 r.1, .int .i64 r.2, .int .i64 t1.tk.1, .int .i64 t1.tk.2], rfl, by simp, fun i _ => by rw [Nat.zero_add]; simp [rcel]⟩⟩, Nat.le_refl _, Nat.le_refl _⟩⟩).mono ?_
   rintro e9 wz3 ⟨er2, rfl, hh⟩
   refine ⟨_, rfl, ?_⟩
   have HZ3 := As hh
   clear hh
   refine hK.out _ _ (SP5.out _ _ _ _ HZ3.out (by simp) (by simp)) (fun hHeld => ?_)
   clear hK K_
   refine nm_ ?_
   refine pu_ 12 (some 39) ?_
   refine pu_ 13 (some 52) ?_
   refine pu_ 14 (some 53) ?_
   refine pu_ 15 (some 54) ?_
   refine pu_ 16 (some 55) ?_
   refine la_ 17 none fun K_ hK => ?_
   obtain ⟨-, c1, c2, -, cf1, cf2, -⟩ := HZ3.out.cells
   refine sk_ (hK.out _ _ ?_)
   clear hK K_ c1 c2 cf1 cf2
   obtain ⟨wz4, hW, hvv⟩ : ∃ W, W = _ ∧ Mt w0 W K { t2.take ⟨false, 1, [mid], [r, t1.tk]⟩ with root := t2.tk } on (cb wz1.heap.size 9 #[.string mid] :: cb wx5.heap.size 33 #[.int .i64 r.1, .int .i64 r.2, .int .i64 t1.tk.1, .int .i64 t1.tk.2] :: (A1 ++ R)) (cb (g10) 33 #[.int .i64 t1.tk.1, .int .i64 t1.tk.2] :: cb (g7 + 1) 59 #[.bool b.leaf, .int .i64 b.ver, .slice ka2 b.keys.length kc2, .slice ra2 b.refs.length rc2] :: cb (g7) 59 #[.bool a.leaf, .int .i64 a.ver, .slice ka1 a.keys.length kc1, .slice ra1 a.refs.length rc1] :: cb (w.heap.size + 1) 33 #[.int .i64 0, .int .i64 0] :: cb (w.heap.size) 33 #[.int .i64 r.1, .int .i64 r.2] :: L) := ⟨_, rfl, HZ3.out.setRoot t2.tk⟩
   rw [← hW]
   have HZ4 := As hvv
   clear hW hvv
   refine done_ (by kernel_rfl) ?_
   obtain ⟨t10_0, t10_1, t10_f0, t10_f1⟩ := HZ4.out.other.c2 (g10) 33 (.int .i64 t1.tk.1) (.int .i64 t1.tk.2) (by simp)
   obtain ⟨t6_0, t6_1, t6_f0, t6_f1⟩ := HZ4.out.other.c2 (w.heap.size + 1) 33 (.int .i64 0) (.int .i64 0) (by simp)
   go_wp2_with fail
   obtain ⟨wg, hw, hg⟩ : ∃ wg, wg = _ ∧ Mt w0 wg K { t2.take ⟨false, 1, [mid], [r, t1.tk]⟩ with root := t2.tk } on (cb wz1.heap.size 9 #[.string mid] :: cb wx5.heap.size 33 #[.int .i64 r.1, .int .i64 r.2, .int .i64 t1.tk.1, .int .i64 t1.tk.2] :: (A1 ++ R)) (cb (g10) 33 #[.int .i64 t1.tk.1, .int .i64 t1.tk.2] :: cb (g7 + 1) 59 #[.bool b.leaf, .int .i64 b.ver, .slice ka2 b.keys.length kc2, .slice ra2 b.refs.length rc2] :: cb (g7) 59 #[.bool a.leaf, .int .i64 a.ver, .slice ka1 a.keys.length kc1, .slice ra1 a.refs.length rc1] :: cb (w.heap.size + 1) 33 #[.int .i64 t1.tk.1, .int .i64 t1.tk.2] :: cb (w.heap.size) 33 #[.int .i64 r.1, .int .i64 r.2] :: L) := ⟨_, rfl, (Mt.put (X := [_, _, _]) (Mt.put (X := [_, _, _]) HZ4.out 0 (.int .i64 t1.tk.1) rfl) 1 (.int .i64 t1.tk.2) rfl)⟩
   rw [← hw]
   obtain ⟨e0, e1, -, -⟩ := hg.other.c2 (w.heap.size + 1) 33 (.int .i64 t1.tk.1) (.int .i64 t1.tk.2) (by simp)
   have hF : t.split r none = ({ t2.take ⟨false, 1, [mid], [r, t1.tk]⟩ with root := t2.tk }, t1.tk) := by unfold Tm.split; rw [HE.out.1, HE.out.2.1]; simp only []; rw [HE.out.2.2.1, HE.out.2.2.2]
   exact bodyPost_ret (v := .agg #[.int .i64 t1.tk.1, .int .i64 t1.tk.2]) (by simp [results, Try.results120, go_sem, e0, e1, hu33]) rfl ⟨by rw [hF], [cb wz1.heap.size 9 #[.string mid], cb wx5.heap.size 33 #[.int .i64 r.1, .int .i64 r.2, .int .i64 t1.tk.1, .int .i64 t1.tk.2]] ++ A1, by rw [hF]; exact hg.tail.tail.tail.tail.tail⟩
end Go.Proofs.Ytglbcfkmaamhaaa.Tr
