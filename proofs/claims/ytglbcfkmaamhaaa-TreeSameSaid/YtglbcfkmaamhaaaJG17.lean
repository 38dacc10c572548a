/- A text of this claim: parts TsH. No condition. -/
import Derived.Test.YtglbcfkmaamhaaaJG16
import Derived.Test.YtglbcfkmaamhaaaJG2
import Derived.Test.YtglbcfkmaamhaaaJG0
set_option linter.unusedVariables false
set_option linter.unusedSimpArgs false
set_option maxHeartbeats 16000000
set_option maxRecDepth 100000
namespace Go.Proofs.Ytglbcfkmaamhaaa.Tr
open Go Go.RowKit Go.Proofs.YtglbcfkmaamhaaaW.PrintWords Go.Proofs.YtglbcfkmaamhaaaW.PrintLast Go.Proofs.YtglbcfkmaamhaaaW.PrintMore Go.Proofs.Ytglbcfkmaamhaaa.Hv Go.Proofs.Ytglbcfkmaamhaaa.Arm Go.Proofs.Ytglbcfkmaamhaaa.Nd Go.Proofs.Ytglbcfkmaamhaaa.ArN
variable {w0 w w1 : World} {L L' R : List Ob} {K : Nat × Nat × Nat} {t : Tm} {on : Value}
theorem Mt.rd (h : Mt w0 w K t on R L) {size n : Nat} {ad : Option Addr} {xs : List Value} (hr : Rdy size w0 R ad n xs) : Rd size w ad n xs := by
 obtain ⟨Lf, hL, hRf, -, -⟩ := h.lens
 exact hr w Lf hL hRf
def refI (n : Nd.Nd) (i : Nat) : Rf := n.refs.getD i (0, 0)
def Tm.joinY (t : Tm) (up : Rf) (i : Nat) : Tm :=
 let p := t.at up
 let t1 := t.set (refI p i) ((t.at (refI p i)).join (p.keys.getD i ⟨#[]⟩) (t.at (refI p (i + 1))))
 let t2 := t1.set up (p.remove ((i : Int) + 1))
 t2.leave (refI p (i + 1))
def Tm.join (t : Tm) (up : Rf) (i : Int) : Tm × Rf × Bool :=
 if i < 0 ∨ ((t.at up).refs.length : Int) ≤ i + 1 then (t, (0, 0), false)
 else if 4 < (t.at (refI (t.at up) i.toNat)).refs.length + (t.at (refI (t.at up) (i.toNat + 1))).refs.length then (t, (0, 0), false)
 else (t.joinY up i.toNat, refI (t.at up) (i.toNat + 1), true)
def JoinP (w0 : World) (K : Nat × Nat × Nat) (on : Value) (L : List Ob) (s : Tm × Rf × Bool) (e : Ending) (w' : World) : Prop :=
 ∃ R, e = .returned (.tuple #[.agg #[.int .i64 s.2.1.1, .int .i64 s.2.1.2], .bool s.2.2]) ∧ Mt w0 w' K s.1 on R L
theorem join_ok {t : Tm} {up x0 x1 : Rf} {i : Nat} {p a b jn rm : Nd.Nd} {kx : ByteArray} {T1 T2 T3 : Tm} (hp : t.at up = p) (h0 : p.refs[i]? = some x0) (h1 : p.refs[i + 1]? = some x1) (hk : p.keys[i]? = some kx) (ha : t.at x0 = a) (hb : t.at x1 = b)
  (hin : ¬ ((i : Int) < 0 ∨ ((t.at up).refs.length : Int) ≤ (i : Int) + 1)) (hbig : ¬ 4 < a.refs.length + b.refs.length) (hj : a.join kx b = jn) (hr : p.remove ((i : Int) + 1) = rm) (hT1 : t.set x0 jn = T1) (hT2 : T1.set up rm = T2) (hT3 : T2.leave x1 = T3) : t.join up (i : Int) = (T3, x1, true) := by
 have e0 : refI (t.at up) i = x0 := by unfold refI; rw [hp, List.getD_eq_getElem?_getD, h0]; rfl
 have e1 : refI (t.at up) (i + 1) = x1 := by unfold refI; rw [hp, List.getD_eq_getElem?_getD, h1]; rfl
 have e2 : (t.at up).keys.getD i ⟨#[]⟩ = kx := by rw [hp, List.getD_eq_getElem?_getD, hk]; rfl
 unfold Tm.join
 rw [if_neg hin, Int.toNat_natCast, e0, e1, ha, hb, if_neg hbig]
 unfold Tm.joinY
 simp only []
 rw [e0, e1, e2, ha, hb, hj, hT1, hp, hr, hT2, hT3]
theorem wp_act {P : Program} {c : Code} {Q : Exit → Act → World → Prop} {a : Act} {w : World} (h : ∀ a', a' = a → c.wp P Q a' w) : c.wp P Q a w := h a rfl
theorem joinT.neg (h : Mt w0 w K t on R L) (up : Rf) (i : Int) (hi : i < 0) : Calls Try.prog 114 #[.pointer (some ⟨K.1, 0, none⟩), .agg #[.int .i64 up.1, .int .i64 up.2], .int .i64 i] w (JoinP w0 K on L (t, (0, 0), false)) := by
 have hu59 := Try.underlying59
 have hu33 := Try.underlying33
 have hu31 := Try.underlying31
 have hu57 := Try.underlying57
 have HM := As (show Mt w0 _ K t on R (cb (w.heap.size + 1) 33 #[.int .i64 0, .int .i64 0] :: cb w.heap.size 33 #[.int .i64 up.1, .int .i64 up.2] :: L) by
  have := (h.alloc (.cells #[.int .i64 up.1, .int .i64 up.2] 33)).alloc (.cells #[.int .i64 0, .int .i64 0] 33)
  simpa [cb] using this)
 obtain ⟨p, hp⟩ : ∃ p, t.at up = p := ⟨_, rfl⟩
 have HP := As hp
 clear h hp
 obtain ⟨y0, y1, -, -⟩ := HM.out.other.c2 w.heap.size 33 (.int .i64 up.1) (.int .i64 up.2) (by simp)
 go_enter Try.func114, Try.ntmps114
 go_upto_region 2 with (go_at_call 111; go_loud (refine (at.calls HM.out up).mono ?_; rintro e2 w2 ⟨v, rfl, hnv, hh⟩; rw [HP.out] at hnv; obtain ⟨kp, kcp, rp, rcp, ev, hr⟩ := hnv; have ev' : v = .agg #[.bool p.leaf, .int .i64 p.ver, .slice kp p.keys.length kcp, .slice rp p.refs.length rcp] := ev; subst ev'; clear ev; have HN := As hr; have H2 := As hh; clear hh hr))
 obtain ⟨W3, hW, hM⟩ : ∃ W, W = _ ∧ Mt w0 W K t on R (cb w2.heap.size 59 #[.bool p.leaf, .int .i64 p.ver, .slice kp p.keys.length kcp, .slice rp p.refs.length rcp] :: cb (w.heap.size + 1) 33 #[.int .i64 0, .int .i64 0] :: cb w.heap.size 33 #[.int .i64 up.1, .int .i64 up.2] :: L) := ⟨_, rfl, H2.out.alloc _⟩
 rw [← hW]
 have H3 := As hM
 clear hW hM y0 y1
 generalize w2.heap.size = g8 at H3 ⊢
 obtain ⟨p0, p1, p2, p3, -, -, -, -⟩ := H3.out.other.c4 g8 59 (.bool p.leaf) (.int .i64 p.ver) (.slice kp p.keys.length kcp) (.slice rp p.refs.length rcp) (by simp)
 obtain ⟨q0, q1, qf0, qf1⟩ := H3.out.other.c2 (w.heap.size + 1) 33 (.int .i64 0) (.int .i64 0) (by simp)
 go_wp2_with fail
 obtain ⟨wg, hw, hg⟩ : ∃ wg, wg = _ ∧ Mt w0 wg K t on R (cb g8 59 #[.bool p.leaf, .int .i64 p.ver, .slice kp p.keys.length kcp, .slice rp p.refs.length rcp] :: cb (w.heap.size + 1) 33 #[.int .i64 0, .int .i64 0] :: cb w.heap.size 33 #[.int .i64 up.1, .int .i64 up.2] :: L) := ⟨_, rfl, ((H3.out.putB1 0 _ rfl).putB1 1 _ rfl)⟩
 rw [← hw]
 obtain ⟨e0, e1, -, -⟩ := hg.other.c2 (w.heap.size + 1) 33 (.int .i64 0) (.int .i64 0) (by simp)
 exact bodyPost_ret (v := .tuple #[.agg #[.int .i64 0, .int .i64 0], .bool false]) (by simp [results, Try.results114, go_sem, e0, e1, hu33]) rfl ⟨R, rfl, hg.drop (by repeat (first | exact List.Sublist.refl _ | exact List.sublist_cons_self _ _ | refine List.Sublist.trans ?_ (List.sublist_cons_self _ _)))⟩
theorem joinT.end (h : Mt w0 w K t on R L) (up : Rf) (i : Int) (hi : 0 ≤ i) (hb : i ≤ 1000000) (hi2 : ((t.at up).refs.length : Int) ≤ i + 1) : Calls Try.prog 114 #[.pointer (some ⟨K.1, 0, none⟩), .agg #[.int .i64 up.1, .int .i64 up.2], .int .i64 i] w (JoinP w0 K on L (t, (0, 0), false)) := by
 have hu59 := Try.underlying59
 have hu33 := Try.underlying33
 have hu31 := Try.underlying31
 have hu57 := Try.underlying57
 have HM := As (show Mt w0 _ K t on R (cb (w.heap.size + 1) 33 #[.int .i64 0, .int .i64 0] :: cb w.heap.size 33 #[.int .i64 up.1, .int .i64 up.2] :: L) by
  have := (h.alloc (.cells #[.int .i64 up.1, .int .i64 up.2] 33)).alloc (.cells #[.int .i64 0, .int .i64 0] 33)
  simpa [cb] using this)
 obtain ⟨p, hp⟩ : ∃ p, t.at up = p := ⟨_, rfl⟩
 have HP := As hp
 rw [hp] at hi2
 have hlt : ¬ i < 0 := by omega
 have ew : wrap64 (i + 1) = i + 1 := by unfold wrap64; omega
 have ew' : IntKind.i64.wrap (i + 1) = i + 1 := by rw [IntKind.wrap_i64]; omega
 have hge : i + 1 ≥ (p.refs.length : Int) := by omega
 clear h hp
 obtain ⟨y0, y1, -, -⟩ := HM.out.other.c2 w.heap.size 33 (.int .i64 up.1) (.int .i64 up.2) (by simp)
 go_enter Try.func114, Try.ntmps114
 go_upto_region 2 with (go_at_call 111; go_loud (refine (at.calls HM.out up).mono ?_; rintro e2 w2 ⟨v, rfl, hnv, hh⟩; rw [HP.out] at hnv; obtain ⟨kp, kcp, rp, rcp, ev, hr⟩ := hnv; have ev' : v = .agg #[.bool p.leaf, .int .i64 p.ver, .slice kp p.keys.length kcp, .slice rp p.refs.length rcp] := ev; subst ev'; clear ev; have HN := As hr; have H2 := As hh; clear hh hr))
 obtain ⟨W3, hW, hM⟩ : ∃ W, W = _ ∧ Mt w0 W K t on R (cb w2.heap.size 59 #[.bool p.leaf, .int .i64 p.ver, .slice kp p.keys.length kcp, .slice rp p.refs.length rcp] :: cb (w.heap.size + 1) 33 #[.int .i64 0, .int .i64 0] :: cb w.heap.size 33 #[.int .i64 up.1, .int .i64 up.2] :: L) := ⟨_, rfl, H2.out.alloc _⟩
 rw [← hW]
 have H3 := As hM
 clear hW hM y0 y1
 generalize w2.heap.size = g8 at H3 ⊢
 obtain ⟨p0, p1, p2, p3, -, -, -, -⟩ := H3.out.other.c4 g8 59 (.bool p.leaf) (.int .i64 p.ver) (.slice kp p.keys.length kcp) (.slice rp p.refs.length rcp) (by simp)
 obtain ⟨q0, q1, qf0, qf1⟩ := H3.out.other.c2 (w.heap.size + 1) 33 (.int .i64 0) (.int .i64 0) (by simp)
 go_wp2_with fail
 obtain ⟨wg, hw, hg⟩ : ∃ wg, wg = _ ∧ Mt w0 wg K t on R (cb g8 59 #[.bool p.leaf, .int .i64 p.ver, .slice kp p.keys.length kcp, .slice rp p.refs.length rcp] :: cb (w.heap.size + 1) 33 #[.int .i64 0, .int .i64 0] :: cb w.heap.size 33 #[.int .i64 up.1, .int .i64 up.2] :: L) := ⟨_, rfl, ((H3.out.putB1 0 _ rfl).putB1 1 _ rfl)⟩
 rw [← hw]
 obtain ⟨e0, e1, -, -⟩ := hg.other.c2 (w.heap.size + 1) 33 (.int .i64 0) (.int .i64 0) (by simp)
 exact bodyPost_ret (v := .tuple #[.agg #[.int .i64 0, .int .i64 0], .bool false]) (by simp [results, Try.results114, go_sem, e0, e1, hu33]) rfl ⟨R, rfl, hg.drop (by repeat (first | exact List.Sublist.refl _ | exact List.sublist_cons_self _ _ | refine List.Sublist.trans ?_ (List.sublist_cons_self _ _)))⟩
theorem joinT.in (h : Mt w0 w K t on R L) (up : Rf) (i : Nat) (hk : i + 1 < (t.at up).refs.length) (hok : Nd.Ok (t.at up)) (hsh : (t.at up).keys.length + 1 = (t.at up).refs.length) (hbd : Bd t 1000000) (hg : t.gone.length < 1000000) : Calls Try.prog 114 #[.pointer (some ⟨K.1, 0, none⟩), .agg #[.int .i64 up.1, .int .i64 up.2], .int .i64 (i : Int)] w (JoinP w0 K on L (t.join up (i : Int))) := by
 have hu59 := Try.underlying59
 have hu33 := Try.underlying33
 have hu31 := Try.underlying31
 have hu57 := Try.underlying57
 have HM := As (show Mt w0 _ K t on R (cb (w.heap.size + 1) 33 #[.int .i64 0, .int .i64 0] :: cb w.heap.size 33 #[.int .i64 up.1, .int .i64 up.2] :: L) by
  have := (h.alloc (.cells #[.int .i64 up.1, .int .i64 up.2] 33)).alloc (.cells #[.int .i64 0, .int .i64 0] 33)
  simpa [cb] using this)
 obtain ⟨p, hp⟩ : ∃ p, t.at up = p := ⟨_, rfl⟩
 have HP := As hp
 rw [hp] at hk hok hsh
 obtain ⟨x0, hx0⟩ : ∃ x, p.refs[i]? = some x := ⟨_, List.getElem?_eq_getElem (by omega)⟩
 obtain ⟨x1, hx1⟩ : ∃ x, p.refs[i + 1]? = some x := ⟨_, List.getElem?_eq_getElem hk⟩
 obtain ⟨kx, hkx⟩ : ∃ x, p.keys[i]? = some x := ⟨_, List.getElem?_eq_getElem (by omega)⟩
 obtain ⟨a, ha⟩ : ∃ a, t.at x0 = a := ⟨_, rfl⟩
 obtain ⟨b, hb⟩ : ∃ b, t.at x1 = b := ⟨_, rfl⟩
 have HX := As (And.intro hx0 (And.intro hx1 (And.intro hkx (And.intro ha hb))))
 have HO := As (And.intro hok (And.intro hsh (And.intro hbd hg)))
 have hi7 : i + 1 < 1000000 := by have := hok.r; omega
 have HI := As hi7
 have hlt : ¬ (i : Int) < 0 := by omega
 have ew : wrap64 ((i : Int) + 1) = ((i + 1 : Nat) : Int) := by unfold wrap64; omega
 have ew' : IntKind.i64.wrap ((i : Int) + 1) = ((i + 1 : Nat) : Int) := by rw [IntKind.wrap_i64]; omega
 have hge : ¬ ((i + 1 : Nat) : Int) ≥ (p.refs.length : Int) := by omega
 have hl0 : (i : Int) < (p.refs.length : Int) := by omega
 have hl1 : ((i + 1 : Nat) : Int) < (p.refs.length : Int) := by omega
 have hl2 : (i : Int) < (p.keys.length : Int) := by omega
 have hl3 : (0 : Int) ≤ (i : Int) + 1 := by omega
 have hl4 : (i : Int) + 1 < (p.refs.length : Int) := by omega
 have HLT := As (And.intro hl0 (And.intro hl1 hl2))
 clear hx0 hx1 hkx ha hb hok hsh hbd hg hi7 hk
 clear h hp
 obtain ⟨y0, y1, -, -⟩ := HM.out.other.c2 w.heap.size 33 (.int .i64 up.1) (.int .i64 up.2) (by simp)
 go_enter Try.func114, Try.ntmps114
 go_upto_region 2 with (go_at_call 111; go_loud (refine (at.calls HM.out up).mono ?_; rintro e2 w2 ⟨v, rfl, hnv, hh⟩; rw [HP.out] at hnv; obtain ⟨kp, kcp, rp, rcp, ev, hr⟩ := hnv; have ev' : v = .agg #[.bool p.leaf, .int .i64 p.ver, .slice kp p.keys.length kcp, .slice rp p.refs.length rcp] := ev; subst ev'; clear ev; have HN := As hr; have H2 := As hh; clear hh hr))
 obtain ⟨W3, hW, hM⟩ : ∃ W, W = _ ∧ Mt w0 W K t on R (cb w2.heap.size 59 #[.bool p.leaf, .int .i64 p.ver, .slice kp p.keys.length kcp, .slice rp p.refs.length rcp] :: cb (w.heap.size + 1) 33 #[.int .i64 0, .int .i64 0] :: cb w.heap.size 33 #[.int .i64 up.1, .int .i64 up.2] :: L) := ⟨_, rfl, H2.out.alloc _⟩
 rw [← hW]
 have H3 := As hM
 clear hW hM y0 y1
 generalize w2.heap.size = g8 at H3 ⊢
 obtain ⟨p0, p1, p2, p3, -, -, -, -⟩ := H3.out.other.c4 g8 59 (.bool p.leaf) (.int .i64 p.ver) (.slice kp p.keys.length kcp) (.slice rp p.refs.length rcp) (by simp)
 obtain ⟨q0, q1, qf0, qf1⟩ := H3.out.other.c2 (w.heap.size + 1) 33 (.int .i64 0) (.int .i64 0) (by simp)
 have HNr := As (show NR w0 R p kp kcp rp rcp from HN.out)
 obtain ⟨ra0, hra0⟩ : ∃ ra0, rp = some ra0 := by
  obtain ⟨a, e, -⟩ := (H3.out.rd HN.out.r).2 (by have := HLT.out.1; omega)
  exact ⟨a, e⟩
 obtain ⟨ka0, hka0⟩ : ∃ ka0, kp = some ka0 := by
  obtain ⟨a, e, -⟩ := (H3.out.rd HN.out.k).2 (by have := HLT.out.2.2; omega)
  exact ⟨a, e⟩
 subst hra0 hka0
 go_upto_region 4 with (fail)
 clear p0 p1 p2 p3 q0 q1 qf0 qf1
 refine wp_act ?_
 intro aL haL
 rename_i KK hKK
 have REST : ∀ (v25 v26 v27 v28 v29 v30 v31 v32 v33 v34 v35 v36 v37 v38 v39 : Value) (ga gb : Nat) (W : World) (ka : Option Addr) (kca : Nat) (ra : Option Addr) (rca : Nat) (kb : Option Addr) (kcb : Nat) (rb : Option Addr) (rcb : Nat), NR w0 R a ka kca ra rca → NR w0 R b kb kcb rb rcb → Mt w0 W K t on R (cb ga 59 #[.bool a.leaf, .int .i64 a.ver, .slice ka a.keys.length kca, .slice ra a.refs.length rca] :: cb gb 59 #[.bool b.leaf, .int .i64 b.ver, .slice kb b.keys.length kcb, .slice rb b.refs.length rcb] :: cb g8 59 #[.bool p.leaf, .int .i64 p.ver, .slice (some ka0) p.keys.length kcp, .slice (some ra0) p.refs.length rcp] :: cb (w.heap.size + 1) 33 #[.int .i64 0, .int .i64 0] :: cb w.heap.size 33 #[.int .i64 up.1, .int .i64 up.2] :: L) → KK { tmps := (((((((((((((((((aL.tmps.setIfInBounds 25 v25).setIfInBounds 26 v26).setIfInBounds 27 v27).setIfInBounds 28 v28).setIfInBounds 29 v29).setIfInBounds 30 v30).setIfInBounds 31 v31).setIfInBounds 32 v32).setIfInBounds 33 v33).setIfInBounds 34 v34).setIfInBounds 35 v35).setIfInBounds 36 v36).setIfInBounds 37 v37).setIfInBounds 38 v38).setIfInBounds 39 v39).setIfInBounds 9 (.pointer (some ⟨ga, 0, none⟩))).setIfInBounds 10 (.pointer (some ⟨gb, 0, none⟩))), defers := aL.defers } W := by
  intro v25 v26 v27 v28 v29 v30 v31 v32 v33 v34 v35 v36 v37 v38 v39 ga gb W ka kca ra rca kb kcb rb rcb hna hnb hM
  have HNa := As hna
  have HNb := As hnb
  have HM5 := As hM
  clear hna hnb hM
  refine hKK _ _ ?_
  subst haL
  clear hKK
  simp only [List.setIfInBounds_toArray, List.set_cons_zero, List.set_cons_succ]
  have hab : a.refs.length ≤ 1000000 ∧ b.refs.length ≤ 1000000 := by
   have h1 := (HO.out.2.2.1.at x0).2
   have h2 := (HO.out.2.2.1.at x1).2
   rw [HX.out.2.2.2.1] at h1
   rw [HX.out.2.2.2.2] at h2
   exact ⟨h1, h2⟩
  have ewab : wrap64 ((a.refs.length : Int) + (b.refs.length : Int)) = (a.refs.length : Int) + (b.refs.length : Int) := by unfold wrap64; omega
  have hr0 : refI (t.at up) i = x0 := by unfold refI; rw [HP.out, List.getD_eq_getElem?_getD, HX.out.1]; rfl
  have hr1 : refI (t.at up) (i + 1) = x1 := by unfold refI; rw [HP.out, List.getD_eq_getElem?_getD, HX.out.2.1]; rfl
  have hin : ¬ ((i : Int) < 0 ∨ ((t.at up).refs.length : Int) ≤ (i : Int) + 1) := by rw [HP.out]; have := HLT.out.2.1; omega
  have HR01 := As (And.intro hr0 (And.intro hr1 hin))
  clear hr0 hr1 hin
  have SP5 := As (show ∀ (w' : World) (L' : List Ob), Hv w0 w' L' → cb ga 59 #[.bool a.leaf, .int .i64 a.ver, .slice ka a.keys.length kca, .slice ra a.refs.length rca] ∈ L' → cb gb 59 #[.bool b.leaf, .int .i64 b.ver, .slice kb b.keys.length kcb, .slice rb b.refs.length rcb] ∈ L' → (w'.cell? ⟨ga, 0, none⟩ = some (.bool a.leaf) ∧ w'.cell? ⟨ga, 1, none⟩ = some (.int .i64 a.ver) ∧ w'.cell? ⟨ga, 2, none⟩ = some (.slice ka a.keys.length kca) ∧ w'.cell? ⟨ga, 3, none⟩ = some (.slice ra a.refs.length rca) ∧ w'.cell? ⟨gb, 0, none⟩ = some (.bool b.leaf) ∧ w'.cell? ⟨gb, 1, none⟩ = some (.int .i64 b.ver) ∧ w'.cell? ⟨gb, 2, none⟩ = some (.slice kb b.keys.length kcb) ∧ w'.cell? ⟨gb, 3, none⟩ = some (.slice rb b.refs.length rcb)) from fun w' L' h m1 m2 => by
   obtain ⟨a0, a1, a2, a3, -, -, -, -⟩ := h.c4 _ _ _ _ _ _ m1
   obtain ⟨b0, b1, b2, b3, -, -, -, -⟩ := h.c4 _ _ _ _ _ _ m2
   exact ⟨a0, a1, a2, a3, b0, b1, b2, b3⟩)
  have HD5 := As HM5.out.drew
  by_cases hbig : 4 < a.refs.length + b.refs.length
  ·have hgt : (4 : Int) < (a.refs.length : Int) + (b.refs.length : Int) := by omega
   have HBig := As hbig
   clear hbig
   go_upto_region 5 with (fail)
   refine start_ (n := 6) (S := fun w' => w'.cell? ⟨ga, 0, none⟩ = some (.bool a.leaf) ∧ w'.cell? ⟨ga, 1, none⟩ = some (.int .i64 a.ver) ∧ w'.cell? ⟨ga, 2, none⟩ = some (.slice ka a.keys.length kca) ∧ w'.cell? ⟨ga, 3, none⟩ = some (.slice ra a.refs.length rca) ∧ w'.cell? ⟨gb, 0, none⟩ = some (.bool b.leaf) ∧ w'.cell? ⟨gb, 1, none⟩ = some (.int .i64 b.ver) ∧ w'.cell? ⟨gb, 2, none⟩ = some (.slice kb b.keys.length kcb) ∧ w'.cell? ⟨gb, 3, none⟩ = some (.slice rb b.refs.length rcb)) (ds := []) #[false, false, false, false, false, false] (by kernel_rfl) rfl rfl (SP5.out _ _ HD5.out.other (by simp) (by simp)) (fun hHeld => ?_)
   generalize W.drew = wx5 at HD5 hHeld ⊢
   refine ta_ 0 (some 40) hHeld ?_ (hy := Or.inl ⟨by rfl, by rintro w' ⟨s0, s1, s2, s3, s4, s5, s6, s7⟩; go_simp; with_reducible rfl⟩)
   refine ta_ 2 (some 42) hHeld ?_ (hy := Or.inl ⟨by rfl, by rintro w' ⟨s0, s1, s2, s3, s4, s5, s6, s7⟩; go_simp; with_reducible rfl⟩)
   refine on_ 1 (some 41) fun K_ hK => ?_
   refine gs_ Try.func35 #[.agg #[.bool a.leaf, .int .i64 a.ver, .slice ka a.keys.length kca, .slice ra a.refs.length rca]] ?_
   refine (size.calls (Hv.start _) a.leaf a.ver ka ra a.keys.length kca a.refs.length rca).mono ?_
   rintro e9 w6 ⟨rfl, hh⟩
   refine ⟨_, rfl, ?_⟩
   have H6 := As (HD5.out.call hh.bel)
   clear hh
   refine hK.out _ _ (SP5.out _ _ H6.out.other (by simp) (by simp)) (fun hHeld => ?_)
   clear hK K_
   refine nm_ ?_
   refine on_ 3 (some 43) fun K_ hK => ?_
   refine gs_ Try.func35 #[.agg #[.bool b.leaf, .int .i64 b.ver, .slice kb b.keys.length kcb, .slice rb b.refs.length rcb]] ?_
   refine (size.calls (Hv.start _) b.leaf b.ver kb rb b.keys.length kcb b.refs.length rcb).mono ?_
   rintro e9 w7 ⟨rfl, hh⟩
   refine ⟨_, rfl, ?_⟩
   have H7 := As (H6.out.call hh.bel)
   clear hh
   refine hK.out _ _ (SP5.out _ _ H7.out.other (by simp) (by simp)) (fun hHeld => ?_)
   clear hK K_
   refine nm_ ?_
   refine pu_ 4 (some 44) ?_
   refine pu_ 5 (some 45) ?_
   refine done_ (by kernel_rfl) ?_
   clear SP5 hHeld
   obtain ⟨q0, q1, qf0, qf1⟩ := H7.out.other.c2 (w.heap.size + 1) 33 (.int .i64 0) (.int .i64 0) (by simp)
   go_wp2_with fail
   rw [show t.join up (i : Int) = (t, (0, 0), false) from by unfold Tm.join; rw [if_neg HR01.out.2.2, Int.toNat_natCast, HR01.out.1, HR01.out.2.1, HX.out.2.2.2.1, HX.out.2.2.2.2, if_pos HBig.out]]
   have h8 : Mt w0 w7 K t on R ([cb ga 59 #[.bool a.leaf, .int .i64 a.ver, .slice ka a.keys.length kca, .slice ra a.refs.length rca], cb gb 59 #[.bool b.leaf, .int .i64 b.ver, .slice kb b.keys.length kcb, .slice rb b.refs.length rcb], cb g8 59 #[.bool p.leaf, .int .i64 p.ver, .slice (some ka0) p.keys.length kcp, .slice (some ra0) p.refs.length rcp]] ++ cb (w.heap.size + 1) 33 #[.int .i64 0, .int .i64 0] :: cb w.heap.size 33 #[.int .i64 up.1, .int .i64 up.2] :: L) := H7.out
   have h9 := Mt.put (X := [cb ga 59 #[.bool a.leaf, .int .i64 a.ver, .slice ka a.keys.length kca, .slice ra a.refs.length rca], cb gb 59 #[.bool b.leaf, .int .i64 b.ver, .slice kb b.keys.length kcb, .slice rb b.refs.length rcb], cb g8 59 #[.bool p.leaf, .int .i64 p.ver, .slice (some ka0) p.keys.length kcp, .slice (some ra0) p.refs.length rcp]]) (Mt.put (X := [cb ga 59 #[.bool a.leaf, .int .i64 a.ver, .slice ka a.keys.length kca, .slice ra a.refs.length rca], cb gb 59 #[.bool b.leaf, .int .i64 b.ver, .slice kb b.keys.length kcb, .slice rb b.refs.length rcb], cb g8 59 #[.bool p.leaf, .int .i64 p.ver, .slice (some ka0) p.keys.length kcp, .slice (some ra0) p.refs.length rcp]]) h8 0 (.int .i64 0) rfl) 1 (.int .i64 0) rfl
   obtain ⟨wg, hw, hg⟩ : ∃ wg, wg = _ ∧ Mt w0 wg K t on R _ := ⟨_, rfl, h9⟩
   rw [← hw]
   obtain ⟨e0, e1, -, -⟩ := hg.other.c2 (w.heap.size + 1) 33 (.int .i64 0) (.int .i64 0) (by simp)
   exact bodyPost_ret (v := .tuple #[.agg #[.int .i64 0, .int .i64 0], .bool false]) (by simp [results, Try.results114, go_sem, e0, e1, hu33]) rfl ⟨R, rfl, hg.tail.tail.tail.tail.tail⟩
  ·have hgt : ¬ (4 : Int) < (a.refs.length : Int) + (b.refs.length : Int) := by omega
   have HBig := As hbig
   clear hbig
   go_upto_region 5 with (fail)
   refine start_ (n := 6) (S := fun w' => w'.cell? ⟨ga, 0, none⟩ = some (.bool a.leaf) ∧ w'.cell? ⟨ga, 1, none⟩ = some (.int .i64 a.ver) ∧ w'.cell? ⟨ga, 2, none⟩ = some (.slice ka a.keys.length kca) ∧ w'.cell? ⟨ga, 3, none⟩ = some (.slice ra a.refs.length rca) ∧ w'.cell? ⟨gb, 0, none⟩ = some (.bool b.leaf) ∧ w'.cell? ⟨gb, 1, none⟩ = some (.int .i64 b.ver) ∧ w'.cell? ⟨gb, 2, none⟩ = some (.slice kb b.keys.length kcb) ∧ w'.cell? ⟨gb, 3, none⟩ = some (.slice rb b.refs.length rcb)) (ds := []) #[false, false, false, false, false, false] (by kernel_rfl) rfl rfl (SP5.out _ _ HD5.out.other (by simp) (by simp)) (fun hHeld => ?_)
   generalize W.drew = wx5 at HD5 hHeld ⊢
   refine ta_ 0 (some 40) hHeld ?_ (hy := Or.inl ⟨by rfl, by rintro w' ⟨s0, s1, s2, s3, s4, s5, s6, s7⟩; go_simp; with_reducible rfl⟩)
   refine ta_ 2 (some 42) hHeld ?_ (hy := Or.inl ⟨by rfl, by rintro w' ⟨s0, s1, s2, s3, s4, s5, s6, s7⟩; go_simp; with_reducible rfl⟩)
   refine on_ 1 (some 41) fun K_ hK => ?_
   refine gs_ Try.func35 #[.agg #[.bool a.leaf, .int .i64 a.ver, .slice ka a.keys.length kca, .slice ra a.refs.length rca]] ?_
   refine (size.calls (Hv.start _) a.leaf a.ver ka ra a.keys.length kca a.refs.length rca).mono ?_
   rintro e9 w6 ⟨rfl, hh⟩
   refine ⟨_, rfl, ?_⟩
   have H6 := As (HD5.out.call hh.bel)
   clear hh
   refine hK.out _ _ (SP5.out _ _ H6.out.other (by simp) (by simp)) (fun hHeld => ?_)
   clear hK K_
   refine nm_ ?_
   refine on_ 3 (some 43) fun K_ hK => ?_
   refine gs_ Try.func35 #[.agg #[.bool b.leaf, .int .i64 b.ver, .slice kb b.keys.length kcb, .slice rb b.refs.length rcb]] ?_
   refine (size.calls (Hv.start _) b.leaf b.ver kb rb b.keys.length kcb b.refs.length rcb).mono ?_
   rintro e9 w7 ⟨rfl, hh⟩
   refine ⟨_, rfl, ?_⟩
   have H7 := As (H6.out.call hh.bel)
   clear hh
   refine hK.out _ _ (SP5.out _ _ H7.out.other (by simp) (by simp)) (fun hHeld => ?_)
   clear hK K_
   refine nm_ ?_
   refine pu_ 4 (some 44) ?_
   refine pu_ 5 (some 45) ?_
   refine done_ (by kernel_rfl) ?_
   clear SP5 hHeld
   obtain ⟨jn, hjn⟩ : ∃ j, a.join kx b = j := ⟨_, rfl⟩
   obtain ⟨rm, hrm⟩ : ∃ j, p.remove ((i : Int) + 1) = j := ⟨_, rfl⟩
   obtain ⟨T1, hT1⟩ : ∃ T, t.set x0 jn = T := ⟨_, rfl⟩
   obtain ⟨T2, hT2⟩ : ∃ T, T1.set up rm = T := ⟨_, rfl⟩
   obtain ⟨T3, hT3⟩ : ∃ T, T2.leave x1 = T := ⟨_, rfl⟩
   have HF := As (join_ok HP.out HX.out.1 HX.out.2.1 HX.out.2.2.1 HX.out.2.2.2.1 HX.out.2.2.2.2 HR01.out.2.2 HBig.out hjn hrm hT1 hT2 hT3)
   have HT := As (And.intro hjn (And.intro hrm (And.intro hT1 (And.intro hT2 hT3))))
   have hgn : T2.gone.length < 1000000 := by rw [← hT2, (set_gone T1 up rm).1, ← hT1, (set_gone t x0 jn).1]; exact HO.out.2.2.2
   have HGn := As hgn
   have hsa : Nd.Sm a := by have := HO.out.2.2.1.sm (Nat.le_refl _) x0; rw [HX.out.2.2.2.1] at this; exact this
   have hsb : Nd.Sm b := by have := HO.out.2.2.1.sm (Nat.le_refl _) x1; rw [HX.out.2.2.2.2] at this; exact this
   have HSm := As (And.intro hsa hsb)
   clear hjn hrm hT1 hT2 hT3 hgn hsa hsb
   have SP7 := As (show ∀ (w' : World) (t' : Tm) (R' L' : List Ob), Mt w0 w' K t' on R' L' → (∀ z ∈ R, z ∈ R') → cb ga 59 #[.bool a.leaf, .int .i64 a.ver, .slice ka a.keys.length kca, .slice ra a.refs.length rca] ∈ L' → cb gb 59 #[.bool b.leaf, .int .i64 b.ver, .slice kb b.keys.length kcb, .slice rb b.refs.length rcb] ∈ L' → cb g8 59 #[.bool p.leaf, .int .i64 p.ver, .slice (some ka0) p.keys.length kcp, .slice (some ra0) p.refs.length rcp] ∈ L' → (w'.cell? ⟨g8, 2, none⟩ = some (.slice (some ka0) p.keys.length kcp) ∧ w'.cell? ⟨g8, 3, none⟩ = some (.slice (some ra0) p.refs.length rcp) ∧ w'.cell? ⟨K.1, 0, none⟩ = some (.pointer (some ⟨K.2.1, 0, none⟩)) ∧ w'.cell? ⟨ga, 0, none⟩ = some (.bool a.leaf) ∧ w'.cell? ⟨ga, 1, none⟩ = some (.int .i64 a.ver) ∧ w'.cell? ⟨ga, 2, none⟩ = some (.slice ka a.keys.length kca) ∧ w'.cell? ⟨ga, 3, none⟩ = some (.slice ra a.refs.length rca) ∧ w'.cell? ⟨gb, 0, none⟩ = some (.bool b.leaf) ∧ w'.cell? ⟨gb, 1, none⟩ = some (.int .i64 b.ver) ∧ w'.cell? ⟨gb, 2, none⟩ = some (.slice kb b.keys.length kcb) ∧ w'.cell? ⟨gb, 3, none⟩ = some (.slice rb b.refs.length rcb) ∧ w'.cell? (ra0.add (i * 2)) = some (.int .i64 x0.1) ∧ w'.cell? { block := (ra0.add (i * 2)).block, off := (ra0.add (i * 2)).off + 1 } = some (.int .i64 x0.2) ∧ w'.cell? (ka0.add i) = some (.string kx)) from fun w' t' R' L' h m0 m1 m2 m3 => by
    obtain ⟨c0, -, -, -, -, -, -⟩ := h.cells
    obtain ⟨a0, a1, a2, a3, -, -, -, -⟩ := h.other.c4 _ _ _ _ _ _ m1
    obtain ⟨b0, b1, b2, b3, -, -, -, -⟩ := h.other.c4 _ _ _ _ _ _ m2
    obtain ⟨-, -, p2, p3, -, -, -, -⟩ := h.other.c4 _ _ _ _ _ _ m3
    obtain ⟨ar, ear, hcr⟩ := (h.rd (HNr.out.r.mono m0)).2 (by have := HLT.out.1; omega)
    cases ear
    obtain ⟨s0, s1⟩ := rcel_get p.refs i x0 HX.out.1
    have v00 := hcr _ _ s0
    have v01' := hcr _ _ s1
    rw [← Addr.add_add] at v01'
    have v01 : World.cell? _ { block := (ra0.add (i * 2)).block, off := (ra0.add (i * 2)).off + 1 } = some (.int .i64 x0.2) := v01'
    clear s0 s1 v01'
    obtain ⟨ak, eak, hck⟩ := (h.rd (HNr.out.k.mono m0)).2 (by have := HLT.out.2.2; omega)
    cases eak
    have v2 := hck i _ (by rw [List.getElem?_map, HX.out.2.2.1]; rfl : (p.keys.map Value.string)[i]? = some (.string kx))
    exact ⟨p2, p3, c0, a0, a1, a2, a3, b0, b1, b2, b3, v00, v01, v2⟩)
   have SP8 := As (show ∀ (w' : World) (t' : Tm) (R' L' : List Ob), Mt w0 w' K t' on R' L' → cb g8 59 #[.bool p.leaf, .int .i64 p.ver, .slice (some ka0) p.keys.length kcp, .slice (some ra0) p.refs.length rcp] ∈ L' → cb w.heap.size 33 #[.int .i64 up.1, .int .i64 up.2] ∈ L' → (w'.cell? ⟨w.heap.size, 0, none⟩ = some (.int .i64 up.1) ∧ w'.cell? ⟨w.heap.size, 1, none⟩ = some (.int .i64 up.2) ∧ w'.cell? ⟨g8, 0, none⟩ = some (.bool p.leaf) ∧ w'.cell? ⟨g8, 1, none⟩ = some (.int .i64 p.ver) ∧ w'.cell? ⟨g8, 2, none⟩ = some (.slice (some ka0) p.keys.length kcp) ∧ w'.cell? ⟨g8, 3, none⟩ = some (.slice (some ra0) p.refs.length rcp) ∧ w'.cell? ⟨K.1, 0, none⟩ = some (.pointer (some ⟨K.2.1, 0, none⟩))) from fun w' t' R' L' h m1 m2 => by
    obtain ⟨c0, -, -, -, -, -, -⟩ := h.cells
    obtain ⟨p0, p1, p2, p3, -, -, -, -⟩ := h.other.c4 _ _ _ _ _ _ m1
    obtain ⟨u0, u1, -, -⟩ := h.other.c2 _ _ _ _ m2
    exact ⟨u0, u1, p0, p1, p2, p3, c0⟩)
   go_upto_region 7 with (fail)
   have HD7 := As H7.out.drew
   refine start_ (n := 18) (S := fun w' => w'.cell? ⟨g8, 2, none⟩ = some (.slice (some ka0) p.keys.length kcp) ∧ w'.cell? ⟨g8, 3, none⟩ = some (.slice (some ra0) p.refs.length rcp) ∧ w'.cell? ⟨K.1, 0, none⟩ = some (.pointer (some ⟨K.2.1, 0, none⟩)) ∧ w'.cell? ⟨ga, 0, none⟩ = some (.bool a.leaf) ∧ w'.cell? ⟨ga, 1, none⟩ = some (.int .i64 a.ver) ∧ w'.cell? ⟨ga, 2, none⟩ = some (.slice ka a.keys.length kca) ∧ w'.cell? ⟨ga, 3, none⟩ = some (.slice ra a.refs.length rca) ∧ w'.cell? ⟨gb, 0, none⟩ = some (.bool b.leaf) ∧ w'.cell? ⟨gb, 1, none⟩ = some (.int .i64 b.ver) ∧ w'.cell? ⟨gb, 2, none⟩ = some (.slice kb b.keys.length kcb) ∧ w'.cell? ⟨gb, 3, none⟩ = some (.slice rb b.refs.length rcb) ∧ w'.cell? (ra0.add (i * 2)) = some (.int .i64 x0.1) ∧ w'.cell? { block := (ra0.add (i * 2)).block, off := (ra0.add (i * 2)).off + 1 } = some (.int .i64 x0.2) ∧ w'.cell? (ka0.add i) = some (.string kx)) (ds := []) #[false, false, false, false, false, false, false, false, false, false, false, false, false, false, false, false, false, false] (by kernel_rfl) rfl rfl (SP7.out _ _ _ _ HD7.out (fun _ hz => hz) (by simp) (by simp) (by simp)) (fun hHeld => ?_)
   generalize w7.drew = wx7 at HD7 hHeld ⊢
   refine pu_ 0 (some 47) ?_
   refine pu_ 1 (some 48) ?_
   refine pu_ 2 (some 49) ?_
   refine pu_ 4 (some 51) ?_
   refine pu_ 6 (some 53) ?_
   refine pu_ 10 (some 57) ?_
   refine pu_ 12 (some 59) ?_
   refine ta_ 3 (some 50) hHeld ?_ (hy := Or.inl ⟨by rfl, by rintro w' ⟨s0, s1, s2, s3, s4, s5, s6, s7, s8, s9, s10, s11, s12, s13⟩; go_simp; with_reducible rfl⟩)
   refine ta_ 5 (some 52) hHeld ?_ (hy := Or.inl ⟨by rfl, by rintro w' ⟨s0, s1, s2, s3, s4, s5, s6, s7, s8, s9, s10, s11, s12, s13⟩; go_simp; with_reducible rfl⟩)
   refine pu_ 7 (some 54) ?_
   refine ta_ 8 (some 55) hHeld ?_ (hy := Or.inl ⟨by rfl, by rintro w' ⟨s0, s1, s2, s3, s4, s5, s6, s7, s8, s9, s10, s11, s12, s13⟩; go_simp; with_reducible rfl⟩)
   refine ta_ 9 (some 56) hHeld ?_ (hy := Or.inl ⟨by rfl, by rintro w' ⟨s0, s1, s2, s3, s4, s5, s6, s7, s8, s9, s10, s11, s12, s13⟩; go_simp; with_reducible rfl⟩)
   refine ta_ 11 (some 58) hHeld ?_ (hy := Or.inl ⟨by rfl, by rintro w' ⟨s0, s1, s2, s3, s4, s5, s6, s7, s8, s9, s10, s11, s12, s13⟩; go_simp; with_reducible rfl⟩)
   refine pu_ 13 (some 60) ?_
   refine ta_ 14 (some 61) hHeld ?_ (hy := Or.inl ⟨by rfl, by rintro w' ⟨s0, s1, s2, s3, s4, s5, s6, s7, s8, s9, s10, s11, s12, s13⟩; go_simp; with_reducible rfl⟩)
   refine ta_ 15 (some 62) hHeld ?_ (hy := Or.inl ⟨by rfl, by rintro w' ⟨s0, s1, s2, s3, s4, s5, s6, s7, s8, s9, s10, s11, s12, s13⟩; go_simp; with_reducible rfl⟩)
   refine on_ 16 (some 63) fun K_ hK => ?_
   refine gs_ Try.func53 #[.agg #[.bool a.leaf, .int .i64 a.ver, .slice ka a.keys.length kca, .slice ra a.refs.length rca], .string kx, .agg #[.bool b.leaf, .int .i64 b.ver, .slice kb b.keys.length kcb, .slice rb b.refs.length rcb]] ?_
   obtain ⟨Lf, hL, hRf, hLf, back⟩ := HD7.out.lens
   refine (Nd.join.calls (w0 := w0) (R := R) hL hRf ⟨ka, kca, ra, rca, rfl, HNa.out⟩ ⟨kb, kcb, rb, rcb, rfl, HNb.out⟩ HSm.out.1 HSm.out.2 kx).mono ?_
   rw [HT.out.1]
   rintro e9 w8 ⟨v, A1, rfl, hnv, hh⟩
   refine ⟨_, rfl, ?_⟩
   have H8 := As (back w8 A1 hh)
   clear back hL hRf hLf hh
   obtain ⟨kj, kcj, rj, rcj, ev, hrj⟩ := hnv
   have ev' : v = .agg #[.bool jn.leaf, .int .i64 jn.ver, .slice kj jn.keys.length kcj, .slice rj jn.refs.length rcj] := ev
   subst ev'
   clear ev
   have HRj := As hrj
   clear hrj
   refine hK.out _ _ (SP7.out _ _ _ _ H8.out (fun z hz => List.mem_append_right _ hz) (by simp) (by simp) (by simp)) (fun hHeld => ?_)
   clear hK K_
   refine nm_ ?_
   refine on_ 17 (some 64) fun K_ hK => ?_
   refine gs_ Try.func112 #[.pointer (some ⟨K.2.1, 0, none⟩), .agg #[.int .i64 x0.1, .int .i64 x0.2], .agg #[.bool jn.leaf, .int .i64 jn.ver, .slice kj jn.keys.length kcj, .slice rj jn.refs.length rcj]] ?_
   refine (Mt.set H8.out x0 (n := jn) ⟨kj, kcj, rj, rcj, rfl, HRj.out⟩).mono ?_
   rw [HT.out.2.2.1]
   rintro e9 w9 ⟨rfl, hh⟩
   refine ⟨_, rfl, ?_⟩
   have H9 := As hh
   clear hh
   refine hK.out _ _ (SP7.out _ _ _ _ H9.out (fun z hz => List.mem_append_right _ hz) (by simp) (by simp) (by simp)) (fun hHeld => ?_)
   clear hK K_
   refine nm_ ?_
   refine done_ (by kernel_rfl) ?_
   clear SP7 hHeld
   go_upto_region 8 with (fail)
   have HD8 := As H9.out.drew
   refine start_ (n := 10) (S := fun w' => w'.cell? ⟨w.heap.size, 0, none⟩ = some (.int .i64 up.1) ∧ w'.cell? ⟨w.heap.size, 1, none⟩ = some (.int .i64 up.2) ∧ w'.cell? ⟨g8, 0, none⟩ = some (.bool p.leaf) ∧ w'.cell? ⟨g8, 1, none⟩ = some (.int .i64 p.ver) ∧ w'.cell? ⟨g8, 2, none⟩ = some (.slice (some ka0) p.keys.length kcp) ∧ w'.cell? ⟨g8, 3, none⟩ = some (.slice (some ra0) p.refs.length rcp) ∧ w'.cell? ⟨K.1, 0, none⟩ = some (.pointer (some ⟨K.2.1, 0, none⟩))) (ds := []) #[false, false, false, false, false, false, false, false, false, false] (by kernel_rfl) rfl rfl (SP8.out _ _ _ _ HD8.out (by simp) (by simp)) (fun hHeld => ?_)
   generalize w9.drew = wx8 at HD8 hHeld ⊢
   refine pu_ 0 (some 65) ?_
   refine pu_ 1 (some 66) ?_
   refine pu_ 2 (some 67) ?_
   refine pu_ 6 (some 71) ?_
   refine pu_ 7 (some 72) ?_
   refine ta_ 3 (some 68) hHeld ?_ (hy := Or.inl ⟨by rfl, by rintro w' ⟨s0, s1, s2, s3, s4, s5, s6⟩; go_simp; with_reducible rfl⟩)
   refine ta_ 4 (some 69) hHeld ?_ (hy := Or.inl ⟨by rfl, by rintro w' ⟨s0, s1, s2, s3, s4, s5, s6⟩; go_simp; with_reducible rfl⟩)
   refine ta_ 5 (some 70) hHeld ?_ (hy := Or.inl ⟨by rfl, by rintro w' ⟨s0, s1, s2, s3, s4, s5, s6⟩; go_simp; with_reducible rfl⟩)
   refine on_ 8 (some 73) fun K_ hK => ?_
   refine gs_ Try.func49 #[.agg #[.bool p.leaf, .int .i64 p.ver, .slice (some ka0) p.keys.length kcp, .slice (some ra0) p.refs.length rcp], .int .i64 ((i : Int) + 1)] ?_
   obtain ⟨Lf, hL, hRf, hLf, back⟩ := HD8.out.lens
   refine (Nd.remove.calls (w0 := w0) (R := A1 ++ R) hL hRf ⟨some ka0, kcp, some ra0, rcp, rfl, HNr.out.mono (fun z hz => List.mem_append_right _ hz)⟩ HO.out.1 ((i : Int) + 1)).mono ?_
   rw [HT.out.2.1]
   rintro e9 w10 ⟨v, A2, rfl, hnv, hh⟩
   refine ⟨_, rfl, ?_⟩
   have H10 := As (back w10 A2 hh)
   clear back hL hRf hLf hh
   obtain ⟨km, kcm, rm1, rcm, ev, hrm⟩ := hnv
   have ev' : v = .agg #[.bool rm.leaf, .int .i64 rm.ver, .slice km rm.keys.length kcm, .slice rm1 rm.refs.length rcm] := ev
   subst ev'
   clear ev
   have HRm := As hrm
   clear hrm
   refine hK.out _ _ (SP8.out _ _ _ _ H10.out (by simp) (by simp)) (fun hHeld => ?_)
   clear hK K_
   refine nm_ ?_
   refine on_ 9 (some 74) fun K_ hK => ?_
   refine gs_ Try.func112 #[.pointer (some ⟨K.2.1, 0, none⟩), .agg #[.int .i64 up.1, .int .i64 up.2], .agg #[.bool rm.leaf, .int .i64 rm.ver, .slice km rm.keys.length kcm, .slice rm1 rm.refs.length rcm]] ?_
   refine (Mt.set H10.out up (n := rm) ⟨km, kcm, rm1, rcm, rfl, HRm.out⟩).mono ?_
   rw [HT.out.2.2.2.1]
   rintro e9 w11 ⟨rfl, hh⟩
   refine ⟨_, rfl, ?_⟩
   have H11 := As hh
   clear hh
   refine hK.out _ _ (SP8.out _ _ _ _ H11.out (by simp) (by simp)) (fun hHeld => ?_)
   clear hK K_
   refine nm_ ?_
   refine done_ (by kernel_rfl) ?_
   clear SP8 hHeld
   obtain ⟨-, -, -, p3, -, -, -, -⟩ := H11.out.other.c4 g8 59 (.bool p.leaf) (.int .i64 p.ver) (.slice (some ka0) p.keys.length kcp) (.slice (some ra0) p.refs.length rcp) (by simp)
   have m0 : ∀ z ∈ R, z ∈ A2 ++ (A1 ++ R) := fun z hz => List.mem_append_right _ (List.mem_append_right _ hz)
   obtain ⟨ar, ear, hcr⟩ := (H11.out.rd (HNr.out.r.mono m0)).2 (by have := HLT.out.1; omega)
   cases ear
   obtain ⟨s0, s1⟩ := rcel_get p.refs (i + 1) x1 HX.out.2.1
   have v10 := hcr _ _ s0
   have v11' := hcr _ _ s1
   rw [← Addr.add_add] at v11'
   have v11 : World.cell? _ { block := (ra0.add ((i + 1) * 2)).block, off := (ra0.add ((i + 1) * 2)).off + 1 } = some (.int .i64 x1.2) := v11'
   clear s0 s1 v11'
   clear m0 hcr
   go_upto_region 10 with (go_at_call 115; go_loud (refine (leave.calls H11.out x1 HGn.out).mono ?_; rw [HT.out.2.2.2.2]; rintro e12 w12 ⟨rfl, hh⟩; have H12 := As hh; clear hh))
   clear p3 v10 v11
   obtain ⟨-, -, -, p3, -, -, -, -⟩ := H12.out.other.c4 g8 59 (.bool p.leaf) (.int .i64 p.ver) (.slice (some ka0) p.keys.length kcp) (.slice (some ra0) p.refs.length rcp) (by simp)
   have m0 : ∀ z ∈ R, z ∈ A2 ++ (A1 ++ R) := fun z hz => List.mem_append_right _ (List.mem_append_right _ hz)
   obtain ⟨ar, ear, hcr⟩ := (H12.out.rd (HNr.out.r.mono m0)).2 (by have := HLT.out.1; omega)
   cases ear
   obtain ⟨s0, s1⟩ := rcel_get p.refs (i + 1) x1 HX.out.2.1
   have v10 := hcr _ _ s0
   have v11' := hcr _ _ s1
   rw [← Addr.add_add] at v11'
   have v11 : World.cell? _ { block := (ra0.add ((i + 1) * 2)).block, off := (ra0.add ((i + 1) * 2)).off + 1 } = some (.int .i64 x1.2) := v11'
   clear s0 s1 v11'
   clear m0 hcr
   obtain ⟨q0, q1, qf0, qf1⟩ := H12.out.other.c2 (w.heap.size + 1) 33 (.int .i64 0) (.int .i64 0) (by simp)
   go_wp2_with fail
   have h9 := Mt.put (X := [cb ga 59 #[.bool a.leaf, .int .i64 a.ver, .slice ka a.keys.length kca, .slice ra a.refs.length rca], cb gb 59 #[.bool b.leaf, .int .i64 b.ver, .slice kb b.keys.length kcb, .slice rb b.refs.length rcb], cb g8 59 #[.bool p.leaf, .int .i64 p.ver, .slice (some ka0) p.keys.length kcp, .slice (some ra0) p.refs.length rcp]]) (Mt.put (X := [cb ga 59 #[.bool a.leaf, .int .i64 a.ver, .slice ka a.keys.length kca, .slice ra a.refs.length rca], cb gb 59 #[.bool b.leaf, .int .i64 b.ver, .slice kb b.keys.length kcb, .slice rb b.refs.length rcb], cb g8 59 #[.bool p.leaf, .int .i64 p.ver, .slice (some ka0) p.keys.length kcp, .slice (some ra0) p.refs.length rcp]]) (show Mt w0 w12 K T3 on (A2 ++ (A1 ++ R)) ([cb ga 59 #[.bool a.leaf, .int .i64 a.ver, .slice ka a.keys.length kca, .slice ra a.refs.length rca], cb gb 59 #[.bool b.leaf, .int .i64 b.ver, .slice kb b.keys.length kcb, .slice rb b.refs.length rcb], cb g8 59 #[.bool p.leaf, .int .i64 p.ver, .slice (some ka0) p.keys.length kcp, .slice (some ra0) p.refs.length rcp]] ++ cb (w.heap.size + 1) 33 #[.int .i64 0, .int .i64 0] :: cb w.heap.size 33 #[.int .i64 up.1, .int .i64 up.2] :: L) from H12.out) 0 (.int .i64 x1.1) rfl) 1 (.int .i64 x1.2) rfl
   obtain ⟨wg, hw, hg⟩ : ∃ wg, wg = _ ∧ Mt w0 wg K T3 on (A2 ++ (A1 ++ R)) _ := ⟨_, rfl, h9⟩
   rw [← hw]
   obtain ⟨e0, e1, -, -⟩ := hg.other.c2 (w.heap.size + 1) 33 (.int .i64 x1.1) (.int .i64 x1.2) (by simp)
   rw [HF.out]
   exact bodyPost_ret (v := .tuple #[.agg #[.int .i64 x1.1, .int .i64 x1.2], .bool true]) (by simp [results, Try.results114, go_sem, e0, e1, hu33]) rfl ⟨_, rfl, hg.tail.tail.tail.tail.tail⟩
 subst haL
 simp only [List.setIfInBounds_toArray, List.set_cons_zero, List.set_cons_succ] at REST
 have HRE := As REST
 clear REST hKK
 have SP := As (show ∀ (w' : World) (L' : List Ob), Mt w0 w' K t on R L' → cb g8 59 #[.bool p.leaf, .int .i64 p.ver, .slice (some ka0) p.keys.length kcp, .slice (some ra0) p.refs.length rcp] ∈ L' → (w'.cell? ⟨g8, 3, none⟩ = some (.slice (some ra0) p.refs.length rcp) ∧ w'.cell? (ra0.add (i * 2)) = some (.int .i64 x0.1) ∧ w'.cell? { block := (ra0.add (i * 2)).block, off := (ra0.add (i * 2)).off + 1 } = some (.int .i64 x0.2) ∧ w'.cell? (ra0.add ((i + 1) * 2)) = some (.int .i64 x1.1) ∧ w'.cell? { block := (ra0.add ((i + 1) * 2)).block, off := (ra0.add ((i + 1) * 2)).off + 1 } = some (.int .i64 x1.2)) from fun w' L' h m => by
  obtain ⟨-, -, -, p3, -, -, -, -⟩ := h.other.c4 _ _ _ _ _ _ m
  obtain ⟨ar, ear, hcr⟩ := (h.rd HNr.out.r).2 (by have := HLT.out.1; omega)
  cases ear
  obtain ⟨s0, s1⟩ := rcel_get p.refs i x0 HX.out.1
  have v00 := hcr _ _ s0
  have v01' := hcr _ _ s1
  rw [← Addr.add_add] at v01'
  have v01 : World.cell? _ { block := (ra0.add (i * 2)).block, off := (ra0.add (i * 2)).off + 1 } = some (.int .i64 x0.2) := v01'
  clear s0 s1 v01'
  obtain ⟨s0, s1⟩ := rcel_get p.refs (i + 1) x1 HX.out.2.1
  have v10 := hcr _ _ s0
  have v11' := hcr _ _ s1
  rw [← Addr.add_add] at v11'
  have v11 : World.cell? _ { block := (ra0.add ((i + 1) * 2)).block, off := (ra0.add ((i + 1) * 2)).off + 1 } = some (.int .i64 x1.2) := v11'
  clear s0 s1 v11'
  exact ⟨p3, v00, v01, v10, v11⟩)
 have HD := As H3.out.drew
 refine start_ (n := 19) (S := fun w' => w'.cell? ⟨g8, 3, none⟩ = some (.slice (some ra0) p.refs.length rcp) ∧ w'.cell? (ra0.add (i * 2)) = some (.int .i64 x0.1) ∧ w'.cell? { block := (ra0.add (i * 2)).block, off := (ra0.add (i * 2)).off + 1 } = some (.int .i64 x0.2) ∧ w'.cell? (ra0.add ((i + 1) * 2)) = some (.int .i64 x1.1) ∧ w'.cell? { block := (ra0.add ((i + 1) * 2)).block, off := (ra0.add ((i + 1) * 2)).off + 1 } = some (.int .i64 x1.2)) (ds := [18]) #[false, false, false, false, false, false, false, false, false, false, false, false, false, false, false, false, false, false, false] (by kernel_rfl) rfl rfl (SP.out _ _ HD.out (by simp)) (fun hHeld => ?_)
 generalize W3.drew = wr0 at HD hHeld ⊢
 refine pu_ 0 (some 25) ?_
 refine pu_ 1 (some 26) ?_
 refine pu_ 3 (some 28) ?_
 refine pu_ 7 (some 32) ?_
 refine pu_ 8 (some 33) ?_
 refine pu_ 10 (some 35) ?_
 refine pu_ 11 (some 36) ?_
 refine ta_ 2 (some 27) hHeld ?_ (hy := Or.inl ⟨by rfl, by rintro w' ⟨s0, s1, s2, s3, s4⟩; go_simp; with_reducible rfl⟩)
 refine pu_ 4 (some 29) ?_
 refine ta_ 5 (some 30) hHeld ?_ (hy := Or.inl ⟨by rfl, by rintro w' ⟨s0, s1, s2, s3, s4⟩; go_simp; with_reducible rfl⟩)
 refine ta_ 9 (some 34) hHeld ?_ (hy := Or.inl ⟨by rfl, by rintro w' ⟨s0, s1, s2, s3, s4⟩; go_simp; with_reducible rfl⟩)
 refine pu_ 12 (some 37) ?_
 refine ta_ 13 (some 38) hHeld ?_ (hy := Or.inl ⟨by rfl, by rintro w' ⟨s0, s1, s2, s3, s4⟩; go_simp; with_reducible rfl⟩)
 refine three_ (i := 6) (j := 15) (k := 16) (Ni := some 31) (Nj := some 9) (Nk := some 10) #[true, true, true, true, true, true, true, true, true, true, true, true, true, true, false, false, false, false, false] #[true, true, true, true, true, true, false, true, true, true, true, true, true, true, false, true, false, false, false] #[true, true, true, true, true, true, false, true, true, true, true, true, true, true, false, false, true, false, false] rfl rfl rfl rfl rfl rfl (by kernel_rfl) (by decide) (by decide) (by decide) (fun K_ hK => ?_) (fun K_ hK => ?_) (fun K_ hK => ?_)
 ·refine gs_ Try.func111 #[.pointer (some ⟨K.1, 0, none⟩), .agg #[.int .i64 x0.1, .int .i64 x0.2]] ?_
  refine (at.calls HD.out x0).mono ?_
  rintro e9 wy1 ⟨v, rfl, hnv, hh⟩
  refine ⟨_, rfl, ?_⟩
  rw [HX.out.2.2.2.1] at hnv
  obtain ⟨ka, kca, ra, rca, ev, hra⟩ := hnv
  have ev' : v = .agg #[.bool a.leaf, .int .i64 a.ver, .slice ka a.keys.length kca, .slice ra a.refs.length rca] := ev
  subst ev'
  clear ev
  have HRa := As hra
  have HY1 := As (show Mt w0 wy1 K t on R (cb g8 59 #[.bool p.leaf, .int .i64 p.ver, .slice (some ka0) p.keys.length kcp, .slice (some ra0) p.refs.length rcp] :: cb (w.heap.size + 1) 33 #[.int .i64 0, .int .i64 0] :: cb w.heap.size 33 #[.int .i64 up.1, .int .i64 up.2] :: L) from hh)
  clear hh hra
  refine hK.out _ _ (SP.out _ _ HY1.out (by simp)) (fun hHeld => ?_)
  clear hK K_
  refine nm_ ?_
  refine three_ (i := 14) (j := 15) (k := 16) (Ni := some 39) (Nj := some 9) (Nk := some 10) #[true, true, true, true, true, true, true, true, true, true, true, true, true, true, true, false, false, false, false] #[true, true, true, true, true, true, true, true, true, true, true, true, true, true, false, true, false, false, false] #[true, true, true, true, true, true, true, true, true, true, true, true, true, true, false, false, true, false, false] rfl rfl rfl rfl rfl rfl (by kernel_rfl) (by decide) (by decide) (by decide) (fun K_ hK => ?_) (fun K_ hK => ?_) (fun K_ hK => ?_)
  ·refine gs_ Try.func111 #[.pointer (some ⟨K.1, 0, none⟩), .agg #[.int .i64 x1.1, .int .i64 x1.2]] ?_
   refine (at.calls HY1.out x1).mono ?_
   rintro e9 wy2 ⟨v, rfl, hnv, hh⟩
   refine ⟨_, rfl, ?_⟩
   rw [HX.out.2.2.2.2] at hnv
   obtain ⟨kb, kcb, rb, rcb, ev, hrb⟩ := hnv
   have ev' : v = .agg #[.bool b.leaf, .int .i64 b.ver, .slice kb b.keys.length kcb, .slice rb b.refs.length rcb] := ev
   subst ev'
   clear ev
   have HRb := As hrb
   have HY2 := As (show Mt w0 wy2 K t on R (cb g8 59 #[.bool p.leaf, .int .i64 p.ver, .slice (some ka0) p.keys.length kcp, .slice (some ra0) p.refs.length rcp] :: cb (w.heap.size + 1) 33 #[.int .i64 0, .int .i64 0] :: cb w.heap.size 33 #[.int .i64 up.1, .int .i64 up.2] :: L) from hh)
   clear hh hrb
   refine hK.out _ _ (SP.out _ _ HY2.out (by simp)) (fun hHeld => ?_)
   clear hK K_
   refine nm_ ?_
   refine two_ (i := 15) (j := 16) (Ni := some 9) (Nj := some 10) #[true, true, true, true, true, true, true, true, true, true, true, true, true, true, true, true, false, false, false] #[true, true, true, true, true, true, true, true, true, true, true, true, true, true, true, false, true, false, false] rfl rfl rfl rfl (by kernel_rfl) (by decide) (by decide) (fun K_ hK => ?_) (fun K_ hK => ?_)
   ·refine value_ (v := .pointer (some ⟨wy2.heap.size, 0, none⟩)) (w1 := wy2.alloc (.cells #[.bool false, .int .i64 0, .slice none 0 0, .slice none 0 0] 59)) (by rfl) rfl ?_ ?_
    ·go_simp
    obtain ⟨wy3, hW, hvv⟩ : ∃ W, W = wy2.alloc (.cells #[.bool false, .int .i64 0, .slice none 0 0, .slice none 0 0] 59) ∧ Mt w0 W K t on R (cb (wy2.heap.size) 59 #[.bool false, .int .i64 0, .slice none 0 0, .slice none 0 0] :: cb g8 59 #[.bool p.leaf, .int .i64 p.ver, .slice (some ka0) p.keys.length kcp, .slice (some ra0) p.refs.length rcp] :: cb (w.heap.size + 1) 33 #[.int .i64 0, .int .i64 0] :: cb w.heap.size 33 #[.int .i64 up.1, .int .i64 up.2] :: L) := ⟨_, rfl, HY2.out.alloc _⟩
    rw [← hW]
    have HY3 := As hvv
    clear hW hvv
    refine hK.out _ _ (SP.out _ _ HY3.out (by simp)) (fun hHeld => ?_)
    clear hK K_
    refine nm_ ?_
    refine on_ 16 (some 10) fun K_ hK => ?_
    refine value_ (v := .pointer (some ⟨wy3.heap.size, 0, none⟩)) (w1 := wy3.alloc (.cells #[.bool false, .int .i64 0, .slice none 0 0, .slice none 0 0] 59)) (by rfl) rfl ?_ ?_
    ·go_simp
    obtain ⟨wy4, hW, hvv⟩ : ∃ W, W = wy3.alloc (.cells #[.bool false, .int .i64 0, .slice none 0 0, .slice none 0 0] 59) ∧ Mt w0 W K t on R (cb (wy3.heap.size) 59 #[.bool false, .int .i64 0, .slice none 0 0, .slice none 0 0] :: cb (wy2.heap.size) 59 #[.bool false, .int .i64 0, .slice none 0 0, .slice none 0 0] :: cb g8 59 #[.bool p.leaf, .int .i64 p.ver, .slice (some ka0) p.keys.length kcp, .slice (some ra0) p.refs.length rcp] :: cb (w.heap.size + 1) 33 #[.int .i64 0, .int .i64 0] :: cb w.heap.size 33 #[.int .i64 up.1, .int .i64 up.2] :: L) := ⟨_, rfl, HY3.out.alloc _⟩
    rw [← hW]
    have HY4 := As hvv
    clear hW hvv
    refine hK.out _ _ (SP.out _ _ HY4.out (by simp)) (fun hHeld => ?_)
    clear hK K_
    refine nm_ ?_
    refine on_ 17 none fun K_ hK => ?_
    obtain ⟨b0, b1, b2, b3, d0, d1, d2, d3⟩ := HY4.out.other.c4 (wy2.heap.size) 59 (.bool false) (.int .i64 0) (.slice none 0 0) (.slice none 0 0) (by simp)
    refine skip_ (w1 := ?_) (by rfl) rfl ?_ ?_
    rotate_left
    ·go_simp
     rfl
    obtain ⟨wy5, hW, hvv⟩ : ∃ W, W = _ ∧ Mt w0 W K t on R (cb (wy3.heap.size) 59 #[.bool false, .int .i64 0, .slice none 0 0, .slice none 0 0] :: cb (wy2.heap.size) 59 #[.bool a.leaf, .int .i64 a.ver, .slice ka a.keys.length kca, .slice ra a.refs.length rca] :: cb g8 59 #[.bool p.leaf, .int .i64 p.ver, .slice (some ka0) p.keys.length kcp, .slice (some ra0) p.refs.length rcp] :: cb (w.heap.size + 1) 33 #[.int .i64 0, .int .i64 0] :: cb w.heap.size 33 #[.int .i64 up.1, .int .i64 up.2] :: L) := ⟨_, rfl, (Mt.putB1 (Mt.putB1 (Mt.putB1 (Mt.putB1 HY4.out 0 (.bool a.leaf) rfl) 1 (.int .i64 a.ver) rfl) 2 (.slice ka a.keys.length kca) rfl) 3 (.slice ra a.refs.length rca) rfl)⟩
    rw [← hW]
    have HY5 := As hvv
    clear hW hvv
    refine hK.out _ _ (SP.out _ _ HY5.out (by simp)) (fun hHeld => ?_)
    clear hK K_ b0 b1 b2 b3 d0 d1 d2 d3
    refine la_ 18 none fun K_ hK => ?_
    obtain ⟨b0, b1, b2, b3, d0, d1, d2, d3⟩ := HY5.out.other.c4 (wy3.heap.size) 59 (.bool false) (.int .i64 0) (.slice none 0 0) (.slice none 0 0) (by simp)
    refine sk_ (hK.out _ _ ?_)
    clear hK K_ b0 b1 b2 b3 d0 d1 d2 d3
    obtain ⟨wy6, hW, hvv⟩ : ∃ W, W = _ ∧ Mt w0 W K t on R (cb (wy3.heap.size) 59 #[.bool b.leaf, .int .i64 b.ver, .slice kb b.keys.length kcb, .slice rb b.refs.length rcb] :: cb (wy2.heap.size) 59 #[.bool a.leaf, .int .i64 a.ver, .slice ka a.keys.length kca, .slice ra a.refs.length rca] :: cb g8 59 #[.bool p.leaf, .int .i64 p.ver, .slice (some ka0) p.keys.length kcp, .slice (some ra0) p.refs.length rcp] :: cb (w.heap.size + 1) 33 #[.int .i64 0, .int .i64 0] :: cb w.heap.size 33 #[.int .i64 up.1, .int .i64 up.2] :: L) := ⟨_, rfl, (Mt.putB0 (Mt.putB0 (Mt.putB0 (Mt.putB0 HY5.out 0 (.bool b.leaf) rfl) 1 (.int .i64 b.ver) rfl) 2 (.slice kb b.keys.length kcb) rfl) 3 (.slice rb b.refs.length rcb) rfl)⟩
    rw [← hW]
    have HY6 := As hvv
    clear hW hvv
    refine done_ (by kernel_rfl) ?_
    exact HRE.out _ _ _ _ _ _ _ _ _ _ _ _ _ _ _ _ _ _ _ _ _ _ _ _ _ _ HRa.out HRb.out (Mt.permL HY6.out (List.Perm.swap _ _ _))
   ·refine value_ (v := .pointer (some ⟨wy2.heap.size, 0, none⟩)) (w1 := wy2.alloc (.cells #[.bool false, .int .i64 0, .slice none 0 0, .slice none 0 0] 59)) (by rfl) rfl ?_ ?_
    ·go_simp
    obtain ⟨wy3, hW, hvv⟩ : ∃ W, W = wy2.alloc (.cells #[.bool false, .int .i64 0, .slice none 0 0, .slice none 0 0] 59) ∧ Mt w0 W K t on R (cb (wy2.heap.size) 59 #[.bool false, .int .i64 0, .slice none 0 0, .slice none 0 0] :: cb g8 59 #[.bool p.leaf, .int .i64 p.ver, .slice (some ka0) p.keys.length kcp, .slice (some ra0) p.refs.length rcp] :: cb (w.heap.size + 1) 33 #[.int .i64 0, .int .i64 0] :: cb w.heap.size 33 #[.int .i64 up.1, .int .i64 up.2] :: L) := ⟨_, rfl, HY2.out.alloc _⟩
    rw [← hW]
    have HY3 := As hvv
    clear hW hvv
    refine hK.out _ _ (SP.out _ _ HY3.out (by simp)) (fun hHeld => ?_)
    clear hK K_
    refine nm_ ?_
    refine on_ 15 (some 9) fun K_ hK => ?_
    refine value_ (v := .pointer (some ⟨wy3.heap.size, 0, none⟩)) (w1 := wy3.alloc (.cells #[.bool false, .int .i64 0, .slice none 0 0, .slice none 0 0] 59)) (by rfl) rfl ?_ ?_
    ·go_simp
    obtain ⟨wy4, hW, hvv⟩ : ∃ W, W = wy3.alloc (.cells #[.bool false, .int .i64 0, .slice none 0 0, .slice none 0 0] 59) ∧ Mt w0 W K t on R (cb (wy3.heap.size) 59 #[.bool false, .int .i64 0, .slice none 0 0, .slice none 0 0] :: cb (wy2.heap.size) 59 #[.bool false, .int .i64 0, .slice none 0 0, .slice none 0 0] :: cb g8 59 #[.bool p.leaf, .int .i64 p.ver, .slice (some ka0) p.keys.length kcp, .slice (some ra0) p.refs.length rcp] :: cb (w.heap.size + 1) 33 #[.int .i64 0, .int .i64 0] :: cb w.heap.size 33 #[.int .i64 up.1, .int .i64 up.2] :: L) := ⟨_, rfl, HY3.out.alloc _⟩
    rw [← hW]
    have HY4 := As hvv
    clear hW hvv
    refine hK.out _ _ (SP.out _ _ HY4.out (by simp)) (fun hHeld => ?_)
    clear hK K_
    refine nm_ ?_
    refine on_ 17 none fun K_ hK => ?_
    obtain ⟨b0, b1, b2, b3, d0, d1, d2, d3⟩ := HY4.out.other.c4 (wy3.heap.size) 59 (.bool false) (.int .i64 0) (.slice none 0 0) (.slice none 0 0) (by simp)
    refine skip_ (w1 := ?_) (by rfl) rfl ?_ ?_
    rotate_left
    ·go_simp
     rfl
    obtain ⟨wy5, hW, hvv⟩ : ∃ W, W = _ ∧ Mt w0 W K t on R (cb (wy3.heap.size) 59 #[.bool a.leaf, .int .i64 a.ver, .slice ka a.keys.length kca, .slice ra a.refs.length rca] :: cb (wy2.heap.size) 59 #[.bool false, .int .i64 0, .slice none 0 0, .slice none 0 0] :: cb g8 59 #[.bool p.leaf, .int .i64 p.ver, .slice (some ka0) p.keys.length kcp, .slice (some ra0) p.refs.length rcp] :: cb (w.heap.size + 1) 33 #[.int .i64 0, .int .i64 0] :: cb w.heap.size 33 #[.int .i64 up.1, .int .i64 up.2] :: L) := ⟨_, rfl, (Mt.putB0 (Mt.putB0 (Mt.putB0 (Mt.putB0 HY4.out 0 (.bool a.leaf) rfl) 1 (.int .i64 a.ver) rfl) 2 (.slice ka a.keys.length kca) rfl) 3 (.slice ra a.refs.length rca) rfl)⟩
    rw [← hW]
    have HY5 := As hvv
    clear hW hvv
    refine hK.out _ _ (SP.out _ _ HY5.out (by simp)) (fun hHeld => ?_)
    clear hK K_ b0 b1 b2 b3 d0 d1 d2 d3
    refine la_ 18 none fun K_ hK => ?_
    obtain ⟨b0, b1, b2, b3, d0, d1, d2, d3⟩ := HY5.out.other.c4 (wy2.heap.size) 59 (.bool false) (.int .i64 0) (.slice none 0 0) (.slice none 0 0) (by simp)
    refine sk_ (hK.out _ _ ?_)
    clear hK K_ b0 b1 b2 b3 d0 d1 d2 d3
    obtain ⟨wy6, hW, hvv⟩ : ∃ W, W = _ ∧ Mt w0 W K t on R (cb (wy3.heap.size) 59 #[.bool a.leaf, .int .i64 a.ver, .slice ka a.keys.length kca, .slice ra a.refs.length rca] :: cb (wy2.heap.size) 59 #[.bool b.leaf, .int .i64 b.ver, .slice kb b.keys.length kcb, .slice rb b.refs.length rcb] :: cb g8 59 #[.bool p.leaf, .int .i64 p.ver, .slice (some ka0) p.keys.length kcp, .slice (some ra0) p.refs.length rcp] :: cb (w.heap.size + 1) 33 #[.int .i64 0, .int .i64 0] :: cb w.heap.size 33 #[.int .i64 up.1, .int .i64 up.2] :: L) := ⟨_, rfl, (Mt.putB1 (Mt.putB1 (Mt.putB1 (Mt.putB1 HY5.out 0 (.bool b.leaf) rfl) 1 (.int .i64 b.ver) rfl) 2 (.slice kb b.keys.length kcb) rfl) 3 (.slice rb b.refs.length rcb) rfl)⟩
    rw [← hW]
    have HY6 := As hvv
    clear hW hvv
    refine done_ (by kernel_rfl) ?_
    exact HRE.out _ _ _ _ _ _ _ _ _ _ _ _ _ _ _ _ _ _ _ _ _ _ _ _ _ _ HRa.out HRb.out HY6.out
  ·refine value_ (v := .pointer (some ⟨wy1.heap.size, 0, none⟩)) (w1 := wy1.alloc (.cells #[.bool false, .int .i64 0, .slice none 0 0, .slice none 0 0] 59)) (by rfl) rfl ?_ ?_
   ·go_simp
   obtain ⟨wy2, hW, hvv⟩ : ∃ W, W = wy1.alloc (.cells #[.bool false, .int .i64 0, .slice none 0 0, .slice none 0 0] 59) ∧ Mt w0 W K t on R (cb (wy1.heap.size) 59 #[.bool false, .int .i64 0, .slice none 0 0, .slice none 0 0] :: cb g8 59 #[.bool p.leaf, .int .i64 p.ver, .slice (some ka0) p.keys.length kcp, .slice (some ra0) p.refs.length rcp] :: cb (w.heap.size + 1) 33 #[.int .i64 0, .int .i64 0] :: cb w.heap.size 33 #[.int .i64 up.1, .int .i64 up.2] :: L) := ⟨_, rfl, HY1.out.alloc _⟩
   rw [← hW]
   have HY2 := As hvv
   clear hW hvv
   refine hK.out _ _ (SP.out _ _ HY2.out (by simp)) (fun hHeld => ?_)
   clear hK K_
   refine nm_ ?_
   refine two_ (i := 14) (j := 16) (Ni := some 39) (Nj := some 10) #[true, true, true, true, true, true, true, true, true, true, true, true, true, true, true, true, false, false, false] #[true, true, true, true, true, true, true, true, true, true, true, true, true, true, false, true, true, false, false] rfl rfl rfl rfl (by kernel_rfl) (by decide) (by decide) (fun K_ hK => ?_) (fun K_ hK => ?_)
   ·refine gs_ Try.func111 #[.pointer (some ⟨K.1, 0, none⟩), .agg #[.int .i64 x1.1, .int .i64 x1.2]] ?_
    refine (at.calls HY2.out x1).mono ?_
    rintro e9 wy3 ⟨v, rfl, hnv, hh⟩
    refine ⟨_, rfl, ?_⟩
    rw [HX.out.2.2.2.2] at hnv
    obtain ⟨kb, kcb, rb, rcb, ev, hrb⟩ := hnv
    have ev' : v = .agg #[.bool b.leaf, .int .i64 b.ver, .slice kb b.keys.length kcb, .slice rb b.refs.length rcb] := ev
    subst ev'
    clear ev
    have HRb := As hrb
    have HY3 := As (show Mt w0 wy3 K t on R (cb (wy1.heap.size) 59 #[.bool false, .int .i64 0, .slice none 0 0, .slice none 0 0] :: cb g8 59 #[.bool p.leaf, .int .i64 p.ver, .slice (some ka0) p.keys.length kcp, .slice (some ra0) p.refs.length rcp] :: cb (w.heap.size + 1) 33 #[.int .i64 0, .int .i64 0] :: cb w.heap.size 33 #[.int .i64 up.1, .int .i64 up.2] :: L) from hh)
    clear hh hrb
    refine hK.out _ _ (SP.out _ _ HY3.out (by simp)) (fun hHeld => ?_)
    clear hK K_
    refine nm_ ?_
    refine on_ 16 (some 10) fun K_ hK => ?_
    refine value_ (v := .pointer (some ⟨wy3.heap.size, 0, none⟩)) (w1 := wy3.alloc (.cells #[.bool false, .int .i64 0, .slice none 0 0, .slice none 0 0] 59)) (by rfl) rfl ?_ ?_
    ·go_simp
    obtain ⟨wy4, hW, hvv⟩ : ∃ W, W = wy3.alloc (.cells #[.bool false, .int .i64 0, .slice none 0 0, .slice none 0 0] 59) ∧ Mt w0 W K t on R (cb (wy3.heap.size) 59 #[.bool false, .int .i64 0, .slice none 0 0, .slice none 0 0] :: cb (wy1.heap.size) 59 #[.bool false, .int .i64 0, .slice none 0 0, .slice none 0 0] :: cb g8 59 #[.bool p.leaf, .int .i64 p.ver, .slice (some ka0) p.keys.length kcp, .slice (some ra0) p.refs.length rcp] :: cb (w.heap.size + 1) 33 #[.int .i64 0, .int .i64 0] :: cb w.heap.size 33 #[.int .i64 up.1, .int .i64 up.2] :: L) := ⟨_, rfl, HY3.out.alloc _⟩
    rw [← hW]
    have HY4 := As hvv
    clear hW hvv
    refine hK.out _ _ (SP.out _ _ HY4.out (by simp)) (fun hHeld => ?_)
    clear hK K_
    refine nm_ ?_
    refine on_ 17 none fun K_ hK => ?_
    obtain ⟨b0, b1, b2, b3, d0, d1, d2, d3⟩ := HY4.out.other.c4 (wy1.heap.size) 59 (.bool false) (.int .i64 0) (.slice none 0 0) (.slice none 0 0) (by simp)
    refine skip_ (w1 := ?_) (by rfl) rfl ?_ ?_
    rotate_left
    ·go_simp
     rfl
    obtain ⟨wy5, hW, hvv⟩ : ∃ W, W = _ ∧ Mt w0 W K t on R (cb (wy3.heap.size) 59 #[.bool false, .int .i64 0, .slice none 0 0, .slice none 0 0] :: cb (wy1.heap.size) 59 #[.bool a.leaf, .int .i64 a.ver, .slice ka a.keys.length kca, .slice ra a.refs.length rca] :: cb g8 59 #[.bool p.leaf, .int .i64 p.ver, .slice (some ka0) p.keys.length kcp, .slice (some ra0) p.refs.length rcp] :: cb (w.heap.size + 1) 33 #[.int .i64 0, .int .i64 0] :: cb w.heap.size 33 #[.int .i64 up.1, .int .i64 up.2] :: L) := ⟨_, rfl, (Mt.putB1 (Mt.putB1 (Mt.putB1 (Mt.putB1 HY4.out 0 (.bool a.leaf) rfl) 1 (.int .i64 a.ver) rfl) 2 (.slice ka a.keys.length kca) rfl) 3 (.slice ra a.refs.length rca) rfl)⟩
    rw [← hW]
    have HY5 := As hvv
    clear hW hvv
    refine hK.out _ _ (SP.out _ _ HY5.out (by simp)) (fun hHeld => ?_)
    clear hK K_ b0 b1 b2 b3 d0 d1 d2 d3
    refine la_ 18 none fun K_ hK => ?_
    obtain ⟨b0, b1, b2, b3, d0, d1, d2, d3⟩ := HY5.out.other.c4 (wy3.heap.size) 59 (.bool false) (.int .i64 0) (.slice none 0 0) (.slice none 0 0) (by simp)
    refine sk_ (hK.out _ _ ?_)
    clear hK K_ b0 b1 b2 b3 d0 d1 d2 d3
    obtain ⟨wy6, hW, hvv⟩ : ∃ W, W = _ ∧ Mt w0 W K t on R (cb (wy3.heap.size) 59 #[.bool b.leaf, .int .i64 b.ver, .slice kb b.keys.length kcb, .slice rb b.refs.length rcb] :: cb (wy1.heap.size) 59 #[.bool a.leaf, .int .i64 a.ver, .slice ka a.keys.length kca, .slice ra a.refs.length rca] :: cb g8 59 #[.bool p.leaf, .int .i64 p.ver, .slice (some ka0) p.keys.length kcp, .slice (some ra0) p.refs.length rcp] :: cb (w.heap.size + 1) 33 #[.int .i64 0, .int .i64 0] :: cb w.heap.size 33 #[.int .i64 up.1, .int .i64 up.2] :: L) := ⟨_, rfl, (Mt.putB0 (Mt.putB0 (Mt.putB0 (Mt.putB0 HY5.out 0 (.bool b.leaf) rfl) 1 (.int .i64 b.ver) rfl) 2 (.slice kb b.keys.length kcb) rfl) 3 (.slice rb b.refs.length rcb) rfl)⟩
    rw [← hW]
    have HY6 := As hvv
    clear hW hvv
    refine done_ (by kernel_rfl) ?_
    exact HRE.out _ _ _ _ _ _ _ _ _ _ _ _ _ _ _ _ _ _ _ _ _ _ _ _ _ _ HRa.out HRb.out (Mt.permL HY6.out (List.Perm.swap _ _ _))
   ·refine value_ (v := .pointer (some ⟨wy2.heap.size, 0, none⟩)) (w1 := wy2.alloc (.cells #[.bool false, .int .i64 0, .slice none 0 0, .slice none 0 0] 59)) (by rfl) rfl ?_ ?_
    ·go_simp
    obtain ⟨wy3, hW, hvv⟩ : ∃ W, W = wy2.alloc (.cells #[.bool false, .int .i64 0, .slice none 0 0, .slice none 0 0] 59) ∧ Mt w0 W K t on R (cb (wy2.heap.size) 59 #[.bool false, .int .i64 0, .slice none 0 0, .slice none 0 0] :: cb (wy1.heap.size) 59 #[.bool false, .int .i64 0, .slice none 0 0, .slice none 0 0] :: cb g8 59 #[.bool p.leaf, .int .i64 p.ver, .slice (some ka0) p.keys.length kcp, .slice (some ra0) p.refs.length rcp] :: cb (w.heap.size + 1) 33 #[.int .i64 0, .int .i64 0] :: cb w.heap.size 33 #[.int .i64 up.1, .int .i64 up.2] :: L) := ⟨_, rfl, HY2.out.alloc _⟩
    rw [← hW]
    have HY3 := As hvv
    clear hW hvv
    refine hK.out _ _ (SP.out _ _ HY3.out (by simp)) (fun hHeld => ?_)
    clear hK K_
    refine nm_ ?_
    refine on_ 14 (some 39) fun K_ hK => ?_
    refine gs_ Try.func111 #[.pointer (some ⟨K.1, 0, none⟩), .agg #[.int .i64 x1.1, .int .i64 x1.2]] ?_
    refine (at.calls HY3.out x1).mono ?_
    rintro e9 wy4 ⟨v, rfl, hnv, hh⟩
    refine ⟨_, rfl, ?_⟩
    rw [HX.out.2.2.2.2] at hnv
    obtain ⟨kb, kcb, rb, rcb, ev, hrb⟩ := hnv
    have ev' : v = .agg #[.bool b.leaf, .int .i64 b.ver, .slice kb b.keys.length kcb, .slice rb b.refs.length rcb] := ev
    subst ev'
    clear ev
    have HRb := As hrb
    have HY4 := As (show Mt w0 wy4 K t on R (cb (wy2.heap.size) 59 #[.bool false, .int .i64 0, .slice none 0 0, .slice none 0 0] :: cb (wy1.heap.size) 59 #[.bool false, .int .i64 0, .slice none 0 0, .slice none 0 0] :: cb g8 59 #[.bool p.leaf, .int .i64 p.ver, .slice (some ka0) p.keys.length kcp, .slice (some ra0) p.refs.length rcp] :: cb (w.heap.size + 1) 33 #[.int .i64 0, .int .i64 0] :: cb w.heap.size 33 #[.int .i64 up.1, .int .i64 up.2] :: L) from hh)
    clear hh hrb
    refine hK.out _ _ (SP.out _ _ HY4.out (by simp)) (fun hHeld => ?_)
    clear hK K_
    refine nm_ ?_
    refine on_ 17 none fun K_ hK => ?_
    obtain ⟨b0, b1, b2, b3, d0, d1, d2, d3⟩ := HY4.out.other.c4 (wy1.heap.size) 59 (.bool false) (.int .i64 0) (.slice none 0 0) (.slice none 0 0) (by simp)
    refine skip_ (w1 := ?_) (by rfl) rfl ?_ ?_
    rotate_left
    ·go_simp
     rfl
    obtain ⟨wy5, hW, hvv⟩ : ∃ W, W = _ ∧ Mt w0 W K t on R (cb (wy2.heap.size) 59 #[.bool false, .int .i64 0, .slice none 0 0, .slice none 0 0] :: cb (wy1.heap.size) 59 #[.bool a.leaf, .int .i64 a.ver, .slice ka a.keys.length kca, .slice ra a.refs.length rca] :: cb g8 59 #[.bool p.leaf, .int .i64 p.ver, .slice (some ka0) p.keys.length kcp, .slice (some ra0) p.refs.length rcp] :: cb (w.heap.size + 1) 33 #[.int .i64 0, .int .i64 0] :: cb w.heap.size 33 #[.int .i64 up.1, .int .i64 up.2] :: L) := ⟨_, rfl, (Mt.putB1 (Mt.putB1 (Mt.putB1 (Mt.putB1 HY4.out 0 (.bool a.leaf) rfl) 1 (.int .i64 a.ver) rfl) 2 (.slice ka a.keys.length kca) rfl) 3 (.slice ra a.refs.length rca) rfl)⟩
    rw [← hW]
    have HY5 := As hvv
    clear hW hvv
    refine hK.out _ _ (SP.out _ _ HY5.out (by simp)) (fun hHeld => ?_)
    clear hK K_ b0 b1 b2 b3 d0 d1 d2 d3
    refine la_ 18 none fun K_ hK => ?_
    obtain ⟨b0, b1, b2, b3, d0, d1, d2, d3⟩ := HY5.out.other.c4 (wy2.heap.size) 59 (.bool false) (.int .i64 0) (.slice none 0 0) (.slice none 0 0) (by simp)
    refine sk_ (hK.out _ _ ?_)
    clear hK K_ b0 b1 b2 b3 d0 d1 d2 d3
    obtain ⟨wy6, hW, hvv⟩ : ∃ W, W = _ ∧ Mt w0 W K t on R (cb (wy2.heap.size) 59 #[.bool b.leaf, .int .i64 b.ver, .slice kb b.keys.length kcb, .slice rb b.refs.length rcb] :: cb (wy1.heap.size) 59 #[.bool a.leaf, .int .i64 a.ver, .slice ka a.keys.length kca, .slice ra a.refs.length rca] :: cb g8 59 #[.bool p.leaf, .int .i64 p.ver, .slice (some ka0) p.keys.length kcp, .slice (some ra0) p.refs.length rcp] :: cb (w.heap.size + 1) 33 #[.int .i64 0, .int .i64 0] :: cb w.heap.size 33 #[.int .i64 up.1, .int .i64 up.2] :: L) := ⟨_, rfl, (Mt.putB0 (Mt.putB0 (Mt.putB0 (Mt.putB0 HY5.out 0 (.bool b.leaf) rfl) 1 (.int .i64 b.ver) rfl) 2 (.slice kb b.keys.length kcb) rfl) 3 (.slice rb b.refs.length rcb) rfl)⟩
    rw [← hW]
    have HY6 := As hvv
    clear hW hvv
    refine done_ (by kernel_rfl) ?_
    exact HRE.out _ _ _ _ _ _ _ _ _ _ _ _ _ _ _ _ _ _ _ _ _ _ _ _ _ _ HRa.out HRb.out (Mt.permL HY6.out (List.Perm.swap _ _ _))
  ·refine value_ (v := .pointer (some ⟨wy1.heap.size, 0, none⟩)) (w1 := wy1.alloc (.cells #[.bool false, .int .i64 0, .slice none 0 0, .slice none 0 0] 59)) (by rfl) rfl ?_ ?_
   ·go_simp
   obtain ⟨wy2, hW, hvv⟩ : ∃ W, W = wy1.alloc (.cells #[.bool false, .int .i64 0, .slice none 0 0, .slice none 0 0] 59) ∧ Mt w0 W K t on R (cb (wy1.heap.size) 59 #[.bool false, .int .i64 0, .slice none 0 0, .slice none 0 0] :: cb g8 59 #[.bool p.leaf, .int .i64 p.ver, .slice (some ka0) p.keys.length kcp, .slice (some ra0) p.refs.length rcp] :: cb (w.heap.size + 1) 33 #[.int .i64 0, .int .i64 0] :: cb w.heap.size 33 #[.int .i64 up.1, .int .i64 up.2] :: L) := ⟨_, rfl, HY1.out.alloc _⟩
   rw [← hW]
   have HY2 := As hvv
   clear hW hvv
   refine hK.out _ _ (SP.out _ _ HY2.out (by simp)) (fun hHeld => ?_)
   clear hK K_
   refine nm_ ?_
   refine two_ (i := 14) (j := 15) (Ni := some 39) (Nj := some 9) #[true, true, true, true, true, true, true, true, true, true, true, true, true, true, true, false, true, false, false] #[true, true, true, true, true, true, true, true, true, true, true, true, true, true, false, true, true, false, false] rfl rfl rfl rfl (by kernel_rfl) (by decide) (by decide) (fun K_ hK => ?_) (fun K_ hK => ?_)
   ·refine gs_ Try.func111 #[.pointer (some ⟨K.1, 0, none⟩), .agg #[.int .i64 x1.1, .int .i64 x1.2]] ?_
    refine (at.calls HY2.out x1).mono ?_
    rintro e9 wy3 ⟨v, rfl, hnv, hh⟩
    refine ⟨_, rfl, ?_⟩
    rw [HX.out.2.2.2.2] at hnv
    obtain ⟨kb, kcb, rb, rcb, ev, hrb⟩ := hnv
    have ev' : v = .agg #[.bool b.leaf, .int .i64 b.ver, .slice kb b.keys.length kcb, .slice rb b.refs.length rcb] := ev
    subst ev'
    clear ev
    have HRb := As hrb
    have HY3 := As (show Mt w0 wy3 K t on R (cb (wy1.heap.size) 59 #[.bool false, .int .i64 0, .slice none 0 0, .slice none 0 0] :: cb g8 59 #[.bool p.leaf, .int .i64 p.ver, .slice (some ka0) p.keys.length kcp, .slice (some ra0) p.refs.length rcp] :: cb (w.heap.size + 1) 33 #[.int .i64 0, .int .i64 0] :: cb w.heap.size 33 #[.int .i64 up.1, .int .i64 up.2] :: L) from hh)
    clear hh hrb
    refine hK.out _ _ (SP.out _ _ HY3.out (by simp)) (fun hHeld => ?_)
    clear hK K_
    refine nm_ ?_
    refine on_ 15 (some 9) fun K_ hK => ?_
    refine value_ (v := .pointer (some ⟨wy3.heap.size, 0, none⟩)) (w1 := wy3.alloc (.cells #[.bool false, .int .i64 0, .slice none 0 0, .slice none 0 0] 59)) (by rfl) rfl ?_ ?_
    ·go_simp
    obtain ⟨wy4, hW, hvv⟩ : ∃ W, W = wy3.alloc (.cells #[.bool false, .int .i64 0, .slice none 0 0, .slice none 0 0] 59) ∧ Mt w0 W K t on R (cb (wy3.heap.size) 59 #[.bool false, .int .i64 0, .slice none 0 0, .slice none 0 0] :: cb (wy1.heap.size) 59 #[.bool false, .int .i64 0, .slice none 0 0, .slice none 0 0] :: cb g8 59 #[.bool p.leaf, .int .i64 p.ver, .slice (some ka0) p.keys.length kcp, .slice (some ra0) p.refs.length rcp] :: cb (w.heap.size + 1) 33 #[.int .i64 0, .int .i64 0] :: cb w.heap.size 33 #[.int .i64 up.1, .int .i64 up.2] :: L) := ⟨_, rfl, HY3.out.alloc _⟩
    rw [← hW]
    have HY4 := As hvv
    clear hW hvv
    refine hK.out _ _ (SP.out _ _ HY4.out (by simp)) (fun hHeld => ?_)
    clear hK K_
    refine nm_ ?_
    refine on_ 17 none fun K_ hK => ?_
    obtain ⟨b0, b1, b2, b3, d0, d1, d2, d3⟩ := HY4.out.other.c4 (wy3.heap.size) 59 (.bool false) (.int .i64 0) (.slice none 0 0) (.slice none 0 0) (by simp)
    refine skip_ (w1 := ?_) (by rfl) rfl ?_ ?_
    rotate_left
    ·go_simp
     rfl
    obtain ⟨wy5, hW, hvv⟩ : ∃ W, W = _ ∧ Mt w0 W K t on R (cb (wy3.heap.size) 59 #[.bool a.leaf, .int .i64 a.ver, .slice ka a.keys.length kca, .slice ra a.refs.length rca] :: cb (wy1.heap.size) 59 #[.bool false, .int .i64 0, .slice none 0 0, .slice none 0 0] :: cb g8 59 #[.bool p.leaf, .int .i64 p.ver, .slice (some ka0) p.keys.length kcp, .slice (some ra0) p.refs.length rcp] :: cb (w.heap.size + 1) 33 #[.int .i64 0, .int .i64 0] :: cb w.heap.size 33 #[.int .i64 up.1, .int .i64 up.2] :: L) := ⟨_, rfl, (Mt.putB0 (Mt.putB0 (Mt.putB0 (Mt.putB0 HY4.out 0 (.bool a.leaf) rfl) 1 (.int .i64 a.ver) rfl) 2 (.slice ka a.keys.length kca) rfl) 3 (.slice ra a.refs.length rca) rfl)⟩
    rw [← hW]
    have HY5 := As hvv
    clear hW hvv
    refine hK.out _ _ (SP.out _ _ HY5.out (by simp)) (fun hHeld => ?_)
    clear hK K_ b0 b1 b2 b3 d0 d1 d2 d3
    refine la_ 18 none fun K_ hK => ?_
    obtain ⟨b0, b1, b2, b3, d0, d1, d2, d3⟩ := HY5.out.other.c4 (wy1.heap.size) 59 (.bool false) (.int .i64 0) (.slice none 0 0) (.slice none 0 0) (by simp)
    refine sk_ (hK.out _ _ ?_)
    clear hK K_ b0 b1 b2 b3 d0 d1 d2 d3
    obtain ⟨wy6, hW, hvv⟩ : ∃ W, W = _ ∧ Mt w0 W K t on R (cb (wy3.heap.size) 59 #[.bool a.leaf, .int .i64 a.ver, .slice ka a.keys.length kca, .slice ra a.refs.length rca] :: cb (wy1.heap.size) 59 #[.bool b.leaf, .int .i64 b.ver, .slice kb b.keys.length kcb, .slice rb b.refs.length rcb] :: cb g8 59 #[.bool p.leaf, .int .i64 p.ver, .slice (some ka0) p.keys.length kcp, .slice (some ra0) p.refs.length rcp] :: cb (w.heap.size + 1) 33 #[.int .i64 0, .int .i64 0] :: cb w.heap.size 33 #[.int .i64 up.1, .int .i64 up.2] :: L) := ⟨_, rfl, (Mt.putB1 (Mt.putB1 (Mt.putB1 (Mt.putB1 HY5.out 0 (.bool b.leaf) rfl) 1 (.int .i64 b.ver) rfl) 2 (.slice kb b.keys.length kcb) rfl) 3 (.slice rb b.refs.length rcb) rfl)⟩
    rw [← hW]
    have HY6 := As hvv
    clear hW hvv
    refine done_ (by kernel_rfl) ?_
    exact HRE.out _ _ _ _ _ _ _ _ _ _ _ _ _ _ _ _ _ _ _ _ _ _ _ _ _ _ HRa.out HRb.out HY6.out
   ·refine value_ (v := .pointer (some ⟨wy2.heap.size, 0, none⟩)) (w1 := wy2.alloc (.cells #[.bool false, .int .i64 0, .slice none 0 0, .slice none 0 0] 59)) (by rfl) rfl ?_ ?_
    ·go_simp
    obtain ⟨wy3, hW, hvv⟩ : ∃ W, W = wy2.alloc (.cells #[.bool false, .int .i64 0, .slice none 0 0, .slice none 0 0] 59) ∧ Mt w0 W K t on R (cb (wy2.heap.size) 59 #[.bool false, .int .i64 0, .slice none 0 0, .slice none 0 0] :: cb (wy1.heap.size) 59 #[.bool false, .int .i64 0, .slice none 0 0, .slice none 0 0] :: cb g8 59 #[.bool p.leaf, .int .i64 p.ver, .slice (some ka0) p.keys.length kcp, .slice (some ra0) p.refs.length rcp] :: cb (w.heap.size + 1) 33 #[.int .i64 0, .int .i64 0] :: cb w.heap.size 33 #[.int .i64 up.1, .int .i64 up.2] :: L) := ⟨_, rfl, HY2.out.alloc _⟩
    rw [← hW]
    have HY3 := As hvv
    clear hW hvv
    refine hK.out _ _ (SP.out _ _ HY3.out (by simp)) (fun hHeld => ?_)
    clear hK K_
    refine nm_ ?_
    refine on_ 14 (some 39) fun K_ hK => ?_
    refine gs_ Try.func111 #[.pointer (some ⟨K.1, 0, none⟩), .agg #[.int .i64 x1.1, .int .i64 x1.2]] ?_
    refine (at.calls HY3.out x1).mono ?_
    rintro e9 wy4 ⟨v, rfl, hnv, hh⟩
    refine ⟨_, rfl, ?_⟩
    rw [HX.out.2.2.2.2] at hnv
    obtain ⟨kb, kcb, rb, rcb, ev, hrb⟩ := hnv
    have ev' : v = .agg #[.bool b.leaf, .int .i64 b.ver, .slice kb b.keys.length kcb, .slice rb b.refs.length rcb] := ev
    subst ev'
    clear ev
    have HRb := As hrb
    have HY4 := As (show Mt w0 wy4 K t on R (cb (wy2.heap.size) 59 #[.bool false, .int .i64 0, .slice none 0 0, .slice none 0 0] :: cb (wy1.heap.size) 59 #[.bool false, .int .i64 0, .slice none 0 0, .slice none 0 0] :: cb g8 59 #[.bool p.leaf, .int .i64 p.ver, .slice (some ka0) p.keys.length kcp, .slice (some ra0) p.refs.length rcp] :: cb (w.heap.size + 1) 33 #[.int .i64 0, .int .i64 0] :: cb w.heap.size 33 #[.int .i64 up.1, .int .i64 up.2] :: L) from hh)
    clear hh hrb
    refine hK.out _ _ (SP.out _ _ HY4.out (by simp)) (fun hHeld => ?_)
    clear hK K_
    refine nm_ ?_
    refine on_ 17 none fun K_ hK => ?_
    obtain ⟨b0, b1, b2, b3, d0, d1, d2, d3⟩ := HY4.out.other.c4 (wy2.heap.size) 59 (.bool false) (.int .i64 0) (.slice none 0 0) (.slice none 0 0) (by simp)
    refine skip_ (w1 := ?_) (by rfl) rfl ?_ ?_
    rotate_left
    ·go_simp
     rfl
    obtain ⟨wy5, hW, hvv⟩ : ∃ W, W = _ ∧ Mt w0 W K t on R (cb (wy2.heap.size) 59 #[.bool a.leaf, .int .i64 a.ver, .slice ka a.keys.length kca, .slice ra a.refs.length rca] :: cb (wy1.heap.size) 59 #[.bool false, .int .i64 0, .slice none 0 0, .slice none 0 0] :: cb g8 59 #[.bool p.leaf, .int .i64 p.ver, .slice (some ka0) p.keys.length kcp, .slice (some ra0) p.refs.length rcp] :: cb (w.heap.size + 1) 33 #[.int .i64 0, .int .i64 0] :: cb w.heap.size 33 #[.int .i64 up.1, .int .i64 up.2] :: L) := ⟨_, rfl, (Mt.putB0 (Mt.putB0 (Mt.putB0 (Mt.putB0 HY4.out 0 (.bool a.leaf) rfl) 1 (.int .i64 a.ver) rfl) 2 (.slice ka a.keys.length kca) rfl) 3 (.slice ra a.refs.length rca) rfl)⟩
    rw [← hW]
    have HY5 := As hvv
    clear hW hvv
    refine hK.out _ _ (SP.out _ _ HY5.out (by simp)) (fun hHeld => ?_)
    clear hK K_ b0 b1 b2 b3 d0 d1 d2 d3
    refine la_ 18 none fun K_ hK => ?_
    obtain ⟨b0, b1, b2, b3, d0, d1, d2, d3⟩ := HY5.out.other.c4 (wy1.heap.size) 59 (.bool false) (.int .i64 0) (.slice none 0 0) (.slice none 0 0) (by simp)
    refine sk_ (hK.out _ _ ?_)
    clear hK K_ b0 b1 b2 b3 d0 d1 d2 d3
    obtain ⟨wy6, hW, hvv⟩ : ∃ W, W = _ ∧ Mt w0 W K t on R (cb (wy2.heap.size) 59 #[.bool a.leaf, .int .i64 a.ver, .slice ka a.keys.length kca, .slice ra a.refs.length rca] :: cb (wy1.heap.size) 59 #[.bool b.leaf, .int .i64 b.ver, .slice kb b.keys.length kcb, .slice rb b.refs.length rcb] :: cb g8 59 #[.bool p.leaf, .int .i64 p.ver, .slice (some ka0) p.keys.length kcp, .slice (some ra0) p.refs.length rcp] :: cb (w.heap.size + 1) 33 #[.int .i64 0, .int .i64 0] :: cb w.heap.size 33 #[.int .i64 up.1, .int .i64 up.2] :: L) := ⟨_, rfl, (Mt.putB1 (Mt.putB1 (Mt.putB1 (Mt.putB1 HY5.out 0 (.bool b.leaf) rfl) 1 (.int .i64 b.ver) rfl) 2 (.slice kb b.keys.length kcb) rfl) 3 (.slice rb b.refs.length rcb) rfl)⟩
    rw [← hW]
    have HY6 := As hvv
    clear hW hvv
    refine done_ (by kernel_rfl) ?_
    exact HRE.out _ _ _ _ _ _ _ _ _ _ _ _ _ _ _ _ _ _ _ _ _ _ _ _ _ _ HRa.out HRb.out HY6.out
 ·refine value_ (v := .pointer (some ⟨wr0.heap.size, 0, none⟩)) (w1 := wr0.alloc (.cells #[.bool false, .int .i64 0, .slice none 0 0, .slice none 0 0] 59)) (by rfl) rfl ?_ ?_
  ·go_simp
  obtain ⟨wy1, hW, hvv⟩ : ∃ W, W = wr0.alloc (.cells #[.bool false, .int .i64 0, .slice none 0 0, .slice none 0 0] 59) ∧ Mt w0 W K t on R (cb (wr0.heap.size) 59 #[.bool false, .int .i64 0, .slice none 0 0, .slice none 0 0] :: cb g8 59 #[.bool p.leaf, .int .i64 p.ver, .slice (some ka0) p.keys.length kcp, .slice (some ra0) p.refs.length rcp] :: cb (w.heap.size + 1) 33 #[.int .i64 0, .int .i64 0] :: cb w.heap.size 33 #[.int .i64 up.1, .int .i64 up.2] :: L) := ⟨_, rfl, HD.out.alloc _⟩
  rw [← hW]
  have HY1 := As hvv
  clear hW hvv
  refine hK.out _ _ (SP.out _ _ HY1.out (by simp)) (fun hHeld => ?_)
  clear hK K_
  refine nm_ ?_
  refine two_ (i := 6) (j := 16) (Ni := some 31) (Nj := some 10) #[true, true, true, true, true, true, true, true, true, true, true, true, true, true, false, true, false, false, false] #[true, true, true, true, true, true, false, true, true, true, true, true, true, true, false, true, true, false, false] rfl rfl rfl rfl (by kernel_rfl) (by decide) (by decide) (fun K_ hK => ?_) (fun K_ hK => ?_)
  ·refine gs_ Try.func111 #[.pointer (some ⟨K.1, 0, none⟩), .agg #[.int .i64 x0.1, .int .i64 x0.2]] ?_
   refine (at.calls HY1.out x0).mono ?_
   rintro e9 wy2 ⟨v, rfl, hnv, hh⟩
   refine ⟨_, rfl, ?_⟩
   rw [HX.out.2.2.2.1] at hnv
   obtain ⟨ka, kca, ra, rca, ev, hra⟩ := hnv
   have ev' : v = .agg #[.bool a.leaf, .int .i64 a.ver, .slice ka a.keys.length kca, .slice ra a.refs.length rca] := ev
   subst ev'
   clear ev
   have HRa := As hra
   have HY2 := As (show Mt w0 wy2 K t on R (cb (wr0.heap.size) 59 #[.bool false, .int .i64 0, .slice none 0 0, .slice none 0 0] :: cb g8 59 #[.bool p.leaf, .int .i64 p.ver, .slice (some ka0) p.keys.length kcp, .slice (some ra0) p.refs.length rcp] :: cb (w.heap.size + 1) 33 #[.int .i64 0, .int .i64 0] :: cb w.heap.size 33 #[.int .i64 up.1, .int .i64 up.2] :: L) from hh)
   clear hh hra
   refine hK.out _ _ (SP.out _ _ HY2.out (by simp)) (fun hHeld => ?_)
   clear hK K_
   refine nm_ ?_
   refine two_ (i := 14) (j := 16) (Ni := some 39) (Nj := some 10) #[true, true, true, true, true, true, true, true, true, true, true, true, true, true, true, true, false, false, false] #[true, true, true, true, true, true, true, true, true, true, true, true, true, true, false, true, true, false, false] rfl rfl rfl rfl (by kernel_rfl) (by decide) (by decide) (fun K_ hK => ?_) (fun K_ hK => ?_)
   ·refine gs_ Try.func111 #[.pointer (some ⟨K.1, 0, none⟩), .agg #[.int .i64 x1.1, .int .i64 x1.2]] ?_
    refine (at.calls HY2.out x1).mono ?_
    rintro e9 wy3 ⟨v, rfl, hnv, hh⟩
    refine ⟨_, rfl, ?_⟩
    rw [HX.out.2.2.2.2] at hnv
    obtain ⟨kb, kcb, rb, rcb, ev, hrb⟩ := hnv
    have ev' : v = .agg #[.bool b.leaf, .int .i64 b.ver, .slice kb b.keys.length kcb, .slice rb b.refs.length rcb] := ev
    subst ev'
    clear ev
    have HRb := As hrb
    have HY3 := As (show Mt w0 wy3 K t on R (cb (wr0.heap.size) 59 #[.bool false, .int .i64 0, .slice none 0 0, .slice none 0 0] :: cb g8 59 #[.bool p.leaf, .int .i64 p.ver, .slice (some ka0) p.keys.length kcp, .slice (some ra0) p.refs.length rcp] :: cb (w.heap.size + 1) 33 #[.int .i64 0, .int .i64 0] :: cb w.heap.size 33 #[.int .i64 up.1, .int .i64 up.2] :: L) from hh)
    clear hh hrb
    refine hK.out _ _ (SP.out _ _ HY3.out (by simp)) (fun hHeld => ?_)
    clear hK K_
    refine nm_ ?_
    refine on_ 16 (some 10) fun K_ hK => ?_
    refine value_ (v := .pointer (some ⟨wy3.heap.size, 0, none⟩)) (w1 := wy3.alloc (.cells #[.bool false, .int .i64 0, .slice none 0 0, .slice none 0 0] 59)) (by rfl) rfl ?_ ?_
    ·go_simp
    obtain ⟨wy4, hW, hvv⟩ : ∃ W, W = wy3.alloc (.cells #[.bool false, .int .i64 0, .slice none 0 0, .slice none 0 0] 59) ∧ Mt w0 W K t on R (cb (wy3.heap.size) 59 #[.bool false, .int .i64 0, .slice none 0 0, .slice none 0 0] :: cb (wr0.heap.size) 59 #[.bool false, .int .i64 0, .slice none 0 0, .slice none 0 0] :: cb g8 59 #[.bool p.leaf, .int .i64 p.ver, .slice (some ka0) p.keys.length kcp, .slice (some ra0) p.refs.length rcp] :: cb (w.heap.size + 1) 33 #[.int .i64 0, .int .i64 0] :: cb w.heap.size 33 #[.int .i64 up.1, .int .i64 up.2] :: L) := ⟨_, rfl, HY3.out.alloc _⟩
    rw [← hW]
    have HY4 := As hvv
    clear hW hvv
    refine hK.out _ _ (SP.out _ _ HY4.out (by simp)) (fun hHeld => ?_)
    clear hK K_
    refine nm_ ?_
    refine on_ 17 none fun K_ hK => ?_
    obtain ⟨b0, b1, b2, b3, d0, d1, d2, d3⟩ := HY4.out.other.c4 (wr0.heap.size) 59 (.bool false) (.int .i64 0) (.slice none 0 0) (.slice none 0 0) (by simp)
    refine skip_ (w1 := ?_) (by rfl) rfl ?_ ?_
    rotate_left
    ·go_simp
     rfl
    obtain ⟨wy5, hW, hvv⟩ : ∃ W, W = _ ∧ Mt w0 W K t on R (cb (wy3.heap.size) 59 #[.bool false, .int .i64 0, .slice none 0 0, .slice none 0 0] :: cb (wr0.heap.size) 59 #[.bool a.leaf, .int .i64 a.ver, .slice ka a.keys.length kca, .slice ra a.refs.length rca] :: cb g8 59 #[.bool p.leaf, .int .i64 p.ver, .slice (some ka0) p.keys.length kcp, .slice (some ra0) p.refs.length rcp] :: cb (w.heap.size + 1) 33 #[.int .i64 0, .int .i64 0] :: cb w.heap.size 33 #[.int .i64 up.1, .int .i64 up.2] :: L) := ⟨_, rfl, (Mt.putB1 (Mt.putB1 (Mt.putB1 (Mt.putB1 HY4.out 0 (.bool a.leaf) rfl) 1 (.int .i64 a.ver) rfl) 2 (.slice ka a.keys.length kca) rfl) 3 (.slice ra a.refs.length rca) rfl)⟩
    rw [← hW]
    have HY5 := As hvv
    clear hW hvv
    refine hK.out _ _ (SP.out _ _ HY5.out (by simp)) (fun hHeld => ?_)
    clear hK K_ b0 b1 b2 b3 d0 d1 d2 d3
    refine la_ 18 none fun K_ hK => ?_
    obtain ⟨b0, b1, b2, b3, d0, d1, d2, d3⟩ := HY5.out.other.c4 (wy3.heap.size) 59 (.bool false) (.int .i64 0) (.slice none 0 0) (.slice none 0 0) (by simp)
    refine sk_ (hK.out _ _ ?_)
    clear hK K_ b0 b1 b2 b3 d0 d1 d2 d3
    obtain ⟨wy6, hW, hvv⟩ : ∃ W, W = _ ∧ Mt w0 W K t on R (cb (wy3.heap.size) 59 #[.bool b.leaf, .int .i64 b.ver, .slice kb b.keys.length kcb, .slice rb b.refs.length rcb] :: cb (wr0.heap.size) 59 #[.bool a.leaf, .int .i64 a.ver, .slice ka a.keys.length kca, .slice ra a.refs.length rca] :: cb g8 59 #[.bool p.leaf, .int .i64 p.ver, .slice (some ka0) p.keys.length kcp, .slice (some ra0) p.refs.length rcp] :: cb (w.heap.size + 1) 33 #[.int .i64 0, .int .i64 0] :: cb w.heap.size 33 #[.int .i64 up.1, .int .i64 up.2] :: L) := ⟨_, rfl, (Mt.putB0 (Mt.putB0 (Mt.putB0 (Mt.putB0 HY5.out 0 (.bool b.leaf) rfl) 1 (.int .i64 b.ver) rfl) 2 (.slice kb b.keys.length kcb) rfl) 3 (.slice rb b.refs.length rcb) rfl)⟩
    rw [← hW]
    have HY6 := As hvv
    clear hW hvv
    refine done_ (by kernel_rfl) ?_
    exact HRE.out _ _ _ _ _ _ _ _ _ _ _ _ _ _ _ _ _ _ _ _ _ _ _ _ _ _ HRa.out HRb.out (Mt.permL HY6.out (List.Perm.swap _ _ _))
   ·refine value_ (v := .pointer (some ⟨wy2.heap.size, 0, none⟩)) (w1 := wy2.alloc (.cells #[.bool false, .int .i64 0, .slice none 0 0, .slice none 0 0] 59)) (by rfl) rfl ?_ ?_
    ·go_simp
    obtain ⟨wy3, hW, hvv⟩ : ∃ W, W = wy2.alloc (.cells #[.bool false, .int .i64 0, .slice none 0 0, .slice none 0 0] 59) ∧ Mt w0 W K t on R (cb (wy2.heap.size) 59 #[.bool false, .int .i64 0, .slice none 0 0, .slice none 0 0] :: cb (wr0.heap.size) 59 #[.bool false, .int .i64 0, .slice none 0 0, .slice none 0 0] :: cb g8 59 #[.bool p.leaf, .int .i64 p.ver, .slice (some ka0) p.keys.length kcp, .slice (some ra0) p.refs.length rcp] :: cb (w.heap.size + 1) 33 #[.int .i64 0, .int .i64 0] :: cb w.heap.size 33 #[.int .i64 up.1, .int .i64 up.2] :: L) := ⟨_, rfl, HY2.out.alloc _⟩
    rw [← hW]
    have HY3 := As hvv
    clear hW hvv
    refine hK.out _ _ (SP.out _ _ HY3.out (by simp)) (fun hHeld => ?_)
    clear hK K_
    refine nm_ ?_
    refine on_ 14 (some 39) fun K_ hK => ?_
    refine gs_ Try.func111 #[.pointer (some ⟨K.1, 0, none⟩), .agg #[.int .i64 x1.1, .int .i64 x1.2]] ?_
    refine (at.calls HY3.out x1).mono ?_
    rintro e9 wy4 ⟨v, rfl, hnv, hh⟩
    refine ⟨_, rfl, ?_⟩
    rw [HX.out.2.2.2.2] at hnv
    obtain ⟨kb, kcb, rb, rcb, ev, hrb⟩ := hnv
    have ev' : v = .agg #[.bool b.leaf, .int .i64 b.ver, .slice kb b.keys.length kcb, .slice rb b.refs.length rcb] := ev
    subst ev'
    clear ev
    have HRb := As hrb
    have HY4 := As (show Mt w0 wy4 K t on R (cb (wy2.heap.size) 59 #[.bool false, .int .i64 0, .slice none 0 0, .slice none 0 0] :: cb (wr0.heap.size) 59 #[.bool false, .int .i64 0, .slice none 0 0, .slice none 0 0] :: cb g8 59 #[.bool p.leaf, .int .i64 p.ver, .slice (some ka0) p.keys.length kcp, .slice (some ra0) p.refs.length rcp] :: cb (w.heap.size + 1) 33 #[.int .i64 0, .int .i64 0] :: cb w.heap.size 33 #[.int .i64 up.1, .int .i64 up.2] :: L) from hh)
    clear hh hrb
    refine hK.out _ _ (SP.out _ _ HY4.out (by simp)) (fun hHeld => ?_)
    clear hK K_
    refine nm_ ?_
    refine on_ 17 none fun K_ hK => ?_
    obtain ⟨b0, b1, b2, b3, d0, d1, d2, d3⟩ := HY4.out.other.c4 (wr0.heap.size) 59 (.bool false) (.int .i64 0) (.slice none 0 0) (.slice none 0 0) (by simp)
    refine skip_ (w1 := ?_) (by rfl) rfl ?_ ?_
    rotate_left
    ·go_simp
     rfl
    obtain ⟨wy5, hW, hvv⟩ : ∃ W, W = _ ∧ Mt w0 W K t on R (cb (wy2.heap.size) 59 #[.bool false, .int .i64 0, .slice none 0 0, .slice none 0 0] :: cb (wr0.heap.size) 59 #[.bool a.leaf, .int .i64 a.ver, .slice ka a.keys.length kca, .slice ra a.refs.length rca] :: cb g8 59 #[.bool p.leaf, .int .i64 p.ver, .slice (some ka0) p.keys.length kcp, .slice (some ra0) p.refs.length rcp] :: cb (w.heap.size + 1) 33 #[.int .i64 0, .int .i64 0] :: cb w.heap.size 33 #[.int .i64 up.1, .int .i64 up.2] :: L) := ⟨_, rfl, (Mt.putB1 (Mt.putB1 (Mt.putB1 (Mt.putB1 HY4.out 0 (.bool a.leaf) rfl) 1 (.int .i64 a.ver) rfl) 2 (.slice ka a.keys.length kca) rfl) 3 (.slice ra a.refs.length rca) rfl)⟩
    rw [← hW]
    have HY5 := As hvv
    clear hW hvv
    refine hK.out _ _ (SP.out _ _ HY5.out (by simp)) (fun hHeld => ?_)
    clear hK K_ b0 b1 b2 b3 d0 d1 d2 d3
    refine la_ 18 none fun K_ hK => ?_
    obtain ⟨b0, b1, b2, b3, d0, d1, d2, d3⟩ := HY5.out.other.c4 (wy2.heap.size) 59 (.bool false) (.int .i64 0) (.slice none 0 0) (.slice none 0 0) (by simp)
    refine sk_ (hK.out _ _ ?_)
    clear hK K_ b0 b1 b2 b3 d0 d1 d2 d3
    obtain ⟨wy6, hW, hvv⟩ : ∃ W, W = _ ∧ Mt w0 W K t on R (cb (wy2.heap.size) 59 #[.bool b.leaf, .int .i64 b.ver, .slice kb b.keys.length kcb, .slice rb b.refs.length rcb] :: cb (wr0.heap.size) 59 #[.bool a.leaf, .int .i64 a.ver, .slice ka a.keys.length kca, .slice ra a.refs.length rca] :: cb g8 59 #[.bool p.leaf, .int .i64 p.ver, .slice (some ka0) p.keys.length kcp, .slice (some ra0) p.refs.length rcp] :: cb (w.heap.size + 1) 33 #[.int .i64 0, .int .i64 0] :: cb w.heap.size 33 #[.int .i64 up.1, .int .i64 up.2] :: L) := ⟨_, rfl, (Mt.putB0 (Mt.putB0 (Mt.putB0 (Mt.putB0 HY5.out 0 (.bool b.leaf) rfl) 1 (.int .i64 b.ver) rfl) 2 (.slice kb b.keys.length kcb) rfl) 3 (.slice rb b.refs.length rcb) rfl)⟩
    rw [← hW]
    have HY6 := As hvv
    clear hW hvv
    refine done_ (by kernel_rfl) ?_
    exact HRE.out _ _ _ _ _ _ _ _ _ _ _ _ _ _ _ _ _ _ _ _ _ _ _ _ _ _ HRa.out HRb.out (Mt.permL HY6.out (List.Perm.swap _ _ _))
  ·refine value_ (v := .pointer (some ⟨wy1.heap.size, 0, none⟩)) (w1 := wy1.alloc (.cells #[.bool false, .int .i64 0, .slice none 0 0, .slice none 0 0] 59)) (by rfl) rfl ?_ ?_
   ·go_simp
   obtain ⟨wy2, hW, hvv⟩ : ∃ W, W = wy1.alloc (.cells #[.bool false, .int .i64 0, .slice none 0 0, .slice none 0 0] 59) ∧ Mt w0 W K t on R (cb (wy1.heap.size) 59 #[.bool false, .int .i64 0, .slice none 0 0, .slice none 0 0] :: cb (wr0.heap.size) 59 #[.bool false, .int .i64 0, .slice none 0 0, .slice none 0 0] :: cb g8 59 #[.bool p.leaf, .int .i64 p.ver, .slice (some ka0) p.keys.length kcp, .slice (some ra0) p.refs.length rcp] :: cb (w.heap.size + 1) 33 #[.int .i64 0, .int .i64 0] :: cb w.heap.size 33 #[.int .i64 up.1, .int .i64 up.2] :: L) := ⟨_, rfl, HY1.out.alloc _⟩
   rw [← hW]
   have HY2 := As hvv
   clear hW hvv
   refine hK.out _ _ (SP.out _ _ HY2.out (by simp)) (fun hHeld => ?_)
   clear hK K_
   refine nm_ ?_
   refine on_ 6 (some 31) fun K_ hK => ?_
   refine gs_ Try.func111 #[.pointer (some ⟨K.1, 0, none⟩), .agg #[.int .i64 x0.1, .int .i64 x0.2]] ?_
   refine (at.calls HY2.out x0).mono ?_
   rintro e9 wy3 ⟨v, rfl, hnv, hh⟩
   refine ⟨_, rfl, ?_⟩
   rw [HX.out.2.2.2.1] at hnv
   obtain ⟨ka, kca, ra, rca, ev, hra⟩ := hnv
   have ev' : v = .agg #[.bool a.leaf, .int .i64 a.ver, .slice ka a.keys.length kca, .slice ra a.refs.length rca] := ev
   subst ev'
   clear ev
   have HRa := As hra
   have HY3 := As (show Mt w0 wy3 K t on R (cb (wy1.heap.size) 59 #[.bool false, .int .i64 0, .slice none 0 0, .slice none 0 0] :: cb (wr0.heap.size) 59 #[.bool false, .int .i64 0, .slice none 0 0, .slice none 0 0] :: cb g8 59 #[.bool p.leaf, .int .i64 p.ver, .slice (some ka0) p.keys.length kcp, .slice (some ra0) p.refs.length rcp] :: cb (w.heap.size + 1) 33 #[.int .i64 0, .int .i64 0] :: cb w.heap.size 33 #[.int .i64 up.1, .int .i64 up.2] :: L) from hh)
   clear hh hra
   refine hK.out _ _ (SP.out _ _ HY3.out (by simp)) (fun hHeld => ?_)
   clear hK K_
   refine nm_ ?_
   refine on_ 14 (some 39) fun K_ hK => ?_
   refine gs_ Try.func111 #[.pointer (some ⟨K.1, 0, none⟩), .agg #[.int .i64 x1.1, .int .i64 x1.2]] ?_
   refine (at.calls HY3.out x1).mono ?_
   rintro e9 wy4 ⟨v, rfl, hnv, hh⟩
   refine ⟨_, rfl, ?_⟩
   rw [HX.out.2.2.2.2] at hnv
   obtain ⟨kb, kcb, rb, rcb, ev, hrb⟩ := hnv
   have ev' : v = .agg #[.bool b.leaf, .int .i64 b.ver, .slice kb b.keys.length kcb, .slice rb b.refs.length rcb] := ev
   subst ev'
   clear ev
   have HRb := As hrb
   have HY4 := As (show Mt w0 wy4 K t on R (cb (wy1.heap.size) 59 #[.bool false, .int .i64 0, .slice none 0 0, .slice none 0 0] :: cb (wr0.heap.size) 59 #[.bool false, .int .i64 0, .slice none 0 0, .slice none 0 0] :: cb g8 59 #[.bool p.leaf, .int .i64 p.ver, .slice (some ka0) p.keys.length kcp, .slice (some ra0) p.refs.length rcp] :: cb (w.heap.size + 1) 33 #[.int .i64 0, .int .i64 0] :: cb w.heap.size 33 #[.int .i64 up.1, .int .i64 up.2] :: L) from hh)
   clear hh hrb
   refine hK.out _ _ (SP.out _ _ HY4.out (by simp)) (fun hHeld => ?_)
   clear hK K_
   refine nm_ ?_
   refine on_ 17 none fun K_ hK => ?_
   obtain ⟨b0, b1, b2, b3, d0, d1, d2, d3⟩ := HY4.out.other.c4 (wr0.heap.size) 59 (.bool false) (.int .i64 0) (.slice none 0 0) (.slice none 0 0) (by simp)
   refine skip_ (w1 := ?_) (by rfl) rfl ?_ ?_
   rotate_left
   ·go_simp
    rfl
   obtain ⟨wy5, hW, hvv⟩ : ∃ W, W = _ ∧ Mt w0 W K t on R (cb (wy1.heap.size) 59 #[.bool false, .int .i64 0, .slice none 0 0, .slice none 0 0] :: cb (wr0.heap.size) 59 #[.bool a.leaf, .int .i64 a.ver, .slice ka a.keys.length kca, .slice ra a.refs.length rca] :: cb g8 59 #[.bool p.leaf, .int .i64 p.ver, .slice (some ka0) p.keys.length kcp, .slice (some ra0) p.refs.length rcp] :: cb (w.heap.size + 1) 33 #[.int .i64 0, .int .i64 0] :: cb w.heap.size 33 #[.int .i64 up.1, .int .i64 up.2] :: L) := ⟨_, rfl, (Mt.putB1 (Mt.putB1 (Mt.putB1 (Mt.putB1 HY4.out 0 (.bool a.leaf) rfl) 1 (.int .i64 a.ver) rfl) 2 (.slice ka a.keys.length kca) rfl) 3 (.slice ra a.refs.length rca) rfl)⟩
   rw [← hW]
   have HY5 := As hvv
   clear hW hvv
   refine hK.out _ _ (SP.out _ _ HY5.out (by simp)) (fun hHeld => ?_)
   clear hK K_ b0 b1 b2 b3 d0 d1 d2 d3
   refine la_ 18 none fun K_ hK => ?_
   obtain ⟨b0, b1, b2, b3, d0, d1, d2, d3⟩ := HY5.out.other.c4 (wy1.heap.size) 59 (.bool false) (.int .i64 0) (.slice none 0 0) (.slice none 0 0) (by simp)
   refine sk_ (hK.out _ _ ?_)
   clear hK K_ b0 b1 b2 b3 d0 d1 d2 d3
   obtain ⟨wy6, hW, hvv⟩ : ∃ W, W = _ ∧ Mt w0 W K t on R (cb (wy1.heap.size) 59 #[.bool b.leaf, .int .i64 b.ver, .slice kb b.keys.length kcb, .slice rb b.refs.length rcb] :: cb (wr0.heap.size) 59 #[.bool a.leaf, .int .i64 a.ver, .slice ka a.keys.length kca, .slice ra a.refs.length rca] :: cb g8 59 #[.bool p.leaf, .int .i64 p.ver, .slice (some ka0) p.keys.length kcp, .slice (some ra0) p.refs.length rcp] :: cb (w.heap.size + 1) 33 #[.int .i64 0, .int .i64 0] :: cb w.heap.size 33 #[.int .i64 up.1, .int .i64 up.2] :: L) := ⟨_, rfl, (Mt.putB0 (Mt.putB0 (Mt.putB0 (Mt.putB0 HY5.out 0 (.bool b.leaf) rfl) 1 (.int .i64 b.ver) rfl) 2 (.slice kb b.keys.length kcb) rfl) 3 (.slice rb b.refs.length rcb) rfl)⟩
   rw [← hW]
   have HY6 := As hvv
   clear hW hvv
   refine done_ (by kernel_rfl) ?_
   exact HRE.out _ _ _ _ _ _ _ _ _ _ _ _ _ _ _ _ _ _ _ _ _ _ _ _ _ _ HRa.out HRb.out (Mt.permL HY6.out (List.Perm.swap _ _ _))
 ·refine value_ (v := .pointer (some ⟨wr0.heap.size, 0, none⟩)) (w1 := wr0.alloc (.cells #[.bool false, .int .i64 0, .slice none 0 0, .slice none 0 0] 59)) (by rfl) rfl ?_ ?_
  ·go_simp
  obtain ⟨wy1, hW, hvv⟩ : ∃ W, W = wr0.alloc (.cells #[.bool false, .int .i64 0, .slice none 0 0, .slice none 0 0] 59) ∧ Mt w0 W K t on R (cb (wr0.heap.size) 59 #[.bool false, .int .i64 0, .slice none 0 0, .slice none 0 0] :: cb g8 59 #[.bool p.leaf, .int .i64 p.ver, .slice (some ka0) p.keys.length kcp, .slice (some ra0) p.refs.length rcp] :: cb (w.heap.size + 1) 33 #[.int .i64 0, .int .i64 0] :: cb w.heap.size 33 #[.int .i64 up.1, .int .i64 up.2] :: L) := ⟨_, rfl, HD.out.alloc _⟩
  rw [← hW]
  have HY1 := As hvv
  clear hW hvv
  refine hK.out _ _ (SP.out _ _ HY1.out (by simp)) (fun hHeld => ?_)
  clear hK K_
  refine nm_ ?_
  refine two_ (i := 6) (j := 15) (Ni := some 31) (Nj := some 9) #[true, true, true, true, true, true, true, true, true, true, true, true, true, true, false, false, true, false, false] #[true, true, true, true, true, true, false, true, true, true, true, true, true, true, false, true, true, false, false] rfl rfl rfl rfl (by kernel_rfl) (by decide) (by decide) (fun K_ hK => ?_) (fun K_ hK => ?_)
  ·refine gs_ Try.func111 #[.pointer (some ⟨K.1, 0, none⟩), .agg #[.int .i64 x0.1, .int .i64 x0.2]] ?_
   refine (at.calls HY1.out x0).mono ?_
   rintro e9 wy2 ⟨v, rfl, hnv, hh⟩
   refine ⟨_, rfl, ?_⟩
   rw [HX.out.2.2.2.1] at hnv
   obtain ⟨ka, kca, ra, rca, ev, hra⟩ := hnv
   have ev' : v = .agg #[.bool a.leaf, .int .i64 a.ver, .slice ka a.keys.length kca, .slice ra a.refs.length rca] := ev
   subst ev'
   clear ev
   have HRa := As hra
   have HY2 := As (show Mt w0 wy2 K t on R (cb (wr0.heap.size) 59 #[.bool false, .int .i64 0, .slice none 0 0, .slice none 0 0] :: cb g8 59 #[.bool p.leaf, .int .i64 p.ver, .slice (some ka0) p.keys.length kcp, .slice (some ra0) p.refs.length rcp] :: cb (w.heap.size + 1) 33 #[.int .i64 0, .int .i64 0] :: cb w.heap.size 33 #[.int .i64 up.1, .int .i64 up.2] :: L) from hh)
   clear hh hra
   refine hK.out _ _ (SP.out _ _ HY2.out (by simp)) (fun hHeld => ?_)
   clear hK K_
   refine nm_ ?_
   refine two_ (i := 14) (j := 15) (Ni := some 39) (Nj := some 9) #[true, true, true, true, true, true, true, true, true, true, true, true, true, true, true, false, true, false, false] #[true, true, true, true, true, true, true, true, true, true, true, true, true, true, false, true, true, false, false] rfl rfl rfl rfl (by kernel_rfl) (by decide) (by decide) (fun K_ hK => ?_) (fun K_ hK => ?_)
   ·refine gs_ Try.func111 #[.pointer (some ⟨K.1, 0, none⟩), .agg #[.int .i64 x1.1, .int .i64 x1.2]] ?_
    refine (at.calls HY2.out x1).mono ?_
    rintro e9 wy3 ⟨v, rfl, hnv, hh⟩
    refine ⟨_, rfl, ?_⟩
    rw [HX.out.2.2.2.2] at hnv
    obtain ⟨kb, kcb, rb, rcb, ev, hrb⟩ := hnv
    have ev' : v = .agg #[.bool b.leaf, .int .i64 b.ver, .slice kb b.keys.length kcb, .slice rb b.refs.length rcb] := ev
    subst ev'
    clear ev
    have HRb := As hrb
    have HY3 := As (show Mt w0 wy3 K t on R (cb (wr0.heap.size) 59 #[.bool false, .int .i64 0, .slice none 0 0, .slice none 0 0] :: cb g8 59 #[.bool p.leaf, .int .i64 p.ver, .slice (some ka0) p.keys.length kcp, .slice (some ra0) p.refs.length rcp] :: cb (w.heap.size + 1) 33 #[.int .i64 0, .int .i64 0] :: cb w.heap.size 33 #[.int .i64 up.1, .int .i64 up.2] :: L) from hh)
    clear hh hrb
    refine hK.out _ _ (SP.out _ _ HY3.out (by simp)) (fun hHeld => ?_)
    clear hK K_
    refine nm_ ?_
    refine on_ 15 (some 9) fun K_ hK => ?_
    refine value_ (v := .pointer (some ⟨wy3.heap.size, 0, none⟩)) (w1 := wy3.alloc (.cells #[.bool false, .int .i64 0, .slice none 0 0, .slice none 0 0] 59)) (by rfl) rfl ?_ ?_
    ·go_simp
    obtain ⟨wy4, hW, hvv⟩ : ∃ W, W = wy3.alloc (.cells #[.bool false, .int .i64 0, .slice none 0 0, .slice none 0 0] 59) ∧ Mt w0 W K t on R (cb (wy3.heap.size) 59 #[.bool false, .int .i64 0, .slice none 0 0, .slice none 0 0] :: cb (wr0.heap.size) 59 #[.bool false, .int .i64 0, .slice none 0 0, .slice none 0 0] :: cb g8 59 #[.bool p.leaf, .int .i64 p.ver, .slice (some ka0) p.keys.length kcp, .slice (some ra0) p.refs.length rcp] :: cb (w.heap.size + 1) 33 #[.int .i64 0, .int .i64 0] :: cb w.heap.size 33 #[.int .i64 up.1, .int .i64 up.2] :: L) := ⟨_, rfl, HY3.out.alloc _⟩
    rw [← hW]
    have HY4 := As hvv
    clear hW hvv
    refine hK.out _ _ (SP.out _ _ HY4.out (by simp)) (fun hHeld => ?_)
    clear hK K_
    refine nm_ ?_
    refine on_ 17 none fun K_ hK => ?_
    obtain ⟨b0, b1, b2, b3, d0, d1, d2, d3⟩ := HY4.out.other.c4 (wy3.heap.size) 59 (.bool false) (.int .i64 0) (.slice none 0 0) (.slice none 0 0) (by simp)
    refine skip_ (w1 := ?_) (by rfl) rfl ?_ ?_
    rotate_left
    ·go_simp
     rfl
    obtain ⟨wy5, hW, hvv⟩ : ∃ W, W = _ ∧ Mt w0 W K t on R (cb (wy3.heap.size) 59 #[.bool a.leaf, .int .i64 a.ver, .slice ka a.keys.length kca, .slice ra a.refs.length rca] :: cb (wr0.heap.size) 59 #[.bool false, .int .i64 0, .slice none 0 0, .slice none 0 0] :: cb g8 59 #[.bool p.leaf, .int .i64 p.ver, .slice (some ka0) p.keys.length kcp, .slice (some ra0) p.refs.length rcp] :: cb (w.heap.size + 1) 33 #[.int .i64 0, .int .i64 0] :: cb w.heap.size 33 #[.int .i64 up.1, .int .i64 up.2] :: L) := ⟨_, rfl, (Mt.putB0 (Mt.putB0 (Mt.putB0 (Mt.putB0 HY4.out 0 (.bool a.leaf) rfl) 1 (.int .i64 a.ver) rfl) 2 (.slice ka a.keys.length kca) rfl) 3 (.slice ra a.refs.length rca) rfl)⟩
    rw [← hW]
    have HY5 := As hvv
    clear hW hvv
    refine hK.out _ _ (SP.out _ _ HY5.out (by simp)) (fun hHeld => ?_)
    clear hK K_ b0 b1 b2 b3 d0 d1 d2 d3
    refine la_ 18 none fun K_ hK => ?_
    obtain ⟨b0, b1, b2, b3, d0, d1, d2, d3⟩ := HY5.out.other.c4 (wr0.heap.size) 59 (.bool false) (.int .i64 0) (.slice none 0 0) (.slice none 0 0) (by simp)
    refine sk_ (hK.out _ _ ?_)
    clear hK K_ b0 b1 b2 b3 d0 d1 d2 d3
    obtain ⟨wy6, hW, hvv⟩ : ∃ W, W = _ ∧ Mt w0 W K t on R (cb (wy3.heap.size) 59 #[.bool a.leaf, .int .i64 a.ver, .slice ka a.keys.length kca, .slice ra a.refs.length rca] :: cb (wr0.heap.size) 59 #[.bool b.leaf, .int .i64 b.ver, .slice kb b.keys.length kcb, .slice rb b.refs.length rcb] :: cb g8 59 #[.bool p.leaf, .int .i64 p.ver, .slice (some ka0) p.keys.length kcp, .slice (some ra0) p.refs.length rcp] :: cb (w.heap.size + 1) 33 #[.int .i64 0, .int .i64 0] :: cb w.heap.size 33 #[.int .i64 up.1, .int .i64 up.2] :: L) := ⟨_, rfl, (Mt.putB1 (Mt.putB1 (Mt.putB1 (Mt.putB1 HY5.out 0 (.bool b.leaf) rfl) 1 (.int .i64 b.ver) rfl) 2 (.slice kb b.keys.length kcb) rfl) 3 (.slice rb b.refs.length rcb) rfl)⟩
    rw [← hW]
    have HY6 := As hvv
    clear hW hvv
    refine done_ (by kernel_rfl) ?_
    exact HRE.out _ _ _ _ _ _ _ _ _ _ _ _ _ _ _ _ _ _ _ _ _ _ _ _ _ _ HRa.out HRb.out HY6.out
   ·refine value_ (v := .pointer (some ⟨wy2.heap.size, 0, none⟩)) (w1 := wy2.alloc (.cells #[.bool false, .int .i64 0, .slice none 0 0, .slice none 0 0] 59)) (by rfl) rfl ?_ ?_
    ·go_simp
    obtain ⟨wy3, hW, hvv⟩ : ∃ W, W = wy2.alloc (.cells #[.bool false, .int .i64 0, .slice none 0 0, .slice none 0 0] 59) ∧ Mt w0 W K t on R (cb (wy2.heap.size) 59 #[.bool false, .int .i64 0, .slice none 0 0, .slice none 0 0] :: cb (wr0.heap.size) 59 #[.bool false, .int .i64 0, .slice none 0 0, .slice none 0 0] :: cb g8 59 #[.bool p.leaf, .int .i64 p.ver, .slice (some ka0) p.keys.length kcp, .slice (some ra0) p.refs.length rcp] :: cb (w.heap.size + 1) 33 #[.int .i64 0, .int .i64 0] :: cb w.heap.size 33 #[.int .i64 up.1, .int .i64 up.2] :: L) := ⟨_, rfl, HY2.out.alloc _⟩
    rw [← hW]
    have HY3 := As hvv
    clear hW hvv
    refine hK.out _ _ (SP.out _ _ HY3.out (by simp)) (fun hHeld => ?_)
    clear hK K_
    refine nm_ ?_
    refine on_ 14 (some 39) fun K_ hK => ?_
    refine gs_ Try.func111 #[.pointer (some ⟨K.1, 0, none⟩), .agg #[.int .i64 x1.1, .int .i64 x1.2]] ?_
    refine (at.calls HY3.out x1).mono ?_
    rintro e9 wy4 ⟨v, rfl, hnv, hh⟩
    refine ⟨_, rfl, ?_⟩
    rw [HX.out.2.2.2.2] at hnv
    obtain ⟨kb, kcb, rb, rcb, ev, hrb⟩ := hnv
    have ev' : v = .agg #[.bool b.leaf, .int .i64 b.ver, .slice kb b.keys.length kcb, .slice rb b.refs.length rcb] := ev
    subst ev'
    clear ev
    have HRb := As hrb
    have HY4 := As (show Mt w0 wy4 K t on R (cb (wy2.heap.size) 59 #[.bool false, .int .i64 0, .slice none 0 0, .slice none 0 0] :: cb (wr0.heap.size) 59 #[.bool false, .int .i64 0, .slice none 0 0, .slice none 0 0] :: cb g8 59 #[.bool p.leaf, .int .i64 p.ver, .slice (some ka0) p.keys.length kcp, .slice (some ra0) p.refs.length rcp] :: cb (w.heap.size + 1) 33 #[.int .i64 0, .int .i64 0] :: cb w.heap.size 33 #[.int .i64 up.1, .int .i64 up.2] :: L) from hh)
    clear hh hrb
    refine hK.out _ _ (SP.out _ _ HY4.out (by simp)) (fun hHeld => ?_)
    clear hK K_
    refine nm_ ?_
    refine on_ 17 none fun K_ hK => ?_
    obtain ⟨b0, b1, b2, b3, d0, d1, d2, d3⟩ := HY4.out.other.c4 (wy2.heap.size) 59 (.bool false) (.int .i64 0) (.slice none 0 0) (.slice none 0 0) (by simp)
    refine skip_ (w1 := ?_) (by rfl) rfl ?_ ?_
    rotate_left
    ·go_simp
     rfl
    obtain ⟨wy5, hW, hvv⟩ : ∃ W, W = _ ∧ Mt w0 W K t on R (cb (wy2.heap.size) 59 #[.bool a.leaf, .int .i64 a.ver, .slice ka a.keys.length kca, .slice ra a.refs.length rca] :: cb (wr0.heap.size) 59 #[.bool false, .int .i64 0, .slice none 0 0, .slice none 0 0] :: cb g8 59 #[.bool p.leaf, .int .i64 p.ver, .slice (some ka0) p.keys.length kcp, .slice (some ra0) p.refs.length rcp] :: cb (w.heap.size + 1) 33 #[.int .i64 0, .int .i64 0] :: cb w.heap.size 33 #[.int .i64 up.1, .int .i64 up.2] :: L) := ⟨_, rfl, (Mt.putB0 (Mt.putB0 (Mt.putB0 (Mt.putB0 HY4.out 0 (.bool a.leaf) rfl) 1 (.int .i64 a.ver) rfl) 2 (.slice ka a.keys.length kca) rfl) 3 (.slice ra a.refs.length rca) rfl)⟩
    rw [← hW]
    have HY5 := As hvv
    clear hW hvv
    refine hK.out _ _ (SP.out _ _ HY5.out (by simp)) (fun hHeld => ?_)
    clear hK K_ b0 b1 b2 b3 d0 d1 d2 d3
    refine la_ 18 none fun K_ hK => ?_
    obtain ⟨b0, b1, b2, b3, d0, d1, d2, d3⟩ := HY5.out.other.c4 (wr0.heap.size) 59 (.bool false) (.int .i64 0) (.slice none 0 0) (.slice none 0 0) (by simp)
    refine sk_ (hK.out _ _ ?_)
    clear hK K_ b0 b1 b2 b3 d0 d1 d2 d3
    obtain ⟨wy6, hW, hvv⟩ : ∃ W, W = _ ∧ Mt w0 W K t on R (cb (wy2.heap.size) 59 #[.bool a.leaf, .int .i64 a.ver, .slice ka a.keys.length kca, .slice ra a.refs.length rca] :: cb (wr0.heap.size) 59 #[.bool b.leaf, .int .i64 b.ver, .slice kb b.keys.length kcb, .slice rb b.refs.length rcb] :: cb g8 59 #[.bool p.leaf, .int .i64 p.ver, .slice (some ka0) p.keys.length kcp, .slice (some ra0) p.refs.length rcp] :: cb (w.heap.size + 1) 33 #[.int .i64 0, .int .i64 0] :: cb w.heap.size 33 #[.int .i64 up.1, .int .i64 up.2] :: L) := ⟨_, rfl, (Mt.putB1 (Mt.putB1 (Mt.putB1 (Mt.putB1 HY5.out 0 (.bool b.leaf) rfl) 1 (.int .i64 b.ver) rfl) 2 (.slice kb b.keys.length kcb) rfl) 3 (.slice rb b.refs.length rcb) rfl)⟩
    rw [← hW]
    have HY6 := As hvv
    clear hW hvv
    refine done_ (by kernel_rfl) ?_
    exact HRE.out _ _ _ _ _ _ _ _ _ _ _ _ _ _ _ _ _ _ _ _ _ _ _ _ _ _ HRa.out HRb.out HY6.out
  ·refine value_ (v := .pointer (some ⟨wy1.heap.size, 0, none⟩)) (w1 := wy1.alloc (.cells #[.bool false, .int .i64 0, .slice none 0 0, .slice none 0 0] 59)) (by rfl) rfl ?_ ?_
   ·go_simp
   obtain ⟨wy2, hW, hvv⟩ : ∃ W, W = wy1.alloc (.cells #[.bool false, .int .i64 0, .slice none 0 0, .slice none 0 0] 59) ∧ Mt w0 W K t on R (cb (wy1.heap.size) 59 #[.bool false, .int .i64 0, .slice none 0 0, .slice none 0 0] :: cb (wr0.heap.size) 59 #[.bool false, .int .i64 0, .slice none 0 0, .slice none 0 0] :: cb g8 59 #[.bool p.leaf, .int .i64 p.ver, .slice (some ka0) p.keys.length kcp, .slice (some ra0) p.refs.length rcp] :: cb (w.heap.size + 1) 33 #[.int .i64 0, .int .i64 0] :: cb w.heap.size 33 #[.int .i64 up.1, .int .i64 up.2] :: L) := ⟨_, rfl, HY1.out.alloc _⟩
   rw [← hW]
   have HY2 := As hvv
   clear hW hvv
   refine hK.out _ _ (SP.out _ _ HY2.out (by simp)) (fun hHeld => ?_)
   clear hK K_
   refine nm_ ?_
   refine on_ 6 (some 31) fun K_ hK => ?_
   refine gs_ Try.func111 #[.pointer (some ⟨K.1, 0, none⟩), .agg #[.int .i64 x0.1, .int .i64 x0.2]] ?_
   refine (at.calls HY2.out x0).mono ?_
   rintro e9 wy3 ⟨v, rfl, hnv, hh⟩
   refine ⟨_, rfl, ?_⟩
   rw [HX.out.2.2.2.1] at hnv
   obtain ⟨ka, kca, ra, rca, ev, hra⟩ := hnv
   have ev' : v = .agg #[.bool a.leaf, .int .i64 a.ver, .slice ka a.keys.length kca, .slice ra a.refs.length rca] := ev
   subst ev'
   clear ev
   have HRa := As hra
   have HY3 := As (show Mt w0 wy3 K t on R (cb (wy1.heap.size) 59 #[.bool false, .int .i64 0, .slice none 0 0, .slice none 0 0] :: cb (wr0.heap.size) 59 #[.bool false, .int .i64 0, .slice none 0 0, .slice none 0 0] :: cb g8 59 #[.bool p.leaf, .int .i64 p.ver, .slice (some ka0) p.keys.length kcp, .slice (some ra0) p.refs.length rcp] :: cb (w.heap.size + 1) 33 #[.int .i64 0, .int .i64 0] :: cb w.heap.size 33 #[.int .i64 up.1, .int .i64 up.2] :: L) from hh)
   clear hh hra
   refine hK.out _ _ (SP.out _ _ HY3.out (by simp)) (fun hHeld => ?_)
   clear hK K_
   refine nm_ ?_
   refine on_ 14 (some 39) fun K_ hK => ?_
   refine gs_ Try.func111 #[.pointer (some ⟨K.1, 0, none⟩), .agg #[.int .i64 x1.1, .int .i64 x1.2]] ?_
   refine (at.calls HY3.out x1).mono ?_
   rintro e9 wy4 ⟨v, rfl, hnv, hh⟩
   refine ⟨_, rfl, ?_⟩
   rw [HX.out.2.2.2.2] at hnv
   obtain ⟨kb, kcb, rb, rcb, ev, hrb⟩ := hnv
   have ev' : v = .agg #[.bool b.leaf, .int .i64 b.ver, .slice kb b.keys.length kcb, .slice rb b.refs.length rcb] := ev
   subst ev'
   clear ev
   have HRb := As hrb
   have HY4 := As (show Mt w0 wy4 K t on R (cb (wy1.heap.size) 59 #[.bool false, .int .i64 0, .slice none 0 0, .slice none 0 0] :: cb (wr0.heap.size) 59 #[.bool false, .int .i64 0, .slice none 0 0, .slice none 0 0] :: cb g8 59 #[.bool p.leaf, .int .i64 p.ver, .slice (some ka0) p.keys.length kcp, .slice (some ra0) p.refs.length rcp] :: cb (w.heap.size + 1) 33 #[.int .i64 0, .int .i64 0] :: cb w.heap.size 33 #[.int .i64 up.1, .int .i64 up.2] :: L) from hh)
   clear hh hrb
   refine hK.out _ _ (SP.out _ _ HY4.out (by simp)) (fun hHeld => ?_)
   clear hK K_
   refine nm_ ?_
   refine on_ 17 none fun K_ hK => ?_
   obtain ⟨b0, b1, b2, b3, d0, d1, d2, d3⟩ := HY4.out.other.c4 (wy1.heap.size) 59 (.bool false) (.int .i64 0) (.slice none 0 0) (.slice none 0 0) (by simp)
   refine skip_ (w1 := ?_) (by rfl) rfl ?_ ?_
   rotate_left
   ·go_simp
    rfl
   obtain ⟨wy5, hW, hvv⟩ : ∃ W, W = _ ∧ Mt w0 W K t on R (cb (wy1.heap.size) 59 #[.bool a.leaf, .int .i64 a.ver, .slice ka a.keys.length kca, .slice ra a.refs.length rca] :: cb (wr0.heap.size) 59 #[.bool false, .int .i64 0, .slice none 0 0, .slice none 0 0] :: cb g8 59 #[.bool p.leaf, .int .i64 p.ver, .slice (some ka0) p.keys.length kcp, .slice (some ra0) p.refs.length rcp] :: cb (w.heap.size + 1) 33 #[.int .i64 0, .int .i64 0] :: cb w.heap.size 33 #[.int .i64 up.1, .int .i64 up.2] :: L) := ⟨_, rfl, (Mt.putB0 (Mt.putB0 (Mt.putB0 (Mt.putB0 HY4.out 0 (.bool a.leaf) rfl) 1 (.int .i64 a.ver) rfl) 2 (.slice ka a.keys.length kca) rfl) 3 (.slice ra a.refs.length rca) rfl)⟩
   rw [← hW]
   have HY5 := As hvv
   clear hW hvv
   refine hK.out _ _ (SP.out _ _ HY5.out (by simp)) (fun hHeld => ?_)
   clear hK K_ b0 b1 b2 b3 d0 d1 d2 d3
   refine la_ 18 none fun K_ hK => ?_
   obtain ⟨b0, b1, b2, b3, d0, d1, d2, d3⟩ := HY5.out.other.c4 (wr0.heap.size) 59 (.bool false) (.int .i64 0) (.slice none 0 0) (.slice none 0 0) (by simp)
   refine sk_ (hK.out _ _ ?_)
   clear hK K_ b0 b1 b2 b3 d0 d1 d2 d3
   obtain ⟨wy6, hW, hvv⟩ : ∃ W, W = _ ∧ Mt w0 W K t on R (cb (wy1.heap.size) 59 #[.bool a.leaf, .int .i64 a.ver, .slice ka a.keys.length kca, .slice ra a.refs.length rca] :: cb (wr0.heap.size) 59 #[.bool b.leaf, .int .i64 b.ver, .slice kb b.keys.length kcb, .slice rb b.refs.length rcb] :: cb g8 59 #[.bool p.leaf, .int .i64 p.ver, .slice (some ka0) p.keys.length kcp, .slice (some ra0) p.refs.length rcp] :: cb (w.heap.size + 1) 33 #[.int .i64 0, .int .i64 0] :: cb w.heap.size 33 #[.int .i64 up.1, .int .i64 up.2] :: L) := ⟨_, rfl, (Mt.putB1 (Mt.putB1 (Mt.putB1 (Mt.putB1 HY5.out 0 (.bool b.leaf) rfl) 1 (.int .i64 b.ver) rfl) 2 (.slice kb b.keys.length kcb) rfl) 3 (.slice rb b.refs.length rcb) rfl)⟩
   rw [← hW]
   have HY6 := As hvv
   clear hW hvv
   refine done_ (by kernel_rfl) ?_
   exact HRE.out _ _ _ _ _ _ _ _ _ _ _ _ _ _ _ _ _ _ _ _ _ _ _ _ _ _ HRa.out HRb.out HY6.out
end Go.Proofs.Ytglbcfkmaamhaaa.Tr
