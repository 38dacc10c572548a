/- A text of this claim: parts TsJ TuB TsR. No condition. -/
import Derived.Test.YtglbcfkmaamhaaaJG18
import Derived.Test.YtglbcfkmaamhaaaJG2
import Derived.Test.YtglbcfkmaamhaaaJG0
import Derived.Test.YtglbcfkmaamhaaaJG22
import Derived.Test.YtglbcfkmaamhaaaJG19
import Derived.Test.YtglbcfkmaamhaaaJG12
set_option linter.unusedVariables false
set_option linter.unusedSimpArgs false
set_option maxHeartbeats 16000000
set_option maxRecDepth 100000
namespace Go.Proofs.Ytglbcfkmaamhaaa.Tr
open Go Go.RowKit Go.Proofs.YtglbcfkmaamhaaaW.PrintWords Go.Proofs.YtglbcfkmaamhaaaW.PrintLast Go.Proofs.YtglbcfkmaamhaaaW.PrintMore Go.Proofs.Ytglbcfkmaamhaaa.Hv Go.Proofs.Ytglbcfkmaamhaaa.Arm Go.Proofs.Ytglbcfkmaamhaaa.Nd Go.Proofs.Ytglbcfkmaamhaaa.ArN
section
variable {w0 w w1 : World} {L L' R : List Ob} {K : Nat × Nat × Nat} {t : Tm} {on : Value}
theorem delT.no (h : Mt w0 w K t on R L) (key : ByteArray) {l : List (Rf × Nat)} {q : Rf} (hd : Dn t key t.root l q) (ho : Nd.Ok (t.at q)) (hm : l.length + 10 < 1000000) (hf : ((t.at q).delete key).2.2 = false) : Calls Try.prog 64 #[.pointer (some ⟨K.1, 0, none⟩), .string key] w (TDelP w0 K L t (0, 0) [] false) := by
 have hu59 := Try.underlying59
 have hu33 := Try.underlying33
 have hu31 := Try.underlying31
 have hu160 := Try.underlying160
 have HM := As (show Mt w0 _ K t on R (cb w.heap.size 33 #[.int .i64 0, .int .i64 0] :: L) from h.alloc (.cells #[.int .i64 0, .int .i64 0] 33))
 obtain ⟨m, r, hdel⟩ : ∃ m r, (t.at q).delete key = (m, r, false) := ⟨_, _, Prod.ext rfl (Prod.ext rfl hf)⟩
 clear hf
 have HD := As (And.intro hd ho)
 obtain ⟨s, hs⟩ : ∃ s, wayL l q = s := ⟨_, rfl⟩
 have hwl : s.length = l.length + 1 := by rw [← hs]; simp [wayL]
 have hlast : s[l.length]? = some q := by rw [← hs]; simp [wayL]
 obtain ⟨n, hn⟩ : ∃ n, t.at q = n := ⟨_, rfl⟩
 have HL := As (And.intro hm (And.intro hs (And.intro hwl hlast)))
 rw [hn] at hdel
 have HN := As (And.intro hn (And.intro hdel ho))
 clear h hd ho hm hs hwl hlast hn hdel
 go_enter Try.func64, Try.ntmps64
 go_upto_region 4 with (go_at_call 110; go_loud (refine (way.calls HM.out key HD.out.1 (by have := HL.out.1; omega)).mono ?_; rw [HL.out.2.1]; rintro e4 w4 ⟨ad, c, Aw, rfl, hG, hh⟩; have H4 := As hh; have HG := As hG; clear hh hG))
 obtain ⟨wa, ea⟩ : ∃ wa, ad = some wa := by
  obtain ⟨a, e, -⟩ := ((Rdy.of_rw (w0 := w0) (Rw.of_gr HG.out)).now (H4.out.other.left)).2 (by have := HL.out.2.2.1; omega)
  exact ⟨a, e⟩
 subst ea
 have HRw := As (show Rdy 2 w0 Aw (some wa) s.length (s.flatMap rcel) from Rdy.of_rw (Rw.of_gr HG.out))
 have hsl : (s.length : Int) - 1 = (l.length : Int) := by have := HL.out.2.2.1; omega
 have ew : wrap64 ((s.length : Int) - 1) = (l.length : Int) := by rw [hsl]; have := HL.out.1; unfold wrap64; omega
 have hlt : (l.length : Int) < (s.length : Int) := by omega
 clear hsl
 obtain ⟨r0, r1⟩ := rcel_get s l.length q HL.out.2.2.2
 obtain ⟨wa', ea, hcl⟩ := ((HRw.out.now (H4.out.other.left)).2 (by omega))
 cases ea
 have v0 := hcl _ _ r0
 have v1' := hcl _ _ r1
 rw [← Addr.add_add] at v1'
 have v1 : w4.cell? { block := (wa.add (l.length * 2)).block, off := (wa.add (l.length * 2)).off + 1 } = some (.int .i64 q.2) := v1'
 clear hcl r0 r1 v1'
 go_upto_region 5 with (fail)
 obtain ⟨W5, hW, hM⟩ : ∃ W, W = _ ∧ Mt w0 W K t .nilFunc R (cb w4.heap.size 33 #[.int .i64 q.1, .int .i64 q.2] :: (Aw ++ (cb w.heap.size 33 #[.int .i64 0, .int .i64 0] :: L))) := ⟨_, rfl, H4.out.alloc _⟩
 rw [← hW]
 have H5 := As hM
 clear hW hM v0 v1 hlt
 generalize w4.heap.size = g8 at H5 ⊢
 obtain ⟨x0, x1, -, -⟩ := H5.out.other.c2 g8 33 (.int .i64 q.1) (.int .i64 q.2) (by simp)
 go_upto_region 6 with (first
  | (go_at_call 44; go_loud (obtain ⟨Lf, hL, hRf, hLf, back⟩ := H6.out.lens; refine (Nd.delete.calls (w0 := w0) (R := R) hL hRf ⟨ka, kc, ra, rc, rfl, HR6.out⟩ (by rw [← HN.out.1]; exact HN.out.2.2) key).mono ?_; rw [HN.out.2.1]; rintro e7 w7 ⟨v, A1, rfl, hnv, hh⟩; have H7 := As (back w7 A1 hh); clear back hL hRf hLf hh; obtain ⟨ka1, kc1, ra1, rc1, ev, hr7⟩ := hnv; have ev' : v = .agg #[.bool m.leaf, .int .i64 m.ver, .slice ka1 m.keys.length kc1, .slice ra1 m.refs.length rc1] := ev; subst ev'; clear ev; have HR7 := As hr7; clear hr7))
  | (go_at_call 111; go_loud (refine (at.calls H5.out q).mono ?_; rintro e6 w6 ⟨v, rfl, hnv, hh⟩; rw [HN.out.1] at hnv; obtain ⟨ka, kc, ra, rc, ev, hr6⟩ := hnv; have ev' : v = .agg #[.bool n.leaf, .int .i64 n.ver, .slice ka n.keys.length kc, .slice ra n.refs.length rc] := ev; subst ev'; clear ev; have HR6 := As hr6; have H6 := As hh; clear hh hr6)))
 obtain ⟨W7, hW, hM⟩ : ∃ W, W = (w7.alloc (.cells #[.bool m.leaf, .int .i64 m.ver, .slice ka1 m.keys.length kc1, .slice ra1 m.refs.length rc1] 59)).alloc (.cells #[.int .i64 r.1, .int .i64 r.2] 33) ∧ Mt w0 W K t .nilFunc (A1 ++ R) (cb (w7.heap.size + 1) 33 #[.int .i64 r.1, .int .i64 r.2] :: cb w7.heap.size 59 #[.bool m.leaf, .int .i64 m.ver, .slice ka1 m.keys.length kc1, .slice ra1 m.refs.length rc1] :: cb g8 33 #[.int .i64 q.1, .int .i64 q.2] :: (Aw ++ (cb w.heap.size 33 #[.int .i64 0, .int .i64 0] :: L))) := ⟨_, rfl, by
  have := (H7.out.alloc (.cells #[.bool m.leaf, .int .i64 m.ver, .slice ka1 m.keys.length kc1, .slice ra1 m.refs.length rc1] 59)).alloc (.cells #[.int .i64 r.1, .int .i64 r.2] 33)
  simpa [cb] using this⟩
 rw [← hW]
 have H8 := As hM
 clear hW hM x0 x1
 generalize w7.heap.size = g9 at H8 ⊢
 obtain ⟨q0, q1, qf0, qf1⟩ := H8.out.other.c2 w.heap.size 33 (.int .i64 0) (.int .i64 0) (by simp)
 go_wp2_with fail
 have h9 : Mt w0 W7 K t .nilFunc (A1 ++ R) ((cb (g9 + 1) 33 #[.int .i64 r.1, .int .i64 r.2] :: cb g9 59 #[.bool m.leaf, .int .i64 m.ver, .slice ka1 m.keys.length kc1, .slice ra1 m.refs.length rc1] :: cb g8 33 #[.int .i64 q.1, .int .i64 q.2] :: Aw) ++ cb w.heap.size 33 #[.int .i64 0, .int .i64 0] :: L) := H8.out
 have h10 := Mt.put (Mt.put h9 0 (.int .i64 0) rfl) 1 (.int .i64 0) rfl
 obtain ⟨wg, hw, hg⟩ : ∃ wg, wg = _ ∧ Mt w0 wg K t .nilFunc (A1 ++ R) ((cb (g9 + 1) 33 #[.int .i64 r.1, .int .i64 r.2] :: cb g9 59 #[.bool m.leaf, .int .i64 m.ver, .slice ka1 m.keys.length kc1, .slice ra1 m.refs.length rc1] :: cb g8 33 #[.int .i64 q.1, .int .i64 q.2] :: Aw) ++ cb w.heap.size 33 #[.int .i64 0, .int .i64 0] :: L) := ⟨_, rfl, h10⟩
 rw [← hw]
 obtain ⟨e0, e1, -, -⟩ := hg.other.c2 w.heap.size 33 (.int .i64 0) (.int .i64 0) (by simp)
 exact bodyPost_ret (v := .tuple #[.agg #[.int .i64 0, .int .i64 0], .slice none 0 0, .bool false]) (by simp [results, Try.results64, go_sem, e0, e1, hu33]) rfl ⟨none, 0, [], A1 ++ R, rfl, Gr.nil 33 2, hg.drop ((List.sublist_cons_self _ _).trans (List.sublist_append_right _ _))⟩
theorem delT.yes (h : Mt w0 w K t on R L) (key : ByteArray) {l : List (Rf × Nat)} {q : Rf} (hd : Dn t key t.root l q) (ho : Nd.Ok (t.at q)) (hm : l.length + 10 < 1000000) {m : Nd.Nd} {r : Rf} (hdel : (t.at q).delete key = (m, r, true)) {p1 p2 : Tm × List Rf} {k2 : Nat} (hu1 : Up1 (wayL l q) l.length (t.set q m, []) p1) (hu2 : Up2 k2 p1 p2) (hpl : p2.2.length ≤ 1000000) : Calls Try.prog 64 #[.pointer (some ⟨K.1, 0, none⟩), .string key] w (TDelP w0 K L p2.1 r p2.2 true) := by
  have hu59 := Try.underlying59
  have hu33 := Try.underlying33
  have hu31 := Try.underlying31
  have hu160 := Try.underlying160
  have HM := As (show Mt w0 _ K t on R (cb w.heap.size 33 #[.int .i64 0, .int .i64 0] :: L) from h.alloc (.cells #[.int .i64 0, .int .i64 0] 33))
  have HD := As (And.intro hd ho)
  obtain ⟨s, hs⟩ : ∃ s, wayL l q = s := ⟨_, rfl⟩
  have hwl : s.length = l.length + 1 := by rw [← hs]; simp [wayL]
  have hlast : s[l.length]? = some q := by rw [← hs]; simp [wayL]
  obtain ⟨n, hn⟩ : ∃ n, t.at q = n := ⟨_, rfl⟩
  rw [hs] at hu1
  have HU1 := As hu1
  have HU2 := As (And.intro hu2 hpl)
  clear hu1 hu2 hpl
  have HL := As (And.intro hm (And.intro hs (And.intro hwl hlast)))
  rw [hn] at hdel
  have HN := As (And.intro hn (And.intro hdel ho))
  clear h hd ho hm hs hwl hlast hn hdel
  go_enter Try.func64, Try.ntmps64
  go_upto_region 4 with (go_at_call 110; go_loud (refine (way.calls HM.out key HD.out.1 (by have := HL.out.1; omega)).mono ?_; rw [HL.out.2.1]; rintro e4 w4 ⟨ad, c, Aw, rfl, hG, hh⟩; have H4 := As hh; have HG := As hG; clear hh hG))
  obtain ⟨wa, ea⟩ : ∃ wa, ad = some wa := by
    obtain ⟨a, e, -⟩ := ((Rdy.of_rw (w0 := w0) (Rw.of_gr HG.out)).now (H4.out.other.left)).2 (by have := HL.out.2.2.1; omega)
    exact ⟨a, e⟩
  subst ea
  have HRw := As (show Rdy 2 w0 Aw (some wa) s.length (s.flatMap rcel) from Rdy.of_rw (Rw.of_gr HG.out))
  have hsl : (s.length : Int) - 1 = (l.length : Int) := by have := HL.out.2.2.1; omega
  have ew : wrap64 ((s.length : Int) - 1) = (l.length : Int) := by rw [hsl]; have := HL.out.1; unfold wrap64; omega
  have hlt : (l.length : Int) < (s.length : Int) := by omega
  clear hsl
  obtain ⟨r0, r1⟩ := rcel_get s l.length q HL.out.2.2.2
  obtain ⟨wa', ea, hcl⟩ := ((HRw.out.now (H4.out.other.left)).2 (by omega))
  cases ea
  have v0 := hcl _ _ r0
  have v1' := hcl _ _ r1
  rw [← Addr.add_add] at v1'
  have v1 : w4.cell? { block := (wa.add (l.length * 2)).block, off := (wa.add (l.length * 2)).off + 1 } = some (.int .i64 q.2) := v1'
  clear hcl r0 r1 v1'
  go_upto_region 5 with (fail)
  obtain ⟨W5, hW, hM⟩ : ∃ W, W = _ ∧ Mt w0 W K t .nilFunc R (cb w4.heap.size 33 #[.int .i64 q.1, .int .i64 q.2] :: (Aw ++ (cb w.heap.size 33 #[.int .i64 0, .int .i64 0] :: L))) := ⟨_, rfl, H4.out.alloc _⟩
  rw [← hW]
  have H5 := As hM
  clear hW hM v0 v1 hlt
  generalize w4.heap.size = g8 at H5 ⊢
  obtain ⟨x0, x1, -, -⟩ := H5.out.other.c2 g8 33 (.int .i64 q.1) (.int .i64 q.2) (by simp)
  go_upto_region 6 with (first
    | (go_at_call 44; go_loud (obtain ⟨Lf, hL, hRf, hLf, back⟩ := H6.out.lens; refine (Nd.delete.calls (w0 := w0) (R := R) hL hRf ⟨ka, kc, ra, rc, rfl, HR6.out⟩ (by rw [← HN.out.1]; exact HN.out.2.2) key).mono ?_; rw [HN.out.2.1]; rintro e7 w7 ⟨v, A1, rfl, hnv, hh⟩; have H7 := As (back w7 A1 hh); clear back hL hRf hLf hh; obtain ⟨ka1, kc1, ra1, rc1, ev, hr7⟩ := hnv; have ev' : v = .agg #[.bool m.leaf, .int .i64 m.ver, .slice ka1 m.keys.length kc1, .slice ra1 m.refs.length rc1] := ev; subst ev'; clear ev; have HR7 := As hr7; clear hr7))
    | (go_at_call 111; go_loud (refine (at.calls H5.out q).mono ?_; rintro e6 w6 ⟨v, rfl, hnv, hh⟩; rw [HN.out.1] at hnv; obtain ⟨ka, kc, ra, rc, ev, hr6⟩ := hnv; have ev' : v = .agg #[.bool n.leaf, .int .i64 n.ver, .slice ka n.keys.length kc, .slice ra n.refs.length rc] := ev; subst ev'; clear ev; have HR6 := As hr6; have H6 := As hh; clear hh hr6)))
  obtain ⟨W7, hW, hM⟩ : ∃ W, W = (w7.alloc (.cells #[.bool m.leaf, .int .i64 m.ver, .slice ka1 m.keys.length kc1, .slice ra1 m.refs.length rc1] 59)).alloc (.cells #[.int .i64 r.1, .int .i64 r.2] 33) ∧ Mt w0 W K t .nilFunc (A1 ++ R) (cb (w7.heap.size + 1) 33 #[.int .i64 r.1, .int .i64 r.2] :: cb w7.heap.size 59 #[.bool m.leaf, .int .i64 m.ver, .slice ka1 m.keys.length kc1, .slice ra1 m.refs.length rc1] :: cb g8 33 #[.int .i64 q.1, .int .i64 q.2] :: (Aw ++ (cb w.heap.size 33 #[.int .i64 0, .int .i64 0] :: L))) := ⟨_, rfl, by
    have := (H7.out.alloc (.cells #[.bool m.leaf, .int .i64 m.ver, .slice ka1 m.keys.length kc1, .slice ra1 m.refs.length rc1] 59)).alloc (.cells #[.int .i64 r.1, .int .i64 r.2] 33)
    simpa [cb] using this⟩
  rw [← hW]
  have H8 := As hM
  clear hW hM x0 x1
  generalize w7.heap.size = g9 at H8 ⊢
  have SP := As (show ∀ (w' : World) (t' : Tm) (R' : List Ob), Mt w0 w' K t' .nilFunc R' (cb (g9 + 1) 33 #[.int .i64 r.1, .int .i64 r.2] :: cb g9 59 #[.bool m.leaf, .int .i64 m.ver, .slice ka1 m.keys.length kc1, .slice ra1 m.refs.length rc1] :: cb g8 33 #[.int .i64 q.1, .int .i64 q.2] :: (Aw ++ (cb w.heap.size 33 #[.int .i64 0, .int .i64 0] :: L))) → (w'.cell? ⟨K.1, 0, none⟩ = some (.pointer (some ⟨K.2.1, 0, none⟩)) ∧ w'.cell? ⟨g8, 0, none⟩ = some (.int .i64 q.1) ∧ w'.cell? ⟨g8, 1, none⟩ = some (.int .i64 q.2) ∧ w'.cell? ⟨g9, 0, none⟩ = some (.bool m.leaf) ∧ w'.cell? ⟨g9, 1, none⟩ = some (.int .i64 m.ver) ∧ w'.cell? ⟨g9, 2, none⟩ = some (.slice ka1 m.keys.length kc1) ∧ w'.cell? ⟨g9, 3, none⟩ = some (.slice ra1 m.refs.length rc1)) from fun w' t' R' h => by
    obtain ⟨c0, -, -, -, -, -, -⟩ := h.cells
    obtain ⟨x0, x1, -, -⟩ := h.other.c2 g8 33 (.int .i64 q.1) (.int .i64 q.2) (by simp)
    obtain ⟨n0, n1, n2, n3, -, -, -, -⟩ := h.other.c4 g9 59 (.bool m.leaf) (.int .i64 m.ver) (.slice ka1 m.keys.length kc1) (.slice ra1 m.refs.length rc1) (by simp)
    exact ⟨c0, x0, x1, n0, n1, n2, n3⟩)
  go_upto_region 8 with (fail)
  have HDr := As H8.out.drew
  refine start_ (n := 7) (S := fun w' => w'.cell? ⟨K.1, 0, none⟩ = some (.pointer (some ⟨K.2.1, 0, none⟩)) ∧ w'.cell? ⟨g8, 0, none⟩ = some (.int .i64 q.1) ∧ w'.cell? ⟨g8, 1, none⟩ = some (.int .i64 q.2) ∧ w'.cell? ⟨g9, 0, none⟩ = some (.bool m.leaf) ∧ w'.cell? ⟨g9, 1, none⟩ = some (.int .i64 m.ver) ∧ w'.cell? ⟨g9, 2, none⟩ = some (.slice ka1 m.keys.length kc1) ∧ w'.cell? ⟨g9, 3, none⟩ = some (.slice ra1 m.refs.length rc1)) (ds := []) #[false, false, false, false, false, false, false] (by kernel_rfl) rfl rfl (SP.out _ _ _ HDr.out) (fun hHeld => ?_)
  generalize W7.drew = wx0 at HDr hHeld ⊢
  refine pu_ 0 (some 43) ?_
  refine pu_ 1 (some 44) ?_
  refine pu_ 2 (some 45) ?_
  refine ta_ 3 (some 46) hHeld ?_ (hy := Or.inl ⟨by rfl, by rintro w' ⟨s0, s1, s2, s3, s4, s5, s6⟩; go_simp; with_reducible rfl⟩)
  refine ta_ 4 (some 47) hHeld ?_ (hy := Or.inl ⟨by rfl, by rintro w' ⟨s0, s1, s2, s3, s4, s5, s6⟩; go_simp; with_reducible rfl⟩)
  refine ta_ 5 (some 48) hHeld ?_ (hy := Or.inl ⟨by rfl, by rintro w' ⟨s0, s1, s2, s3, s4, s5, s6⟩; go_simp; with_reducible rfl⟩)
  refine on_ 6 (some 49) fun K_ hK => ?_
  refine gs_ Try.func112 #[.pointer (some ⟨K.2.1, 0, none⟩), .agg #[.int .i64 q.1, .int .i64 q.2], .agg #[.bool m.leaf, .int .i64 m.ver, .slice ka1 m.keys.length kc1, .slice ra1 m.refs.length rc1]] ?_
  refine (Mt.set HDr.out q (n := m) ⟨ka1, kc1, ra1, rc1, rfl, HR7.out⟩).mono ?_
  rintro e9 w9 ⟨rfl, hh⟩
  refine ⟨_, rfl, ?_⟩
  have H9 := As hh
  clear hh
  refine hK.out _ _ (SP.out _ _ _ H9.out) (fun hHeld => ?_)
  clear hK K_
  refine nm_ ?_
  refine done_ (by kernel_rfl) ?_
  clear SP hHeld
  obtain ⟨T0, hT0⟩ : ∃ T, t.set q m = T := ⟨_, rfl⟩
  rw [hT0] at H9 HU1
  clear hT0
  obtain ⟨BS, hBS⟩ : ∃ BS : List Ob, BS = (cb (g9 + 1) 33 #[.int .i64 r.1, .int .i64 r.2] :: cb g9 59 #[.bool m.leaf, .int .i64 m.ver, .slice ka1 m.keys.length kc1, .slice ra1 m.refs.length rc1] :: cb g8 33 #[.int .i64 q.1, .int .i64 q.2] :: (Aw ++ (cb w.heap.size 33 #[.int .i64 0, .int .i64 0] :: L))) := ⟨_, rfl⟩
  rw [← hBS] at H9
  have HBS := As hBS
  clear hBS
  go_wp2_with fail
  rw [ew]
  refine wp_act ?_
  intro aL haL
  rename_i KK hKK
  have REST : ∀ (v13 v14 v15 v16 v17 v53 v54 v55 v56 v57 v58 v59 v60 v61 v62 v63 v64 v65 v66 v67 v68 v69 v70 v71 v72 v73 v74 v75 v76 v77 v78 v79 v80 v81 v82 v83 v84 v85 v86 v87 v88 v89 v90 v91 v92 v93 v94 v95 v96 v97 v98 v99 v100 v101 v102 v103 : Value) (gad : Option Addr) (gc : Nat) (G : List Rf) (A Rp : List Ob) (T : Tm) (W : World), Gr 33 2 (.slice gad G.length gc) G.length (G.flatMap rcel) A → Mt w0 W K T .nilFunc Rp (A ++ BS) → Up2 k2 (T, G) p2 → KK { tmps := (((((((((((((((((((((((((((((((((((((((((((((((((((((((((aL.tmps.setIfInBounds 12 (.slice gad G.length gc)).setIfInBounds 13 v13).setIfInBounds 14 v14).setIfInBounds 15 v15).setIfInBounds 16 v16).setIfInBounds 17 v17).setIfInBounds 53 v53).setIfInBounds 54 v54).setIfInBounds 55 v55).setIfInBounds 56 v56).setIfInBounds 57 v57).setIfInBounds 58 v58).setIfInBounds 59 v59).setIfInBounds 60 v60).setIfInBounds 61 v61).setIfInBounds 62 v62).setIfInBounds 63 v63).setIfInBounds 64 v64).setIfInBounds 65 v65).setIfInBounds 66 v66).setIfInBounds 67 v67).setIfInBounds 68 v68).setIfInBounds 69 v69).setIfInBounds 70 v70).setIfInBounds 71 v71).setIfInBounds 72 v72).setIfInBounds 73 v73).setIfInBounds 74 v74).setIfInBounds 75 v75).setIfInBounds 76 v76).setIfInBounds 77 v77).setIfInBounds 78 v78).setIfInBounds 79 v79).setIfInBounds 80 v80).setIfInBounds 81 v81).setIfInBounds 82 v82).setIfInBounds 83 v83).setIfInBounds 84 v84).setIfInBounds 85 v85).setIfInBounds 86 v86).setIfInBounds 87 v87).setIfInBounds 88 v88).setIfInBounds 89 v89).setIfInBounds 90 v90).setIfInBounds 91 v91).setIfInBounds 92 v92).setIfInBounds 93 v93).setIfInBounds 94 v94).setIfInBounds 95 v95).setIfInBounds 96 v96).setIfInBounds 97 v97).setIfInBounds 98 v98).setIfInBounds 99 v99).setIfInBounds 100 v100).setIfInBounds 101 v101).setIfInBounds 102 v102).setIfInBounds 103 v103), defers := aL.defers } W := by
    intro v13 v14 v15 v16 v17 v53 v54 v55 v56 v57 v58 v59 v60 v61 v62 v63 v64 v65 v66 v67 v68 v69 v70 v71 v72 v73 v74 v75 v76 v77 v78 v79 v80 v81 v82 v83 v84 v85 v86 v87 v88 v89 v90 v91 v92 v93 v94 v95 v96 v97 v98 v99 v100 v101 v102 v103 gad gc G A Rp T W hG hM hU
    have HG1 := As hG
    have HM1 := As hM
    have HV := As hU
    clear hG hM hU
    refine hKK _ _ ?_
    subst haL
    clear hKK
    simp only [List.setIfInBounds_toArray, List.set_cons_zero, List.set_cons_succ]
    go_wp2_with fail
    go_loopg [12] k2 (fun kq v12 wr => ∃ (gad : Option Addr) (gc : Nat) (G : List Rf) (A Rp : List Ob) (T : Tm), v12 = .slice gad G.length gc ∧ Aside0 (Gr 33 2 (.slice gad G.length gc) G.length (G.flatMap rcel) A) ∧ Aside0 (Mt w0 wr K T .nilFunc Rp (A ++ BS)) ∧ Aside0 (Up2 kq (T, G) p2))
    case atStart => exact ⟨gad, gc, G, A, Rp, T, rfl, HG1, HM1, HV⟩
    case round =>
      clear HG1 HM1 HV
      obtain ⟨gad, gc, G, A, Rp, T, rfl, HG1, HM1, HV⟩ := hrel
      obtain ⟨rt, hrt⟩ : ∃ rt, T.root = rt := ⟨_, rfl⟩
      obtain ⟨nr, hnr⟩ : ∃ nr, T.at rt = nr := ⟨_, rfl⟩
      obtain ⟨c0, c1, c2, -, -, -, -⟩ := HM1.out.cells
      rw [hrt] at c1 c2
      have hcase := HV.out.inv
      simp only [] at hcase
      rw [hrt, hnr] at hcase
      have HN2 := As (And.intro hrt hnr)
      clear hrt hnr
      go_upto_region 21 with (go_at_call 111; go_loud (refine (at.calls HM1.out rt).mono ?_; rintro e2 w2 ⟨v, rfl, hnv, hh⟩; rw [HN2.out.2] at hnv; obtain ⟨kx, kxc, rx, rxc, ev, hr⟩ := hnv; have ev' : v = .agg #[.bool nr.leaf, .int .i64 nr.ver, .slice kx nr.keys.length kxc, .slice rx nr.refs.length rxc] := ev; subst ev'; clear ev; have HRx := As hr; have H2 := As hh; clear hh hr))
      obtain ⟨W3, hW, hM⟩ : ∃ W, W = _ ∧ Mt w0 W K T .nilFunc Rp (cb w2.heap.size 59 #[.bool nr.leaf, .int .i64 nr.ver, .slice kx nr.keys.length kxc, .slice rx nr.refs.length rxc] :: (A ++ BS)) := ⟨_, rfl, H2.out.alloc _⟩
      rw [← hW]
      have H3 := As hM
      clear hW hM c0 c1 c2
      generalize w2.heap.size = g18 at H3 ⊢
      obtain ⟨n0, n1, n2, n3, -, -, -, -⟩ := H3.out.other.c4 g18 59 (.bool nr.leaf) (.int .i64 nr.ver) (.slice kx nr.keys.length kxc) (.slice rx nr.refs.length rxc) (by simp)
      rcases hcase with ⟨hst, hp2⟩ | ⟨kk, rfl, hlf, hs1, hgg, hU⟩
      · have HP2 := As hp2
        clear hp2
        cases hlf : nr.leaf
        · have hne : nr.refs.length ≠ 1 := by rcases hst with h | h
                                              · rw [hlf] at h; cases h
                                              · exact h
          have hne2 : (nr.refs.length : Int) ≠ 1 := by omega
          have hne3 : ¬ (nr.refs.length : Int) = 1 := by omega
          clear hst hne
          rw [hlf] at n0 H3
          go_wp2_with (go_at_call 35; go_loud (refine (size.calls (Hv.start _) false nr.ver kx rx nr.keys.length kxc nr.refs.length rxc).mono ?_; rintro e4 w4 ⟨rfl, hh⟩; have H4 := As (H3.out.call hh.bel); clear hh; obtain ⟨d0, d1, -, -⟩ := H4.out.other.c2 (g9 + 1) 33 (.int .i64 r.1) (.int .i64 r.2) (by simp [HBS.out]); obtain ⟨q0, q1, qf0, qf1⟩ := H4.out.other.c2 w.heap.size 33 (.int .i64 0) (.int .i64 0) (by simp [HBS.out])))
          have h9 : Mt w0 w4 K T .nilFunc Rp (((cb g18 59 #[.bool false, .int .i64 nr.ver, .slice kx nr.keys.length kxc, .slice rx nr.refs.length rxc] :: A) ++ (cb (g9 + 1) 33 #[.int .i64 r.1, .int .i64 r.2] :: cb g9 59 #[.bool m.leaf, .int .i64 m.ver, .slice ka1 m.keys.length kc1, .slice ra1 m.refs.length rc1] :: cb g8 33 #[.int .i64 q.1, .int .i64 q.2] :: Aw)) ++ cb w.heap.size 33 #[.int .i64 0, .int .i64 0] :: L) := by have := H4.out; rw [HBS.out] at this; simpa [List.append_assoc] using this
          have h10 := Mt.put (Mt.put h9 0 (.int .i64 r.1) rfl) 1 (.int .i64 r.2) rfl
          obtain ⟨wg, hw, hg⟩ : ∃ wg, wg = _ ∧ Mt w0 wg K T .nilFunc Rp (((cb g18 59 #[.bool false, .int .i64 nr.ver, .slice kx nr.keys.length kxc, .slice rx nr.refs.length rxc] :: A) ++ (cb (g9 + 1) 33 #[.int .i64 r.1, .int .i64 r.2] :: cb g9 59 #[.bool m.leaf, .int .i64 m.ver, .slice ka1 m.keys.length kc1, .slice ra1 m.refs.length rc1] :: cb g8 33 #[.int .i64 q.1, .int .i64 q.2] :: Aw)) ++ cb w.heap.size 33 #[.int .i64 r.1, .int .i64 r.2] :: L) := ⟨_, rfl, h10⟩
          rw [← hw]
          obtain ⟨e0, e1, -, -⟩ := hg.other.c2 w.heap.size 33 (.int .i64 r.1) (.int .i64 r.2) (by simp)
          have hp2 := HP2.out
          rw [hp2]
          exact bodyPost_ret (v := .tuple #[.agg #[.int .i64 r.1, .int .i64 r.2], .slice gad G.length gc, .bool true]) (by simp [results, Try.results64, go_sem, e0, e1, hu33]) rfl ⟨gad, gc, A, Rp, rfl, HG1.out, hg.drop (by
            rw [List.append_assoc, List.cons_append]
            exact (List.Sublist.append_left ((List.sublist_cons_self _ _).trans (List.sublist_append_right _ _)) A).trans (List.sublist_cons_self _ _))⟩
        · clear hst
          rw [hlf] at n0 H3
          obtain ⟨d0, d1, -, -⟩ := H3.out.other.c2 (g9 + 1) 33 (.int .i64 r.1) (.int .i64 r.2) (by simp [HBS.out])
          obtain ⟨q0, q1, qf0, qf1⟩ := H3.out.other.c2 w.heap.size 33 (.int .i64 0) (.int .i64 0) (by simp [HBS.out])
          go_wp2_with fail
          have h9 : Mt w0 W3 K T .nilFunc Rp (((cb g18 59 #[.bool true, .int .i64 nr.ver, .slice kx nr.keys.length kxc, .slice rx nr.refs.length rxc] :: A) ++ (cb (g9 + 1) 33 #[.int .i64 r.1, .int .i64 r.2] :: cb g9 59 #[.bool m.leaf, .int .i64 m.ver, .slice ka1 m.keys.length kc1, .slice ra1 m.refs.length rc1] :: cb g8 33 #[.int .i64 q.1, .int .i64 q.2] :: Aw)) ++ cb w.heap.size 33 #[.int .i64 0, .int .i64 0] :: L) := by have := H3.out; rw [HBS.out] at this; simpa [List.append_assoc] using this
          have h10 := Mt.put (Mt.put h9 0 (.int .i64 r.1) rfl) 1 (.int .i64 r.2) rfl
          obtain ⟨wg, hw, hg⟩ : ∃ wg, wg = _ ∧ Mt w0 wg K T .nilFunc Rp (((cb g18 59 #[.bool true, .int .i64 nr.ver, .slice kx nr.keys.length kxc, .slice rx nr.refs.length rxc] :: A) ++ (cb (g9 + 1) 33 #[.int .i64 r.1, .int .i64 r.2] :: cb g9 59 #[.bool m.leaf, .int .i64 m.ver, .slice ka1 m.keys.length kc1, .slice ra1 m.refs.length rc1] :: cb g8 33 #[.int .i64 q.1, .int .i64 q.2] :: Aw)) ++ cb w.heap.size 33 #[.int .i64 r.1, .int .i64 r.2] :: L) := ⟨_, rfl, h10⟩
          rw [← hw]
          obtain ⟨e0, e1, -, -⟩ := hg.other.c2 w.heap.size 33 (.int .i64 r.1) (.int .i64 r.2) (by simp)
          have hp2 := HP2.out
          rw [hp2]
          exact bodyPost_ret (v := .tuple #[.agg #[.int .i64 r.1, .int .i64 r.2], .slice gad G.length gc, .bool true]) (by simp [results, Try.results64, go_sem, e0, e1, hu33]) rfl ⟨gad, gc, A, Rp, rfl, HG1.out, hg.drop (by
            rw [List.append_assoc, List.cons_append]
            exact (List.Sublist.append_left ((List.sublist_cons_self _ _).trans (List.sublist_append_right _ _)) A).trans (List.sublist_cons_self _ _))⟩
      · have hs2 : (nr.refs.length : Int) = 1 := by omega
        obtain ⟨x0, hx0⟩ : ∃ x, nr.refs[0]? = some x := ⟨_, List.getElem?_eq_getElem (by omega)⟩
        obtain ⟨T2, hT2⟩ : ∃ T2, T.leave rt = T2 := ⟨_, rfl⟩
        have hsk : T.sink = { T2 with root := x0 } := by unfold Tm.sink; rw [HN2.out.1, hT2, HN2.out.2]; unfold refI; rw [List.getD_eq_getElem?_getD, hx0]; rfl
        have hrt2 : T2.root = rt := by rw [← hT2, ← HN2.out.1]; unfold Tm.leave; exact (set_gone T T.root _).2
        have HS := As (And.intro hx0 (And.intro hT2 (And.intro hsk (And.intro hrt2 (And.intro hgg (And.intro hs1 hU))))))
        rw [hlf] at n0 H3
        clear hx0 hT2 hsk hrt2 hgg hU hs1
        go_upto_region 24 with (first | (go_at_call 35; go_loud (refine (size.calls (Hv.start _) false nr.ver kx rx nr.keys.length kxc nr.refs.length rxc).mono ?_; rintro e4 w4 ⟨rfl, hh⟩; have H4 := As (H3.out.call hh.bel); clear hh; obtain ⟨c0, c1, c2, -, -, -, -⟩ := H4.out.cells; rw [HN2.out.1] at c1 c2)) | (go_at_call 115; go_loud (refine (leave.calls H4.out rt HS.out.2.2.2.2.1).mono ?_; rw [HS.out.2.1]; rintro e5 w5 ⟨rfl, hh⟩; have H5 := As hh; clear hh; clear c0 c1 c2; obtain ⟨c0, c1, c2, -, -, -, -⟩ := H5.out.cells; rw [HS.out.2.2.2.1] at c1 c2)))
        have hal := H5.out.alloc (.cells #[.int .i64 rt.1, .int .i64 rt.2] 33)
        obtain ⟨Qx, hq, back⟩ := Mt.lensX (B := [cb w5.heap.size 33 #[.int .i64 rt.1, .int .i64 rt.2], cb g18 59 #[.bool false, .int .i64 nr.ver, .slice kx nr.keys.length kxc, .slice rx nr.refs.length rxc]]) (X := A) (L := BS) hal
        have HQx := As (And.intro hq (And.intro back ((Rdy.of_rw (w0 := w0) (size := 2) (n := 1) (e := 33) (c := 1) (xs := rcel rt) (ad := some ⟨w5.heap.size, 0, none⟩) (L := [cb w5.heap.size 33 #[.int .i64 rt.1, .int .i64 rt.2]]) ⟨rfl, Nat.le_refl _, fun _ => ⟨w5.heap.size, 0, #[.int .i64 rt.1, .int .i64 rt.2], rfl, by simp, fun i _ => by rw [Nat.zero_add]; simp [rcel]⟩⟩) _ _ hal.other (fun z hz => by rw [List.mem_singleton.1 hz]; simp))))
        clear hq back hal
        have HBB := As (show (G.length + 1) * 16 ≤ 140737488355328 by
          have h1 := HS.out.2.2.2.2.2.2.len
          have h3 := HU2.out.2
          simp only [List.length_append, List.length_singleton] at h1
          omega)
        go_upto_region 25 with ((with_reducible refine gate_builtin (b := .append) (xs := #[.tmp 125, .tmp 130]) rfl ?_); at_builtin; go_loud (refine append_rows (w0 := w0) (A := A) (L := Qx) rfl (.tmp 125) (.tmp 130) 31 33 (.agg #[.int .i64 0, .int .i64 0]) 2 16 rfl Try.underlying31 infoR rfl (by decide) (by decide) (.slice gad G.length gc) G.length (G.flatMap rcel) rfl (some ⟨w5.heap.size, 0, none⟩) 1 1 (rcel rt) rfl (by intro u hu; simp [rcel] at hu; rcases hu with rfl | rfl <;> rfl) HG1.out HQx.out.1 HQx.out.2.2 HBB.out ?_; intro v11 w11 A11 hG11 hv11; obtain ⟨ad11, c11, rfl, -⟩ := hG11.form; have HG11 := As hG11; have H11 := As (show Mt w0 w11 K T2 .nilFunc Rp ([cb w5.heap.size 33 #[.int .i64 rt.1, .int .i64 rt.2], cb g18 59 #[.bool false, .int .i64 nr.ver, .slice kx nr.keys.length kxc, .slice rx nr.refs.length rxc]] ++ (A11 ++ BS)) from HQx.out.2.1 w11 A11 hv11); clear hG11 hv11; clear c0 c1 c2))
        obtain ⟨c0, c1, c2, -, f1, f2, -⟩ := H11.out.cells
        obtain ⟨-, -, -, n3, -, -, -, -⟩ := H11.out.other.c4 g18 59 (.bool false) (.int .i64 nr.ver) (.slice kx nr.keys.length kxc) (.slice rx nr.refs.length rxc) (by simp)
        obtain ⟨rx0, hrx0, hcl⟩ := (H11.out.rd HRx.out.r).2 (by have := HS.out.2.2.2.2.2.1; omega)
        subst hrx0
        obtain ⟨r0, r1⟩ := rcel_get nr.refs 0 x0 HS.out.1
        have v0 : w11.cell? rx0 = some (.int .i64 x0.1) := hcl _ _ r0
        have v1 : w11.cell? { block := rx0.block, off := rx0.off + 1 } = some (.int .i64 x0.2) := hcl _ _ r1
        clear hcl r0 r1
        have hlt0 : (0 : Int) < (nr.refs.length : Int) := by omega
        go_wp2_with fail
        go_roundg kk
        case measure => omega
        case rel =>
          refine ⟨ad11, c11, G ++ [rt], A11, Rp, { T2 with root := x0 }, by rw [List.length_append, List.length_singleton], ?_, ?_, ⟨?_⟩⟩
          · have := HG11.out
            rw [List.length_append, List.length_singleton, List.flatMap_append]
            exact ⟨by simpa using this⟩
          · exact ⟨(H11.out.setRoot x0).tail.tail⟩
          · have this : Up2 kk (T.sink, G ++ [rt]) p2 := by have h := HS.out.2.2.2.2.2.2; first | exact h | (rw [HN2.out.1] at h; exact h)
            rw [HS.out.2.2.1] at this
            exact this
  subst haL
  simp only [List.setIfInBounds_toArray, List.set_cons_zero, List.set_cons_succ] at REST
  have HRE := As REST
  clear REST hKK
  go_loopg [12, 13] l.length (fun kq v12 v13 wr => ∃ (i : Nat) (gad : Option Addr) (gc : Nat) (G : List Rf) (A Rp : List Ob) (T : Tm), v12 = .slice gad G.length gc ∧ v13 = .int .i64 (i : Int) ∧ kq = i ∧ i ≤ l.length ∧ Aside0 (Gr 33 2 (.slice gad G.length gc) G.length (G.flatMap rcel) A) ∧ Aside0 (Mt w0 wr K T .nilFunc Rp (A ++ BS)) ∧ Aside0 (Up1 s i (T, G) p1))
  case atStart => exact ⟨l.length, none, 0, [], [], A1 ++ R, T0, rfl, rfl, rfl, Nat.le_refl _, ⟨Gr.nil 33 2⟩, H9, HU1⟩
  case round =>
    obtain ⟨i, gad, gc, G, A, Rp, T, rfl, rfl, rfl, hil0, HG1, HM1, HV⟩ := hrel
    rcases HV.out.inv with ⟨rfl, hp1⟩ | ⟨k, rfl, hcase⟩
    · go_wp2_with fail
      exact HRE.out _ _ _ _ _ _ _ _ _ _ _ _ _ _ _ _ _ _ _ _ _ _ _ _ _ _ _ _ _ _ _ _ _ _ _ _ _ _ _ _ _ _ _ _ _ _ _ _ _ _ _ _ _ _ _ _ _ _ _ _ _ _ _  HG1.out HM1.out (by rw [hp1] at HU2; exact HU2.out.1)
    · obtain ⟨x, hx⟩ : ∃ x, s[k + 1]? = some x := ⟨_, List.getElem?_eq_getElem (by have := HL.out.2.2.1; omega)⟩
      obtain ⟨u, hu⟩ : ∃ u, s[k]? = some u := ⟨_, List.getElem?_eq_getElem (by have := HL.out.2.2.1; omega)⟩
      have hgx : s.getD (k + 1) (0, 0) = x := by rw [List.getD_eq_getElem?_getD, hx]; rfl
      have hgu : s.getD k (0, 0) = u := by rw [List.getD_eq_getElem?_getD, hu]; rfl
      rw [hgx, hgu] at hcase
      obtain ⟨nx, hnx⟩ : ∃ nx, T.at x = nx := ⟨_, rfl⟩
      rw [hnx] at hcase
      have HX := As (And.intro hx (And.intro hu hnx))
      have HI := As hil0
      clear hx hu hnx hgx hgu
      have hgt : (0 : Int) < ((k + 1 : Nat) : Int) := by omega
      have hgt2 : (0 : Int) < (k : Int) + 1 := by omega
      have hge0 : (0 : Int) ≤ (k : Int) + 1 := by omega
      have hxl : (k : Int) + 1 < (s.length : Int) := by have := HL.out.2.2.1; omega
      have hul : (k : Int) < (s.length : Int) := by omega
      have ewk : wrap64 (((k + 1 : Nat) : Int) - 1) = (k : Int) := by have := HL.out.1; unfold wrap64; omega
      have ewk3 : wrap64 (k : Int) = (k : Int) := by have := HL.out.1; unfold wrap64; omega
      have ewk2 : wrap64 ((k : Int) + 1 - 1) = (k : Int) := by have := HL.out.1; unfold wrap64; omega
      obtain ⟨wa', ea, hcl⟩ := (HRw.out _ _ HM1.out.other (fun z hz => by simp [HBS.out, hz])).2 (by have := HL.out.2.2.1; omega)
      cases ea
      obtain ⟨r0, r1⟩ := rcel_get s (k + 1) x HX.out.1
      have v0 := hcl _ _ r0
      have v1' := hcl _ _ r1
      rw [← Addr.add_add] at v1'
      have v1 : World.cell? _ { block := (wa.add ((k + 1) * 2)).block, off := (wa.add ((k + 1) * 2)).off + 1 } = some (.int .i64 x.2) := v1'
      clear hcl r0 r1 v1'
      rcases hcase with ⟨hnb, hp1⟩ | ⟨hsm, hjo, hcase⟩
      · have hlt2 : ¬ (nx.refs.length : Int) < 2 := by omega
        have HP1 := As hp1
        clear hp1 hnb
        go_wp2_with (first | (go_at_call 35; go_loud (refine (size.calls (Hv.start _) nx.leaf nx.ver kx rx nx.keys.length kxc nx.refs.length rxc).mono ?_; rintro e3 w3 ⟨rfl, hh⟩; have H3 := As (H2.out.call hh.bel); clear hh)) | (go_at_call 111; go_loud (refine (at.calls HM1.out x).mono ?_; rintro e2 w2 ⟨v, rfl, hnv, hh⟩; rw [HX.out.2.2] at hnv; obtain ⟨kx, kxc, rx, rxc, ev, hr⟩ := hnv; have ev' : v = .agg #[.bool nx.leaf, .int .i64 nx.ver, .slice kx nx.keys.length kxc, .slice rx nx.refs.length rxc] := ev; subst ev'; clear ev hr; have H2 := As hh; clear hh)))
        exact HRE.out _ _ _ _ _ _ _ _ _ _ _ _ _ _ _ _ _ _ _ _ _ _ _ _ _ _ _ _ _ _ _ _ _ _ _ _ _ _ _ _ _ _ _ _ _ _ _ _ _ _ _ _ _ _ _ _ _ _ _ _ _ _ _  HG1.out H3.out (by rw [HP1.out] at HU2; exact HU2.out.1)
      · have hlt2 : (nx.refs.length : Int) < 2 := by omega
        have HC := As (And.intro hjo hcase)
        clear hjo hcase hsm
        obtain ⟨pu, hpu⟩ : ∃ pu, T.at u = pu := ⟨_, rfl⟩
        obtain ⟨ix, hix⟩ : ∃ ix, idx x pu.refs = ix := ⟨_, rfl⟩
        have hix2 : -1 ≤ ix ∧ ix ≤ 1000000 := by
          have h1 := HC.out.1.ok.r
          rw [hpu] at h1
          rw [← hix]
          unfold idx
          split <;> omega
        have ewi : wrap64 (ix - 1) = ix - 1 := by unfold wrap64; omega
        have HPU := As (And.intro hpu (And.intro hix hix2))
        clear hpu hix hix2
        go_upto_region 13 with (first | (go_at_call 35; go_loud (refine (size.calls (Hv.start _) nx.leaf nx.ver kx rx nx.keys.length kxc nx.refs.length rxc).mono ?_; rintro e3 w3 ⟨rfl, hh⟩; have H3 := As (H2.out.call hh.bel); clear hh)) | (go_at_call 111; go_loud (refine (at.calls HM1.out x).mono ?_; rintro e2 w2 ⟨v, rfl, hnv, hh⟩; rw [HX.out.2.2] at hnv; obtain ⟨kx, kxc, rx, rxc, ev, hr⟩ := hnv; have ev' : v = .agg #[.bool nx.leaf, .int .i64 nx.ver, .slice kx nx.keys.length kxc, .slice rx nx.refs.length rxc] := ev; subst ev'; clear ev hr; have H2 := As hh; clear hh)))
        clear v0 v1
        obtain ⟨wa', ea, hcl⟩ := (HRw.out _ _ H3.out.other (fun z hz => by simp [HBS.out, hz])).2 (by have := HL.out.2.2.1; omega)
        cases ea
        obtain ⟨r0, r1⟩ := rcel_get s (k + 1) x HX.out.1
        have v0 := hcl _ _ r0
        have v1' := hcl _ _ r1
        rw [← Addr.add_add] at v1'
        have v1 : World.cell? _ { block := (wa.add ((k + 1) * 2)).block, off := (wa.add ((k + 1) * 2)).off + 1 } = some (.int .i64 x.2) := v1'
        obtain ⟨r2, r3⟩ := rcel_get s k u HX.out.2.1
        have v2 := hcl _ _ r2
        have v3' := hcl _ _ r3
        rw [← Addr.add_add] at v3'
        have v3 : World.cell? _ { block := (wa.add (k * 2)).block, off := (wa.add (k * 2)).off + 1 } = some (.int .i64 u.2) := v3'
        clear r2 r3 v3'
        clear hcl r0 r1 v1'
        go_upto_region 14 with (fail)
        obtain ⟨W4, hW, hM⟩ : ∃ W, W = _ ∧ Mt w0 W K T .nilFunc Rp (cb w3.heap.size 33 #[.int .i64 u.1, .int .i64 u.2] :: (A ++ BS)) := ⟨_, rfl, H3.out.alloc _⟩
        rw [← hW]
        have H4 := As hM
        clear hW hM v0 v1 v2 v3
        generalize w3.heap.size = g14 at H4 ⊢
        have SP := As (show ∀ (w' : World) (L' : List Ob), Hv w0 w' L' → cb g14 33 #[.int .i64 u.1, .int .i64 u.2] ∈ L' → (∀ z ∈ BS, z ∈ L') → (w'.cell? ⟨g14, 0, none⟩ = some (.int .i64 u.1) ∧ w'.cell? ⟨g14, 1, none⟩ = some (.int .i64 u.2) ∧ w'.cell? (wa.add ((k + 1) * 2)) = some (.int .i64 x.1) ∧ w'.cell? { block := (wa.add ((k + 1) * 2)).block, off := (wa.add ((k + 1) * 2)).off + 1 } = some (.int .i64 x.2)) from fun w' L' h m1 m2 => by
          obtain ⟨x0, x1, -, -⟩ := h.c2 _ _ _ _ m1
          obtain ⟨wa', ea, hcl⟩ := (HRw.out _ _ h (fun z hz => m2 z (by simp [HBS.out, hz]))).2 (by have := HL.out.2.2.1; omega)
          cases ea
          obtain ⟨r0, r1⟩ := rcel_get s (k + 1) x HX.out.1
          have v0 := hcl _ _ r0
          have v1' := hcl _ _ r1
          rw [← Addr.add_add] at v1'
          exact ⟨x0, x1, v0, v1'⟩)
        have HD4 := As H4.out.drew
        have hf3 := fld3
        refine start_ (n := 10) (S := fun w' => w'.cell? ⟨g14, 0, none⟩ = some (.int .i64 u.1) ∧ w'.cell? ⟨g14, 1, none⟩ = some (.int .i64 u.2) ∧ w'.cell? (wa.add ((k + 1) * 2)) = some (.int .i64 x.1) ∧ w'.cell? { block := (wa.add ((k + 1) * 2)).block, off := (wa.add ((k + 1) * 2)).off + 1 } = some (.int .i64 x.2)) (ds := []) #[false, false, false, false, false, false, false, false, false, false] (by kernel_rfl) rfl rfl (SP.out _ _ HD4.out.other (by simp) (fun z hz => by simp [hz])) (fun hHeld => ?_)
        generalize W4.drew = wx4 at HD4 hHeld ⊢
        refine pu_ 0 (some 72) ?_
        refine pu_ 4 (some 76) ?_
        refine pu_ 5 (some 77) ?_
        refine pu_ 6 (some 78) ?_
        refine ta_ 1 (some 73) hHeld ?_ (hy := Or.inl ⟨by rfl, by rintro w' ⟨s0, s1, s2, s3⟩; go_simp; with_reducible rfl⟩)
        refine ta_ 7 (some 79) hHeld ?_ (hy := Or.inl ⟨by rfl, by rintro w' ⟨s0, s1, s2, s3⟩; go_simp; with_reducible rfl⟩)
        refine on_ 2 (some 74) fun K_ hK => ?_
        refine gs_ Try.func111 #[.pointer (some ⟨K.1, 0, none⟩), .agg #[.int .i64 u.1, .int .i64 u.2]] ?_
        refine (at.calls HD4.out u).mono ?_
        rintro e5 w5 ⟨v, rfl, hnv, hh⟩
        refine ⟨_, rfl, ?_⟩
        rw [HPU.out.1] at hnv
        obtain ⟨ku, kuc, ru, ruc, ev, hr⟩ := hnv
        have ev' : v = .agg #[.bool pu.leaf, .int .i64 pu.ver, .slice ku pu.keys.length kuc, .slice ru pu.refs.length ruc] := ev
        subst ev'
        clear ev
        have HRu := As hr
        have H5 := As hh
        clear hh hr
        refine hK.out _ _ (SP.out _ _ H5.out.other (by simp) (fun z hz => by simp [hz])) (fun hHeld => ?_)
        clear hK K_
        refine nm_ ?_
        refine pu_ 3 (some 75) ?_
        refine on_ 8 (some 80) fun K_ hK => ?_
        refine gs_ Try.func113 #[.slice ru pu.refs.length ruc, .agg #[.int .i64 x.1, .int .i64 x.2]] ?_
        obtain ⟨Lf, hL, hRf, hLf, back⟩ := H5.out.lens
        refine (index.calls (w0 := w0) (L := Lf) hL pu.refs (by have := HC.out.1.ok.r; rw [HPU.out.1] at this; exact this) (HRu.out.r.mono hRf) x).mono ?_
        rw [HPU.out.2.1]
        rintro e6 w6 ⟨rfl, hh⟩
        refine ⟨_, rfl, ?_⟩
        have H6 := As (show Mt w0 w6 K T .nilFunc Rp (cb g14 33 #[.int .i64 u.1, .int .i64 u.2] :: (A ++ BS)) from back w6 [] hh)
        clear back hL hRf hLf hh
        refine hK.out _ _ (SP.out _ _ H6.out.other (by simp) (fun z hz => by simp [hz])) (fun hHeld => ?_)
        clear hK K_
        refine nm_ ?_
        refine pu_ 9 (some 15) ?_
        refine done_ (by kernel_rfl) ?_
        clear SP hHeld
        obtain ⟨T1, gr1, b1, hj1⟩ : ∃ T1 gr b, T.join u (ix - 1) = (T1, gr, b) := ⟨_, _, _, rfl⟩
        obtain ⟨T2, gr2, b2, hj2⟩ : ∃ T1 gr b, T.join u ix = (T1, gr, b) := ⟨_, _, _, rfl⟩
        have hmg : T.merge u x = if b1 then (T1, gr1, b1) else (T2, gr2, b2) := by unfold Tm.merge; simp only []; rw [HPU.out.1, HPU.out.2.1, hj1, hj2]
        have HJ := As (And.intro hj1 (And.intro hj2 hmg))
        clear hj1 hj2 hmg
        obtain ⟨x0, x1, -, -⟩ := H6.out.other.c2 g14 33 (.int .i64 u.1) (.int .i64 u.2) (by simp)
        go_upto_region 16 with (go_at_call 114; go_loud (refine (tjoin.calls H6.out u (ix - 1) (by have := HPU.out.2.2; omega) HC.out.1).mono ?_; rw [HJ.out.1]; rintro e7 w7 ⟨R7, rfl, hh⟩; have H7 := As hh; clear hh))
        obtain ⟨W8, hW, hM⟩ : ∃ W, W = _ ∧ Mt w0 W K T1 .nilFunc R7 (cb w7.heap.size 33 #[.int .i64 gr1.1, .int .i64 gr1.2] :: cb g14 33 #[.int .i64 u.1, .int .i64 u.2] :: (A ++ BS)) := ⟨_, rfl, H7.out.alloc _⟩
        rw [← hW]
        have H8 := As hM
        clear hW hM x0 x1
        generalize w7.heap.size = g16 at H8 ⊢
        cases b1
        · have hT1 : T1 = T := by have := join_no (t := T) (up := u) (i := ix - 1) (by rw [HJ.out.1]); rw [HJ.out.1] at this; exact (Prod.ext_iff.1 this).1
          subst hT1
          obtain ⟨x0, x1, -, -⟩ := H8.out.other.c2 g14 33 (.int .i64 u.1) (.int .i64 u.2) (by simp)
          obtain ⟨y0, y1, yf0, yf1⟩ := H8.out.other.c2 g16 33 (.int .i64 gr1.1) (.int .i64 gr1.2) (by simp)
          go_upto_region 18 with (go_at_call 114; go_loud (refine (tjoin.calls H8.out u ix HPU.out.2.2.2 HC.out.1).mono ?_; rw [HJ.out.2.1]; rintro e9 w9 ⟨R9, rfl, hh⟩; have H9 := As hh; clear hh; clear y0 y1 yf0 yf1; obtain ⟨y0, y1, yf0, yf1⟩ := H9.out.other.c2 g16 33 (.int .i64 gr1.1) (.int .i64 gr1.2) (by simp)))
          obtain ⟨W10, hW, hM⟩ : ∃ W, W = _ ∧ Mt w0 W K T2 .nilFunc R9 (cb g16 33 #[.int .i64 gr2.1, .int .i64 gr2.2] :: cb g14 33 #[.int .i64 u.1, .int .i64 u.2] :: (A ++ BS)) := ⟨_, rfl, (H9.out.putB0 0 _ rfl).putB0 1 _ rfl⟩
          rw [← hW]
          have H10 := As hM
          clear hW hM x0 x1 y0 y1 yf0 yf1
          cases b2
          · have hT2 : T2 = T1 := by have := join_no (t := T1) (up := u) (i := ix) (by rw [HJ.out.2.1]); rw [HJ.out.2.1] at this; exact (Prod.ext_iff.1 this).1
            subst hT2
            have hp1 : p1 = (T2, G) := by
              rcases HC.out.2 with ⟨_, h⟩ | ⟨h, _⟩
              · exact h
              · rw [HJ.out.2.2] at h; cases h
            have HP1 := As hp1
            clear hp1
            go_wp2_with fail
            exact HRE.out _ _ _ _ _ _ _ _ _ _ _ _ _ _ _ _ _ _ _ _ _ _ _ _ _ _ _ _ _ _ _ _ _ _ _ _ _ _ _ _ _ _ _ _ _ _ _ _ _ _ _ _ _ _ _ _ _ _ _ _ _ _ _  HG1.out H10.out.tail.tail (by rw [HP1.out] at HU2; exact HU2.out.1)
          · have hu1 : Up1 s k (T2, G ++ [gr2]) p1 := by
              rcases HC.out.2 with ⟨h, _⟩ | ⟨_, h⟩
              · rw [HJ.out.2.2] at h; cases h
              · rw [HJ.out.2.2] at h; exact h
            have HV2 := As hu1
            have HBB := As (show (G.length + 1) * 16 ≤ 140737488355328 by
              have h1 := hu1.len
              have h2 := HU2.out.1.len
              have h3 := HU2.out.2
              simp only [List.length_append, List.length_singleton] at h1
              omega)
            clear hu1
            obtain ⟨y0, y1, -, -⟩ := H10.out.other.c2 g16 33 (.int .i64 gr2.1) (.int .i64 gr2.2) (by simp)
            have hal := H10.out.alloc (.cells #[.int .i64 gr2.1, .int .i64 gr2.2] 33)
            obtain ⟨Qx, hq, back⟩ := Mt.lensX (B := [cb W10.heap.size 33 #[.int .i64 gr2.1, .int .i64 gr2.2], cb g16 33 #[.int .i64 gr2.1, .int .i64 gr2.2], cb g14 33 #[.int .i64 u.1, .int .i64 u.2]]) (X := A) (L := BS) hal
            have HQx := As (And.intro hq (And.intro back ((Rdy.of_rw (w0 := w0) (size := 2) (n := 1) (e := 33) (c := 1) (xs := rcel gr2) (ad := some ⟨W10.heap.size, 0, none⟩) (L := [cb W10.heap.size 33 #[.int .i64 gr2.1, .int .i64 gr2.2]]) ⟨rfl, Nat.le_refl _, fun _ => ⟨W10.heap.size, 0, #[.int .i64 gr2.1, .int .i64 gr2.2], rfl, by simp, fun i _ => by rw [Nat.zero_add]; simp [rcel]⟩⟩) _ _ hal.other (fun z hz => by rw [List.mem_singleton.1 hz]; simp))))
            clear hq back hal
            go_wp2_with ((with_reducible refine gate_builtin (b := .append) (xs := #[.tmp 100, .tmp 102]) rfl ?_); at_builtin; go_loud (refine append_rows (w0 := w0) (A := A) (L := Qx) rfl (.tmp 100) (.tmp 102) 31 33 (.agg #[.int .i64 0, .int .i64 0]) 2 16 rfl Try.underlying31 infoR rfl (by decide) (by decide) (.slice gad G.length gc) G.length (G.flatMap rcel) rfl (some ⟨W10.heap.size, 0, none⟩) 1 1 (rcel gr2) rfl (by intro u hu; simp [rcel] at hu; rcases hu with rfl | rfl <;> rfl) HG1.out HQx.out.1 HQx.out.2.2 HBB.out ?_; intro v11 w11 A11 hG11 hv11; obtain ⟨ad11, c11, rfl, -⟩ := hG11.form; have HG11 := As hG11; have H11 := As (HQx.out.2.1 w11 A11 hv11); clear hG11 hv11))
            go_roundg k
            case measure => omega
            case rel =>
              refine ⟨k, ad11, c11, G ++ [gr2], A11, R9, T2, by rw [List.length_append, List.length_singleton], ?_, rfl, by have := HI.out; omega, ?_, ⟨?_⟩, HV2⟩
              · first | rfl | (rw [ewk]) | (rw [ewk2]) | (rw [ewk3])
              · have := HG11.out
                rw [List.length_append, List.length_singleton, List.flatMap_append]
                exact ⟨by simpa using this⟩
              · exact H11.out.tail.tail.tail
        · have hu1 : Up1 s k (T1, G ++ [gr1]) p1 := by
            rcases HC.out.2 with ⟨h, _⟩ | ⟨_, h⟩
            · rw [HJ.out.2.2] at h; cases h
            · rw [HJ.out.2.2] at h; exact h
          have HV2 := As hu1
          have HBB := As (show (G.length + 1) * 16 ≤ 140737488355328 by
            have h1 := hu1.len
            have h2 := HU2.out.1.len
            have h3 := HU2.out.2
            simp only [List.length_append, List.length_singleton] at h1
            omega)
          clear hu1
          obtain ⟨y0, y1, -, -⟩ := H8.out.other.c2 g16 33 (.int .i64 gr1.1) (.int .i64 gr1.2) (by simp)
          have hal := H8.out.alloc (.cells #[.int .i64 gr1.1, .int .i64 gr1.2] 33)
          obtain ⟨Qx, hq, back⟩ := Mt.lensX (B := [cb W8.heap.size 33 #[.int .i64 gr1.1, .int .i64 gr1.2], cb g16 33 #[.int .i64 gr1.1, .int .i64 gr1.2], cb g14 33 #[.int .i64 u.1, .int .i64 u.2]]) (X := A) (L := BS) hal
          have HQx := As (And.intro hq (And.intro back ((Rdy.of_rw (w0 := w0) (size := 2) (n := 1) (e := 33) (c := 1) (xs := rcel gr1) (ad := some ⟨W8.heap.size, 0, none⟩) (L := [cb W8.heap.size 33 #[.int .i64 gr1.1, .int .i64 gr1.2]]) ⟨rfl, Nat.le_refl _, fun _ => ⟨W8.heap.size, 0, #[.int .i64 gr1.1, .int .i64 gr1.2], rfl, by simp, fun i _ => by rw [Nat.zero_add]; simp [rcel]⟩⟩) _ _ hal.other (fun z hz => by rw [List.mem_singleton.1 hz]; simp))))
          clear hq back hal
          go_wp2_with ((with_reducible refine gate_builtin (b := .append) (xs := #[.tmp 100, .tmp 102]) rfl ?_); at_builtin; go_loud (refine append_rows (w0 := w0) (A := A) (L := Qx) rfl (.tmp 100) (.tmp 102) 31 33 (.agg #[.int .i64 0, .int .i64 0]) 2 16 rfl Try.underlying31 infoR rfl (by decide) (by decide) (.slice gad G.length gc) G.length (G.flatMap rcel) rfl (some ⟨W8.heap.size, 0, none⟩) 1 1 (rcel gr1) rfl (by intro u hu; simp [rcel] at hu; rcases hu with rfl | rfl <;> rfl) HG1.out HQx.out.1 HQx.out.2.2 HBB.out ?_; intro v11 w11 A11 hG11 hv11; obtain ⟨ad11, c11, rfl, -⟩ := hG11.form; have HG11 := As hG11; have H11 := As (HQx.out.2.1 w11 A11 hv11); clear hG11 hv11))
          go_roundg k
          case measure => omega
          case rel =>
            refine ⟨k, ad11, c11, G ++ [gr1], A11, R7, T1, by rw [List.length_append, List.length_singleton], ?_, rfl, by have := HI.out; omega, ?_, ⟨?_⟩, HV2⟩
            · first | rfl | (rw [ewk]) | (rw [ewk2]) | (rw [ewk3])
            · have := HG11.out
              rw [List.length_append, List.length_singleton, List.flatMap_append]
              exact ⟨by simpa using this⟩
            · exact H11.out.tail.tail.tail
end
end Go.Proofs.Ytglbcfkmaamhaaa.Tr
section
namespace Go.Proofs.Ytglbcfkmaamhaaa.Tr
open Go Go.RowKit Go.Proofs.YtglbcfkmaamhaaaW.PrintWords Go.Proofs.YtglbcfkmaamhaaaW.PrintLast Go.Proofs.YtglbcfkmaamhaaaW.PrintMore Go.Proofs.Ytglbcfkmaamhaaa.Hv Go.Proofs.Ytglbcfkmaamhaaa.Arm Go.Proofs.Ytglbcfkmaamhaaa.Nd Go.Proofs.Ytglbcfkmaamhaaa.ArN
variable {w0 w w1 : World} {L L' R X : List Ob} {K : Nat × Nat × Nat} {t t0 : Tm} {on : Value} {k h h0 : Nat} {its its0 l : List It}
namespace Kt
theorem new (hM : Mt w0 w K (Tm.new 200) on R L) : Kt w0 w K L 0 (Tm.new 200) 0 [] := by
 obtain ⟨a, b, c, d⟩ := Inv.new 200 (by decide) (by decide)
 have hb : ∀ m : Nat, Bd (Tm.new m) 10 := fun m => by
  have h0 : Bd (Tm.new0 m) 10 := fun n hn => by
   rw [(List.mem_replicate.1 hn).2]
   exact ⟨by decide, by decide⟩
  exact h0.take (n := ⟨true, 1, [], []⟩) ⟨by decide, by decide⟩
 exact ⟨on, R, _, 1, hM, a, by decide, by decide, hb 200⟩
theorem del (H : Kt w0 w K L k t h its) (hk : k ≤ 300) (key : ByteArray) : Calls Try.prog 64 #[.pointer (some ⟨K.1, 0, none⟩), .string key] w fun e w' => ∃ (r : Rf) (ad : Option Addr) (c : Nat) (G : List Rf) (A : List Ob) (b : Bool), e = .returned (.tuple #[.agg #[.int .i64 r.1, .int .i64 r.2], .slice ad G.length c, .bool b]) ∧ ∃ t' h' its', Kt w0 w' K (A ++ L) (k + 1) t' h' its' ∧ Step t h t' h' := by
 obtain ⟨on, R, ns, V, hM, iv, hV, hV2, hbd⟩ := H
 obtain ⟨l, q, hd, hlh⟩ := iv.dn key
 obtain ⟨hqm, hoq, hfind⟩ := iv.leaf hd
 have hh := iv.height
 have hln := iv.len
 have hlf := hd.lf
 have hlen := (iv.nok q hqm).lf hlf
 have hfi : ((t.at q).find key).2 = fnd key (t.at q).keys := by
  unfold Nd.Nd.find
  rw [hlf, hlen]
  simp
 cases hf : fnd key (t.at q).keys
 ·have hno : ((t.at q).delete key).2.2 = false := by
   unfold Nd.Nd.delete
   rw [hfi, hf]
   rfl
  refine (delT.no hM key hd hoq (by omega) hno).mono ?_
  rintro e w' ⟨ad, c, A, R', rfl, hG, hM'⟩
  exact ⟨(0, 0), ad, c, [], A, false, rfl, t, h, its, ⟨_, R', ns, V, hM', iv, hV, by omega, hbd.mono (by omega)⟩, Step.refl t h⟩
 ·obtain ⟨p1, p2, k2, h', ns', u1, u2, iv', hg', hp', hm', hb', hh', hlk, hevo⟩ := iv.del hV (by omega) hbd (by omega) (by omega) (by omega) key hd hf
  have hyes : ((t.at q).delete key).2.2 = true := by
   unfold Nd.Nd.delete
   rw [hfi, hf]
   rfl
  have hlp := hp'.length_eq
  rw [List.length_append] at hlp
  obtain ⟨mm, rr, hmr⟩ : ∃ mm rr, (t.at q).delete key = (mm, rr, true) := ⟨_, _, Prod.ext rfl (Prod.ext rfl hyes)⟩
  refine (delT.yes hM key hd hoq (by omega) hmr (p1 := p1) (p2 := p2) (k2 := k2) (by rw [hmr] at u1; exact u1) u2 (by omega)).mono ?_
  rintro e w' ⟨ad, c, A, R', rfl, hG, hM'⟩
  exact ⟨rr, ad, c, p2.2, A, true, rfl, p2.1, h', _, ⟨_, R', ns', V + 2, hM', iv', by omega, by push_cast; omega, hb'.mono (by omega)⟩, ⟨hlk, hevo⟩⟩
theorem put (H : Kt w0 w K L k t h its) (hk : k ≤ 300) (key : ByteArray) (r : Rf) : Calls Try.prog 66 #[.pointer (some ⟨K.1, 0, none⟩), .string key, .agg #[.int .i64 r.1, .int .i64 r.2]] w fun e w' => ∃ (ad : Option Addr) (n c : Nat) (er : Int) (A : List Ob), e = .returned (.tuple #[.slice ad n c, .int .i64 er]) ∧ ∃ t' h' its', Kt w0 w' K (A ++ L) (k + 1) t' h' its' ∧ Step t h t' h' := by
 obtain ⟨on, R, ns, V, hM, iv, hV, hV2, hbd⟩ := H
 obtain ⟨l, q, hd, hlh⟩ := iv.dn key
 obtain ⟨hqm, hoq, hfind⟩ := iv.leaf hd
 have hh := iv.height
 have hq := iv.rep.look_dn hd
 refine (tput.calls hM key r hd hoq (mb := 10 + 1030 * k) (by omega) hbd (by omega)).mono ?_
 rintro e w' ⟨ad, c, A, R', rfl, hG, hM'⟩
 have same : ∀ (er : Int), t.putW key r l q = (t, [], er) → Kt w0 w' K (A ++ L) (k + 1) t h its := fun er e => by
  rw [e] at hM'
  exact ⟨_, R', ns, V, hM', iv, hV, by push_cast; omega, hbd.mono (by omega)⟩
 cases hf : fnd key (t.at q).keys
 ·have hf2 : (t.find key q).2 = false := hfind.trans hf
  cases hrf : t.roomFor (wayL l q)
  ·have e : t.putW key r l q = (t, [], 20) := by unfold Tm.putW; rw [hf2, hrf]; rfl
   exact ⟨ad, _, c, _, A, rfl, t, h, its, same 20 e, Step.refl t h⟩
  ·have e1 : (t.putW key r l q).1 = (runsI (wayL l q) q (ixL (wayL l q).length (wayL l q).length (Nat.le_refl _)) (t.set q ((t.at q).put key r).1, [])).1 := by unfold Tm.putW; rw [hf2, hrf]; rfl
   obtain ⟨h', ns', iv', h1', h2', hg', hlk, hevo, hbq⟩ := iv.put hV (by omega) key r hd hf hrf
   have hbd' := hbd.put (by omega) key r l q
   rw [← e1] at iv' hlk hevo hbq
   exact ⟨ad, _, c, _, A, rfl, _, h', _, ⟨_, R', ns', _, hM', iv', by omega, by push_cast; omega, hbd'.mono (by omega)⟩, ⟨fun x => (hlk x).elim .inl (fun e => .inr (by rw [e]; exact hbq)), hevo⟩⟩
 ·have hf2 : (t.find key q).2 = true := hfind.trans hf
  have e : t.putW key r l q = (t, [], 13) := by unfold Tm.putW; rw [hf2]; rfl
  exact ⟨ad, _, c, _, A, rfl, t, h, its, same 13 e, Step.refl t h⟩
theorem fresh (H : Kt w0 w K L k t h its) (r : Rf) (x : Int) : Calls Try.prog 61 #[.pointer (some ⟨K.1, 0, none⟩), .agg #[.int .i64 r.1, .int .i64 r.2, .int .i64 x]] w fun e w' => e = .returned (.bool (t.fresh r x)) ∧ Kt w0 w' K L k t h its := by
 obtain ⟨on, R, ns, V, hM, hr⟩ := H
 exact (fresh.calls hM r x).mono (fun e w' hh => ⟨hh.1, on, R, ns, V, hh.2, hr⟩)
theorem sameI (H : Kt w0 w K L k t h its) (hl : l.length ≤ 1000000) {b1 b2 : Option Addr} {d1 d2 : Nat} (h1 : Rdy 3 w0 L b1 l.length (l.flatMap icel)) (h2 : Rdy 3 w0 L b2 l.length (l.flatMap icel)) : Calls Try.prog 62 #[.slice b1 l.length d1, .slice b2 l.length d2] w fun e w' => e = .returned (.bool true) ∧ Kt w0 w' K L k t h its := by
 obtain ⟨Q, q1, q2, q3⟩ := lensZ (X := []) H
 exact (sameItems.calls q1 l hl (fun W L2 hv hs => h1 W L2 hv (fun p hp => hs p (q2 p hp))) (fun W L2 hv hs => h2 W L2 hv (fun p hp => hs p (q2 p hp)))).mono (fun e w' hh => ⟨hh.1, q3 w' [] hh.2⟩)
theorem inv (H : Kt w0 w K L k t h its) : ∃ ns V, Inv t 200 h ns its V := by
 obtain ⟨on, R, ns, V, hM, iv, hr⟩ := H
 exact ⟨ns, V, iv⟩
end Kt
theorem between {a b : ByteArray} (hi : ∃ ns V, Inv t0 200 h0 ns its0 V) (hi' : ∃ ns V, Inv t 200 h ns its V) (st : Step t0 h0 t h) {seg : List Lv} (hsub : ∀ y ∈ seg, ∃ p, Lvs t0 h0 p its0 ∧ y ∈ p) (hcov : ∀ c, bl c a = false → bl c b = true → ∃ y ∈ seg, inL c y) (hfr : ∀ y ∈ seg, t.fresh y.1 (t0.at y.1).ver = true) : its.filter (inR a b) = its0.filter (inR a b) := by
 obtain ⟨ns, V, iv⟩ := hi
 obtain ⟨ns', V', iv'⟩ := hi'
 exact same_between iv iv' st hsub hcov hfr
theorem Step.after {t2 : Tm} {h2 : Nat} (hi : ∃ ns V, Inv t0 200 h0 ns its0 V) (s : Step t0 h0 t h) (u : Step t h t2 h2) : Step t0 h0 t2 h2 := by
 obtain ⟨ns, V, iv⟩ := hi
 exact s.trans (fun c => iv.look_some c) u
theorem do.calls (H : Kt w0 w K L k t h its) (hk : k ≤ 300) (d : Dd) : Calls Try.prog 59 #[.pointer (some ⟨K.1, 0, none⟩), .agg #[.int .i64 d.1, .string d.2.1, .int .i64 d.2.2.1.1, .int .i64 d.2.2.1.2, .int .i64 d.2.2.2.1.1, .int .i64 d.2.2.2.1.2, .int .i64 d.2.2.2.2]] w fun e w' => e = .returned (.tuple #[]) ∧ ∃ t' h' its', Kt w0 w' K L (k + 1) t' h' its' ∧ Step t h t' h' := by
 have hu33 := Try.underlying33
 have hu87 := Try.underlying87
 have hu9 := Try.underlying9
 obtain ⟨kd, key, r, sn⟩ := d
 have HK := As (H.alloc (.cells #[.int .i64 kd, .string key, .int .i64 r.1, .int .i64 r.2, .int .i64 sn.1.1, .int .i64 sn.1.2, .int .i64 sn.2] 87))
 have hm := HK.out.other
 have hmem : cb w.heap.size 87 #[.int .i64 kd, .string key, .int .i64 r.1, .int .i64 r.2, .int .i64 sn.1.1, .int .i64 sn.1.2, .int .i64 sn.2] ∈ ((w.heap.size, Obj.cells #[.int .i64 kd, .string key, .int .i64 r.1, .int .i64 r.2, .int .i64 sn.1.1, .int .i64 sn.1.2, .int .i64 sn.2] 87) :: L) := List.mem_cons_self
 have z0 : World.cell? _ ⟨w.heap.size, 0, none⟩ = some (.int .i64 kd) := hm.cell hmem 0 rfl
 have z1 : World.cell? _ ⟨w.heap.size, 1, none⟩ = some (.string key) := hm.cell hmem 1 rfl
 have z2 : World.cell? _ ⟨w.heap.size, 2, none⟩ = some (.int .i64 r.1) := hm.cell hmem 2 rfl
 have z3 : World.cell? _ ⟨w.heap.size, 3, none⟩ = some (.int .i64 r.2) := hm.cell hmem 3 rfl
 clear hm hmem H
 by_cases hkd : kd = 2
 ·have hkd1 : (kd == 2) = true := by simp [hkd]
  clear hkd
  go_enter Try.func59, Try.ntmps59
  go_wp2_with (go_at_call 64; go_loud (refine (HK.out.del hk key).mono ?_; rintro e4 w4 ⟨rr, ad4, c4, G, Ag, bb1, rfl, t', h', its', hh, hs⟩; have H4 := As (And.intro hh hs); clear hh hs))
  exact bodyPost_ret (v := .tuple #[]) (by simp [results, Try.results59, go_sem]) rfl ⟨rfl, t', h', its', H4.out.1.drop ((List.sublist_cons_self _ _).trans (List.sublist_append_right Ag _)), H4.out.2⟩
 ·have hkd1 : (kd == 2) = false := by simp [hkd]
  clear hkd
  go_enter Try.func59, Try.ntmps59
  go_wp2_with (go_at_call 66; go_loud (refine (HK.out.put hk key r).mono ?_; rintro e4 w4 ⟨ad4, n4, c4, er, Ag, rfl, t', h', its', hh, hs⟩; have H4 := As (And.intro hh hs); clear hh hs))
  go_end0
  exact ⟨rfl, t', h', its', H4.out.1.drop ((List.sublist_cons_self _ _).trans (List.sublist_append_right Ag _)), H4.out.2⟩
end Go.Proofs.Ytglbcfkmaamhaaa.Tr
end
namespace Go.Proofs.Ytglbcfkmaamhaaa.Tr
open Go Go.RowKit Go.Proofs.YtglbcfkmaamhaaaW.PrintWords Go.Proofs.Ytglbcfkmaamhaaa.Hv Go.Proofs.Ytglbcfkmaamhaaa.Arm Go.Proofs.Ytglbcfkmaamhaaa.Nd Go.Proofs.Ytglbcfkmaamhaaa.ArN
section
variable {w0 w w1 : World} {L L' R : List Ob} {K : Nat × Nat × Nat} {on : Value}
theorem aput0 (h : Mt w0 w K (aT 0) on R L) : Calls Try.prog 66 #[.pointer (some ⟨K.1, 0, none⟩), .string ⟨#[97]⟩, .agg #[.int .i64 0, .int .i64 0]] w fun e w' => ∃ ad c R', e = .returned (.tuple #[.slice ad 1 c, .int .i64 0]) ∧ Mt w0 w' K (aT 1) .nilFunc R' L := by
 have hr : (aT 0).root = (0, 1) := by kernel_rfl
 have hl : ((aT 0).putW ⟨#[97]⟩ (0, 0) [] (0, 1)).2.1.length = 1 := by kernel_rfl
 have he : ((aT 0).putW ⟨#[97]⟩ (0, 0) [] (0, 1)).2.2 = 0 := by kernel_rfl
 refine (tput.calls h ⟨#[97]⟩ (0, 0) (l := []) (q := (0, 1)) (by rw [hr]; exact Dn.leaf _ (by kernel_rfl)) (ok_of (by kernel_rfl)) (mb := 10) (by decide) (bd_of (by kernel_rfl)) (by decide)).mono ?_
 rintro e w' ⟨ad, c, A, R', rfl, hG, hh⟩
 exact ⟨ad, c, R', by rw [hl, he], hh.drop (List.sublist_append_right _ _)⟩
theorem aput1 (h : Mt w0 w K (aT 1) on R L) : Calls Try.prog 66 #[.pointer (some ⟨K.1, 0, none⟩), .string ⟨#[98]⟩, .agg #[.int .i64 1, .int .i64 0]] w fun e w' => ∃ ad c R', e = .returned (.tuple #[.slice ad 1 c, .int .i64 0]) ∧ Mt w0 w' K (aT 2) .nilFunc R' L := by
 have hr : (aT 1).root = (0, 1) := by kernel_rfl
 have hl : ((aT 1).putW ⟨#[98]⟩ (1, 0) [] (0, 1)).2.1.length = 1 := by kernel_rfl
 have he : ((aT 1).putW ⟨#[98]⟩ (1, 0) [] (0, 1)).2.2 = 0 := by kernel_rfl
 refine (tput.calls h ⟨#[98]⟩ (1, 0) (l := []) (q := (0, 1)) (by rw [hr]; exact Dn.leaf _ (by kernel_rfl)) (ok_of (by kernel_rfl)) (mb := 10) (by decide) (bd_of (by kernel_rfl)) (by decide)).mono ?_
 rintro e w' ⟨ad, c, A, R', rfl, hG, hh⟩
 exact ⟨ad, c, R', by rw [hl, he], hh.drop (List.sublist_append_right _ _)⟩
theorem aput2 (h : Mt w0 w K (aT 2) on R L) : Calls Try.prog 66 #[.pointer (some ⟨K.1, 0, none⟩), .string ⟨#[99]⟩, .agg #[.int .i64 2, .int .i64 0]] w fun e w' => ∃ ad c R', e = .returned (.tuple #[.slice ad 1 c, .int .i64 0]) ∧ Mt w0 w' K (aT 3) .nilFunc R' L := by
 have hr : (aT 2).root = (0, 1) := by kernel_rfl
 have hl : ((aT 2).putW ⟨#[99]⟩ (2, 0) [] (0, 1)).2.1.length = 1 := by kernel_rfl
 have he : ((aT 2).putW ⟨#[99]⟩ (2, 0) [] (0, 1)).2.2 = 0 := by kernel_rfl
 refine (tput.calls h ⟨#[99]⟩ (2, 0) (l := []) (q := (0, 1)) (by rw [hr]; exact Dn.leaf _ (by kernel_rfl)) (ok_of (by kernel_rfl)) (mb := 10) (by decide) (bd_of (by kernel_rfl)) (by decide)).mono ?_
 rintro e w' ⟨ad, c, A, R', rfl, hG, hh⟩
 exact ⟨ad, c, R', by rw [hl, he], hh.drop (List.sublist_append_right _ _)⟩
theorem aput3 (h : Mt w0 w K (aT 3) on R L) : Calls Try.prog 66 #[.pointer (some ⟨K.1, 0, none⟩), .string ⟨#[100]⟩, .agg #[.int .i64 3, .int .i64 0]] w fun e w' => ∃ ad c R', e = .returned (.tuple #[.slice ad 1 c, .int .i64 0]) ∧ Mt w0 w' K (aT 4) .nilFunc R' L := by
 have hr : (aT 3).root = (0, 1) := by kernel_rfl
 have hl : ((aT 3).putW ⟨#[100]⟩ (3, 0) [] (0, 1)).2.1.length = 1 := by kernel_rfl
 have he : ((aT 3).putW ⟨#[100]⟩ (3, 0) [] (0, 1)).2.2 = 0 := by kernel_rfl
 refine (tput.calls h ⟨#[100]⟩ (3, 0) (l := []) (q := (0, 1)) (by rw [hr]; exact Dn.leaf _ (by kernel_rfl)) (ok_of (by kernel_rfl)) (mb := 10) (by decide) (bd_of (by kernel_rfl)) (by decide)).mono ?_
 rintro e w' ⟨ad, c, A, R', rfl, hG, hh⟩
 exact ⟨ad, c, R', by rw [hl, he], hh.drop (List.sublist_append_right _ _)⟩
theorem aput4 (h : Mt w0 w K (aT 4) on R L) : Calls Try.prog 66 #[.pointer (some ⟨K.1, 0, none⟩), .string ⟨#[101]⟩, .agg #[.int .i64 4, .int .i64 0]] w fun e w' => ∃ ad c R', e = .returned (.tuple #[.slice ad 2 c, .int .i64 0]) ∧ Mt w0 w' K (aT 5) .nilFunc R' L := by
 have hr : (aT 4).root = (0, 1) := by kernel_rfl
 have hl : ((aT 4).putW ⟨#[101]⟩ (4, 0) [] (0, 1)).2.1.length = 2 := by kernel_rfl
 have he : ((aT 4).putW ⟨#[101]⟩ (4, 0) [] (0, 1)).2.2 = 0 := by kernel_rfl
 refine (tput.calls h ⟨#[101]⟩ (4, 0) (l := []) (q := (0, 1)) (by rw [hr]; exact Dn.leaf _ (by kernel_rfl)) (ok_of (by kernel_rfl)) (mb := 10) (by decide) (bd_of (by kernel_rfl)) (by decide)).mono ?_
 rintro e w' ⟨ad, c, A, R', rfl, hG, hh⟩
 exact ⟨ad, c, R', by rw [hl, he], hh.drop (List.sublist_append_right _ _)⟩
theorem a5root : (aT 5).root = (2, 1) := by kernel_rfl
theorem a5dn_d : Dn (aT 5) ⟨#[100]⟩ (aT 5).root [((2, 1), 1)] (1, 1) := by
 rw [a5root]
 have hc : ((aT 5).at (2, 1)).child ⟨#[100]⟩ = 1 := by kernel_rfl
 have := Dn.step (t := aT 5) (key := ⟨#[100]⟩) (2, 1) (1, 1) [] (1, 1) (by kernel_rfl) (ok_of (by kernel_rfl)) (by kernel_rfl) (Dn.leaf (1, 1) (by kernel_rfl))
 rw [hc] at this
 exact this
theorem a5dn_b : Dn (aT 5) ⟨#[98]⟩ (aT 5).root [((2, 1), 0)] (0, 1) := by
 rw [a5root]
 have hc : ((aT 5).at (2, 1)).child ⟨#[98]⟩ = 0 := by kernel_rfl
 have := Dn.step (t := aT 5) (key := ⟨#[98]⟩) (2, 1) (0, 1) [] (0, 1) (by kernel_rfl) (ok_of (by kernel_rfl)) (by kernel_rfl) (Dn.leaf (0, 1) (by kernel_rfl))
 rw [hc] at this
 exact this
theorem afind (h : Mt w0 w K (aT 5) on R L) : Calls Try.prog 71 #[.pointer (some ⟨K.1, 0, none⟩), .string ⟨#[100]⟩] w fun e w' => e = .returned (.tuple #[.agg #[.int .i64 3, .int .i64 0], .bool true, .agg #[.int .i64 1, .int .i64 1, .int .i64 1]]) ∧ Mt w0 w' K (aT 5) .nilFunc R L := by
 have hf : (aT 5).find ⟨#[100]⟩ (1, 1) = ((3, 0), true) := by kernel_rfl
 have hv : ((aT 5).at (1, 1)).ver = 1 := by kernel_rfl
 refine (find.calls h ⟨#[100]⟩ a5dn_d (ok_of (by kernel_rfl))).mono ?_
 rintro e w' ⟨rfl, hh⟩
 exact ⟨by rw [hf, hv], hh⟩
theorem aleaf (h : Mt w0 w K (aT 5) on R L) : Calls Try.prog 72 #[.pointer (some ⟨K.1, 0, none⟩), .string ⟨#[98]⟩] w fun e w' => ∃ x ad c, e = .returned (.tuple #[.agg #[.int .i64 0, .int .i64 1, .int .i64 x], .slice ad 3 c, .string ⟨#[100]⟩]) ∧ Mt w0 w' K (aT 5) .nilFunc R L := by
 have hl : (itemsOf ((aT 5).at (0, 1))).length = 3 := by kernel_rfl
 have he : endF (aT 5) ⟨#[]⟩ [((2, 1), 0)] = ⟨#[100]⟩ := by kernel_rfl
 refine (leaf.calls h ⟨#[98]⟩ a5dn_b (by decide) (by kernel_rfl) (Nat.le_of_ble_eq_true (by kernel_rfl))).mono ?_
 rw [he]
 rintro e w' ⟨ad, c, A, rfl, hG, hh⟩
 exact ⟨_, ad, c, by rw [hl], hh.drop (List.sublist_append_right _ _)⟩
theorem anodes5 (h : Mt w0 w K (aT 5) on R L) : Calls Try.prog 68 #[.pointer (some ⟨K.1, 0, none⟩)] w fun e w' => e = .returned (.tuple #[.int .i64 3, .int .i64 0]) ∧ Mt w0 w' K (aT 5) on R L := by
 have h1 : (((aT 5).p.held : Int) - ((aT 5).gone.length : Int)) = 3 := by kernel_rfl
 have h2 : ((aT 5).gone.length : Int) = 0 := by kernel_rfl
 refine (nodes.calls h (Nat.le_of_ble_eq_true (by kernel_rfl))).mono ?_
 rintro e w' ⟨rfl, hh⟩
 exact ⟨by rw [h1, h2], hh⟩
theorem afresh5 (h : Mt w0 w K (aT 5) on R L) : Calls Try.prog 61 #[.pointer (some ⟨K.1, 0, none⟩), .agg #[.int .i64 1, .int .i64 1, .int .i64 1]] w fun e w' => e = .returned (.bool true) ∧ Mt w0 w' K (aT 5) on R L := by
 have h1 : (aT 5).fresh (1, 1) 1 = true := by kernel_rfl
 refine (fresh.calls h (1, 1) 1).mono ?_
 rintro e w' ⟨rfl, hh⟩
 exact ⟨by rw [h1], hh⟩
theorem adup (h : Mt w0 w K (aT 5) on R L) : Calls Try.prog 66 #[.pointer (some ⟨K.1, 0, none⟩), .string ⟨#[100]⟩, .agg #[.int .i64 3, .int .i64 0]] w fun e w' => ∃ ad c R', e = .returned (.tuple #[.slice ad 0 c, .int .i64 13]) ∧ Mt w0 w' K (aT 5) .nilFunc R' L := by
 have hp : (aT 5).putW ⟨#[100]⟩ (3, 0) [((2, 1), 1)] (1, 1) = (aT 5, [], 13) := by
  have hf : ((aT 5).find ⟨#[100]⟩ (1, 1)).2 = true := by kernel_rfl
  unfold Tm.putW
  rw [hf]
  rfl
 refine (tput.calls h ⟨#[100]⟩ (3, 0) a5dn_d (ok_of (by kernel_rfl)) (mb := 10) (by decide) (bd_of (by kernel_rfl)) (by decide)).mono ?_
 rw [hp]
 rintro e w' ⟨ad, c, A, R', rfl, hG, hh⟩
 exact ⟨ad, c, R', rfl, hh.drop (List.sublist_append_right _ _)⟩
def a6 : Tm := (aT 5).set (1, 1) (((aT 5).at (1, 1)).delete ⟨#[100]⟩).1
def a7 : Tm := (a6.merge (2, 1) (1, 1)).1
def a8 : Tm := a7.sink
def a9 : Tm := a8.set (0, 1) ((a8.at (0, 1)).delete ⟨#[97]⟩).1
def a10 : Tm := a9.set (0, 1) ((a9.at (0, 1)).delete ⟨#[98]⟩).1
def a11 : Tm := (a10.free (1, 1)).1
theorem ajok : JOk a6 (2, 1) := ⟨ok_of (by kernel_rfl), by kernel_rfl, bd_of (by kernel_rfl), Nat.lt_of_lt_of_le (Nat.lt_of_le_of_lt (Nat.le_of_ble_eq_true (by kernel_rfl) : a6.gone.length ≤ 0) (by decide : 0 < 1)) (by decide)⟩
theorem adel1 (h : Mt w0 w K (aT 5) on R L) : Calls Try.prog 64 #[.pointer (some ⟨K.1, 0, none⟩), .string ⟨#[100]⟩] w fun e w' => ∃ ad c A R', e = .returned (.tuple #[.agg #[.int .i64 3, .int .i64 0], .slice ad 2 c, .bool true]) ∧ Gr 33 2 (.slice ad 2 c) 2 (([(1, 1), (2, 1)] : List Rf).flatMap rcel) A ∧ Mt w0 w' K a8 .nilFunc R' (A ++ L) := by
 have hd1 : (((aT 5).at (1, 1)).delete ⟨#[100]⟩).2 = ((3, 0), true) := by kernel_rfl
 have hm2 : (a6.merge (2, 1) (1, 1)).2.2 = true := by kernel_rfl
 have hg1 : (a6.merge (2, 1) (1, 1)).2.1 = (1, 1) := by kernel_rfl
 have hr7 : a7.root = (2, 1) := by kernel_rfl
 have hu1 : Up1 (wayL [((2, 1), 1)] (1, 1)) 1 (a6, []) (a7, [] ++ [(1, 1)]) := by
  have := Up1.yes (s := wayL [((2, 1), 1)] (1, 1)) 0 (a6, []) ((a6.merge (2, 1) (1, 1)).1, [] ++ [(a6.merge (2, 1) (1, 1)).2.1]) (by show (a6.at (1, 1)).refs.length < 2; exact Nat.lt_of_le_of_lt (Nat.le_of_ble_eq_true (by kernel_rfl) : _ ≤ 1) (by decide)) ajok hm2 (Up1.top _)
  rw [hg1] at this
  exact this
 have hu2 : Up2 1 (a7, [] ++ [(1, 1)]) (a8, ([] ++ [(1, 1)]) ++ [(2, 1)]) := by
  have := Up2.step 0 (a7, ([] ++ [(1, 1)] : List Rf)) (a7.sink, ([] ++ [(1, 1)]) ++ [a7.root]) (by kernel_rfl) (by kernel_rfl) (Nat.lt_of_le_of_lt (Nat.le_of_ble_eq_true (by kernel_rfl) : a7.gone.length ≤ 1) (by decide)) (Up2.stop 0 _ (.inl (by kernel_rfl)))
  rw [hr7] at this
  exact this
 refine (delT.yes h ⟨#[100]⟩ a5dn_d (ok_of (by kernel_rfl)) (by decide) (m := (((aT 5).at (1, 1)).delete ⟨#[100]⟩).1) (r := (3, 0)) (Prod.ext rfl hd1) hu1 hu2 (by decide)).mono ?_
 rintro e w' ⟨ad, c, A, R', rfl, hG, hh⟩
 exact ⟨ad, c, A, R', rfl, hG, hh⟩
theorem adel2 (h : Mt w0 w K a8 on R L) : Calls Try.prog 64 #[.pointer (some ⟨K.1, 0, none⟩), .string ⟨#[97]⟩] w fun e w' => ∃ ad c R', e = .returned (.tuple #[.agg #[.int .i64 0, .int .i64 0], .slice ad 0 c, .bool true]) ∧ Mt w0 w' K a9 .nilFunc R' L := by
 have hr : a8.root = (0, 1) := by kernel_rfl
 have hd1 : ((a8.at (0, 1)).delete ⟨#[97]⟩).2 = ((0, 0), true) := by kernel_rfl
 refine (delT.yes h ⟨#[97]⟩ (l := []) (q := (0, 1)) (by rw [hr]; exact Dn.leaf _ (by kernel_rfl)) (ok_of (by kernel_rfl)) (by decide) (m := ((a8.at (0, 1)).delete ⟨#[97]⟩).1) (r := (0, 0)) (Prod.ext rfl hd1) (p1 := (a9, [])) (p2 := (a9, [])) (k2 := 0) (Up1.top _) (Up2.stop 0 _ (.inl (by kernel_rfl))) (by decide)).mono ?_
 rintro e w' ⟨ad, c, A, R', rfl, hG, hh⟩
 exact ⟨ad, c, R', rfl, hh.drop (List.sublist_append_right _ _)⟩
theorem adel3 (h : Mt w0 w K a9 on R L) : Calls Try.prog 64 #[.pointer (some ⟨K.1, 0, none⟩), .string ⟨#[98]⟩] w fun e w' => ∃ ad c R', e = .returned (.tuple #[.agg #[.int .i64 1, .int .i64 0], .slice ad 0 c, .bool true]) ∧ Mt w0 w' K a10 .nilFunc R' L := by
 have hr : a9.root = (0, 1) := by kernel_rfl
 have hd1 : ((a9.at (0, 1)).delete ⟨#[98]⟩).2 = ((1, 0), true) := by kernel_rfl
 refine (delT.yes h ⟨#[98]⟩ (l := []) (q := (0, 1)) (by rw [hr]; exact Dn.leaf _ (by kernel_rfl)) (ok_of (by kernel_rfl)) (by decide) (m := ((a9.at (0, 1)).delete ⟨#[98]⟩).1) (r := (1, 0)) (Prod.ext rfl hd1) (p1 := (a10, [])) (p2 := (a10, [])) (k2 := 0) (Up1.top _) (Up2.stop 0 _ (.inl (by kernel_rfl))) (by decide)).mono ?_
 rintro e w' ⟨ad, c, A, R', rfl, hG, hh⟩
 exact ⟨ad, c, R', rfl, hh.drop (List.sublist_append_right _ _)⟩
theorem anodes10 (h : Mt w0 w K a10 on R L) : Calls Try.prog 68 #[.pointer (some ⟨K.1, 0, none⟩)] w fun e w' => e = .returned (.tuple #[.int .i64 1, .int .i64 2]) ∧ Mt w0 w' K a10 on R L := by
 have h1 : ((a10.p.held : Int) - (a10.gone.length : Int)) = 1 := by kernel_rfl
 have h2 : (a10.gone.length : Int) = 2 := by kernel_rfl
 refine (nodes.calls h (Nat.le_of_ble_eq_true (by kernel_rfl))).mono ?_
 rintro e w' ⟨rfl, hh⟩
 exact ⟨by rw [h1, h2], hh⟩
theorem afresh10 (h : Mt w0 w K a10 on R L) : Calls Try.prog 61 #[.pointer (some ⟨K.1, 0, none⟩), .agg #[.int .i64 1, .int .i64 1, .int .i64 1]] w fun e w' => e = .returned (.bool false) ∧ Mt w0 w' K a10 on R L := by
 have h1 : a10.fresh (1, 1) 1 = false := by kernel_rfl
 refine (fresh.calls h (1, 1) 1).mono ?_
 rintro e w' ⟨rfl, hh⟩
 exact ⟨by rw [h1], hh⟩
theorem afree1 (h : Mt w0 w K a10 on R L) : Calls Try.prog 65 #[.pointer (some ⟨K.1, 0, none⟩), .agg #[.int .i64 1, .int .i64 1]] w fun e w' => e = .returned (.bool true) ∧ Mt w0 w' K a11 on R L := by
 have h1 : (a10.free (1, 1)).2 = true := by kernel_rfl
 refine (tfree.calls h (1, 1) (Nat.le_of_ble_eq_true (by kernel_rfl))).mono ?_
 rintro e w' ⟨rfl, hh⟩
 exact ⟨by rw [h1], hh⟩
theorem afree2 (h : Mt w0 w K a11 on R L) : Calls Try.prog 65 #[.pointer (some ⟨K.1, 0, none⟩), .agg #[.int .i64 1, .int .i64 1]] w fun e w' => e = .returned (.bool false) ∧ Mt w0 w' K a11 on R L := by
 have hi : Nat.ble a11.gone.length (idxF (1, 1) a11.gone) = true := by kernel_rfl
 have h1 : a11.free (1, 1) = (a11, false) := by
  unfold Tm.free
  rw [if_neg (Nat.not_lt.2 (Nat.le_of_ble_eq_true hi))]
 refine (tfree.calls h (1, 1) (Nat.le_of_ble_eq_true (by kernel_rfl))).mono ?_
 rw [h1]
 exact fun e w' hh => hh
theorem acheck (h : Mt w0 w K a11 on R L) : Calls Try.prog 70 #[.pointer (some ⟨K.1, 0, none⟩)] w fun e w' => e = .returned (.bool true) ∧ Mt w0 w' K a11 on R L := by
 have hr : a11.root = (0, 1) := by kernel_rfl
 have hb : ((visits a11 0 a11.root 0 ⟨#[]⟩ ⟨#[]⟩).foldl chkS chk0).ok = true := by kernel_rfl
 have hc : ((visits a11 0 a11.root 0 ⟨#[]⟩ ⟨#[]⟩).foldl chkS chk0).cnt = 1 := by kernel_rfl
 have hh1 : ((a11.p.held : Int) - (a11.gone.length : Int)) = 1 := by kernel_rfl
 have hs : Nd.Sm (a11.at a11.root) := (ok_of (by rw [hr]; kernel_rfl)).sm
 exact tcheck.calls h (hh := 0) (m := 10) (by decide) ⟨by rw [hr]; kernel_rfl, hs⟩ (by show 1 ≤ 10; decide) (by decide) (Nat.le_of_ble_eq_true (by kernel_rfl)) rfl (by rw [hb, hc, hh1]; rfl)
end
end Go.Proofs.Ytglbcfkmaamhaaa.Tr
