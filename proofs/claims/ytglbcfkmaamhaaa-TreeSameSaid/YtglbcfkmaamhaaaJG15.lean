/- A text of this claim: parts TsF. No condition. -/
import Derived.Test.YtglbcfkmaamhaaaJG14
import Derived.Defers
import Derived.Test.YtglbcfkmaamhaaaJG9
import Derived.Test.YtglbcfkmaamhaaaJG2
import Derived.Test.YtglbcfkmaamhaaaJG0
set_option linter.unusedVariables false
set_option linter.unusedSimpArgs false
set_option maxHeartbeats 16000000
set_option maxRecDepth 100000
namespace Go.Proofs.Ytglbcfkmaamhaaa.Tr
open Go Go.RowKit Go.Shelf Go.Proofs.YtglbcfkmaamhaaaW.PrintWords Go.Proofs.YtglbcfkmaamhaaaW.PrintLast Go.Proofs.YtglbcfkmaamhaaaW.PrintMore Go.Proofs.Ytglbcfkmaamhaaa.Hv Go.Proofs.Ytglbcfkmaamhaaa.Arm Go.Proofs.Ytglbcfkmaamhaaa.Nd Go.Proofs.Ytglbcfkmaamhaaa.ArN
attribute [local go_sem] Oper.semAt_some
variable {w0 w w1 : World} {L L' R : List Ob} {K : Nat × Nat × Nat} {t : Tm} {on : Value}
theorem Mt.permL (h : Mt w0 w K t on R L) (hp : L'.Perm L) : Mt w0 w K t on R L' := by
 obtain ⟨s, gv, G, e, ⟨bv, B, h1, h1', h1''⟩, h2, h3⟩ := h
 exact ⟨s, gv, G, e, ⟨bv, B, h1.perm (List.Perm.append_left _ (List.Perm.cons _ (List.Perm.append_left _ (List.Perm.append_left _ hp)))), h1', h1''⟩, h2, h3⟩
def PInv (w0 : World) (K : Nat × Nat × Nat) (g : Nat) (BS : List Ob) (p : Tm × List Trn) (Y : List Ob) (W : World) : Prop :=
 ∃ Rp Am ad c, (∀ x ∈ Rp, x.2.isCells = true) ∧ Gr 173 7 (.slice ad p.2.length c) p.2.length (p.2.flatMap tcel) Am ∧ Mt w0 W K p.1 .nilFunc Rp (Y ++ (cb g 99 #[.slice ad p.2.length c] :: (Am ++ BS)))
theorem PInv.det {g : Nat} {BS Y Y' : List Ob} {p p' : Tm × List Trn} (h : PInv w0 K g BS p Y w) (k : PInv w0 K g BS p' Y' w) : p = p' := by
 obtain ⟨Rp, Am, ad, c, h1, h2, h3⟩ := h
 obtain ⟨Rp', Am', ad', c', k1, k2, k3⟩ := k
 have e1 := Mt.det h3 k3
 have b := h3.other.box (cb g 99 #[.slice ad p.2.length c]) (by simp)
 have b' := k3.other.box (cb g 99 #[.slice ad' p'.2.length c']) (by simp)
 simp only [] at b b'
 rw [b] at b'
 simp only [Option.some.injEq, Obj.cells.injEq, Array.mk.injEq, List.cons.injEq, Value.slice.injEq, true_and, and_true] at b'
 obtain ⟨rfl, hl, rfl⟩ := b'
 rw [← hl] at k2
 obtain ⟨_, e2⟩ := Gr.det (w := w) h2 k2 (fun x hx => h3.other.box x (by simp [hx])) (fun x hx => k3.other.box x (by simp [hx]))
 exact Prod.ext e1 (flatMap_inj (m := 7) (by decide) (fun _ => rfl) tcel_inj e2)
theorem PInv.tail {g : Nat} {BS Y : List Ob} {y : Ob} {p : Tm × List Trn} (h : PInv w0 K g BS p (y :: Y) w) : PInv w0 K g BS p Y w := by
 obtain ⟨Rp, Am, ad, c, h1, h2, h3⟩ := h
 exact ⟨Rp, Am, ad, c, h1, h2, h3.tail⟩
theorem PInv.alloc {g : Nat} {BS Y : List Ob} {p : Tm × List Trn} (h : PInv w0 K g BS p Y w) (o : Obj) : PInv w0 K g BS p ((w.heap.size, o) :: Y) (w.alloc o) := by
 obtain ⟨Rp, Am, ad, c, h1, h2, h3⟩ := h
 exact ⟨Rp, Am, ad, c, h1, h2, h3.alloc o⟩
theorem PInv.abide {g B : Nat} {BS Y : List Ob} {p : Tm × List Trn} (h : PInv w0 K g BS p Y w) {row : Option Nat} (hg : w.grownBy w1 row) (hB : w0.heap.size ≤ B) (hr : ∀ r, row = some r → B ≤ r ∧ ∃ o : Obj, w.heap[r]? = some o ∧ o.isCells = false) (hBS : ∀ x ∈ BS, x.1 < B ∨ x.2.isCells = true) (hY : ∀ x ∈ Y, x.1 < B ∨ x.2.isCells = true) : PInv w0 K g BS p Y w1 := by
 obtain ⟨Rp, Am, ad, c, h1, h2, h3⟩ := h
 refine ⟨Rp, Am, ad, c, h1, h2, h3.abide hg hB hr (fun x hx => .inr (h1 x hx)) (fun x hx => ?_)⟩
 rcases List.mem_append.1 hx with hx | hx
 ·exact hY x hx
 ·rcases List.mem_cons.1 hx with rfl | hx
  ·exact .inr rfl
  ·rcases List.mem_append.1 hx with hx | hx
   ·exact .inr (gr_cells h2 x hx)
   ·exact hBS x hx
theorem tcel_one (l : List Trn) : ∀ u ∈ l.flatMap tcel, u.oneCell' = true := by
 intro u hu
 obtain ⟨x, _, hx⟩ := List.mem_flatMap.1 hu
 simp only [tcel, List.mem_cons, List.not_mem_nil, or_false] at hx
 rcases hx with rfl | rfl | rfl | rfl | rfl | rfl | rfl <;> rfl
theorem putW_ok {t : Tm} {key : ByteArray} {r q : Rf} {l : List (Rf × Nat)} {n m nq : Nd.Nd} {b : Bool} {T0 : Tm} {s : List Rf} {p : Tm × List Trn} (hs : wayL l q = s) (hf : (t.find key q).2 = false) (hr : t.roomFor s = true) (hn : t.at q = n) (hput : n.put key r = (m, b)) (hT : t.set q m = T0) (hrun : runsI s q (ixL s.length s.length (Nat.le_refl _)) (T0, []) = p) (hq : p.1.at q = nq) : t.putW key r l q = (p.1, ⟨q, (0, 0), n.ver, nq.ver, false⟩ :: p.2, 0) := by
 subst hs hT hrun hq
 subst hn
 unfold Tm.putW
 rw [hf, hr, hput]
 rfl
theorem Bd.two {t : Tm} {m : Nat} (h : Bd t m) (r : Rf) : Bd ((t.set r (t.at r).split.1).take (t.at r).split.2.2) m := by
 obtain ⟨h1, h2⟩ := split_bd (h.at r)
 exact (h.set r h1).take h2
theorem wpIn_act {F : Fence} {n : Nat} {P : Program} {c : Code} {Q : Exit → Act → World → Prop} {a : Act} {w : World} (h : ∀ a', a' = a → c.wpIn F n P Q a' w) : c.wpIn F n P Q a w := h a rfl
theorem putT.ok (h : Mt w0 w K t on R L) (key : ByteArray) (r : Rf) {l : List (Rf × Nat)} {q : Rf} (hd : Dn t key t.root l q) (ho : Nd.Ok (t.at q)) (hm : l.length < 1000000) (hm2 : l.length + 10 < 1000000) (hf : (t.find key q).2 = false) (hr : t.roomFor (wayL l q) = true) {mb : Nat} (hb2 : 2 ≤ mb) (hbd : Bd t mb) (hbm : mb + l.length + 30 ≤ 1000000) : Calls Try.prog 66 #[.pointer (some ⟨K.1, 0, none⟩), .string key, .agg #[.int .i64 r.1, .int .i64 r.2]] w (TPutP w0 K L (t.putW key r l q)) := by
 have hu59 := Try.underlying59
 have hu33 := Try.underlying33
 have hu31 := Try.underlying31
 have hu85 := Try.underlying85
 have hu80 := Try.underlying80
 have hu173 := Try.underlying173
 have HM := As (show Mt w0 _ K t on R (cb (w.heap.size + 1) 33 #[.int .i64 r.1, .int .i64 r.2] :: cb w.heap.size 80 #[.pointer (some ⟨K.1, 0, none⟩)] :: L) by
  have := (h.alloc (.cells #[.pointer (some ⟨K.1, 0, none⟩)] 80)).alloc (.cells #[.int .i64 r.1, .int .i64 r.2] 33)
  simpa [cb] using this)
 obtain ⟨fr, hfr⟩ : ∃ fr, t.find key q = (fr, false) := ⟨_, Prod.ext rfl hf⟩
 have HD := As (And.intro hd (And.intro ho hfr))
 obtain ⟨s, hs⟩ : ∃ s, wayL l q = s := ⟨_, rfl⟩
 have hwl : s.length = l.length + 1 := by rw [← hs]; simp [wayL]
 have hlast : s[l.length]? = some q := by rw [← hs]; simp [wayL]
 rw [hs] at hr
 obtain ⟨n, hn⟩ : ∃ n, t.at q = n := ⟨_, rfl⟩
 obtain ⟨m, b15, hput⟩ : ∃ m b, n.put key r = (m, b) := ⟨_, _, rfl⟩
 have HL := As (And.intro hm2 (And.intro hr (And.intro hs (And.intro hwl hlast))))
 have HN := As (And.intro hn (And.intro hput ho))
 have HBd := As (And.intro hb2 (And.intro hbd hbm))
 clear h hd ho hm hm2 hf hfr hr hs hwl hlast hn hput hb2 hbd hbm
 obtain ⟨y0, yf⟩ := HM.out.other.c1 w.heap.size 80 (.pointer (some ⟨K.1, 0, none⟩)) (by simp)
 refine (callsIn_wide (n := 5)).1 ?_
 refine callsIn_of_wp_marks Try.func66 rfl trivial ?_ rfl
 simp only [Try.ntmps66, List.size_toArray, List.length_cons, List.length_nil, Nat.reduceAdd, Nat.reduceSub, Array.replicate_succ, Array.replicate_zero, List.push_toArray, List.append_toArray, List.nil_append, List.cons_append]
 refine wpIn_wide.2 ?_
 go_upto_region 6 with (go_at_call 71; go_loud (refine (find.calls HM.out key HD.out.1 HD.out.2.1).mono ?_); rw [HD.out.2.2]; rintro e2 w2 ⟨rfl, hh⟩; have H2 := As hh; clear hh)
 obtain ⟨W3, hW, hM⟩ : ∃ W, W = _ ∧ Mt w0 W K t .nilFunc R (cb (w.heap.size + 1) 33 #[.int .i64 r.1, .int .i64 r.2] :: cb w.heap.size 80 #[.pointer (some ⟨K.1, 0, none⟩)] :: L) := ⟨_, rfl, ((H2.out.alloc _).alloc _).tail.tail⟩
 rw [← hW]
 have H3 := As hM
 clear hW hM y0 yf
 obtain ⟨y0, yf⟩ := H3.out.other.c1 w.heap.size 80 (.pointer (some ⟨K.1, 0, none⟩)) (by simp)
 go_upto_region 7 with (go_at_call 110; go_loud (refine (way.calls H3.out key HD.out.1 (by have := HL.out.1; omega)).mono ?_); rw [HL.out.2.2.1]; rintro e4 w4 ⟨ad, c, Aw, rfl, hG, hh⟩; have H4 := As hh; have HG := As hG; clear hh hG)
 obtain ⟨wa, ea⟩ : ∃ wa, ad = some wa := by
  obtain ⟨a, e, -⟩ := ((Rdy.of_rw (w0 := w0) (Rw.of_gr HG.out)).now (H4.out.other.left)).2 (by have := HL.out.2.2.2.1; omega)
  exact ⟨a, e⟩
 subst ea
 obtain ⟨W5, hW, hM⟩ : ∃ W, W = _ ∧ Mt w0 W K t .nilFunc R (cb w4.heap.size 31 #[.slice (some wa) s.length c] :: (Aw ++ (cb (w.heap.size + 1) 33 #[.int .i64 r.1, .int .i64 r.2] :: cb w.heap.size 80 #[.pointer (some ⟨K.1, 0, none⟩)] :: L))) := ⟨_, rfl, H4.out.alloc _⟩
 rw [← hW]
 have H5 := As hM
 clear hW hM y0 yf
 generalize w4.heap.size = g11 at H5 ⊢
 obtain ⟨y0, yf⟩ := H5.out.other.c1 w.heap.size 80 (.pointer (some ⟨K.1, 0, none⟩)) (by simp)
 obtain ⟨z0, zf⟩ := H5.out.other.c1 g11 31 (.slice (some wa) s.length c) (by simp)
 have HRw := As (show Rdy 2 w0 Aw (some wa) s.length (s.flatMap rcel) from Rdy.of_rw (Rw.of_gr HG.out))
 go_upto_region 9 with (go_at_call 118; go_loud (refine (room.calls H5.out s (by rw [HL.out.2.2.2.1]; have := HL.out.1; omega) (HRw.out.mono (fun p hp => by simp [hp]))).mono ?_); rw [HL.out.2.1]; rintro e6 w6 ⟨rfl, hh⟩; have H6 := As hh; clear hh)
 clear y0 yf z0 zf
 obtain ⟨z0, zf⟩ := H6.out.other.c1 g11 31 (.slice (some wa) s.length c) (by simp)
 have hsl : (s.length : Int) - 1 = (l.length : Int) := by have := HL.out.2.2.2.1; omega
 have ew : wrap64 ((s.length : Int) - 1) = (l.length : Int) := by rw [hsl]; have := HL.out.1; unfold wrap64; omega
 have hlt : (l.length : Int) < (s.length : Int) := by omega
 clear hsl
 obtain ⟨r0, r1⟩ := rcel_get s l.length q HL.out.2.2.2.2
 have hcl := ((HRw.out.now (H6.out.other.tail.left)).2 (by omega))
 obtain ⟨wa', ea, hcl⟩ := hcl
 cases ea
 have v0 := hcl _ _ r0
 have v1' := hcl _ _ r1
 rw [← Addr.add_add] at v1'
 have v1 : w6.cell? { block := (wa.add (l.length * 2)).block, off := (wa.add (l.length * 2)).off + 1 } = some (.int .i64 q.2) := v1'
 clear hcl r0 r1 v1'
 go_upto_region 10 with (fail)
 obtain ⟨W7, hW, hM⟩ : ∃ W, W = _ ∧ Mt w0 W K t .nilFunc R (cb w6.heap.size 33 #[.int .i64 q.1, .int .i64 q.2] :: cb g11 31 #[.slice (some wa) s.length c] :: (Aw ++ (cb (w.heap.size + 1) 33 #[.int .i64 r.1, .int .i64 r.2] :: cb w.heap.size 80 #[.pointer (some ⟨K.1, 0, none⟩)] :: L))) := ⟨_, rfl, H6.out.alloc _⟩
 rw [← hW]
 have H7 := As hM
 clear hW hM z0 zf v0 v1 hlt ew
 generalize w6.heap.size = g12 at H7 ⊢
 obtain ⟨y0, yf⟩ := H7.out.other.c1 w.heap.size 80 (.pointer (some ⟨K.1, 0, none⟩)) (by simp)
 obtain ⟨x0, x1, -, -⟩ := H7.out.other.c2 g12 33 (.int .i64 q.1) (.int .i64 q.2) (by simp)
 go_upto_region 11 with (go_at_call 111; go_loud (refine (at.calls H7.out q).mono ?_); rintro e8 w8 ⟨v, rfl, hnv, hh⟩; rw [HN.out.1] at hnv; obtain ⟨ka, kc, ra, rc, ev, hr8⟩ := hnv; have ev' : v = .agg #[.bool n.leaf, .int .i64 n.ver, .slice ka n.keys.length kc, .slice ra n.refs.length rc] := ev; subst ev'; clear ev; have HR8 := As hr8; have H8 := As hh; clear hh hr8)
 obtain ⟨W9, hW, hM⟩ : ∃ W, W = _ ∧ Mt w0 W K t .nilFunc R (cb w8.heap.size 59 #[.bool n.leaf, .int .i64 n.ver, .slice ka n.keys.length kc, .slice ra n.refs.length rc] :: cb g12 33 #[.int .i64 q.1, .int .i64 q.2] :: cb g11 31 #[.slice (some wa) s.length c] :: (Aw ++ (cb (w.heap.size + 1) 33 #[.int .i64 r.1, .int .i64 r.2] :: cb w.heap.size 80 #[.pointer (some ⟨K.1, 0, none⟩)] :: L))) := ⟨_, rfl, H8.out.alloc _⟩
 rw [← hW]
 have H9 := As hM
 clear hW hM y0 yf x0 x1
 generalize w8.heap.size = g13 at H9 ⊢
 obtain ⟨x0, x1, x2, x3, -, -, -, -⟩ := H9.out.other.c4 g13 59 (.bool n.leaf) (.int .i64 n.ver) (.slice ka n.keys.length kc) (.slice ra n.refs.length rc) (by simp)
 obtain ⟨y0, y1, -, -⟩ := H9.out.other.c2 (w.heap.size + 1) 33 (.int .i64 r.1) (.int .i64 r.2) (by simp)
 go_upto_region 12 with (go_at_call 42; go_loud ((obtain ⟨Lf, hL, hRf, hLf, back⟩ := H9.out.lens); (refine (Nd.put.calls (w0 := w0) (R := R) hL hRf ⟨ka, kc, ra, rc, rfl, HR8.out⟩ (by rw [← HN.out.1]; exact HN.out.2.2) key r).mono ?_); rw [HN.out.2.1]; rintro e10 w10 ⟨v, A1, rfl, hnv, hh⟩; have H10 := As (back w10 A1 hh); clear back hL hRf hLf hh; obtain ⟨ka1, kc1, ra1, rc1, ev, hr10⟩ := hnv; have ev' : v = .agg #[.bool m.leaf, .int .i64 m.ver, .slice ka1 m.keys.length kc1, .slice ra1 m.refs.length rc1] := ev; subst ev'; clear ev; have HR10 := As hr10; clear hr10))
 obtain ⟨W11, hW, hM⟩ : ∃ W, W = _ ∧ Mt w0 W K t .nilFunc (A1 ++ R) (cb w10.heap.size 59 #[.bool m.leaf, .int .i64 m.ver, .slice ka1 m.keys.length kc1, .slice ra1 m.refs.length rc1] :: cb g13 59 #[.bool n.leaf, .int .i64 n.ver, .slice ka n.keys.length kc, .slice ra n.refs.length rc] :: cb g12 33 #[.int .i64 q.1, .int .i64 q.2] :: cb g11 31 #[.slice (some wa) s.length c] :: (Aw ++ (cb (w.heap.size + 1) 33 #[.int .i64 r.1, .int .i64 r.2] :: cb w.heap.size 80 #[.pointer (some ⟨K.1, 0, none⟩)] :: L))) := ⟨_, rfl, H10.out.alloc _⟩
 rw [← hW]
 have H11 := As hM
 clear hW hM x0 x1 x2 x3 y0 y1
 generalize w10.heap.size = g14 at H11 ⊢
 have SP := As (show ∀ (w' : World) (t' : Tm) (R' : List Ob), Mt w0 w' K t' .nilFunc R' (cb g14 59 #[.bool m.leaf, .int .i64 m.ver, .slice ka1 m.keys.length kc1, .slice ra1 m.refs.length rc1] :: cb g13 59 #[.bool n.leaf, .int .i64 n.ver, .slice ka n.keys.length kc, .slice ra n.refs.length rc] :: cb g12 33 #[.int .i64 q.1, .int .i64 q.2] :: cb g11 31 #[.slice (some wa) s.length c] :: (Aw ++ (cb (w.heap.size + 1) 33 #[.int .i64 r.1, .int .i64 r.2] :: cb w.heap.size 80 #[.pointer (some ⟨K.1, 0, none⟩)] :: L))) → (w'.cell? ⟨w.heap.size, 0, none⟩ = some (.pointer (some ⟨K.1, 0, none⟩)) ∧ w'.cell? ⟨K.1, 0, none⟩ = some (.pointer (some ⟨K.2.1, 0, none⟩)) ∧ w'.cell? ⟨g12, 0, none⟩ = some (.int .i64 q.1) ∧ w'.cell? ⟨g12, 1, none⟩ = some (.int .i64 q.2) ∧ w'.cell? ⟨g14, 0, none⟩ = some (.bool m.leaf) ∧ w'.cell? ⟨g14, 1, none⟩ = some (.int .i64 m.ver) ∧ w'.cell? ⟨g14, 2, none⟩ = some (.slice ka1 m.keys.length kc1) ∧ w'.cell? ⟨g14, 3, none⟩ = some (.slice ra1 m.refs.length rc1)) from fun w' t' R' h => by
  obtain ⟨c0, -, -, -, -, -, -⟩ := h.cells
  obtain ⟨p0, -⟩ := h.other.c1 w.heap.size 80 (.pointer (some ⟨K.1, 0, none⟩)) (by simp)
  obtain ⟨x0, x1, -, -⟩ := h.other.c2 g12 33 (.int .i64 q.1) (.int .i64 q.2) (by simp)
  obtain ⟨n0, n1, n2, n3, -, -, -, -⟩ := h.other.c4 g14 59 (.bool m.leaf) (.int .i64 m.ver) (.slice ka1 m.keys.length kc1) (.slice ra1 m.refs.length rc1) (by simp)
  exact ⟨p0, c0, x0, x1, n0, n1, n2, n3⟩)
 have HDr := As H11.out.drew
 refine wp_region_noPanic ?_
 refine start_ (n := 7) (S := fun w' => w'.cell? ⟨w.heap.size, 0, none⟩ = some (.pointer (some ⟨K.1, 0, none⟩)) ∧ w'.cell? ⟨K.1, 0, none⟩ = some (.pointer (some ⟨K.2.1, 0, none⟩)) ∧ w'.cell? ⟨g12, 0, none⟩ = some (.int .i64 q.1) ∧ w'.cell? ⟨g12, 1, none⟩ = some (.int .i64 q.2) ∧ w'.cell? ⟨g14, 0, none⟩ = some (.bool m.leaf) ∧ w'.cell? ⟨g14, 1, none⟩ = some (.int .i64 m.ver) ∧ w'.cell? ⟨g14, 2, none⟩ = some (.slice ka1 m.keys.length kc1) ∧ w'.cell? ⟨g14, 3, none⟩ = some (.slice ra1 m.refs.length rc1)) (ds := []) #[false, false, false, false, false, false, false] (by kernel_rfl) rfl rfl (SP.out _ _ _ HDr.out) (fun hHeld => ?_)
 generalize W11.drew = wx0 at HDr hHeld ⊢
 refine ta_ 0 (some 55) hHeld ?_ (hy := Or.inl ⟨by rfl, by rintro w' ⟨s0, s1, s2, s3, s4, s5, s6, s7⟩; go_simp; with_reducible rfl⟩)
 refine pu_ 1 (some 56) ?_
 refine pu_ 2 (some 57) ?_
 refine ta_ 3 (some 58) hHeld ?_ (hy := Or.inl ⟨by rfl, by rintro w' ⟨s0, s1, s2, s3, s4, s5, s6, s7⟩; go_simp; with_reducible rfl⟩)
 refine ta_ 4 (some 59) hHeld ?_ (hy := Or.inl ⟨by rfl, by rintro w' ⟨s0, s1, s2, s3, s4, s5, s6, s7⟩; go_simp; with_reducible rfl⟩)
 refine ta_ 5 (some 60) hHeld ?_ (hy := Or.inl ⟨by rfl, by rintro w' ⟨s0, s1, s2, s3, s4, s5, s6, s7⟩; go_simp; with_reducible rfl⟩)
 refine on_ 6 (some 61) fun K_ hK => ?_
 refine gs_ Try.func112 #[.pointer (some ⟨K.2.1, 0, none⟩), .agg #[.int .i64 q.1, .int .i64 q.2], .agg #[.bool m.leaf, .int .i64 m.ver, .slice ka1 m.keys.length kc1, .slice ra1 m.refs.length rc1]] ?_
 refine (Mt.set HDr.out q (n := m) ⟨ka1, kc1, ra1, rc1, rfl, HR10.out⟩).mono ?_
 rintro e12 w12 ⟨rfl, hh⟩
 refine ⟨_, rfl, ?_⟩
 have H12 := As hh
 clear hh
 refine hK.out _ _ (SP.out _ _ _ H12.out) (fun hHeld => ?_)
 clear hK K_
 refine nm_ ?_
 refine done_ (by kernel_rfl) ?_
 refine NoPanic.normal ?_
 clear SP hHeld
 obtain ⟨T0, hT0⟩ : ∃ T, t.set q m = T := ⟨_, rfl⟩
 have HT0 := As hT0
 rw [hT0] at H12
 clear hT0
 obtain ⟨x0, x1, -, -⟩ := H12.out.other.c2 g12 33 (.int .i64 q.1) (.int .i64 q.2) (by simp)
 obtain ⟨n0, n1, n2, n3, -, -, -, -⟩ := H12.out.other.c4 g13 59 (.bool n.leaf) (.int .i64 n.ver) (.slice ka n.keys.length kc) (.slice ra n.refs.length rc) (by simp)
 go_upto_region 15 with (fail)
 obtain ⟨W14, hW, hM⟩ : ∃ W, W = _ ∧ Mt w0 W K T0 .nilFunc (A1 ++ R) (cb (w12.heap.size + 1) 99 #[.slice none 0 0] :: cb (w12.heap.size) 173 #[.int .i64 q.1, .int .i64 q.2, .int .i64 0, .int .i64 0, .int .i64 n.ver, .int .i64 0, .bool false] :: cb g12 33 #[.int .i64 q.1, .int .i64 q.2] :: cb g11 31 #[.slice (some wa) s.length c] :: (Aw ++ (cb (w.heap.size + 1) 33 #[.int .i64 r.1, .int .i64 r.2] :: cb w.heap.size 80 #[.pointer (some ⟨K.1, 0, none⟩)] :: L))) := ⟨_, rfl, by
  have h1 := (H12.out.alloc (.cells #[.int .i64 q.1, .int .i64 q.2, .int .i64 0, .int .i64 0, .int .i64 n.ver, .int .i64 0, .bool false] 173)).alloc (.cells #[.slice none 0 0] 99)
  have h2 := h1.drop (List.Sublist.cons_cons _ (List.Sublist.cons_cons _ ((List.sublist_cons_self _ _).trans (List.sublist_cons_self _ _))))
  simpa [cb] using h2⟩
 rw [← hW]
 have H14 := As hM
 clear hW hM x0 x1 n0 n1 n2 n3
 generalize w12.heap.size = g16 at H14 ⊢
 obtain ⟨z0, zf⟩ := H14.out.other.c1 g11 31 (.slice (some wa) s.length c) (by simp)
 go_wp2_with (go_at_call 119; refine (back.calls _ _ _ _).mono ?_; rintro e1 w1 ⟨rfl, rfl⟩)
 refine (wpIn_wide (n := 5)).1 ?_
 gi_wp2
 clear z0 zf
 obtain ⟨R0, hR0, hR0s, hp⟩ := H14.out.pure
 obtain ⟨WL, hW, hM⟩ : ∃ W, W = W14.alloc (.cells #[.slice (some wa) s.length c] 31) ∧ Mt w0 W K T0 .nilFunc R0 (cb (g16 + 1) 99 #[.slice none 0 0] :: ([] ++ (cb W14.heap.size 31 #[.slice (some wa) s.length c] :: cb g16 173 #[.int .i64 q.1, .int .i64 q.2, .int .i64 0, .int .i64 0, .int .i64 n.ver, .int .i64 0, .bool false] :: cb g12 33 #[.int .i64 q.1, .int .i64 q.2] :: cb g11 31 #[.slice (some wa) s.length c] :: (Aw ++ (cb (w.heap.size + 1) 33 #[.int .i64 r.1, .int .i64 r.2] :: cb w.heap.size 80 #[.pointer (some ⟨K.1, 0, none⟩)] :: L))))) := ⟨_, rfl, (hp.alloc _).permL (List.Perm.swap _ _ _)⟩
 rw [← hW]
 have HWL := As hM
 clear hW hM hR0s hp
 generalize W14.heap.size = gB at HWL ⊢
 refine wpIn_act ?_
 intro aL haL
 rename_i KK hKK
 have hw0 : w0.heap.size ≤ WL.heap.size := HWL.out.bel.size
 obtain ⟨BS, hBS⟩ : ∃ BS : List Ob, BS = (cb gB 31 #[.slice (some wa) s.length c] :: cb g16 173 #[.int .i64 q.1, .int .i64 q.2, .int .i64 0, .int .i64 0, .int .i64 n.ver, .int .i64 0, .bool false] :: cb g12 33 #[.int .i64 q.1, .int .i64 q.2] :: cb g11 31 #[.slice (some wa) s.length c] :: (Aw ++ (cb (w.heap.size + 1) 33 #[.int .i64 r.1, .int .i64 r.2] :: cb w.heap.size 80 #[.pointer (some ⟨K.1, 0, none⟩)] :: L))) := ⟨_, rfl⟩
 have hBSl : ∀ x ∈ BS, x.1 < WL.heap.size := fun x hx => HWL.out.other.lt x (by rw [← hBS]; simp [hx])
 have hBSo : ∀ x ∈ BS, x.1 < WL.heap.size ∨ x.2.isCells = true := fun x hx => .inl (hBSl x hx)
 have hI0 : PInv w0 K (g16 + 1) BS (T0, []) [] WL := ⟨R0, [], none, 0, hR0, Gr.nil 173 7, by rw [hBS]; exact HWL.out⟩
 have hLKs : List.Sublist (cb gB 31 #[.slice (some wa) s.length c] :: Aw) BS := by
  rw [hBS]
  exact List.Sublist.cons_cons _ (((List.sublist_append_left _ _).trans (List.sublist_cons_self _ _)).trans ((List.sublist_cons_self _ _).trans (List.sublist_cons_self _ _)))
 have hLK : Hv w0 WL (cb gB 31 #[.slice (some wa) s.length c] :: Aw) := (HWL.out.other.tail.right.drop (by rw [← hBS]; exact hLKs))
 have hrowK : Rdy 2 w0 (cb gB 31 #[.slice (some wa) s.length c] :: Aw) (some wa) s.length (s.flatMap rcel) := HRw.out.mono (fun p hp => List.mem_cons_of_mem _ hp)
 have hsl7 : s.length ≤ 1000000 := by have := HL.out.1; have := HL.out.2.2.2.1; omega
 have REST : ∀ (D : Nat) (W : World) (p : Tm × List Trn), WL.heap.size ≤ D → W.heap[D]? = some (.deferred (some [])) → runsI s q (ixL s.length s.length (Nat.le_refl _)) (T0, []) = p → PInv w0 K (g16 + 1) BS p [] W → p.2.length ≤ s.length → KK { tmps := aL.tmps, defers := { target := .collected D, args := #[] } :: aL.defers } W := by
  intro D W p hD hKD hrun hP hpl
  obtain ⟨Rp, Am, mad, mc, hRp, hG, hM⟩ := hP
  have hM2 : Mt w0 W K p.1 .nilFunc Rp (cb (g16 + 1) 99 #[.slice mad p.2.length mc] :: (Am ++ BS)) := hM
  have hLo : ∀ x ∈ (cb (g16 + 1) 99 #[.slice mad p.2.length mc] :: (Am ++ BS)), x.1 < WL.heap.size ∨ x.2.isCells = true := fun x hx => by
   rcases List.mem_cons.1 hx with rfl | hx
   ·exact .inr rfl
   ·exact (List.mem_append.1 hx).elim (fun hx => .inr (gr_cells hG x hx)) (hBSo x)
  have HLo := As hLo
  have HBSo := As (And.intro hBSo hBS)
  have HM := As hM2
  have HX := As (And.intro hD (And.intro hKD (And.intro hrun (And.intro hRp (And.intro hG hpl)))))
  obtain ⟨nq, hnq⟩ : ∃ nq, p.1.at q = nq := ⟨_, rfl⟩
  have HQ := As hnq
  have HW0 := As hw0
  clear hM hM2 hLo hD hKD hrun hRp hG hpl hnq hBSo hBSl hLK hLKs hrowK hI0 hsl7
  obtain ⟨y0, yf⟩ := HM.out.other.c1 w.heap.size 80 (.pointer (some ⟨K.1, 0, none⟩)) (by simp [hBS])
  obtain ⟨x0, x1, -, -⟩ := HM.out.other.c2 g12 33 (.int .i64 q.1) (.int .i64 q.2) (by simp [hBS])
  have hf1 := fld1
  refine hKK _ _ ?_
  subst haL
  clear hBS hKK
  dsimp only
  go_upto_region 26 with (go_at_call 111; go_loud (refine (atB.calls HM.out q).mono ?_; rintro e2 w2 ⟨v, rfl, hnv, hb2, hl2⟩; rw [HQ.out] at hnv; obtain ⟨kq, kqc, rq, rqc, ev, hr2⟩ := hnv; have ev2 : v = .agg #[.bool nq.leaf, .int .i64 nq.ver, .slice kq nq.keys.length kqc, .slice rq nq.refs.length rqc] := ev; subst ev2; clear ev hr2; obtain ⟨X, hX, keep⟩ := HM.out.keepsX hb2 hl2 HW0.out (by have := blk_lt HX.out.2.1; have := HX.out.1; omega) (fun x hx => .inr (HX.out.2.2.2.1 x hx)) HLo.out; have HX2 := As hX; have HKp := As keep; have HB2 := As ((hb2.block D (blk_lt HX.out.2.1)).trans HX.out.2.1); clear hb2 hl2 hX keep; have s5 := HX2.out.other.cell (show cb g16 173 #[.int .i64 q.1, .int .i64 q.2, .int .i64 0, .int .i64 0, .int .i64 n.ver, .int .i64 0, .bool false] ∈ (cb (g16 + 1) 99 #[.slice mad p.2.length mc] :: (Am ++ BS)) ++ X from by simp [HBSo.out.2]) 5 rfl; have f5 := HX2.out.other.frozen (show cb g16 173 #[.int .i64 q.1, .int .i64 q.2, .int .i64 0, .int .i64 0, .int .i64 n.ver, .int .i64 0, .bool false] ∈ (cb (g16 + 1) 99 #[.slice mad p.2.length mc] :: (Am ++ BS)) ++ X from by simp [HBSo.out.2]) 5))
  obtain ⟨W25, hW, hM⟩ : ∃ W, W = _ ∧ Mt w0 W K p.1 .nilFunc Rp (cb (g16 + 1) 99 #[.slice mad p.2.length mc] :: (Am ++ (cb gB 31 #[.slice (some wa) s.length c] :: cb g16 173 #[.int .i64 q.1, .int .i64 q.2, .int .i64 0, .int .i64 0, .int .i64 n.ver, .int .i64 nq.ver, .bool false] :: ((cb g12 33 #[.int .i64 q.1, .int .i64 q.2] :: cb g11 31 #[.slice (some wa) s.length c] :: (Aw ++ (cb (w.heap.size + 1) 33 #[.int .i64 r.1, .int .i64 r.2] :: cb w.heap.size 80 #[.pointer (some ⟨K.1, 0, none⟩)] :: L))) ++ X)))) := ⟨_, rfl, by
   have h1 : Mt w0 w2 K p.1 .nilFunc Rp ((cb (g16 + 1) 99 #[.slice mad p.2.length mc] :: (Am ++ [cb gB 31 #[.slice (some wa) s.length c]])) ++ cb g16 173 #[.int .i64 q.1, .int .i64 q.2, .int .i64 0, .int .i64 0, .int .i64 n.ver, .int .i64 0, .bool false] :: ((cb g12 33 #[.int .i64 q.1, .int .i64 q.2] :: cb g11 31 #[.slice (some wa) s.length c] :: (Aw ++ (cb (w.heap.size + 1) 33 #[.int .i64 r.1, .int .i64 r.2] :: cb w.heap.size 80 #[.pointer (some ⟨K.1, 0, none⟩)] :: L))) ++ X)) := by
    have := HX2.out
    rw [HBSo.out.2] at this
    simpa using this
   have h2 := Mt.put h1 5 (.int .i64 nq.ver) rfl
   simpa using h2⟩
  rw [← hW]
  have HB3 := As (show W25.heap[D]? = some (.deferred (some [])) by rw [hW]; exact (KeepsOthers.setCell _ _ _).same D _ HB2.out rfl)
  have HKp2 := As (show ∀ w3, (∀ x ∈ X, w3.heap[x.1]? = some x.2) → w3.heap[D]? = some (.deferred (some [])) from fun w3 h => (HKp.out w3 h).2 D _ HX.out.1 HB2.out rfl)
  have H25 := As hM
  clear hW hM s5 f5 y0 yf x0 x1
  have u0 := H25.out.other.cell (show cb g16 173 #[.int .i64 q.1, .int .i64 q.2, .int .i64 0, .int .i64 0, .int .i64 n.ver, .int .i64 nq.ver, .bool false] ∈ cb (g16 + 1) 99 #[.slice mad p.2.length mc] :: (Am ++ (cb gB 31 #[.slice (some wa) s.length c] :: cb g16 173 #[.int .i64 q.1, .int .i64 q.2, .int .i64 0, .int .i64 0, .int .i64 n.ver, .int .i64 nq.ver, .bool false] :: ((cb g12 33 #[.int .i64 q.1, .int .i64 q.2] :: cb g11 31 #[.slice (some wa) s.length c] :: (Aw ++ (cb (w.heap.size + 1) 33 #[.int .i64 r.1, .int .i64 r.2] :: cb w.heap.size 80 #[.pointer (some ⟨K.1, 0, none⟩)] :: L))) ++ X))) from by simp) 0 rfl
  have u1 := H25.out.other.cell (show cb g16 173 #[.int .i64 q.1, .int .i64 q.2, .int .i64 0, .int .i64 0, .int .i64 n.ver, .int .i64 nq.ver, .bool false] ∈ cb (g16 + 1) 99 #[.slice mad p.2.length mc] :: (Am ++ (cb gB 31 #[.slice (some wa) s.length c] :: cb g16 173 #[.int .i64 q.1, .int .i64 q.2, .int .i64 0, .int .i64 0, .int .i64 n.ver, .int .i64 nq.ver, .bool false] :: ((cb g12 33 #[.int .i64 q.1, .int .i64 q.2] :: cb g11 31 #[.slice (some wa) s.length c] :: (Aw ++ (cb (w.heap.size + 1) 33 #[.int .i64 r.1, .int .i64 r.2] :: cb w.heap.size 80 #[.pointer (some ⟨K.1, 0, none⟩)] :: L))) ++ X))) from by simp) 1 rfl
  have u2 := H25.out.other.cell (show cb g16 173 #[.int .i64 q.1, .int .i64 q.2, .int .i64 0, .int .i64 0, .int .i64 n.ver, .int .i64 nq.ver, .bool false] ∈ cb (g16 + 1) 99 #[.slice mad p.2.length mc] :: (Am ++ (cb gB 31 #[.slice (some wa) s.length c] :: cb g16 173 #[.int .i64 q.1, .int .i64 q.2, .int .i64 0, .int .i64 0, .int .i64 n.ver, .int .i64 nq.ver, .bool false] :: ((cb g12 33 #[.int .i64 q.1, .int .i64 q.2] :: cb g11 31 #[.slice (some wa) s.length c] :: (Aw ++ (cb (w.heap.size + 1) 33 #[.int .i64 r.1, .int .i64 r.2] :: cb w.heap.size 80 #[.pointer (some ⟨K.1, 0, none⟩)] :: L))) ++ X))) from by simp) 2 rfl
  have u3 := H25.out.other.cell (show cb g16 173 #[.int .i64 q.1, .int .i64 q.2, .int .i64 0, .int .i64 0, .int .i64 n.ver, .int .i64 nq.ver, .bool false] ∈ cb (g16 + 1) 99 #[.slice mad p.2.length mc] :: (Am ++ (cb gB 31 #[.slice (some wa) s.length c] :: cb g16 173 #[.int .i64 q.1, .int .i64 q.2, .int .i64 0, .int .i64 0, .int .i64 n.ver, .int .i64 nq.ver, .bool false] :: ((cb g12 33 #[.int .i64 q.1, .int .i64 q.2] :: cb g11 31 #[.slice (some wa) s.length c] :: (Aw ++ (cb (w.heap.size + 1) 33 #[.int .i64 r.1, .int .i64 r.2] :: cb w.heap.size 80 #[.pointer (some ⟨K.1, 0, none⟩)] :: L))) ++ X))) from by simp) 3 rfl
  have u4 := H25.out.other.cell (show cb g16 173 #[.int .i64 q.1, .int .i64 q.2, .int .i64 0, .int .i64 0, .int .i64 n.ver, .int .i64 nq.ver, .bool false] ∈ cb (g16 + 1) 99 #[.slice mad p.2.length mc] :: (Am ++ (cb gB 31 #[.slice (some wa) s.length c] :: cb g16 173 #[.int .i64 q.1, .int .i64 q.2, .int .i64 0, .int .i64 0, .int .i64 n.ver, .int .i64 nq.ver, .bool false] :: ((cb g12 33 #[.int .i64 q.1, .int .i64 q.2] :: cb g11 31 #[.slice (some wa) s.length c] :: (Aw ++ (cb (w.heap.size + 1) 33 #[.int .i64 r.1, .int .i64 r.2] :: cb w.heap.size 80 #[.pointer (some ⟨K.1, 0, none⟩)] :: L))) ++ X))) from by simp) 4 rfl
  have u5 := H25.out.other.cell (show cb g16 173 #[.int .i64 q.1, .int .i64 q.2, .int .i64 0, .int .i64 0, .int .i64 n.ver, .int .i64 nq.ver, .bool false] ∈ cb (g16 + 1) 99 #[.slice mad p.2.length mc] :: (Am ++ (cb gB 31 #[.slice (some wa) s.length c] :: cb g16 173 #[.int .i64 q.1, .int .i64 q.2, .int .i64 0, .int .i64 0, .int .i64 n.ver, .int .i64 nq.ver, .bool false] :: ((cb g12 33 #[.int .i64 q.1, .int .i64 q.2] :: cb g11 31 #[.slice (some wa) s.length c] :: (Aw ++ (cb (w.heap.size + 1) 33 #[.int .i64 r.1, .int .i64 r.2] :: cb w.heap.size 80 #[.pointer (some ⟨K.1, 0, none⟩)] :: L))) ++ X))) from by simp) 5 rfl
  have u6 := H25.out.other.cell (show cb g16 173 #[.int .i64 q.1, .int .i64 q.2, .int .i64 0, .int .i64 0, .int .i64 n.ver, .int .i64 nq.ver, .bool false] ∈ cb (g16 + 1) 99 #[.slice mad p.2.length mc] :: (Am ++ (cb gB 31 #[.slice (some wa) s.length c] :: cb g16 173 #[.int .i64 q.1, .int .i64 q.2, .int .i64 0, .int .i64 0, .int .i64 n.ver, .int .i64 nq.ver, .bool false] :: ((cb g12 33 #[.int .i64 q.1, .int .i64 q.2] :: cb g11 31 #[.slice (some wa) s.length c] :: (Aw ++ (cb (w.heap.size + 1) 33 #[.int .i64 r.1, .int .i64 r.2] :: cb w.heap.size 80 #[.pointer (some ⟨K.1, 0, none⟩)] :: L))) ++ X))) from by simp) 6 rfl
  obtain ⟨z0, zf⟩ := H25.out.other.c1 (g16 + 1) 99 (.slice mad p.2.length mc) (by simp)
  obtain ⟨Qx, hq, back⟩ := Mt.lensX (B := []) (X := [cb W25.heap.size 173 #[.int .i64 q.1, .int .i64 q.2, .int .i64 0, .int .i64 0, .int .i64 n.ver, .int .i64 nq.ver, .bool false]]) (L := cb (g16 + 1) 99 #[.slice mad p.2.length mc] :: (Am ++ (cb gB 31 #[.slice (some wa) s.length c] :: cb g16 173 #[.int .i64 q.1, .int .i64 q.2, .int .i64 0, .int .i64 0, .int .i64 n.ver, .int .i64 nq.ver, .bool false] :: ((cb g12 33 #[.int .i64 q.1, .int .i64 q.2] :: cb g11 31 #[.slice (some wa) s.length c] :: (Aw ++ (cb (w.heap.size + 1) 33 #[.int .i64 r.1, .int .i64 r.2] :: cb w.heap.size 80 #[.pointer (some ⟨K.1, 0, none⟩)] :: L))) ++ X)))) (H25.out.alloc (.cells #[.int .i64 q.1, .int .i64 q.2, .int .i64 0, .int .i64 0, .int .i64 n.ver, .int .i64 nq.ver, .bool false] 173))
  obtain ⟨z1, -⟩ := (H25.out.alloc (.cells #[.int .i64 q.1, .int .i64 q.2, .int .i64 0, .int .i64 0, .int .i64 n.ver, .int .i64 nq.ver, .bool false] 173)).other.c1 (g16 + 1) 99 (.slice mad p.2.length mc) (by simp)
  have hzz : (W25.alloc (.cells #[.int .i64 q.1, .int .i64 q.2, .int .i64 0, .int .i64 0, .int .i64 n.ver, .int .i64 nq.ver, .bool false] 173)).cell? ⟨g16 + 1, 0, none⟩ = W25.cell? ⟨g16 + 1, 0, none⟩ := z1.trans z0.symm
  clear z1
  have hlk := H25.out.other.tail.left
  have HQx := As (And.intro hq (And.intro back (((Rdy.of_rw (w0 := w0) (Rw.of_gr HX.out.2.2.2.2.1)).now hlk).below (below_alloc (Below.refl W25.heap.size W25) (.cells #[.int .i64 q.1, .int .i64 q.2, .int .i64 0, .int .i64 0, .int .i64 n.ver, .int .i64 nq.ver, .bool false] 173)))))
  clear hq back hlk
  obtain ⟨tn, htn⟩ : ∃ tn : Trn, tn = ⟨q, (0, 0), n.ver, nq.ver, false⟩ := ⟨_, rfl⟩
  have HT := As (And.intro htn (show Gr 173 7 (.slice (some ⟨W25.heap.size, 0, none⟩) 1 1) 1 (tcel tn) [cb W25.heap.size 173 #[.int .i64 q.1, .int .i64 q.2, .int .i64 0, .int .i64 0, .int .i64 n.ver, .int .i64 nq.ver, .bool false]] by rw [htn]; exact ⟨rfl, .inr ⟨W25.heap.size, 1, _, rfl, rfl, Nat.le_refl _, by decide, rfl, rfl⟩⟩))
  clear htn
  have HBB := As (show (1 + p.2.length) * 56 ≤ 140737488355328 by have := HX.out.2.2.2.2.2; have := HL.out.1; have := HL.out.2.2.2.1; omega)
  go_wp2_with ((with_reducible refine gate_builtin (b := .append) (xs := #[.tmp 104, .tmp 105]) rfl ?_); at_builtin; go_loud (refine append_rows (w0 := w0) (A := [cb W25.heap.size 173 #[.int .i64 q.1, .int .i64 q.2, .int .i64 0, .int .i64 0, .int .i64 n.ver, .int .i64 nq.ver, .bool false]]) (L := Qx) rfl (.tmp 104) (.tmp 105) 99 173 (.agg #[.int .i64 0, .int .i64 0, .int .i64 0, .int .i64 0, .int .i64 0, .int .i64 0, .bool false]) 7 56 rfl Try.underlying99 infoT rfl (by decide) (by decide) (.slice (some ⟨W25.heap.size, 0, none⟩) 1 1) 1 (tcel tn) rfl mad p.2.length mc (p.2.flatMap tcel) rfl (tcel_one p.2) HT.out.2 HQx.out.1 HQx.out.2.2 HBB.out ?_; intro v1 w5 A2 hG2 hv5; obtain ⟨ad1, c1, rfl, -⟩ := hG2.form; have HG2 := As hG2; have H26 := As (HQx.out.2.1 w5 A2 hv5); clear hG2 hv5))
  have hD9 : w5.heap[D]? = some (.deferred (some [])) := HKp2.out w5 (fun x hx => H26.out.other.box x (by simp [hx]))
  have hF := putW_ok HL.out.2.2.1 (by rw [HD.out.2.2]) HL.out.2.1 HN.out.1 HN.out.2.1 HT0.out HX.out.2.2.1 HQ.out
  rw [hF]
  have hG2 := HG2.out
  have h26 : Mt w0 w5 K p.1 .nilFunc Rp (A2 ++ (cb (g16 + 1) 99 #[.slice mad p.2.length mc] :: (Am ++ (cb gB 31 #[.slice (some wa) s.length c] :: cb g16 173 #[.int .i64 q.1, .int .i64 q.2, .int .i64 0, .int .i64 0, .int .i64 n.ver, .int .i64 nq.ver, .bool false] :: ((cb g12 33 #[.int .i64 q.1, .int .i64 q.2] :: cb g11 31 #[.slice (some wa) s.length c] :: (Aw ++ (cb (w.heap.size + 1) 33 #[.int .i64 r.1, .int .i64 r.2] :: cb w.heap.size 80 #[.pointer (some ⟨K.1, 0, none⟩)] :: L))) ++ X))))) := H26.out
  refine ⟨by simp, .inl ⟨_, _, rfl, run_takeDeferred hD9, ?_⟩⟩
  refine ⟨.tuple #[.slice ad1 (1 + p.2.length) c1, .int .i64 0], by simp [results, Try.results66, go_sem], ad1, c1, A2, Rp, ?_, ?_, ?_⟩
  ·simp only [List.length_cons, Nat.add_comm]
  ·rw [Nat.add_comm 1] at hG2
   rw [HT.out.1] at hG2
   simp only [List.flatMap_cons, List.length_cons]
   exact hG2
  ·have h27 := h26.drop (L' := A2 ++ L) (List.Sublist.append_left (by
    refine List.Sublist.trans ?_ (List.sublist_cons_self _ _)
    refine List.Sublist.trans ?_ (List.sublist_append_right _ _)
    refine List.Sublist.trans ?_ (List.sublist_cons_self _ _)
    refine List.Sublist.trans ?_ (List.sublist_cons_self _ _)
    refine List.Sublist.trans ?_ (List.sublist_append_left _ _)
    refine List.Sublist.trans ?_ (List.sublist_cons_self _ _)
    refine List.Sublist.trans ?_ (List.sublist_cons_self _ _)
    refine List.Sublist.trans ?_ (List.sublist_append_right _ _)
    exact (List.sublist_cons_self _ _).trans (List.sublist_cons_self _ _)) A2)
   refine h27.abide (grownBy_putObj' _ D (.deferred none)) HW0.out (fun r e => by cases e; exact ⟨HX.out.1, _, hD9, rfl⟩) (fun x hx => .inr (HX.out.2.2.2.1 x hx)) (fun x hx => ?_)
   rcases List.mem_append.1 hx with hx | hx
   ·exact .inr (gr_cells HG2.out x hx)
   ·exact HBSo.out.1 x (by rw [HBSo.out.2]; simp [hx])
 refine wpIn_rangeFunc_ownH (α := Ix s.length) rfl (by omega) (gf := 147) (lb := #[.pointer (some ⟨gB, 0, none⟩)]) (by rw [haL]; rfl) trivial (enters_of Try.func147 (by kernel_rfl) rfl)
  (back_stopsI (w0 := w0) Fence.wide 4 trivial rfl (by omega) gB s hsl7 (LK := (cb gB 31 #[.slice (some wa) s.length c] :: Aw)) List.mem_cons_self hrowK hLK) (fun h k => LKp.trans h k) (fun W l o o' => LKp.turn hw0 (fun p hp => hLK.lt p hp) W l o o') (Below.refl _ _) (fun x => rfl)
  (fun pre W => Along s q (T0, []) pre ∧ WL.heap.size ≤ W.heap.size ∧ PInv w0 K (g16 + 1) BS (foldI s q (T0, []) pre) [] W)
  (fun cd pre W => cd = .exit 0 ∧ ∃ (pre' : List (Ix s.length)) (x : Ix s.length), pre = pre' ++ [x] ∧ Along s q (T0, []) pre' ∧ smallI s (foldI s q (T0, []) pre') x = true ∧ WL.heap.size ≤ W.heap.size ∧ PInv w0 K (g16 + 1) BS (foldI s q (T0, []) pre') [] W)
  (fun s1 W W' row ⟨h1, h2, h3⟩ hg hr => ⟨h1, Nat.le_trans h2 hg.size, h3.abide hg hw0 hr hBSo (fun x hx => by cases hx)⟩)
  (fun cd s1 W W' row ⟨h0, p, x, h1, h2, h4, h5, h6⟩ hg hr => ⟨h0, p, x, h1, h2, h4, Nat.le_trans h5 hg.size, h6.abide hg hw0 hr hBSo (fun x hx => by cases hx)⟩)
  ⟨trivial, Nat.le_refl _, hI0⟩
  (fun x a' W => ∃ (Bx : Nat) (p : Tm × List Trn), WL.heap.size ≤ Bx ∧ a' = { tmps := (((aL.tmps.setIfInBounds 68 (.int .i64 (x.1 : Int))).setIfInBounds 69 (.agg #[.int .i64 (atI s x).1, .int .i64 (atI s x).2])).setIfInBounds 18 (.int .i64 (x.1 : Int))).setIfInBounds 19 (.pointer (some ⟨Bx, 0, none⟩)), defers := [] } ∧ PInv w0 K (g16 + 1) BS p [cb Bx 33 #[.int .i64 (atI s x).1, .int .i64 (atI s x).2]] W)
  (fun x a' s1 W W' row ⟨Bx, p, h1, h2, h3⟩ hg hr => ⟨Bx, p, h1, h2, h3.abide hg hw0 hr hBSo (fun x hx => by rw [List.mem_singleton.1 hx]; exact .inr rfl)⟩)
  ?assign ?body ?done ?stop
 case assign =>
  rintro l' pre x W Kk ⟨h1, h2, h3⟩ hK
  rw [show ∀ T : Array Value, (#[68, 69].zip (ixE s x)).foldl (fun t (p, v) => t.setIfInBounds p v) T = (T.setIfInBounds 68 (.int .i64 (x.1 : Int))).setIfInBounds 69 (.agg #[.int .i64 (atI s x).1, .int .i64 (atI s x).2]) from fun T => by rw [← Array.foldl_toList, Array.toList_zip]; rfl]
  subst haL
  simp only [List.setIfInBounds_toArray, List.set_cons_zero, List.set_cons_succ]
  gi_wp2
  exact hK _ _ ((KeepsOthers.alloc _ _).from _) (fun hx => hx.skip _) ⟨h1, by simp; omega, (h3.alloc _).tail⟩ ⟨W.heap.size, _, h2, rfl, h3.alloc _⟩
 case body =>
  rintro l' pre x a' W hl' ⟨r0, hr0⟩ ⟨hal, hsz, hP⟩ ⟨Bx, p', hBx, rfl, hJ⟩ hlen
  have hpp := hP.det hJ
  subst hpp
  clear hP
  obtain ⟨p, hp⟩ : ∃ p, foldI s q (T0, []) pre = p := ⟨_, rfl⟩
  rw [hp] at hJ
  obtain ⟨xr, hxr⟩ : ∃ xr, atI s x = xr := ⟨_, rfl⟩
  rw [hxr] at hJ ⊢
  obtain ⟨Rp, Am, mad, mc, hRp, hG, hM⟩ := hJ
  have HM := As (show Mt w0 W K p.1 .nilFunc Rp (cb Bx 33 #[.int .i64 xr.1, .int .i64 xr.2] :: cb (g16 + 1) 99 #[.slice mad p.2.length mc] :: (Am ++ BS)) from hM)
  have hLo : ∀ z ∈ (cb Bx 33 #[.int .i64 xr.1, .int .i64 xr.2] :: cb (g16 + 1) 99 #[.slice mad p.2.length mc] :: (Am ++ BS)), z.1 < WL.heap.size ∨ z.2.isCells = true := fun z hz => by
   rcases List.mem_cons.1 hz with rfl | hz
   ·exact .inr rfl
   rcases List.mem_cons.1 hz with rfl | hz
   ·exact .inr rfl
   ·exact (List.mem_append.1 hz).elim (fun hz => .inr (gr_cells hG z hz)) (hBSo z)
  have HLo := As hLo
  have hbd : Bd p.1 (mb + 10 + pre.length) := by
   rw [← hp]
   refine Bd.fold (p := (T0, [])) ?_ (by omega)
   have h1 := put_bd (HBd.out.2.1.at q) key r
   rw [HN.out.1, HN.out.2.1] at h1
   rw [← HT0.out]
   exact ((HBd.out.2.1.mono (Nat.le_succ mb)).set q h1).mono (by omega)
  have hmm : mb + 10 + pre.length + 1 ≤ 1000000 := by have := HBd.out.2.2; have := HL.out.2.2.2.1; omega
  have HX := As (And.intro hal (And.intro hsz (And.intro hp (And.intro hRp (And.intro hG (And.intro hlen hxr))))))
  have HB0 := As (And.intro hbd hmm)
  obtain ⟨nx, hnx⟩ : ∃ nx, p.1.at xr = nx := ⟨_, rfl⟩
  have HNx := As hnx
  have HBS := As hBS
  have HLKs := As hLKs
  have HBSo := As hBSo
  obtain ⟨y0, yf⟩ := HM.out.other.c1 w.heap.size 80 (.pointer (some ⟨K.1, 0, none⟩)) (by simp [hBS])
  obtain ⟨b0, b1, -, -⟩ := HM.out.other.c2 Bx 33 (.int .i64 xr.1) (.int .i64 xr.2) (by simp)
  have hxi := x.2
  obtain ⟨xi, hxe⟩ : ∃ xi, x.1 = xi := ⟨_, rfl⟩
  rw [hxe] at hxi ⊢
  have HXI := As (And.intro hxi hxe)
  clear hal hsz hp hRp hG hlen hxr hM hLo hbd hmm hnx hBSl hBSo hLKs hLK hrowK hI0 hsl7 hl' hr0 hBS hxi hxe REST hKK
  subst haL
  simp only [List.setIfInBounds_toArray, List.set_cons_zero, List.set_cons_succ]
  by_cases hbig : nx.refs.length ≤ 4
  ·have hlt : (nx.refs.length : Int) ≤ 4 := by omega
   gi_wp2_with (first | (refine ⟨trivial, ?_⟩; gi_at_call 35; go_loud (refine (CallsIn.inRound l' (callsIn_wide.2 (size.calls (Hv.start w2) nx.leaf nx.ver kx rx nx.keys.length kxc nx.refs.length rxc))).mono ?_; rintro e3 w3 ⟨rfl, hh⟩; have HB3 := As (show Below W.heap.size W w3 ∧ W.heap.size < w3.heap.size from ⟨HB2.out.1.trans (hh.bel.mono HB2.out.1.size), Nat.lt_of_lt_of_le HB2.out.2 hh.bel.size⟩); have HM3 := As (HM.out.call HB3.out.1); clear hh; clear y0 yf b0 b1; obtain ⟨y0, yf⟩ := HM3.out.other.c1 w.heap.size 80 (.pointer (some ⟨K.1, 0, none⟩)) (by simp [HBS.out]); obtain ⟨b0, b1, -, -⟩ := HM3.out.other.c2 Bx 33 (.int .i64 xr.1) (.int .i64 xr.2) (by simp); obtain ⟨z0, zf⟩ := HM3.out.other.c1 g11 31 (.slice (some wa) s.length c) (by simp [HBS.out]))) | (refine ⟨trivial, ?_⟩; gi_at_call 111; go_loud (refine (CallsIn.inRound l' (callsIn_wide.2 (atB.calls HM.out xr))).mono ?_; rintro e2 w2 ⟨v, rfl, hnv, hb2, hl2⟩; rw [HNx.out] at hnv; obtain ⟨kx, kxc, rx, rxc, ev, hr⟩ := hnv; have ev' : v = .agg #[.bool nx.leaf, .int .i64 nx.ver, .slice kx nx.keys.length kxc, .slice rx nx.refs.length rxc] := ev; subst ev'; clear ev hr; have HB2 := As (And.intro hb2 hl2); clear hb2 hl2)))
   refine ⟨⟨HB3.out.1.size, fun k o _ hk _ => (HB3.out.1.block k (blk_lt hk)).trans hk⟩, rfl, pre, x, rfl, HX.out.1, ?_, Nat.le_trans HX.out.2.1 HB3.out.1.size, ?_⟩
   ·unfold smallI
    rw [HX.out.2.2.1, HX.out.2.2.2.2.2.2, HNx.out]
    exact decide_eq_true hbig
   ·rw [HX.out.2.2.1]
    exact ⟨Rp, Am, mad, mc, HX.out.2.2.2.1, HX.out.2.2.2.2.1, HM3.out.tail⟩
  ·have hlt : ¬ (nx.refs.length : Int) ≤ 4 := by omega
   have hal2 : Along s q (T0, []) (pre ++ [x]) := HX.out.1.snoc (by unfold smallI; rw [HX.out.2.2.1, HX.out.2.2.2.2.2.2, HNx.out]; exact decide_eq_false hbig)
   have HA2 := As hal2
   clear hal2 hbig
   have hf1 := fld1
   by_cases h0 : xi = 0
   ·have hgt : ¬ (0 : Int) < (xi : Int) := by omega
    by_cases he : xr = q
    ·obtain ⟨T2, q2, hsp⟩ : ∃ T2 q2, p.1.split xr none = (T2, q2) := ⟨_, _, rfl⟩
     have hup : upI s x = none := by unfold upI; rw [HXI.out.2]; rw [if_pos h0]
     have hst : foldI s q (T0, []) (pre ++ [x]) = (T2, p.2 ++ [⟨q2, q, 0, (T2.at q2).ver, true⟩]) := by rw [foldI_snoc, HX.out.2.2.1, stpI_leaf (by rw [HX.out.2.2.2.2.2.2]; exact he), HX.out.2.2.2.2.2.2, hup, hsp]
     have heq : ∀ w : World, (binOp .eql 33 (.agg #[.int .i64 xr.1, .int .i64 xr.2]) (.agg #[.int .i64 q.1, .int .i64 q.2])).run Try.prog w = .ok (.bool true) w := fun w => by rw [eql33, he]; simp
     have HST := As hst
     have HSp := As hsp
     clear hst hsp hup he h0
     gi_wp2_with (first | (first | (gi_at_call 120; go_loud (obtain ⟨X, hX, keep⟩ := HM.out.keepsX HB3.out.1 HB3.out.2 hw0 HX.out.2.1 (fun z hz => .inr (HX.out.2.2.2.1 z hz)) HLo.out; refine (CallsIn.inRound l' (callsIn_wide.2 (splitT.root hX xr (HB0.out.1.sm (by have := HB0.out.2; omega) xr)))).mono ?_; rw [HSp.out]; rintro e4 w4 ⟨rfl, A4, hh⟩; obtain ⟨R4, hR4, -, hh4⟩ := hh.pure; have H4 := As hh4; have HR4 := As hR4; have HK4 := As (keep w4 (fun z hz => hh4.other.box z (by simp [hz]))); have HK5 := As keep; clear hX keep hh hR4 hh4; clear y0 yf b0 b1 z0 zf; obtain ⟨b0, b1, -, -⟩ := H4.out.other.c2 Bx 33 (.int .i64 xr.1) (.int .i64 xr.2) (by simp); obtain ⟨x0, x1, -, -⟩ := H4.out.other.c2 g12 33 (.int .i64 q.1) (.int .i64 q.2) (by simp [HBS.out]); obtain ⟨c0, c1, -, -⟩ := (H4.out.alloc (.cells #[.int .i64 q2.1, .int .i64 q2.2] 33)).other.c2 Bx 33 (.int .i64 xr.1) (.int .i64 xr.2) (by simp); obtain ⟨d0, d1, -, -⟩ := (H4.out.alloc (.cells #[.int .i64 q2.1, .int .i64 q2.2] 33)).other.c2 g12 33 (.int .i64 q.1) (.int .i64 q.2) (by simp [HBS.out]); have hc0 := c0.trans b0.symm; have hc1 := c1.trans b1.symm; have hd0 := d0.trans x0.symm; have hd1 := d1.trans x1.symm; clear c0 c1 d0 d1)) | (refine ⟨trivial, ?_⟩; (gi_at_call 120; go_loud (obtain ⟨X, hX, keep⟩ := HM.out.keepsX HB3.out.1 HB3.out.2 hw0 HX.out.2.1 (fun z hz => .inr (HX.out.2.2.2.1 z hz)) HLo.out; refine (CallsIn.inRound l' (callsIn_wide.2 (splitT.root hX xr (HB0.out.1.sm (by have := HB0.out.2; omega) xr)))).mono ?_; rw [HSp.out]; rintro e4 w4 ⟨rfl, A4, hh⟩; obtain ⟨R4, hR4, -, hh4⟩ := hh.pure; have H4 := As hh4; have HR4 := As hR4; have HK4 := As (keep w4 (fun z hz => hh4.other.box z (by simp [hz]))); have HK5 := As keep; clear hX keep hh hR4 hh4; clear y0 yf b0 b1 z0 zf; obtain ⟨b0, b1, -, -⟩ := H4.out.other.c2 Bx 33 (.int .i64 xr.1) (.int .i64 xr.2) (by simp); obtain ⟨x0, x1, -, -⟩ := H4.out.other.c2 g12 33 (.int .i64 q.1) (.int .i64 q.2) (by simp [HBS.out]); obtain ⟨c0, c1, -, -⟩ := (H4.out.alloc (.cells #[.int .i64 q2.1, .int .i64 q2.2] 33)).other.c2 Bx 33 (.int .i64 xr.1) (.int .i64 xr.2) (by simp); obtain ⟨d0, d1, -, -⟩ := (H4.out.alloc (.cells #[.int .i64 q2.1, .int .i64 q2.2] 33)).other.c2 g12 33 (.int .i64 q.1) (.int .i64 q.2) (by simp [HBS.out]); have hc0 := c0.trans b0.symm; have hc1 := c1.trans b1.symm; have hd0 := d0.trans x0.symm; have hd1 := d1.trans x1.symm; clear c0 c1 d0 d1)))) | (refine ⟨trivial, ?_⟩; gi_at_call 35; go_loud (refine (CallsIn.inRound l' (callsIn_wide.2 (size.calls (Hv.start w2) nx.leaf nx.ver kx rx nx.keys.length kxc nx.refs.length rxc))).mono ?_; rintro e3 w3 ⟨rfl, hh⟩; have HB3 := As (show Below W.heap.size W w3 ∧ W.heap.size < w3.heap.size from ⟨HB2.out.1.trans (hh.bel.mono HB2.out.1.size), Nat.lt_of_lt_of_le HB2.out.2 hh.bel.size⟩); have HM3 := As (HM.out.call HB3.out.1); clear hh; clear y0 yf b0 b1; obtain ⟨y0, yf⟩ := HM3.out.other.c1 w.heap.size 80 (.pointer (some ⟨K.1, 0, none⟩)) (by simp [HBS.out]); obtain ⟨b0, b1, -, -⟩ := HM3.out.other.c2 Bx 33 (.int .i64 xr.1) (.int .i64 xr.2) (by simp); obtain ⟨z0, zf⟩ := HM3.out.other.c1 g11 31 (.slice (some wa) s.length c) (by simp [HBS.out]))) | (refine ⟨trivial, ?_⟩; gi_at_call 111; go_loud (refine (CallsIn.inRound l' (callsIn_wide.2 (atB.calls HM.out xr))).mono ?_; rintro e2 w2 ⟨v, rfl, hnv, hb2, hl2⟩; rw [HNx.out] at hnv; obtain ⟨kx, kxc, rx, rxc, ev, hr⟩ := hnv; have ev' : v = .agg #[.bool nx.leaf, .int .i64 nx.ver, .slice kx nx.keys.length kxc, .slice rx nx.refs.length rxc] := ev; subst ev'; clear ev hr; have HB2 := As (And.intro hb2 hl2); clear hb2 hl2)))
     obtain ⟨W5, hW, hM⟩ : ∃ W, W = w4.alloc (.cells #[.int .i64 q2.1, .int .i64 q2.2] 33) ∧ Mt w0 W K T2 .nilFunc R4 (cb w4.heap.size 33 #[.int .i64 q2.1, .int .i64 q2.2] :: cb Bx 33 #[.int .i64 xr.1, .int .i64 xr.2] :: cb (g16 + 1) 99 #[.slice mad p.2.length mc] :: (Am ++ (BS ++ X))) := ⟨_, rfl, by
      have := H4.out.alloc (.cells #[.int .i64 q2.1, .int .i64 q2.2] 33)
      simpa [cb, List.append_assoc] using this⟩
     rw [← hW]
     have H5 := As hM
     clear hW hM b0 b1 x0 x1 hc0 hc1 hd0 hd1
     generalize w4.heap.size = g21 at H5 ⊢
     obtain ⟨nz, hnz⟩ : ∃ nz, T2.at q2 = nz := ⟨_, rfl⟩
     rw [hnz] at HST
     have HNz := As hnz
     clear hnz
     have SP := As (show ∀ (w' : World) (L' : List Ob), Hv w0 w' L' → cb (g16 + 1) 99 #[.slice mad p.2.length mc] ∈ L' → cb g21 33 #[.int .i64 q2.1, .int .i64 q2.2] ∈ L' → (∀ z ∈ BS, z ∈ L') → (w'.cell? ⟨g16 + 1, 0, none⟩ = some (.slice mad p.2.length mc) ∧ w'.cell? ⟨g21, 0, none⟩ = some (.int .i64 q2.1) ∧ w'.cell? ⟨g21, 1, none⟩ = some (.int .i64 q2.2) ∧ w'.cell? ⟨g12, 0, none⟩ = some (.int .i64 q.1) ∧ w'.cell? ⟨g12, 1, none⟩ = some (.int .i64 q.2) ∧ w'.cell? ⟨w.heap.size, 0, none⟩ = some (.pointer (some ⟨K.1, 0, none⟩))) from fun w' L' h m1 m2 m3 => by
      obtain ⟨p0, -⟩ := h.c1 _ _ _ m1
      obtain ⟨p1, p2, -, -⟩ := h.c2 _ _ _ _ m2
      obtain ⟨p3, p4, -, -⟩ := h.c2 g12 33 (.int .i64 q.1) (.int .i64 q.2) (m3 _ (by simp [HBS.out]))
      obtain ⟨p5, -⟩ := h.c1 w.heap.size 80 (.pointer (some ⟨K.1, 0, none⟩)) (m3 _ (by simp [HBS.out]))
      exact ⟨p0, p1, p2, p3, p4, p5⟩)
     have HDr := As H5.out.drew
     have HBB := As (show (p.2.length + 1) * 56 ≤ 140737488355328 by
      have h1 := fold_len (s := s) (leaf := q) (xs := pre) (p := (T0, []))
      rw [HX.out.2.2.1] at h1
      simp only [List.length_nil] at h1
      have := HX.out.2.2.2.2.2.1; have := HL.out.1; have := HL.out.2.2.2.1
      omega)
     refine startIn_ (m := 11) (S := fun w' => w'.cell? ⟨g16 + 1, 0, none⟩ = some (.slice mad p.2.length mc) ∧ w'.cell? ⟨g21, 0, none⟩ = some (.int .i64 q2.1) ∧ w'.cell? ⟨g21, 1, none⟩ = some (.int .i64 q2.2) ∧ w'.cell? ⟨g12, 0, none⟩ = some (.int .i64 q.1) ∧ w'.cell? ⟨g12, 1, none⟩ = some (.int .i64 q.2) ∧ w'.cell? ⟨w.heap.size, 0, none⟩ = some (.pointer (some ⟨K.1, 0, none⟩))) (ds := [10]) #[false, false, false, false, false, false, false, false, false, false, false] (fun ⟨_, _, q⟩ => q) (by rfl) (by kernel_rfl) rfl rfl (SP.out _ _ HDr.out.other (by simp) (by simp) (fun z hz => by simp [hz])) (fun hHeld => ?_)
     generalize W5.drew = wd5 at HDr hHeld ⊢
     refine ta_ 0 (some 88) hHeld ?_ (hy := Or.inl ⟨by rfl, by rintro w' ⟨s0, s1, s2, s3, s4, s5⟩; go_simp; with_reducible rfl⟩)
     refine ta_ 1 (some 89) hHeld ?_ (hy := Or.inl ⟨by rfl, by rintro w' ⟨s0, s1, s2, s3, s4, s5⟩; go_simp; with_reducible rfl⟩)
     refine ta_ 2 (some 90) hHeld ?_ (hy := Or.inl ⟨by rfl, by rintro w' ⟨s0, s1, s2, s3, s4, s5⟩; go_simp; with_reducible rfl⟩)
     refine ta_ 3 (some 91) hHeld ?_ (hy := Or.inl ⟨by rfl, by rintro w' ⟨s0, s1, s2, s3, s4, s5⟩; go_simp; with_reducible rfl⟩)
     refine ta_ 4 (some 92) hHeld ?_ (hy := Or.inl ⟨by rfl, by rintro w' ⟨s0, s1, s2, s3, s4, s5⟩; go_simp; with_reducible rfl⟩)
     refine on_ 5 (some 93) fun K_ hK => ?_
     refine gs_ Try.func111 #[.pointer (some ⟨K.1, 0, none⟩), .agg #[.int .i64 q2.1, .int .i64 q2.2]] ?_
     refine (at.calls HDr.out q2).mono ?_
     rintro e6 w6 ⟨v, rfl, hnv, hh⟩
     refine ⟨_, rfl, ?_⟩
     rw [HNz.out] at hnv
     obtain ⟨kz, kzc, rz, rzc, ev, hr⟩ := hnv
     have ev' : v = .agg #[.bool nz.leaf, .int .i64 nz.ver, .slice kz nz.keys.length kzc, .slice rz nz.refs.length rzc] := ev
     subst ev'
     clear ev hr
     have H6 := As hh
     clear hh
     refine hK.out _ _ (SP.out _ _ H6.out.other (by simp) (by simp) (fun z hz => by simp [hz])) (fun hHeld => ?_)
     clear hK K_
     refine nm_ ?_
     refine pu_ 6 (some 94) ?_
     refine pu_ 7 (some 95) ?_
     refine on_ 8 (some 96) fun K_ hK => ?_
     refine value_ (v := .slice (some ⟨w6.heap.size, 0, none⟩) 1 1) (w1 := w6.alloc (.cells #[.int .i64 q2.1, .int .i64 q2.2, .int .i64 q.1, .int .i64 q.2, .int .i64 0, .int .i64 nz.ver, .bool true] 173)) (by rfl) rfl ?_ ?_
     ·go_simp
     obtain ⟨w7, hW, hvv⟩ : ∃ W, W = w6.alloc (.cells #[.int .i64 q2.1, .int .i64 q2.2, .int .i64 q.1, .int .i64 q.2, .int .i64 0, .int .i64 nz.ver, .bool true] 173) ∧ Mt w0 W K T2 .nilFunc R4 (cb w6.heap.size 173 #[.int .i64 q2.1, .int .i64 q2.2, .int .i64 q.1, .int .i64 q.2, .int .i64 0, .int .i64 nz.ver, .bool true] :: cb g21 33 #[.int .i64 q2.1, .int .i64 q2.2] :: cb Bx 33 #[.int .i64 xr.1, .int .i64 xr.2] :: cb (g16 + 1) 99 #[.slice mad p.2.length mc] :: (Am ++ (BS ++ X))) := ⟨_, rfl, H6.out.alloc _⟩
     rw [← hW]
     have H7 := As hvv
     clear hW hvv
     refine hK.out _ _ (SP.out _ _ H7.out.other (by simp) (by simp) (fun z hz => by simp [hz])) (fun hHeld => ?_)
     clear hK K_
     refine nm_ ?_
     refine on_ 9 (some 97) fun K_ hK => ?_
     obtain ⟨Qx, hq, back⟩ := Mt.lensX (B := [cb w6.heap.size 173 #[.int .i64 q2.1, .int .i64 q2.2, .int .i64 q.1, .int .i64 q.2, .int .i64 0, .int .i64 nz.ver, .bool true], cb g21 33 #[.int .i64 q2.1, .int .i64 q2.2], cb Bx 33 #[.int .i64 xr.1, .int .i64 xr.2], cb (g16 + 1) 99 #[.slice mad p.2.length mc]]) (X := Am) (L := BS ++ X) H7.out
     have HQx := As back
     refine append_rows_step (w0 := w0) (A := Am) (L := Qx) (by rfl) (.tmp 88) (.tmp 96) 99 173 (.agg #[.int .i64 0, .int .i64 0, .int .i64 0, .int .i64 0, .int .i64 0, .int .i64 0, .bool false]) 7 56 rfl Try.underlying99 infoT rfl (by decide) (by decide) (.slice mad p.2.length mc) p.2.length (p.2.flatMap tcel) (by first | rfl | (go_simp; done) | (go_simp; rfl)) (some ⟨w6.heap.size, 0, none⟩) 1 1 (tcel (⟨q2, q, 0, nz.ver, true⟩ : Trn)) (by first | rfl | (go_simp; done) | (go_simp; rfl)) (by have := tcel_one [(⟨q2, q, 0, nz.ver, true⟩ : Trn)]; simpa using this) HX.out.2.2.2.2.1 hq ((Rdy.of_rw (w0 := w0) (size := 7) (n := 1) (e := 173) (c := 1) (xs := tcel (⟨q2, q, 0, nz.ver, true⟩ : Trn)) (L := [cb w6.heap.size 173 #[.int .i64 q2.1, .int .i64 q2.2, .int .i64 q.1, .int .i64 q.2, .int .i64 0, .int .i64 nz.ver, .bool true]]) ⟨rfl, Nat.le_refl _, fun _ => ⟨w6.heap.size, 0, #[.int .i64 q2.1, .int .i64 q2.2, .int .i64 q.1, .int .i64 q.2, .int .i64 0, .int .i64 nz.ver, .bool true], rfl, by simp, fun i _ => by rw [Nat.zero_add]; simp [tcel]⟩⟩) _ _ H7.out.other (fun z hz => by rw [List.mem_singleton.1 hz]; simp)) HBB.out ?_
     intro v8 w8 A8 hG8 hv8
     obtain ⟨ad8, c8, rfl, -⟩ := hG8.form
     have HG8 := As hG8
     have H8 := As (show Mt w0 w8 K T2 .nilFunc R4 ([cb w6.heap.size 173 #[.int .i64 q2.1, .int .i64 q2.2, .int .i64 q.1, .int .i64 q.2, .int .i64 0, .int .i64 nz.ver, .bool true], cb g21 33 #[.int .i64 q2.1, .int .i64 q2.2], cb Bx 33 #[.int .i64 xr.1, .int .i64 xr.2]] ++ (cb (g16 + 1) 99 #[.slice mad p.2.length mc] :: (A8 ++ (BS ++ X)))) from HQx.out w8 A8 hv8)
     clear hG8 hv8 hq back
     refine hK.out _ _ (SP.out _ _ H8.out.other (by simp) (by simp) (fun z hz => by simp [hz])) (fun hHeld => ?_)
     clear hK K_
     refine nm_ ?_
     refine la_ 10 none fun K_ hK => ?_
     obtain ⟨c3, cf3⟩ := H8.out.other.c1 (g16 + 1) 99 (.slice mad p.2.length mc) (by simp)
     refine sk_ (hK.out _ _ ?_)
     clear hK K_ c3 cf3
     refine done_ (by kernel_rfl) ?_
     have h9 := Mt.put H8.out 0 (.slice ad8 (p.2.length + 1) c8) rfl
     have hkp := (⟨HB3.out.1.size, fun k o _ hk _ => (HB3.out.1.block k (blk_lt hk)).trans hk⟩ : KeepsFrom WL.heap.size W w3).trans (HK5.out _ (fun z hz => h9.other.box z (by simp [hz])))
     refine ⟨hkp, fun _ => h9.other.drop ?_, HA2.out, Nat.le_trans HX.out.2.1 hkp.1, ?_⟩
     ·exact (HLKs.out.trans (List.sublist_append_left BS X)).trans ((List.sublist_append_right A8 _).trans ((List.sublist_cons_self _ _).trans (List.sublist_append_right _ _)))
     ·rw [HST.out]
      refine ⟨R4, A8, ad8, c8, HR4.out, ?_, ?_⟩
      ·simp only [List.length_append, List.length_singleton, List.flatMap_append, List.flatMap_singleton]
       exact HG8.out
      ·simp only [List.length_append, List.length_singleton]
       exact h9.drop ((List.Sublist.cons_cons _ (List.Sublist.append_left (List.sublist_append_left BS X) A8)).trans (List.sublist_append_right _ _))
    ·obtain ⟨T2, q2, hsp⟩ : ∃ T2 q2, p.1.split xr none = (T2, q2) := ⟨_, _, rfl⟩
     have hup : upI s x = none := by unfold upI; rw [HXI.out.2]; rw [if_pos h0]
     have hst : foldI s q (T0, []) (pre ++ [x]) = (T2, p.2) := by rw [foldI_snoc, HX.out.2.2.1, stpI_else (by rw [HX.out.2.2.2.2.2.2]; exact he), HX.out.2.2.2.2.2.2, hup, hsp]
     have heq : ∀ w : World, (binOp .eql 33 (.agg #[.int .i64 xr.1, .int .i64 xr.2]) (.agg #[.int .i64 q.1, .int .i64 q.2])).run Try.prog w = .ok (.bool false) w := fun w => by
      rw [eql33]
      have : (xr.1 == q.1 && (xr.2 == q.2)) = false := by
       rw [Bool.eq_false_iff]
       intro h
       simp only [Bool.and_eq_true, beq_iff_eq] at h
       exact he (Prod.ext h.1 h.2)
      rw [this]
     have HST := As hst
     have HSp := As hsp
     clear hst hsp hup he h0
     gi_wp2_with (first | (first | (gi_at_call 120; go_loud (obtain ⟨X, hX, keep⟩ := HM.out.keepsX HB3.out.1 HB3.out.2 hw0 HX.out.2.1 (fun z hz => .inr (HX.out.2.2.2.1 z hz)) HLo.out; refine (CallsIn.inRound l' (callsIn_wide.2 (splitT.root hX xr (HB0.out.1.sm (by have := HB0.out.2; omega) xr)))).mono ?_; rw [HSp.out]; rintro e4 w4 ⟨rfl, A4, hh⟩; obtain ⟨R4, hR4, -, hh4⟩ := hh.pure; have H4 := As hh4; have HR4 := As hR4; have HK4 := As (keep w4 (fun z hz => hh4.other.box z (by simp [hz]))); have HK5 := As keep; clear hX keep hh hR4 hh4; clear y0 yf b0 b1 z0 zf; obtain ⟨b0, b1, -, -⟩ := H4.out.other.c2 Bx 33 (.int .i64 xr.1) (.int .i64 xr.2) (by simp); obtain ⟨x0, x1, -, -⟩ := H4.out.other.c2 g12 33 (.int .i64 q.1) (.int .i64 q.2) (by simp [HBS.out]); obtain ⟨c0, c1, -, -⟩ := (H4.out.alloc (.cells #[.int .i64 q2.1, .int .i64 q2.2] 33)).other.c2 Bx 33 (.int .i64 xr.1) (.int .i64 xr.2) (by simp); obtain ⟨d0, d1, -, -⟩ := (H4.out.alloc (.cells #[.int .i64 q2.1, .int .i64 q2.2] 33)).other.c2 g12 33 (.int .i64 q.1) (.int .i64 q.2) (by simp [HBS.out]); have hc0 := c0.trans b0.symm; have hc1 := c1.trans b1.symm; have hd0 := d0.trans x0.symm; have hd1 := d1.trans x1.symm; clear c0 c1 d0 d1)) | (refine ⟨trivial, ?_⟩; (gi_at_call 120; go_loud (obtain ⟨X, hX, keep⟩ := HM.out.keepsX HB3.out.1 HB3.out.2 hw0 HX.out.2.1 (fun z hz => .inr (HX.out.2.2.2.1 z hz)) HLo.out; refine (CallsIn.inRound l' (callsIn_wide.2 (splitT.root hX xr (HB0.out.1.sm (by have := HB0.out.2; omega) xr)))).mono ?_; rw [HSp.out]; rintro e4 w4 ⟨rfl, A4, hh⟩; obtain ⟨R4, hR4, -, hh4⟩ := hh.pure; have H4 := As hh4; have HR4 := As hR4; have HK4 := As (keep w4 (fun z hz => hh4.other.box z (by simp [hz]))); have HK5 := As keep; clear hX keep hh hR4 hh4; clear y0 yf b0 b1 z0 zf; obtain ⟨b0, b1, -, -⟩ := H4.out.other.c2 Bx 33 (.int .i64 xr.1) (.int .i64 xr.2) (by simp); obtain ⟨x0, x1, -, -⟩ := H4.out.other.c2 g12 33 (.int .i64 q.1) (.int .i64 q.2) (by simp [HBS.out]); obtain ⟨c0, c1, -, -⟩ := (H4.out.alloc (.cells #[.int .i64 q2.1, .int .i64 q2.2] 33)).other.c2 Bx 33 (.int .i64 xr.1) (.int .i64 xr.2) (by simp); obtain ⟨d0, d1, -, -⟩ := (H4.out.alloc (.cells #[.int .i64 q2.1, .int .i64 q2.2] 33)).other.c2 g12 33 (.int .i64 q.1) (.int .i64 q.2) (by simp [HBS.out]); have hc0 := c0.trans b0.symm; have hc1 := c1.trans b1.symm; have hd0 := d0.trans x0.symm; have hd1 := d1.trans x1.symm; clear c0 c1 d0 d1)))) | (refine ⟨trivial, ?_⟩; gi_at_call 35; go_loud (refine (CallsIn.inRound l' (callsIn_wide.2 (size.calls (Hv.start w2) nx.leaf nx.ver kx rx nx.keys.length kxc nx.refs.length rxc))).mono ?_; rintro e3 w3 ⟨rfl, hh⟩; have HB3 := As (show Below W.heap.size W w3 ∧ W.heap.size < w3.heap.size from ⟨HB2.out.1.trans (hh.bel.mono HB2.out.1.size), Nat.lt_of_lt_of_le HB2.out.2 hh.bel.size⟩); have HM3 := As (HM.out.call HB3.out.1); clear hh; clear y0 yf b0 b1; obtain ⟨y0, yf⟩ := HM3.out.other.c1 w.heap.size 80 (.pointer (some ⟨K.1, 0, none⟩)) (by simp [HBS.out]); obtain ⟨b0, b1, -, -⟩ := HM3.out.other.c2 Bx 33 (.int .i64 xr.1) (.int .i64 xr.2) (by simp); obtain ⟨z0, zf⟩ := HM3.out.other.c1 g11 31 (.slice (some wa) s.length c) (by simp [HBS.out]))) | (refine ⟨trivial, ?_⟩; gi_at_call 111; go_loud (refine (CallsIn.inRound l' (callsIn_wide.2 (atB.calls HM.out xr))).mono ?_; rintro e2 w2 ⟨v, rfl, hnv, hb2, hl2⟩; rw [HNx.out] at hnv; obtain ⟨kx, kxc, rx, rxc, ev, hr⟩ := hnv; have ev' : v = .agg #[.bool nx.leaf, .int .i64 nx.ver, .slice kx nx.keys.length kxc, .slice rx nx.refs.length rxc] := ev; subst ev'; clear ev hr; have HB2 := As (And.intro hb2 hl2); clear hb2 hl2)))
     refine ⟨((⟨HB3.out.1.size, fun k o _ hk _ => (HB3.out.1.block k (blk_lt hk)).trans hk⟩ : KeepsFrom WL.heap.size W w3).trans HK4.out).trans ((KeepsOthers.alloc _ _).from _), fun _ => (H4.out.alloc _).other.drop ?_, HA2.out, ?_, ?_⟩
     ·exact (HLKs.out.trans (((List.sublist_append_right _ _).trans ((List.sublist_cons_self _ _).trans (List.sublist_cons_self _ _))).trans (List.sublist_append_left _ X))).trans (List.sublist_cons_self _ _)
     ·have := HX.out.2.1; have := HB3.out.1.size; have := HK4.out.1; simp; omega
     ·rw [HST.out]
      exact ⟨R4, Am, mad, mc, HR4.out, HX.out.2.2.2.2.1, ((H4.out.alloc _).tail.drop (List.sublist_append_left _ _)).tail⟩
   ·have hgt : (0 : Int) < (xi : Int) := by omega
    obtain ⟨j, hj⟩ : ∃ j, xi - 1 = j := ⟨_, rfl⟩
    have hjl : j < s.length := by have := HXI.out.1; omega
    have ewj : wrap64 ((xi : Int) - 1) = (j : Int) := by have := HXI.out.1; have := HL.out.1; have := HL.out.2.2.2.1; unfold wrap64; omega
    have hjlt : (j : Int) < (s.length : Int) := by omega
    have HJ := As (And.intro hjl hj)
    clear hjl hj
    by_cases he : xr = q
    ·obtain ⟨T2, q2, hsp⟩ : ∃ T2 q2, p.1.split xr (some (s.getD j (0, 0))) = (T2, q2) := ⟨_, _, rfl⟩
     have hup : upI s x = (some (s.getD j (0, 0))) := by unfold upI; rw [HXI.out.2]; rw [if_neg h0, show xi - 1 = j from HJ.out.2]
     have hst : foldI s q (T0, []) (pre ++ [x]) = (T2, p.2 ++ [⟨q2, q, 0, (T2.at q2).ver, true⟩]) := by rw [foldI_snoc, HX.out.2.2.1, stpI_leaf (by rw [HX.out.2.2.2.2.2.2]; exact he), HX.out.2.2.2.2.2.2, hup, hsp]
     have heq : ∀ w : World, (binOp .eql 33 (.agg #[.int .i64 xr.1, .int .i64 xr.2]) (.agg #[.int .i64 q.1, .int .i64 q.2])).run Try.prog w = .ok (.bool true) w := fun w => by rw [eql33, he]; simp
     have HST := As hst
     have HSp := As hsp
     clear hst hsp hup he h0
     gi_wp2_with (first | (first | (gi_at_call 120; go_loud (obtain ⟨X, hX, keep⟩ := HM.out.keepsX HB3.out.1 HB3.out.2 hw0 HX.out.2.1 (fun z hz => .inr (HX.out.2.2.2.1 z hz)) HLo.out; refine (CallsIn.inRound l' (callsIn_wide.2 (splitT.under hX xr (HB0.out.1.sm (by have := HB0.out.2; omega) xr) (ua := wa.add (j * 2)) (u := s.getD j (0, 0)) ((Tr.Rdy.elem HRw.out HJ.out.1).mono (fun z hz => by rw [HBS.out]; simp [hz])) (fun t2 ht2 => by rw [ht2]; exact (Bd.two HB0.out.1 xr).sm (by have := HB0.out.2; omega) _)))).mono ?_; rw [HSp.out]; rintro e4 w4 ⟨rfl, A4, hh⟩; obtain ⟨R4, hR4, -, hh4⟩ := hh.pure; have H4 := As hh4; have HR4 := As hR4; have HK4 := As (keep w4 (fun z hz => hh4.other.box z (by simp [hz]))); have HK5 := As keep; clear hX keep hh hR4 hh4; clear y0 yf b0 b1 z0 zf; obtain ⟨b0, b1, -, -⟩ := H4.out.other.c2 Bx 33 (.int .i64 xr.1) (.int .i64 xr.2) (by simp); obtain ⟨x0, x1, -, -⟩ := H4.out.other.c2 g12 33 (.int .i64 q.1) (.int .i64 q.2) (by simp [HBS.out]); obtain ⟨c0, c1, -, -⟩ := (H4.out.alloc (.cells #[.int .i64 q2.1, .int .i64 q2.2] 33)).other.c2 Bx 33 (.int .i64 xr.1) (.int .i64 xr.2) (by simp); obtain ⟨d0, d1, -, -⟩ := (H4.out.alloc (.cells #[.int .i64 q2.1, .int .i64 q2.2] 33)).other.c2 g12 33 (.int .i64 q.1) (.int .i64 q.2) (by simp [HBS.out]); have hc0 := c0.trans b0.symm; have hc1 := c1.trans b1.symm; have hd0 := d0.trans x0.symm; have hd1 := d1.trans x1.symm; clear c0 c1 d0 d1)) | (refine ⟨trivial, ?_⟩; (gi_at_call 120; go_loud (obtain ⟨X, hX, keep⟩ := HM.out.keepsX HB3.out.1 HB3.out.2 hw0 HX.out.2.1 (fun z hz => .inr (HX.out.2.2.2.1 z hz)) HLo.out; refine (CallsIn.inRound l' (callsIn_wide.2 (splitT.under hX xr (HB0.out.1.sm (by have := HB0.out.2; omega) xr) (ua := wa.add (j * 2)) (u := s.getD j (0, 0)) ((Tr.Rdy.elem HRw.out HJ.out.1).mono (fun z hz => by rw [HBS.out]; simp [hz])) (fun t2 ht2 => by rw [ht2]; exact (Bd.two HB0.out.1 xr).sm (by have := HB0.out.2; omega) _)))).mono ?_; rw [HSp.out]; rintro e4 w4 ⟨rfl, A4, hh⟩; obtain ⟨R4, hR4, -, hh4⟩ := hh.pure; have H4 := As hh4; have HR4 := As hR4; have HK4 := As (keep w4 (fun z hz => hh4.other.box z (by simp [hz]))); have HK5 := As keep; clear hX keep hh hR4 hh4; clear y0 yf b0 b1 z0 zf; obtain ⟨b0, b1, -, -⟩ := H4.out.other.c2 Bx 33 (.int .i64 xr.1) (.int .i64 xr.2) (by simp); obtain ⟨x0, x1, -, -⟩ := H4.out.other.c2 g12 33 (.int .i64 q.1) (.int .i64 q.2) (by simp [HBS.out]); obtain ⟨c0, c1, -, -⟩ := (H4.out.alloc (.cells #[.int .i64 q2.1, .int .i64 q2.2] 33)).other.c2 Bx 33 (.int .i64 xr.1) (.int .i64 xr.2) (by simp); obtain ⟨d0, d1, -, -⟩ := (H4.out.alloc (.cells #[.int .i64 q2.1, .int .i64 q2.2] 33)).other.c2 g12 33 (.int .i64 q.1) (.int .i64 q.2) (by simp [HBS.out]); have hc0 := c0.trans b0.symm; have hc1 := c1.trans b1.symm; have hd0 := d0.trans x0.symm; have hd1 := d1.trans x1.symm; clear c0 c1 d0 d1)))) | (refine ⟨trivial, ?_⟩; gi_at_call 35; go_loud (refine (CallsIn.inRound l' (callsIn_wide.2 (size.calls (Hv.start w2) nx.leaf nx.ver kx rx nx.keys.length kxc nx.refs.length rxc))).mono ?_; rintro e3 w3 ⟨rfl, hh⟩; have HB3 := As (show Below W.heap.size W w3 ∧ W.heap.size < w3.heap.size from ⟨HB2.out.1.trans (hh.bel.mono HB2.out.1.size), Nat.lt_of_lt_of_le HB2.out.2 hh.bel.size⟩); have HM3 := As (HM.out.call HB3.out.1); clear hh; clear y0 yf b0 b1; obtain ⟨y0, yf⟩ := HM3.out.other.c1 w.heap.size 80 (.pointer (some ⟨K.1, 0, none⟩)) (by simp [HBS.out]); obtain ⟨b0, b1, -, -⟩ := HM3.out.other.c2 Bx 33 (.int .i64 xr.1) (.int .i64 xr.2) (by simp); obtain ⟨z0, zf⟩ := HM3.out.other.c1 g11 31 (.slice (some wa) s.length c) (by simp [HBS.out]))) | (refine ⟨trivial, ?_⟩; gi_at_call 111; go_loud (refine (CallsIn.inRound l' (callsIn_wide.2 (atB.calls HM.out xr))).mono ?_; rintro e2 w2 ⟨v, rfl, hnv, hb2, hl2⟩; rw [HNx.out] at hnv; obtain ⟨kx, kxc, rx, rxc, ev, hr⟩ := hnv; have ev' : v = .agg #[.bool nx.leaf, .int .i64 nx.ver, .slice kx nx.keys.length kxc, .slice rx nx.refs.length rxc] := ev; subst ev'; clear ev hr; have HB2 := As (And.intro hb2 hl2); clear hb2 hl2)))
     obtain ⟨W5, hW, hM⟩ : ∃ W, W = w4.alloc (.cells #[.int .i64 q2.1, .int .i64 q2.2] 33) ∧ Mt w0 W K T2 .nilFunc R4 (cb w4.heap.size 33 #[.int .i64 q2.1, .int .i64 q2.2] :: cb Bx 33 #[.int .i64 xr.1, .int .i64 xr.2] :: cb (g16 + 1) 99 #[.slice mad p.2.length mc] :: (Am ++ (BS ++ X))) := ⟨_, rfl, by
      have := H4.out.alloc (.cells #[.int .i64 q2.1, .int .i64 q2.2] 33)
      simpa [cb, List.append_assoc] using this⟩
     rw [← hW]
     have H5 := As hM
     clear hW hM b0 b1 x0 x1 hc0 hc1 hd0 hd1
     generalize w4.heap.size = g21 at H5 ⊢
     obtain ⟨nz, hnz⟩ : ∃ nz, T2.at q2 = nz := ⟨_, rfl⟩
     rw [hnz] at HST
     have HNz := As hnz
     clear hnz
     have SP := As (show ∀ (w' : World) (L' : List Ob), Hv w0 w' L' → cb (g16 + 1) 99 #[.slice mad p.2.length mc] ∈ L' → cb g21 33 #[.int .i64 q2.1, .int .i64 q2.2] ∈ L' → (∀ z ∈ BS, z ∈ L') → (w'.cell? ⟨g16 + 1, 0, none⟩ = some (.slice mad p.2.length mc) ∧ w'.cell? ⟨g21, 0, none⟩ = some (.int .i64 q2.1) ∧ w'.cell? ⟨g21, 1, none⟩ = some (.int .i64 q2.2) ∧ w'.cell? ⟨g12, 0, none⟩ = some (.int .i64 q.1) ∧ w'.cell? ⟨g12, 1, none⟩ = some (.int .i64 q.2) ∧ w'.cell? ⟨w.heap.size, 0, none⟩ = some (.pointer (some ⟨K.1, 0, none⟩))) from fun w' L' h m1 m2 m3 => by
      obtain ⟨p0, -⟩ := h.c1 _ _ _ m1
      obtain ⟨p1, p2, -, -⟩ := h.c2 _ _ _ _ m2
      obtain ⟨p3, p4, -, -⟩ := h.c2 g12 33 (.int .i64 q.1) (.int .i64 q.2) (m3 _ (by simp [HBS.out]))
      obtain ⟨p5, -⟩ := h.c1 w.heap.size 80 (.pointer (some ⟨K.1, 0, none⟩)) (m3 _ (by simp [HBS.out]))
      exact ⟨p0, p1, p2, p3, p4, p5⟩)
     have HDr := As H5.out.drew
     have HBB := As (show (p.2.length + 1) * 56 ≤ 140737488355328 by
      have h1 := fold_len (s := s) (leaf := q) (xs := pre) (p := (T0, []))
      rw [HX.out.2.2.1] at h1
      simp only [List.length_nil] at h1
      have := HX.out.2.2.2.2.2.1; have := HL.out.1; have := HL.out.2.2.2.1
      omega)
     refine startIn_ (m := 11) (S := fun w' => w'.cell? ⟨g16 + 1, 0, none⟩ = some (.slice mad p.2.length mc) ∧ w'.cell? ⟨g21, 0, none⟩ = some (.int .i64 q2.1) ∧ w'.cell? ⟨g21, 1, none⟩ = some (.int .i64 q2.2) ∧ w'.cell? ⟨g12, 0, none⟩ = some (.int .i64 q.1) ∧ w'.cell? ⟨g12, 1, none⟩ = some (.int .i64 q.2) ∧ w'.cell? ⟨w.heap.size, 0, none⟩ = some (.pointer (some ⟨K.1, 0, none⟩))) (ds := [10]) #[false, false, false, false, false, false, false, false, false, false, false] (fun ⟨_, _, q⟩ => q) (by rfl) (by kernel_rfl) rfl rfl (SP.out _ _ HDr.out.other (by simp) (by simp) (fun z hz => by simp [hz])) (fun hHeld => ?_)
     generalize W5.drew = wd5 at HDr hHeld ⊢
     refine ta_ 0 (some 88) hHeld ?_ (hy := Or.inl ⟨by rfl, by rintro w' ⟨s0, s1, s2, s3, s4, s5⟩; go_simp; with_reducible rfl⟩)
     refine ta_ 1 (some 89) hHeld ?_ (hy := Or.inl ⟨by rfl, by rintro w' ⟨s0, s1, s2, s3, s4, s5⟩; go_simp; with_reducible rfl⟩)
     refine ta_ 2 (some 90) hHeld ?_ (hy := Or.inl ⟨by rfl, by rintro w' ⟨s0, s1, s2, s3, s4, s5⟩; go_simp; with_reducible rfl⟩)
     refine ta_ 3 (some 91) hHeld ?_ (hy := Or.inl ⟨by rfl, by rintro w' ⟨s0, s1, s2, s3, s4, s5⟩; go_simp; with_reducible rfl⟩)
     refine ta_ 4 (some 92) hHeld ?_ (hy := Or.inl ⟨by rfl, by rintro w' ⟨s0, s1, s2, s3, s4, s5⟩; go_simp; with_reducible rfl⟩)
     refine on_ 5 (some 93) fun K_ hK => ?_
     refine gs_ Try.func111 #[.pointer (some ⟨K.1, 0, none⟩), .agg #[.int .i64 q2.1, .int .i64 q2.2]] ?_
     refine (at.calls HDr.out q2).mono ?_
     rintro e6 w6 ⟨v, rfl, hnv, hh⟩
     refine ⟨_, rfl, ?_⟩
     rw [HNz.out] at hnv
     obtain ⟨kz, kzc, rz, rzc, ev, hr⟩ := hnv
     have ev' : v = .agg #[.bool nz.leaf, .int .i64 nz.ver, .slice kz nz.keys.length kzc, .slice rz nz.refs.length rzc] := ev
     subst ev'
     clear ev hr
     have H6 := As hh
     clear hh
     refine hK.out _ _ (SP.out _ _ H6.out.other (by simp) (by simp) (fun z hz => by simp [hz])) (fun hHeld => ?_)
     clear hK K_
     refine nm_ ?_
     refine pu_ 6 (some 94) ?_
     refine pu_ 7 (some 95) ?_
     refine on_ 8 (some 96) fun K_ hK => ?_
     refine value_ (v := .slice (some ⟨w6.heap.size, 0, none⟩) 1 1) (w1 := w6.alloc (.cells #[.int .i64 q2.1, .int .i64 q2.2, .int .i64 q.1, .int .i64 q.2, .int .i64 0, .int .i64 nz.ver, .bool true] 173)) (by rfl) rfl ?_ ?_
     ·go_simp
     obtain ⟨w7, hW, hvv⟩ : ∃ W, W = w6.alloc (.cells #[.int .i64 q2.1, .int .i64 q2.2, .int .i64 q.1, .int .i64 q.2, .int .i64 0, .int .i64 nz.ver, .bool true] 173) ∧ Mt w0 W K T2 .nilFunc R4 (cb w6.heap.size 173 #[.int .i64 q2.1, .int .i64 q2.2, .int .i64 q.1, .int .i64 q.2, .int .i64 0, .int .i64 nz.ver, .bool true] :: cb g21 33 #[.int .i64 q2.1, .int .i64 q2.2] :: cb Bx 33 #[.int .i64 xr.1, .int .i64 xr.2] :: cb (g16 + 1) 99 #[.slice mad p.2.length mc] :: (Am ++ (BS ++ X))) := ⟨_, rfl, H6.out.alloc _⟩
     rw [← hW]
     have H7 := As hvv
     clear hW hvv
     refine hK.out _ _ (SP.out _ _ H7.out.other (by simp) (by simp) (fun z hz => by simp [hz])) (fun hHeld => ?_)
     clear hK K_
     refine nm_ ?_
     refine on_ 9 (some 97) fun K_ hK => ?_
     obtain ⟨Qx, hq, back⟩ := Mt.lensX (B := [cb w6.heap.size 173 #[.int .i64 q2.1, .int .i64 q2.2, .int .i64 q.1, .int .i64 q.2, .int .i64 0, .int .i64 nz.ver, .bool true], cb g21 33 #[.int .i64 q2.1, .int .i64 q2.2], cb Bx 33 #[.int .i64 xr.1, .int .i64 xr.2], cb (g16 + 1) 99 #[.slice mad p.2.length mc]]) (X := Am) (L := BS ++ X) H7.out
     have HQx := As back
     refine append_rows_step (w0 := w0) (A := Am) (L := Qx) (by rfl) (.tmp 88) (.tmp 96) 99 173 (.agg #[.int .i64 0, .int .i64 0, .int .i64 0, .int .i64 0, .int .i64 0, .int .i64 0, .bool false]) 7 56 rfl Try.underlying99 infoT rfl (by decide) (by decide) (.slice mad p.2.length mc) p.2.length (p.2.flatMap tcel) (by first | rfl | (go_simp; done) | (go_simp; rfl)) (some ⟨w6.heap.size, 0, none⟩) 1 1 (tcel (⟨q2, q, 0, nz.ver, true⟩ : Trn)) (by first | rfl | (go_simp; done) | (go_simp; rfl)) (by have := tcel_one [(⟨q2, q, 0, nz.ver, true⟩ : Trn)]; simpa using this) HX.out.2.2.2.2.1 hq ((Rdy.of_rw (w0 := w0) (size := 7) (n := 1) (e := 173) (c := 1) (xs := tcel (⟨q2, q, 0, nz.ver, true⟩ : Trn)) (L := [cb w6.heap.size 173 #[.int .i64 q2.1, .int .i64 q2.2, .int .i64 q.1, .int .i64 q.2, .int .i64 0, .int .i64 nz.ver, .bool true]]) ⟨rfl, Nat.le_refl _, fun _ => ⟨w6.heap.size, 0, #[.int .i64 q2.1, .int .i64 q2.2, .int .i64 q.1, .int .i64 q.2, .int .i64 0, .int .i64 nz.ver, .bool true], rfl, by simp, fun i _ => by rw [Nat.zero_add]; simp [tcel]⟩⟩) _ _ H7.out.other (fun z hz => by rw [List.mem_singleton.1 hz]; simp)) HBB.out ?_
     intro v8 w8 A8 hG8 hv8
     obtain ⟨ad8, c8, rfl, -⟩ := hG8.form
     have HG8 := As hG8
     have H8 := As (show Mt w0 w8 K T2 .nilFunc R4 ([cb w6.heap.size 173 #[.int .i64 q2.1, .int .i64 q2.2, .int .i64 q.1, .int .i64 q.2, .int .i64 0, .int .i64 nz.ver, .bool true], cb g21 33 #[.int .i64 q2.1, .int .i64 q2.2], cb Bx 33 #[.int .i64 xr.1, .int .i64 xr.2]] ++ (cb (g16 + 1) 99 #[.slice mad p.2.length mc] :: (A8 ++ (BS ++ X)))) from HQx.out w8 A8 hv8)
     clear hG8 hv8 hq back
     refine hK.out _ _ (SP.out _ _ H8.out.other (by simp) (by simp) (fun z hz => by simp [hz])) (fun hHeld => ?_)
     clear hK K_
     refine nm_ ?_
     refine la_ 10 none fun K_ hK => ?_
     obtain ⟨c3, cf3⟩ := H8.out.other.c1 (g16 + 1) 99 (.slice mad p.2.length mc) (by simp)
     refine sk_ (hK.out _ _ ?_)
     clear hK K_ c3 cf3
     refine done_ (by kernel_rfl) ?_
     have h9 := Mt.put H8.out 0 (.slice ad8 (p.2.length + 1) c8) rfl
     have hkp := (⟨HB3.out.1.size, fun k o _ hk _ => (HB3.out.1.block k (blk_lt hk)).trans hk⟩ : KeepsFrom WL.heap.size W w3).trans (HK5.out _ (fun z hz => h9.other.box z (by simp [hz])))
     refine ⟨hkp, fun _ => h9.other.drop ?_, HA2.out, Nat.le_trans HX.out.2.1 hkp.1, ?_⟩
     ·exact (HLKs.out.trans (List.sublist_append_left BS X)).trans ((List.sublist_append_right A8 _).trans ((List.sublist_cons_self _ _).trans (List.sublist_append_right _ _)))
     ·rw [HST.out]
      refine ⟨R4, A8, ad8, c8, HR4.out, ?_, ?_⟩
      ·simp only [List.length_append, List.length_singleton, List.flatMap_append, List.flatMap_singleton]
       exact HG8.out
      ·simp only [List.length_append, List.length_singleton]
       exact h9.drop ((List.Sublist.cons_cons _ (List.Sublist.append_left (List.sublist_append_left BS X) A8)).trans (List.sublist_append_right _ _))
    ·obtain ⟨T2, q2, hsp⟩ : ∃ T2 q2, p.1.split xr (some (s.getD j (0, 0))) = (T2, q2) := ⟨_, _, rfl⟩
     have hup : upI s x = (some (s.getD j (0, 0))) := by unfold upI; rw [HXI.out.2]; rw [if_neg h0, show xi - 1 = j from HJ.out.2]
     have hst : foldI s q (T0, []) (pre ++ [x]) = (T2, p.2) := by rw [foldI_snoc, HX.out.2.2.1, stpI_else (by rw [HX.out.2.2.2.2.2.2]; exact he), HX.out.2.2.2.2.2.2, hup, hsp]
     have heq : ∀ w : World, (binOp .eql 33 (.agg #[.int .i64 xr.1, .int .i64 xr.2]) (.agg #[.int .i64 q.1, .int .i64 q.2])).run Try.prog w = .ok (.bool false) w := fun w => by
      rw [eql33]
      have : (xr.1 == q.1 && (xr.2 == q.2)) = false := by
       rw [Bool.eq_false_iff]
       intro h
       simp only [Bool.and_eq_true, beq_iff_eq] at h
       exact he (Prod.ext h.1 h.2)
      rw [this]
     have HST := As hst
     have HSp := As hsp
     clear hst hsp hup he h0
     gi_wp2_with (first | (first | (gi_at_call 120; go_loud (obtain ⟨X, hX, keep⟩ := HM.out.keepsX HB3.out.1 HB3.out.2 hw0 HX.out.2.1 (fun z hz => .inr (HX.out.2.2.2.1 z hz)) HLo.out; refine (CallsIn.inRound l' (callsIn_wide.2 (splitT.under hX xr (HB0.out.1.sm (by have := HB0.out.2; omega) xr) (ua := wa.add (j * 2)) (u := s.getD j (0, 0)) ((Tr.Rdy.elem HRw.out HJ.out.1).mono (fun z hz => by rw [HBS.out]; simp [hz])) (fun t2 ht2 => by rw [ht2]; exact (Bd.two HB0.out.1 xr).sm (by have := HB0.out.2; omega) _)))).mono ?_; rw [HSp.out]; rintro e4 w4 ⟨rfl, A4, hh⟩; obtain ⟨R4, hR4, -, hh4⟩ := hh.pure; have H4 := As hh4; have HR4 := As hR4; have HK4 := As (keep w4 (fun z hz => hh4.other.box z (by simp [hz]))); have HK5 := As keep; clear hX keep hh hR4 hh4; clear y0 yf b0 b1 z0 zf; obtain ⟨b0, b1, -, -⟩ := H4.out.other.c2 Bx 33 (.int .i64 xr.1) (.int .i64 xr.2) (by simp); obtain ⟨x0, x1, -, -⟩ := H4.out.other.c2 g12 33 (.int .i64 q.1) (.int .i64 q.2) (by simp [HBS.out]); obtain ⟨c0, c1, -, -⟩ := (H4.out.alloc (.cells #[.int .i64 q2.1, .int .i64 q2.2] 33)).other.c2 Bx 33 (.int .i64 xr.1) (.int .i64 xr.2) (by simp); obtain ⟨d0, d1, -, -⟩ := (H4.out.alloc (.cells #[.int .i64 q2.1, .int .i64 q2.2] 33)).other.c2 g12 33 (.int .i64 q.1) (.int .i64 q.2) (by simp [HBS.out]); have hc0 := c0.trans b0.symm; have hc1 := c1.trans b1.symm; have hd0 := d0.trans x0.symm; have hd1 := d1.trans x1.symm; clear c0 c1 d0 d1)) | (refine ⟨trivial, ?_⟩; (gi_at_call 120; go_loud (obtain ⟨X, hX, keep⟩ := HM.out.keepsX HB3.out.1 HB3.out.2 hw0 HX.out.2.1 (fun z hz => .inr (HX.out.2.2.2.1 z hz)) HLo.out; refine (CallsIn.inRound l' (callsIn_wide.2 (splitT.under hX xr (HB0.out.1.sm (by have := HB0.out.2; omega) xr) (ua := wa.add (j * 2)) (u := s.getD j (0, 0)) ((Tr.Rdy.elem HRw.out HJ.out.1).mono (fun z hz => by rw [HBS.out]; simp [hz])) (fun t2 ht2 => by rw [ht2]; exact (Bd.two HB0.out.1 xr).sm (by have := HB0.out.2; omega) _)))).mono ?_; rw [HSp.out]; rintro e4 w4 ⟨rfl, A4, hh⟩; obtain ⟨R4, hR4, -, hh4⟩ := hh.pure; have H4 := As hh4; have HR4 := As hR4; have HK4 := As (keep w4 (fun z hz => hh4.other.box z (by simp [hz]))); have HK5 := As keep; clear hX keep hh hR4 hh4; clear y0 yf b0 b1 z0 zf; obtain ⟨b0, b1, -, -⟩ := H4.out.other.c2 Bx 33 (.int .i64 xr.1) (.int .i64 xr.2) (by simp); obtain ⟨x0, x1, -, -⟩ := H4.out.other.c2 g12 33 (.int .i64 q.1) (.int .i64 q.2) (by simp [HBS.out]); obtain ⟨c0, c1, -, -⟩ := (H4.out.alloc (.cells #[.int .i64 q2.1, .int .i64 q2.2] 33)).other.c2 Bx 33 (.int .i64 xr.1) (.int .i64 xr.2) (by simp); obtain ⟨d0, d1, -, -⟩ := (H4.out.alloc (.cells #[.int .i64 q2.1, .int .i64 q2.2] 33)).other.c2 g12 33 (.int .i64 q.1) (.int .i64 q.2) (by simp [HBS.out]); have hc0 := c0.trans b0.symm; have hc1 := c1.trans b1.symm; have hd0 := d0.trans x0.symm; have hd1 := d1.trans x1.symm; clear c0 c1 d0 d1)))) | (refine ⟨trivial, ?_⟩; gi_at_call 35; go_loud (refine (CallsIn.inRound l' (callsIn_wide.2 (size.calls (Hv.start w2) nx.leaf nx.ver kx rx nx.keys.length kxc nx.refs.length rxc))).mono ?_; rintro e3 w3 ⟨rfl, hh⟩; have HB3 := As (show Below W.heap.size W w3 ∧ W.heap.size < w3.heap.size from ⟨HB2.out.1.trans (hh.bel.mono HB2.out.1.size), Nat.lt_of_lt_of_le HB2.out.2 hh.bel.size⟩); have HM3 := As (HM.out.call HB3.out.1); clear hh; clear y0 yf b0 b1; obtain ⟨y0, yf⟩ := HM3.out.other.c1 w.heap.size 80 (.pointer (some ⟨K.1, 0, none⟩)) (by simp [HBS.out]); obtain ⟨b0, b1, -, -⟩ := HM3.out.other.c2 Bx 33 (.int .i64 xr.1) (.int .i64 xr.2) (by simp); obtain ⟨z0, zf⟩ := HM3.out.other.c1 g11 31 (.slice (some wa) s.length c) (by simp [HBS.out]))) | (refine ⟨trivial, ?_⟩; gi_at_call 111; go_loud (refine (CallsIn.inRound l' (callsIn_wide.2 (atB.calls HM.out xr))).mono ?_; rintro e2 w2 ⟨v, rfl, hnv, hb2, hl2⟩; rw [HNx.out] at hnv; obtain ⟨kx, kxc, rx, rxc, ev, hr⟩ := hnv; have ev' : v = .agg #[.bool nx.leaf, .int .i64 nx.ver, .slice kx nx.keys.length kxc, .slice rx nx.refs.length rxc] := ev; subst ev'; clear ev hr; have HB2 := As (And.intro hb2 hl2); clear hb2 hl2)))
     refine ⟨((⟨HB3.out.1.size, fun k o _ hk _ => (HB3.out.1.block k (blk_lt hk)).trans hk⟩ : KeepsFrom WL.heap.size W w3).trans HK4.out).trans ((KeepsOthers.alloc _ _).from _), fun _ => (H4.out.alloc _).other.drop ?_, HA2.out, ?_, ?_⟩
     ·exact (HLKs.out.trans (((List.sublist_append_right _ _).trans ((List.sublist_cons_self _ _).trans (List.sublist_cons_self _ _))).trans (List.sublist_append_left _ X))).trans (List.sublist_cons_self _ _)
     ·have := HX.out.2.1; have := HB3.out.1.size; have := HK4.out.1; simp; omega
     ·rw [HST.out]
      exact ⟨R4, Am, mad, mc, HR4.out, HX.out.2.2.2.2.1, ((H4.out.alloc _).tail.drop (List.sublist_append_left _ _)).tail⟩
 case done =>
  rintro D xs W hD rfl ⟨hal, hsz, hP⟩ hK
  refine REST D W _ hD hK (runs_done hal) hP ?_
  have := fold_len (s := s) (leaf := q) (xs := ixL s.length s.length (Nat.le_refl _)) (p := (T0, []))
  rw [ixL_length] at this
  simpa using this
 case stop =>
  rintro D cd pre W hD ⟨k, hk, hpk⟩ ⟨rfl, pre', x, hp, hal, hx, hsz, hP⟩ hK
  refine wpIn_exit ?_
  refine REST D W _ hD hK (runs_stop hk (hpk.symm.trans hp) hal hx) hP ?_
  have := fold_len (s := s) (leaf := q) (xs := pre') (p := (T0, []))
  have h2 := congrArg List.length (hpk.symm.trans hp)
  rw [ixL_length, List.length_append, List.length_singleton] at h2
  simp only [List.length_nil] at this
  omega
end Go.Proofs.Ytglbcfkmaamhaaa.Tr
