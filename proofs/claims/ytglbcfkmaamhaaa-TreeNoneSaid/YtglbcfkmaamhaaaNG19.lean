/- A text of this claim: parts TsI TsJ TsK. No condition. -/
import Derived.Test.YtglbcfkmaamhaaaNG18
import Derived.Test.YtglbcfkmaamhaaaNG3
import Derived.Laws.OwnMore
section
set_option linter.unusedVariables false
set_option linter.unusedSimpArgs false
namespace Go.Proofs.Ytglbcfkmaamhaaa.Tr
open Go Go.RowKit Go.Proofs.YtglbcfkmaamhaaaW.PrintWords Go.Proofs.Ytglbcfkmaamhaaa.Hv Go.Proofs.Ytglbcfkmaamhaaa.Arm Go.Proofs.Ytglbcfkmaamhaaa.Nd Go.Proofs.Ytglbcfkmaamhaaa.ArN
variable {w0 w w1 : World} {L L' R : List Ob} {K : Nat × Nat × Nat} {t : Tm} {on : Value}
/-- What join asks of a tree and a node. -/
structure JOk (t : Tm) (up : Rf) : Prop where
 ok : Nd.Ok (t.at up)
 sh : (t.at up).keys.length + 1 = (t.at up).refs.length
 bd : Bd t 1000000
 gone : t.gone.length < 1000000
theorem tjoin.calls (h : Mt w0 w K t on R L) (up : Rf) (i : Int) (hi : i ≤ 1000000) (ho : JOk t up) : Calls Try.prog 114 #[.pointer (some ⟨K.1, 0, none⟩), .agg #[.int .i64 up.1, .int .i64 up.2], .int .i64 i] w (JoinP w0 K on L (t.join up i)) := by
 by_cases h0 : i < 0
 ·rw [show t.join up i = (t, (0, 0), false) from by unfold Tm.join; rw [if_pos (.inl h0)]]
  exact joinT.neg h up i h0
 ·by_cases h1 : ((t.at up).refs.length : Int) ≤ i + 1
  ·rw [show t.join up i = (t, (0, 0), false) from by unfold Tm.join; rw [if_pos (.inr h1)]]
   exact joinT.end h up i (by omega) hi h1
  ·obtain ⟨k, rfl⟩ : ∃ k : Nat, i = (k : Int) := ⟨i.toNat, by omega⟩
   exact joinT.in h up k (by omega) ho.ok ho.sh ho.bd ho.gone
/-- One kid that is small is joined with a neighbour. -/
def Tm.merge (t : Tm) (up x : Rf) : Tm × Rf × Bool :=
 let j := t.join up (idx x (t.at up).refs - 1)
 if j.2.2 then j else t.join up (idx x (t.at up).refs)
theorem join_no {t : Tm} {up : Rf} {i : Int} (h : (t.join up i).2.2 = false) : t.join up i = (t, (0, 0), false) := by
 unfold Tm.join at h ⊢
 split
 ·rfl
 ·rename_i h1
  rw [if_neg h1] at h
  split
  ·rfl
  ·rename_i h2
   rw [if_neg h2] at h
   cases h
/-- Up the way: s the way, i the place. -/
inductive Up1 (s : List Rf) : Nat → Tm × List Rf → Tm × List Rf → Prop
 | top (p : Tm × List Rf) : Up1 s 0 p p
 | big (i : Nat) (p : Tm × List Rf) (h : ¬ (p.1.at (s.getD (i + 1) (0, 0))).refs.length < 2) : Up1 s (i + 1) p p
 | no (i : Nat) (p : Tm × List Rf) (h : (p.1.at (s.getD (i + 1) (0, 0))).refs.length < 2) (ho : JOk p.1 (s.getD i (0, 0))) (hm : (p.1.merge (s.getD i (0, 0)) (s.getD (i + 1) (0, 0))).2.2 = false) : Up1 s (i + 1) p p
 | yes (i : Nat) (p p' : Tm × List Rf) (h : (p.1.at (s.getD (i + 1) (0, 0))).refs.length < 2) (ho : JOk p.1 (s.getD i (0, 0))) (hm : (p.1.merge (s.getD i (0, 0)) (s.getD (i + 1) (0, 0))).2.2 = true)
   (hd : Up1 s i ((p.1.merge (s.getD i (0, 0)) (s.getD (i + 1) (0, 0))).1, p.2 ++ [(p.1.merge (s.getD i (0, 0)) (s.getD (i + 1) (0, 0))).2.1]) p') : Up1 s (i + 1) p p'
theorem Up1.inv {s : List Rf} {i : Nat} {p p' : Tm × List Rf} : Up1 s i p p' → (i = 0 ∧ p' = p) ∨ (∃ k, i = k + 1 ∧ ((¬ (p.1.at (s.getD (k + 1) (0, 0))).refs.length < 2 ∧ p' = p) ∨
  ((p.1.at (s.getD (k + 1) (0, 0))).refs.length < 2 ∧ JOk p.1 (s.getD k (0, 0)) ∧ (((p.1.merge (s.getD k (0, 0)) (s.getD (k + 1) (0, 0))).2.2 = false ∧ p' = p) ∨
   ((p.1.merge (s.getD k (0, 0)) (s.getD (k + 1) (0, 0))).2.2 = true ∧ Up1 s k ((p.1.merge (s.getD k (0, 0)) (s.getD (k + 1) (0, 0))).1, p.2 ++ [(p.1.merge (s.getD k (0, 0)) (s.getD (k + 1) (0, 0))).2.1]) p')))))
 | .top _ => .inl ⟨rfl, rfl⟩
 | .big k _ h => .inr ⟨k, rfl, .inl ⟨h, rfl⟩⟩
 | .no k _ h ho hm => .inr ⟨k, rfl, .inr ⟨h, ho, .inl ⟨hm, rfl⟩⟩⟩
 | .yes k _ _ h ho hm hd => .inr ⟨k, rfl, .inr ⟨h, ho, .inr ⟨hm, hd⟩⟩⟩
/-- The root with one kid alone is left. -/
def Tm.sink (t : Tm) : Tm := { t.leave t.root with root := refI (t.at t.root) 0 }
inductive Up2 : Nat → Tm × List Rf → Tm × List Rf → Prop
 | stop (k : Nat) (p : Tm × List Rf) (h : (p.1.at p.1.root).leaf = true ∨ (p.1.at p.1.root).refs.length ≠ 1) : Up2 k p p
 | step (k : Nat) (p p' : Tm × List Rf) (h1 : (p.1.at p.1.root).leaf = false) (h2 : (p.1.at p.1.root).refs.length = 1) (hg : p.1.gone.length < 1000000) (hd : Up2 k (p.1.sink, p.2 ++ [p.1.root]) p') : Up2 (k + 1) p p'
theorem Up2.inv {k : Nat} {p p' : Tm × List Rf} : Up2 k p p' → (((p.1.at p.1.root).leaf = true ∨ (p.1.at p.1.root).refs.length ≠ 1) ∧ p' = p) ∨ (∃ j, k = j + 1 ∧ (p.1.at p.1.root).leaf = false ∧ (p.1.at p.1.root).refs.length = 1 ∧ p.1.gone.length < 1000000 ∧ Up2 j (p.1.sink, p.2 ++ [p.1.root]) p')
 | .stop _ _ h => .inl ⟨h, rfl⟩
 | .step j _ _ h1 h2 hg hd => .inr ⟨j, rfl, h1, h2, hg, hd⟩
def TDelP (w0 : World) (K : Nat × Nat × Nat) (L : List Ob) (t : Tm) (r : Rf) (g : List Rf) (b : Bool) (e : Ending) (w' : World) : Prop :=
 ∃ ad c A R, e = .returned (.tuple #[.agg #[.int .i64 r.1, .int .i64 r.2], .slice ad g.length c, .bool b]) ∧ Gr 33 2 (.slice ad g.length c) g.length (g.flatMap rcel) A ∧ Mt w0 w' K t .nilFunc R (A ++ L)
end Go.Proofs.Ytglbcfkmaamhaaa.Tr
end
section
set_option linter.unusedVariables false
set_option linter.unusedSimpArgs false
namespace Go.Proofs.Ytglbcfkmaamhaaa.Tr
open Go Go.RowKit Go.Proofs.YtglbcfkmaamhaaaW.PrintWords Go.Proofs.YtglbcfkmaamhaaaW.PrintLast Go.Proofs.YtglbcfkmaamhaaaW.PrintMore Go.Proofs.Ytglbcfkmaamhaaa.Hv Go.Proofs.Ytglbcfkmaamhaaa.Arm Go.Proofs.Ytglbcfkmaamhaaa.Nd Go.Proofs.Ytglbcfkmaamhaaa.ArN
variable {w0 w w1 : World} {L L' R : List Ob} {K : Nat × Nat × Nat} {t : Tm} {on : Value}
theorem fld3 (a b c : Value) (ad : Option Addr) (n k : Nat) (w : World) : (Instr.field 59 (.agg #[a, b, c, .slice ad n k]) 3).run Try.prog w = .ok (.slice ad n k) w := by kernel_rfl
theorem Up1.len {s : List Rf} {i : Nat} {p p' : Tm × List Rf} (h : Up1 s i p p') : p.2.length ≤ p'.2.length := by
 induction h with
 | top _ => exact Nat.le_refl _
 | big _ _ _ => exact Nat.le_refl _
 | no _ _ _ _ _ => exact Nat.le_refl _
 | yes _ _ _ _ _ _ _ ih => simp only [List.length_append, List.length_singleton] at ih; omega
theorem Up2.len {k : Nat} {p p' : Tm × List Rf} (h : Up2 k p p') : p.2.length ≤ p'.2.length := by
 induction h with
 | stop _ _ _ => exact Nat.le_refl _
 | step _ _ _ _ _ _ _ ih => simp only [List.length_append, List.length_singleton] at ih; omega
set_option maxHeartbeats 16000000 in
set_option maxRecDepth 100000 in
theorem delT.no (h : Mt w0 w K t on R L) (key : ByteArray) {l : List (Rf × Nat)} {q : Rf} (hd : Dn t key t.root l q) (ho : Nd.Ok (t.at q)) (hm : l.length + 10 < 1000000) (hf : ((t.at q).delete key).2.2 = false) : Calls Try.prog 64 #[.pointer (some ⟨K.1, 0, none⟩), .string key] w (TDelP w0 K L t (0, 0) [] false) := by
 have hu59 := Try.underlying59
 have hu33 := Try.underlying33
 have hu31 := Try.underlying31
 have hu160 := Try.underlying160
 have HM := Aside0.mk (show Mt w0 _ K t on R (cb w.heap.size 33 #[.int .i64 0, .int .i64 0] :: L) from h.alloc (.cells #[.int .i64 0, .int .i64 0] 33))
 obtain ⟨m, r, hdel⟩ : ∃ m r, (t.at q).delete key = (m, r, false) := ⟨_, _, Prod.ext rfl (Prod.ext rfl hf)⟩
 clear hf
 have HD := Aside0.mk (And.intro hd ho)
 obtain ⟨s, hs⟩ : ∃ s, wayL l q = s := ⟨_, rfl⟩
 have hwl : s.length = l.length + 1 := by rw [← hs]; simp [wayL]
 have hlast : s[l.length]? = some q := by rw [← hs]; simp [wayL]
 obtain ⟨n, hn⟩ : ∃ n, t.at q = n := ⟨_, rfl⟩
 have HL := Aside0.mk (And.intro hm (And.intro hs (And.intro hwl hlast)))
 rw [hn] at hdel
 have HN := Aside0.mk (And.intro hn (And.intro hdel ho))
 clear h hd ho hm hs hwl hlast hn hdel
 go_enter Try.func64, Try.ntmps64
 go_upto_region 4 with (go_at_call 110; go_loud (refine (way.calls HM.out key HD.out.1 (by have := HL.out.1; omega)).mono ?_; rw [HL.out.2.1]; rintro e4 w4 ⟨ad, c, Aw, rfl, hG, hh⟩; have H4 := Aside0.mk hh; have HG := Aside0.mk hG; clear hh hG))
 obtain ⟨wa, ea⟩ : ∃ wa, ad = some wa := by
  obtain ⟨a, e, -⟩ := ((Rdy.of_rw (w0 := w0) (Rw.of_gr HG.out)).now (H4.out.other.left)).2 (by have := HL.out.2.2.1; omega)
  exact ⟨a, e⟩
 subst ea
 have HRw := Aside0.mk (show Rdy 2 w0 Aw (some wa) s.length (s.flatMap rcel) from Rdy.of_rw (Rw.of_gr HG.out))
 have hsl : (s.length : Int) - 1 = (l.length : Int) := by have := HL.out.2.2.1; omega
 have ew : wrap64 ((s.length : Int) - 1) = (l.length : Int) := by rw [hsl]; have := HL.out.1; unfold wrap64; omega
 have hlt : (l.length : Int) < (s.length : Int) := by omega
 clear hsl
 obtain ⟨r0, r1⟩ := rcel_get s l.length q HL.out.2.2.2
 obtain ⟨wa', ea, hcl⟩ := ((HRw.out.now (H4.out.other.left)).2 (by omega))
 cases ea
 have v0 := hcl _ _ r0
 have v1' := hcl _ _ r1
 rw [← Addr.add_add] at v1'
 have v1 : w4.cell? { block := (wa.add (l.length * 2)).block, off := (wa.add (l.length * 2)).off + 1 } = some (.int .i64 q.2) := v1'
 clear hcl r0 r1 v1'
 go_upto_region 5 with (fail)
 obtain ⟨W5, hW, hM⟩ : ∃ W, W = _ ∧ Mt w0 W K t .nilFunc R (cb w4.heap.size 33 #[.int .i64 q.1, .int .i64 q.2] :: (Aw ++ (cb w.heap.size 33 #[.int .i64 0, .int .i64 0] :: L))) := ⟨_, rfl, H4.out.alloc _⟩
 rw [← hW]
 have H5 := Aside0.mk hM
 clear hW hM v0 v1 hlt
 generalize w4.heap.size = g8 at H5 ⊢
 obtain ⟨x0, x1, -, -⟩ := H5.out.other.c2 g8 33 (.int .i64 q.1) (.int .i64 q.2) (by simp)
 go_upto_region 6 with (first
  | (go_at_call 44; go_loud (obtain ⟨Lf, hL, hRf, hLf, back⟩ := H6.out.lens; refine (Nd.delete.calls (w0 := w0) (R := R) hL hRf ⟨ka, kc, ra, rc, rfl, HR6.out⟩ (by rw [← HN.out.1]; exact HN.out.2.2) key).mono ?_; rw [HN.out.2.1]; rintro e7 w7 ⟨v, A1, rfl, hnv, hh⟩; have H7 := Aside0.mk (back w7 A1 hh); clear back hL hRf hLf hh; obtain ⟨ka1, kc1, ra1, rc1, ev, hr7⟩ := hnv; have ev' : v = .agg #[.bool m.leaf, .int .i64 m.ver, .slice ka1 m.keys.length kc1, .slice ra1 m.refs.length rc1] := ev; subst ev'; clear ev; have HR7 := Aside0.mk hr7; clear hr7))
  | (go_at_call 111; go_loud (refine (at.calls H5.out q).mono ?_; rintro e6 w6 ⟨v, rfl, hnv, hh⟩; rw [HN.out.1] at hnv; obtain ⟨ka, kc, ra, rc, ev, hr6⟩ := hnv; have ev' : v = .agg #[.bool n.leaf, .int .i64 n.ver, .slice ka n.keys.length kc, .slice ra n.refs.length rc] := ev; subst ev'; clear ev; have HR6 := Aside0.mk hr6; have H6 := Aside0.mk hh; clear hh hr6)))
 obtain ⟨W7, hW, hM⟩ : ∃ W, W = (w7.alloc (.cells #[.bool m.leaf, .int .i64 m.ver, .slice ka1 m.keys.length kc1, .slice ra1 m.refs.length rc1] 59)).alloc (.cells #[.int .i64 r.1, .int .i64 r.2] 33) ∧ Mt w0 W K t .nilFunc (A1 ++ R) (cb (w7.heap.size + 1) 33 #[.int .i64 r.1, .int .i64 r.2] :: cb w7.heap.size 59 #[.bool m.leaf, .int .i64 m.ver, .slice ka1 m.keys.length kc1, .slice ra1 m.refs.length rc1] :: cb g8 33 #[.int .i64 q.1, .int .i64 q.2] :: (Aw ++ (cb w.heap.size 33 #[.int .i64 0, .int .i64 0] :: L))) := ⟨_, rfl, by
  have := (H7.out.alloc (.cells #[.bool m.leaf, .int .i64 m.ver, .slice ka1 m.keys.length kc1, .slice ra1 m.refs.length rc1] 59)).alloc (.cells #[.int .i64 r.1, .int .i64 r.2] 33)
  simpa [cb] using this⟩
 rw [← hW]
 have H8 := Aside0.mk hM
 clear hW hM x0 x1
 generalize w7.heap.size = g9 at H8 ⊢
 obtain ⟨q0, q1, qf0, qf1⟩ := H8.out.other.c2 w.heap.size 33 (.int .i64 0) (.int .i64 0) (by simp)
 go_wp2_with fail
 have h9 : Mt w0 W7 K t .nilFunc (A1 ++ R) ((cb (g9 + 1) 33 #[.int .i64 r.1, .int .i64 r.2] :: cb g9 59 #[.bool m.leaf, .int .i64 m.ver, .slice ka1 m.keys.length kc1, .slice ra1 m.refs.length rc1] :: cb g8 33 #[.int .i64 q.1, .int .i64 q.2] :: Aw) ++ cb w.heap.size 33 #[.int .i64 0, .int .i64 0] :: L) := H8.out
 have h10 := Mt.put (Mt.put h9 0 (.int .i64 0) rfl) 1 (.int .i64 0) rfl
 obtain ⟨wg, hw, hg⟩ : ∃ wg, wg = _ ∧ Mt w0 wg K t .nilFunc (A1 ++ R) ((cb (g9 + 1) 33 #[.int .i64 r.1, .int .i64 r.2] :: cb g9 59 #[.bool m.leaf, .int .i64 m.ver, .slice ka1 m.keys.length kc1, .slice ra1 m.refs.length rc1] :: cb g8 33 #[.int .i64 q.1, .int .i64 q.2] :: Aw) ++ cb w.heap.size 33 #[.int .i64 0, .int .i64 0] :: L) := ⟨_, rfl, h10⟩
 rw [← hw]
 obtain ⟨e0, e1, -, -⟩ := hg.other.c2 w.heap.size 33 (.int .i64 0) (.int .i64 0) (by simp)
 exact bodyPost_ret (v := .tuple #[.agg #[.int .i64 0, .int .i64 0], .slice none 0 0, .bool false]) (by simp [results, Try.results64, go_sem, e0, e1, hu33]) rfl ⟨none, 0, [], A1 ++ R, rfl, Gr.nil 33 2, hg.drop ((List.sublist_cons_self _ _).trans (List.sublist_append_right _ _))⟩
set_option maxHeartbeats 16000000 in
set_option maxRecDepth 100000 in
theorem delT.yes (h : Mt w0 w K t on R L) (key : ByteArray) {l : List (Rf × Nat)} {q : Rf} (hd : Dn t key t.root l q) (ho : Nd.Ok (t.at q)) (hm : l.length + 10 < 1000000) {m : Nd.Nd} {r : Rf} (hdel : (t.at q).delete key = (m, r, true)) {p1 p2 : Tm × List Rf} {k2 : Nat} (hu1 : Up1 (wayL l q) l.length (t.set q m, []) p1) (hu2 : Up2 k2 p1 p2) (hpl : p2.2.length ≤ 1000000) : Calls Try.prog 64 #[.pointer (some ⟨K.1, 0, none⟩), .string key] w (TDelP w0 K L p2.1 r p2.2 true) := by
  have hu59 := Try.underlying59
  have hu33 := Try.underlying33
  have hu31 := Try.underlying31
  have hu160 := Try.underlying160
  have HM := Aside0.mk (show Mt w0 _ K t on R (cb w.heap.size 33 #[.int .i64 0, .int .i64 0] :: L) from h.alloc (.cells #[.int .i64 0, .int .i64 0] 33))
  have HD := Aside0.mk (And.intro hd ho)
  obtain ⟨s, hs⟩ : ∃ s, wayL l q = s := ⟨_, rfl⟩
  have hwl : s.length = l.length + 1 := by rw [← hs]; simp [wayL]
  have hlast : s[l.length]? = some q := by rw [← hs]; simp [wayL]
  obtain ⟨n, hn⟩ : ∃ n, t.at q = n := ⟨_, rfl⟩
  rw [hs] at hu1
  have HU1 := Aside0.mk hu1
  have HU2 := Aside0.mk (And.intro hu2 hpl)
  clear hu1 hu2 hpl
  have HL := Aside0.mk (And.intro hm (And.intro hs (And.intro hwl hlast)))
  rw [hn] at hdel
  have HN := Aside0.mk (And.intro hn (And.intro hdel ho))
  clear h hd ho hm hs hwl hlast hn hdel
  go_enter Try.func64, Try.ntmps64
  go_upto_region 4 with (go_at_call 110; go_loud (refine (way.calls HM.out key HD.out.1 (by have := HL.out.1; omega)).mono ?_; rw [HL.out.2.1]; rintro e4 w4 ⟨ad, c, Aw, rfl, hG, hh⟩; have H4 := Aside0.mk hh; have HG := Aside0.mk hG; clear hh hG))
  obtain ⟨wa, ea⟩ : ∃ wa, ad = some wa := by
    obtain ⟨a, e, -⟩ := ((Rdy.of_rw (w0 := w0) (Rw.of_gr HG.out)).now (H4.out.other.left)).2 (by have := HL.out.2.2.1; omega)
    exact ⟨a, e⟩
  subst ea
  have HRw := Aside0.mk (show Rdy 2 w0 Aw (some wa) s.length (s.flatMap rcel) from Rdy.of_rw (Rw.of_gr HG.out))
  have hsl : (s.length : Int) - 1 = (l.length : Int) := by have := HL.out.2.2.1; omega
  have ew : wrap64 ((s.length : Int) - 1) = (l.length : Int) := by rw [hsl]; have := HL.out.1; unfold wrap64; omega
  have hlt : (l.length : Int) < (s.length : Int) := by omega
  clear hsl
  obtain ⟨r0, r1⟩ := rcel_get s l.length q HL.out.2.2.2
  obtain ⟨wa', ea, hcl⟩ := ((HRw.out.now (H4.out.other.left)).2 (by omega))
  cases ea
  have v0 := hcl _ _ r0
  have v1' := hcl _ _ r1
  rw [← Addr.add_add] at v1'
  have v1 : w4.cell? { block := (wa.add (l.length * 2)).block, off := (wa.add (l.length * 2)).off + 1 } = some (.int .i64 q.2) := v1'
  clear hcl r0 r1 v1'
  go_upto_region 5 with (fail)
  obtain ⟨W5, hW, hM⟩ : ∃ W, W = _ ∧ Mt w0 W K t .nilFunc R (cb w4.heap.size 33 #[.int .i64 q.1, .int .i64 q.2] :: (Aw ++ (cb w.heap.size 33 #[.int .i64 0, .int .i64 0] :: L))) := ⟨_, rfl, H4.out.alloc _⟩
  rw [← hW]
  have H5 := Aside0.mk hM
  clear hW hM v0 v1 hlt
  generalize w4.heap.size = g8 at H5 ⊢
  obtain ⟨x0, x1, -, -⟩ := H5.out.other.c2 g8 33 (.int .i64 q.1) (.int .i64 q.2) (by simp)
  go_upto_region 6 with (first
    | (go_at_call 44; go_loud (obtain ⟨Lf, hL, hRf, hLf, back⟩ := H6.out.lens; refine (Nd.delete.calls (w0 := w0) (R := R) hL hRf ⟨ka, kc, ra, rc, rfl, HR6.out⟩ (by rw [← HN.out.1]; exact HN.out.2.2) key).mono ?_; rw [HN.out.2.1]; rintro e7 w7 ⟨v, A1, rfl, hnv, hh⟩; have H7 := Aside0.mk (back w7 A1 hh); clear back hL hRf hLf hh; obtain ⟨ka1, kc1, ra1, rc1, ev, hr7⟩ := hnv; have ev' : v = .agg #[.bool m.leaf, .int .i64 m.ver, .slice ka1 m.keys.length kc1, .slice ra1 m.refs.length rc1] := ev; subst ev'; clear ev; have HR7 := Aside0.mk hr7; clear hr7))
    | (go_at_call 111; go_loud (refine (at.calls H5.out q).mono ?_; rintro e6 w6 ⟨v, rfl, hnv, hh⟩; rw [HN.out.1] at hnv; obtain ⟨ka, kc, ra, rc, ev, hr6⟩ := hnv; have ev' : v = .agg #[.bool n.leaf, .int .i64 n.ver, .slice ka n.keys.length kc, .slice ra n.refs.length rc] := ev; subst ev'; clear ev; have HR6 := Aside0.mk hr6; have H6 := Aside0.mk hh; clear hh hr6)))
  obtain ⟨W7, hW, hM⟩ : ∃ W, W = (w7.alloc (.cells #[.bool m.leaf, .int .i64 m.ver, .slice ka1 m.keys.length kc1, .slice ra1 m.refs.length rc1] 59)).alloc (.cells #[.int .i64 r.1, .int .i64 r.2] 33) ∧ Mt w0 W K t .nilFunc (A1 ++ R) (cb (w7.heap.size + 1) 33 #[.int .i64 r.1, .int .i64 r.2] :: cb w7.heap.size 59 #[.bool m.leaf, .int .i64 m.ver, .slice ka1 m.keys.length kc1, .slice ra1 m.refs.length rc1] :: cb g8 33 #[.int .i64 q.1, .int .i64 q.2] :: (Aw ++ (cb w.heap.size 33 #[.int .i64 0, .int .i64 0] :: L))) := ⟨_, rfl, by
    have := (H7.out.alloc (.cells #[.bool m.leaf, .int .i64 m.ver, .slice ka1 m.keys.length kc1, .slice ra1 m.refs.length rc1] 59)).alloc (.cells #[.int .i64 r.1, .int .i64 r.2] 33)
    simpa [cb] using this⟩
  rw [← hW]
  have H8 := Aside0.mk hM
  clear hW hM x0 x1
  generalize w7.heap.size = g9 at H8 ⊢
  have SP := Aside0.mk (show ∀ (w' : World) (t' : Tm) (R' : List Ob), Mt w0 w' K t' .nilFunc R' (cb (g9 + 1) 33 #[.int .i64 r.1, .int .i64 r.2] :: cb g9 59 #[.bool m.leaf, .int .i64 m.ver, .slice ka1 m.keys.length kc1, .slice ra1 m.refs.length rc1] :: cb g8 33 #[.int .i64 q.1, .int .i64 q.2] :: (Aw ++ (cb w.heap.size 33 #[.int .i64 0, .int .i64 0] :: L))) → (w'.cell? ⟨K.1, 0, none⟩ = some (.pointer (some ⟨K.2.1, 0, none⟩)) ∧ w'.cell? ⟨g8, 0, none⟩ = some (.int .i64 q.1) ∧ w'.cell? ⟨g8, 1, none⟩ = some (.int .i64 q.2) ∧ w'.cell? ⟨g9, 0, none⟩ = some (.bool m.leaf) ∧ w'.cell? ⟨g9, 1, none⟩ = some (.int .i64 m.ver) ∧ w'.cell? ⟨g9, 2, none⟩ = some (.slice ka1 m.keys.length kc1) ∧ w'.cell? ⟨g9, 3, none⟩ = some (.slice ra1 m.refs.length rc1)) from fun w' t' R' h => by
    obtain ⟨c0, -, -, -, -, -, -⟩ := h.cells
    obtain ⟨x0, x1, -, -⟩ := h.other.c2 g8 33 (.int .i64 q.1) (.int .i64 q.2) (by simp)
    obtain ⟨n0, n1, n2, n3, -, -, -, -⟩ := h.other.c4 g9 59 (.bool m.leaf) (.int .i64 m.ver) (.slice ka1 m.keys.length kc1) (.slice ra1 m.refs.length rc1) (by simp)
    exact ⟨c0, x0, x1, n0, n1, n2, n3⟩)
  go_upto_region 8 with (fail)
  have HDr := Aside0.mk H8.out.drew
  refine start_ (n := 7) (S := fun w' => w'.cell? ⟨K.1, 0, none⟩ = some (.pointer (some ⟨K.2.1, 0, none⟩)) ∧ w'.cell? ⟨g8, 0, none⟩ = some (.int .i64 q.1) ∧ w'.cell? ⟨g8, 1, none⟩ = some (.int .i64 q.2) ∧ w'.cell? ⟨g9, 0, none⟩ = some (.bool m.leaf) ∧ w'.cell? ⟨g9, 1, none⟩ = some (.int .i64 m.ver) ∧ w'.cell? ⟨g9, 2, none⟩ = some (.slice ka1 m.keys.length kc1) ∧ w'.cell? ⟨g9, 3, none⟩ = some (.slice ra1 m.refs.length rc1)) (ds := []) #[false, false, false, false, false, false, false] (by kernel_rfl) rfl rfl (SP.out _ _ _ HDr.out) (fun hHeld => ?_)
  generalize W7.drew = wx0 at HDr hHeld ⊢
  refine pu_ 0 (some 43) ?_
  refine pu_ 1 (some 44) ?_
  refine pu_ 2 (some 45) ?_
  refine ta_ 3 (some 46) hHeld ?_ (hy := Or.inl ⟨by rfl, by rintro w' ⟨s0, s1, s2, s3, s4, s5, s6⟩; go_simp; with_reducible rfl⟩)
  refine ta_ 4 (some 47) hHeld ?_ (hy := Or.inl ⟨by rfl, by rintro w' ⟨s0, s1, s2, s3, s4, s5, s6⟩; go_simp; with_reducible rfl⟩)
  refine ta_ 5 (some 48) hHeld ?_ (hy := Or.inl ⟨by rfl, by rintro w' ⟨s0, s1, s2, s3, s4, s5, s6⟩; go_simp; with_reducible rfl⟩)
  refine on_ 6 (some 49) fun K_ hK => ?_
  refine goes_ Try.func112 (by kernel_rfl) rfl #[.pointer (some ⟨K.2.1, 0, none⟩), .agg #[.int .i64 q.1, .int .i64 q.2], .agg #[.bool m.leaf, .int .i64 m.ver, .slice ka1 m.keys.length kc1, .slice ra1 m.refs.length rc1]] (by rfl) rfl rfl (by simp only [List.map_toArray, List.map_cons, List.map_nil]; first | rfl | (go_simp; done) | (go_simp; rfl)) ?_
  refine (Mt.set HDr.out q (n := m) ⟨ka1, kc1, ra1, rc1, rfl, HR7.out⟩).mono ?_
  rintro e9 w9 ⟨rfl, hh⟩
  refine ⟨_, rfl, ?_⟩
  have H9 := Aside0.mk hh
  clear hh
  refine hK.out _ _ (SP.out _ _ _ H9.out) (fun hHeld => ?_)
  clear hK K_
  refine nm_ ?_
  refine done_ (by kernel_rfl) ?_
  clear SP hHeld
  obtain ⟨T0, hT0⟩ : ∃ T, t.set q m = T := ⟨_, rfl⟩
  rw [hT0] at H9 HU1
  clear hT0
  obtain ⟨BS, hBS⟩ : ∃ BS : List Ob, BS = (cb (g9 + 1) 33 #[.int .i64 r.1, .int .i64 r.2] :: cb g9 59 #[.bool m.leaf, .int .i64 m.ver, .slice ka1 m.keys.length kc1, .slice ra1 m.refs.length rc1] :: cb g8 33 #[.int .i64 q.1, .int .i64 q.2] :: (Aw ++ (cb w.heap.size 33 #[.int .i64 0, .int .i64 0] :: L))) := ⟨_, rfl⟩
  rw [← hBS] at H9
  have HBS := Aside0.mk hBS
  clear hBS
  go_wp2_with fail
  rw [ew]
  refine wp_act ?_
  intro aL haL
  rename_i KK hKK
  have REST : ∀ (v13 v14 v15 v16 v17 v53 v54 v55 v56 v57 v58 v59 v60 v61 v62 v63 v64 v65 v66 v67 v68 v69 v70 v71 v72 v73 v74 v75 v76 v77 v78 v79 v80 v81 v82 v83 v84 v85 v86 v87 v88 v89 v90 v91 v92 v93 v94 v95 v96 v97 v98 v99 v100 v101 v102 v103 : Value) (gad : Option Addr) (gc : Nat) (G : List Rf) (A Rp : List Ob) (T : Tm) (W : World), Gr 33 2 (.slice gad G.length gc) G.length (G.flatMap rcel) A → Mt w0 W K T .nilFunc Rp (A ++ BS) → Up2 k2 (T, G) p2 → KK { tmps := (((((((((((((((((((((((((((((((((((((((((((((((((((((((((aL.tmps.setIfInBounds 12 (.slice gad G.length gc)).setIfInBounds 13 v13).setIfInBounds 14 v14).setIfInBounds 15 v15).setIfInBounds 16 v16).setIfInBounds 17 v17).setIfInBounds 53 v53).setIfInBounds 54 v54).setIfInBounds 55 v55).setIfInBounds 56 v56).setIfInBounds 57 v57).setIfInBounds 58 v58).setIfInBounds 59 v59).setIfInBounds 60 v60).setIfInBounds 61 v61).setIfInBounds 62 v62).setIfInBounds 63 v63).setIfInBounds 64 v64).setIfInBounds 65 v65).setIfInBounds 66 v66).setIfInBounds 67 v67).setIfInBounds 68 v68).setIfInBounds 69 v69).setIfInBounds 70 v70).setIfInBounds 71 v71).setIfInBounds 72 v72).setIfInBounds 73 v73).setIfInBounds 74 v74).setIfInBounds 75 v75).setIfInBounds 76 v76).setIfInBounds 77 v77).setIfInBounds 78 v78).setIfInBounds 79 v79).setIfInBounds 80 v80).setIfInBounds 81 v81).setIfInBounds 82 v82).setIfInBounds 83 v83).setIfInBounds 84 v84).setIfInBounds 85 v85).setIfInBounds 86 v86).setIfInBounds 87 v87).setIfInBounds 88 v88).setIfInBounds 89 v89).setIfInBounds 90 v90).setIfInBounds 91 v91).setIfInBounds 92 v92).setIfInBounds 93 v93).setIfInBounds 94 v94).setIfInBounds 95 v95).setIfInBounds 96 v96).setIfInBounds 97 v97).setIfInBounds 98 v98).setIfInBounds 99 v99).setIfInBounds 100 v100).setIfInBounds 101 v101).setIfInBounds 102 v102).setIfInBounds 103 v103), defers := aL.defers } W := by
    intro v13 v14 v15 v16 v17 v53 v54 v55 v56 v57 v58 v59 v60 v61 v62 v63 v64 v65 v66 v67 v68 v69 v70 v71 v72 v73 v74 v75 v76 v77 v78 v79 v80 v81 v82 v83 v84 v85 v86 v87 v88 v89 v90 v91 v92 v93 v94 v95 v96 v97 v98 v99 v100 v101 v102 v103 gad gc G A Rp T W hG hM hU
    have HG1 := Aside0.mk hG
    have HM1 := Aside0.mk hM
    have HV := Aside0.mk hU
    clear hG hM hU
    refine hKK _ _ ?_
    subst haL
    clear hKK
    simp only [List.setIfInBounds_toArray, List.set_cons_zero, List.set_cons_succ]
    go_wp2_with fail
    go_loopg [12] k2 (fun kq v12 wr => ∃ (gad : Option Addr) (gc : Nat) (G : List Rf) (A Rp : List Ob) (T : Tm), v12 = .slice gad G.length gc ∧ Aside0 (Gr 33 2 (.slice gad G.length gc) G.length (G.flatMap rcel) A) ∧ Aside0 (Mt w0 wr K T .nilFunc Rp (A ++ BS)) ∧ Aside0 (Up2 kq (T, G) p2))
    case atStart => exact ⟨gad, gc, G, A, Rp, T, rfl, HG1, HM1, HV⟩
    case round =>
      clear HG1 HM1 HV
      obtain ⟨gad, gc, G, A, Rp, T, rfl, HG1, HM1, HV⟩ := hrel
      obtain ⟨rt, hrt⟩ : ∃ rt, T.root = rt := ⟨_, rfl⟩
      obtain ⟨nr, hnr⟩ : ∃ nr, T.at rt = nr := ⟨_, rfl⟩
      obtain ⟨c0, c1, c2, -, -, -, -⟩ := HM1.out.cells
      rw [hrt] at c1 c2
      have hcase := HV.out.inv
      simp only [] at hcase
      rw [hrt, hnr] at hcase
      have HN2 := Aside0.mk (And.intro hrt hnr)
      clear hrt hnr
      go_upto_region 21 with (go_at_call 111; go_loud (refine (at.calls HM1.out rt).mono ?_; rintro e2 w2 ⟨v, rfl, hnv, hh⟩; rw [HN2.out.2] at hnv; obtain ⟨kx, kxc, rx, rxc, ev, hr⟩ := hnv; have ev' : v = .agg #[.bool nr.leaf, .int .i64 nr.ver, .slice kx nr.keys.length kxc, .slice rx nr.refs.length rxc] := ev; subst ev'; clear ev; have HRx := Aside0.mk hr; have H2 := Aside0.mk hh; clear hh hr))
      obtain ⟨W3, hW, hM⟩ : ∃ W, W = _ ∧ Mt w0 W K T .nilFunc Rp (cb w2.heap.size 59 #[.bool nr.leaf, .int .i64 nr.ver, .slice kx nr.keys.length kxc, .slice rx nr.refs.length rxc] :: (A ++ BS)) := ⟨_, rfl, H2.out.alloc _⟩
      rw [← hW]
      have H3 := Aside0.mk hM
      clear hW hM c0 c1 c2
      generalize w2.heap.size = g18 at H3 ⊢
      obtain ⟨n0, n1, n2, n3, -, -, -, -⟩ := H3.out.other.c4 g18 59 (.bool nr.leaf) (.int .i64 nr.ver) (.slice kx nr.keys.length kxc) (.slice rx nr.refs.length rxc) (by simp)
      rcases hcase with ⟨hst, hp2⟩ | ⟨kk, rfl, hlf, hs1, hgg, hU⟩
      · have HP2 := Aside0.mk hp2
        clear hp2
        cases hlf : nr.leaf
        · have hne : nr.refs.length ≠ 1 := by rcases hst with h | h
                                              · rw [hlf] at h; cases h
                                              · exact h
          have hne2 : (nr.refs.length : Int) ≠ 1 := by omega
          have hne3 : ¬ (nr.refs.length : Int) = 1 := by omega
          clear hst hne
          rw [hlf] at n0 H3
          go_wp2_with (go_at_call 35; go_loud (refine (size.calls (Hv.start _) false nr.ver kx rx nr.keys.length kxc nr.refs.length rxc).mono ?_; rintro e4 w4 ⟨rfl, hh⟩; have H4 := Aside0.mk (H3.out.call hh.bel); clear hh; obtain ⟨d0, d1, -, -⟩ := H4.out.other.c2 (g9 + 1) 33 (.int .i64 r.1) (.int .i64 r.2) (by simp [HBS.out]); obtain ⟨q0, q1, qf0, qf1⟩ := H4.out.other.c2 w.heap.size 33 (.int .i64 0) (.int .i64 0) (by simp [HBS.out])))
          have h9 : Mt w0 w4 K T .nilFunc Rp (((cb g18 59 #[.bool false, .int .i64 nr.ver, .slice kx nr.keys.length kxc, .slice rx nr.refs.length rxc] :: A) ++ (cb (g9 + 1) 33 #[.int .i64 r.1, .int .i64 r.2] :: cb g9 59 #[.bool m.leaf, .int .i64 m.ver, .slice ka1 m.keys.length kc1, .slice ra1 m.refs.length rc1] :: cb g8 33 #[.int .i64 q.1, .int .i64 q.2] :: Aw)) ++ cb w.heap.size 33 #[.int .i64 0, .int .i64 0] :: L) := by have := H4.out; rw [HBS.out] at this; simpa [List.append_assoc] using this
          have h10 := Mt.put (Mt.put h9 0 (.int .i64 r.1) rfl) 1 (.int .i64 r.2) rfl
          obtain ⟨wg, hw, hg⟩ : ∃ wg, wg = _ ∧ Mt w0 wg K T .nilFunc Rp (((cb g18 59 #[.bool false, .int .i64 nr.ver, .slice kx nr.keys.length kxc, .slice rx nr.refs.length rxc] :: A) ++ (cb (g9 + 1) 33 #[.int .i64 r.1, .int .i64 r.2] :: cb g9 59 #[.bool m.leaf, .int .i64 m.ver, .slice ka1 m.keys.length kc1, .slice ra1 m.refs.length rc1] :: cb g8 33 #[.int .i64 q.1, .int .i64 q.2] :: Aw)) ++ cb w.heap.size 33 #[.int .i64 r.1, .int .i64 r.2] :: L) := ⟨_, rfl, h10⟩
          rw [← hw]
          obtain ⟨e0, e1, -, -⟩ := hg.other.c2 w.heap.size 33 (.int .i64 r.1) (.int .i64 r.2) (by simp)
          have hp2 := HP2.out
          rw [hp2]
          exact bodyPost_ret (v := .tuple #[.agg #[.int .i64 r.1, .int .i64 r.2], .slice gad G.length gc, .bool true]) (by simp [results, Try.results64, go_sem, e0, e1, hu33]) rfl ⟨gad, gc, A, Rp, rfl, HG1.out, hg.drop (by
            rw [List.append_assoc, List.cons_append]
            exact (List.Sublist.append_left ((List.sublist_cons_self _ _).trans (List.sublist_append_right _ _)) A).trans (List.sublist_cons_self _ _))⟩
        · clear hst
          rw [hlf] at n0 H3
          obtain ⟨d0, d1, -, -⟩ := H3.out.other.c2 (g9 + 1) 33 (.int .i64 r.1) (.int .i64 r.2) (by simp [HBS.out])
          obtain ⟨q0, q1, qf0, qf1⟩ := H3.out.other.c2 w.heap.size 33 (.int .i64 0) (.int .i64 0) (by simp [HBS.out])
          go_wp2_with fail
          have h9 : Mt w0 W3 K T .nilFunc Rp (((cb g18 59 #[.bool true, .int .i64 nr.ver, .slice kx nr.keys.length kxc, .slice rx nr.refs.length rxc] :: A) ++ (cb (g9 + 1) 33 #[.int .i64 r.1, .int .i64 r.2] :: cb g9 59 #[.bool m.leaf, .int .i64 m.ver, .slice ka1 m.keys.length kc1, .slice ra1 m.refs.length rc1] :: cb g8 33 #[.int .i64 q.1, .int .i64 q.2] :: Aw)) ++ cb w.heap.size 33 #[.int .i64 0, .int .i64 0] :: L) := by have := H3.out; rw [HBS.out] at this; simpa [List.append_assoc] using this
          have h10 := Mt.put (Mt.put h9 0 (.int .i64 r.1) rfl) 1 (.int .i64 r.2) rfl
          obtain ⟨wg, hw, hg⟩ : ∃ wg, wg = _ ∧ Mt w0 wg K T .nilFunc Rp (((cb g18 59 #[.bool true, .int .i64 nr.ver, .slice kx nr.keys.length kxc, .slice rx nr.refs.length rxc] :: A) ++ (cb (g9 + 1) 33 #[.int .i64 r.1, .int .i64 r.2] :: cb g9 59 #[.bool m.leaf, .int .i64 m.ver, .slice ka1 m.keys.length kc1, .slice ra1 m.refs.length rc1] :: cb g8 33 #[.int .i64 q.1, .int .i64 q.2] :: Aw)) ++ cb w.heap.size 33 #[.int .i64 r.1, .int .i64 r.2] :: L) := ⟨_, rfl, h10⟩
          rw [← hw]
          obtain ⟨e0, e1, -, -⟩ := hg.other.c2 w.heap.size 33 (.int .i64 r.1) (.int .i64 r.2) (by simp)
          have hp2 := HP2.out
          rw [hp2]
          exact bodyPost_ret (v := .tuple #[.agg #[.int .i64 r.1, .int .i64 r.2], .slice gad G.length gc, .bool true]) (by simp [results, Try.results64, go_sem, e0, e1, hu33]) rfl ⟨gad, gc, A, Rp, rfl, HG1.out, hg.drop (by
            rw [List.append_assoc, List.cons_append]
            exact (List.Sublist.append_left ((List.sublist_cons_self _ _).trans (List.sublist_append_right _ _)) A).trans (List.sublist_cons_self _ _))⟩
      · have hs2 : (nr.refs.length : Int) = 1 := by omega
        obtain ⟨x0, hx0⟩ : ∃ x, nr.refs[0]? = some x := ⟨_, List.getElem?_eq_getElem (by omega)⟩
        obtain ⟨T2, hT2⟩ : ∃ T2, T.leave rt = T2 := ⟨_, rfl⟩
        have hsk : T.sink = { T2 with root := x0 } := by unfold Tm.sink; rw [HN2.out.1, hT2, HN2.out.2]; unfold refI; rw [List.getD_eq_getElem?_getD, hx0]; rfl
        have hrt2 : T2.root = rt := by rw [← hT2, ← HN2.out.1]; unfold Tm.leave; exact (set_gone T T.root _).2
        have HS := Aside0.mk (And.intro hx0 (And.intro hT2 (And.intro hsk (And.intro hrt2 (And.intro hgg (And.intro hs1 hU))))))
        rw [hlf] at n0 H3
        clear hx0 hT2 hsk hrt2 hgg hU hs1
        go_upto_region 24 with (first | (go_at_call 35; go_loud (refine (size.calls (Hv.start _) false nr.ver kx rx nr.keys.length kxc nr.refs.length rxc).mono ?_; rintro e4 w4 ⟨rfl, hh⟩; have H4 := Aside0.mk (H3.out.call hh.bel); clear hh; obtain ⟨c0, c1, c2, -, -, -, -⟩ := H4.out.cells; rw [HN2.out.1] at c1 c2)) | (go_at_call 115; go_loud (refine (leave.calls H4.out rt HS.out.2.2.2.2.1).mono ?_; rw [HS.out.2.1]; rintro e5 w5 ⟨rfl, hh⟩; have H5 := Aside0.mk hh; clear hh; clear c0 c1 c2; obtain ⟨c0, c1, c2, -, -, -, -⟩ := H5.out.cells; rw [HS.out.2.2.2.1] at c1 c2)))
        have hal := H5.out.alloc (.cells #[.int .i64 rt.1, .int .i64 rt.2] 33)
        obtain ⟨Qx, hq, back⟩ := Mt.lensX (B := [cb w5.heap.size 33 #[.int .i64 rt.1, .int .i64 rt.2], cb g18 59 #[.bool false, .int .i64 nr.ver, .slice kx nr.keys.length kxc, .slice rx nr.refs.length rxc]]) (X := A) (L := BS) hal
        have HQx := Aside0.mk (And.intro hq (And.intro back ((Rdy.of_rw (w0 := w0) (size := 2) (n := 1) (e := 33) (c := 1) (xs := rcel rt) (ad := some ⟨w5.heap.size, 0, none⟩) (L := [cb w5.heap.size 33 #[.int .i64 rt.1, .int .i64 rt.2]]) ⟨rfl, Nat.le_refl _, fun _ => ⟨w5.heap.size, 0, #[.int .i64 rt.1, .int .i64 rt.2], rfl, by simp, fun i _ => by rw [Nat.zero_add]; simp [rcel]⟩⟩) _ _ hal.other (fun z hz => by rw [List.mem_singleton.1 hz]; simp))))
        clear hq back hal
        have HBB := Aside0.mk (show (G.length + 1) * 16 ≤ 140737488355328 by
          have h1 := HS.out.2.2.2.2.2.2.len
          have h3 := HU2.out.2
          simp only [List.length_append, List.length_singleton] at h1
          omega)
        go_upto_region 25 with ((with_reducible refine gate_builtin (b := .append) (xs := #[.tmp 125, .tmp 130]) rfl ?_); at_builtin; go_loud (refine append_rows (w0 := w0) (A := A) (L := Qx) rfl (.tmp 125) (.tmp 130) 31 33 (.agg #[.int .i64 0, .int .i64 0]) 2 16 rfl Try.underlying31 infoR rfl (by decide) (by decide) (.slice gad G.length gc) G.length (G.flatMap rcel) rfl (some ⟨w5.heap.size, 0, none⟩) 1 1 (rcel rt) rfl (by intro u hu; simp [rcel] at hu; rcases hu with rfl | rfl <;> rfl) HG1.out HQx.out.1 HQx.out.2.2 HBB.out ?_; intro v11 w11 A11 hG11 hv11; obtain ⟨ad11, c11, rfl, -⟩ := hG11.form; have HG11 := Aside0.mk hG11; have H11 := Aside0.mk (show Mt w0 w11 K T2 .nilFunc Rp ([cb w5.heap.size 33 #[.int .i64 rt.1, .int .i64 rt.2], cb g18 59 #[.bool false, .int .i64 nr.ver, .slice kx nr.keys.length kxc, .slice rx nr.refs.length rxc]] ++ (A11 ++ BS)) from HQx.out.2.1 w11 A11 hv11); clear hG11 hv11; clear c0 c1 c2))
        obtain ⟨c0, c1, c2, -, f1, f2, -⟩ := H11.out.cells
        obtain ⟨-, -, -, n3, -, -, -, -⟩ := H11.out.other.c4 g18 59 (.bool false) (.int .i64 nr.ver) (.slice kx nr.keys.length kxc) (.slice rx nr.refs.length rxc) (by simp)
        obtain ⟨rx0, hrx0, hcl⟩ := (H11.out.rd HRx.out.r).2 (by have := HS.out.2.2.2.2.2.1; omega)
        subst hrx0
        obtain ⟨r0, r1⟩ := rcel_get nr.refs 0 x0 HS.out.1
        have v0 : w11.cell? rx0 = some (.int .i64 x0.1) := hcl _ _ r0
        have v1 : w11.cell? { block := rx0.block, off := rx0.off + 1 } = some (.int .i64 x0.2) := hcl _ _ r1
        clear hcl r0 r1
        have hlt0 : (0 : Int) < (nr.refs.length : Int) := by omega
        go_wp2_with fail
        go_roundg kk
        case measure => omega
        case rel =>
          refine ⟨ad11, c11, G ++ [rt], A11, Rp, { T2 with root := x0 }, by rw [List.length_append, List.length_singleton], ?_, ?_, ⟨?_⟩⟩
          · have := HG11.out
            rw [List.length_append, List.length_singleton, List.flatMap_append]
            exact ⟨by simpa using this⟩
          · exact ⟨(H11.out.setRoot x0).tail.tail⟩
          · have this : Up2 kk (T.sink, G ++ [rt]) p2 := by have h := HS.out.2.2.2.2.2.2; first | exact h | (rw [HN2.out.1] at h; exact h)
            rw [HS.out.2.2.1] at this
            exact this
  subst haL
  simp only [List.setIfInBounds_toArray, List.set_cons_zero, List.set_cons_succ] at REST
  have HRE := Aside0.mk REST
  clear REST hKK
  go_loopg [12, 13] l.length (fun kq v12 v13 wr => ∃ (i : Nat) (gad : Option Addr) (gc : Nat) (G : List Rf) (A Rp : List Ob) (T : Tm), v12 = .slice gad G.length gc ∧ v13 = .int .i64 (i : Int) ∧ kq = i ∧ i ≤ l.length ∧ Aside0 (Gr 33 2 (.slice gad G.length gc) G.length (G.flatMap rcel) A) ∧ Aside0 (Mt w0 wr K T .nilFunc Rp (A ++ BS)) ∧ Aside0 (Up1 s i (T, G) p1))
  case atStart => exact ⟨l.length, none, 0, [], [], A1 ++ R, T0, rfl, rfl, rfl, Nat.le_refl _, ⟨Gr.nil 33 2⟩, H9, HU1⟩
  case round =>
    obtain ⟨i, gad, gc, G, A, Rp, T, rfl, rfl, rfl, hil0, HG1, HM1, HV⟩ := hrel
    rcases HV.out.inv with ⟨rfl, hp1⟩ | ⟨k, rfl, hcase⟩
    · go_wp2_with fail
      exact HRE.out _ _ _ _ _ _ _ _ _ _ _ _ _ _ _ _ _ _ _ _ _ _ _ _ _ _ _ _ _ _ _ _ _ _ _ _ _ _ _ _ _ _ _ _ _ _ _ _ _ _ _ _ _ _ _ _ _ _ _ _ _ _ _  HG1.out HM1.out (by rw [hp1] at HU2; exact HU2.out.1)
    · obtain ⟨x, hx⟩ : ∃ x, s[k + 1]? = some x := ⟨_, List.getElem?_eq_getElem (by have := HL.out.2.2.1; omega)⟩
      obtain ⟨u, hu⟩ : ∃ u, s[k]? = some u := ⟨_, List.getElem?_eq_getElem (by have := HL.out.2.2.1; omega)⟩
      have hgx : s.getD (k + 1) (0, 0) = x := by rw [List.getD_eq_getElem?_getD, hx]; rfl
      have hgu : s.getD k (0, 0) = u := by rw [List.getD_eq_getElem?_getD, hu]; rfl
      rw [hgx, hgu] at hcase
      obtain ⟨nx, hnx⟩ : ∃ nx, T.at x = nx := ⟨_, rfl⟩
      rw [hnx] at hcase
      have HX := Aside0.mk (And.intro hx (And.intro hu hnx))
      have HI := Aside0.mk hil0
      clear hx hu hnx hgx hgu
      have hgt : (0 : Int) < ((k + 1 : Nat) : Int) := by omega
      have hgt2 : (0 : Int) < (k : Int) + 1 := by omega
      have hge0 : (0 : Int) ≤ (k : Int) + 1 := by omega
      have hxl : (k : Int) + 1 < (s.length : Int) := by have := HL.out.2.2.1; omega
      have hul : (k : Int) < (s.length : Int) := by omega
      have ewk : wrap64 (((k + 1 : Nat) : Int) - 1) = (k : Int) := by have := HL.out.1; unfold wrap64; omega
      have ewk3 : wrap64 (k : Int) = (k : Int) := by have := HL.out.1; unfold wrap64; omega
      have ewk2 : wrap64 ((k : Int) + 1 - 1) = (k : Int) := by have := HL.out.1; unfold wrap64; omega
      obtain ⟨wa', ea, hcl⟩ := (HRw.out _ _ HM1.out.other (fun z hz => by simp [HBS.out, hz])).2 (by have := HL.out.2.2.1; omega)
      cases ea
      obtain ⟨r0, r1⟩ := rcel_get s (k + 1) x HX.out.1
      have v0 := hcl _ _ r0
      have v1' := hcl _ _ r1
      rw [← Addr.add_add] at v1'
      have v1 : World.cell? _ { block := (wa.add ((k + 1) * 2)).block, off := (wa.add ((k + 1) * 2)).off + 1 } = some (.int .i64 x.2) := v1'
      clear hcl r0 r1 v1'
      rcases hcase with ⟨hnb, hp1⟩ | ⟨hsm, hjo, hcase⟩
      · have hlt2 : ¬ (nx.refs.length : Int) < 2 := by omega
        have HP1 := Aside0.mk hp1
        clear hp1 hnb
        go_wp2_with (first | (go_at_call 35; go_loud (refine (size.calls (Hv.start _) nx.leaf nx.ver kx rx nx.keys.length kxc nx.refs.length rxc).mono ?_; rintro e3 w3 ⟨rfl, hh⟩; have H3 := Aside0.mk (H2.out.call hh.bel); clear hh)) | (go_at_call 111; go_loud (refine (at.calls HM1.out x).mono ?_; rintro e2 w2 ⟨v, rfl, hnv, hh⟩; rw [HX.out.2.2] at hnv; obtain ⟨kx, kxc, rx, rxc, ev, hr⟩ := hnv; have ev' : v = .agg #[.bool nx.leaf, .int .i64 nx.ver, .slice kx nx.keys.length kxc, .slice rx nx.refs.length rxc] := ev; subst ev'; clear ev hr; have H2 := Aside0.mk hh; clear hh)))
        exact HRE.out _ _ _ _ _ _ _ _ _ _ _ _ _ _ _ _ _ _ _ _ _ _ _ _ _ _ _ _ _ _ _ _ _ _ _ _ _ _ _ _ _ _ _ _ _ _ _ _ _ _ _ _ _ _ _ _ _ _ _ _ _ _ _  HG1.out H3.out (by rw [HP1.out] at HU2; exact HU2.out.1)
      · have hlt2 : (nx.refs.length : Int) < 2 := by omega
        have HC := Aside0.mk (And.intro hjo hcase)
        clear hjo hcase hsm
        obtain ⟨pu, hpu⟩ : ∃ pu, T.at u = pu := ⟨_, rfl⟩
        obtain ⟨ix, hix⟩ : ∃ ix, idx x pu.refs = ix := ⟨_, rfl⟩
        have hix2 : -1 ≤ ix ∧ ix ≤ 1000000 := by
          have h1 := HC.out.1.ok.r
          rw [hpu] at h1
          rw [← hix]
          unfold idx
          split <;> omega
        have ewi : wrap64 (ix - 1) = ix - 1 := by unfold wrap64; omega
        have HPU := Aside0.mk (And.intro hpu (And.intro hix hix2))
        clear hpu hix hix2
        go_upto_region 13 with (first | (go_at_call 35; go_loud (refine (size.calls (Hv.start _) nx.leaf nx.ver kx rx nx.keys.length kxc nx.refs.length rxc).mono ?_; rintro e3 w3 ⟨rfl, hh⟩; have H3 := Aside0.mk (H2.out.call hh.bel); clear hh)) | (go_at_call 111; go_loud (refine (at.calls HM1.out x).mono ?_; rintro e2 w2 ⟨v, rfl, hnv, hh⟩; rw [HX.out.2.2] at hnv; obtain ⟨kx, kxc, rx, rxc, ev, hr⟩ := hnv; have ev' : v = .agg #[.bool nx.leaf, .int .i64 nx.ver, .slice kx nx.keys.length kxc, .slice rx nx.refs.length rxc] := ev; subst ev'; clear ev hr; have H2 := Aside0.mk hh; clear hh)))
        clear v0 v1
        obtain ⟨wa', ea, hcl⟩ := (HRw.out _ _ H3.out.other (fun z hz => by simp [HBS.out, hz])).2 (by have := HL.out.2.2.1; omega)
        cases ea
        obtain ⟨r0, r1⟩ := rcel_get s (k + 1) x HX.out.1
        have v0 := hcl _ _ r0
        have v1' := hcl _ _ r1
        rw [← Addr.add_add] at v1'
        have v1 : World.cell? _ { block := (wa.add ((k + 1) * 2)).block, off := (wa.add ((k + 1) * 2)).off + 1 } = some (.int .i64 x.2) := v1'
        obtain ⟨r2, r3⟩ := rcel_get s k u HX.out.2.1
        have v2 := hcl _ _ r2
        have v3' := hcl _ _ r3
        rw [← Addr.add_add] at v3'
        have v3 : World.cell? _ { block := (wa.add (k * 2)).block, off := (wa.add (k * 2)).off + 1 } = some (.int .i64 u.2) := v3'
        clear r2 r3 v3'
        clear hcl r0 r1 v1'
        go_upto_region 14 with (fail)
        obtain ⟨W4, hW, hM⟩ : ∃ W, W = _ ∧ Mt w0 W K T .nilFunc Rp (cb w3.heap.size 33 #[.int .i64 u.1, .int .i64 u.2] :: (A ++ BS)) := ⟨_, rfl, H3.out.alloc _⟩
        rw [← hW]
        have H4 := Aside0.mk hM
        clear hW hM v0 v1 v2 v3
        generalize w3.heap.size = g14 at H4 ⊢
        have SP := Aside0.mk (show ∀ (w' : World) (L' : List Ob), Hv w0 w' L' → cb g14 33 #[.int .i64 u.1, .int .i64 u.2] ∈ L' → (∀ z ∈ BS, z ∈ L') → (w'.cell? ⟨g14, 0, none⟩ = some (.int .i64 u.1) ∧ w'.cell? ⟨g14, 1, none⟩ = some (.int .i64 u.2) ∧ w'.cell? (wa.add ((k + 1) * 2)) = some (.int .i64 x.1) ∧ w'.cell? { block := (wa.add ((k + 1) * 2)).block, off := (wa.add ((k + 1) * 2)).off + 1 } = some (.int .i64 x.2)) from fun w' L' h m1 m2 => by
          obtain ⟨x0, x1, -, -⟩ := h.c2 _ _ _ _ m1
          obtain ⟨wa', ea, hcl⟩ := (HRw.out _ _ h (fun z hz => m2 z (by simp [HBS.out, hz]))).2 (by have := HL.out.2.2.1; omega)
          cases ea
          obtain ⟨r0, r1⟩ := rcel_get s (k + 1) x HX.out.1
          have v0 := hcl _ _ r0
          have v1' := hcl _ _ r1
          rw [← Addr.add_add] at v1'
          exact ⟨x0, x1, v0, v1'⟩)
        have HD4 := Aside0.mk H4.out.drew
        have hf3 := fld3
        refine start_ (n := 10) (S := fun w' => w'.cell? ⟨g14, 0, none⟩ = some (.int .i64 u.1) ∧ w'.cell? ⟨g14, 1, none⟩ = some (.int .i64 u.2) ∧ w'.cell? (wa.add ((k + 1) * 2)) = some (.int .i64 x.1) ∧ w'.cell? { block := (wa.add ((k + 1) * 2)).block, off := (wa.add ((k + 1) * 2)).off + 1 } = some (.int .i64 x.2)) (ds := []) #[false, false, false, false, false, false, false, false, false, false] (by kernel_rfl) rfl rfl (SP.out _ _ HD4.out.other (by simp) (fun z hz => by simp [hz])) (fun hHeld => ?_)
        generalize W4.drew = wx4 at HD4 hHeld ⊢
        refine pu_ 0 (some 72) ?_
        refine pu_ 4 (some 76) ?_
        refine pu_ 5 (some 77) ?_
        refine pu_ 6 (some 78) ?_
        refine ta_ 1 (some 73) hHeld ?_ (hy := Or.inl ⟨by rfl, by rintro w' ⟨s0, s1, s2, s3⟩; go_simp; with_reducible rfl⟩)
        refine ta_ 7 (some 79) hHeld ?_ (hy := Or.inl ⟨by rfl, by rintro w' ⟨s0, s1, s2, s3⟩; go_simp; with_reducible rfl⟩)
        refine on_ 2 (some 74) fun K_ hK => ?_
        refine goes_ Try.func111 (by kernel_rfl) rfl #[.pointer (some ⟨K.1, 0, none⟩), .agg #[.int .i64 u.1, .int .i64 u.2]] (by rfl) rfl rfl (by simp only [List.map_toArray, List.map_cons, List.map_nil]; first | rfl | (go_simp; done) | (go_simp; rfl)) ?_
        refine (at.calls HD4.out u).mono ?_
        rintro e5 w5 ⟨v, rfl, hnv, hh⟩
        refine ⟨_, rfl, ?_⟩
        rw [HPU.out.1] at hnv
        obtain ⟨ku, kuc, ru, ruc, ev, hr⟩ := hnv
        have ev' : v = .agg #[.bool pu.leaf, .int .i64 pu.ver, .slice ku pu.keys.length kuc, .slice ru pu.refs.length ruc] := ev
        subst ev'
        clear ev
        have HRu := Aside0.mk hr
        have H5 := Aside0.mk hh
        clear hh hr
        refine hK.out _ _ (SP.out _ _ H5.out.other (by simp) (fun z hz => by simp [hz])) (fun hHeld => ?_)
        clear hK K_
        refine nm_ ?_
        refine pu_ 3 (some 75) ?_
        refine on_ 8 (some 80) fun K_ hK => ?_
        refine goes_ Try.func113 (by kernel_rfl) rfl #[.slice ru pu.refs.length ruc, .agg #[.int .i64 x.1, .int .i64 x.2]] (by rfl) rfl rfl (by simp only [List.map_toArray, List.map_cons, List.map_nil]; first | rfl | (go_simp; done) | (go_simp; rfl)) ?_
        obtain ⟨Lf, hL, hRf, hLf, back⟩ := H5.out.lens
        refine (index.calls (w0 := w0) (L := Lf) hL pu.refs (by have := HC.out.1.ok.r; rw [HPU.out.1] at this; exact this) (HRu.out.r.mono hRf) x).mono ?_
        rw [HPU.out.2.1]
        rintro e6 w6 ⟨rfl, hh⟩
        refine ⟨_, rfl, ?_⟩
        have H6 := Aside0.mk (show Mt w0 w6 K T .nilFunc Rp (cb g14 33 #[.int .i64 u.1, .int .i64 u.2] :: (A ++ BS)) from back w6 [] hh)
        clear back hL hRf hLf hh
        refine hK.out _ _ (SP.out _ _ H6.out.other (by simp) (fun z hz => by simp [hz])) (fun hHeld => ?_)
        clear hK K_
        refine nm_ ?_
        refine pu_ 9 (some 15) ?_
        refine done_ (by kernel_rfl) ?_
        clear SP hHeld
        obtain ⟨T1, gr1, b1, hj1⟩ : ∃ T1 gr b, T.join u (ix - 1) = (T1, gr, b) := ⟨_, _, _, rfl⟩
        obtain ⟨T2, gr2, b2, hj2⟩ : ∃ T1 gr b, T.join u ix = (T1, gr, b) := ⟨_, _, _, rfl⟩
        have hmg : T.merge u x = if b1 then (T1, gr1, b1) else (T2, gr2, b2) := by unfold Tm.merge; simp only []; rw [HPU.out.1, HPU.out.2.1, hj1, hj2]
        have HJ := Aside0.mk (And.intro hj1 (And.intro hj2 hmg))
        clear hj1 hj2 hmg
        obtain ⟨x0, x1, -, -⟩ := H6.out.other.c2 g14 33 (.int .i64 u.1) (.int .i64 u.2) (by simp)
        go_upto_region 16 with (go_at_call 114; go_loud (refine (tjoin.calls H6.out u (ix - 1) (by have := HPU.out.2.2; omega) HC.out.1).mono ?_; rw [HJ.out.1]; rintro e7 w7 ⟨R7, rfl, hh⟩; have H7 := Aside0.mk hh; clear hh))
        obtain ⟨W8, hW, hM⟩ : ∃ W, W = _ ∧ Mt w0 W K T1 .nilFunc R7 (cb w7.heap.size 33 #[.int .i64 gr1.1, .int .i64 gr1.2] :: cb g14 33 #[.int .i64 u.1, .int .i64 u.2] :: (A ++ BS)) := ⟨_, rfl, H7.out.alloc _⟩
        rw [← hW]
        have H8 := Aside0.mk hM
        clear hW hM x0 x1
        generalize w7.heap.size = g16 at H8 ⊢
        cases b1
        · have hT1 : T1 = T := by have := join_no (t := T) (up := u) (i := ix - 1) (by rw [HJ.out.1]); rw [HJ.out.1] at this; exact (Prod.ext_iff.1 this).1
          subst hT1
          obtain ⟨x0, x1, -, -⟩ := H8.out.other.c2 g14 33 (.int .i64 u.1) (.int .i64 u.2) (by simp)
          obtain ⟨y0, y1, yf0, yf1⟩ := H8.out.other.c2 g16 33 (.int .i64 gr1.1) (.int .i64 gr1.2) (by simp)
          go_upto_region 18 with (go_at_call 114; go_loud (refine (tjoin.calls H8.out u ix HPU.out.2.2.2 HC.out.1).mono ?_; rw [HJ.out.2.1]; rintro e9 w9 ⟨R9, rfl, hh⟩; have H9 := Aside0.mk hh; clear hh; clear y0 y1 yf0 yf1; obtain ⟨y0, y1, yf0, yf1⟩ := H9.out.other.c2 g16 33 (.int .i64 gr1.1) (.int .i64 gr1.2) (by simp)))
          obtain ⟨W10, hW, hM⟩ : ∃ W, W = _ ∧ Mt w0 W K T2 .nilFunc R9 (cb g16 33 #[.int .i64 gr2.1, .int .i64 gr2.2] :: cb g14 33 #[.int .i64 u.1, .int .i64 u.2] :: (A ++ BS)) := ⟨_, rfl, (H9.out.putB0 0 _ rfl).putB0 1 _ rfl⟩
          rw [← hW]
          have H10 := Aside0.mk hM
          clear hW hM x0 x1 y0 y1 yf0 yf1
          cases b2
          · have hT2 : T2 = T1 := by have := join_no (t := T1) (up := u) (i := ix) (by rw [HJ.out.2.1]); rw [HJ.out.2.1] at this; exact (Prod.ext_iff.1 this).1
            subst hT2
            have hp1 : p1 = (T2, G) := by
              rcases HC.out.2 with ⟨_, h⟩ | ⟨h, _⟩
              · exact h
              · rw [HJ.out.2.2] at h; cases h
            have HP1 := Aside0.mk hp1
            clear hp1
            go_wp2_with fail
            exact HRE.out _ _ _ _ _ _ _ _ _ _ _ _ _ _ _ _ _ _ _ _ _ _ _ _ _ _ _ _ _ _ _ _ _ _ _ _ _ _ _ _ _ _ _ _ _ _ _ _ _ _ _ _ _ _ _ _ _ _ _ _ _ _ _  HG1.out H10.out.tail.tail (by rw [HP1.out] at HU2; exact HU2.out.1)
          · have hu1 : Up1 s k (T2, G ++ [gr2]) p1 := by
              rcases HC.out.2 with ⟨h, _⟩ | ⟨_, h⟩
              · rw [HJ.out.2.2] at h; cases h
              · rw [HJ.out.2.2] at h; exact h
            have HV2 := Aside0.mk hu1
            have HBB := Aside0.mk (show (G.length + 1) * 16 ≤ 140737488355328 by
              have h1 := hu1.len
              have h2 := HU2.out.1.len
              have h3 := HU2.out.2
              simp only [List.length_append, List.length_singleton] at h1
              omega)
            clear hu1
            obtain ⟨y0, y1, -, -⟩ := H10.out.other.c2 g16 33 (.int .i64 gr2.1) (.int .i64 gr2.2) (by simp)
            have hal := H10.out.alloc (.cells #[.int .i64 gr2.1, .int .i64 gr2.2] 33)
            obtain ⟨Qx, hq, back⟩ := Mt.lensX (B := [cb W10.heap.size 33 #[.int .i64 gr2.1, .int .i64 gr2.2], cb g16 33 #[.int .i64 gr2.1, .int .i64 gr2.2], cb g14 33 #[.int .i64 u.1, .int .i64 u.2]]) (X := A) (L := BS) hal
            have HQx := Aside0.mk (And.intro hq (And.intro back ((Rdy.of_rw (w0 := w0) (size := 2) (n := 1) (e := 33) (c := 1) (xs := rcel gr2) (ad := some ⟨W10.heap.size, 0, none⟩) (L := [cb W10.heap.size 33 #[.int .i64 gr2.1, .int .i64 gr2.2]]) ⟨rfl, Nat.le_refl _, fun _ => ⟨W10.heap.size, 0, #[.int .i64 gr2.1, .int .i64 gr2.2], rfl, by simp, fun i _ => by rw [Nat.zero_add]; simp [rcel]⟩⟩) _ _ hal.other (fun z hz => by rw [List.mem_singleton.1 hz]; simp))))
            clear hq back hal
            go_wp2_with ((with_reducible refine gate_builtin (b := .append) (xs := #[.tmp 100, .tmp 102]) rfl ?_); at_builtin; go_loud (refine append_rows (w0 := w0) (A := A) (L := Qx) rfl (.tmp 100) (.tmp 102) 31 33 (.agg #[.int .i64 0, .int .i64 0]) 2 16 rfl Try.underlying31 infoR rfl (by decide) (by decide) (.slice gad G.length gc) G.length (G.flatMap rcel) rfl (some ⟨W10.heap.size, 0, none⟩) 1 1 (rcel gr2) rfl (by intro u hu; simp [rcel] at hu; rcases hu with rfl | rfl <;> rfl) HG1.out HQx.out.1 HQx.out.2.2 HBB.out ?_; intro v11 w11 A11 hG11 hv11; obtain ⟨ad11, c11, rfl, -⟩ := hG11.form; have HG11 := Aside0.mk hG11; have H11 := Aside0.mk (HQx.out.2.1 w11 A11 hv11); clear hG11 hv11))
            go_roundg k
            case measure => omega
            case rel =>
              refine ⟨k, ad11, c11, G ++ [gr2], A11, R9, T2, by rw [List.length_append, List.length_singleton], ?_, rfl, by have := HI.out; omega, ?_, ⟨?_⟩, HV2⟩
              · first | rfl | (rw [ewk]) | (rw [ewk2]) | (rw [ewk3])
              · have := HG11.out
                rw [List.length_append, List.length_singleton, List.flatMap_append]
                exact ⟨by simpa using this⟩
              · exact H11.out.tail.tail.tail
        · have hu1 : Up1 s k (T1, G ++ [gr1]) p1 := by
            rcases HC.out.2 with ⟨h, _⟩ | ⟨_, h⟩
            · rw [HJ.out.2.2] at h; cases h
            · rw [HJ.out.2.2] at h; exact h
          have HV2 := Aside0.mk hu1
          have HBB := Aside0.mk (show (G.length + 1) * 16 ≤ 140737488355328 by
            have h1 := hu1.len
            have h2 := HU2.out.1.len
            have h3 := HU2.out.2
            simp only [List.length_append, List.length_singleton] at h1
            omega)
          clear hu1
          obtain ⟨y0, y1, -, -⟩ := H8.out.other.c2 g16 33 (.int .i64 gr1.1) (.int .i64 gr1.2) (by simp)
          have hal := H8.out.alloc (.cells #[.int .i64 gr1.1, .int .i64 gr1.2] 33)
          obtain ⟨Qx, hq, back⟩ := Mt.lensX (B := [cb W8.heap.size 33 #[.int .i64 gr1.1, .int .i64 gr1.2], cb g16 33 #[.int .i64 gr1.1, .int .i64 gr1.2], cb g14 33 #[.int .i64 u.1, .int .i64 u.2]]) (X := A) (L := BS) hal
          have HQx := Aside0.mk (And.intro hq (And.intro back ((Rdy.of_rw (w0 := w0) (size := 2) (n := 1) (e := 33) (c := 1) (xs := rcel gr1) (ad := some ⟨W8.heap.size, 0, none⟩) (L := [cb W8.heap.size 33 #[.int .i64 gr1.1, .int .i64 gr1.2]]) ⟨rfl, Nat.le_refl _, fun _ => ⟨W8.heap.size, 0, #[.int .i64 gr1.1, .int .i64 gr1.2], rfl, by simp, fun i _ => by rw [Nat.zero_add]; simp [rcel]⟩⟩) _ _ hal.other (fun z hz => by rw [List.mem_singleton.1 hz]; simp))))
          clear hq back hal
          go_wp2_with ((with_reducible refine gate_builtin (b := .append) (xs := #[.tmp 100, .tmp 102]) rfl ?_); at_builtin; go_loud (refine append_rows (w0 := w0) (A := A) (L := Qx) rfl (.tmp 100) (.tmp 102) 31 33 (.agg #[.int .i64 0, .int .i64 0]) 2 16 rfl Try.underlying31 infoR rfl (by decide) (by decide) (.slice gad G.length gc) G.length (G.flatMap rcel) rfl (some ⟨W8.heap.size, 0, none⟩) 1 1 (rcel gr1) rfl (by intro u hu; simp [rcel] at hu; rcases hu with rfl | rfl <;> rfl) HG1.out HQx.out.1 HQx.out.2.2 HBB.out ?_; intro v11 w11 A11 hG11 hv11; obtain ⟨ad11, c11, rfl, -⟩ := hG11.form; have HG11 := Aside0.mk hG11; have H11 := Aside0.mk (HQx.out.2.1 w11 A11 hv11); clear hG11 hv11))
          go_roundg k
          case measure => omega
          case rel =>
            refine ⟨k, ad11, c11, G ++ [gr1], A11, R7, T1, by rw [List.length_append, List.length_singleton], ?_, rfl, by have := HI.out; omega, ?_, ⟨?_⟩, HV2⟩
            · first | rfl | (rw [ewk]) | (rw [ewk2]) | (rw [ewk3])
            · have := HG11.out
              rw [List.length_append, List.length_singleton, List.flatMap_append]
              exact ⟨by simpa using this⟩
            · exact H11.out.tail.tail.tail
end Go.Proofs.Ytglbcfkmaamhaaa.Tr
end
section
set_option linter.unusedVariables false
set_option linter.unusedSimpArgs false
namespace Go.Proofs.Ytglbcfkmaamhaaa.Tr
open Go Go.RowKit Go.Proofs.YtglbcfkmaamhaaaW.PrintWords Go.Proofs.YtglbcfkmaamhaaaW.PrintLast Go.Proofs.YtglbcfkmaamhaaaW.PrintMore Go.Proofs.Ytglbcfkmaamhaaa.Hv Go.Proofs.Ytglbcfkmaamhaaa.Arm Go.Proofs.Ytglbcfkmaamhaaa.Nd Go.Proofs.Ytglbcfkmaamhaaa.ArN
variable {w0 w w1 : World} {L L' R : List Ob} {K : Nat × Nat × Nat} {t : Tm} {on : Value}
section
variable {P : Program} {ops : Array Oper} {rest : List Oper} {o : Oper} {a : Act} {Q : Exit → Act → World → Prop} {K : Act → World → Prop} {A : List Ob}
theorem append_fits_step (hw : Region.wanted o (yielded ops a.tmps) = true) (s x : Operand) (t e : TypeId) (z : Value) (size bytes : Nat)
  (ho : o.op = .call { callee := .builtin .append, args := #[s, x], argTypes := #[t, t] })
  (ht : P.underlying t = some (.slice e)) (hinfo : (P.info? e).map (fun i => (i.zero, i.size, i.bytes)) = some (some z, size, bytes))
  (g n cap : Nat) (xs : List Value) (hs : a.eval s = .slice (some ⟨g, 0, none⟩) n cap) (ad : Addr) (m c : Nat) (news : List Value) (hx : a.eval x = .slice (some ad) m c) (hl : news.length = m * size) (hnews : ∀ j u, news[j]? = some u → w.cell? (ad.add j) = some u) (h1 : ∀ u ∈ news, u.oneCell' = true) (hroom : n + m ≤ cap)
  (hg : Gr e size (.slice (some ⟨g, 0, none⟩) n cap) n xs A) (hv : Hv w0 w (A ++ L))
  (h : ∀ w1 A1, Gr e size (.slice (some ⟨g, 0, none⟩) (n + m) cap) (n + m) (xs ++ news) A1 → Hv w0 w1 (A1 ++ L) → K (a.put o.dst (.slice (some ⟨g, 0, none⟩) (n + m) cap)) w1) : if Region.wanted o (yielded ops a.tmps) = true then Oper.wp P o a w K Q else K (a.put o.dst undef) w := by
 obtain ⟨i0, hi, hzz⟩ := Option.map_eq_some_iff.1 hinfo
 simp only [Prod.mk.injEq] at hzz
 obtain ⟨hz0, hz1, hz2⟩ := hzz
 rw [if_pos hw]
 obtain ⟨w1, hr, hown, hgr⟩ := run_append_fits (P := P) w w0.heap.size t o.type e i0 size ht hi hz1 g n cap xs (hg.owns hv) ad m c news hl hnews h1 hroom
 obtain ⟨A1, hG, hH⟩ := hg.step hv hown hgr (.inl rfl)
 unfold Oper.wp execOp
 simp only [ho, resolve, invoke, builtin, Sem.run_bind, Sem.run_pure, Result.andThen_ok, List.map_toArray, List.map_cons, List.map_nil, hs, hx, hr]
 exact h w1 A1 hG hH
end
theorem Gr.front {e size n k g cap : Nat} {xs : List Value} {A : List Ob} (h : Gr e size (.slice (some ⟨g, 0, none⟩) n cap) n xs A) (hk : k ≤ n) : Gr e size (.slice (some ⟨g, 0, none⟩) k cap) k (xs.take (k * size)) A := by
 have hl : k * size ≤ n * size := Nat.mul_le_mul_right _ hk
 refine ⟨by rw [List.length_take, h.1]; omega, ?_⟩
 rcases h.2 with ⟨h1, _⟩ | ⟨g', cap', cur, h1, rfl, h3, h4, h5, h6⟩
 ·cases h1
 ·cases h1
  exact .inr ⟨_, _, cur, rfl, rfl, by omega, h4, h5, by rw [← h6, List.take_take, Nat.min_eq_left hl]⟩
theorem run_clear33 (ty : TypeId) (g o c : Nat) (u0 u1 : Value) (w : World) (h0 : w.cell? ⟨g, o, none⟩ = some u0) (h1 : w.cell? ⟨g, o + 1, none⟩ = some u1) (f0 : w.frozen? ⟨g, o, none⟩ = false) (f1 : w.frozen? ⟨g, o + 1, none⟩ = false) :
  (Builtin.clear_ #[31] ty #[.slice (some ⟨g, o, none⟩) 1 c]).run Try.prog w = .ok (.tuple #[]) ((w.setCell ⟨g, o, none⟩ (.int .i64 0)).setCell ⟨g, o + 1, none⟩ (.int .i64 0)) := by
 have hz : ∀ w : World, (zeroValue 33).run Try.prog w = .ok (.agg #[.int .i64 0, .int .i64 0]) w := fun w => by kernel_rfl
 have hst := run_storeCells_cells (P := Try.prog) g o [.int .i64 0, .int .i64 0] 0 w (fun j hj => by
  have : j = 0 ∨ j = 1 := by simp at hj; omega
  rcases this with rfl | rfl
  ·simp only [Nat.add_zero]; rw [h0]; rfl
  ·simp only [Nat.add_zero]; rw [h1]; rfl) (fun j hj => by
  have : j = 0 ∨ j = 1 := by simp at hj; omega
  rcases this with rfl | rfl
  ·exact f0
  ·exact f1) (by intro v hv; simp at hv; rcases hv with rfl | rfl <;> rfl)
 simp only [Nat.add_zero] at hst
 have hzc : (Builtin.zeroCells (Value.agg #[.int .i64 0, .int .i64 0]).cells 1).toList = [.int .i64 0, .int .i64 0] := by first | kernel_rfl | decide | (simp [Builtin.zeroCells, Value.cells]; done) | (simp [Builtin.zeroCells, Value.cells]; rfl)
 simp [Builtin.clear_, run_underlying Try.underlying31, hz, hzc, hst]
 rfl
def SDelP (w0 : World) (L : List Ob) (l : List Rf) (i : Nat) (e : Ending) (w' : World) : Prop :=
 ∃ ad c A, e = .returned (.slice ad (l.length - 1) c) ∧ Gr 33 2 (.slice ad (l.length - 1) c) (l.length - 1) ((l.eraseIdx i).flatMap rcel) A ∧ Hv w0 w' (A ++ L)
theorem flat_len (l : List Rf) : (l.flatMap rcel).length = l.length * 2 := by
 induction l with
 | nil => rfl
 | cons x l ih => rw [List.flatMap_cons, List.length_append, ih, List.length_cons]; simp [rcel]; omega
theorem take_flat : ∀ (l : List Rf) (i : Nat), (l.flatMap rcel).take (i * 2) = (l.take i).flatMap rcel
 | l, 0 => by simp
 | [], i + 1 => by simp
 | x :: l, i + 1 => by
  rw [List.take_succ_cons, List.flatMap_cons, List.flatMap_cons, ← take_flat l i, show (i + 1) * 2 = i * 2 + 1 + 1 by omega]
  rfl
theorem drop_flat : ∀ (l : List Rf) (i : Nat), (l.flatMap rcel).drop (i * 2) = (l.drop i).flatMap rcel
 | l, 0 => by simp
 | [], i + 1 => by simp
 | x :: l, i + 1 => by
  rw [List.drop_succ_cons, List.flatMap_cons, ← drop_flat l i, show (i + 1) * 2 = i * 2 + 1 + 1 by omega]
  rfl
theorem rcel_one (l : List Rf) : ∀ u ∈ l.flatMap rcel, u.oneCell' = true := by
 intro u hu
 obtain ⟨x, _, hx⟩ := List.mem_flatMap.1 hu
 simp only [rcel, List.mem_cons, List.not_mem_nil, or_false] at hx
 rcases hx with rfl | rfl <;> rfl
set_option maxHeartbeats 8000000 in
set_option maxRecDepth 100000 in
theorem sdel.calls {A : List Ob} {v : Value} (l : List Rf) (hl : l.length ≤ 1000000) (hg : Gr 33 2 v l.length (l.flatMap rcel) A) (hv : Hv w0 w (A ++ L)) (i : Nat) (hi : i < l.length) : Calls Try.prog 116 #[v, .int .i64 (i : Int), .int .i64 ((i : Int) + 1)] w (SDelP w0 L l i) := by
 have hu31 := Try.underlying31
 have hu33 := Try.underlying33
 obtain ⟨g, cap, cur, rfl, rfl, h3, h4, h5, h6⟩ : ∃ g cap cur, v = .slice (some ⟨g, 0, none⟩) l.length cap ∧ A = [cb g 33 cur] ∧ l.length ≤ cap ∧ cap ≤ maxLen ∧ cur.size = cap * 2 ∧ cur.toList.take (l.length * 2) = l.flatMap rcel := by
  rcases hg.2 with ⟨_, h, _⟩ | h
  ·omega
  ·exact h
 have HG := Aside0.mk hg
 have HV := Aside0.mk hv
 have HC := Aside0.mk (And.intro h3 (And.intro h4 (And.intro h5 (And.intro h6 (And.intro hl hi)))))
 have a1 : (i : Int) ≤ (i : Int) + 1 := by omega
 have a2 : (i : Int) + 1 ≤ (l.length : Int) := by omega
 have a3 : (0 : Int) ≤ (i : Int) := by omega
 have a4 : (0 : Int) ≤ (i : Int) + 1 := by omega
 have a5 : (l.length : Int) ≤ (cap : Int) := by omega
 have a6 : (i : Int) ≤ (l.length : Int) := by omega
 have a7 : (i : Int) ≤ (cap : Int) := by omega
 have a8 : (i : Int) + 1 ≤ (cap : Int) := by omega
 have a9 : ¬ (i : Int) = (i : Int) + 1 := by omega
 clear h3 h4 h5 h6 hl hg hv hi
 go_enter Try.func116, Try.ntmps116
 go_upto_region 5 with (fail)
 obtain ⟨m1, hm1⟩ : ∃ m1, l.length = m1 + 1 := ⟨l.length - 1, by have := HC.out.2.2.2.2.2; omega⟩
 have HM := Aside0.mk (And.intro hm1 (show i + (l.length - (i + 1)) = m1 by have := HC.out.2.2.2.2.2; omega))
 clear hm1
 have HE : ∃ ad2 : Addr, Aside0 ((if cap = i + 1 then some (⟨g, 0, none⟩ : Addr) else some ⟨g, (i + 1) * 2, none⟩) = some ad2 ∧ ((l.drop (i + 1)).flatMap rcel).length = (l.length - (i + 1)) * 2 ∧ (∀ j u, ((l.drop (i + 1)).flatMap rcel)[j]? = some u → w.drew.cell? (ad2.add j) = some u)) := by
  have hlen : ((l.drop (i + 1)).flatMap rcel).length = (l.length - (i + 1)) * 2 := by rw [flat_len, List.length_drop]
  by_cases hce : cap = i + 1
  ·rw [if_pos hce]
   refine ⟨_, ⟨rfl, hlen, fun j u hu => ?_⟩⟩
   have := (List.getElem?_eq_some_iff.1 hu).1
   rw [hlen] at this
   have := HC.out.1
   omega
  ·rw [if_neg hce]
   refine ⟨_, ⟨rfl, hlen, fun j u hu => ?_⟩⟩
   have h1 : (l.flatMap rcel)[(i + 1) * 2 + j]? = some u := by
    rw [← hu, ← drop_flat, List.getElem?_drop]
   have h2 := (List.getElem?_eq_some_iff.1 h1).1
   rw [flat_len] at h2
   have h3 : cur[(i + 1) * 2 + j]? = some u := by
    rw [← h1, ← HC.out.2.2.2.1, List.getElem?_take, if_pos h2]
    simp
   have h4 := HV.out.drew.cell (List.mem_cons_self) _ h3
   rw [show (⟨g, (i + 1) * 2, none⟩ : Addr).add j = ⟨g, (i + 1) * 2 + j, none⟩ from by unfold Addr.add; split <;> simp_all]
   exact h4
 obtain ⟨ad2, HE⟩ := HE
 refine start_ (n := 8) (S := fun w' => True) (ds := []) #[false, false, false, false, false, false, false, false] (by kernel_rfl) rfl rfl trivial (fun hHeld => ?_)
 refine pu_ 0 (some 20) ?_
 refine pu_ 1 (some 21) ?_
 refine pu_ 2 (some 22) ?_
 refine pu_ 3 (some 23) ?_
 refine pu_ 4 (some 24) ?_
 refine pu_ 5 (some 25) ?_
 refine on_ 6 (some 26) fun K_ hK => ?_
 refine append_fits_step (w0 := w0) (A := [cb g 33 cur]) (L := L) (by rfl) (.tmp 22) (.tmp 25) 31 33 (.agg #[.int .i64 0, .int .i64 0]) 2 16 rfl Try.underlying31 infoR g i cap ((l.flatMap rcel).take (i * 2)) (by first | rfl | (go_simp; done) | (go_simp; rfl)) ad2 (l.length - (i + 1)) (cap - (i + 1)) ((l.drop (i + 1)).flatMap rcel) (by show Value.slice (if _ then _ else _) _ _ = _; rw [HE.out.1]) HE.out.2.1 HE.out.2.2 (rcel_one _) (by have := HC.out; omega) (Tr.Gr.front HG.out (by have := HC.out; omega)) HV.out.drew ?_
 intro w2 A2 hG2 hv2
 rw [HM.out.2] at hG2 ⊢
 have HG2 := Aside0.mk hG2
 have HV2 := Aside0.mk hv2
 clear hG2 hv2
 refine hK.out _ _ trivial (fun hHeld => ?_)
 clear hK K_
 refine nm_ ?_
 refine pu_ 7 (some 0) ?_
 refine done_ (by kernel_rfl) ?_
 obtain ⟨cur2, rfl, k3, k4, k5, k6⟩ : ∃ cur2, A2 = [cb g 33 cur2] ∧ m1 ≤ cap ∧ cap ≤ maxLen ∧ cur2.size = cap * 2 ∧ cur2.toList.take (m1 * 2) = (l.flatMap rcel).take (i * 2) ++ (l.drop (i + 1)).flatMap rcel := by
  rcases HG2.out.2 with ⟨h, _⟩ | ⟨g1, cap1, cur1, h, rfl, h3, h4, h5, h6⟩
  ·cases h
  ·cases h
   exact ⟨cur1, rfl, h3, h4, h5, h6⟩
 obtain ⟨u0, hu0⟩ : ∃ u, cur2[m1 * 2]? = some u := ⟨_, Array.getElem?_eq_getElem (by have := HC.out.1; have := HM.out.1; omega)⟩
 obtain ⟨u1, hu1⟩ : ∃ u, cur2[m1 * 2 + 1]? = some u := ⟨_, Array.getElem?_eq_getElem (by have := HC.out.1; have := HM.out.1; omega)⟩
 have hv2 : Hv w0 w2 (cb g 33 cur2 :: L) := HV2.out
 have hcl : ∀ ty, (Builtin.clear_ #[31] ty #[.slice (some ⟨g, m1 * 2, none⟩) 1 (cap - m1)]).run Try.prog w2 = .ok (.tuple #[]) ((w2.setCell ⟨g, m1 * 2, none⟩ (.int .i64 0)).setCell ⟨g, m1 * 2 + 1, none⟩ (.int .i64 0)) := fun ty => run_clear33 ty g (m1 * 2) (cap - m1) u0 u1 w2 (hv2.cell List.mem_cons_self _ hu0) (hv2.cell List.mem_cons_self _ hu1) (hv2.frozen List.mem_cons_self _) (hv2.frozen List.mem_cons_self _)
 have HV3 := Aside0.mk (Hv.put0 (hv2.put0 (m1 * 2) (.int .i64 0) rfl) (m1 * 2 + 1) (.int .i64 0) rfl)
 have HF := Aside0.mk (And.intro k3 (And.intro k4 (And.intro k5 k6)))
 have b1 : (m1 : Int) ≤ (l.length : Int) := by have := HM.out.1; omega
 have b2 : l.length - m1 = 1 := by have := HM.out.1; omega
 have b3 : ¬ cap = m1 := by have := HM.out.1; have := HC.out.1; omega
 have b4 : (0 : Int) ≤ (m1 : Int) := by omega
 have b5 : m1 ≤ l.length := by omega
 clear k3 k4 k5 k6 hu0 hu1 hv2
 rw [HE.out.1]
 go_wp2_with fail
 refine bodyPost_ret (v := .slice (some ⟨g, 0, none⟩) m1 cap) (by simp [results, Try.results116, go_sem]) rfl ⟨some ⟨g, 0, none⟩, cap, [cb g 33 ((cur2.setIfInBounds (m1 * 2) (.int .i64 0)).setIfInBounds (m1 * 2 + 1) (.int .i64 0))], by rw [show l.length - 1 = m1 from by have := HM.out.1; omega], ?_, HV3.out⟩
 rw [show l.length - 1 = m1 from by have := HM.out.1; omega]
 have hx : (l.eraseIdx i).flatMap rcel = (l.flatMap rcel).take (i * 2) ++ (l.drop (i + 1)).flatMap rcel := by
  rw [List.eraseIdx_eq_take_drop_succ, List.flatMap_append, take_flat]
 refine ⟨?_, .inr ⟨g, cap, _, rfl, rfl, HF.out.1, HF.out.2.1, by simp only [Array.size_setIfInBounds]; exact HF.out.2.2.1, ?_⟩⟩
 ·have := HG2.out.1
  rw [hx]
  exact this
 ·rw [hx, ← HF.out.2.2.2]
  simp only [Array.toList_setIfInBounds]
  rw [List.take_set_of_le (by omega), List.take_set_of_le (by omega)]
end Go.Proofs.Ytglbcfkmaamhaaa.Tr
end
