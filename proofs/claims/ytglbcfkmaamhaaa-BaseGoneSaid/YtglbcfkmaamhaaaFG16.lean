/- A text of this claim: parts TsG TsH TsI TsJL TsK TsL. No condition. -/
import Derived.Test.YtglbcfkmaamhaaaFG15
import Derived.Test.YtglbcfkmaamhaaaFG2
import Derived.Test.YtglbcfkmaamhaaaFG0
import Derived.Laws.OwnMore
set_option linter.unusedVariables false
set_option linter.unusedSimpArgs false
set_option maxHeartbeats 16000000
set_option maxRecDepth 100000
namespace Go.Proofs.Ytglbcfkmaamhaaa.Tr
open Go Go.RowKit Go.Proofs.YtglbcfkmaamhaaaW.PrintWords Go.Proofs.Ytglbcfkmaamhaaa.Hv Go.Proofs.Ytglbcfkmaamhaaa.Arm Go.Proofs.Ytglbcfkmaamhaaa.Nd Go.Proofs.Ytglbcfkmaamhaaa.ArN
section
variable {w0 w w1 : World} {L L' R : List Ob} {K : Nat × Nat × Nat} {t : Tm} {on : Value}
theorem tput.calls (h : Mt w0 w K t on R L) (key : ByteArray) (r : Rf) {l : List (Rf × Nat)} {q : Rf} (hd : Dn t key t.root l q) (ho : Nd.Ok (t.at q)) {mb : Nat} (hb2 : 2 ≤ mb) (hbd : Bd t mb) (hbm : mb + l.length + 30 ≤ 1000000) :
  Calls Try.prog 66 #[.pointer (some ⟨K.1, 0, none⟩), .string key, .agg #[.int .i64 r.1, .int .i64 r.2]] w (TPutP w0 K L (t.putW key r l q)) := by
 cases hf : (t.find key q).2
 ·cases hr : t.roomFor (wayL l q)
  ·have e : t.putW key r l q = (t, [], 20) := by unfold Tm.putW; rw [hf, hr]; rfl
   rw [e]
   exact putT.full h key r hd ho (by omega) hf hr
  ·exact putT.ok h key r hd ho (by omega) (by omega) hf hr hb2 hbd hbm
 ·have e : t.putW key r l q = (t, [], 13) := by unfold Tm.putW; rw [hf]; rfl
  rw [e]
  exact putT.dup h key r hd ho (by omega) hf
end
end Go.Proofs.Ytglbcfkmaamhaaa.Tr
namespace Go.Proofs.Ytglbcfkmaamhaaa.Tr
open Go Go.RowKit Go.Proofs.YtglbcfkmaamhaaaW.PrintWords Go.Proofs.YtglbcfkmaamhaaaW.PrintLast Go.Proofs.YtglbcfkmaamhaaaW.PrintMore Go.Proofs.Ytglbcfkmaamhaaa.Hv Go.Proofs.Ytglbcfkmaamhaaa.Arm Go.Proofs.Ytglbcfkmaamhaaa.Nd Go.Proofs.Ytglbcfkmaamhaaa.ArN
section
variable {w0 w w1 : World} {L L' R : List Ob} {K : Nat × Nat × Nat} {t : Tm} {on : Value}
theorem Mt.rd (h : Mt w0 w K t on R L) {size n : Nat} {ad : Option Addr} {xs : List Value} (hr : Rdy size w0 R ad n xs) : Rd size w ad n xs := by
 obtain ⟨Lf, hL, hRf, -, -⟩ := h.lens
 exact hr w Lf hL hRf
def refI (n : Nd.Nd) (i : Nat) : Rf := n.refs.getD i (0, 0)
def Tm.joinY (t : Tm) (up : Rf) (i : Nat) : Tm :=
 let p := t.at up
 let t1 := t.set (refI p i) ((t.at (refI p i)).join (p.keys.getD i ⟨#[]⟩) (t.at (refI p (i + 1))))
 let t2 := t1.set up (p.remove ((i : Int) + 1))
 t2.leave (refI p (i + 1))
def Tm.join (t : Tm) (up : Rf) (i : Int) : Tm × Rf × Bool :=
 if i < 0 ∨ ((t.at up).refs.length : Int) ≤ i + 1 then (t, (0, 0), false)
 else if 4 < (t.at (refI (t.at up) i.toNat)).refs.length + (t.at (refI (t.at up) (i.toNat + 1))).refs.length then (t, (0, 0), false)
 else (t.joinY up i.toNat, refI (t.at up) (i.toNat + 1), true)
theorem wp_act {P : Program} {c : Code} {Q : Exit → Act → World → Prop} {a : Act} {w : World} (h : ∀ a', a' = a → c.wp P Q a' w) : c.wp P Q a w := h a rfl
end
end Go.Proofs.Ytglbcfkmaamhaaa.Tr
namespace Go.Proofs.Ytglbcfkmaamhaaa.Tr
open Go Go.RowKit Go.Proofs.YtglbcfkmaamhaaaW.PrintWords Go.Proofs.Ytglbcfkmaamhaaa.Hv Go.Proofs.Ytglbcfkmaamhaaa.Arm Go.Proofs.Ytglbcfkmaamhaaa.Nd Go.Proofs.Ytglbcfkmaamhaaa.ArN
section
variable {w0 w w1 : World} {L L' R : List Ob} {K : Nat × Nat × Nat} {t : Tm} {on : Value}
structure JOk (t : Tm) (up : Rf) : Prop where
 ok : Nd.Ok (t.at up)
 sh : (t.at up).keys.length + 1 = (t.at up).refs.length
 bd : Bd t 1000000
 gone : t.gone.length < 1000000
def Tm.merge (t : Tm) (up x : Rf) : Tm × Rf × Bool :=
 let j := t.join up (idx x (t.at up).refs - 1)
 if j.2.2 then j else t.join up (idx x (t.at up).refs)
inductive Up1 (s : List Rf) : Nat → Tm × List Rf → Tm × List Rf → Prop
 | top (p : Tm × List Rf) : Up1 s 0 p p
 | big (i : Nat) (p : Tm × List Rf) (h : ¬ (p.1.at (s.getD (i + 1) (0, 0))).refs.length < 2) : Up1 s (i + 1) p p
 | no (i : Nat) (p : Tm × List Rf) (h : (p.1.at (s.getD (i + 1) (0, 0))).refs.length < 2) (ho : JOk p.1 (s.getD i (0, 0))) (hm : (p.1.merge (s.getD i (0, 0)) (s.getD (i + 1) (0, 0))).2.2 = false) : Up1 s (i + 1) p p
 | yes (i : Nat) (p p' : Tm × List Rf) (h : (p.1.at (s.getD (i + 1) (0, 0))).refs.length < 2) (ho : JOk p.1 (s.getD i (0, 0))) (hm : (p.1.merge (s.getD i (0, 0)) (s.getD (i + 1) (0, 0))).2.2 = true)
   (hd : Up1 s i ((p.1.merge (s.getD i (0, 0)) (s.getD (i + 1) (0, 0))).1, p.2 ++ [(p.1.merge (s.getD i (0, 0)) (s.getD (i + 1) (0, 0))).2.1]) p') : Up1 s (i + 1) p p'
theorem Up1.inv {s : List Rf} {i : Nat} {p p' : Tm × List Rf} : Up1 s i p p' → (i = 0 ∧ p' = p) ∨ (∃ k, i = k + 1 ∧ ((¬ (p.1.at (s.getD (k + 1) (0, 0))).refs.length < 2 ∧ p' = p) ∨
  ((p.1.at (s.getD (k + 1) (0, 0))).refs.length < 2 ∧ JOk p.1 (s.getD k (0, 0)) ∧ (((p.1.merge (s.getD k (0, 0)) (s.getD (k + 1) (0, 0))).2.2 = false ∧ p' = p) ∨
   ((p.1.merge (s.getD k (0, 0)) (s.getD (k + 1) (0, 0))).2.2 = true ∧ Up1 s k ((p.1.merge (s.getD k (0, 0)) (s.getD (k + 1) (0, 0))).1, p.2 ++ [(p.1.merge (s.getD k (0, 0)) (s.getD (k + 1) (0, 0))).2.1]) p')))))
 | .top _ => .inl ⟨rfl, rfl⟩
 | .big k _ h => .inr ⟨k, rfl, .inl ⟨h, rfl⟩⟩
 | .no k _ h ho hm => .inr ⟨k, rfl, .inr ⟨h, ho, .inl ⟨hm, rfl⟩⟩⟩
 | .yes k _ _ h ho hm hd => .inr ⟨k, rfl, .inr ⟨h, ho, .inr ⟨hm, hd⟩⟩⟩
def Tm.sink (t : Tm) : Tm := { t.leave t.root with root := refI (t.at t.root) 0 }
inductive Up2 : Nat → Tm × List Rf → Tm × List Rf → Prop
 | stop (k : Nat) (p : Tm × List Rf) (h : (p.1.at p.1.root).leaf = true ∨ (p.1.at p.1.root).refs.length ≠ 1) : Up2 k p p
 | step (k : Nat) (p p' : Tm × List Rf) (h1 : (p.1.at p.1.root).leaf = false) (h2 : (p.1.at p.1.root).refs.length = 1) (hg : p.1.gone.length < 1000000) (hd : Up2 k (p.1.sink, p.2 ++ [p.1.root]) p') : Up2 (k + 1) p p'
theorem Up2.inv {k : Nat} {p p' : Tm × List Rf} : Up2 k p p' → (((p.1.at p.1.root).leaf = true ∨ (p.1.at p.1.root).refs.length ≠ 1) ∧ p' = p) ∨ (∃ j, k = j + 1 ∧ (p.1.at p.1.root).leaf = false ∧ (p.1.at p.1.root).refs.length = 1 ∧ p.1.gone.length < 1000000 ∧ Up2 j (p.1.sink, p.2 ++ [p.1.root]) p')
 | .stop _ _ h => .inl ⟨h, rfl⟩
 | .step j _ _ h1 h2 hg hd => .inr ⟨j, rfl, h1, h2, hg, hd⟩
def TDelP (w0 : World) (K : Nat × Nat × Nat) (L : List Ob) (t : Tm) (r : Rf) (g : List Rf) (b : Bool) (e : Ending) (w' : World) : Prop :=
 ∃ ad c A R, e = .returned (.tuple #[.agg #[.int .i64 r.1, .int .i64 r.2], .slice ad g.length c, .bool b]) ∧ Gr 33 2 (.slice ad g.length c) g.length (g.flatMap rcel) A ∧ Mt w0 w' K t .nilFunc R (A ++ L)
end
end Go.Proofs.Ytglbcfkmaamhaaa.Tr
namespace Go.Proofs.Ytglbcfkmaamhaaa.Tr
open Go Go.RowKit Go.Proofs.YtglbcfkmaamhaaaW.PrintWords Go.Proofs.YtglbcfkmaamhaaaW.PrintLast Go.Proofs.YtglbcfkmaamhaaaW.PrintMore Go.Proofs.Ytglbcfkmaamhaaa.Hv Go.Proofs.Ytglbcfkmaamhaaa.Arm Go.Proofs.Ytglbcfkmaamhaaa.Nd Go.Proofs.Ytglbcfkmaamhaaa.ArN
section
variable {w0 w w1 : World} {L L' R : List Ob} {K : Nat × Nat × Nat} {t : Tm} {on : Value}
theorem Up1.len {s : List Rf} {i : Nat} {p p' : Tm × List Rf} (h : Up1 s i p p') : p.2.length ≤ p'.2.length := by
 induction h with
 | top _ => exact Nat.le_refl _
 | big _ _ _ => exact Nat.le_refl _
 | no _ _ _ _ _ => exact Nat.le_refl _
 | yes _ _ _ _ _ _ _ ih => simp only [List.length_append, List.length_singleton] at ih; omega
theorem Up2.len {k : Nat} {p p' : Tm × List Rf} (h : Up2 k p p') : p.2.length ≤ p'.2.length := by
 induction h with
 | stop _ _ _ => exact Nat.le_refl _
 | step _ _ _ _ _ _ _ ih => simp only [List.length_append, List.length_singleton] at ih; omega
theorem delT.lone (h : Mt w0 w K t on R L) (key : ByteArray) {l : List (Rf × Nat)} {q : Rf} (hd : Dn t key t.root l q) (ho : Nd.Ok (t.at q)) (hm : l.length + 10 < 1000000) {m : Nd.Nd} {r : Rf} (hdel : (t.at q).delete key = (m, r, true)) {p1 p2 : Tm × List Rf} {k2 : Nat} (hu1 : Up1 (wayL l q) l.length (t.set q m, []) p1) (hu2 : Up2 k2 p1 p2) (hpl : p2.2.length ≤ 1000000) (hl0 : l = []) : Calls Try.prog 64 #[.pointer (some ⟨K.1, 0, none⟩), .string key] w (TDelP w0 K L p2.1 r p2.2 true) := by
  have HL0 := As (show l.length = 0 by rw [hl0]; rfl)
  clear hl0
  have hu59 := Try.underlying59
  have hu33 := Try.underlying33
  have hu31 := Try.underlying31
  have hu160 := Try.underlying160
  have HM := As (show Mt w0 _ K t on R (cb w.heap.size 33 #[.int .i64 0, .int .i64 0] :: L) from h.alloc (.cells #[.int .i64 0, .int .i64 0] 33))
  have HD := As (And.intro hd ho)
  obtain ⟨s, hs⟩ : ∃ s, wayL l q = s := ⟨_, rfl⟩
  have hwl : s.length = l.length + 1 := by rw [← hs]; simp [wayL]
  have hlast : s[l.length]? = some q := by rw [← hs]; simp [wayL]
  obtain ⟨n, hn⟩ : ∃ n, t.at q = n := ⟨_, rfl⟩
  rw [hs] at hu1
  have HU1 := As hu1
  have HU2 := As (And.intro hu2 hpl)
  clear hu1 hu2 hpl
  have HL := As (And.intro hm (And.intro hs (And.intro hwl hlast)))
  rw [hn] at hdel
  have HN := As (And.intro hn (And.intro hdel ho))
  clear h hd ho hm hs hwl hlast hn hdel
  go_enter Try.func64, Try.ntmps64
  go_upto_region 4 with (go_at_call 110; go_loud (refine (way.calls HM.out key HD.out.1 (by have := HL.out.1; omega)).mono ?_; rw [HL.out.2.1]; rintro e4 w4 ⟨ad, c, Aw, rfl, hG, hh⟩; have H4 := As hh; have HG := As hG; clear hh hG))
  obtain ⟨wa, ea⟩ : ∃ wa, ad = some wa := by
    obtain ⟨a, e, -⟩ := ((Rdy.of_rw (w0 := w0) (Rw.of_gr HG.out)).now (H4.out.other.left)).2 (by have := HL.out.2.2.1; omega)
    exact ⟨a, e⟩
  subst ea
  have HRw := As (show Rdy 2 w0 Aw (some wa) s.length (s.flatMap rcel) from Rdy.of_rw (Rw.of_gr HG.out))
  have hsl : (s.length : Int) - 1 = (l.length : Int) := by have := HL.out.2.2.1; omega
  have ew : wrap64 ((s.length : Int) - 1) = (l.length : Int) := by rw [hsl]; have := HL.out.1; unfold wrap64; omega
  have hlt : (l.length : Int) < (s.length : Int) := by omega
  clear hsl
  obtain ⟨r0, r1⟩ := rcel_get s l.length q HL.out.2.2.2
  obtain ⟨wa', ea, hcl⟩ := ((HRw.out.now (H4.out.other.left)).2 (by omega))
  cases ea
  have v0 := hcl _ _ r0
  have v1' := hcl _ _ r1
  rw [← Addr.add_add] at v1'
  have v1 : w4.cell? { block := (wa.add (l.length * 2)).block, off := (wa.add (l.length * 2)).off + 1 } = some (.int .i64 q.2) := v1'
  clear hcl r0 r1 v1'
  go_upto_region 5 with (fail)
  obtain ⟨W5, hW, hM⟩ : ∃ W, W = _ ∧ Mt w0 W K t .nilFunc R (cb w4.heap.size 33 #[.int .i64 q.1, .int .i64 q.2] :: (Aw ++ (cb w.heap.size 33 #[.int .i64 0, .int .i64 0] :: L))) := ⟨_, rfl, H4.out.alloc _⟩
  rw [← hW]
  have H5 := As hM
  clear hW hM v0 v1 hlt
  generalize w4.heap.size = g8 at H5 ⊢
  obtain ⟨x0, x1, -, -⟩ := H5.out.other.c2 g8 33 (.int .i64 q.1) (.int .i64 q.2) (by simp)
  go_upto_region 6 with (first
    | (go_at_call 44; go_loud (obtain ⟨Lf, hL, hRf, hLf, back⟩ := H6.out.lens; refine (Nd.delete.calls (w0 := w0) (R := R) hL hRf ⟨ka, kc, ra, rc, rfl, HR6.out⟩ (by rw [← HN.out.1]; exact HN.out.2.2) key).mono ?_; rw [HN.out.2.1]; rintro e7 w7 ⟨v, A1, rfl, hnv, hh⟩; have H7 := As (back w7 A1 hh); clear back hL hRf hLf hh; obtain ⟨ka1, kc1, ra1, rc1, ev, hr7⟩ := hnv; have ev' : v = .agg #[.bool m.leaf, .int .i64 m.ver, .slice ka1 m.keys.length kc1, .slice ra1 m.refs.length rc1] := ev; subst ev'; clear ev; have HR7 := As hr7; clear hr7))
    | (go_at_call 111; go_loud (refine (at.calls H5.out q).mono ?_; rintro e6 w6 ⟨v, rfl, hnv, hh⟩; rw [HN.out.1] at hnv; obtain ⟨ka, kc, ra, rc, ev, hr6⟩ := hnv; have ev' : v = .agg #[.bool n.leaf, .int .i64 n.ver, .slice ka n.keys.length kc, .slice ra n.refs.length rc] := ev; subst ev'; clear ev; have HR6 := As hr6; have H6 := As hh; clear hh hr6)))
  obtain ⟨W7, hW, hM⟩ : ∃ W, W = (w7.alloc (.cells #[.bool m.leaf, .int .i64 m.ver, .slice ka1 m.keys.length kc1, .slice ra1 m.refs.length rc1] 59)).alloc (.cells #[.int .i64 r.1, .int .i64 r.2] 33) ∧ Mt w0 W K t .nilFunc (A1 ++ R) (cb (w7.heap.size + 1) 33 #[.int .i64 r.1, .int .i64 r.2] :: cb w7.heap.size 59 #[.bool m.leaf, .int .i64 m.ver, .slice ka1 m.keys.length kc1, .slice ra1 m.refs.length rc1] :: cb g8 33 #[.int .i64 q.1, .int .i64 q.2] :: (Aw ++ (cb w.heap.size 33 #[.int .i64 0, .int .i64 0] :: L))) := ⟨_, rfl, by
    have := (H7.out.alloc (.cells #[.bool m.leaf, .int .i64 m.ver, .slice ka1 m.keys.length kc1, .slice ra1 m.refs.length rc1] 59)).alloc (.cells #[.int .i64 r.1, .int .i64 r.2] 33)
    simpa [cb] using this⟩
  rw [← hW]
  have H8 := As hM
  clear hW hM x0 x1
  generalize w7.heap.size = g9 at H8 ⊢
  have SP := As (show ∀ (w' : World) (t' : Tm) (R' : List Ob), Mt w0 w' K t' .nilFunc R' (cb (g9 + 1) 33 #[.int .i64 r.1, .int .i64 r.2] :: cb g9 59 #[.bool m.leaf, .int .i64 m.ver, .slice ka1 m.keys.length kc1, .slice ra1 m.refs.length rc1] :: cb g8 33 #[.int .i64 q.1, .int .i64 q.2] :: (Aw ++ (cb w.heap.size 33 #[.int .i64 0, .int .i64 0] :: L))) → (w'.cell? ⟨K.1, 0, none⟩ = some (.pointer (some ⟨K.2.1, 0, none⟩)) ∧ w'.cell? ⟨g8, 0, none⟩ = some (.int .i64 q.1) ∧ w'.cell? ⟨g8, 1, none⟩ = some (.int .i64 q.2) ∧ w'.cell? ⟨g9, 0, none⟩ = some (.bool m.leaf) ∧ w'.cell? ⟨g9, 1, none⟩ = some (.int .i64 m.ver) ∧ w'.cell? ⟨g9, 2, none⟩ = some (.slice ka1 m.keys.length kc1) ∧ w'.cell? ⟨g9, 3, none⟩ = some (.slice ra1 m.refs.length rc1)) from fun w' t' R' h => by
    obtain ⟨c0, -, -, -, -, -, -⟩ := h.cells
    obtain ⟨x0, x1, -, -⟩ := h.other.c2 g8 33 (.int .i64 q.1) (.int .i64 q.2) (by simp)
    obtain ⟨n0, n1, n2, n3, -, -, -, -⟩ := h.other.c4 g9 59 (.bool m.leaf) (.int .i64 m.ver) (.slice ka1 m.keys.length kc1) (.slice ra1 m.refs.length rc1) (by simp)
    exact ⟨c0, x0, x1, n0, n1, n2, n3⟩)
  go_upto_region 8 with (fail)
  have HDr := As H8.out.drew
  refine start_ (n := 7) (S := fun w' => w'.cell? ⟨K.1, 0, none⟩ = some (.pointer (some ⟨K.2.1, 0, none⟩)) ∧ w'.cell? ⟨g8, 0, none⟩ = some (.int .i64 q.1) ∧ w'.cell? ⟨g8, 1, none⟩ = some (.int .i64 q.2) ∧ w'.cell? ⟨g9, 0, none⟩ = some (.bool m.leaf) ∧ w'.cell? ⟨g9, 1, none⟩ = some (.int .i64 m.ver) ∧ w'.cell? ⟨g9, 2, none⟩ = some (.slice ka1 m.keys.length kc1) ∧ w'.cell? ⟨g9, 3, none⟩ = some (.slice ra1 m.refs.length rc1)) (ds := []) #[false, false, false, false, false, false, false] (by kernel_rfl) rfl rfl (SP.out _ _ _ HDr.out) (fun hHeld => ?_)
  generalize W7.drew = wx0 at HDr hHeld ⊢
  refine pu_ 0 (some 43) ?_
  refine pu_ 1 (some 44) ?_
  refine pu_ 2 (some 45) ?_
  refine ta_ 3 (some 46) hHeld ?_ (hy := Or.inl ⟨by rfl, by rintro w' ⟨s0, s1, s2, s3, s4, s5, s6⟩; go_simp; with_reducible rfl⟩)
  refine ta_ 4 (some 47) hHeld ?_ (hy := Or.inl ⟨by rfl, by rintro w' ⟨s0, s1, s2, s3, s4, s5, s6⟩; go_simp; with_reducible rfl⟩)
  refine ta_ 5 (some 48) hHeld ?_ (hy := Or.inl ⟨by rfl, by rintro w' ⟨s0, s1, s2, s3, s4, s5, s6⟩; go_simp; with_reducible rfl⟩)
  refine on_ 6 (some 49) fun K_ hK => ?_
  refine gs_ Try.func112 #[.pointer (some ⟨K.2.1, 0, none⟩), .agg #[.int .i64 q.1, .int .i64 q.2], .agg #[.bool m.leaf, .int .i64 m.ver, .slice ka1 m.keys.length kc1, .slice ra1 m.refs.length rc1]] ?_
  refine (Mt.set HDr.out q (n := m) ⟨ka1, kc1, ra1, rc1, rfl, HR7.out⟩).mono ?_
  rintro e9 w9 ⟨rfl, hh⟩
  refine ⟨_, rfl, ?_⟩
  have H9 := As hh
  clear hh
  refine hK.out _ _ (SP.out _ _ _ H9.out) (fun hHeld => ?_)
  clear hK K_
  refine nm_ ?_
  refine done_ (by kernel_rfl) ?_
  clear SP hHeld
  obtain ⟨T0, hT0⟩ : ∃ T, t.set q m = T := ⟨_, rfl⟩
  rw [hT0] at H9 HU1
  clear hT0
  obtain ⟨BS, hBS⟩ : ∃ BS : List Ob, BS = (cb (g9 + 1) 33 #[.int .i64 r.1, .int .i64 r.2] :: cb g9 59 #[.bool m.leaf, .int .i64 m.ver, .slice ka1 m.keys.length kc1, .slice ra1 m.refs.length rc1] :: cb g8 33 #[.int .i64 q.1, .int .i64 q.2] :: (Aw ++ (cb w.heap.size 33 #[.int .i64 0, .int .i64 0] :: L))) := ⟨_, rfl⟩
  rw [← hBS] at H9
  have HBS := As hBS
  clear hBS
  go_wp2_with fail
  rw [ew]
  refine wp_act ?_
  intro aL haL
  rename_i KK hKK
  have REST : ∀ (v13 v14 v15 v16 v17 v53 v54 v55 v56 v57 v58 v59 v60 v61 v62 v63 v64 v65 v66 v67 v68 v69 v70 v71 v72 v73 v74 v75 v76 v77 v78 v79 v80 v81 v82 v83 v84 v85 v86 v87 v88 v89 v90 v91 v92 v93 v94 v95 v96 v97 v98 v99 v100 v101 v102 v103 : Value) (gad : Option Addr) (gc : Nat) (G : List Rf) (A Rp : List Ob) (T : Tm) (W : World), Gr 33 2 (.slice gad G.length gc) G.length (G.flatMap rcel) A → Mt w0 W K T .nilFunc Rp (A ++ BS) → Up2 k2 (T, G) p2 → KK { tmps := (((((((((((((((((((((((((((((((((((((((((((((((((((((((((aL.tmps.setIfInBounds 12 (.slice gad G.length gc)).setIfInBounds 13 v13).setIfInBounds 14 v14).setIfInBounds 15 v15).setIfInBounds 16 v16).setIfInBounds 17 v17).setIfInBounds 53 v53).setIfInBounds 54 v54).setIfInBounds 55 v55).setIfInBounds 56 v56).setIfInBounds 57 v57).setIfInBounds 58 v58).setIfInBounds 59 v59).setIfInBounds 60 v60).setIfInBounds 61 v61).setIfInBounds 62 v62).setIfInBounds 63 v63).setIfInBounds 64 v64).setIfInBounds 65 v65).setIfInBounds 66 v66).setIfInBounds 67 v67).setIfInBounds 68 v68).setIfInBounds 69 v69).setIfInBounds 70 v70).setIfInBounds 71 v71).setIfInBounds 72 v72).setIfInBounds 73 v73).setIfInBounds 74 v74).setIfInBounds 75 v75).setIfInBounds 76 v76).setIfInBounds 77 v77).setIfInBounds 78 v78).setIfInBounds 79 v79).setIfInBounds 80 v80).setIfInBounds 81 v81).setIfInBounds 82 v82).setIfInBounds 83 v83).setIfInBounds 84 v84).setIfInBounds 85 v85).setIfInBounds 86 v86).setIfInBounds 87 v87).setIfInBounds 88 v88).setIfInBounds 89 v89).setIfInBounds 90 v90).setIfInBounds 91 v91).setIfInBounds 92 v92).setIfInBounds 93 v93).setIfInBounds 94 v94).setIfInBounds 95 v95).setIfInBounds 96 v96).setIfInBounds 97 v97).setIfInBounds 98 v98).setIfInBounds 99 v99).setIfInBounds 100 v100).setIfInBounds 101 v101).setIfInBounds 102 v102).setIfInBounds 103 v103), defers := aL.defers } W := by
    intro v13 v14 v15 v16 v17 v53 v54 v55 v56 v57 v58 v59 v60 v61 v62 v63 v64 v65 v66 v67 v68 v69 v70 v71 v72 v73 v74 v75 v76 v77 v78 v79 v80 v81 v82 v83 v84 v85 v86 v87 v88 v89 v90 v91 v92 v93 v94 v95 v96 v97 v98 v99 v100 v101 v102 v103 gad gc G A Rp T W hG hM hU
    have HG1 := As hG
    have HM1 := As hM
    have HV := As hU
    clear hG hM hU
    refine hKK _ _ ?_
    subst haL
    clear hKK
    simp only [List.setIfInBounds_toArray, List.set_cons_zero, List.set_cons_succ]
    go_wp2_with fail
    go_loopg [12] k2 (fun kq v12 wr => ∃ (gad : Option Addr) (gc : Nat) (G : List Rf) (A Rp : List Ob) (T : Tm), v12 = .slice gad G.length gc ∧ Aside0 (Gr 33 2 (.slice gad G.length gc) G.length (G.flatMap rcel) A) ∧ Aside0 (Mt w0 wr K T .nilFunc Rp (A ++ BS)) ∧ Aside0 (Up2 kq (T, G) p2))
    case atStart => exact ⟨gad, gc, G, A, Rp, T, rfl, HG1, HM1, HV⟩
    case round =>
      clear HG1 HM1 HV
      obtain ⟨gad, gc, G, A, Rp, T, rfl, HG1, HM1, HV⟩ := hrel
      obtain ⟨rt, hrt⟩ : ∃ rt, T.root = rt := ⟨_, rfl⟩
      obtain ⟨nr, hnr⟩ : ∃ nr, T.at rt = nr := ⟨_, rfl⟩
      obtain ⟨c0, c1, c2, -, -, -, -⟩ := HM1.out.cells
      rw [hrt] at c1 c2
      have hcase := HV.out.inv
      simp only [] at hcase
      rw [hrt, hnr] at hcase
      have HN2 := As (And.intro hrt hnr)
      clear hrt hnr
      go_upto_region 21 with (go_at_call 111; go_loud (refine (at.calls HM1.out rt).mono ?_; rintro e2 w2 ⟨v, rfl, hnv, hh⟩; rw [HN2.out.2] at hnv; obtain ⟨kx, kxc, rx, rxc, ev, hr⟩ := hnv; have ev' : v = .agg #[.bool nr.leaf, .int .i64 nr.ver, .slice kx nr.keys.length kxc, .slice rx nr.refs.length rxc] := ev; subst ev'; clear ev; have HRx := As hr; have H2 := As hh; clear hh hr))
      obtain ⟨W3, hW, hM⟩ : ∃ W, W = _ ∧ Mt w0 W K T .nilFunc Rp (cb w2.heap.size 59 #[.bool nr.leaf, .int .i64 nr.ver, .slice kx nr.keys.length kxc, .slice rx nr.refs.length rxc] :: (A ++ BS)) := ⟨_, rfl, H2.out.alloc _⟩
      rw [← hW]
      have H3 := As hM
      clear hW hM c0 c1 c2
      generalize w2.heap.size = g18 at H3 ⊢
      obtain ⟨n0, n1, n2, n3, -, -, -, -⟩ := H3.out.other.c4 g18 59 (.bool nr.leaf) (.int .i64 nr.ver) (.slice kx nr.keys.length kxc) (.slice rx nr.refs.length rxc) (by simp)
      rcases hcase with ⟨hst, hp2⟩ | ⟨kk, rfl, hlf, hs1, hgg, hU⟩
      · have HP2 := As hp2
        clear hp2
        cases hlf : nr.leaf
        · have hne : nr.refs.length ≠ 1 := by rcases hst with h | h
                                              · rw [hlf] at h; cases h
                                              · exact h
          have hne2 : (nr.refs.length : Int) ≠ 1 := by omega
          have hne3 : ¬ (nr.refs.length : Int) = 1 := by omega
          clear hst hne
          rw [hlf] at n0 H3
          go_wp2_with (go_at_call 35; go_loud (refine (size.calls (Hv.start _) false nr.ver kx rx nr.keys.length kxc nr.refs.length rxc).mono ?_; rintro e4 w4 ⟨rfl, hh⟩; have H4 := As (H3.out.call hh.bel); clear hh; obtain ⟨d0, d1, -, -⟩ := H4.out.other.c2 (g9 + 1) 33 (.int .i64 r.1) (.int .i64 r.2) (by simp [HBS.out]); obtain ⟨q0, q1, qf0, qf1⟩ := H4.out.other.c2 w.heap.size 33 (.int .i64 0) (.int .i64 0) (by simp [HBS.out])))
          have h9 : Mt w0 w4 K T .nilFunc Rp (((cb g18 59 #[.bool false, .int .i64 nr.ver, .slice kx nr.keys.length kxc, .slice rx nr.refs.length rxc] :: A) ++ (cb (g9 + 1) 33 #[.int .i64 r.1, .int .i64 r.2] :: cb g9 59 #[.bool m.leaf, .int .i64 m.ver, .slice ka1 m.keys.length kc1, .slice ra1 m.refs.length rc1] :: cb g8 33 #[.int .i64 q.1, .int .i64 q.2] :: Aw)) ++ cb w.heap.size 33 #[.int .i64 0, .int .i64 0] :: L) := by have := H4.out; rw [HBS.out] at this; simpa [List.append_assoc] using this
          have h10 := Mt.put (Mt.put h9 0 (.int .i64 r.1) rfl) 1 (.int .i64 r.2) rfl
          obtain ⟨wg, hw, hg⟩ : ∃ wg, wg = _ ∧ Mt w0 wg K T .nilFunc Rp (((cb g18 59 #[.bool false, .int .i64 nr.ver, .slice kx nr.keys.length kxc, .slice rx nr.refs.length rxc] :: A) ++ (cb (g9 + 1) 33 #[.int .i64 r.1, .int .i64 r.2] :: cb g9 59 #[.bool m.leaf, .int .i64 m.ver, .slice ka1 m.keys.length kc1, .slice ra1 m.refs.length rc1] :: cb g8 33 #[.int .i64 q.1, .int .i64 q.2] :: Aw)) ++ cb w.heap.size 33 #[.int .i64 r.1, .int .i64 r.2] :: L) := ⟨_, rfl, h10⟩
          rw [← hw]
          obtain ⟨e0, e1, -, -⟩ := hg.other.c2 w.heap.size 33 (.int .i64 r.1) (.int .i64 r.2) (by simp)
          have hp2 := HP2.out
          rw [hp2]
          exact bodyPost_ret (v := .tuple #[.agg #[.int .i64 r.1, .int .i64 r.2], .slice gad G.length gc, .bool true]) (by simp [results, Try.results64, go_sem, e0, e1, hu33]) rfl ⟨gad, gc, A, Rp, rfl, HG1.out, hg.drop (by
            rw [List.append_assoc, List.cons_append]
            exact (List.Sublist.append_left ((List.sublist_cons_self _ _).trans (List.sublist_append_right _ _)) A).trans (List.sublist_cons_self _ _))⟩
        · clear hst
          rw [hlf] at n0 H3
          obtain ⟨d0, d1, -, -⟩ := H3.out.other.c2 (g9 + 1) 33 (.int .i64 r.1) (.int .i64 r.2) (by simp [HBS.out])
          obtain ⟨q0, q1, qf0, qf1⟩ := H3.out.other.c2 w.heap.size 33 (.int .i64 0) (.int .i64 0) (by simp [HBS.out])
          go_wp2_with fail
          have h9 : Mt w0 W3 K T .nilFunc Rp (((cb g18 59 #[.bool true, .int .i64 nr.ver, .slice kx nr.keys.length kxc, .slice rx nr.refs.length rxc] :: A) ++ (cb (g9 + 1) 33 #[.int .i64 r.1, .int .i64 r.2] :: cb g9 59 #[.bool m.leaf, .int .i64 m.ver, .slice ka1 m.keys.length kc1, .slice ra1 m.refs.length rc1] :: cb g8 33 #[.int .i64 q.1, .int .i64 q.2] :: Aw)) ++ cb w.heap.size 33 #[.int .i64 0, .int .i64 0] :: L) := by have := H3.out; rw [HBS.out] at this; simpa [List.append_assoc] using this
          have h10 := Mt.put (Mt.put h9 0 (.int .i64 r.1) rfl) 1 (.int .i64 r.2) rfl
          obtain ⟨wg, hw, hg⟩ : ∃ wg, wg = _ ∧ Mt w0 wg K T .nilFunc Rp (((cb g18 59 #[.bool true, .int .i64 nr.ver, .slice kx nr.keys.length kxc, .slice rx nr.refs.length rxc] :: A) ++ (cb (g9 + 1) 33 #[.int .i64 r.1, .int .i64 r.2] :: cb g9 59 #[.bool m.leaf, .int .i64 m.ver, .slice ka1 m.keys.length kc1, .slice ra1 m.refs.length rc1] :: cb g8 33 #[.int .i64 q.1, .int .i64 q.2] :: Aw)) ++ cb w.heap.size 33 #[.int .i64 r.1, .int .i64 r.2] :: L) := ⟨_, rfl, h10⟩
          rw [← hw]
          obtain ⟨e0, e1, -, -⟩ := hg.other.c2 w.heap.size 33 (.int .i64 r.1) (.int .i64 r.2) (by simp)
          have hp2 := HP2.out
          rw [hp2]
          exact bodyPost_ret (v := .tuple #[.agg #[.int .i64 r.1, .int .i64 r.2], .slice gad G.length gc, .bool true]) (by simp [results, Try.results64, go_sem, e0, e1, hu33]) rfl ⟨gad, gc, A, Rp, rfl, HG1.out, hg.drop (by
            rw [List.append_assoc, List.cons_append]
            exact (List.Sublist.append_left ((List.sublist_cons_self _ _).trans (List.sublist_append_right _ _)) A).trans (List.sublist_cons_self _ _))⟩
      · have hs2 : (nr.refs.length : Int) = 1 := by omega
        obtain ⟨x0, hx0⟩ : ∃ x, nr.refs[0]? = some x := ⟨_, List.getElem?_eq_getElem (by omega)⟩
        obtain ⟨T2, hT2⟩ : ∃ T2, T.leave rt = T2 := ⟨_, rfl⟩
        have hsk : T.sink = { T2 with root := x0 } := by unfold Tm.sink; rw [HN2.out.1, hT2, HN2.out.2]; unfold refI; rw [List.getD_eq_getElem?_getD, hx0]; rfl
        have hrt2 : T2.root = rt := by rw [← hT2, ← HN2.out.1]; unfold Tm.leave; exact (set_gone T T.root _).2
        have HS := As (And.intro hx0 (And.intro hT2 (And.intro hsk (And.intro hrt2 (And.intro hgg (And.intro hs1 hU))))))
        rw [hlf] at n0 H3
        clear hx0 hT2 hsk hrt2 hgg hU hs1
        go_upto_region 24 with (first | (go_at_call 35; go_loud (refine (size.calls (Hv.start _) false nr.ver kx rx nr.keys.length kxc nr.refs.length rxc).mono ?_; rintro e4 w4 ⟨rfl, hh⟩; have H4 := As (H3.out.call hh.bel); clear hh; obtain ⟨c0, c1, c2, -, -, -, -⟩ := H4.out.cells; rw [HN2.out.1] at c1 c2)) | (go_at_call 115; go_loud (refine (leave.calls H4.out rt HS.out.2.2.2.2.1).mono ?_; rw [HS.out.2.1]; rintro e5 w5 ⟨rfl, hh⟩; have H5 := As hh; clear hh; clear c0 c1 c2; obtain ⟨c0, c1, c2, -, -, -, -⟩ := H5.out.cells; rw [HS.out.2.2.2.1] at c1 c2)))
        have hal := H5.out.alloc (.cells #[.int .i64 rt.1, .int .i64 rt.2] 33)
        obtain ⟨Qx, hq, back⟩ := Mt.lensX (B := [cb w5.heap.size 33 #[.int .i64 rt.1, .int .i64 rt.2], cb g18 59 #[.bool false, .int .i64 nr.ver, .slice kx nr.keys.length kxc, .slice rx nr.refs.length rxc]]) (X := A) (L := BS) hal
        have HQx := As (And.intro hq (And.intro back ((Rdy.of_rw (w0 := w0) (size := 2) (n := 1) (e := 33) (c := 1) (xs := rcel rt) (ad := some ⟨w5.heap.size, 0, none⟩) (L := [cb w5.heap.size 33 #[.int .i64 rt.1, .int .i64 rt.2]]) ⟨rfl, Nat.le_refl _, fun _ => ⟨w5.heap.size, 0, #[.int .i64 rt.1, .int .i64 rt.2], rfl, by simp, fun i _ => by rw [Nat.zero_add]; simp [rcel]⟩⟩) _ _ hal.other (fun z hz => by rw [List.mem_singleton.1 hz]; simp))))
        clear hq back hal
        have HBB := As (show (G.length + 1) * 16 ≤ 140737488355328 by
          have h1 := HS.out.2.2.2.2.2.2.len
          have h3 := HU2.out.2
          simp only [List.length_append, List.length_singleton] at h1
          omega)
        go_upto_region 25 with ((with_reducible refine gate_builtin (b := .append) (xs := #[.tmp 125, .tmp 130]) rfl ?_); at_builtin; go_loud (refine append_rows (w0 := w0) (A := A) (L := Qx) rfl (.tmp 125) (.tmp 130) 31 33 (.agg #[.int .i64 0, .int .i64 0]) 2 16 rfl Try.underlying31 infoR rfl (by decide) (by decide) (.slice gad G.length gc) G.length (G.flatMap rcel) rfl (some ⟨w5.heap.size, 0, none⟩) 1 1 (rcel rt) rfl (by intro u hu; simp [rcel] at hu; rcases hu with rfl | rfl <;> rfl) HG1.out HQx.out.1 HQx.out.2.2 HBB.out ?_; intro v11 w11 A11 hG11 hv11; obtain ⟨ad11, c11, rfl, -⟩ := hG11.form; have HG11 := As hG11; have H11 := As (show Mt w0 w11 K T2 .nilFunc Rp ([cb w5.heap.size 33 #[.int .i64 rt.1, .int .i64 rt.2], cb g18 59 #[.bool false, .int .i64 nr.ver, .slice kx nr.keys.length kxc, .slice rx nr.refs.length rxc]] ++ (A11 ++ BS)) from HQx.out.2.1 w11 A11 hv11); clear hG11 hv11; clear c0 c1 c2))
        obtain ⟨c0, c1, c2, -, f1, f2, -⟩ := H11.out.cells
        obtain ⟨-, -, -, n3, -, -, -, -⟩ := H11.out.other.c4 g18 59 (.bool false) (.int .i64 nr.ver) (.slice kx nr.keys.length kxc) (.slice rx nr.refs.length rxc) (by simp)
        obtain ⟨rx0, hrx0, hcl⟩ := (H11.out.rd HRx.out.r).2 (by have := HS.out.2.2.2.2.2.1; omega)
        subst hrx0
        obtain ⟨r0, r1⟩ := rcel_get nr.refs 0 x0 HS.out.1
        have v0 : w11.cell? rx0 = some (.int .i64 x0.1) := hcl _ _ r0
        have v1 : w11.cell? { block := rx0.block, off := rx0.off + 1 } = some (.int .i64 x0.2) := hcl _ _ r1
        clear hcl r0 r1
        have hlt0 : (0 : Int) < (nr.refs.length : Int) := by omega
        go_wp2_with fail
        go_roundg kk
        case measure => omega
        case rel =>
          refine ⟨ad11, c11, G ++ [rt], A11, Rp, { T2 with root := x0 }, by rw [List.length_append, List.length_singleton], ?_, ?_, ⟨?_⟩⟩
          · have := HG11.out
            rw [List.length_append, List.length_singleton, List.flatMap_append]
            exact ⟨by simpa using this⟩
          · exact ⟨(H11.out.setRoot x0).tail.tail⟩
          · have this : Up2 kk (T.sink, G ++ [rt]) p2 := by have h := HS.out.2.2.2.2.2.2; first | exact h | (rw [HN2.out.1] at h; exact h)
            rw [HS.out.2.2.1] at this
            exact this
  subst haL
  simp only [List.setIfInBounds_toArray, List.set_cons_zero, List.set_cons_succ] at REST
  have HRE := As REST
  clear REST hKK
  go_loopg [12, 13] l.length (fun kq v12 v13 wr => ∃ (i : Nat) (gad : Option Addr) (gc : Nat) (G : List Rf) (A Rp : List Ob) (T : Tm), v12 = .slice gad G.length gc ∧ v13 = .int .i64 (i : Int) ∧ kq = i ∧ i ≤ l.length ∧ Aside0 (Gr 33 2 (.slice gad G.length gc) G.length (G.flatMap rcel) A) ∧ Aside0 (Mt w0 wr K T .nilFunc Rp (A ++ BS)) ∧ Aside0 (Up1 s i (T, G) p1))
  case atStart => exact ⟨l.length, none, 0, [], [], A1 ++ R, T0, rfl, rfl, rfl, Nat.le_refl _, ⟨Gr.nil 33 2⟩, H9, HU1⟩
  case round =>
    obtain ⟨i, gad, gc, G, A, Rp, T, rfl, rfl, rfl, hil0, HG1, HM1, HV⟩ := hrel
    rcases HV.out.inv with ⟨rfl, hp1⟩ | ⟨k, rfl, hcase⟩
    · go_wp2_with fail
      exact HRE.out _ _ _ _ _ _ _ _ _ _ _ _ _ _ _ _ _ _ _ _ _ _ _ _ _ _ _ _ _ _ _ _ _ _ _ _ _ _ _ _ _ _ _ _ _ _ _ _ _ _ _ _ _ _ _ _ _ _ _ _ _ _ _  HG1.out HM1.out (by rw [hp1] at HU2; exact HU2.out.1)
    · exact absurd hil0 (by have := HL0.out; omega)
end
section
variable {w0 w w1 : World} {L L' R : List Ob} {K : Nat × Nat × Nat} {t : Tm} {on : Value}
section
variable {P : Program} {ops : Array Oper} {rest : List Oper} {o : Oper} {a : Act} {Q : Exit → Act → World → Prop} {K : Act → World → Prop} {A : List Ob}
end
theorem rcel_one (l : List Rf) : ∀ u ∈ l.flatMap rcel, u.oneCell' = true := by
 intro u hu
 obtain ⟨x, _, hx⟩ := List.mem_flatMap.1 hu
 simp only [rcel, List.mem_cons, List.not_mem_nil, or_false] at hx
 rcases hx with rfl | rfl <;> rfl
end
section
variable {w0 w w1 : World} {L L' R : List Ob} {K : Nat × Nat × Nat} {t : Tm} {on : Value}
def Tm.freeN (t : Tm) (r : Rf) : Tm := if t.has r then { t with p := t.p.drop r.1 [], ns := t.ns.set r.1.toNat nd0 } else t
def Tm.free (t : Tm) (r : Rf) : Tm × Bool :=
 if idxF r t.gone < t.gone.length then (({ t with gone := t.gone.eraseIdx (idxF r t.gone) } : Tm).freeN r, t.has r) else (t, false)
theorem Mt.Free (h : Mt w0 w K t on R L) (r : Rf) : Calls Try.prog 117 #[.pointer (some ⟨K.2.1, 0, none⟩), .agg #[.int .i64 r.1, .int .i64 r.2]] w fun e w' => e = .returned (.bool (t.has r)) ∧ Mt w0 w' K (t.freeN r) on R L := by
 obtain ⟨s, gv, G, e, h1, h2, h3⟩ := h
 have hh : s.has r.1 r.2 = t.has r := by unfold Tm.has; rw [← e, bare_has]
 refine (h1.Free r.1 r.2 hh rfl).mono ?_
 rintro e1 w1 ⟨rfl, h4⟩
 refine ⟨rfl, ?_⟩
 unfold Ar.free at h4
 unfold Tm.freeN
 rw [hh] at h4
 cases hb : t.has r
 ·rw [hb] at h4
  exact ⟨s, gv, G, e, h4, h2, h3⟩
 ·rw [hb] at h4 hh
  rw [if_pos rfl] at h4
  obtain ⟨b0, b1, -, -⟩ := Ar.has_lt hh
  refine ⟨_, gv, G, ?_, h4, h2, ?_⟩
  ·simp only [if_true]
   rw [bare_drop, e]
  ·refine Mt.rows_set h3 (n := nd0) (ka := none) (kc := 0) (ra := none) (rc := 0) (by omega) ⟨Rdy.nil _ _, Rdy.nil _ _, Nat.le_refl _, Nat.le_refl _⟩ (fun j => ?_) (by simp [Ar.drop, Ar.n])
   simp only [Ar.drop]
   rw [slot_set _ _ _ _ _ _ (by omega)]
   simp only [Int.toNat_natCast]
   split <;> rfl
end
end Go.Proofs.Ytglbcfkmaamhaaa.Tr
