/- A text of this claim: parts NdG NdJ NdK NdL. No condition. -/
import Derived.Test.YtglbcfkmaamhaaaJG4
import Derived.Test.YtglbcfkmaamhaaaJG2
import Derived.Test.YtglbcfkmaamhaaaJG0
set_option linter.unusedVariables false
set_option linter.unusedSimpArgs false
set_option maxHeartbeats 16000000
set_option maxRecDepth 100000
namespace Go.Proofs.Ytglbcfkmaamhaaa.Nd
open Go Go.RowKit Go.Proofs.YtglbcfkmaamhaaaW.PrintWords Go.Proofs.YtglbcfkmaamhaaaW.PrintLast Go.Proofs.YtglbcfkmaamhaaaW.PrintMore Go.Proofs.Ytglbcfkmaamhaaa.Hv
section
variable {w0 w w1 : World} {g : Nat} {L L' R : List Ob}
theorem putA3 {a b c : Ob} {A : List Ob} {t : Nat} {cs : Array Value} (h : Hv w0 w (A ++ (a :: b :: c :: cb g t cs :: L))) (i : Nat) (u : Value) {cs' : Array Value} (e : cs.setIfInBounds i u = cs') : Hv w0 (w.setCell ⟨g, i, none⟩ u) (A ++ (a :: b :: c :: cb g t cs' :: L)) := by
 have h1 := h.put (A.length + 3) (g := g) (t := t) (cs := cs) (by simp [List.getElem?_append_right]) i u
 rw [List.set_append_right _ _ (by omega), Nat.add_sub_cancel_left] at h1
 exact e ▸ h1
def Nd.delete (n : Nd) (k : ByteArray) : Nd × Rf × Bool :=
 if (n.find k).2 then ({ n with ver := wrap64 (n.ver + 1), keys := n.keys.take (plc k n.keys) ++ n.keys.drop (plc k n.keys + 1), refs := n.refs.take (plc k n.keys) ++ n.refs.drop (plc k n.keys + 1) }, (n.refs[plc k n.keys]?).getD (0, 0), true) else (n, (0, 0), false)
def DelP (w0 : World) (R L : List Ob) (n : Nd × Rf × Bool) (e : Ending) (w' : World) : Prop := ∃ v A, e = .returned (.tuple #[v, .agg #[.int .i64 n.2.1.1, .int .i64 n.2.1.2], .bool n.2.2]) ∧ NV w0 (A ++ R) n.1 v ∧ Hv w0 w' (A ++ L)
theorem rcel_get : ∀ (l : List Rf) (i : Nat) (r : Rf), l[i]? = some r → (l.flatMap rcel)[i * 2]? = some (.int .i64 r.1) ∧ (l.flatMap rcel)[i * 2 + 1]? = some (.int .i64 r.2)
 | a :: l, 0, r, h => by simp at h; subst h; simp [rcel]
 | a :: l, i + 1, r, h => by
  have h2 := rcel_get l i r (by simpa using h)
  rw [show (i + 1) * 2 = i * 2 + 2 by omega]
  simp only [List.flatMap_cons, rcel, List.cons_append, List.nil_append, List.getElem?_cons_succ]
  exact h2
theorem delete.calls (hv : Hv w0 w L) (hRL : ∀ p ∈ R, p ∈ L) {n : Nd} {v : Value} (hn : NV w0 R n v) (ho : Ok n) (k : ByteArray) :
  Calls Try.prog 44 #[v, .string k] w (DelP w0 R L (n.delete k)) := by
 have hu59 := Try.underlying59
 have hu57 := Try.underlying57
 have hu31 := Try.underlying31
 have hu33 := Try.underlying33
 obtain ⟨ka, kc, ra, rc, rfl, hr⟩ := hn
 have HRL := As hRL
 clear hRL
 have HV := As (show Hv w0 _ (cb (w.heap.size + 1 + 1) 33 #[.int .i64 0, .int .i64 0] :: cb (w.heap.size + 1) 59 #[.bool false, .int .i64 0, .slice none 0 0, .slice none 0 0] :: cb w.heap.size 59 #[.bool n.leaf, .int .i64 n.ver, .slice ka n.keys.length kc, .slice ra n.refs.length rc] :: L) by
  have := ((hv.alloc (.cells #[.bool n.leaf, .int .i64 n.ver, .slice ka n.keys.length kc, .slice ra n.refs.length rc] 59)).alloc (.cells #[.bool false, .int .i64 0, .slice none 0 0, .slice none 0 0] 59)).alloc (.cells #[.int .i64 0, .int .i64 0] 33)
  simpa [cb] using this)
 have HR := As hr
 have HN := As (show NV w0 (cb (w.heap.size + 1 + 1) 33 #[.int .i64 0, .int .i64 0] :: cb (w.heap.size + 1) 59 #[.bool false, .int .i64 0, .slice none 0 0, .slice none 0 0] :: cb w.heap.size 59 #[.bool n.leaf, .int .i64 n.ver, .slice ka n.keys.length kc, .slice ra n.refs.length rc] :: L) n (nval n ka kc ra rc) from ⟨ka, kc, ra, rc, rfl, hr.mono (fun p hp => by first | (simp [hp]; done) | (simp [HRL.out p hp]; done))⟩)
 have HO := As ho
 clear hv hr ho
 obtain ⟨y0, y1, y2, y3, f0, f1, f2, f3⟩ := HV.out.c4 w.heap.size 59 (.bool n.leaf) (.int .i64 n.ver) (.slice ka n.keys.length kc) (.slice ra n.refs.length rc) (by simp)
 obtain ⟨q0, q1, q2, q3, g0, g1, g2, g3⟩ := HV.out.c4 (w.heap.size + 1) 59 (.bool false) (.int .i64 0) (.slice none 0 0) (.slice none 0 0) (by simp)
 obtain ⟨t0, t1, t2, t3⟩ := HV.out.c2 (w.heap.size + 1 + 1) 33 (.int .i64 0) (.int .i64 0) (by simp)
 unfold nval at *
 have ew : IntKind.i64.wrap (n.ver + 1) = wrap64 (n.ver + 1) := i64_w _
 cases hq : (n.find k).2
 ·have HF := As (show n.delete k = (n, (0, 0), false) by unfold Nd.delete; rw [hq]; rfl)
  go_enter Try.func44, Try.ntmps44
  go_wp2_with (go_at_call 38; go_loud (refine (find.calls HV.out HN.out HO.out k).mono ?_); rw [hq]; rintro e3 w3 ⟨rfl, h3⟩; have H3 := As h3; clear y0 y1 y2 y3 f0 f1 f2 f3 q0 q1 q2 q3 g0 g1 g2 g3 t0 t1 t2 t3; obtain ⟨y0, y1, y2, y3, f0, f1, f2, f3⟩ := h3.c4 w.heap.size 59 (.bool n.leaf) (.int .i64 n.ver) (.slice ka n.keys.length kc) (.slice ra n.refs.length rc) (by simp); obtain ⟨q0, q1, q2, q3, g0, g1, g2, g3⟩ := h3.c4 (w.heap.size + 1) 59 (.bool false) (.int .i64 0) (.slice none 0 0) (.slice none 0 0) (by simp); obtain ⟨t0, t1, t2, t3⟩ := h3.c2 (w.heap.size + 1 + 1) 33 (.int .i64 0) (.int .i64 0) (by simp); clear h3)
  obtain ⟨wg, hw, hg⟩ : ∃ wg, wg = _ ∧ Hv w0 wg ([] ++ (cb (w.heap.size + 1 + 1) 33 #[.int .i64 0, .int .i64 0] :: cb (w.heap.size + 1) 59 #[.bool n.leaf, .int .i64 n.ver, .slice ka n.keys.length kc, .slice ra n.refs.length rc] :: cb w.heap.size 59 #[.bool n.leaf, .int .i64 n.ver, .slice ka n.keys.length kc, .slice ra n.refs.length rc] :: L)) := ⟨_, rfl, (Hv.putA0 (Hv.putA0 (Hv.putA1 (Hv.putA1 (Hv.putA1 (Hv.putA1 (show Hv w0 w3 ([] ++ (cb (w.heap.size + 1 + 1) 33 #[.int .i64 0, .int .i64 0] :: cb (w.heap.size + 1) 59 #[.bool false, .int .i64 0, .slice none 0 0, .slice none 0 0] :: cb w.heap.size 59 #[.bool n.leaf, .int .i64 n.ver, .slice ka n.keys.length kc, .slice ra n.refs.length rc] :: L)) from H3.out) 0 (.bool n.leaf) rfl) 1 (.int .i64 n.ver) rfl) 2 (.slice ka n.keys.length kc) rfl) 3 (.slice ra n.refs.length rc) rfl) 0 (.int .i64 0) rfl) 1 (.int .i64 0) rfl)⟩
  rw [← hw]
  obtain ⟨e0, e1, e2, e3, -, -, -, -⟩ := hg.right.c4 (w.heap.size + 1) 59 (.bool n.leaf) (.int .i64 n.ver) (.slice ka n.keys.length kc) (.slice ra n.refs.length rc) (by simp)
  obtain ⟨e4, e5, -, -⟩ := hg.right.c2 (w.heap.size + 1 + 1) 33 (.int .i64 0) (.int .i64 0) (by simp)
  exact bodyPost_ret (v := .tuple #[.agg #[.bool n.leaf, .int .i64 n.ver, .slice ka n.keys.length kc, .slice ra n.refs.length rc], .agg #[.int .i64 0, .int .i64 0], .bool false]) (by simp [results, Try.results44, go_sem, e0, e1, e2, e3, e4, e5, hu59, hu33]) rfl ⟨_, [], by rw [HF.out] <;> rfl, by rw [HF.out]; exact ⟨ka, kc, ra, rc, rfl, HR.out⟩, hg.drop (List.Sublist.append_left ((List.sublist_cons_self _ _).trans ((List.sublist_cons_self _ _).trans (List.sublist_cons_self _ _))) [])⟩
 ·have hb : (n.leaf && (n.keys.length == n.refs.length)) = true := by
   cases hb : (n.leaf && (n.keys.length == n.refs.length))
   ·unfold Nd.find at hq; rw [hb] at hq; cases hq
   ·rfl
  have hff : n.find k = (plc k n.keys, fnd k n.keys) := by unfold Nd.find; rw [hb]; rfl
  have hq' : fnd k n.keys = true := by rw [hff] at hq; exact hq
  have hkr : n.keys.length = n.refs.length := by simp only [Bool.and_eq_true, beq_iff_eq] at hb; exact hb.2
  have hpl := fnd_lt hq'
  obtain ⟨p, hp⟩ : ∃ p, p = plc k n.keys := ⟨_, rfl⟩
  obtain ⟨r, hr⟩ : ∃ r, n.refs[p]? = some r := ⟨_, List.getElem?_eq_getElem (by omega)⟩
  have HF := As (show n.delete k = ({ n with ver := wrap64 (n.ver + 1), keys := n.keys.take p ++ n.keys.drop (p + 1), refs := n.refs.take p ++ n.refs.drop (p + 1) }, r, true) by unfold Nd.delete; rw [if_pos hq, ← hp, hr]; rfl)
  have hqq : ((n.find k).1, (n.find k).2) = (p, true) := by rw [hff, hp, hq']
  obtain ⟨ad, ea, -⟩ := (HR.out.r _ _ HV.out (fun x hx => by first | (simp [hx]; done) | (simp [HRL.out x hx]; done))).2 (by omega)
  cases ea
  have hpn : p < n.refs.length := by omega
  have hpi : (p : Int) < (n.refs.length : Int) := by omega
  have RP := As (show ∀ (W : World) (L' : List Ob), Hv w0 W L' → (∀ x ∈ R, x ∈ L') → W.cell? (ad.add (p * 2)) = some (.int .i64 r.1) ∧ W.cell? { block := (ad.add (p * 2)).block, off := (ad.add (p * 2)).off + 1 } = some (.int .i64 r.2) from fun W L' h hL => by
   obtain ⟨a, e1, hc⟩ := (HR.out.r W L' h hL).2 (by omega)
   cases e1
   obtain ⟨g1, g2⟩ := rcel_get _ _ _ hr
   have h2 := hc _ _ g2
   rw [← Addr.add_add] at h2
   exact ⟨hc _ _ g1, h2⟩)
  have HP := As (And.intro hp (And.intro hkr hr))
  clear hq hp hkr hr hb hpl
  go_enter Try.func44, Try.ntmps44
  go_upto_region 4 with (go_at_call 38; go_loud (refine (find.calls HV.out HN.out HO.out k).mono ?_); rw [hff, hq', ← HP.out.1]; rintro e3 w3 ⟨rfl, h3⟩; have H3 := As h3; clear y0 y1 y2 y3 f0 f1 f2 f3 q0 q1 q2 q3 g0 g1 g2 g3 t0 t1 t2 t3; obtain ⟨y0, y1, y2, y3, f0, f1, f2, f3⟩ := h3.c4 w.heap.size 59 (.bool n.leaf) (.int .i64 n.ver) (.slice ka n.keys.length kc) (.slice (some ad) n.refs.length rc) (by simp); obtain ⟨q0, q1, q2, q3, g0, g1, g2, g3⟩ := h3.c4 (w.heap.size + 1) 59 (.bool false) (.int .i64 0) (.slice none 0 0) (.slice none 0 0) (by simp); obtain ⟨t0, t1, t2, t3⟩ := h3.c2 (w.heap.size + 1 + 1) 33 (.int .i64 0) (.int .i64 0) (by simp); obtain ⟨z0, z1⟩ := RP.out _ _ h3 (fun x hx => by first | (simp [hx]; done) | (simp [HRL.out x hx]; done)); clear h3)
  go_upto_region 5 with (fail)
  obtain ⟨W4, hW, hv4⟩ : ∃ W4, W4 = w3.alloc (.cells #[.int .i64 r.1, .int .i64 r.2] 33) ∧ Hv w0 W4 (cb w3.heap.size 33 #[.int .i64 r.1, .int .i64 r.2] :: cb (w.heap.size + 1 + 1) 33 #[.int .i64 0, .int .i64 0] :: cb (w.heap.size + 1) 59 #[.bool false, .int .i64 0, .slice none 0 0, .slice none 0 0] :: cb w.heap.size 59 #[.bool n.leaf, .int .i64 n.ver, .slice ka n.keys.length kc, .slice (some ad) n.refs.length rc] :: L) := ⟨_, rfl, H3.out.alloc _⟩
  rw [← hW]
  generalize w3.heap.size = b5 at hv4 ⊢
  have H4d := As hv4.drew
  clear y0 y1 y2 y3 f0 f1 f2 f3 q0 q1 q2 q3 g0 g1 g2 g3 t0 t1 t2 t3
  clear z0 z1 hv4 hW
  obtain ⟨nk, hnk⟩ : ∃ nk, nk = n.keys.take p ++ n.keys.drop (p + 1) := ⟨_, rfl⟩
  obtain ⟨nr, hnr⟩ : ∃ nr, nr = n.refs.take p ++ n.refs.drop (p + 1) := ⟨_, rfl⟩
  have hlk : p + 0 + (n.keys.length - (p + 1)) = nk.length := by have := HP.out.2.1; rw [hnk]; simp; omega
  have hlr : p + 0 + (n.refs.length - (p + 1)) = nr.length := by rw [hnr]; simp; omega
  have HNR := As (And.intro hnk (And.intro hnr (And.intro hlk hlr)))
  have HQ := As (show p + 1 ≤ n.refs.length ∧ p + 1 ≤ n.keys.length from ⟨hpn, by have := HP.out.2.1; omega⟩)
  clear hnk hnr hlk hlr hpn
  have SP := As (show ∀ (w' : World) (L' : List Ob), Hv w0 w' L' → cb w.heap.size 59 #[.bool n.leaf, .int .i64 n.ver, .slice ka n.keys.length kc, .slice (some ad) n.refs.length rc] ∈ L' → (w'.cell? ⟨w.heap.size, 0, none⟩ = some (.bool n.leaf) ∧ w'.cell? ⟨w.heap.size, 1, none⟩ = some (.int .i64 n.ver) ∧ w'.cell? ⟨w.heap.size, 2, none⟩ = some (.slice ka n.keys.length kc) ∧ w'.cell? ⟨w.heap.size, 3, none⟩ = some (.slice (some ad) n.refs.length rc)) from fun w' L' h m3 => by
   obtain ⟨p0, p1, p2, p3, -, -, -, -⟩ := h.c4 _ _ _ _ _ _ m3
   exact ⟨p0, p1, p2, p3⟩)
  refine start_ (n := 12) (S := fun w' => w'.cell? ⟨w.heap.size, 0, none⟩ = some (.bool n.leaf) ∧ w'.cell? ⟨w.heap.size, 1, none⟩ = some (.int .i64 n.ver) ∧ w'.cell? ⟨w.heap.size, 2, none⟩ = some (.slice ka n.keys.length kc) ∧ w'.cell? ⟨w.heap.size, 3, none⟩ = some (.slice (some ad) n.refs.length rc)) (ds := [9, 11]) #[false, false, false, false, false, false, false, false, false, false, false, false] (by kernel_rfl) rfl rfl (SP.out _ _ H4d.out (by simp)) (fun hHeld => ?_)
  generalize W4.drew = wr0 at H4d hHeld ⊢
  refine pu_ 0 (some 25) ?_
  refine pu_ 2 (some 27) ?_
  refine pu_ 4 (some 29) ?_
  refine pu_ 6 (some 31) ?_
  refine ta_ 1 (some 26) hHeld ?_ (hy := Or.inl ⟨by rfl, by rintro w' ⟨s0, s1, s2, s3⟩; go_simp; with_reducible rfl⟩)
  refine ta_ 5 (some 30) hHeld ?_ (hy := Or.inl ⟨by rfl, by rintro w' ⟨s0, s1, s2, s3⟩; go_simp; with_reducible rfl⟩)
  refine on_ 3 (some 28) fun K hK => ?_
  refine gs_ Try.func97 #[.slice ka n.keys.length kc, .int .i64 ((p : Nat) : Int), .int .i64 1, .slice none 0 0] ?_
  have hca := splS.calls (w0 := w0) (a1 := none) (n1 := 0) (c1 := 0) (ys := []) H4d.out (HR.out.k.mono (fun p hp => by first | (simp [hp]; done) | (simp [HRL.out p hp]; done))) (Rdy.nil 1 none) (kcel_one _) (by intro u hu; cases hu) HR.out.kc (by have := HO.out.r; have := HO.out.k; omega) p 1 (by have := HQ.out.1; have := HQ.out.2; omega)
  refine hca.mono ?_
  clear hca
  rintro e wr1 hq5
  obtain ⟨adk, ck, A1, rfl, hG, hv5⟩ := hq5
  rw [HNR.out.2.2.1] at hG ⊢
  refine ⟨_, rfl, ?_⟩
  have HGk := As hG
  have HR1 := As (show Hv w0 wr1 (A1 ++ (cb b5 33 #[.int .i64 r.1, .int .i64 r.2] :: cb (w.heap.size + 1 + 1) 33 #[.int .i64 0, .int .i64 0] :: cb (w.heap.size + 1) 59 #[.bool false, .int .i64 0, .slice none 0 0, .slice none 0 0] :: cb w.heap.size 59 #[.bool n.leaf, .int .i64 n.ver, .slice ka n.keys.length kc, .slice (some ad) n.refs.length rc] :: L)) from hv5)
  clear hG hv5
  refine hK.out _ _ (SP.out _ _ HR1.out (by simp)) (fun hHeld => ?_)
  clear hK K
  refine nm_ ?_
  refine pu_ 8 (some 33) ?_
  refine on_ 7 (some 32) fun K hK => ?_
  refine gs_ Try.func96 #[.slice (some ad) n.refs.length rc, .int .i64 ((p : Nat) : Int), .int .i64 1, .slice none 0 0] ?_
  have hca := splR.calls (w0 := w0) (a1 := none) (n1 := 0) (c1 := 0) (ys := []) HR1.out (HR.out.r.mono (fun p hp => by first | (simp [hp]; done) | (simp [HRL.out p hp]; done))) (Rdy.nil 2 none) (rcel_one _) (by intro u hu; cases hu) HR.out.rc (by have := HO.out.r; have := HO.out.k; omega) p 1 (by have := HQ.out.1; have := HQ.out.2; omega)
  refine hca.mono ?_
  clear hca
  rintro e wr2 hq5
  obtain ⟨adr, cr, A2, rfl, hG, hv5⟩ := hq5
  rw [HNR.out.2.2.2] at hG ⊢
  refine ⟨_, rfl, ?_⟩
  have HGr := As hG
  have HR2 := As (show Hv w0 wr2 (A2 ++ (A1 ++ (cb b5 33 #[.int .i64 r.1, .int .i64 r.2] :: cb (w.heap.size + 1 + 1) 33 #[.int .i64 0, .int .i64 0] :: cb (w.heap.size + 1) 59 #[.bool false, .int .i64 0, .slice none 0 0, .slice none 0 0] :: cb w.heap.size 59 #[.bool n.leaf, .int .i64 n.ver, .slice ka n.keys.length kc, .slice (some ad) n.refs.length rc] :: L))) from hv5)
  clear hG hv5
  refine hK.out _ _ (SP.out _ _ HR2.out (by simp)) (fun hHeld => ?_)
  clear hK K
  refine nm_ ?_
  refine la_ 9 none fun K hK => ?_
  have HS := As (show Hv w0 wr2 ((A2 ++ A1) ++ (cb b5 33 #[.int .i64 r.1, .int .i64 r.2] :: cb (w.heap.size + 1 + 1) 33 #[.int .i64 0, .int .i64 0] :: cb (w.heap.size + 1) 59 #[.bool false, .int .i64 0, .slice none 0 0, .slice none 0 0] :: cb w.heap.size 59 #[.bool n.leaf, .int .i64 n.ver, .slice ka n.keys.length kc, .slice (some ad) n.refs.length rc] :: L)) by rw [List.append_assoc]; exact HR2.out)
  obtain ⟨y0, y1, y2, y3, f0, f1, f2, f3⟩ := HS.out.right.c4 w.heap.size 59 (.bool n.leaf) (.int .i64 n.ver) (.slice ka n.keys.length kc) (.slice (some ad) n.refs.length rc) (by simp)
  refine sk_ (hK.out _ _ ?_)
  clear hK K y0 y1 y2 y3 f0 f1 f2 f3
  obtain ⟨wr3, hW, hvv⟩ : ∃ wr3, wr3 = wr2.setCell ⟨w.heap.size, 2, none⟩ (.slice adk nk.length ck) ∧ Hv w0 wr3 ((A2 ++ A1) ++ (cb b5 33 #[.int .i64 r.1, .int .i64 r.2] :: cb (w.heap.size + 1 + 1) 33 #[.int .i64 0, .int .i64 0] :: cb (w.heap.size + 1) 59 #[.bool false, .int .i64 0, .slice none 0 0, .slice none 0 0] :: cb w.heap.size 59 #[.bool n.leaf, .int .i64 n.ver, .slice adk nk.length ck, .slice (some ad) n.refs.length rc] :: L)) := ⟨_, rfl, putA3 HS.out 2 _ rfl⟩
  rw [← hW]
  have HR3 := As hvv
  clear hW hvv
  refine pu_ 10 (some 34) ?_
  refine la_ 11 none fun K hK => ?_
  obtain ⟨y0, y1, y2, y3, f0, f1, f2, f3⟩ := HR3.out.right.c4 w.heap.size 59 (.bool n.leaf) (.int .i64 n.ver) (.slice adk nk.length ck) (.slice (some ad) n.refs.length rc) (by simp)
  refine sk_ (hK.out _ _ ?_)
  clear hK K y0 y1 y2 y3 f0 f1 f2 f3
  obtain ⟨wr4, hW, hvv⟩ : ∃ wr4, wr4 = wr3.setCell ⟨w.heap.size, 3, none⟩ (.slice adr nr.length cr) ∧ Hv w0 wr4 ((A2 ++ A1) ++ (cb b5 33 #[.int .i64 r.1, .int .i64 r.2] :: cb (w.heap.size + 1 + 1) 33 #[.int .i64 0, .int .i64 0] :: cb (w.heap.size + 1) 59 #[.bool false, .int .i64 0, .slice none 0 0, .slice none 0 0] :: cb w.heap.size 59 #[.bool n.leaf, .int .i64 n.ver, .slice adk nk.length ck, .slice adr nr.length cr] :: L)) := ⟨_, rfl, putA3 HR3.out 3 _ rfl⟩
  rw [← hW]
  have HR4 := As hvv
  clear hW hvv
  refine done_ (by kernel_rfl) ?_
  obtain ⟨y0, y1, y2, y3, f0, f1, f2, f3⟩ := HR4.out.right.c4 w.heap.size 59 (.bool n.leaf) (.int .i64 n.ver) (.slice adk nk.length ck) (.slice adr nr.length cr) (by simp)
  obtain ⟨q0, q1, q2, q3, g0, g1, g2, g3⟩ := HR4.out.right.c4 (w.heap.size + 1) 59 (.bool false) (.int .i64 0) (.slice none 0 0) (.slice none 0 0) (by simp)
  obtain ⟨t0, t1, t2, t3⟩ := HR4.out.right.c2 (w.heap.size + 1 + 1) 33 (.int .i64 0) (.int .i64 0) (by simp)
  obtain ⟨u0, u1, u2, u3⟩ := HR4.out.right.c2 b5 33 (.int .i64 r.1) (.int .i64 r.2) (by simp)
  go_wp2_with fail
  obtain ⟨wv, hW, hvv⟩ : ∃ wv, wv = wr4.setCell ⟨w.heap.size, 1, none⟩ (.int .i64 (wrap64 (n.ver + 1))) ∧ Hv w0 wv ((A2 ++ A1) ++ (cb b5 33 #[.int .i64 r.1, .int .i64 r.2] :: cb (w.heap.size + 1 + 1) 33 #[.int .i64 0, .int .i64 0] :: cb (w.heap.size + 1) 59 #[.bool false, .int .i64 0, .slice none 0 0, .slice none 0 0] :: cb w.heap.size 59 #[.bool n.leaf, .int .i64 (wrap64 (n.ver + 1)), .slice adk nk.length ck, .slice adr nr.length cr] :: L)) := ⟨_, rfl, putA3 HR4.out 1 _ rfl⟩
  rw [← hW]
  have HV9 := As hvv
  clear hW u0 u1 u2 u3
  clear y0 y1 y2 y3 f0 f1 f2 f3 q0 q1 q2 q3 g0 g1 g2 g3 t0 t1 t2 t3
  obtain ⟨y0, y1, y2, y3, f0, f1, f2, f3⟩ := hvv.right.c4 w.heap.size 59 (.bool n.leaf) (.int .i64 (wrap64 (n.ver + 1))) (.slice adk nk.length ck) (.slice adr nr.length cr) (by simp)
  obtain ⟨q0, q1, q2, q3, g0, g1, g2, g3⟩ := hvv.right.c4 (w.heap.size + 1) 59 (.bool false) (.int .i64 0) (.slice none 0 0) (.slice none 0 0) (by simp)
  obtain ⟨t0, t1, t2, t3⟩ := hvv.right.c2 (w.heap.size + 1 + 1) 33 (.int .i64 0) (.int .i64 0) (by simp)
  obtain ⟨u0, u1, u2, u3⟩ := hvv.right.c2 b5 33 (.int .i64 r.1) (.int .i64 r.2) (by simp)
  have x1 := hvv.right.apart (i := 0) (j := 1) rfl rfl (by decide)
  have x2 := hvv.right.apart (i := 0) (j := 2) rfl rfl (by decide)
  have x3 := hvv.right.apart (i := 0) (j := 3) rfl rfl (by decide)
  have x4 := hvv.right.apart (i := 1) (j := 0) rfl rfl (by decide)
  have x5 := hvv.right.apart (i := 2) (j := 0) rfl rfl (by decide)
  have x6 := hvv.right.apart (i := 3) (j := 0) rfl rfl (by decide)
  simp only [cb] at x1 x2 x3 x4 x5 x6
  clear hvv
  go_region
  go_wp2_with fail
  have hgk : Gr 9 1 (.slice adk nk.length ck) nk.length (nk.map Value.string) A1 := by
   have h9 := HGk.out
   rw [HNR.out.1] at h9 ⊢
   simpa using h9
  have hgr : Gr 33 2 (.slice adr nr.length cr) nr.length (nr.flatMap rcel) A2 := by
   have h9 := HGr.out
   rw [rcel_take, rcel_drop] at h9
   rw [HNR.out.2.1] at h9 ⊢
   simpa [List.flatMap_append, rcel] using h9
  have HGR := As (And.intro hgk hgr)
  clear hgk hgr
  obtain ⟨wg, hw, hg⟩ : ∃ wg, wg = _ ∧ Hv w0 wg ((A2 ++ A1) ++ (cb b5 33 #[.int .i64 r.1, .int .i64 r.2] :: cb (w.heap.size + 1 + 1) 33 #[.int .i64 r.1, .int .i64 r.2] :: cb (w.heap.size + 1) 59 #[.bool n.leaf, .int .i64 (wrap64 (n.ver + 1)), .slice adk nk.length ck, .slice adr nr.length cr] :: cb w.heap.size 59 #[.bool n.leaf, .int .i64 (wrap64 (n.ver + 1)), .slice adk nk.length ck, .slice adr nr.length cr] :: L)) := ⟨_, rfl, (Hv.putA1 (Hv.putA1 (putA2 (putA2 (putA2 (putA2 HV9.out 0 (.bool n.leaf) rfl) 1 (.int .i64 (wrap64 (n.ver + 1))) rfl) 2 (.slice adk nk.length ck) rfl) 3 (.slice adr nr.length cr) rfl) 0 (.int .i64 r.1) rfl) 1 (.int .i64 r.2) rfl)⟩
  rw [← hw]
  obtain ⟨e0, e1, e2, e3, -, -, -, -⟩ := hg.right.c4 (w.heap.size + 1) 59 (.bool n.leaf) (.int .i64 (wrap64 (n.ver + 1))) (.slice adk nk.length ck) (.slice adr nr.length cr) (by simp)
  obtain ⟨e4, e5, -, -⟩ := hg.right.c2 (w.heap.size + 1 + 1) 33 (.int .i64 r.1) (.int .i64 r.2) (by simp)
  exact bodyPost_ret (v := .tuple #[.agg #[.bool n.leaf, .int .i64 (wrap64 (n.ver + 1)), .slice adk nk.length ck, .slice adr nr.length cr], .agg #[.int .i64 r.1, .int .i64 r.2], .bool true]) (by simp [results, Try.results44, go_sem, e0, e1, e2, e3, e4, e5, hu59, hu33]) rfl ⟨_, (A2 ++ A1), by rw [HF.out] <;> rfl, by rw [HF.out, ← HNR.out.1, ← HNR.out.2.1]; exact ⟨adk, ck, adr, cr, rfl, (Rdy.of_rw (Rw.of_gr HGR.out.1)).mono (fun p hp => by first | (simp [hp]; done) | (simp [HRL.out p hp]; done)), (Rdy.of_rw (Rw.of_gr HGR.out.2)).mono (fun p hp => by first | (simp [hp]; done) | (simp [HRL.out p hp]; done)), (Rw.of_gr HGR.out.1).2.1, (Rw.of_gr HGR.out.2).2.1⟩, (hg.drop (List.Sublist.append_left ((List.sublist_cons_self _ _).trans ((List.sublist_cons_self _ _).trans ((List.sublist_cons_self _ _).trans (List.sublist_cons_self _ _)))) (A2 ++ A1))).drew⟩
end
section
variable {w0 w w1 : World} {g : Nat} {L L' R : List Ob}
structure Sm (n : Nd) : Prop where
 k : n.keys.length ≤ 1000000
 r : n.refs.length ≤ 1000000
theorem Ok.sm {n : Nd} (h : Ok n) : Sm n := ⟨h.k, h.r⟩
def Nd.join (n : Nd) (k : ByteArray) (m : Nd) : Nd :=
 if n.shape && m.shape && (n.leaf == m.leaf) then { n with ver := wrap64 (n.ver + 1), keys := (if n.leaf then n.keys else n.keys ++ [k]) ++ m.keys, refs := n.refs ++ m.refs } else n
theorem join.neg (hv : Hv w0 w L) (hRL : ∀ p ∈ R, p ∈ L) {n m : Nd} {v v1 : Value} (hn : NV w0 R n v) (hm : NV w0 R m v1) (hb : n.refs.length < 4611686018427387904 ∧ m.refs.length < 4611686018427387904) (k : ByteArray) (hno : (n.shape && m.shape && (n.leaf == m.leaf)) = false) :
  Calls Try.prog 53 #[v, .string k, v1] w (NodeP w0 R L (n.join k m)) := by
 have hu59 := Try.underlying59
 have hu57 := Try.underlying57
 have hu31 := Try.underlying31
 have hu33 := Try.underlying33
 obtain ⟨ka, kc, ra, rc, rfl, hr⟩ := hn
 have HRL := As hRL
 clear hRL
 obtain ⟨ka1, kc1, ra1, rc1, rfl, hr1⟩ := hm
 have HV := As (show Hv w0 _ (cb (w.heap.size + 1 + 1) 59 #[.bool false, .int .i64 0, .slice none 0 0, .slice none 0 0] :: cb (w.heap.size + 1) 59 #[.bool m.leaf, .int .i64 m.ver, .slice ka1 m.keys.length kc1, .slice ra1 m.refs.length rc1] :: cb w.heap.size 59 #[.bool n.leaf, .int .i64 n.ver, .slice ka n.keys.length kc, .slice ra n.refs.length rc] :: L) by
  have := ((hv.alloc (.cells #[.bool n.leaf, .int .i64 n.ver, .slice ka n.keys.length kc, .slice ra n.refs.length rc] 59)).alloc (.cells #[.bool m.leaf, .int .i64 m.ver, .slice ka1 m.keys.length kc1, .slice ra1 m.refs.length rc1] 59)).alloc (.cells #[.bool false, .int .i64 0, .slice none 0 0, .slice none 0 0] 59)
  simpa [cb] using this)
 have HR := As (And.intro hr hr1)
 have HB := As hb
 have HF := As (show n.join k m = n by unfold Nd.join; rw [hno]; rfl)
 clear hv hr hr1 hb
 obtain ⟨y0, y1, y2, y3, f0, f1, f2, f3⟩ := HV.out.c4 w.heap.size 59 (.bool n.leaf) (.int .i64 n.ver) (.slice ka n.keys.length kc) (.slice ra n.refs.length rc) (by simp)
 obtain ⟨t0, t1, t2, t3, h0, h1, h2, h3⟩ := HV.out.c4 (w.heap.size + 1) 59 (.bool m.leaf) (.int .i64 m.ver) (.slice ka1 m.keys.length kc1) (.slice ra1 m.refs.length rc1) (by simp)
 obtain ⟨q0, q1, q2, q3, g0, g1, g2, g3⟩ := HV.out.c4 (w.heap.size + 1 + 1) 59 (.bool false) (.int .i64 0) (.slice none 0 0) (.slice none 0 0) (by simp)
 unfold nval at *
 cases hs' : n.shape
 ·have hs : shp n.leaf n.keys.length n.refs.length = false := hs'
  clear hno hs'
  go_enter Try.func53, Try.ntmps53
  go_wp2_with (go_at_call 93; go_loud (refine (shape.calls HV.out n.leaf n.ver ka ra n.keys.length kc n.refs.length rc HB.out.1).mono ?_); rw [hs]; rintro e2 w2 ⟨rfl, hh⟩; have H2 := As hh; clear y0 y1 y2 y3 f0 f1 f2 f3 q0 q1 q2 q3 g0 g1 g2 g3 t0 t1 t2 t3 h0 h1 h2 h3; obtain ⟨y0, y1, y2, y3, f0, f1, f2, f3⟩ := hh.c4 w.heap.size 59 (.bool n.leaf) (.int .i64 n.ver) (.slice ka n.keys.length kc) (.slice ra n.refs.length rc) (by simp); obtain ⟨t0, t1, t2, t3, h0, h1, h2, h3⟩ := hh.c4 (w.heap.size + 1) 59 (.bool m.leaf) (.int .i64 m.ver) (.slice ka1 m.keys.length kc1) (.slice ra1 m.refs.length rc1) (by simp); obtain ⟨q0, q1, q2, q3, g0, g1, g2, g3⟩ := hh.c4 (w.heap.size + 1 + 1) 59 (.bool false) (.int .i64 0) (.slice none 0 0) (.slice none 0 0) (by simp); clear hh)
  obtain ⟨wg, hw, hg⟩ : ∃ wg, wg = _ ∧ Hv w0 wg ([] ++ (cb (w.heap.size + 1 + 1) 59 #[.bool n.leaf, .int .i64 n.ver, .slice ka n.keys.length kc, .slice ra n.refs.length rc] :: cb (w.heap.size + 1) 59 #[.bool m.leaf, .int .i64 m.ver, .slice ka1 m.keys.length kc1, .slice ra1 m.refs.length rc1] :: cb w.heap.size 59 #[.bool n.leaf, .int .i64 n.ver, .slice ka n.keys.length kc, .slice ra n.refs.length rc] :: L)) := ⟨_, rfl, (((((show Hv w0 w2 ([] ++ (cb (w.heap.size + 1 + 1) 59 #[.bool false, .int .i64 0, .slice none 0 0, .slice none 0 0] :: cb (w.heap.size + 1) 59 #[.bool m.leaf, .int .i64 m.ver, .slice ka1 m.keys.length kc1, .slice ra1 m.refs.length rc1] :: cb w.heap.size 59 #[.bool n.leaf, .int .i64 n.ver, .slice ka n.keys.length kc, .slice ra n.refs.length rc] :: L)) from H2.out).putA0 0 (.bool n.leaf) rfl).putA0 1 (.int .i64 n.ver) rfl).putA0 2 (.slice ka n.keys.length kc) rfl).putA0 3 (.slice ra n.refs.length rc) rfl)⟩
  rw [← hw]
  obtain ⟨e0, e1, e2, e3, -, -, -, -⟩ := hg.right.c4 (w.heap.size + 1 + 1) 59 (.bool n.leaf) (.int .i64 n.ver) (.slice ka n.keys.length kc) (.slice ra n.refs.length rc) List.mem_cons_self
  exact bodyPost_ret (v := .agg #[.bool n.leaf, .int .i64 n.ver, .slice ka n.keys.length kc, .slice ra n.refs.length rc]) (by simp [results, Try.results53, go_sem, e0, e1, e2, e3, hu59]) rfl ⟨_, [], rfl, ⟨ka, kc, ra, rc, by rw [HF.out]; rfl, by rw [HF.out]; exact HR.out.1⟩, hg.drop (List.Sublist.append_left ((List.sublist_cons_self _ _).trans ((List.sublist_cons_self _ _).trans (List.sublist_cons_self _ _))) [])⟩
 ·have hs : shp n.leaf n.keys.length n.refs.length = true := hs'
  cases hs1' : m.shape
  ·have hs1 : shp m.leaf m.keys.length m.refs.length = false := hs1'
   clear hno hs' hs1'
   go_enter Try.func53, Try.ntmps53
   go_wp2_with (first | (go_at_call 93; have hx2 := H2.out; clear hx2; go_loud (refine (shape.calls H2.out m.leaf m.ver ka1 ra1 m.keys.length kc1 m.refs.length rc1 HB.out.2).mono ?_); rw [hs1]; rintro e3 w3 ⟨rfl, hh⟩; have H3 := As hh; clear y0 y1 y2 y3 f0 f1 f2 f3 q0 q1 q2 q3 g0 g1 g2 g3 t0 t1 t2 t3 h0 h1 h2 h3; obtain ⟨y0, y1, y2, y3, f0, f1, f2, f3⟩ := hh.c4 w.heap.size 59 (.bool n.leaf) (.int .i64 n.ver) (.slice ka n.keys.length kc) (.slice ra n.refs.length rc) (by simp); obtain ⟨t0, t1, t2, t3, h0, h1, h2, h3⟩ := hh.c4 (w.heap.size + 1) 59 (.bool m.leaf) (.int .i64 m.ver) (.slice ka1 m.keys.length kc1) (.slice ra1 m.refs.length rc1) (by simp); obtain ⟨q0, q1, q2, q3, g0, g1, g2, g3⟩ := hh.c4 (w.heap.size + 1 + 1) 59 (.bool false) (.int .i64 0) (.slice none 0 0) (.slice none 0 0) (by simp); clear hh) | (go_at_call 93; go_loud (refine (shape.calls HV.out n.leaf n.ver ka ra n.keys.length kc n.refs.length rc HB.out.1).mono ?_); rw [hs]; rintro e2 w2 ⟨rfl, hh⟩; have H2 := As hh; clear y0 y1 y2 y3 f0 f1 f2 f3 q0 q1 q2 q3 g0 g1 g2 g3 t0 t1 t2 t3 h0 h1 h2 h3; obtain ⟨y0, y1, y2, y3, f0, f1, f2, f3⟩ := hh.c4 w.heap.size 59 (.bool n.leaf) (.int .i64 n.ver) (.slice ka n.keys.length kc) (.slice ra n.refs.length rc) (by simp); obtain ⟨t0, t1, t2, t3, h0, h1, h2, h3⟩ := hh.c4 (w.heap.size + 1) 59 (.bool m.leaf) (.int .i64 m.ver) (.slice ka1 m.keys.length kc1) (.slice ra1 m.refs.length rc1) (by simp); obtain ⟨q0, q1, q2, q3, g0, g1, g2, g3⟩ := hh.c4 (w.heap.size + 1 + 1) 59 (.bool false) (.int .i64 0) (.slice none 0 0) (.slice none 0 0) (by simp); clear hh))
   obtain ⟨wg, hw, hg⟩ : ∃ wg, wg = _ ∧ Hv w0 wg ([] ++ (cb (w.heap.size + 1 + 1) 59 #[.bool n.leaf, .int .i64 n.ver, .slice ka n.keys.length kc, .slice ra n.refs.length rc] :: cb (w.heap.size + 1) 59 #[.bool m.leaf, .int .i64 m.ver, .slice ka1 m.keys.length kc1, .slice ra1 m.refs.length rc1] :: cb w.heap.size 59 #[.bool n.leaf, .int .i64 n.ver, .slice ka n.keys.length kc, .slice ra n.refs.length rc] :: L)) := ⟨_, rfl, (((((show Hv w0 w3 ([] ++ (cb (w.heap.size + 1 + 1) 59 #[.bool false, .int .i64 0, .slice none 0 0, .slice none 0 0] :: cb (w.heap.size + 1) 59 #[.bool m.leaf, .int .i64 m.ver, .slice ka1 m.keys.length kc1, .slice ra1 m.refs.length rc1] :: cb w.heap.size 59 #[.bool n.leaf, .int .i64 n.ver, .slice ka n.keys.length kc, .slice ra n.refs.length rc] :: L)) from H3.out).putA0 0 (.bool n.leaf) rfl).putA0 1 (.int .i64 n.ver) rfl).putA0 2 (.slice ka n.keys.length kc) rfl).putA0 3 (.slice ra n.refs.length rc) rfl)⟩
   rw [← hw]
   obtain ⟨e0, e1, e2, e3, -, -, -, -⟩ := hg.right.c4 (w.heap.size + 1 + 1) 59 (.bool n.leaf) (.int .i64 n.ver) (.slice ka n.keys.length kc) (.slice ra n.refs.length rc) List.mem_cons_self
   exact bodyPost_ret (v := .agg #[.bool n.leaf, .int .i64 n.ver, .slice ka n.keys.length kc, .slice ra n.refs.length rc]) (by simp [results, Try.results53, go_sem, e0, e1, e2, e3, hu59]) rfl ⟨_, [], rfl, ⟨ka, kc, ra, rc, by rw [HF.out]; rfl, by rw [HF.out]; exact HR.out.1⟩, hg.drop (List.Sublist.append_left ((List.sublist_cons_self _ _).trans ((List.sublist_cons_self _ _).trans (List.sublist_cons_self _ _))) [])⟩
  ·have hs1 : shp m.leaf m.keys.length m.refs.length = true := hs1'
   have hl : (n.leaf == m.leaf) = false := by rw [hs', hs1'] at hno; simpa using hno
   clear hno hs' hs1'
   go_enter Try.func53, Try.ntmps53
   go_wp2_with (first | (go_at_call 93; have hx2 := H2.out; clear hx2; go_loud (refine (shape.calls H2.out m.leaf m.ver ka1 ra1 m.keys.length kc1 m.refs.length rc1 HB.out.2).mono ?_); rw [hs1]; rintro e3 w3 ⟨rfl, hh⟩; have H3 := As hh; clear y0 y1 y2 y3 f0 f1 f2 f3 q0 q1 q2 q3 g0 g1 g2 g3 t0 t1 t2 t3 h0 h1 h2 h3; obtain ⟨y0, y1, y2, y3, f0, f1, f2, f3⟩ := hh.c4 w.heap.size 59 (.bool n.leaf) (.int .i64 n.ver) (.slice ka n.keys.length kc) (.slice ra n.refs.length rc) (by simp); obtain ⟨t0, t1, t2, t3, h0, h1, h2, h3⟩ := hh.c4 (w.heap.size + 1) 59 (.bool m.leaf) (.int .i64 m.ver) (.slice ka1 m.keys.length kc1) (.slice ra1 m.refs.length rc1) (by simp); obtain ⟨q0, q1, q2, q3, g0, g1, g2, g3⟩ := hh.c4 (w.heap.size + 1 + 1) 59 (.bool false) (.int .i64 0) (.slice none 0 0) (.slice none 0 0) (by simp); clear hh) | (go_at_call 93; go_loud (refine (shape.calls HV.out n.leaf n.ver ka ra n.keys.length kc n.refs.length rc HB.out.1).mono ?_); rw [hs]; rintro e2 w2 ⟨rfl, hh⟩; have H2 := As hh; clear y0 y1 y2 y3 f0 f1 f2 f3 q0 q1 q2 q3 g0 g1 g2 g3 t0 t1 t2 t3 h0 h1 h2 h3; obtain ⟨y0, y1, y2, y3, f0, f1, f2, f3⟩ := hh.c4 w.heap.size 59 (.bool n.leaf) (.int .i64 n.ver) (.slice ka n.keys.length kc) (.slice ra n.refs.length rc) (by simp); obtain ⟨t0, t1, t2, t3, h0, h1, h2, h3⟩ := hh.c4 (w.heap.size + 1) 59 (.bool m.leaf) (.int .i64 m.ver) (.slice ka1 m.keys.length kc1) (.slice ra1 m.refs.length rc1) (by simp); obtain ⟨q0, q1, q2, q3, g0, g1, g2, g3⟩ := hh.c4 (w.heap.size + 1 + 1) 59 (.bool false) (.int .i64 0) (.slice none 0 0) (.slice none 0 0) (by simp); clear hh))
   obtain ⟨wg, hw, hg⟩ : ∃ wg, wg = _ ∧ Hv w0 wg ([] ++ (cb (w.heap.size + 1 + 1) 59 #[.bool n.leaf, .int .i64 n.ver, .slice ka n.keys.length kc, .slice ra n.refs.length rc] :: cb (w.heap.size + 1) 59 #[.bool m.leaf, .int .i64 m.ver, .slice ka1 m.keys.length kc1, .slice ra1 m.refs.length rc1] :: cb w.heap.size 59 #[.bool n.leaf, .int .i64 n.ver, .slice ka n.keys.length kc, .slice ra n.refs.length rc] :: L)) := ⟨_, rfl, (((((show Hv w0 w3 ([] ++ (cb (w.heap.size + 1 + 1) 59 #[.bool false, .int .i64 0, .slice none 0 0, .slice none 0 0] :: cb (w.heap.size + 1) 59 #[.bool m.leaf, .int .i64 m.ver, .slice ka1 m.keys.length kc1, .slice ra1 m.refs.length rc1] :: cb w.heap.size 59 #[.bool n.leaf, .int .i64 n.ver, .slice ka n.keys.length kc, .slice ra n.refs.length rc] :: L)) from H3.out).putA0 0 (.bool n.leaf) rfl).putA0 1 (.int .i64 n.ver) rfl).putA0 2 (.slice ka n.keys.length kc) rfl).putA0 3 (.slice ra n.refs.length rc) rfl)⟩
   rw [← hw]
   obtain ⟨e0, e1, e2, e3, -, -, -, -⟩ := hg.right.c4 (w.heap.size + 1 + 1) 59 (.bool n.leaf) (.int .i64 n.ver) (.slice ka n.keys.length kc) (.slice ra n.refs.length rc) List.mem_cons_self
   exact bodyPost_ret (v := .agg #[.bool n.leaf, .int .i64 n.ver, .slice ka n.keys.length kc, .slice ra n.refs.length rc]) (by simp [results, Try.results53, go_sem, e0, e1, e2, e3, hu59]) rfl ⟨_, [], rfl, ⟨ka, kc, ra, rc, by rw [HF.out]; rfl, by rw [HF.out]; exact HR.out.1⟩, hg.drop (List.Sublist.append_left ((List.sublist_cons_self _ _).trans ((List.sublist_cons_self _ _).trans (List.sublist_cons_self _ _))) [])⟩
end
section
variable {w0 w w1 : World} {g : Nat} {L L' R : List Ob}
theorem join.leaf (hv : Hv w0 w L) (hRL : ∀ p ∈ R, p ∈ L) {n m : Nd} {v v1 : Value} (hn : NV w0 R n v) (hm : NV w0 R m v1) (ho : Sm n) (ho1 : Sm m) (k : ByteArray) (hs : n.shape = true) (hs1 : m.shape = true) (hlf : n.leaf = true) (hlm : m.leaf = true) :
  Calls Try.prog 53 #[v, .string k, v1] w (NodeP w0 R L (n.join k m)) := by
 have hu59 := Try.underlying59
 have hu57 := Try.underlying57
 have hu31 := Try.underlying31
 obtain ⟨ka, kc, ra, rc, rfl, hr⟩ := hn
 have HRL := As hRL
 clear hRL
 obtain ⟨ka1, kc1, ra1, rc1, rfl, hr1⟩ := hm
 have HV := As (show Hv w0 _ (cb (w.heap.size + 1 + 1) 59 #[.bool false, .int .i64 0, .slice none 0 0, .slice none 0 0] :: cb (w.heap.size + 1) 59 #[.bool m.leaf, .int .i64 m.ver, .slice ka1 m.keys.length kc1, .slice ra1 m.refs.length rc1] :: cb w.heap.size 59 #[.bool n.leaf, .int .i64 n.ver, .slice ka n.keys.length kc, .slice ra n.refs.length rc] :: L) by
  have := ((hv.alloc (.cells #[.bool n.leaf, .int .i64 n.ver, .slice ka n.keys.length kc, .slice ra n.refs.length rc] 59)).alloc (.cells #[.bool m.leaf, .int .i64 m.ver, .slice ka1 m.keys.length kc1, .slice ra1 m.refs.length rc1] 59)).alloc (.cells #[.bool false, .int .i64 0, .slice none 0 0, .slice none 0 0] 59)
  simpa [cb] using this)
 have HR := As (And.intro hr hr1)
 have HB := As (show n.refs.length < 4611686018427387904 ∧ m.refs.length < 4611686018427387904 from ⟨by have := ho.r; omega, by have := ho1.r; omega⟩)
 obtain ⟨nk, hnk⟩ : ∃ nk, nk = n.keys ++ m.keys := ⟨_, rfl⟩
 obtain ⟨nr, hnr⟩ : ∃ nr, nr = n.refs ++ m.refs := ⟨_, rfl⟩
 have HF := As (show n.join k m = { n with ver := wrap64 (n.ver + 1), keys := n.keys ++ m.keys, refs := n.refs ++ m.refs } by unfold Nd.join; rw [hs, hs1, hlf, hlm]; rfl)
 have HNR := As (And.intro hnk (And.intro hnr (And.intro (show n.keys.length + m.keys.length < 8796093022208 ∧ n.refs.length + m.refs.length < 8796093022208 from ⟨by have := ho.k; have := ho1.k; omega, by have := ho.r; have := ho1.r; omega⟩) (And.intro (show n.keys.length + m.keys.length = nk.length by rw [hnk]; simp) (show n.refs.length + m.refs.length = nr.length by rw [hnr]; simp)))))
 have ew : IntKind.i64.wrap (n.ver + 1) = wrap64 (n.ver + 1) := i64_w _
 have hll : (n.leaf == m.leaf) = true := by rw [hlf, hlm]; rfl
 clear hv hr hr1 ho ho1 hnk hnr
 obtain ⟨y0, y1, y2, y3, f0, f1, f2, f3⟩ := HV.out.c4 w.heap.size 59 (.bool n.leaf) (.int .i64 n.ver) (.slice ka n.keys.length kc) (.slice ra n.refs.length rc) (by simp)
 obtain ⟨t0, t1, t2, t3, h0, h1, h2, h3⟩ := HV.out.c4 (w.heap.size + 1) 59 (.bool m.leaf) (.int .i64 m.ver) (.slice ka1 m.keys.length kc1) (.slice ra1 m.refs.length rc1) (by simp)
 obtain ⟨q0, q1, q2, q3, g0, g1, g2, g3⟩ := HV.out.c4 (w.heap.size + 1 + 1) 59 (.bool false) (.int .i64 0) (.slice none 0 0) (.slice none 0 0) (by simp)
 unfold nval at *
 unfold Nd.shape at hs hs1
 have HLF := As (And.intro hlf hlm)
 clear hlf hlm
 have SP := As (show ∀ (w' : World) (L' : List Ob), Hv w0 w' L' → cb w.heap.size 59 #[.bool n.leaf, .int .i64 n.ver, .slice ka n.keys.length kc, .slice ra n.refs.length rc] ∈ L' → cb (w.heap.size + 1) 59 #[.bool m.leaf, .int .i64 m.ver, .slice ka1 m.keys.length kc1, .slice ra1 m.refs.length rc1] ∈ L' → (w'.cell? ⟨w.heap.size, 0, none⟩ = some (.bool n.leaf) ∧ w'.cell? ⟨w.heap.size, 1, none⟩ = some (.int .i64 n.ver) ∧ w'.cell? ⟨w.heap.size, 2, none⟩ = some (.slice ka n.keys.length kc) ∧ w'.cell? ⟨w.heap.size, 3, none⟩ = some (.slice ra n.refs.length rc) ∧ w'.cell? ⟨w.heap.size + 1, 0, none⟩ = some (.bool m.leaf) ∧ w'.cell? ⟨w.heap.size + 1, 1, none⟩ = some (.int .i64 m.ver) ∧ w'.cell? ⟨w.heap.size + 1, 2, none⟩ = some (.slice ka1 m.keys.length kc1) ∧ w'.cell? ⟨w.heap.size + 1, 3, none⟩ = some (.slice ra1 m.refs.length rc1)) from fun w' L' h m3 m5 => by
  obtain ⟨p0, p1, p2, p3, -, -, -, -⟩ := h.c4 _ _ _ _ _ _ m3
  obtain ⟨p4, p5, p6, p7, -, -, -, -⟩ := h.c4 _ _ _ _ _ _ m5
  exact ⟨p0, p1, p2, p3, p4, p5, p6, p7⟩)
 go_enter Try.func53, Try.ntmps53
 go_upto_region 3 with (first | (go_at_call 93; have hx2 := H2.out; clear hx2; go_loud (refine (shape.calls H2.out m.leaf m.ver ka1 ra1 m.keys.length kc1 m.refs.length rc1 HB.out.2).mono ?_); rw [hs1]; rintro e3 w3 ⟨rfl, hh⟩; have H3 := As hh; clear y0 y1 y2 y3 f0 f1 f2 f3 q0 q1 q2 q3 g0 g1 g2 g3 t0 t1 t2 t3 h0 h1 h2 h3; obtain ⟨y0, y1, y2, y3, f0, f1, f2, f3⟩ := hh.c4 w.heap.size 59 (.bool n.leaf) (.int .i64 n.ver) (.slice ka n.keys.length kc) (.slice ra n.refs.length rc) (by simp); obtain ⟨t0, t1, t2, t3, h0, h1, h2, h3⟩ := hh.c4 (w.heap.size + 1) 59 (.bool m.leaf) (.int .i64 m.ver) (.slice ka1 m.keys.length kc1) (.slice ra1 m.refs.length rc1) (by simp); obtain ⟨q0, q1, q2, q3, g0, g1, g2, g3⟩ := hh.c4 (w.heap.size + 1 + 1) 59 (.bool false) (.int .i64 0) (.slice none 0 0) (.slice none 0 0) (by simp); clear hh) | (go_at_call 93; go_loud (refine (shape.calls HV.out n.leaf n.ver ka ra n.keys.length kc n.refs.length rc HB.out.1).mono ?_); rw [hs]; rintro e2 w2 ⟨rfl, hh⟩; have H2 := As hh; clear y0 y1 y2 y3 f0 f1 f2 f3 q0 q1 q2 q3 g0 g1 g2 g3 t0 t1 t2 t3 h0 h1 h2 h3; obtain ⟨y0, y1, y2, y3, f0, f1, f2, f3⟩ := hh.c4 w.heap.size 59 (.bool n.leaf) (.int .i64 n.ver) (.slice ka n.keys.length kc) (.slice ra n.refs.length rc) (by simp); obtain ⟨t0, t1, t2, t3, h0, h1, h2, h3⟩ := hh.c4 (w.heap.size + 1) 59 (.bool m.leaf) (.int .i64 m.ver) (.slice ka1 m.keys.length kc1) (.slice ra1 m.refs.length rc1) (by simp); obtain ⟨q0, q1, q2, q3, g0, g1, g2, g3⟩ := hh.c4 (w.heap.size + 1 + 1) 59 (.bool false) (.int .i64 0) (.slice none 0 0) (.slice none 0 0) (by simp); clear hh))
 have hlf := HLF.out.1
 go_upto_region 5 with (fail)
 clear hlf
 have H4d := As (show Hv w0 w3.drew ([] ++ (cb (w.heap.size + 1 + 1) 59 #[.bool false, .int .i64 0, .slice none 0 0, .slice none 0 0] :: cb (w.heap.size + 1) 59 #[.bool m.leaf, .int .i64 m.ver, .slice ka1 m.keys.length kc1, .slice ra1 m.refs.length rc1] :: cb w.heap.size 59 #[.bool n.leaf, .int .i64 n.ver, .slice ka n.keys.length kc, .slice ra n.refs.length rc] :: L)) from H3.out.drew)
 clear y0 y1 y2 y3 f0 f1 f2 f3 q0 q1 q2 q3 g0 g1 g2 g3 t0 t1 t2 t3 h0 h1 h2 h3
 refine start_ (n := 14) (S := fun w' => w'.cell? ⟨w.heap.size, 0, none⟩ = some (.bool n.leaf) ∧ w'.cell? ⟨w.heap.size, 1, none⟩ = some (.int .i64 n.ver) ∧ w'.cell? ⟨w.heap.size, 2, none⟩ = some (.slice ka n.keys.length kc) ∧ w'.cell? ⟨w.heap.size, 3, none⟩ = some (.slice ra n.refs.length rc) ∧ w'.cell? ⟨w.heap.size + 1, 0, none⟩ = some (.bool m.leaf) ∧ w'.cell? ⟨w.heap.size + 1, 1, none⟩ = some (.int .i64 m.ver) ∧ w'.cell? ⟨w.heap.size + 1, 2, none⟩ = some (.slice ka1 m.keys.length kc1) ∧ w'.cell? ⟨w.heap.size + 1, 3, none⟩ = some (.slice ra1 m.refs.length rc1)) (ds := [11, 13]) #[false, false, false, false, false, false, false, false, false, false, false, false, false, false] (by kernel_rfl) rfl rfl (SP.out _ _ H4d.out (by simp) (by simp)) (fun hHeld => ?_)
 generalize w3.drew = wr0 at H4d hHeld ⊢
 refine pu_ 0 (some 32) ?_
 refine pu_ 2 (some 34) ?_
 refine pu_ 5 (some 37) ?_
 refine pu_ 7 (some 39) ?_
 refine ta_ 1 (some 33) hHeld ?_ (hy := Or.inl ⟨by rfl, by rintro w' ⟨s0, s1, s2, s3, s4, s5, s6, s7⟩; go_simp; with_reducible rfl⟩)
 refine ta_ 3 (some 35) hHeld ?_ (hy := Or.inl ⟨by rfl, by rintro w' ⟨s0, s1, s2, s3, s4, s5, s6, s7⟩; go_simp; with_reducible rfl⟩)
 refine ta_ 6 (some 38) hHeld ?_ (hy := Or.inl ⟨by rfl, by rintro w' ⟨s0, s1, s2, s3, s4, s5, s6, s7⟩; go_simp; with_reducible rfl⟩)
 refine ta_ 8 (some 40) hHeld ?_ (hy := Or.inl ⟨by rfl, by rintro w' ⟨s0, s1, s2, s3, s4, s5, s6, s7⟩; go_simp; with_reducible rfl⟩)
 refine on_ 4 (some 36) fun K hK => ?_
 refine gs_ Try.func105 #[.slice ka n.keys.length kc, .slice ka1 m.keys.length kc1] ?_
 refine (copS.calls (w0 := w0) H4d.out (HR.out.1.k.mono (fun p hp => by first | (simp [hp]; done) | (simp [HRL.out p hp]; done))) (HR.out.2.k.mono (fun p hp => by first | (simp [hp]; done) | (simp [HRL.out p hp]; done))) (kcel_one _) (kcel_one _) HNR.out.2.2.1.1).mono ?_
 rintro e wr1 hq5
 obtain ⟨adk, ck, A1, rfl, hG, hv5⟩ := hq5
 rw [HNR.out.2.2.2.1] at hG ⊢
 refine ⟨_, rfl, ?_⟩
 have HGk := As hG
 have HR1 := As (show Hv w0 wr1 (A1 ++ ([] ++ (cb (w.heap.size + 1 + 1) 59 #[.bool false, .int .i64 0, .slice none 0 0, .slice none 0 0] :: cb (w.heap.size + 1) 59 #[.bool m.leaf, .int .i64 m.ver, .slice ka1 m.keys.length kc1, .slice ra1 m.refs.length rc1] :: cb w.heap.size 59 #[.bool n.leaf, .int .i64 n.ver, .slice ka n.keys.length kc, .slice ra n.refs.length rc] :: L))) from hv5)
 clear hG hv5
 refine hK.out _ _ (SP.out _ _ HR1.out (by simp) (by simp)) (fun hHeld => ?_)
 clear hK K
 refine nm_ ?_
 refine pu_ 10 (some 42) ?_
 refine on_ 9 (some 41) fun K hK => ?_
 refine gs_ Try.func106 #[.slice ra n.refs.length rc, .slice ra1 m.refs.length rc1] ?_
 refine (copR.calls (w0 := w0) HR1.out (HR.out.1.r.mono (fun p hp => by first | (simp [hp]; done) | (simp [HRL.out p hp]; done))) (HR.out.2.r.mono (fun p hp => by first | (simp [hp]; done) | (simp [HRL.out p hp]; done))) (rcel_one _) (rcel_one _) HNR.out.2.2.1.2).mono ?_
 rintro e wr2 hq5
 obtain ⟨adr, cr, A2, rfl, hG, hv5⟩ := hq5
 rw [HNR.out.2.2.2.2] at hG ⊢
 refine ⟨_, rfl, ?_⟩
 have HGr := As hG
 have HR2 := As (show Hv w0 wr2 (A2 ++ (A1 ++ ([] ++ (cb (w.heap.size + 1 + 1) 59 #[.bool false, .int .i64 0, .slice none 0 0, .slice none 0 0] :: cb (w.heap.size + 1) 59 #[.bool m.leaf, .int .i64 m.ver, .slice ka1 m.keys.length kc1, .slice ra1 m.refs.length rc1] :: cb w.heap.size 59 #[.bool n.leaf, .int .i64 n.ver, .slice ka n.keys.length kc, .slice ra n.refs.length rc] :: L)))) from hv5)
 clear hG hv5
 refine hK.out _ _ (SP.out _ _ HR2.out (by simp) (by simp)) (fun hHeld => ?_)
 clear hK K
 refine nm_ ?_
 refine la_ 11 none fun K hK => ?_
 have HS := As (show Hv w0 wr2 (((A2 ++ A1) ++ []) ++ (cb (w.heap.size + 1 + 1) 59 #[.bool false, .int .i64 0, .slice none 0 0, .slice none 0 0] :: cb (w.heap.size + 1) 59 #[.bool m.leaf, .int .i64 m.ver, .slice ka1 m.keys.length kc1, .slice ra1 m.refs.length rc1] :: cb w.heap.size 59 #[.bool n.leaf, .int .i64 n.ver, .slice ka n.keys.length kc, .slice ra n.refs.length rc] :: L)) by rw [List.append_assoc, List.append_assoc]; exact HR2.out)
 obtain ⟨y0, y1, y2, y3, f0, f1, f2, f3⟩ := HS.out.right.c4 w.heap.size 59 (.bool n.leaf) (.int .i64 n.ver) (.slice ka n.keys.length kc) (.slice ra n.refs.length rc) (by simp)
 refine sk_ (hK.out _ _ ?_)
 clear hK K y0 y1 y2 y3 f0 f1 f2 f3
 obtain ⟨wr3, hW, hvv⟩ : ∃ wr3, wr3 = wr2.setCell ⟨w.heap.size, 2, none⟩ (.slice adk nk.length ck) ∧ Hv w0 wr3 (((A2 ++ A1) ++ []) ++ (cb (w.heap.size + 1 + 1) 59 #[.bool false, .int .i64 0, .slice none 0 0, .slice none 0 0] :: cb (w.heap.size + 1) 59 #[.bool m.leaf, .int .i64 m.ver, .slice ka1 m.keys.length kc1, .slice ra1 m.refs.length rc1] :: cb w.heap.size 59 #[.bool n.leaf, .int .i64 n.ver, .slice adk nk.length ck, .slice ra n.refs.length rc] :: L)) := ⟨_, rfl, putA2 HS.out 2 _ rfl⟩
 rw [← hW]
 have HR3 := As hvv
 clear hW hvv
 refine pu_ 12 (some 43) ?_
 refine la_ 13 none fun K hK => ?_
 obtain ⟨y0, y1, y2, y3, f0, f1, f2, f3⟩ := HR3.out.right.c4 w.heap.size 59 (.bool n.leaf) (.int .i64 n.ver) (.slice adk nk.length ck) (.slice ra n.refs.length rc) (by simp)
 refine sk_ (hK.out _ _ ?_)
 clear hK K y0 y1 y2 y3 f0 f1 f2 f3
 obtain ⟨wr4, hW, hvv⟩ : ∃ wr4, wr4 = wr3.setCell ⟨w.heap.size, 3, none⟩ (.slice adr nr.length cr) ∧ Hv w0 wr4 (((A2 ++ A1) ++ []) ++ (cb (w.heap.size + 1 + 1) 59 #[.bool false, .int .i64 0, .slice none 0 0, .slice none 0 0] :: cb (w.heap.size + 1) 59 #[.bool m.leaf, .int .i64 m.ver, .slice ka1 m.keys.length kc1, .slice ra1 m.refs.length rc1] :: cb w.heap.size 59 #[.bool n.leaf, .int .i64 n.ver, .slice adk nk.length ck, .slice adr nr.length cr] :: L)) := ⟨_, rfl, putA2 HR3.out 3 _ rfl⟩
 rw [← hW]
 have HR4 := As hvv
 clear hW hvv
 refine done_ (by kernel_rfl) ?_
 obtain ⟨y0, y1, y2, y3, f0, f1, f2, f3⟩ := HR4.out.right.c4 w.heap.size 59 (.bool n.leaf) (.int .i64 n.ver) (.slice adk nk.length ck) (.slice adr nr.length cr) (by simp)
 obtain ⟨t0, t1, t2, t3, h0, h1, h2, h3⟩ := HR4.out.right.c4 (w.heap.size + 1) 59 (.bool m.leaf) (.int .i64 m.ver) (.slice ka1 m.keys.length kc1) (.slice ra1 m.refs.length rc1) (by simp)
 obtain ⟨q0, q1, q2, q3, g0, g1, g2, g3⟩ := HR4.out.right.c4 (w.heap.size + 1 + 1) 59 (.bool false) (.int .i64 0) (.slice none 0 0) (.slice none 0 0) (by simp)
 go_wp2_with fail
 have hgk : Gr 9 1 (.slice adk nk.length ck) nk.length (nk.map Value.string) A1 := by
  have h9 := HGk.out
  rw [HNR.out.1] at h9 ⊢
  simpa using h9
 have hgr : Gr 33 2 (.slice adr nr.length cr) nr.length (nr.flatMap rcel) A2 := by
  have h9 := HGr.out
  rw [HNR.out.2.1] at h9 ⊢
  simpa [List.flatMap_append] using h9
 have HGR := As (And.intro hgk hgr)
 clear hgk hgr
 obtain ⟨wg, hw, hg⟩ : ∃ wg, wg = _ ∧ Hv w0 wg (((A2 ++ A1) ++ []) ++ (cb (w.heap.size + 1 + 1) 59 #[.bool n.leaf, .int .i64 (wrap64 (n.ver + 1)), .slice adk nk.length ck, .slice adr nr.length cr] :: cb (w.heap.size + 1) 59 #[.bool m.leaf, .int .i64 m.ver, .slice ka1 m.keys.length kc1, .slice ra1 m.refs.length rc1] :: cb w.heap.size 59 #[.bool n.leaf, .int .i64 (wrap64 (n.ver + 1)), .slice adk nk.length ck, .slice adr nr.length cr] :: L)) := ⟨_, rfl, (((((putA2 HR4.out 1 (.int .i64 (wrap64 (n.ver + 1))) rfl).putA0 0 (.bool n.leaf) rfl).putA0 1 (.int .i64 (wrap64 (n.ver + 1))) rfl).putA0 2 (.slice adk nk.length ck) rfl).putA0 3 (.slice adr nr.length cr) rfl)⟩
 rw [← hw]
 obtain ⟨e0, e1, e2, e3, -, -, -, -⟩ := hg.right.c4 (w.heap.size + 1 + 1) 59 (.bool n.leaf) (.int .i64 (wrap64 (n.ver + 1))) (.slice adk nk.length ck) (.slice adr nr.length cr) List.mem_cons_self
 exact bodyPost_ret (v := .agg #[.bool n.leaf, .int .i64 (wrap64 (n.ver + 1)), .slice adk nk.length ck, .slice adr nr.length cr]) (by simp [results, Try.results53, go_sem, e0, e1, e2, e3, hu59]) rfl ⟨_, ((A2 ++ A1) ++ []), rfl, ⟨adk, ck, adr, cr, by rw [HF.out, ← HNR.out.1, ← HNR.out.2.1]; rfl, by rw [HF.out, ← HNR.out.1, ← HNR.out.2.1]; exact ⟨(Rdy.of_rw (Rw.of_gr HGR.out.1)).mono (fun p hp => by first | (simp [hp]; done) | (simp [HRL.out p hp]; done)), (Rdy.of_rw (Rw.of_gr HGR.out.2)).mono (fun p hp => by first | (simp [hp]; done) | (simp [HRL.out p hp]; done)), (Rw.of_gr HGR.out.1).2.1, (Rw.of_gr HGR.out.2).2.1⟩⟩, hg.drop (List.Sublist.append_left ((List.sublist_cons_self _ _).trans ((List.sublist_cons_self _ _).trans (List.sublist_cons_self _ _))) ((A2 ++ A1) ++ []))⟩
end
section
variable {w0 w w1 : World} {g : Nat} {L L' R : List Ob}
theorem join.inner (hv : Hv w0 w L) (hRL : ∀ p ∈ R, p ∈ L) {n m : Nd} {v v1 : Value} (hn : NV w0 R n v) (hm : NV w0 R m v1) (ho : Sm n) (ho1 : Sm m) (k : ByteArray) (hs : n.shape = true) (hs1 : m.shape = true) (hlf : n.leaf = false) (hlm : m.leaf = false) :
  Calls Try.prog 53 #[v, .string k, v1] w (NodeP w0 R L (n.join k m)) := by
 have hu59 := Try.underlying59
 have hu57 := Try.underlying57
 have hu31 := Try.underlying31
 obtain ⟨ka, kc, ra, rc, rfl, hr⟩ := hn
 have HRL := As hRL
 clear hRL
 obtain ⟨ka1, kc1, ra1, rc1, rfl, hr1⟩ := hm
 have HV := As (show Hv w0 _ (cb (w.heap.size + 1 + 1) 59 #[.bool false, .int .i64 0, .slice none 0 0, .slice none 0 0] :: cb (w.heap.size + 1) 59 #[.bool m.leaf, .int .i64 m.ver, .slice ka1 m.keys.length kc1, .slice ra1 m.refs.length rc1] :: cb w.heap.size 59 #[.bool n.leaf, .int .i64 n.ver, .slice ka n.keys.length kc, .slice ra n.refs.length rc] :: L) by
  have := ((hv.alloc (.cells #[.bool n.leaf, .int .i64 n.ver, .slice ka n.keys.length kc, .slice ra n.refs.length rc] 59)).alloc (.cells #[.bool m.leaf, .int .i64 m.ver, .slice ka1 m.keys.length kc1, .slice ra1 m.refs.length rc1] 59)).alloc (.cells #[.bool false, .int .i64 0, .slice none 0 0, .slice none 0 0] 59)
  simpa [cb] using this)
 have HR := As (And.intro hr hr1)
 have HB := As (show n.refs.length < 4611686018427387904 ∧ m.refs.length < 4611686018427387904 from ⟨by have := ho.r; omega, by have := ho1.r; omega⟩)
 obtain ⟨kk, hkk⟩ : ∃ kk, kk = n.keys ++ [k] := ⟨_, rfl⟩
 have hkl : n.keys.length + 1 = kk.length := by rw [hkk]; simp
 have hkb : n.keys.length + 1 < 8796093022208 := by have := ho.k; omega
 obtain ⟨nk, hnk⟩ : ∃ nk, nk = kk ++ m.keys := ⟨_, rfl⟩
 obtain ⟨nr, hnr⟩ : ∃ nr, nr = n.refs ++ m.refs := ⟨_, rfl⟩
 have HF := As (show n.join k m = { n with ver := wrap64 (n.ver + 1), keys := kk ++ m.keys, refs := n.refs ++ m.refs } by unfold Nd.join; rw [hs, hs1, hlf, hlm, hkk]; rfl)
 have HNR := As (And.intro hnk (And.intro hnr (And.intro (show kk.length + m.keys.length < 8796093022208 ∧ n.refs.length + m.refs.length < 8796093022208 from ⟨by have := ho.k; have := ho1.k; omega, by have := ho.r; have := ho1.r; omega⟩) (And.intro (show kk.length + m.keys.length = nk.length by rw [hnk]; simp) (show n.refs.length + m.refs.length = nr.length by rw [hnr]; simp)))))
 have HKK := As (And.intro hkk (And.intro hkl hkb))
 have ew : IntKind.i64.wrap (n.ver + 1) = wrap64 (n.ver + 1) := i64_w _
 have hll : (n.leaf == m.leaf) = true := by rw [hlf, hlm]; rfl
 clear hv hr hr1 ho ho1 hnk hnr hkk hkl hkb
 obtain ⟨y0, y1, y2, y3, f0, f1, f2, f3⟩ := HV.out.c4 w.heap.size 59 (.bool n.leaf) (.int .i64 n.ver) (.slice ka n.keys.length kc) (.slice ra n.refs.length rc) (by simp)
 obtain ⟨t0, t1, t2, t3, h0, h1, h2, h3⟩ := HV.out.c4 (w.heap.size + 1) 59 (.bool m.leaf) (.int .i64 m.ver) (.slice ka1 m.keys.length kc1) (.slice ra1 m.refs.length rc1) (by simp)
 obtain ⟨q0, q1, q2, q3, g0, g1, g2, g3⟩ := HV.out.c4 (w.heap.size + 1 + 1) 59 (.bool false) (.int .i64 0) (.slice none 0 0) (.slice none 0 0) (by simp)
 unfold nval at *
 unfold Nd.shape at hs hs1
 have HLF := As (And.intro hlf hlm)
 clear hlf hlm
 go_enter Try.func53, Try.ntmps53
 go_upto_region 3 with (first | (go_at_call 93; have hx2 := H2.out; clear hx2; go_loud (refine (shape.calls H2.out m.leaf m.ver ka1 ra1 m.keys.length kc1 m.refs.length rc1 HB.out.2).mono ?_); rw [hs1]; rintro e3 w3 ⟨rfl, hh⟩; have H3 := As hh; clear y0 y1 y2 y3 f0 f1 f2 f3 q0 q1 q2 q3 g0 g1 g2 g3 t0 t1 t2 t3 h0 h1 h2 h3; obtain ⟨y0, y1, y2, y3, f0, f1, f2, f3⟩ := hh.c4 w.heap.size 59 (.bool n.leaf) (.int .i64 n.ver) (.slice ka n.keys.length kc) (.slice ra n.refs.length rc) (by simp); obtain ⟨t0, t1, t2, t3, h0, h1, h2, h3⟩ := hh.c4 (w.heap.size + 1) 59 (.bool m.leaf) (.int .i64 m.ver) (.slice ka1 m.keys.length kc1) (.slice ra1 m.refs.length rc1) (by simp); obtain ⟨q0, q1, q2, q3, g0, g1, g2, g3⟩ := hh.c4 (w.heap.size + 1 + 1) 59 (.bool false) (.int .i64 0) (.slice none 0 0) (.slice none 0 0) (by simp); clear hh) | (go_at_call 93; go_loud (refine (shape.calls HV.out n.leaf n.ver ka ra n.keys.length kc n.refs.length rc HB.out.1).mono ?_); rw [hs]; rintro e2 w2 ⟨rfl, hh⟩; have H2 := As hh; clear y0 y1 y2 y3 f0 f1 f2 f3 q0 q1 q2 q3 g0 g1 g2 g3 t0 t1 t2 t3 h0 h1 h2 h3; obtain ⟨y0, y1, y2, y3, f0, f1, f2, f3⟩ := hh.c4 w.heap.size 59 (.bool n.leaf) (.int .i64 n.ver) (.slice ka n.keys.length kc) (.slice ra n.refs.length rc) (by simp); obtain ⟨t0, t1, t2, t3, h0, h1, h2, h3⟩ := hh.c4 (w.heap.size + 1) 59 (.bool m.leaf) (.int .i64 m.ver) (.slice ka1 m.keys.length kc1) (.slice ra1 m.refs.length rc1) (by simp); obtain ⟨q0, q1, q2, q3, g0, g1, g2, g3⟩ := hh.c4 (w.heap.size + 1 + 1) 59 (.bool false) (.int .i64 0) (.slice none 0 0) (.slice none 0 0) (by simp); clear hh))
 have hlf := HLF.out.1
 go_upto_region 4 with (fail)
 clear hlf
 have h5 := H3.out.alloc (.cells #[.string k] 9)
 have HX := As (copS.calls (w0 := w0) (a0 := ka) (n0 := n.keys.length) (c0 := kc) (a1 := some ⟨w3.heap.size, 0, none⟩) (n1 := 1) (c1 := 1) (xs := n.keys.map Value.string) (ys := [.string k]) h5 (HR.out.1.k.mono (fun p hp => by first | (simp [hp]; done) | (simp [HRL.out p hp]; done))) (Rdy.of_rw (e := 9) (c := 1) ⟨rfl, Nat.le_refl _, fun _ => ⟨w3.heap.size, 0, _, rfl, List.mem_cons_self, fun i _ => by rw [Nat.zero_add]; simp⟩⟩) (kcel_one _) (by intro u hu; simp at hu; subst hu; rfl) HKK.out.2.2)
 clear h5
 go_upto_region 5 with (go_at_call 105; go_loud (refine HX.out.mono ?_); rintro e5 w5 hq5; obtain ⟨adq, cq, A0, rfl, hG, hv5⟩ := hq5; rw [HKK.out.2.1] at hG ⊢; have HG0 := As hG; have H5 := As (hv5.drop (L' := A0 ++ (cb (w.heap.size + 1 + 1) 59 #[.bool false, .int .i64 0, .slice none 0 0, .slice none 0 0] :: cb (w.heap.size + 1) 59 #[.bool m.leaf, .int .i64 m.ver, .slice ka1 m.keys.length kc1, .slice ra1 m.refs.length rc1] :: cb w.heap.size 59 #[.bool n.leaf, .int .i64 n.ver, .slice ka n.keys.length kc, .slice ra n.refs.length rc] :: L)) (List.Sublist.append_left (List.sublist_cons_self _ _) A0)); clear hG hv5; clear y0 y1 y2 y3 f0 f1 f2 f3 q0 q1 q2 q3 g0 g1 g2 g3 t0 t1 t2 t3 h0 h1 h2 h3; obtain ⟨y0, y1, y2, y3, f0, f1, f2, f3⟩ := H5.out.right.c4 w.heap.size 59 (.bool n.leaf) (.int .i64 n.ver) (.slice ka n.keys.length kc) (.slice ra n.refs.length rc) (by simp); obtain ⟨t0, t1, t2, t3, h0, h1, h2, h3⟩ := H5.out.right.c4 (w.heap.size + 1) 59 (.bool m.leaf) (.int .i64 m.ver) (.slice ka1 m.keys.length kc1) (.slice ra1 m.refs.length rc1) (by simp); obtain ⟨q0, q1, q2, q3, g0, g1, g2, g3⟩ := H5.out.right.c4 (w.heap.size + 1 + 1) 59 (.bool false) (.int .i64 0) (.slice none 0 0) (.slice none 0 0) (by simp))
 clear y0 y1 y2 y3 f0 f1 f2 f3 q0 q1 q2 q3 g0 g1 g2 g3 t0 t1 t2 t3 h0 h1 h2 h3
 obtain ⟨W4, hW, hv4⟩ : ∃ W4, W4 = w5.setCell ⟨w.heap.size, 2, none⟩ (.slice adq kk.length cq) ∧ Hv w0 W4 (A0 ++ (cb (w.heap.size + 1 + 1) 59 #[.bool false, .int .i64 0, .slice none 0 0, .slice none 0 0] :: cb (w.heap.size + 1) 59 #[.bool m.leaf, .int .i64 m.ver, .slice ka1 m.keys.length kc1, .slice ra1 m.refs.length rc1] :: cb w.heap.size 59 #[.bool n.leaf, .int .i64 n.ver, .slice adq kk.length cq, .slice ra n.refs.length rc] :: L)) := ⟨_, rfl, putA2 H5.out 2 _ rfl⟩
 rw [← hW]
 have H4d := As (show Hv w0 W4.drew (A0 ++ (cb (w.heap.size + 1 + 1) 59 #[.bool false, .int .i64 0, .slice none 0 0, .slice none 0 0] :: cb (w.heap.size + 1) 59 #[.bool m.leaf, .int .i64 m.ver, .slice ka1 m.keys.length kc1, .slice ra1 m.refs.length rc1] :: cb w.heap.size 59 #[.bool n.leaf, .int .i64 n.ver, .slice adq kk.length cq, .slice ra n.refs.length rc] :: L)) from hv4.drew)
 have HKQ := As (show Rdy 1 w0 A0 adq kk.length (kk.map Value.string) by
  have h9 : Gr 9 1 (.slice adq kk.length cq) kk.length (kk.map Value.string) A0 := by
   have h9 := HG0.out
   rw [HKK.out.1] at h9 ⊢
   simpa using h9
  exact Rdy.of_rw (Rw.of_gr h9))
 clear hW hv4
 have SP := As (show ∀ (w' : World) (L' : List Ob), Hv w0 w' L' → cb w.heap.size 59 #[.bool n.leaf, .int .i64 n.ver, .slice adq kk.length cq, .slice ra n.refs.length rc] ∈ L' → cb (w.heap.size + 1) 59 #[.bool m.leaf, .int .i64 m.ver, .slice ka1 m.keys.length kc1, .slice ra1 m.refs.length rc1] ∈ L' → (w'.cell? ⟨w.heap.size, 0, none⟩ = some (.bool n.leaf) ∧ w'.cell? ⟨w.heap.size, 1, none⟩ = some (.int .i64 n.ver) ∧ w'.cell? ⟨w.heap.size, 2, none⟩ = some (.slice adq kk.length cq) ∧ w'.cell? ⟨w.heap.size, 3, none⟩ = some (.slice ra n.refs.length rc) ∧ w'.cell? ⟨w.heap.size + 1, 0, none⟩ = some (.bool m.leaf) ∧ w'.cell? ⟨w.heap.size + 1, 1, none⟩ = some (.int .i64 m.ver) ∧ w'.cell? ⟨w.heap.size + 1, 2, none⟩ = some (.slice ka1 m.keys.length kc1) ∧ w'.cell? ⟨w.heap.size + 1, 3, none⟩ = some (.slice ra1 m.refs.length rc1)) from fun w' L' h m3 m5 => by
  obtain ⟨p0, p1, p2, p3, -, -, -, -⟩ := h.c4 _ _ _ _ _ _ m3
  obtain ⟨p4, p5, p6, p7, -, -, -, -⟩ := h.c4 _ _ _ _ _ _ m5
  exact ⟨p0, p1, p2, p3, p4, p5, p6, p7⟩)
 refine start_ (n := 14) (S := fun w' => w'.cell? ⟨w.heap.size, 0, none⟩ = some (.bool n.leaf) ∧ w'.cell? ⟨w.heap.size, 1, none⟩ = some (.int .i64 n.ver) ∧ w'.cell? ⟨w.heap.size, 2, none⟩ = some (.slice adq kk.length cq) ∧ w'.cell? ⟨w.heap.size, 3, none⟩ = some (.slice ra n.refs.length rc) ∧ w'.cell? ⟨w.heap.size + 1, 0, none⟩ = some (.bool m.leaf) ∧ w'.cell? ⟨w.heap.size + 1, 1, none⟩ = some (.int .i64 m.ver) ∧ w'.cell? ⟨w.heap.size + 1, 2, none⟩ = some (.slice ka1 m.keys.length kc1) ∧ w'.cell? ⟨w.heap.size + 1, 3, none⟩ = some (.slice ra1 m.refs.length rc1)) (ds := [11, 13]) #[false, false, false, false, false, false, false, false, false, false, false, false, false, false] (by kernel_rfl) rfl rfl (SP.out _ _ H4d.out (by simp) (by simp)) (fun hHeld => ?_)
 generalize W4.drew = wr0 at H4d hHeld ⊢
 refine pu_ 0 (some 32) ?_
 refine pu_ 2 (some 34) ?_
 refine pu_ 5 (some 37) ?_
 refine pu_ 7 (some 39) ?_
 refine ta_ 1 (some 33) hHeld ?_ (hy := Or.inl ⟨by rfl, by rintro w' ⟨s0, s1, s2, s3, s4, s5, s6, s7⟩; go_simp; with_reducible rfl⟩)
 refine ta_ 3 (some 35) hHeld ?_ (hy := Or.inl ⟨by rfl, by rintro w' ⟨s0, s1, s2, s3, s4, s5, s6, s7⟩; go_simp; with_reducible rfl⟩)
 refine ta_ 6 (some 38) hHeld ?_ (hy := Or.inl ⟨by rfl, by rintro w' ⟨s0, s1, s2, s3, s4, s5, s6, s7⟩; go_simp; with_reducible rfl⟩)
 refine ta_ 8 (some 40) hHeld ?_ (hy := Or.inl ⟨by rfl, by rintro w' ⟨s0, s1, s2, s3, s4, s5, s6, s7⟩; go_simp; with_reducible rfl⟩)
 refine on_ 4 (some 36) fun K hK => ?_
 refine gs_ Try.func105 #[.slice adq kk.length cq, .slice ka1 m.keys.length kc1] ?_
 refine (copS.calls (w0 := w0) H4d.out (HKQ.out.mono (fun p hp => by first | (simp [hp]; done) | (simp [HRL.out p hp]; done))) (HR.out.2.k.mono (fun p hp => by first | (simp [hp]; done) | (simp [HRL.out p hp]; done))) (kcel_one _) (kcel_one _) HNR.out.2.2.1.1).mono ?_
 rintro e wr1 hq5
 obtain ⟨adk, ck, A1, rfl, hG, hv5⟩ := hq5
 rw [HNR.out.2.2.2.1] at hG ⊢
 refine ⟨_, rfl, ?_⟩
 have HGk := As hG
 have HR1 := As (show Hv w0 wr1 (A1 ++ (A0 ++ (cb (w.heap.size + 1 + 1) 59 #[.bool false, .int .i64 0, .slice none 0 0, .slice none 0 0] :: cb (w.heap.size + 1) 59 #[.bool m.leaf, .int .i64 m.ver, .slice ka1 m.keys.length kc1, .slice ra1 m.refs.length rc1] :: cb w.heap.size 59 #[.bool n.leaf, .int .i64 n.ver, .slice adq kk.length cq, .slice ra n.refs.length rc] :: L))) from hv5)
 clear hG hv5
 refine hK.out _ _ (SP.out _ _ HR1.out (by simp) (by simp)) (fun hHeld => ?_)
 clear hK K
 refine nm_ ?_
 refine pu_ 10 (some 42) ?_
 refine on_ 9 (some 41) fun K hK => ?_
 refine gs_ Try.func106 #[.slice ra n.refs.length rc, .slice ra1 m.refs.length rc1] ?_
 refine (copR.calls (w0 := w0) HR1.out (HR.out.1.r.mono (fun p hp => by first | (simp [hp]; done) | (simp [HRL.out p hp]; done))) (HR.out.2.r.mono (fun p hp => by first | (simp [hp]; done) | (simp [HRL.out p hp]; done))) (rcel_one _) (rcel_one _) HNR.out.2.2.1.2).mono ?_
 rintro e wr2 hq5
 obtain ⟨adr, cr, A2, rfl, hG, hv5⟩ := hq5
 rw [HNR.out.2.2.2.2] at hG ⊢
 refine ⟨_, rfl, ?_⟩
 have HGr := As hG
 have HR2 := As (show Hv w0 wr2 (A2 ++ (A1 ++ (A0 ++ (cb (w.heap.size + 1 + 1) 59 #[.bool false, .int .i64 0, .slice none 0 0, .slice none 0 0] :: cb (w.heap.size + 1) 59 #[.bool m.leaf, .int .i64 m.ver, .slice ka1 m.keys.length kc1, .slice ra1 m.refs.length rc1] :: cb w.heap.size 59 #[.bool n.leaf, .int .i64 n.ver, .slice adq kk.length cq, .slice ra n.refs.length rc] :: L)))) from hv5)
 clear hG hv5
 refine hK.out _ _ (SP.out _ _ HR2.out (by simp) (by simp)) (fun hHeld => ?_)
 clear hK K
 refine nm_ ?_
 refine la_ 11 none fun K hK => ?_
 have HS := As (show Hv w0 wr2 (((A2 ++ A1) ++ A0) ++ (cb (w.heap.size + 1 + 1) 59 #[.bool false, .int .i64 0, .slice none 0 0, .slice none 0 0] :: cb (w.heap.size + 1) 59 #[.bool m.leaf, .int .i64 m.ver, .slice ka1 m.keys.length kc1, .slice ra1 m.refs.length rc1] :: cb w.heap.size 59 #[.bool n.leaf, .int .i64 n.ver, .slice adq kk.length cq, .slice ra n.refs.length rc] :: L)) by rw [List.append_assoc, List.append_assoc]; exact HR2.out)
 obtain ⟨y0, y1, y2, y3, f0, f1, f2, f3⟩ := HS.out.right.c4 w.heap.size 59 (.bool n.leaf) (.int .i64 n.ver) (.slice adq kk.length cq) (.slice ra n.refs.length rc) (by simp)
 refine sk_ (hK.out _ _ ?_)
 clear hK K y0 y1 y2 y3 f0 f1 f2 f3
 obtain ⟨wr3, hW, hvv⟩ : ∃ wr3, wr3 = wr2.setCell ⟨w.heap.size, 2, none⟩ (.slice adk nk.length ck) ∧ Hv w0 wr3 (((A2 ++ A1) ++ A0) ++ (cb (w.heap.size + 1 + 1) 59 #[.bool false, .int .i64 0, .slice none 0 0, .slice none 0 0] :: cb (w.heap.size + 1) 59 #[.bool m.leaf, .int .i64 m.ver, .slice ka1 m.keys.length kc1, .slice ra1 m.refs.length rc1] :: cb w.heap.size 59 #[.bool n.leaf, .int .i64 n.ver, .slice adk nk.length ck, .slice ra n.refs.length rc] :: L)) := ⟨_, rfl, putA2 HS.out 2 _ rfl⟩
 rw [← hW]
 have HR3 := As hvv
 clear hW hvv
 refine pu_ 12 (some 43) ?_
 refine la_ 13 none fun K hK => ?_
 obtain ⟨y0, y1, y2, y3, f0, f1, f2, f3⟩ := HR3.out.right.c4 w.heap.size 59 (.bool n.leaf) (.int .i64 n.ver) (.slice adk nk.length ck) (.slice ra n.refs.length rc) (by simp)
 refine sk_ (hK.out _ _ ?_)
 clear hK K y0 y1 y2 y3 f0 f1 f2 f3
 obtain ⟨wr4, hW, hvv⟩ : ∃ wr4, wr4 = wr3.setCell ⟨w.heap.size, 3, none⟩ (.slice adr nr.length cr) ∧ Hv w0 wr4 (((A2 ++ A1) ++ A0) ++ (cb (w.heap.size + 1 + 1) 59 #[.bool false, .int .i64 0, .slice none 0 0, .slice none 0 0] :: cb (w.heap.size + 1) 59 #[.bool m.leaf, .int .i64 m.ver, .slice ka1 m.keys.length kc1, .slice ra1 m.refs.length rc1] :: cb w.heap.size 59 #[.bool n.leaf, .int .i64 n.ver, .slice adk nk.length ck, .slice adr nr.length cr] :: L)) := ⟨_, rfl, putA2 HR3.out 3 _ rfl⟩
 rw [← hW]
 have HR4 := As hvv
 clear hW hvv
 refine done_ (by kernel_rfl) ?_
 obtain ⟨y0, y1, y2, y3, f0, f1, f2, f3⟩ := HR4.out.right.c4 w.heap.size 59 (.bool n.leaf) (.int .i64 n.ver) (.slice adk nk.length ck) (.slice adr nr.length cr) (by simp)
 obtain ⟨t0, t1, t2, t3, h0, h1, h2, h3⟩ := HR4.out.right.c4 (w.heap.size + 1) 59 (.bool m.leaf) (.int .i64 m.ver) (.slice ka1 m.keys.length kc1) (.slice ra1 m.refs.length rc1) (by simp)
 obtain ⟨q0, q1, q2, q3, g0, g1, g2, g3⟩ := HR4.out.right.c4 (w.heap.size + 1 + 1) 59 (.bool false) (.int .i64 0) (.slice none 0 0) (.slice none 0 0) (by simp)
 go_wp2_with fail
 have hgk : Gr 9 1 (.slice adk nk.length ck) nk.length (nk.map Value.string) A1 := by
  have h9 := HGk.out
  rw [HNR.out.1] at h9 ⊢
  simpa using h9
 have hgr : Gr 33 2 (.slice adr nr.length cr) nr.length (nr.flatMap rcel) A2 := by
  have h9 := HGr.out
  rw [HNR.out.2.1] at h9 ⊢
  simpa [List.flatMap_append] using h9
 have HGR := As (And.intro hgk hgr)
 clear hgk hgr
 obtain ⟨wg, hw, hg⟩ : ∃ wg, wg = _ ∧ Hv w0 wg (((A2 ++ A1) ++ A0) ++ (cb (w.heap.size + 1 + 1) 59 #[.bool n.leaf, .int .i64 (wrap64 (n.ver + 1)), .slice adk nk.length ck, .slice adr nr.length cr] :: cb (w.heap.size + 1) 59 #[.bool m.leaf, .int .i64 m.ver, .slice ka1 m.keys.length kc1, .slice ra1 m.refs.length rc1] :: cb w.heap.size 59 #[.bool n.leaf, .int .i64 (wrap64 (n.ver + 1)), .slice adk nk.length ck, .slice adr nr.length cr] :: L)) := ⟨_, rfl, (((((putA2 HR4.out 1 (.int .i64 (wrap64 (n.ver + 1))) rfl).putA0 0 (.bool n.leaf) rfl).putA0 1 (.int .i64 (wrap64 (n.ver + 1))) rfl).putA0 2 (.slice adk nk.length ck) rfl).putA0 3 (.slice adr nr.length cr) rfl)⟩
 rw [← hw]
 obtain ⟨e0, e1, e2, e3, -, -, -, -⟩ := hg.right.c4 (w.heap.size + 1 + 1) 59 (.bool n.leaf) (.int .i64 (wrap64 (n.ver + 1))) (.slice adk nk.length ck) (.slice adr nr.length cr) List.mem_cons_self
 exact bodyPost_ret (v := .agg #[.bool n.leaf, .int .i64 (wrap64 (n.ver + 1)), .slice adk nk.length ck, .slice adr nr.length cr]) (by simp [results, Try.results53, go_sem, e0, e1, e2, e3, hu59]) rfl ⟨_, ((A2 ++ A1) ++ A0), rfl, ⟨adk, ck, adr, cr, by rw [HF.out, ← HNR.out.1, ← HNR.out.2.1]; rfl, by rw [HF.out, ← HNR.out.1, ← HNR.out.2.1]; exact ⟨(Rdy.of_rw (Rw.of_gr HGR.out.1)).mono (fun p hp => by first | (simp [hp]; done) | (simp [HRL.out p hp]; done)), (Rdy.of_rw (Rw.of_gr HGR.out.2)).mono (fun p hp => by first | (simp [hp]; done) | (simp [HRL.out p hp]; done)), (Rw.of_gr HGR.out.1).2.1, (Rw.of_gr HGR.out.2).2.1⟩⟩, hg.drop (List.Sublist.append_left ((List.sublist_cons_self _ _).trans ((List.sublist_cons_self _ _).trans (List.sublist_cons_self _ _))) ((A2 ++ A1) ++ A0))⟩
theorem join.calls (hv : Hv w0 w L) (hRL : ∀ p ∈ R, p ∈ L) {n m : Nd} {v v1 : Value} (hn : NV w0 R n v) (hm : NV w0 R m v1) (ho : Sm n) (ho1 : Sm m) (k : ByteArray) : Calls Try.prog 53 #[v, .string k, v1] w (NodeP w0 R L (n.join k m)) := by
 have hb : n.refs.length < 4611686018427387904 ∧ m.refs.length < 4611686018427387904 := ⟨by have := ho.r; omega, by have := ho1.r; omega⟩
 cases h : (n.shape && m.shape && (n.leaf == m.leaf))
 ·exact join.neg hv hRL hn hm hb k h
 ·simp only [Bool.and_eq_true, beq_iff_eq] at h
  obtain ⟨⟨h1, h2⟩, h3⟩ := h
  cases h4 : n.leaf
  ·exact join.inner hv hRL hn hm ho ho1 k h1 h2 h4 (by rw [← h3, h4])
  ·exact join.leaf hv hRL hn hm ho ho1 k h1 h2 h4 (by rw [← h3, h4])
end
end Go.Proofs.Ytglbcfkmaamhaaa.Nd
