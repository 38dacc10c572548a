/- A text of this claim: parts NdF NdH NdI. No condition. -/
import Derived.Test.YtglbcfkmaamhaaaJG3
import Derived.Test.YtglbcfkmaamhaaaJG2
import Derived.Test.YtglbcfkmaamhaaaJG0
set_option linter.unusedVariables false
set_option linter.unusedSimpArgs false
set_option maxHeartbeats 16000000
set_option maxRecDepth 100000
namespace Go.Proofs.Ytglbcfkmaamhaaa.Nd
open Go Go.RowKit Go.Proofs.YtglbcfkmaamhaaaW.PrintWords Go.Proofs.YtglbcfkmaamhaaaW.PrintLast Go.Proofs.YtglbcfkmaamhaaaW.PrintMore Go.Proofs.Ytglbcfkmaamhaaa.Hv
section
variable {w0 w w1 : World} {g : Nat} {L L' R : List Ob}
theorem putA2 {a b : Ob} {A : List Ob} {t : Nat} {cs : Array Value} (h : Hv w0 w (A ++ (a :: b :: cb g t cs :: L))) (i : Nat) (u : Value) {cs' : Array Value} (e : cs.setIfInBounds i u = cs') : Hv w0 (w.setCell ⟨g, i, none⟩ u) (A ++ (a :: b :: cb g t cs' :: L)) := by
 have h1 := h.put (A.length + 2) (g := g) (t := t) (cs := cs) (by simp [List.getElem?_append_right]) i u
 rw [List.set_append_right _ _ (by omega), Nat.add_sub_cancel_left] at h1
 exact e ▸ h1
theorem rcel_take : ∀ (l : List Rf) (k : Nat), (l.flatMap rcel).take (k * 2) = (l.take k).flatMap rcel
 | [], k => by simp
 | a :: l, 0 => by simp
 | a :: l, k + 1 => by
  rw [List.flatMap_cons, List.take_succ_cons, List.flatMap_cons, ← rcel_take l k, show (k + 1) * 2 = (rcel a).length + k * 2 by simp [rcel]; omega, List.take_append, Nat.add_sub_cancel_left, List.take_of_length_le (by simp)]
theorem rcel_drop : ∀ (l : List Rf) (k : Nat), (l.flatMap rcel).drop (k * 2) = (l.drop k).flatMap rcel
 | [], k => by simp
 | a :: l, 0 => by simp
 | a :: l, k + 1 => by
  rw [List.flatMap_cons, List.drop_succ_cons, ← rcel_drop l k, show (k + 1) * 2 = (rcel a).length + k * 2 by simp [rcel]; omega, List.drop_append, Nat.add_sub_cancel_left, List.drop_of_length_le (by simp), List.nil_append]
theorem rcel_one (l : List Rf) : ∀ u ∈ l.flatMap rcel, u.oneCell' = true := by
 intro u hu
 obtain ⟨x, _, hx⟩ := List.mem_flatMap.1 hu
 simp [rcel] at hx
 rcases hx with rfl | rfl <;> rfl
theorem kcel_one (l : List ByteArray) : ∀ u ∈ l.map Value.string, u.oneCell' = true := by
 intro u hu
 obtain ⟨x, _, rfl⟩ := List.mem_map.1 hu
 rfl
theorem fnd_lt {k : ByteArray} {l : List ByteArray} (h : fnd k l = true) : plc k l < l.length := by
 unfold fnd at h
 cases e : l[plc k l]? with
 | none => rw [e] at h; cases h
 | some x => exact (List.getElem?_eq_some_iff.1 e).1
def Nd.put (n : Nd) (k : ByteArray) (r : Rf) : Nd × Bool :=
 if n.leaf && (n.keys.length == n.refs.length) then
  if fnd k n.keys then ({ n with ver := wrap64 (n.ver + 1), refs := n.refs.take (plc k n.keys) ++ [r] ++ n.refs.drop (plc k n.keys + 1) }, false)
  else ({ n with ver := wrap64 (n.ver + 1), keys := n.keys.take (plc k n.keys) ++ [k] ++ n.keys.drop (plc k n.keys), refs := n.refs.take (plc k n.keys) ++ [r] ++ n.refs.drop (plc k n.keys) }, true)
 else (n, false)
def PutP (w0 : World) (R L : List Ob) (n : Nd) (b : Bool) (e : Ending) (w' : World) : Prop := ∃ v A, e = .returned (.tuple #[v, .bool b]) ∧ NV w0 (A ++ R) n v ∧ Hv w0 w' (A ++ L)
theorem put.calls (hv : Hv w0 w L) (hRL : ∀ p ∈ R, p ∈ L) {n : Nd} {v : Value} (hn : NV w0 R n v) (ho : Ok n) (k : ByteArray) (r : Rf) :
  Calls Try.prog 42 #[v, .string k, .agg #[.int .i64 r.1, .int .i64 r.2]] w (PutP w0 R L (n.put k r).1 (n.put k r).2) := by
 have hu59 := Try.underlying59
 have hu57 := Try.underlying57
 have hu31 := Try.underlying31
 have hu33 := Try.underlying33
 obtain ⟨ka, kc, ra, rc, rfl, hr⟩ := hn
 have HRL := As hRL
 clear hRL
 have HV := As (show Hv w0 _ (cb (w.heap.size + 1 + 1) 59 #[.bool false, .int .i64 0, .slice none 0 0, .slice none 0 0] :: cb (w.heap.size + 1) 33 #[.int .i64 r.1, .int .i64 r.2] :: cb w.heap.size 59 #[.bool n.leaf, .int .i64 n.ver, .slice ka n.keys.length kc, .slice ra n.refs.length rc] :: L) by
  have := ((hv.alloc (.cells #[.bool n.leaf, .int .i64 n.ver, .slice ka n.keys.length kc, .slice ra n.refs.length rc] 59)).alloc (.cells #[.int .i64 r.1, .int .i64 r.2] 33)).alloc (.cells #[.bool false, .int .i64 0, .slice none 0 0, .slice none 0 0] 59)
  simpa [cb] using this)
 have HR := As hr
 have HN := As (show NV w0 (cb (w.heap.size + 1 + 1) 59 #[.bool false, .int .i64 0, .slice none 0 0, .slice none 0 0] :: cb (w.heap.size + 1) 33 #[.int .i64 r.1, .int .i64 r.2] :: cb w.heap.size 59 #[.bool n.leaf, .int .i64 n.ver, .slice ka n.keys.length kc, .slice ra n.refs.length rc] :: L) n (nval n ka kc ra rc) from ⟨ka, kc, ra, rc, rfl, hr.mono (fun p hp => by first | (simp [hp]; done) | (simp [HRL.out p hp]; done))⟩)
 have HO := As ho
 have HB := As (show n.refs.length < 4611686018427387904 by have := ho.r; omega)
 clear hv hr ho
 obtain ⟨y0, y1, y2, y3, f0, f1, f2, f3⟩ := HV.out.c4 w.heap.size 59 (.bool n.leaf) (.int .i64 n.ver) (.slice ka n.keys.length kc) (.slice ra n.refs.length rc) (by simp)
 obtain ⟨t0, t1, -, -⟩ := HV.out.c2 (w.heap.size + 1) 33 (.int .i64 r.1) (.int .i64 r.2) (by simp)
 obtain ⟨q0, q1, q2, q3, g0, g1, g2, g3⟩ := HV.out.c4 (w.heap.size + 1 + 1) 59 (.bool false) (.int .i64 0) (.slice none 0 0) (.slice none 0 0) (by simp)
 unfold nval at *
 cases hb : (n.leaf && (n.keys.length == n.refs.length))
 ·have HF := As (show n.put k r = (n, false) by unfold Nd.put; rw [hb]; rfl)
  go_enter Try.func42, Try.ntmps42
  go_wp2_with (go_at_call 94; go_loud (refine (leaf.calls HV.out n.leaf n.ver ka ra n.keys.length kc n.refs.length rc HB.out).mono ?_); rw [hb]; rintro e2 w2 ⟨rfl, h2⟩; have H2 := As h2; clear y0 y1 y2 y3 f0 f1 f2 f3 t0 t1 q0 q1 q2 q3 g0 g1 g2 g3; obtain ⟨y0, y1, y2, y3, f0, f1, f2, f3⟩ := h2.c4 w.heap.size 59 (.bool n.leaf) (.int .i64 n.ver) (.slice ka n.keys.length kc) (.slice ra n.refs.length rc) (by simp); obtain ⟨t0, t1, -, -⟩ := h2.c2 (w.heap.size + 1) 33 (.int .i64 r.1) (.int .i64 r.2) (by simp); obtain ⟨q0, q1, q2, q3, g0, g1, g2, g3⟩ := h2.c4 (w.heap.size + 1 + 1) 59 (.bool false) (.int .i64 0) (.slice none 0 0) (.slice none 0 0) (by simp); clear h2)
  obtain ⟨wg, hw, hg⟩ : ∃ wg, wg = _ ∧ Hv w0 wg ([] ++ (cb (w.heap.size + 1 + 1) 59 #[.bool n.leaf, .int .i64 n.ver, .slice ka n.keys.length kc, .slice ra n.refs.length rc] :: cb (w.heap.size + 1) 33 #[.int .i64 r.1, .int .i64 r.2] :: cb w.heap.size 59 #[.bool n.leaf, .int .i64 n.ver, .slice ka n.keys.length kc, .slice ra n.refs.length rc] :: L)) := ⟨_, rfl, (((((show Hv w0 w2 ([] ++ (cb (w.heap.size + 1 + 1) 59 #[.bool false, .int .i64 0, .slice none 0 0, .slice none 0 0] :: cb (w.heap.size + 1) 33 #[.int .i64 r.1, .int .i64 r.2] :: cb w.heap.size 59 #[.bool n.leaf, .int .i64 n.ver, .slice ka n.keys.length kc, .slice ra n.refs.length rc] :: L)) from H2.out).putA0 0 (.bool n.leaf) rfl).putA0 1 (.int .i64 n.ver) rfl).putA0 2 (.slice ka n.keys.length kc) rfl).putA0 3 (.slice ra n.refs.length rc) rfl)⟩
  rw [← hw]
  obtain ⟨e0, e1, e2, e3, -, -, -, -⟩ := hg.right.c4 (w.heap.size + 1 + 1) 59 (.bool n.leaf) (.int .i64 n.ver) (.slice ka n.keys.length kc) (.slice ra n.refs.length rc) List.mem_cons_self
  exact bodyPost_ret (v := .tuple #[.agg #[.bool n.leaf, .int .i64 n.ver, .slice ka n.keys.length kc, .slice ra n.refs.length rc], .bool false]) (by simp [results, Try.results42, go_sem, e0, e1, e2, e3, hu59]) rfl ⟨_, [], by rw [HF.out] <;> rfl, ⟨ka, kc, ra, rc, rfl, by rw [HF.out]; exact HR.out⟩, hg.drop (List.Sublist.append_left ((List.sublist_cons_self _ _).trans ((List.sublist_cons_self _ _).trans (List.sublist_cons_self _ _))) [])⟩
 ·have hff : n.find k = (plc k n.keys, fnd k n.keys) := by unfold Nd.find; rw [hb]; rfl
  have hkr : n.keys.length = n.refs.length := by simp only [Bool.and_eq_true, beq_iff_eq] at hb; exact hb.2
  have HKR := As (And.intro hkr (plc_le k n.keys))
  clear hkr
  have ew : IntKind.i64.wrap (n.ver + 1) = wrap64 (n.ver + 1) := i64_w _
  cases hq : fnd k n.keys
  ·have HF := As (show n.put k r = ({ n with ver := wrap64 (n.ver + 1), keys := n.keys.take (plc k n.keys) ++ [k] ++ n.keys.drop (plc k n.keys), refs := n.refs.take (plc k n.keys) ++ [r] ++ n.refs.drop (plc k n.keys) }, true) by unfold Nd.put; rw [hb, hq]; rfl)
   go_enter Try.func42, Try.ntmps42
   go_upto_region 4 with (first | (go_at_call 94; go_loud (refine (leaf.calls HV.out n.leaf n.ver ka ra n.keys.length kc n.refs.length rc HB.out).mono ?_); rw [hb]; rintro e2 w2 ⟨rfl, h2⟩; have H2 := As h2; clear y0 y1 y2 y3 f0 f1 f2 f3 t0 t1 q0 q1 q2 q3 g0 g1 g2 g3; obtain ⟨y0, y1, y2, y3, f0, f1, f2, f3⟩ := h2.c4 w.heap.size 59 (.bool n.leaf) (.int .i64 n.ver) (.slice ka n.keys.length kc) (.slice ra n.refs.length rc) (by simp); obtain ⟨t0, t1, -, -⟩ := h2.c2 (w.heap.size + 1) 33 (.int .i64 r.1) (.int .i64 r.2) (by simp); obtain ⟨q0, q1, q2, q3, g0, g1, g2, g3⟩ := h2.c4 (w.heap.size + 1 + 1) 59 (.bool false) (.int .i64 0) (.slice none 0 0) (.slice none 0 0) (by simp); clear h2) | (go_at_call 38; go_loud (refine (find.calls H2.out HN.out HO.out k).mono ?_); rw [hff, hq]; rintro e3 w3 ⟨rfl, h3⟩; have H3 := As h3; clear y0 y1 y2 y3 f0 f1 f2 f3 t0 t1 q0 q1 q2 q3 g0 g1 g2 g3; obtain ⟨y0, y1, y2, y3, f0, f1, f2, f3⟩ := h3.c4 w.heap.size 59 (.bool n.leaf) (.int .i64 n.ver) (.slice ka n.keys.length kc) (.slice ra n.refs.length rc) (by simp); obtain ⟨t0, t1, -, -⟩ := h3.c2 (w.heap.size + 1) 33 (.int .i64 r.1) (.int .i64 r.2) (by simp); obtain ⟨q0, q1, q2, q3, g0, g1, g2, g3⟩ := h3.c4 (w.heap.size + 1 + 1) 59 (.bool false) (.int .i64 0) (.slice none 0 0) (.slice none 0 0) (by simp); clear h3))
   go_upto_region 5 with (fail)
   obtain ⟨W4, hW, hv4⟩ : ∃ W4, W4 = w3.setCell ⟨w.heap.size, 1, none⟩ (.int .i64 (wrap64 (n.ver + 1))) ∧ Hv w0 W4 (cb (w.heap.size + 1 + 1) 59 #[.bool false, .int .i64 0, .slice none 0 0, .slice none 0 0] :: cb (w.heap.size + 1) 33 #[.int .i64 r.1, .int .i64 r.2] :: cb w.heap.size 59 #[.bool n.leaf, .int .i64 (wrap64 (n.ver + 1)), .slice ka n.keys.length kc, .slice ra n.refs.length rc] :: L) := ⟨_, rfl, H3.out.put2 1 _ rfl⟩
   rw [← hW]
   have H4 := As hv4
   clear y0 y1 y2 y3 f0 f1 f2 f3 t0 t1 q0 q1 q2 q3 g0 g1 g2 g3
   clear hW
   obtain ⟨y0, y1, y2, y3, f0, f1, f2, f3⟩ := hv4.c4 w.heap.size 59 (.bool n.leaf) (.int .i64 (wrap64 (n.ver + 1))) (.slice ka n.keys.length kc) (.slice ra n.refs.length rc) (by simp)
   obtain ⟨t0, t1, -, -⟩ := hv4.c2 (w.heap.size + 1) 33 (.int .i64 r.1) (.int .i64 r.2) (by simp)
   obtain ⟨q0, q1, q2, q3, g0, g1, g2, g3⟩ := hv4.c4 (w.heap.size + 1 + 1) 59 (.bool false) (.int .i64 0) (.slice none 0 0) (.slice none 0 0) (by simp)
   clear hv4
   obtain ⟨nk, hnk⟩ : ∃ nk, nk = n.keys.take (plc k n.keys) ++ [k] ++ n.keys.drop (plc k n.keys) := ⟨_, rfl⟩
   obtain ⟨nr, hnr⟩ : ∃ nr, nr = n.refs.take (plc k n.keys) ++ [r] ++ n.refs.drop (plc k n.keys) := ⟨_, rfl⟩
   have hlk : plc k n.keys + 1 + (n.keys.length - (plc k n.keys + 0)) = nk.length := by have := HKR.out.2; rw [hnk]; simp; omega
   have hlr : plc k n.keys + 1 + (n.refs.length - (plc k n.keys + 0)) = nr.length := by have := HKR.out.2; have := HKR.out.1; rw [hnr]; simp; omega
   have HNR := As (And.intro hnk (And.intro hnr (And.intro hlk hlr)))
   clear hnk hnr hlk hlr
   have SP := As (show ∀ (w' : World) (L' : List Ob), Hv w0 w' L' → cb w.heap.size 59 #[.bool n.leaf, .int .i64 (wrap64 (n.ver + 1)), .slice ka n.keys.length kc, .slice ra n.refs.length rc] ∈ L' → cb (w.heap.size + 1) 33 #[.int .i64 r.1, .int .i64 r.2] ∈ L' → (w'.cell? ⟨w.heap.size, 0, none⟩ = some (.bool n.leaf) ∧ w'.cell? ⟨w.heap.size, 1, none⟩ = some (.int .i64 (wrap64 (n.ver + 1))) ∧ w'.cell? ⟨w.heap.size, 2, none⟩ = some (.slice ka n.keys.length kc) ∧ w'.cell? ⟨w.heap.size, 3, none⟩ = some (.slice ra n.refs.length rc) ∧ w'.cell? ⟨w.heap.size + 1, 0, none⟩ = some (.int .i64 r.1) ∧ w'.cell? ⟨w.heap.size + 1, 1, none⟩ = some (.int .i64 r.2)) from fun w' L' h m3 m5 => by
    obtain ⟨p0, p1, p2, p3, -, -, -, -⟩ := h.c4 _ _ _ _ _ _ m3
    obtain ⟨p4, p5, -, -⟩ := h.c2 _ _ _ _ m5
    exact ⟨p0, p1, p2, p3, p4, p5⟩)
   go_upto_region 8 with (fail)
   have H4d := As H4.out.drew
   clear y0 y1 y2 y3 f0 f1 f2 f3 t0 t1 q0 q1 q2 q3 g0 g1 g2 g3
   refine start_ (n := 16) (S := fun w' => w'.cell? ⟨w.heap.size, 0, none⟩ = some (.bool n.leaf) ∧ w'.cell? ⟨w.heap.size, 1, none⟩ = some (.int .i64 (wrap64 (n.ver + 1))) ∧ w'.cell? ⟨w.heap.size, 2, none⟩ = some (.slice ka n.keys.length kc) ∧ w'.cell? ⟨w.heap.size, 3, none⟩ = some (.slice ra n.refs.length rc) ∧ w'.cell? ⟨w.heap.size + 1, 0, none⟩ = some (.int .i64 r.1) ∧ w'.cell? ⟨w.heap.size + 1, 1, none⟩ = some (.int .i64 r.2)) (ds := [13, 15]) #[false, false, false, false, false, false, false, false, false, false, false, false, false, false, false, false] (by kernel_rfl) rfl rfl (SP.out _ _ H4d.out (by simp) (by simp)) (fun hHeld => ?_)
   generalize W4.drew = wr0 at H4d hHeld ⊢
   refine pu_ 0 (some 33) ?_
   refine pu_ 2 (some 35) ?_
   refine pu_ 3 (some 36) ?_
   refine pu_ 6 (some 39) ?_
   refine pu_ 8 (some 41) ?_
   refine ta_ 1 (some 34) hHeld ?_ (hy := Or.inl ⟨by rfl, by rintro w' ⟨s0, s1, s2, s3, s4, s5⟩; go_simp; with_reducible rfl⟩)
   refine ta_ 7 (some 40) hHeld ?_ (hy := Or.inl ⟨by rfl, by rintro w' ⟨s0, s1, s2, s3, s4, s5⟩; go_simp; with_reducible rfl⟩)
   refine ta_ 9 (some 42) hHeld ?_ (hy := Or.inl ⟨by rfl, by rintro w' ⟨s0, s1, s2, s3, s4, s5⟩; go_simp; with_reducible rfl⟩)
   refine two_ (i := 4) (j := 10) (Ni := some 37) (Nj := some 43) #[true, true, true, true, true, false, true, true, true, true, false, false, false, false, false, false] #[true, true, true, true, false, false, true, true, true, true, true, false, false, false, false, false] rfl rfl rfl rfl (by kernel_rfl) (by decide) (by decide) (fun K hK => ?_) (fun K hK => ?_)
   ·refine value_ (v := .slice (some ⟨wr0.heap.size, 0, none⟩) 1 1) (w1 := wr0.alloc (.cells #[.string k] 9)) (by rfl) rfl ?_ ?_
    ·go_simp
    obtain ⟨wr1, hW, hvv⟩ : ∃ wr1, wr1 = wr0.alloc (.cells #[.string k] 9) ∧ Hv w0 wr1 (cb wr0.heap.size 9 #[.string k] :: cb (w.heap.size + 1 + 1) 59 #[.bool false, .int .i64 0, .slice none 0 0, .slice none 0 0] :: cb (w.heap.size + 1) 33 #[.int .i64 r.1, .int .i64 r.2] :: cb w.heap.size 59 #[.bool n.leaf, .int .i64 (wrap64 (n.ver + 1)), .slice ka n.keys.length kc, .slice ra n.refs.length rc] :: L) := ⟨_, rfl, H4d.out.alloc _⟩
    rw [← hW]
    have HR1 := As hvv
    clear hW hvv
    refine hK.out _ _ (SP.out _ _ HR1.out (by simp) (by simp)) (fun hHeld => ?_)
    clear hK K
    refine nm_ ?_
    refine two_ (i := 5) (j := 10) (Ni := some 38) (Nj := some 43) #[true, true, true, true, true, true, true, true, true, true, false, false, false, false, false, false] #[true, true, true, true, true, false, true, true, true, true, true, false, false, false, false, false] rfl rfl rfl rfl (by kernel_rfl) (by decide) (by decide) (fun K hK => ?_) (fun K hK => ?_)
    ·refine gs_ Try.func97 #[.slice ka n.keys.length kc, .int .i64 (plc k n.keys : Int), .int .i64 0, .slice (some ⟨wr0.heap.size, 0, none⟩) 1 1] ?_
     have hca := splS.calls (w0 := w0) (a1 := some ⟨wr0.heap.size, 0, none⟩) (n1 := 1) (c1 := 1) (ys := [.string k]) HR1.out (HR.out.k.mono (fun p hp => by first | (simp [hp]; done) | (simp [HRL.out p hp]; done))) (Rdy.of_rw (e := 9) (c := 1) ⟨rfl, Nat.le_refl _, fun _ => ⟨wr0.heap.size, 0, _, rfl, (by simp : cb wr0.heap.size 9 #[.string k] ∈ _), fun i _ => by rw [Nat.zero_add]; simp⟩⟩) (kcel_one _) (by intro u hu; simp at hu; subst hu; rfl) HR.out.kc (by have := HO.out.r; have := HO.out.k; omega) (plc k n.keys) 0 (by have := HKR.out.1; have := HKR.out.2; omega)
     refine hca.mono ?_
     clear hca
     rintro e wr2 hq5
     obtain ⟨adk, ck, A2, rfl, hG, hv5⟩ := hq5
     rw [HNR.out.2.2.1] at hG ⊢
     refine ⟨_, rfl, ?_⟩
     have HGk := As hG
     have HR2 := As (show Hv w0 wr2 (A2 ++ (cb wr0.heap.size 9 #[.string k] :: cb (w.heap.size + 1 + 1) 59 #[.bool false, .int .i64 0, .slice none 0 0, .slice none 0 0] :: cb (w.heap.size + 1) 33 #[.int .i64 r.1, .int .i64 r.2] :: cb w.heap.size 59 #[.bool n.leaf, .int .i64 (wrap64 (n.ver + 1)), .slice ka n.keys.length kc, .slice ra n.refs.length rc] :: L)) from hv5)
     clear hG hv5
     refine hK.out _ _ (SP.out _ _ HR2.out (by simp) (by simp)) (fun hHeld => ?_)
     clear hK K
     refine nm_ ?_
     refine pu_ 12 (some 45) ?_
     refine on_ 10 (some 43) fun K hK => ?_
     refine value_ (v := .slice (some ⟨wr2.heap.size, 0, none⟩) 1 1) (w1 := wr2.alloc (.cells #[.int .i64 r.1, .int .i64 r.2] 33)) (by rfl) rfl ?_ ?_
     ·go_simp
     obtain ⟨wr3, hW, hvv⟩ : ∃ wr3, wr3 = wr2.alloc (.cells #[.int .i64 r.1, .int .i64 r.2] 33) ∧ Hv w0 wr3 (cb wr2.heap.size 33 #[.int .i64 r.1, .int .i64 r.2] :: A2 ++ (cb wr0.heap.size 9 #[.string k] :: cb (w.heap.size + 1 + 1) 59 #[.bool false, .int .i64 0, .slice none 0 0, .slice none 0 0] :: cb (w.heap.size + 1) 33 #[.int .i64 r.1, .int .i64 r.2] :: cb w.heap.size 59 #[.bool n.leaf, .int .i64 (wrap64 (n.ver + 1)), .slice ka n.keys.length kc, .slice ra n.refs.length rc] :: L)) := ⟨_, rfl, HR2.out.alloc _⟩
     rw [← hW]
     have HR3 := As hvv
     clear hW hvv
     refine hK.out _ _ (SP.out _ _ HR3.out (by simp) (by simp)) (fun hHeld => ?_)
     clear hK K
     refine nm_ ?_
     refine on_ 11 (some 44) fun K hK => ?_
     refine gs_ Try.func96 #[.slice ra n.refs.length rc, .int .i64 (plc k n.keys : Int), .int .i64 0, .slice (some ⟨wr2.heap.size, 0, none⟩) 1 1] ?_
     have hca := splR.calls (w0 := w0) (a1 := some ⟨wr2.heap.size, 0, none⟩) (n1 := 1) (c1 := 1) (ys := [.int .i64 r.1, .int .i64 r.2]) HR3.out (HR.out.r.mono (fun p hp => by first | (simp [hp]; done) | (simp [HRL.out p hp]; done))) (Rdy.of_rw (e := 33) (c := 1) ⟨rfl, Nat.le_refl _, fun _ => ⟨wr2.heap.size, 0, _, rfl, (by simp : cb wr2.heap.size 33 #[.int .i64 r.1, .int .i64 r.2] ∈ _), fun i _ => by rw [Nat.zero_add]; simp⟩⟩) (rcel_one _) (by intro u hu; simp at hu; rcases hu with rfl | rfl <;> rfl) HR.out.rc (by have := HO.out.r; have := HO.out.k; omega) (plc k n.keys) 0 (by have := HKR.out.1; have := HKR.out.2; omega)
     refine hca.mono ?_
     clear hca
     rintro e wr4 hq5
     obtain ⟨adr, cr, A4, rfl, hG, hv5⟩ := hq5
     rw [HNR.out.2.2.2] at hG ⊢
     refine ⟨_, rfl, ?_⟩
     have HGr := As hG
     have HR4 := As (show Hv w0 wr4 (A4 ++ (cb wr2.heap.size 33 #[.int .i64 r.1, .int .i64 r.2] :: A2 ++ (cb wr0.heap.size 9 #[.string k] :: cb (w.heap.size + 1 + 1) 59 #[.bool false, .int .i64 0, .slice none 0 0, .slice none 0 0] :: cb (w.heap.size + 1) 33 #[.int .i64 r.1, .int .i64 r.2] :: cb w.heap.size 59 #[.bool n.leaf, .int .i64 (wrap64 (n.ver + 1)), .slice ka n.keys.length kc, .slice ra n.refs.length rc] :: L))) from hv5)
     clear hG hv5
     refine hK.out _ _ (SP.out _ _ HR4.out (by simp) (by simp)) (fun hHeld => ?_)
     clear hK K
     refine nm_ ?_
     refine la_ 13 none fun K hK => ?_
     have HS := As (show Hv w0 wr4 ((A4 ++ A2) ++ (cb (w.heap.size + 1 + 1) 59 #[.bool false, .int .i64 0, .slice none 0 0, .slice none 0 0] :: cb (w.heap.size + 1) 33 #[.int .i64 r.1, .int .i64 r.2] :: cb w.heap.size 59 #[.bool n.leaf, .int .i64 (wrap64 (n.ver + 1)), .slice ka n.keys.length kc, .slice ra n.refs.length rc] :: L)) by rw [List.append_assoc]; exact HR4.out.drop (List.Sublist.append_left (List.Sublist.cons _ (List.Sublist.append_left (List.Sublist.cons _ (List.Sublist.refl _)) A2)) A4))
     obtain ⟨y0, y1, y2, y3, f0, f1, f2, f3⟩ := HS.out.right.c4 w.heap.size 59 (.bool n.leaf) (.int .i64 (wrap64 (n.ver + 1))) (.slice ka n.keys.length kc) (.slice ra n.refs.length rc) (by simp)
     refine sk_ (hK.out _ _ ?_)
     clear hK K y0 y1 y2 y3 f0 f1 f2 f3
     obtain ⟨wr5, hW, hvv⟩ : ∃ wr5, wr5 = wr4.setCell ⟨w.heap.size, 2, none⟩ (.slice adk nk.length ck) ∧ Hv w0 wr5 ((A4 ++ A2) ++ (cb (w.heap.size + 1 + 1) 59 #[.bool false, .int .i64 0, .slice none 0 0, .slice none 0 0] :: cb (w.heap.size + 1) 33 #[.int .i64 r.1, .int .i64 r.2] :: cb w.heap.size 59 #[.bool n.leaf, .int .i64 (wrap64 (n.ver + 1)), .slice adk nk.length ck, .slice ra n.refs.length rc] :: L)) := ⟨_, rfl, putA2 HS.out 2 _ rfl⟩
     rw [← hW]
     have HR5 := As hvv
     clear hW hvv
     refine pu_ 14 (some 46) ?_
     refine la_ 15 none fun K hK => ?_
     obtain ⟨y0, y1, y2, y3, f0, f1, f2, f3⟩ := HR5.out.right.c4 w.heap.size 59 (.bool n.leaf) (.int .i64 (wrap64 (n.ver + 1))) (.slice adk nk.length ck) (.slice ra n.refs.length rc) (by simp)
     refine sk_ (hK.out _ _ ?_)
     clear hK K y0 y1 y2 y3 f0 f1 f2 f3
     obtain ⟨wr6, hW, hvv⟩ : ∃ wr6, wr6 = wr5.setCell ⟨w.heap.size, 3, none⟩ (.slice adr nr.length cr) ∧ Hv w0 wr6 ((A4 ++ A2) ++ (cb (w.heap.size + 1 + 1) 59 #[.bool false, .int .i64 0, .slice none 0 0, .slice none 0 0] :: cb (w.heap.size + 1) 33 #[.int .i64 r.1, .int .i64 r.2] :: cb w.heap.size 59 #[.bool n.leaf, .int .i64 (wrap64 (n.ver + 1)), .slice adk nk.length ck, .slice adr nr.length cr] :: L)) := ⟨_, rfl, putA2 HR5.out 3 _ rfl⟩
     rw [← hW]
     have HR6 := As hvv
     clear hW hvv
     refine done_ (by kernel_rfl) ?_
     obtain ⟨y0, y1, y2, y3, f0, f1, f2, f3⟩ := HR6.out.right.c4 w.heap.size 59 (.bool n.leaf) (.int .i64 (wrap64 (n.ver + 1))) (.slice adk nk.length ck) (.slice adr nr.length cr) (by simp)
     obtain ⟨q0, q1, q2, q3, g0, g1, g2, g3⟩ := HR6.out.right.c4 (w.heap.size + 1 + 1) 59 (.bool false) (.int .i64 0) (.slice none 0 0) (.slice none 0 0) List.mem_cons_self
     go_wp2_with fail
     have hgk : Gr 9 1 (.slice adk nk.length ck) nk.length (nk.map Value.string) A2 := by
      have h9 := HGk.out
      rw [HNR.out.1] at h9 ⊢
      simpa using h9
     have hgr : Gr 33 2 (.slice adr nr.length cr) nr.length (nr.flatMap rcel) A4 := by
      have h9 := HGr.out
      rw [Nat.add_zero, rcel_take, rcel_drop] at h9
      rw [HNR.out.2.1] at h9 ⊢
      simpa [List.flatMap_append, rcel] using h9
     have HGR := As (And.intro hgk hgr)
     clear hgk hgr
     obtain ⟨wg, hw, hg⟩ : ∃ wg, wg = _ ∧ Hv w0 wg ((A4 ++ A2) ++ (cb (w.heap.size + 1 + 1) 59 #[.bool n.leaf, .int .i64 (wrap64 (n.ver + 1)), .slice adk nk.length ck, .slice adr nr.length cr] :: cb (w.heap.size + 1) 33 #[.int .i64 r.1, .int .i64 r.2] :: cb w.heap.size 59 #[.bool n.leaf, .int .i64 (wrap64 (n.ver + 1)), .slice adk nk.length ck, .slice adr nr.length cr] :: L)) := ⟨_, rfl, ((((HR6.out.putA0 0 (.bool n.leaf) rfl).putA0 1 (.int .i64 (wrap64 (n.ver + 1))) rfl).putA0 2 (.slice adk nk.length ck) rfl).putA0 3 (.slice adr nr.length cr) rfl)⟩
     rw [← hw]
     obtain ⟨e0, e1, e2, e3, -, -, -, -⟩ := hg.right.c4 (w.heap.size + 1 + 1) 59 (.bool n.leaf) (.int .i64 (wrap64 (n.ver + 1))) (.slice adk nk.length ck) (.slice adr nr.length cr) List.mem_cons_self
     exact bodyPost_ret (v := .tuple #[.agg #[.bool n.leaf, .int .i64 (wrap64 (n.ver + 1)), .slice adk nk.length ck, .slice adr nr.length cr], .bool true]) (by simp [results, Try.results42, go_sem, e0, e1, e2, e3, hu59]) rfl ⟨_, (A4 ++ A2), by rw [HF.out] <;> rfl, by rw [HF.out, ← HNR.out.1, ← HNR.out.2.1]; exact ⟨adk, ck, adr, cr, rfl, (Rdy.of_rw (Rw.of_gr HGR.out.1)).mono (fun p hp => by first | (simp [hp]; done) | (simp [HRL.out p hp]; done)), (Rdy.of_rw (Rw.of_gr HGR.out.2)).mono (fun p hp => by first | (simp [hp]; done) | (simp [HRL.out p hp]; done)), (Rw.of_gr HGR.out.1).2.1, (Rw.of_gr HGR.out.2).2.1⟩, hg.drop (List.Sublist.append_left ((List.sublist_cons_self _ _).trans ((List.sublist_cons_self _ _).trans (List.sublist_cons_self _ _))) (A4 ++ A2))⟩
    ·refine value_ (v := .slice (some ⟨wr1.heap.size, 0, none⟩) 1 1) (w1 := wr1.alloc (.cells #[.int .i64 r.1, .int .i64 r.2] 33)) (by rfl) rfl ?_ ?_
     ·go_simp
     obtain ⟨wr2, hW, hvv⟩ : ∃ wr2, wr2 = wr1.alloc (.cells #[.int .i64 r.1, .int .i64 r.2] 33) ∧ Hv w0 wr2 (cb wr1.heap.size 33 #[.int .i64 r.1, .int .i64 r.2] :: cb wr0.heap.size 9 #[.string k] :: cb (w.heap.size + 1 + 1) 59 #[.bool false, .int .i64 0, .slice none 0 0, .slice none 0 0] :: cb (w.heap.size + 1) 33 #[.int .i64 r.1, .int .i64 r.2] :: cb w.heap.size 59 #[.bool n.leaf, .int .i64 (wrap64 (n.ver + 1)), .slice ka n.keys.length kc, .slice ra n.refs.length rc] :: L) := ⟨_, rfl, HR1.out.alloc _⟩
     rw [← hW]
     have HR2 := As hvv
     clear hW hvv
     refine hK.out _ _ (SP.out _ _ HR2.out (by simp) (by simp)) (fun hHeld => ?_)
     clear hK K
     refine nm_ ?_
     refine on_ 5 (some 38) fun K hK => ?_
     refine gs_ Try.func97 #[.slice ka n.keys.length kc, .int .i64 (plc k n.keys : Int), .int .i64 0, .slice (some ⟨wr0.heap.size, 0, none⟩) 1 1] ?_
     have hca := splS.calls (w0 := w0) (a1 := some ⟨wr0.heap.size, 0, none⟩) (n1 := 1) (c1 := 1) (ys := [.string k]) HR2.out (HR.out.k.mono (fun p hp => by first | (simp [hp]; done) | (simp [HRL.out p hp]; done))) (Rdy.of_rw (e := 9) (c := 1) ⟨rfl, Nat.le_refl _, fun _ => ⟨wr0.heap.size, 0, _, rfl, (by simp : cb wr0.heap.size 9 #[.string k] ∈ _), fun i _ => by rw [Nat.zero_add]; simp⟩⟩) (kcel_one _) (by intro u hu; simp at hu; subst hu; rfl) HR.out.kc (by have := HO.out.r; have := HO.out.k; omega) (plc k n.keys) 0 (by have := HKR.out.1; have := HKR.out.2; omega)
     refine hca.mono ?_
     clear hca
     rintro e wr3 hq5
     obtain ⟨adk, ck, A3, rfl, hG, hv5⟩ := hq5
     rw [HNR.out.2.2.1] at hG ⊢
     refine ⟨_, rfl, ?_⟩
     have HGk := As hG
     have HR3 := As (show Hv w0 wr3 (A3 ++ (cb wr1.heap.size 33 #[.int .i64 r.1, .int .i64 r.2] :: cb wr0.heap.size 9 #[.string k] :: cb (w.heap.size + 1 + 1) 59 #[.bool false, .int .i64 0, .slice none 0 0, .slice none 0 0] :: cb (w.heap.size + 1) 33 #[.int .i64 r.1, .int .i64 r.2] :: cb w.heap.size 59 #[.bool n.leaf, .int .i64 (wrap64 (n.ver + 1)), .slice ka n.keys.length kc, .slice ra n.refs.length rc] :: L)) from hv5)
     clear hG hv5
     refine hK.out _ _ (SP.out _ _ HR3.out (by simp) (by simp)) (fun hHeld => ?_)
     clear hK K
     refine nm_ ?_
     refine pu_ 12 (some 45) ?_
     refine on_ 11 (some 44) fun K hK => ?_
     refine gs_ Try.func96 #[.slice ra n.refs.length rc, .int .i64 (plc k n.keys : Int), .int .i64 0, .slice (some ⟨wr1.heap.size, 0, none⟩) 1 1] ?_
     have hca := splR.calls (w0 := w0) (a1 := some ⟨wr1.heap.size, 0, none⟩) (n1 := 1) (c1 := 1) (ys := [.int .i64 r.1, .int .i64 r.2]) HR3.out (HR.out.r.mono (fun p hp => by first | (simp [hp]; done) | (simp [HRL.out p hp]; done))) (Rdy.of_rw (e := 33) (c := 1) ⟨rfl, Nat.le_refl _, fun _ => ⟨wr1.heap.size, 0, _, rfl, (by simp : cb wr1.heap.size 33 #[.int .i64 r.1, .int .i64 r.2] ∈ _), fun i _ => by rw [Nat.zero_add]; simp⟩⟩) (rcel_one _) (by intro u hu; simp at hu; rcases hu with rfl | rfl <;> rfl) HR.out.rc (by have := HO.out.r; have := HO.out.k; omega) (plc k n.keys) 0 (by have := HKR.out.1; have := HKR.out.2; omega)
     refine hca.mono ?_
     clear hca
     rintro e wr4 hq5
     obtain ⟨adr, cr, A4, rfl, hG, hv5⟩ := hq5
     rw [HNR.out.2.2.2] at hG ⊢
     refine ⟨_, rfl, ?_⟩
     have HGr := As hG
     have HR4 := As (show Hv w0 wr4 (A4 ++ (A3 ++ (cb wr1.heap.size 33 #[.int .i64 r.1, .int .i64 r.2] :: cb wr0.heap.size 9 #[.string k] :: cb (w.heap.size + 1 + 1) 59 #[.bool false, .int .i64 0, .slice none 0 0, .slice none 0 0] :: cb (w.heap.size + 1) 33 #[.int .i64 r.1, .int .i64 r.2] :: cb w.heap.size 59 #[.bool n.leaf, .int .i64 (wrap64 (n.ver + 1)), .slice ka n.keys.length kc, .slice ra n.refs.length rc] :: L))) from hv5)
     clear hG hv5
     refine hK.out _ _ (SP.out _ _ HR4.out (by simp) (by simp)) (fun hHeld => ?_)
     clear hK K
     refine nm_ ?_
     refine la_ 13 none fun K hK => ?_
     have HS := As (show Hv w0 wr4 ((A4 ++ A3) ++ (cb (w.heap.size + 1 + 1) 59 #[.bool false, .int .i64 0, .slice none 0 0, .slice none 0 0] :: cb (w.heap.size + 1) 33 #[.int .i64 r.1, .int .i64 r.2] :: cb w.heap.size 59 #[.bool n.leaf, .int .i64 (wrap64 (n.ver + 1)), .slice ka n.keys.length kc, .slice ra n.refs.length rc] :: L)) by rw [List.append_assoc]; exact HR4.out.drop (List.Sublist.append_left (List.Sublist.append_left (List.Sublist.cons _ (List.Sublist.cons _ (List.Sublist.refl _))) A3) A4))
     obtain ⟨y0, y1, y2, y3, f0, f1, f2, f3⟩ := HS.out.right.c4 w.heap.size 59 (.bool n.leaf) (.int .i64 (wrap64 (n.ver + 1))) (.slice ka n.keys.length kc) (.slice ra n.refs.length rc) (by simp)
     refine sk_ (hK.out _ _ ?_)
     clear hK K y0 y1 y2 y3 f0 f1 f2 f3
     obtain ⟨wr5, hW, hvv⟩ : ∃ wr5, wr5 = wr4.setCell ⟨w.heap.size, 2, none⟩ (.slice adk nk.length ck) ∧ Hv w0 wr5 ((A4 ++ A3) ++ (cb (w.heap.size + 1 + 1) 59 #[.bool false, .int .i64 0, .slice none 0 0, .slice none 0 0] :: cb (w.heap.size + 1) 33 #[.int .i64 r.1, .int .i64 r.2] :: cb w.heap.size 59 #[.bool n.leaf, .int .i64 (wrap64 (n.ver + 1)), .slice adk nk.length ck, .slice ra n.refs.length rc] :: L)) := ⟨_, rfl, putA2 HS.out 2 _ rfl⟩
     rw [← hW]
     have HR5 := As hvv
     clear hW hvv
     refine pu_ 14 (some 46) ?_
     refine la_ 15 none fun K hK => ?_
     obtain ⟨y0, y1, y2, y3, f0, f1, f2, f3⟩ := HR5.out.right.c4 w.heap.size 59 (.bool n.leaf) (.int .i64 (wrap64 (n.ver + 1))) (.slice adk nk.length ck) (.slice ra n.refs.length rc) (by simp)
     refine sk_ (hK.out _ _ ?_)
     clear hK K y0 y1 y2 y3 f0 f1 f2 f3
     obtain ⟨wr6, hW, hvv⟩ : ∃ wr6, wr6 = wr5.setCell ⟨w.heap.size, 3, none⟩ (.slice adr nr.length cr) ∧ Hv w0 wr6 ((A4 ++ A3) ++ (cb (w.heap.size + 1 + 1) 59 #[.bool false, .int .i64 0, .slice none 0 0, .slice none 0 0] :: cb (w.heap.size + 1) 33 #[.int .i64 r.1, .int .i64 r.2] :: cb w.heap.size 59 #[.bool n.leaf, .int .i64 (wrap64 (n.ver + 1)), .slice adk nk.length ck, .slice adr nr.length cr] :: L)) := ⟨_, rfl, putA2 HR5.out 3 _ rfl⟩
     rw [← hW]
     have HR6 := As hvv
     clear hW hvv
     refine done_ (by kernel_rfl) ?_
     obtain ⟨y0, y1, y2, y3, f0, f1, f2, f3⟩ := HR6.out.right.c4 w.heap.size 59 (.bool n.leaf) (.int .i64 (wrap64 (n.ver + 1))) (.slice adk nk.length ck) (.slice adr nr.length cr) (by simp)
     obtain ⟨q0, q1, q2, q3, g0, g1, g2, g3⟩ := HR6.out.right.c4 (w.heap.size + 1 + 1) 59 (.bool false) (.int .i64 0) (.slice none 0 0) (.slice none 0 0) List.mem_cons_self
     go_wp2_with fail
     have hgk : Gr 9 1 (.slice adk nk.length ck) nk.length (nk.map Value.string) A3 := by
      have h9 := HGk.out
      rw [HNR.out.1] at h9 ⊢
      simpa using h9
     have hgr : Gr 33 2 (.slice adr nr.length cr) nr.length (nr.flatMap rcel) A4 := by
      have h9 := HGr.out
      rw [Nat.add_zero, rcel_take, rcel_drop] at h9
      rw [HNR.out.2.1] at h9 ⊢
      simpa [List.flatMap_append, rcel] using h9
     have HGR := As (And.intro hgk hgr)
     clear hgk hgr
     obtain ⟨wg, hw, hg⟩ : ∃ wg, wg = _ ∧ Hv w0 wg ((A4 ++ A3) ++ (cb (w.heap.size + 1 + 1) 59 #[.bool n.leaf, .int .i64 (wrap64 (n.ver + 1)), .slice adk nk.length ck, .slice adr nr.length cr] :: cb (w.heap.size + 1) 33 #[.int .i64 r.1, .int .i64 r.2] :: cb w.heap.size 59 #[.bool n.leaf, .int .i64 (wrap64 (n.ver + 1)), .slice adk nk.length ck, .slice adr nr.length cr] :: L)) := ⟨_, rfl, ((((HR6.out.putA0 0 (.bool n.leaf) rfl).putA0 1 (.int .i64 (wrap64 (n.ver + 1))) rfl).putA0 2 (.slice adk nk.length ck) rfl).putA0 3 (.slice adr nr.length cr) rfl)⟩
     rw [← hw]
     obtain ⟨e0, e1, e2, e3, -, -, -, -⟩ := hg.right.c4 (w.heap.size + 1 + 1) 59 (.bool n.leaf) (.int .i64 (wrap64 (n.ver + 1))) (.slice adk nk.length ck) (.slice adr nr.length cr) List.mem_cons_self
     exact bodyPost_ret (v := .tuple #[.agg #[.bool n.leaf, .int .i64 (wrap64 (n.ver + 1)), .slice adk nk.length ck, .slice adr nr.length cr], .bool true]) (by simp [results, Try.results42, go_sem, e0, e1, e2, e3, hu59]) rfl ⟨_, (A4 ++ A3), by rw [HF.out] <;> rfl, by rw [HF.out, ← HNR.out.1, ← HNR.out.2.1]; exact ⟨adk, ck, adr, cr, rfl, (Rdy.of_rw (Rw.of_gr HGR.out.1)).mono (fun p hp => by first | (simp [hp]; done) | (simp [HRL.out p hp]; done)), (Rdy.of_rw (Rw.of_gr HGR.out.2)).mono (fun p hp => by first | (simp [hp]; done) | (simp [HRL.out p hp]; done)), (Rw.of_gr HGR.out.1).2.1, (Rw.of_gr HGR.out.2).2.1⟩, hg.drop (List.Sublist.append_left ((List.sublist_cons_self _ _).trans ((List.sublist_cons_self _ _).trans (List.sublist_cons_self _ _))) (A4 ++ A3))⟩
   ·refine value_ (v := .slice (some ⟨wr0.heap.size, 0, none⟩) 1 1) (w1 := wr0.alloc (.cells #[.int .i64 r.1, .int .i64 r.2] 33)) (by rfl) rfl ?_ ?_
    ·go_simp
    obtain ⟨wr1, hW, hvv⟩ : ∃ wr1, wr1 = wr0.alloc (.cells #[.int .i64 r.1, .int .i64 r.2] 33) ∧ Hv w0 wr1 (cb wr0.heap.size 33 #[.int .i64 r.1, .int .i64 r.2] :: cb (w.heap.size + 1 + 1) 59 #[.bool false, .int .i64 0, .slice none 0 0, .slice none 0 0] :: cb (w.heap.size + 1) 33 #[.int .i64 r.1, .int .i64 r.2] :: cb w.heap.size 59 #[.bool n.leaf, .int .i64 (wrap64 (n.ver + 1)), .slice ka n.keys.length kc, .slice ra n.refs.length rc] :: L) := ⟨_, rfl, H4d.out.alloc _⟩
    rw [← hW]
    have HR1 := As hvv
    clear hW hvv
    refine hK.out _ _ (SP.out _ _ HR1.out (by simp) (by simp)) (fun hHeld => ?_)
    clear hK K
    refine nm_ ?_
    refine on_ 4 (some 37) fun K hK => ?_
    refine value_ (v := .slice (some ⟨wr1.heap.size, 0, none⟩) 1 1) (w1 := wr1.alloc (.cells #[.string k] 9)) (by rfl) rfl ?_ ?_
    ·go_simp
    obtain ⟨wr2, hW, hvv⟩ : ∃ wr2, wr2 = wr1.alloc (.cells #[.string k] 9) ∧ Hv w0 wr2 (cb wr1.heap.size 9 #[.string k] :: cb wr0.heap.size 33 #[.int .i64 r.1, .int .i64 r.2] :: cb (w.heap.size + 1 + 1) 59 #[.bool false, .int .i64 0, .slice none 0 0, .slice none 0 0] :: cb (w.heap.size + 1) 33 #[.int .i64 r.1, .int .i64 r.2] :: cb w.heap.size 59 #[.bool n.leaf, .int .i64 (wrap64 (n.ver + 1)), .slice ka n.keys.length kc, .slice ra n.refs.length rc] :: L) := ⟨_, rfl, HR1.out.alloc _⟩
    rw [← hW]
    have HR2 := As hvv
    clear hW hvv
    refine hK.out _ _ (SP.out _ _ HR2.out (by simp) (by simp)) (fun hHeld => ?_)
    clear hK K
    refine nm_ ?_
    refine on_ 5 (some 38) fun K hK => ?_
    refine gs_ Try.func97 #[.slice ka n.keys.length kc, .int .i64 (plc k n.keys : Int), .int .i64 0, .slice (some ⟨wr1.heap.size, 0, none⟩) 1 1] ?_
    have hca := splS.calls (w0 := w0) (a1 := some ⟨wr1.heap.size, 0, none⟩) (n1 := 1) (c1 := 1) (ys := [.string k]) HR2.out (HR.out.k.mono (fun p hp => by first | (simp [hp]; done) | (simp [HRL.out p hp]; done))) (Rdy.of_rw (e := 9) (c := 1) ⟨rfl, Nat.le_refl _, fun _ => ⟨wr1.heap.size, 0, _, rfl, (by simp : cb wr1.heap.size 9 #[.string k] ∈ _), fun i _ => by rw [Nat.zero_add]; simp⟩⟩) (kcel_one _) (by intro u hu; simp at hu; subst hu; rfl) HR.out.kc (by have := HO.out.r; have := HO.out.k; omega) (plc k n.keys) 0 (by have := HKR.out.1; have := HKR.out.2; omega)
    refine hca.mono ?_
    clear hca
    rintro e wr3 hq5
    obtain ⟨adk, ck, A3, rfl, hG, hv5⟩ := hq5
    rw [HNR.out.2.2.1] at hG ⊢
    refine ⟨_, rfl, ?_⟩
    have HGk := As hG
    have HR3 := As (show Hv w0 wr3 (A3 ++ (cb wr1.heap.size 9 #[.string k] :: cb wr0.heap.size 33 #[.int .i64 r.1, .int .i64 r.2] :: cb (w.heap.size + 1 + 1) 59 #[.bool false, .int .i64 0, .slice none 0 0, .slice none 0 0] :: cb (w.heap.size + 1) 33 #[.int .i64 r.1, .int .i64 r.2] :: cb w.heap.size 59 #[.bool n.leaf, .int .i64 (wrap64 (n.ver + 1)), .slice ka n.keys.length kc, .slice ra n.refs.length rc] :: L)) from hv5)
    clear hG hv5
    refine hK.out _ _ (SP.out _ _ HR3.out (by simp) (by simp)) (fun hHeld => ?_)
    clear hK K
    refine nm_ ?_
    refine pu_ 12 (some 45) ?_
    refine on_ 11 (some 44) fun K hK => ?_
    refine gs_ Try.func96 #[.slice ra n.refs.length rc, .int .i64 (plc k n.keys : Int), .int .i64 0, .slice (some ⟨wr0.heap.size, 0, none⟩) 1 1] ?_
    have hca := splR.calls (w0 := w0) (a1 := some ⟨wr0.heap.size, 0, none⟩) (n1 := 1) (c1 := 1) (ys := [.int .i64 r.1, .int .i64 r.2]) HR3.out (HR.out.r.mono (fun p hp => by first | (simp [hp]; done) | (simp [HRL.out p hp]; done))) (Rdy.of_rw (e := 33) (c := 1) ⟨rfl, Nat.le_refl _, fun _ => ⟨wr0.heap.size, 0, _, rfl, (by simp : cb wr0.heap.size 33 #[.int .i64 r.1, .int .i64 r.2] ∈ _), fun i _ => by rw [Nat.zero_add]; simp⟩⟩) (rcel_one _) (by intro u hu; simp at hu; rcases hu with rfl | rfl <;> rfl) HR.out.rc (by have := HO.out.r; have := HO.out.k; omega) (plc k n.keys) 0 (by have := HKR.out.1; have := HKR.out.2; omega)
    refine hca.mono ?_
    clear hca
    rintro e wr4 hq5
    obtain ⟨adr, cr, A4, rfl, hG, hv5⟩ := hq5
    rw [HNR.out.2.2.2] at hG ⊢
    refine ⟨_, rfl, ?_⟩
    have HGr := As hG
    have HR4 := As (show Hv w0 wr4 (A4 ++ (A3 ++ (cb wr1.heap.size 9 #[.string k] :: cb wr0.heap.size 33 #[.int .i64 r.1, .int .i64 r.2] :: cb (w.heap.size + 1 + 1) 59 #[.bool false, .int .i64 0, .slice none 0 0, .slice none 0 0] :: cb (w.heap.size + 1) 33 #[.int .i64 r.1, .int .i64 r.2] :: cb w.heap.size 59 #[.bool n.leaf, .int .i64 (wrap64 (n.ver + 1)), .slice ka n.keys.length kc, .slice ra n.refs.length rc] :: L))) from hv5)
    clear hG hv5
    refine hK.out _ _ (SP.out _ _ HR4.out (by simp) (by simp)) (fun hHeld => ?_)
    clear hK K
    refine nm_ ?_
    refine la_ 13 none fun K hK => ?_
    have HS := As (show Hv w0 wr4 ((A4 ++ A3) ++ (cb (w.heap.size + 1 + 1) 59 #[.bool false, .int .i64 0, .slice none 0 0, .slice none 0 0] :: cb (w.heap.size + 1) 33 #[.int .i64 r.1, .int .i64 r.2] :: cb w.heap.size 59 #[.bool n.leaf, .int .i64 (wrap64 (n.ver + 1)), .slice ka n.keys.length kc, .slice ra n.refs.length rc] :: L)) by rw [List.append_assoc]; exact HR4.out.drop (List.Sublist.append_left (List.Sublist.append_left (List.Sublist.cons _ (List.Sublist.cons _ (List.Sublist.refl _))) A3) A4))
    obtain ⟨y0, y1, y2, y3, f0, f1, f2, f3⟩ := HS.out.right.c4 w.heap.size 59 (.bool n.leaf) (.int .i64 (wrap64 (n.ver + 1))) (.slice ka n.keys.length kc) (.slice ra n.refs.length rc) (by simp)
    refine sk_ (hK.out _ _ ?_)
    clear hK K y0 y1 y2 y3 f0 f1 f2 f3
    obtain ⟨wr5, hW, hvv⟩ : ∃ wr5, wr5 = wr4.setCell ⟨w.heap.size, 2, none⟩ (.slice adk nk.length ck) ∧ Hv w0 wr5 ((A4 ++ A3) ++ (cb (w.heap.size + 1 + 1) 59 #[.bool false, .int .i64 0, .slice none 0 0, .slice none 0 0] :: cb (w.heap.size + 1) 33 #[.int .i64 r.1, .int .i64 r.2] :: cb w.heap.size 59 #[.bool n.leaf, .int .i64 (wrap64 (n.ver + 1)), .slice adk nk.length ck, .slice ra n.refs.length rc] :: L)) := ⟨_, rfl, putA2 HS.out 2 _ rfl⟩
    rw [← hW]
    have HR5 := As hvv
    clear hW hvv
    refine pu_ 14 (some 46) ?_
    refine la_ 15 none fun K hK => ?_
    obtain ⟨y0, y1, y2, y3, f0, f1, f2, f3⟩ := HR5.out.right.c4 w.heap.size 59 (.bool n.leaf) (.int .i64 (wrap64 (n.ver + 1))) (.slice adk nk.length ck) (.slice ra n.refs.length rc) (by simp)
    refine sk_ (hK.out _ _ ?_)
    clear hK K y0 y1 y2 y3 f0 f1 f2 f3
    obtain ⟨wr6, hW, hvv⟩ : ∃ wr6, wr6 = wr5.setCell ⟨w.heap.size, 3, none⟩ (.slice adr nr.length cr) ∧ Hv w0 wr6 ((A4 ++ A3) ++ (cb (w.heap.size + 1 + 1) 59 #[.bool false, .int .i64 0, .slice none 0 0, .slice none 0 0] :: cb (w.heap.size + 1) 33 #[.int .i64 r.1, .int .i64 r.2] :: cb w.heap.size 59 #[.bool n.leaf, .int .i64 (wrap64 (n.ver + 1)), .slice adk nk.length ck, .slice adr nr.length cr] :: L)) := ⟨_, rfl, putA2 HR5.out 3 _ rfl⟩
    rw [← hW]
    have HR6 := As hvv
    clear hW hvv
    refine done_ (by kernel_rfl) ?_
    obtain ⟨y0, y1, y2, y3, f0, f1, f2, f3⟩ := HR6.out.right.c4 w.heap.size 59 (.bool n.leaf) (.int .i64 (wrap64 (n.ver + 1))) (.slice adk nk.length ck) (.slice adr nr.length cr) (by simp)
    obtain ⟨q0, q1, q2, q3, g0, g1, g2, g3⟩ := HR6.out.right.c4 (w.heap.size + 1 + 1) 59 (.bool false) (.int .i64 0) (.slice none 0 0) (.slice none 0 0) List.mem_cons_self
    go_wp2_with fail
    have hgk : Gr 9 1 (.slice adk nk.length ck) nk.length (nk.map Value.string) A3 := by
     have h9 := HGk.out
     rw [HNR.out.1] at h9 ⊢
     simpa using h9
    have hgr : Gr 33 2 (.slice adr nr.length cr) nr.length (nr.flatMap rcel) A4 := by
     have h9 := HGr.out
     rw [Nat.add_zero, rcel_take, rcel_drop] at h9
     rw [HNR.out.2.1] at h9 ⊢
     simpa [List.flatMap_append, rcel] using h9
    have HGR := As (And.intro hgk hgr)
    clear hgk hgr
    obtain ⟨wg, hw, hg⟩ : ∃ wg, wg = _ ∧ Hv w0 wg ((A4 ++ A3) ++ (cb (w.heap.size + 1 + 1) 59 #[.bool n.leaf, .int .i64 (wrap64 (n.ver + 1)), .slice adk nk.length ck, .slice adr nr.length cr] :: cb (w.heap.size + 1) 33 #[.int .i64 r.1, .int .i64 r.2] :: cb w.heap.size 59 #[.bool n.leaf, .int .i64 (wrap64 (n.ver + 1)), .slice adk nk.length ck, .slice adr nr.length cr] :: L)) := ⟨_, rfl, ((((HR6.out.putA0 0 (.bool n.leaf) rfl).putA0 1 (.int .i64 (wrap64 (n.ver + 1))) rfl).putA0 2 (.slice adk nk.length ck) rfl).putA0 3 (.slice adr nr.length cr) rfl)⟩
    rw [← hw]
    obtain ⟨e0, e1, e2, e3, -, -, -, -⟩ := hg.right.c4 (w.heap.size + 1 + 1) 59 (.bool n.leaf) (.int .i64 (wrap64 (n.ver + 1))) (.slice adk nk.length ck) (.slice adr nr.length cr) List.mem_cons_self
    exact bodyPost_ret (v := .tuple #[.agg #[.bool n.leaf, .int .i64 (wrap64 (n.ver + 1)), .slice adk nk.length ck, .slice adr nr.length cr], .bool true]) (by simp [results, Try.results42, go_sem, e0, e1, e2, e3, hu59]) rfl ⟨_, (A4 ++ A3), by rw [HF.out] <;> rfl, by rw [HF.out, ← HNR.out.1, ← HNR.out.2.1]; exact ⟨adk, ck, adr, cr, rfl, (Rdy.of_rw (Rw.of_gr HGR.out.1)).mono (fun p hp => by first | (simp [hp]; done) | (simp [HRL.out p hp]; done)), (Rdy.of_rw (Rw.of_gr HGR.out.2)).mono (fun p hp => by first | (simp [hp]; done) | (simp [HRL.out p hp]; done)), (Rw.of_gr HGR.out.1).2.1, (Rw.of_gr HGR.out.2).2.1⟩, hg.drop (List.Sublist.append_left ((List.sublist_cons_self _ _).trans ((List.sublist_cons_self _ _).trans (List.sublist_cons_self _ _))) (A4 ++ A3))⟩
  ·have HF := As (show n.put k r = ({ n with ver := wrap64 (n.ver + 1), refs := n.refs.take (plc k n.keys) ++ [r] ++ n.refs.drop (plc k n.keys + 1) }, false) by unfold Nd.put; rw [hb, hq]; rfl)
   go_enter Try.func42, Try.ntmps42
   go_upto_region 4 with (first | (go_at_call 94; go_loud (refine (leaf.calls HV.out n.leaf n.ver ka ra n.keys.length kc n.refs.length rc HB.out).mono ?_); rw [hb]; rintro e2 w2 ⟨rfl, h2⟩; have H2 := As h2; clear y0 y1 y2 y3 f0 f1 f2 f3 t0 t1 q0 q1 q2 q3 g0 g1 g2 g3; obtain ⟨y0, y1, y2, y3, f0, f1, f2, f3⟩ := h2.c4 w.heap.size 59 (.bool n.leaf) (.int .i64 n.ver) (.slice ka n.keys.length kc) (.slice ra n.refs.length rc) (by simp); obtain ⟨t0, t1, -, -⟩ := h2.c2 (w.heap.size + 1) 33 (.int .i64 r.1) (.int .i64 r.2) (by simp); obtain ⟨q0, q1, q2, q3, g0, g1, g2, g3⟩ := h2.c4 (w.heap.size + 1 + 1) 59 (.bool false) (.int .i64 0) (.slice none 0 0) (.slice none 0 0) (by simp); clear h2) | (go_at_call 38; go_loud (refine (find.calls H2.out HN.out HO.out k).mono ?_); rw [hff, hq]; rintro e3 w3 ⟨rfl, h3⟩; have H3 := As h3; clear y0 y1 y2 y3 f0 f1 f2 f3 t0 t1 q0 q1 q2 q3 g0 g1 g2 g3; obtain ⟨y0, y1, y2, y3, f0, f1, f2, f3⟩ := h3.c4 w.heap.size 59 (.bool n.leaf) (.int .i64 n.ver) (.slice ka n.keys.length kc) (.slice ra n.refs.length rc) (by simp); obtain ⟨t0, t1, -, -⟩ := h3.c2 (w.heap.size + 1) 33 (.int .i64 r.1) (.int .i64 r.2) (by simp); obtain ⟨q0, q1, q2, q3, g0, g1, g2, g3⟩ := h3.c4 (w.heap.size + 1 + 1) 59 (.bool false) (.int .i64 0) (.slice none 0 0) (.slice none 0 0) (by simp); clear h3))
   go_upto_region 5 with (fail)
   obtain ⟨W4, hW, hv4⟩ : ∃ W4, W4 = w3.setCell ⟨w.heap.size, 1, none⟩ (.int .i64 (wrap64 (n.ver + 1))) ∧ Hv w0 W4 (cb (w.heap.size + 1 + 1) 59 #[.bool false, .int .i64 0, .slice none 0 0, .slice none 0 0] :: cb (w.heap.size + 1) 33 #[.int .i64 r.1, .int .i64 r.2] :: cb w.heap.size 59 #[.bool n.leaf, .int .i64 (wrap64 (n.ver + 1)), .slice ka n.keys.length kc, .slice ra n.refs.length rc] :: L) := ⟨_, rfl, H3.out.put2 1 _ rfl⟩
   rw [← hW]
   have H4 := As hv4
   clear y0 y1 y2 y3 f0 f1 f2 f3 t0 t1 q0 q1 q2 q3 g0 g1 g2 g3
   clear hW
   obtain ⟨y0, y1, y2, y3, f0, f1, f2, f3⟩ := hv4.c4 w.heap.size 59 (.bool n.leaf) (.int .i64 (wrap64 (n.ver + 1))) (.slice ka n.keys.length kc) (.slice ra n.refs.length rc) (by simp)
   obtain ⟨t0, t1, -, -⟩ := hv4.c2 (w.heap.size + 1) 33 (.int .i64 r.1) (.int .i64 r.2) (by simp)
   obtain ⟨q0, q1, q2, q3, g0, g1, g2, g3⟩ := hv4.c4 (w.heap.size + 1 + 1) 59 (.bool false) (.int .i64 0) (.slice none 0 0) (.slice none 0 0) (by simp)
   clear hv4
   obtain ⟨nr, hnr⟩ : ∃ nr, nr = n.refs.take (plc k n.keys) ++ [r] ++ n.refs.drop (plc k n.keys + 1) := ⟨_, rfl⟩
   have hp := fnd_lt hq
   rw [HKR.out.1] at hp
   have hlen : plc k n.keys + 1 + (n.refs.length - (plc k n.keys + 1)) = nr.length := by rw [hnr]; simp; omega
   have HNR := As (And.intro hnr hlen)
   have h5 := H4.out.alloc (.cells #[.int .i64 r.1, .int .i64 r.2] 33)
   have HX := As (splR.calls (w0 := w0) (a1 := some ⟨W4.heap.size, 0, none⟩) (n1 := 1) (c1 := 1) (ys := [.int .i64 r.1, .int .i64 r.2]) h5 (HR.out.r.mono (fun p hp => by first | (simp [hp]; done) | (simp [HRL.out p hp]; done))) (Rdy.of_rw (e := 33) (c := 1) ⟨rfl, Nat.le_refl _, fun _ => ⟨W4.heap.size, 0, _, rfl, List.mem_cons_self, fun i _ => by rw [Nat.zero_add]; simp⟩⟩) (rcel_one _) (by intro u hu; simp at hu; rcases hu with rfl | rfl <;> rfl) HR.out.rc (by have := HO.out.r; omega) (plc k n.keys) 1 (by omega))
   clear hp hlen h5 hnr
   go_wp2_with (go_at_call 96; go_loud (refine HX.out.mono ?_); rintro e5 w5 hq5; obtain ⟨ad, c, A, rfl, hG, hv5⟩ := hq5; rw [HNR.out.2] at hG ⊢; have HG := As hG; have H5 := As (hv5.drop (L' := A ++ (cb (w.heap.size + 1 + 1) 59 #[.bool false, .int .i64 0, .slice none 0 0, .slice none 0 0] :: cb (w.heap.size + 1) 33 #[.int .i64 r.1, .int .i64 r.2] :: cb w.heap.size 59 #[.bool n.leaf, .int .i64 (wrap64 (n.ver + 1)), .slice ka n.keys.length kc, .slice ra n.refs.length rc] :: L)) (List.Sublist.append_left (List.sublist_cons_self _ _) A)); clear hG hv5; clear y0 y1 y2 y3 f0 f1 f2 f3 t0 t1 q0 q1 q2 q3 g0 g1 g2 g3; obtain ⟨y0, y1, y2, y3, f0, f1, f2, f3⟩ := H5.out.right.c4 w.heap.size 59 (.bool n.leaf) (.int .i64 (wrap64 (n.ver + 1))) (.slice ka n.keys.length kc) (.slice ra n.refs.length rc) (by simp); obtain ⟨q0, q1, q2, q3, g0, g1, g2, g3⟩ := H5.out.right.c4 (w.heap.size + 1 + 1) 59 (.bool false) (.int .i64 0) (.slice none 0 0) (.slice none 0 0) List.mem_cons_self)
   have hgr : Gr 33 2 (.slice ad nr.length c) nr.length (nr.flatMap rcel) A := by
    have h9 := HG.out
    rw [rcel_take, rcel_drop] at h9
    rw [HNR.out.1] at h9 ⊢
    simpa [List.flatMap_append, rcel] using h9
   have HGR := As hgr
   clear hgr
   obtain ⟨wg, hw, hg⟩ : ∃ wg, wg = _ ∧ Hv w0 wg (A ++ (cb (w.heap.size + 1 + 1) 59 #[.bool n.leaf, .int .i64 (wrap64 (n.ver + 1)), .slice ka n.keys.length kc, .slice ad nr.length c] :: cb (w.heap.size + 1) 33 #[.int .i64 r.1, .int .i64 r.2] :: cb w.heap.size 59 #[.bool n.leaf, .int .i64 (wrap64 (n.ver + 1)), .slice ka n.keys.length kc, .slice ad nr.length c] :: L)) := ⟨_, rfl, (((((putA2 H5.out 3 (.slice ad nr.length c) rfl).putA0 0 (.bool n.leaf) rfl).putA0 1 (.int .i64 (wrap64 (n.ver + 1))) rfl).putA0 2 (.slice ka n.keys.length kc) rfl).putA0 3 (.slice ad nr.length c) rfl)⟩
   rw [← hw]
   obtain ⟨e0, e1, e2, e3, -, -, -, -⟩ := hg.right.c4 (w.heap.size + 1 + 1) 59 (.bool n.leaf) (.int .i64 (wrap64 (n.ver + 1))) (.slice ka n.keys.length kc) (.slice ad nr.length c) List.mem_cons_self
   exact bodyPost_ret (v := .tuple #[.agg #[.bool n.leaf, .int .i64 (wrap64 (n.ver + 1)), .slice ka n.keys.length kc, .slice ad nr.length c], .bool false]) (by simp [results, Try.results42, go_sem, e0, e1, e2, e3, hu59]) rfl ⟨_, A, by rw [HF.out] <;> rfl, by rw [HF.out, ← HNR.out.1]; exact ⟨ka, kc, ad, c, rfl, HR.out.k.mono (fun p hp => List.mem_append_right A hp), (Rdy.of_rw (Rw.of_gr HGR.out)).mono (fun p hp => List.mem_append_left R hp), HR.out.kc, (Rw.of_gr HGR.out).2.1⟩, hg.drop (List.Sublist.append_left ((List.sublist_cons_self _ _).trans ((List.sublist_cons_self _ _).trans (List.sublist_cons_self _ _))) A)⟩
end
section
variable {w0 w w1 : World} {g : Nat} {L L' R : List Ob}
def Nd.remove (n : Nd) (i : Int) : Nd :=
 if n.kid i then { n with ver := wrap64 (n.ver + 1), keys := if n.keys.length = 0 then n.keys else n.keys.take (i.toNat - 1) ++ n.keys.drop (i.toNat - 1 + 1), refs := n.refs.take i.toNat ++ n.refs.drop (i.toNat + 1) } else n
theorem kid_facts {n : Nd} {i : Int} (h : n.kid i = true) : n.leaf = false ∧ n.keys.length + 1 = n.refs.length ∧ 0 ≤ i ∧ i < n.refs.length := by
 unfold Nd.kid Nd.shape shp at h
 simp only [Bool.and_eq_true, Bool.not_eq_true', decide_eq_true_eq] at h
 obtain ⟨⟨⟨h1, h2⟩, h3⟩, h4⟩ := h
 rw [h1] at h2
 simp at h2
 exact ⟨h1, h2.2, h3, h4⟩
def NodeP (w0 : World) (R L : List Ob) (n : Nd) (e : Ending) (w' : World) : Prop := ∃ v A, e = .returned v ∧ NV w0 (A ++ R) n v ∧ Hv w0 w' (A ++ L)
theorem remove.calls (hv : Hv w0 w L) (hRL : ∀ p ∈ R, p ∈ L) {n : Nd} {v : Value} (hn : NV w0 R n v) (ho : Ok n) (i : Int) :
  Calls Try.prog 49 #[v, .int .i64 i] w (NodeP w0 R L (n.remove i)) := by
 have hu59 := Try.underlying59
 have hu57 := Try.underlying57
 have hu31 := Try.underlying31
 obtain ⟨ka, kc, ra, rc, rfl, hr⟩ := hn
 have HRL := As hRL
 clear hRL
 have HV := As (show Hv w0 _ (cb (w.heap.size + 1) 59 #[.bool false, .int .i64 0, .slice none 0 0, .slice none 0 0] :: cb w.heap.size 59 #[.bool n.leaf, .int .i64 n.ver, .slice ka n.keys.length kc, .slice ra n.refs.length rc] :: L) by
  have := (hv.alloc (.cells #[.bool n.leaf, .int .i64 n.ver, .slice ka n.keys.length kc, .slice ra n.refs.length rc] 59)).alloc (.cells #[.bool false, .int .i64 0, .slice none 0 0, .slice none 0 0] 59)
  simpa [cb] using this)
 have HR := As hr
 have HO := As ho
 have HB := As (show n.refs.length < 4611686018427387904 by have := ho.r; omega)
 clear hv hr ho
 obtain ⟨y0, y1, y2, y3, f0, f1, f2, f3⟩ := HV.out.c4 w.heap.size 59 (.bool n.leaf) (.int .i64 n.ver) (.slice ka n.keys.length kc) (.slice ra n.refs.length rc) (by simp)
 obtain ⟨q0, q1, q2, q3, g0, g1, g2, g3⟩ := HV.out.c4 (w.heap.size + 1) 59 (.bool false) (.int .i64 0) (.slice none 0 0) (.slice none 0 0) (by simp)
 unfold nval at *
 have ew : IntKind.i64.wrap (n.ver + 1) = wrap64 (n.ver + 1) := i64_w _
 cases hk : n.kid i
 ·have HF := As (show n.remove i = n by unfold Nd.remove; rw [hk]; rfl)
  go_enter Try.func49, Try.ntmps49
  go_wp2_with (go_at_call 103; go_loud (refine (kid.calls HV.out n ka ra kc rc i HB.out).mono ?_); rw [hk]; rintro e2 w2 ⟨rfl, h2⟩; have H2 := As h2; clear y0 y1 y2 y3 f0 f1 f2 f3 q0 q1 q2 q3 g0 g1 g2 g3; obtain ⟨y0, y1, y2, y3, f0, f1, f2, f3⟩ := h2.c4 w.heap.size 59 (.bool n.leaf) (.int .i64 n.ver) (.slice ka n.keys.length kc) (.slice ra n.refs.length rc) (by simp); obtain ⟨q0, q1, q2, q3, g0, g1, g2, g3⟩ := h2.c4 (w.heap.size + 1) 59 (.bool false) (.int .i64 0) (.slice none 0 0) (.slice none 0 0) (by simp); clear h2)
  obtain ⟨wg, hw, hg⟩ : ∃ wg, wg = _ ∧ Hv w0 wg ([] ++ (cb (w.heap.size + 1) 59 #[.bool n.leaf, .int .i64 n.ver, .slice ka n.keys.length kc, .slice ra n.refs.length rc] :: cb w.heap.size 59 #[.bool n.leaf, .int .i64 n.ver, .slice ka n.keys.length kc, .slice ra n.refs.length rc] :: L)) := ⟨_, rfl, (((((show Hv w0 w2 ([] ++ (cb (w.heap.size + 1) 59 #[.bool false, .int .i64 0, .slice none 0 0, .slice none 0 0] :: cb w.heap.size 59 #[.bool n.leaf, .int .i64 n.ver, .slice ka n.keys.length kc, .slice ra n.refs.length rc] :: L)) from H2.out).putA0 0 (.bool n.leaf) rfl).putA0 1 (.int .i64 n.ver) rfl).putA0 2 (.slice ka n.keys.length kc) rfl).putA0 3 (.slice ra n.refs.length rc) rfl)⟩
  rw [← hw]
  obtain ⟨e0, e1, e2, e3, -, -, -, -⟩ := hg.right.c4 (w.heap.size + 1) 59 (.bool n.leaf) (.int .i64 n.ver) (.slice ka n.keys.length kc) (.slice ra n.refs.length rc) List.mem_cons_self
  exact bodyPost_ret (v := .agg #[.bool n.leaf, .int .i64 n.ver, .slice ka n.keys.length kc, .slice ra n.refs.length rc]) (by simp [results, Try.results49, go_sem, e0, e1, e2, e3, hu59]) rfl ⟨_, [], rfl, ⟨ka, kc, ra, rc, by rw [HF.out]; rfl, by rw [HF.out]; exact HR.out⟩, hg.drop (List.Sublist.append_left ((List.sublist_cons_self _ _).trans (List.sublist_cons_self _ _)) [])⟩
 ·obtain ⟨hlf, hkr, hi0, hi1⟩ := kid_facts hk
  obtain ⟨j, rfl⟩ : ∃ j : Nat, i = j := ⟨i.toNat, by omega⟩
  obtain ⟨nr, hnr⟩ : ∃ nr, nr = n.refs.take j ++ n.refs.drop (j + 1) := ⟨_, rfl⟩
  have hjl : j + 1 ≤ n.refs.length := by omega
  have hlr : j + 0 + (n.refs.length - (j + 1)) = nr.length := by rw [hnr]; simp; omega
  have HNR := As (And.intro hnr hlr)
  have HN := As (show n.refs.length + 0 < 4000000000000 ∧ j + 1 ≤ n.refs.length ∧ n.keys.length + 0 < 4000000000000 ∧ (n.keys.length ≠ 0 → j - 1 + 1 ≤ n.keys.length) from ⟨by have := HO.out.r; omega, hjl, by have := HO.out.k; omega, by intro h; omega⟩)
  by_cases h0 : n.keys.length = 0
  ·have HF := As (show n.remove (j : Int) = { n with ver := wrap64 (n.ver + 1), refs := n.refs.take j ++ n.refs.drop (j + 1) } by unfold Nd.remove; rw [if_pos hk, if_pos h0, Int.toNat_natCast])
   have hg0 : ¬ ((n.keys.length : Int) > 0) := by omega
   clear hlf hkr hi0 hi1 hjl hlr hnr h0
   go_enter Try.func49, Try.ntmps49
   go_wp2_with (first | (go_at_call 103; go_loud (refine (kid.calls HV.out n ka ra kc rc j HB.out).mono ?_); rw [hk]; rintro e2 w2 ⟨rfl, h2⟩; have H2 := As h2; clear y0 y1 y2 y3 f0 f1 f2 f3 q0 q1 q2 q3 g0 g1 g2 g3; obtain ⟨y0, y1, y2, y3, f0, f1, f2, f3⟩ := h2.c4 w.heap.size 59 (.bool n.leaf) (.int .i64 n.ver) (.slice ka n.keys.length kc) (.slice ra n.refs.length rc) (by simp); obtain ⟨q0, q1, q2, q3, g0, g1, g2, g3⟩ := h2.c4 (w.heap.size + 1) 59 (.bool false) (.int .i64 0) (.slice none 0 0) (.slice none 0 0) (by simp); clear h2) | (go_at_call 96; go_loud (refine (splR.calls (w0 := w0) (a1 := none) (n1 := 0) (c1 := 0) (ys := []) H2.out (HR.out.r.mono (fun p hp => by first | (simp [hp]; done) | (simp [HRL.out p hp]; done))) (Rdy.nil 2 none) (rcel_one _) (by intro u hu; cases hu) HR.out.rc HN.out.1 j 1 HN.out.2.1).mono ?_); rintro e5 w5 hq5; obtain ⟨ad, c, A, rfl, hG, hv5⟩ := hq5; rw [HNR.out.2] at hG ⊢; have HG := As hG; have H5 := As hv5; clear hG hv5; clear y0 y1 y2 y3 f0 f1 f2 f3 q0 q1 q2 q3 g0 g1 g2 g3; obtain ⟨y0, y1, y2, y3, f0, f1, f2, f3⟩ := H5.out.right.c4 w.heap.size 59 (.bool n.leaf) (.int .i64 n.ver) (.slice ka n.keys.length kc) (.slice ra n.refs.length rc) (by simp); obtain ⟨q0, q1, q2, q3, g0, g1, g2, g3⟩ := H5.out.right.c4 (w.heap.size + 1) 59 (.bool false) (.int .i64 0) (.slice none 0 0) (.slice none 0 0) (by simp)))
   have hgr : Gr 33 2 (.slice ad nr.length c) nr.length (nr.flatMap rcel) A := by
    have h9 := HG.out
    rw [rcel_take, rcel_drop] at h9
    rw [HNR.out.1] at h9 ⊢
    simpa [List.flatMap_append, rcel] using h9
   have HGR := As hgr
   clear hgr
   obtain ⟨wg, hw, hg⟩ : ∃ wg, wg = _ ∧ Hv w0 wg (A ++ (cb (w.heap.size + 1) 59 #[.bool n.leaf, .int .i64 (wrap64 (n.ver + 1)), .slice ka n.keys.length kc, .slice ad nr.length c] :: cb w.heap.size 59 #[.bool n.leaf, .int .i64 (wrap64 (n.ver + 1)), .slice ka n.keys.length kc, .slice ad nr.length c] :: L)) := ⟨_, rfl, (((((Hv.putA1 (Hv.putA1 H5.out 3 (.slice ad nr.length c) rfl) 1 (.int .i64 (wrap64 (n.ver + 1))) rfl).putA0 0 (.bool n.leaf) rfl).putA0 1 (.int .i64 (wrap64 (n.ver + 1))) rfl).putA0 2 (.slice ka n.keys.length kc) rfl).putA0 3 (.slice ad nr.length c) rfl)⟩
   rw [← hw]
   obtain ⟨e0, e1, e2, e3, -, -, -, -⟩ := hg.right.c4 (w.heap.size + 1) 59 (.bool n.leaf) (.int .i64 (wrap64 (n.ver + 1))) (.slice ka n.keys.length kc) (.slice ad nr.length c) List.mem_cons_self
   exact bodyPost_ret (v := .agg #[.bool n.leaf, .int .i64 (wrap64 (n.ver + 1)), .slice ka n.keys.length kc, .slice ad nr.length c]) (by simp [results, Try.results49, go_sem, e0, e1, e2, e3, hu59]) rfl ⟨_, A, rfl, ⟨ka, kc, ad, c, by rw [HF.out, ← HNR.out.1]; rfl, by rw [HF.out, ← HNR.out.1]; exact ⟨HR.out.k.mono (fun p hp => List.mem_append_right A hp), (Rdy.of_rw (Rw.of_gr HGR.out)).mono (fun p hp => List.mem_append_left R hp), HR.out.kc, (Rw.of_gr HGR.out).2.1⟩⟩, hg.drop (List.Sublist.append_left ((List.sublist_cons_self _ _).trans (List.sublist_cons_self _ _)) A)⟩
  ·have HF := As (show n.remove (j : Int) = { n with ver := wrap64 (n.ver + 1), keys := n.keys.take (j - 1) ++ n.keys.drop (j - 1 + 1), refs := n.refs.take j ++ n.refs.drop (j + 1) } by unfold Nd.remove; rw [if_pos hk, if_neg h0, Int.toNat_natCast])
   have hg0 : (n.keys.length : Int) > 0 := by omega
   obtain ⟨nk, hnk⟩ : ∃ nk, nk = n.keys.take (j - 1) ++ n.keys.drop (j - 1 + 1) := ⟨_, rfl⟩
   have hlk : j - 1 + 0 + (n.keys.length - (j - 1 + 1)) = nk.length := by rw [hnk]; simp; omega
   have HNK := As (And.intro hnk hlk)
   replace HN := As (And.intro HN.out.1 (And.intro HN.out.2.1 (And.intro HN.out.2.2.1 (HN.out.2.2.2 h0))))
   obtain ⟨z, hz⟩ : ∃ z, z = (j : Int) - 1 := ⟨_, rfl⟩
   have hj1 : wrap64 ((j : Int) - 1) = z := by have := HO.out.r; unfold wrap64; omega
   have hj2 : IntKind.i64.wrap ((j : Int) - 1) = z := by rw [i64_w]; exact hj1
   clear hlf hkr hi0 hi1 hjl hlr hnr h0 hnk hlk
   by_cases hz0 : z > 0
   ·have HZ := As (show z = ((j - 1 : Nat) : Int) by omega)
    clear hz
    go_enter Try.func49, Try.ntmps49
    go_wp2_with (first | (go_at_call 103; go_loud (refine (kid.calls HV.out n ka ra kc rc j HB.out).mono ?_); rw [hk]; rintro e2 w2 ⟨rfl, h2⟩; have H2 := As h2; clear y0 y1 y2 y3 f0 f1 f2 f3 q0 q1 q2 q3 g0 g1 g2 g3; obtain ⟨y0, y1, y2, y3, f0, f1, f2, f3⟩ := h2.c4 w.heap.size 59 (.bool n.leaf) (.int .i64 n.ver) (.slice ka n.keys.length kc) (.slice ra n.refs.length rc) (by simp); obtain ⟨q0, q1, q2, q3, g0, g1, g2, g3⟩ := h2.c4 (w.heap.size + 1) 59 (.bool false) (.int .i64 0) (.slice none 0 0) (.slice none 0 0) (by simp); clear h2) | (go_at_call 96; go_loud (refine (splR.calls (w0 := w0) (a1 := none) (n1 := 0) (c1 := 0) (ys := []) H2.out (HR.out.r.mono (fun p hp => by first | (simp [hp]; done) | (simp [HRL.out p hp]; done))) (Rdy.nil 2 none) (rcel_one _) (by intro u hu; cases hu) HR.out.rc HN.out.1 j 1 HN.out.2.1).mono ?_); rintro e5 w5 hq5; obtain ⟨ad, c, A, rfl, hG, hv5⟩ := hq5; rw [HNR.out.2] at hG ⊢; have HG := As hG; have H5 := As hv5; clear hG hv5; clear y0 y1 y2 y3 f0 f1 f2 f3 q0 q1 q2 q3 g0 g1 g2 g3; obtain ⟨y0, y1, y2, y3, f0, f1, f2, f3⟩ := H5.out.right.c4 w.heap.size 59 (.bool n.leaf) (.int .i64 n.ver) (.slice ka n.keys.length kc) (.slice ra n.refs.length rc) (by simp); obtain ⟨q0, q1, q2, q3, g0, g1, g2, g3⟩ := H5.out.right.c4 (w.heap.size + 1) 59 (.bool false) (.int .i64 0) (.slice none 0 0) (.slice none 0 0) (by simp)) | (go_at_call 97; rw [HZ.out]; go_loud (refine (splS.calls (w0 := w0) (a1 := none) (n1 := 0) (c1 := 0) (ys := []) (Hv.putA1 H5.out 3 (.slice ad nr.length c) rfl) (HR.out.k.mono (fun p hp => by first | (simp [hp]; done) | (simp [HRL.out p hp]; done))) (Rdy.nil 1 none) (kcel_one _) (by intro u hu; cases hu) HR.out.kc HN.out.2.2.1 (j - 1) 1 HN.out.2.2.2).mono ?_); rintro e6 w6 hq6; obtain ⟨ak, ck, A2, rfl, hG, hv6⟩ := hq6; rw [HNK.out.2] at hG ⊢; have HG2 := As hG; have H6 := As (show Hv w0 w6 ((A2 ++ A) ++ (cb (w.heap.size + 1) 59 #[.bool false, .int .i64 0, .slice none 0 0, .slice none 0 0] :: cb w.heap.size 59 #[.bool n.leaf, .int .i64 n.ver, .slice ka n.keys.length kc, .slice ad nr.length c] :: L)) by rw [List.append_assoc]; exact hv6); clear hG hv6; clear y0 y1 y2 y3 f0 f1 f2 f3 q0 q1 q2 q3 g0 g1 g2 g3; obtain ⟨y0, y1, y2, y3, f0, f1, f2, f3⟩ := H6.out.right.c4 w.heap.size 59 (.bool n.leaf) (.int .i64 n.ver) (.slice ka n.keys.length kc) (.slice ad nr.length c) (by simp); obtain ⟨q0, q1, q2, q3, g0, g1, g2, g3⟩ := H6.out.right.c4 (w.heap.size + 1) 59 (.bool false) (.int .i64 0) (.slice none 0 0) (.slice none 0 0) (by simp)))
    have hgr : Gr 33 2 (.slice ad nr.length c) nr.length (nr.flatMap rcel) A := by
     have h9 := HG.out
     rw [rcel_take, rcel_drop] at h9
     rw [HNR.out.1] at h9 ⊢
     simpa [List.flatMap_append, rcel] using h9
    have HGR := As hgr
    clear hgr
    have hgk : Gr 9 1 (.slice ak nk.length ck) nk.length (nk.map Value.string) A2 := by
     have h9 := HG2.out
     rw [HNK.out.1] at h9 ⊢
     simpa using h9
    have HGK := As hgk
    clear hgk
    obtain ⟨wg, hw, hg⟩ : ∃ wg, wg = _ ∧ Hv w0 wg ((A2 ++ A) ++ (cb (w.heap.size + 1) 59 #[.bool n.leaf, .int .i64 (wrap64 (n.ver + 1)), .slice ak nk.length ck, .slice ad nr.length c] :: cb w.heap.size 59 #[.bool n.leaf, .int .i64 (wrap64 (n.ver + 1)), .slice ak nk.length ck, .slice ad nr.length c] :: L)) := ⟨_, rfl, (((((Hv.putA1 (Hv.putA1 H6.out 2 (.slice ak nk.length ck) rfl) 1 (.int .i64 (wrap64 (n.ver + 1))) rfl).putA0 0 (.bool n.leaf) rfl).putA0 1 (.int .i64 (wrap64 (n.ver + 1))) rfl).putA0 2 (.slice ak nk.length ck) rfl).putA0 3 (.slice ad nr.length c) rfl)⟩
    rw [← hw]
    obtain ⟨e0, e1, e2, e3, -, -, -, -⟩ := hg.right.c4 (w.heap.size + 1) 59 (.bool n.leaf) (.int .i64 (wrap64 (n.ver + 1))) (.slice ak nk.length ck) (.slice ad nr.length c) List.mem_cons_self
    exact bodyPost_ret (v := .agg #[.bool n.leaf, .int .i64 (wrap64 (n.ver + 1)), .slice ak nk.length ck, .slice ad nr.length c]) (by simp [results, Try.results49, go_sem, e0, e1, e2, e3, hu59]) rfl ⟨_, (A2 ++ A), rfl, ⟨ak, ck, ad, c, by rw [HF.out, ← HNR.out.1, ← HNK.out.1]; rfl, by rw [HF.out, ← HNR.out.1, ← HNK.out.1]; exact ⟨(Rdy.of_rw (Rw.of_gr HGK.out)).mono (fun p hp => by first | (simp [hp]; done) | (simp [HRL.out p hp]; done)), (Rdy.of_rw (Rw.of_gr HGR.out)).mono (fun p hp => by first | (simp [hp]; done) | (simp [HRL.out p hp]; done)), (Rw.of_gr HGK.out).2.1, (Rw.of_gr HGR.out).2.1⟩⟩, hg.drop (List.Sublist.append_left ((List.sublist_cons_self _ _).trans (List.sublist_cons_self _ _)) (A2 ++ A))⟩
   ·have HJ := As (show j - 1 = 0 by omega)
    clear hz
    have hF := HF.out
    have hN := HN.out
    have hK := HNK.out
    rw [HJ.out] at hF hN hK
    replace HF := As hF
    replace HN := As hN
    replace HNK := As hK
    clear hF hN hK
    go_enter Try.func49, Try.ntmps49
    go_wp2_with (first | (go_at_call 103; go_loud (refine (kid.calls HV.out n ka ra kc rc j HB.out).mono ?_); rw [hk]; rintro e2 w2 ⟨rfl, h2⟩; have H2 := As h2; clear y0 y1 y2 y3 f0 f1 f2 f3 q0 q1 q2 q3 g0 g1 g2 g3; obtain ⟨y0, y1, y2, y3, f0, f1, f2, f3⟩ := h2.c4 w.heap.size 59 (.bool n.leaf) (.int .i64 n.ver) (.slice ka n.keys.length kc) (.slice ra n.refs.length rc) (by simp); obtain ⟨q0, q1, q2, q3, g0, g1, g2, g3⟩ := h2.c4 (w.heap.size + 1) 59 (.bool false) (.int .i64 0) (.slice none 0 0) (.slice none 0 0) (by simp); clear h2) | (go_at_call 96; go_loud (refine (splR.calls (w0 := w0) (a1 := none) (n1 := 0) (c1 := 0) (ys := []) H2.out (HR.out.r.mono (fun p hp => by first | (simp [hp]; done) | (simp [HRL.out p hp]; done))) (Rdy.nil 2 none) (rcel_one _) (by intro u hu; cases hu) HR.out.rc HN.out.1 j 1 HN.out.2.1).mono ?_); rintro e5 w5 hq5; obtain ⟨ad, c, A, rfl, hG, hv5⟩ := hq5; rw [HNR.out.2] at hG ⊢; have HG := As hG; have H5 := As hv5; clear hG hv5; clear y0 y1 y2 y3 f0 f1 f2 f3 q0 q1 q2 q3 g0 g1 g2 g3; obtain ⟨y0, y1, y2, y3, f0, f1, f2, f3⟩ := H5.out.right.c4 w.heap.size 59 (.bool n.leaf) (.int .i64 n.ver) (.slice ka n.keys.length kc) (.slice ra n.refs.length rc) (by simp); obtain ⟨q0, q1, q2, q3, g0, g1, g2, g3⟩ := H5.out.right.c4 (w.heap.size + 1) 59 (.bool false) (.int .i64 0) (.slice none 0 0) (.slice none 0 0) (by simp)) | (go_at_call 97; go_loud (refine (splS.calls (w0 := w0) (a1 := none) (n1 := 0) (c1 := 0) (ys := []) (Hv.putA1 H5.out 3 (.slice ad nr.length c) rfl) (HR.out.k.mono (fun p hp => by first | (simp [hp]; done) | (simp [HRL.out p hp]; done))) (Rdy.nil 1 none) (kcel_one _) (by intro u hu; cases hu) HR.out.kc HN.out.2.2.1 0 1 HN.out.2.2.2).mono ?_); rintro e6 w6 hq6; obtain ⟨ak, ck, A2, rfl, hG, hv6⟩ := hq6; rw [HNK.out.2] at hG ⊢; have HG2 := As hG; have H6 := As (show Hv w0 w6 ((A2 ++ A) ++ (cb (w.heap.size + 1) 59 #[.bool false, .int .i64 0, .slice none 0 0, .slice none 0 0] :: cb w.heap.size 59 #[.bool n.leaf, .int .i64 n.ver, .slice ka n.keys.length kc, .slice ad nr.length c] :: L)) by rw [List.append_assoc]; exact hv6); clear hG hv6; clear y0 y1 y2 y3 f0 f1 f2 f3 q0 q1 q2 q3 g0 g1 g2 g3; obtain ⟨y0, y1, y2, y3, f0, f1, f2, f3⟩ := H6.out.right.c4 w.heap.size 59 (.bool n.leaf) (.int .i64 n.ver) (.slice ka n.keys.length kc) (.slice ad nr.length c) (by simp); obtain ⟨q0, q1, q2, q3, g0, g1, g2, g3⟩ := H6.out.right.c4 (w.heap.size + 1) 59 (.bool false) (.int .i64 0) (.slice none 0 0) (.slice none 0 0) (by simp)))
    have hgr : Gr 33 2 (.slice ad nr.length c) nr.length (nr.flatMap rcel) A := by
     have h9 := HG.out
     rw [rcel_take, rcel_drop] at h9
     rw [HNR.out.1] at h9 ⊢
     simpa [List.flatMap_append, rcel] using h9
    have HGR := As hgr
    clear hgr
    have hgk : Gr 9 1 (.slice ak nk.length ck) nk.length (nk.map Value.string) A2 := by
     have h9 := HG2.out
     rw [HNK.out.1] at h9 ⊢
     simpa using h9
    have HGK := As hgk
    clear hgk
    obtain ⟨wg, hw, hg⟩ : ∃ wg, wg = _ ∧ Hv w0 wg ((A2 ++ A) ++ (cb (w.heap.size + 1) 59 #[.bool n.leaf, .int .i64 (wrap64 (n.ver + 1)), .slice ak nk.length ck, .slice ad nr.length c] :: cb w.heap.size 59 #[.bool n.leaf, .int .i64 (wrap64 (n.ver + 1)), .slice ak nk.length ck, .slice ad nr.length c] :: L)) := ⟨_, rfl, (((((Hv.putA1 (Hv.putA1 H6.out 2 (.slice ak nk.length ck) rfl) 1 (.int .i64 (wrap64 (n.ver + 1))) rfl).putA0 0 (.bool n.leaf) rfl).putA0 1 (.int .i64 (wrap64 (n.ver + 1))) rfl).putA0 2 (.slice ak nk.length ck) rfl).putA0 3 (.slice ad nr.length c) rfl)⟩
    rw [← hw]
    obtain ⟨e0, e1, e2, e3, -, -, -, -⟩ := hg.right.c4 (w.heap.size + 1) 59 (.bool n.leaf) (.int .i64 (wrap64 (n.ver + 1))) (.slice ak nk.length ck) (.slice ad nr.length c) List.mem_cons_self
    exact bodyPost_ret (v := .agg #[.bool n.leaf, .int .i64 (wrap64 (n.ver + 1)), .slice ak nk.length ck, .slice ad nr.length c]) (by simp [results, Try.results49, go_sem, e0, e1, e2, e3, hu59]) rfl ⟨_, (A2 ++ A), rfl, ⟨ak, ck, ad, c, by rw [HF.out, ← HNR.out.1, ← HNK.out.1]; rfl, by rw [HF.out, ← HNR.out.1, ← HNK.out.1]; exact ⟨(Rdy.of_rw (Rw.of_gr HGK.out)).mono (fun p hp => by first | (simp [hp]; done) | (simp [HRL.out p hp]; done)), (Rdy.of_rw (Rw.of_gr HGR.out)).mono (fun p hp => by first | (simp [hp]; done) | (simp [HRL.out p hp]; done)), (Rw.of_gr HGK.out).2.1, (Rw.of_gr HGR.out).2.1⟩⟩, hg.drop (List.Sublist.append_left ((List.sublist_cons_self _ _).trans (List.sublist_cons_self _ _)) (A2 ++ A))⟩
end
section
variable {w0 w w1 : World} {g : Nat} {L L' R : List Ob}
def Nd.insert (n : Nd) (i : Int) (k : ByteArray) (r : Rf) : Nd :=
 if n.kid i then { n with ver := wrap64 (n.ver + 1), keys := n.keys.take i.toNat ++ [k] ++ n.keys.drop i.toNat, refs := n.refs.take (i.toNat + 1) ++ [r] ++ n.refs.drop (i.toNat + 1) } else n
end
end Go.Proofs.Ytglbcfkmaamhaaa.Nd
