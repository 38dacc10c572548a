/- transomref17: Join. No condition. -/
import Derived.Test.YtglbcfkmaamhaaaNdR
set_option linter.unusedVariables false
set_option linter.unusedSimpArgs false
namespace Go.Proofs.Ytglbcfkmaamhaaa.Nd
open Go Go.RowKit Go.Proofs.YtglbcfkmaamhaaaW.PrintWords Go.Proofs.YtglbcfkmaamhaaaW.PrintLast Go.Proofs.YtglbcfkmaamhaaaW.PrintMore Go.Proofs.Ytglbcfkmaamhaaa.Hv
variable {w0 w w1 : World} {g : Nat} {L L' R : List Ob}
set_option maxHeartbeats 16000000 in
set_option maxRecDepth 100000 in
theorem rjoin.neg (hv : Hv w0 w L) (hRL : ∀ p ∈ R, p ∈ L) {n m : Nd} {v v1 : Value} (hn : NV w0 R n v) (hm : NV w0 R m v1) (hb : n.refs.length < 4611686018427387904 ∧ m.refs.length < 4611686018427387904) (k : ByteArray) (hno : (n.shape && m.shape && (n.leaf == m.leaf)) = false) :
    Calls Try.prog 54 #[v, .string k, v1] w (NodeP w0 R L (n.join k m)) := by
  have hu59 := Try.underlying59
  have hu57 := Try.underlying57
  have hu31 := Try.underlying31
  have hu33 := Try.underlying33
  obtain ⟨ka, kc, ra, rc, rfl, hr⟩ := hn
  have HRL := Aside0.mk hRL
  clear hRL
  obtain ⟨ka1, kc1, ra1, rc1, rfl, hr1⟩ := hm
  have HV := Aside0.mk (show Hv w0 _ (cb (w.heap.size + 1 + 1) 59 #[.bool false, .int .i64 0, .slice none 0 0, .slice none 0 0] :: cb (w.heap.size + 1) 59 #[.bool m.leaf, .int .i64 m.ver, .slice ka1 m.keys.length kc1, .slice ra1 m.refs.length rc1] :: cb w.heap.size 59 #[.bool n.leaf, .int .i64 n.ver, .slice ka n.keys.length kc, .slice ra n.refs.length rc] :: L) by
    have := ((hv.alloc (.cells #[.bool n.leaf, .int .i64 n.ver, .slice ka n.keys.length kc, .slice ra n.refs.length rc] 59)).alloc (.cells #[.bool m.leaf, .int .i64 m.ver, .slice ka1 m.keys.length kc1, .slice ra1 m.refs.length rc1] 59)).alloc (.cells #[.bool false, .int .i64 0, .slice none 0 0, .slice none 0 0] 59)
    simpa [cb] using this)
  have HR := Aside0.mk (And.intro hr hr1)
  have HB := Aside0.mk hb
  have HF := Aside0.mk (show n.join k m = n by unfold Nd.join; rw [hno]; rfl)
  clear hv hr hr1 hb
  obtain ⟨y0, y1, y2, y3, f0, f1, f2, f3⟩ := HV.out.c4 w.heap.size 59 (.bool n.leaf) (.int .i64 n.ver) (.slice ka n.keys.length kc) (.slice ra n.refs.length rc) (by simp)
  obtain ⟨t0, t1, t2, t3, h0, h1, h2, h3⟩ := HV.out.c4 (w.heap.size + 1) 59 (.bool m.leaf) (.int .i64 m.ver) (.slice ka1 m.keys.length kc1) (.slice ra1 m.refs.length rc1) (by simp)
  obtain ⟨q0, q1, q2, q3, g0, g1, g2, g3⟩ := HV.out.c4 (w.heap.size + 1 + 1) 59 (.bool false) (.int .i64 0) (.slice none 0 0) (.slice none 0 0) (by simp)
  unfold nval at *
  cases hs' : n.shape
  · have hs : shp n.leaf n.keys.length n.refs.length = false := hs'
    clear hno hs'
    go_enter Try.func54, Try.ntmps54
    go_wp2_with (go_at_call 55; go_loud (refine (rshape.calls HV.out n.leaf n.ver ka ra n.keys.length kc n.refs.length rc HB.out.1).mono ?_); rw [hs]; rintro e2 w2 ⟨rfl, hh⟩; have H2 := Aside0.mk hh; clear y0 y1 y2 y3 f0 f1 f2 f3 q0 q1 q2 q3 g0 g1 g2 g3 t0 t1 t2 t3 h0 h1 h2 h3; obtain ⟨y0, y1, y2, y3, f0, f1, f2, f3⟩ := hh.c4 w.heap.size 59 (.bool n.leaf) (.int .i64 n.ver) (.slice ka n.keys.length kc) (.slice ra n.refs.length rc) (by simp); obtain ⟨t0, t1, t2, t3, h0, h1, h2, h3⟩ := hh.c4 (w.heap.size + 1) 59 (.bool m.leaf) (.int .i64 m.ver) (.slice ka1 m.keys.length kc1) (.slice ra1 m.refs.length rc1) (by simp); obtain ⟨q0, q1, q2, q3, g0, g1, g2, g3⟩ := hh.c4 (w.heap.size + 1 + 1) 59 (.bool false) (.int .i64 0) (.slice none 0 0) (.slice none 0 0) (by simp); clear hh)
    obtain ⟨wg, hw, hg⟩ : ∃ wg, wg = _ ∧ Hv w0 wg ([] ++ (cb (w.heap.size + 1 + 1) 59 #[.bool n.leaf, .int .i64 n.ver, .slice ka n.keys.length kc, .slice ra n.refs.length rc] :: cb (w.heap.size + 1) 59 #[.bool m.leaf, .int .i64 m.ver, .slice ka1 m.keys.length kc1, .slice ra1 m.refs.length rc1] :: cb w.heap.size 59 #[.bool n.leaf, .int .i64 n.ver, .slice ka n.keys.length kc, .slice ra n.refs.length rc] :: L)) := ⟨_, rfl, (((((show Hv w0 w2 ([] ++ (cb (w.heap.size + 1 + 1) 59 #[.bool false, .int .i64 0, .slice none 0 0, .slice none 0 0] :: cb (w.heap.size + 1) 59 #[.bool m.leaf, .int .i64 m.ver, .slice ka1 m.keys.length kc1, .slice ra1 m.refs.length rc1] :: cb w.heap.size 59 #[.bool n.leaf, .int .i64 n.ver, .slice ka n.keys.length kc, .slice ra n.refs.length rc] :: L)) from H2.out).putA0 0 (.bool n.leaf) rfl).putA0 1 (.int .i64 n.ver) rfl).putA0 2 (.slice ka n.keys.length kc) rfl).putA0 3 (.slice ra n.refs.length rc) rfl)⟩
    rw [← hw]
    obtain ⟨e0, e1, e2, e3, -, -, -, -⟩ := hg.right.c4 (w.heap.size + 1 + 1) 59 (.bool n.leaf) (.int .i64 n.ver) (.slice ka n.keys.length kc) (.slice ra n.refs.length rc) List.mem_cons_self
    exact bodyPost_ret (v := .agg #[.bool n.leaf, .int .i64 n.ver, .slice ka n.keys.length kc, .slice ra n.refs.length rc]) (by simp [results, Try.results54, go_sem, e0, e1, e2, e3, hu59]) rfl ⟨_, [], rfl, ⟨ka, kc, ra, rc, by rw [HF.out]; rfl, by rw [HF.out]; exact HR.out.1⟩, hg.drop (List.Sublist.append_left ((List.sublist_cons_self _ _).trans ((List.sublist_cons_self _ _).trans (List.sublist_cons_self _ _))) [])⟩
  · have hs : shp n.leaf n.keys.length n.refs.length = true := hs'
    cases hs1' : m.shape
    · have hs1 : shp m.leaf m.keys.length m.refs.length = false := hs1'
      clear hno hs' hs1'
      go_enter Try.func54, Try.ntmps54
      go_wp2_with (first | (go_at_call 55; have hx2 := H2.out; clear hx2; go_loud (refine (rshape.calls H2.out m.leaf m.ver ka1 ra1 m.keys.length kc1 m.refs.length rc1 HB.out.2).mono ?_); rw [hs1]; rintro e3 w3 ⟨rfl, hh⟩; have H3 := Aside0.mk hh; clear y0 y1 y2 y3 f0 f1 f2 f3 q0 q1 q2 q3 g0 g1 g2 g3 t0 t1 t2 t3 h0 h1 h2 h3; obtain ⟨y0, y1, y2, y3, f0, f1, f2, f3⟩ := hh.c4 w.heap.size 59 (.bool n.leaf) (.int .i64 n.ver) (.slice ka n.keys.length kc) (.slice ra n.refs.length rc) (by simp); obtain ⟨t0, t1, t2, t3, h0, h1, h2, h3⟩ := hh.c4 (w.heap.size + 1) 59 (.bool m.leaf) (.int .i64 m.ver) (.slice ka1 m.keys.length kc1) (.slice ra1 m.refs.length rc1) (by simp); obtain ⟨q0, q1, q2, q3, g0, g1, g2, g3⟩ := hh.c4 (w.heap.size + 1 + 1) 59 (.bool false) (.int .i64 0) (.slice none 0 0) (.slice none 0 0) (by simp); clear hh) | (go_at_call 55; go_loud (refine (rshape.calls HV.out n.leaf n.ver ka ra n.keys.length kc n.refs.length rc HB.out.1).mono ?_); rw [hs]; rintro e2 w2 ⟨rfl, hh⟩; have H2 := Aside0.mk hh; clear y0 y1 y2 y3 f0 f1 f2 f3 q0 q1 q2 q3 g0 g1 g2 g3 t0 t1 t2 t3 h0 h1 h2 h3; obtain ⟨y0, y1, y2, y3, f0, f1, f2, f3⟩ := hh.c4 w.heap.size 59 (.bool n.leaf) (.int .i64 n.ver) (.slice ka n.keys.length kc) (.slice ra n.refs.length rc) (by simp); obtain ⟨t0, t1, t2, t3, h0, h1, h2, h3⟩ := hh.c4 (w.heap.size + 1) 59 (.bool m.leaf) (.int .i64 m.ver) (.slice ka1 m.keys.length kc1) (.slice ra1 m.refs.length rc1) (by simp); obtain ⟨q0, q1, q2, q3, g0, g1, g2, g3⟩ := hh.c4 (w.heap.size + 1 + 1) 59 (.bool false) (.int .i64 0) (.slice none 0 0) (.slice none 0 0) (by simp); clear hh))
      obtain ⟨wg, hw, hg⟩ : ∃ wg, wg = _ ∧ Hv w0 wg ([] ++ (cb (w.heap.size + 1 + 1) 59 #[.bool n.leaf, .int .i64 n.ver, .slice ka n.keys.length kc, .slice ra n.refs.length rc] :: cb (w.heap.size + 1) 59 #[.bool m.leaf, .int .i64 m.ver, .slice ka1 m.keys.length kc1, .slice ra1 m.refs.length rc1] :: cb w.heap.size 59 #[.bool n.leaf, .int .i64 n.ver, .slice ka n.keys.length kc, .slice ra n.refs.length rc] :: L)) := ⟨_, rfl, (((((show Hv w0 w3 ([] ++ (cb (w.heap.size + 1 + 1) 59 #[.bool false, .int .i64 0, .slice none 0 0, .slice none 0 0] :: cb (w.heap.size + 1) 59 #[.bool m.leaf, .int .i64 m.ver, .slice ka1 m.keys.length kc1, .slice ra1 m.refs.length rc1] :: cb w.heap.size 59 #[.bool n.leaf, .int .i64 n.ver, .slice ka n.keys.length kc, .slice ra n.refs.length rc] :: L)) from H3.out).putA0 0 (.bool n.leaf) rfl).putA0 1 (.int .i64 n.ver) rfl).putA0 2 (.slice ka n.keys.length kc) rfl).putA0 3 (.slice ra n.refs.length rc) rfl)⟩
      rw [← hw]
      obtain ⟨e0, e1, e2, e3, -, -, -, -⟩ := hg.right.c4 (w.heap.size + 1 + 1) 59 (.bool n.leaf) (.int .i64 n.ver) (.slice ka n.keys.length kc) (.slice ra n.refs.length rc) List.mem_cons_self
      exact bodyPost_ret (v := .agg #[.bool n.leaf, .int .i64 n.ver, .slice ka n.keys.length kc, .slice ra n.refs.length rc]) (by simp [results, Try.results54, go_sem, e0, e1, e2, e3, hu59]) rfl ⟨_, [], rfl, ⟨ka, kc, ra, rc, by rw [HF.out]; rfl, by rw [HF.out]; exact HR.out.1⟩, hg.drop (List.Sublist.append_left ((List.sublist_cons_self _ _).trans ((List.sublist_cons_self _ _).trans (List.sublist_cons_self _ _))) [])⟩
    · have hs1 : shp m.leaf m.keys.length m.refs.length = true := hs1'
      have hl : (n.leaf == m.leaf) = false := by rw [hs', hs1'] at hno; simpa using hno
      clear hno hs' hs1'
      go_enter Try.func54, Try.ntmps54
      go_wp2_with (first | (go_at_call 55; have hx2 := H2.out; clear hx2; go_loud (refine (rshape.calls H2.out m.leaf m.ver ka1 ra1 m.keys.length kc1 m.refs.length rc1 HB.out.2).mono ?_); rw [hs1]; rintro e3 w3 ⟨rfl, hh⟩; have H3 := Aside0.mk hh; clear y0 y1 y2 y3 f0 f1 f2 f3 q0 q1 q2 q3 g0 g1 g2 g3 t0 t1 t2 t3 h0 h1 h2 h3; obtain ⟨y0, y1, y2, y3, f0, f1, f2, f3⟩ := hh.c4 w.heap.size 59 (.bool n.leaf) (.int .i64 n.ver) (.slice ka n.keys.length kc) (.slice ra n.refs.length rc) (by simp); obtain ⟨t0, t1, t2, t3, h0, h1, h2, h3⟩ := hh.c4 (w.heap.size + 1) 59 (.bool m.leaf) (.int .i64 m.ver) (.slice ka1 m.keys.length kc1) (.slice ra1 m.refs.length rc1) (by simp); obtain ⟨q0, q1, q2, q3, g0, g1, g2, g3⟩ := hh.c4 (w.heap.size + 1 + 1) 59 (.bool false) (.int .i64 0) (.slice none 0 0) (.slice none 0 0) (by simp); clear hh) | (go_at_call 55; go_loud (refine (rshape.calls HV.out n.leaf n.ver ka ra n.keys.length kc n.refs.length rc HB.out.1).mono ?_); rw [hs]; rintro e2 w2 ⟨rfl, hh⟩; have H2 := Aside0.mk hh; clear y0 y1 y2 y3 f0 f1 f2 f3 q0 q1 q2 q3 g0 g1 g2 g3 t0 t1 t2 t3 h0 h1 h2 h3; obtain ⟨y0, y1, y2, y3, f0, f1, f2, f3⟩ := hh.c4 w.heap.size 59 (.bool n.leaf) (.int .i64 n.ver) (.slice ka n.keys.length kc) (.slice ra n.refs.length rc) (by simp); obtain ⟨t0, t1, t2, t3, h0, h1, h2, h3⟩ := hh.c4 (w.heap.size + 1) 59 (.bool m.leaf) (.int .i64 m.ver) (.slice ka1 m.keys.length kc1) (.slice ra1 m.refs.length rc1) (by simp); obtain ⟨q0, q1, q2, q3, g0, g1, g2, g3⟩ := hh.c4 (w.heap.size + 1 + 1) 59 (.bool false) (.int .i64 0) (.slice none 0 0) (.slice none 0 0) (by simp); clear hh))
      obtain ⟨wg, hw, hg⟩ : ∃ wg, wg = _ ∧ Hv w0 wg ([] ++ (cb (w.heap.size + 1 + 1) 59 #[.bool n.leaf, .int .i64 n.ver, .slice ka n.keys.length kc, .slice ra n.refs.length rc] :: cb (w.heap.size + 1) 59 #[.bool m.leaf, .int .i64 m.ver, .slice ka1 m.keys.length kc1, .slice ra1 m.refs.length rc1] :: cb w.heap.size 59 #[.bool n.leaf, .int .i64 n.ver, .slice ka n.keys.length kc, .slice ra n.refs.length rc] :: L)) := ⟨_, rfl, (((((show Hv w0 w3 ([] ++ (cb (w.heap.size + 1 + 1) 59 #[.bool false, .int .i64 0, .slice none 0 0, .slice none 0 0] :: cb (w.heap.size + 1) 59 #[.bool m.leaf, .int .i64 m.ver, .slice ka1 m.keys.length kc1, .slice ra1 m.refs.length rc1] :: cb w.heap.size 59 #[.bool n.leaf, .int .i64 n.ver, .slice ka n.keys.length kc, .slice ra n.refs.length rc] :: L)) from H3.out).putA0 0 (.bool n.leaf) rfl).putA0 1 (.int .i64 n.ver) rfl).putA0 2 (.slice ka n.keys.length kc) rfl).putA0 3 (.slice ra n.refs.length rc) rfl)⟩
      rw [← hw]
      obtain ⟨e0, e1, e2, e3, -, -, -, -⟩ := hg.right.c4 (w.heap.size + 1 + 1) 59 (.bool n.leaf) (.int .i64 n.ver) (.slice ka n.keys.length kc) (.slice ra n.refs.length rc) List.mem_cons_self
      exact bodyPost_ret (v := .agg #[.bool n.leaf, .int .i64 n.ver, .slice ka n.keys.length kc, .slice ra n.refs.length rc]) (by simp [results, Try.results54, go_sem, e0, e1, e2, e3, hu59]) rfl ⟨_, [], rfl, ⟨ka, kc, ra, rc, by rw [HF.out]; rfl, by rw [HF.out]; exact HR.out.1⟩, hg.drop (List.Sublist.append_left ((List.sublist_cons_self _ _).trans ((List.sublist_cons_self _ _).trans (List.sublist_cons_self _ _))) [])⟩
set_option maxHeartbeats 16000000 in
set_option maxRecDepth 100000 in
theorem rjoin.leaf (hv : Hv w0 w L) (hRL : ∀ p ∈ R, p ∈ L) {n m : Nd} {v v1 : Value} (hn : NV w0 R n v) (hm : NV w0 R m v1) (ho : Sm n) (ho1 : Sm m) (k : ByteArray) (hs : n.shape = true) (hs1 : m.shape = true) (hlf : n.leaf = true) (hlm : m.leaf = true) :
    Calls Try.prog 54 #[v, .string k, v1] w (NodeP w0 R L (n.join k m)) := by
  have hu59 := Try.underlying59
  have hu57 := Try.underlying57
  have hu31 := Try.underlying31
  obtain ⟨ka, kc, ra, rc, rfl, hr⟩ := hn
  have HRL := Aside0.mk hRL
  clear hRL
  obtain ⟨ka1, kc1, ra1, rc1, rfl, hr1⟩ := hm
  have HV := Aside0.mk (show Hv w0 _ (cb (w.heap.size + 1 + 1) 59 #[.bool false, .int .i64 0, .slice none 0 0, .slice none 0 0] :: cb (w.heap.size + 1) 59 #[.bool m.leaf, .int .i64 m.ver, .slice ka1 m.keys.length kc1, .slice ra1 m.refs.length rc1] :: cb w.heap.size 59 #[.bool n.leaf, .int .i64 n.ver, .slice ka n.keys.length kc, .slice ra n.refs.length rc] :: L) by
    have := ((hv.alloc (.cells #[.bool n.leaf, .int .i64 n.ver, .slice ka n.keys.length kc, .slice ra n.refs.length rc] 59)).alloc (.cells #[.bool m.leaf, .int .i64 m.ver, .slice ka1 m.keys.length kc1, .slice ra1 m.refs.length rc1] 59)).alloc (.cells #[.bool false, .int .i64 0, .slice none 0 0, .slice none 0 0] 59)
    simpa [cb] using this)
  have HR := Aside0.mk (And.intro hr hr1)
  have HB := Aside0.mk (show n.refs.length < 4611686018427387904 ∧ m.refs.length < 4611686018427387904 from ⟨by have := ho.r; omega, by have := ho1.r; omega⟩)
  obtain ⟨kk, hkk⟩ : ∃ kk, kk = n.keys ++ [k] := ⟨_, rfl⟩
  have hkl : n.keys.length + 1 = kk.length := by rw [hkk]; simp
  obtain ⟨nk, hnk⟩ : ∃ nk, nk = n.keys ++ m.keys := ⟨_, rfl⟩
  obtain ⟨nr, hnr⟩ : ∃ nr, nr = n.refs ++ m.refs := ⟨_, rfl⟩
  have HF := Aside0.mk (show n.join k m = { n with ver := wrap64 (n.ver + 1), keys := n.keys ++ m.keys, refs := n.refs ++ m.refs } by unfold Nd.join; rw [hs, hs1, hlf, hlm]; rfl)
  have HNR := Aside0.mk (And.intro hnk (And.intro hnr (And.intro (show n.keys.length + m.keys.length = nk.length by rw [hnk]; simp) (show n.refs.length + m.refs.length = nr.length by rw [hnr]; simp))))
  have HBD := Aside0.mk (show (0 + n.keys.length) * 16 ≤ 140737488355328 ∧ (n.keys.length + 1) * 16 ≤ 140737488355328 ∧ (n.keys.length + m.keys.length) * 16 ≤ 140737488355328 ∧ (0 + n.refs.length) * 16 ≤ 140737488355328 ∧ (n.refs.length + m.refs.length) * 16 ≤ 140737488355328 from ⟨by have := ho.k; omega, by have := ho.k; omega, by have := ho.k; have := ho1.k; omega, by have := ho.r; omega, by have := ho.r; have := ho1.r; omega⟩)
  have HKK := Aside0.mk (And.intro hkk hkl)
  have ew : IntKind.i64.wrap (n.ver + 1) = wrap64 (n.ver + 1) := i64_w _
  have hll : (n.leaf == m.leaf) = true := by rw [hlf, hlm]; rfl
  clear hv hr hr1 ho ho1 hnk hnr hkk hkl
  obtain ⟨y0, y1, y2, y3, f0, f1, f2, f3⟩ := HV.out.c4 w.heap.size 59 (.bool n.leaf) (.int .i64 n.ver) (.slice ka n.keys.length kc) (.slice ra n.refs.length rc) (by simp)
  obtain ⟨t0, t1, t2, t3, h0, h1, h2, h3⟩ := HV.out.c4 (w.heap.size + 1) 59 (.bool m.leaf) (.int .i64 m.ver) (.slice ka1 m.keys.length kc1) (.slice ra1 m.refs.length rc1) (by simp)
  obtain ⟨q0, q1, q2, q3, g0, g1, g2, g3⟩ := HV.out.c4 (w.heap.size + 1 + 1) 59 (.bool false) (.int .i64 0) (.slice none 0 0) (.slice none 0 0) (by simp)
  unfold nval at *
  unfold Nd.shape at hs hs1
  have HLF := Aside0.mk (And.intro hlf hlm)
  clear hlf hlm
  go_enter Try.func54, Try.ntmps54
  go_upto_region 3 with (first | (go_at_call 55; have hx2 := H2.out; clear hx2; go_loud (refine (rshape.calls H2.out m.leaf m.ver ka1 ra1 m.keys.length kc1 m.refs.length rc1 HB.out.2).mono ?_); rw [hs1]; rintro e3 w3 ⟨rfl, hh⟩; have H3 := Aside0.mk hh; clear y0 y1 y2 y3 f0 f1 f2 f3 q0 q1 q2 q3 g0 g1 g2 g3 t0 t1 t2 t3 h0 h1 h2 h3; obtain ⟨y0, y1, y2, y3, f0, f1, f2, f3⟩ := hh.c4 w.heap.size 59 (.bool n.leaf) (.int .i64 n.ver) (.slice ka n.keys.length kc) (.slice ra n.refs.length rc) (by simp); obtain ⟨t0, t1, t2, t3, h0, h1, h2, h3⟩ := hh.c4 (w.heap.size + 1) 59 (.bool m.leaf) (.int .i64 m.ver) (.slice ka1 m.keys.length kc1) (.slice ra1 m.refs.length rc1) (by simp); obtain ⟨q0, q1, q2, q3, g0, g1, g2, g3⟩ := hh.c4 (w.heap.size + 1 + 1) 59 (.bool false) (.int .i64 0) (.slice none 0 0) (.slice none 0 0) (by simp); clear hh) | (go_at_call 55; go_loud (refine (rshape.calls HV.out n.leaf n.ver ka ra n.keys.length kc n.refs.length rc HB.out.1).mono ?_); rw [hs]; rintro e2 w2 ⟨rfl, hh⟩; have H2 := Aside0.mk hh; clear y0 y1 y2 y3 f0 f1 f2 f3 q0 q1 q2 q3 g0 g1 g2 g3 t0 t1 t2 t3 h0 h1 h2 h3; obtain ⟨y0, y1, y2, y3, f0, f1, f2, f3⟩ := hh.c4 w.heap.size 59 (.bool n.leaf) (.int .i64 n.ver) (.slice ka n.keys.length kc) (.slice ra n.refs.length rc) (by simp); obtain ⟨t0, t1, t2, t3, h0, h1, h2, h3⟩ := hh.c4 (w.heap.size + 1) 59 (.bool m.leaf) (.int .i64 m.ver) (.slice ka1 m.keys.length kc1) (.slice ra1 m.refs.length rc1) (by simp); obtain ⟨q0, q1, q2, q3, g0, g1, g2, g3⟩ := hh.c4 (w.heap.size + 1 + 1) 59 (.bool false) (.int .i64 0) (.slice none 0 0) (.slice none 0 0) (by simp); clear hh))
  go_upto_region 4 with ((with_reducible refine gate_builtin (b := .append) (xs := #[.const (.slice none 0 0), .tmp 25]) rfl ?_); at_builtin; go_loud (refine append_rows (w0 := w0) (A := []) (L := cb (w.heap.size + 1 + 1) 59 #[.bool false, .int .i64 0, .slice none 0 0, .slice none 0 0] :: cb (w.heap.size + 1) 59 #[.bool m.leaf, .int .i64 m.ver, .slice ka1 m.keys.length kc1, .slice ra1 m.refs.length rc1] :: cb w.heap.size 59 #[.bool n.leaf, .int .i64 n.ver, .slice ka n.keys.length kc, .slice ra n.refs.length rc] :: L) rfl (.const (.slice none 0 0)) (.tmp 25) 57 9 (.string ⟨#[]⟩) 1 16 rfl Try.underlying57 copS.info rfl (by decide) (by decide) (.slice none 0 0) (0) ([]) rfl (ka) (n.keys.length) (kc) (n.keys.map Value.string) rfl (kcel_one _) (Gr.nil 9 1) (show Hv w0 _ ([] ++ (cb (w.heap.size + 1 + 1) 59 #[.bool false, .int .i64 0, .slice none 0 0, .slice none 0 0] :: cb (w.heap.size + 1) 59 #[.bool m.leaf, .int .i64 m.ver, .slice ka1 m.keys.length kc1, .slice ra1 m.refs.length rc1] :: cb w.heap.size 59 #[.bool n.leaf, .int .i64 n.ver, .slice ka n.keys.length kc, .slice ra n.refs.length rc] :: L)) from H3.out) (HR.out.1.k _ _ H3.out (fun p hp => by first | (simp [hp]; done) | (simp [HRL.out p hp]; done))) HBD.out.1 ?_); intro v8 w4 A4 hG8 hv8; obtain ⟨ad4, c4, rfl, -⟩ := hG8.form; rw [Nat.zero_add n.keys.length, List.nil_append] at hG8; rw [Nat.zero_add n.keys.length]; have HG4 := Aside0.mk hG8; have H4 := Aside0.mk hv8; clear hG8 hv8; clear y0 y1 y2 y3 f0 f1 f2 f3 q0 q1 q2 q3 g0 g1 g2 g3 t0 t1 t2 t3 h0 h1 h2 h3; obtain ⟨y0, y1, y2, y3, f0, f1, f2, f3⟩ := H4.out.right.c4 w.heap.size 59 (.bool n.leaf) (.int .i64 n.ver) (.slice ka n.keys.length kc) (.slice ra n.refs.length rc) (by simp); obtain ⟨t0, t1, t2, t3, h0, h1, h2, h3⟩ := H4.out.right.c4 (w.heap.size + 1) 59 (.bool m.leaf) (.int .i64 m.ver) (.slice ka1 m.keys.length kc1) (.slice ra1 m.refs.length rc1) (by simp); obtain ⟨q0, q1, q2, q3, g0, g1, g2, g3⟩ := H4.out.right.c4 (w.heap.size + 1 + 1) 59 (.bool false) (.int .i64 0) (.slice none 0 0) (.slice none 0 0) (by simp))
  have hlf := HLF.out.1
  go_upto_region 6 with (fail)
  clear hlf
  go_upto_region 8 with ((with_reducible refine gate_builtin (b := .append) (xs := #[.tmp 34, .tmp 36]) rfl ?_); at_builtin; go_loud (refine append_rows (w0 := w0) (A := A4) (L := cb (w.heap.size + 1 + 1) 59 #[.bool false, .int .i64 0, .slice none 0 0, .slice none 0 0] :: cb (w.heap.size + 1) 59 #[.bool m.leaf, .int .i64 m.ver, .slice ka1 m.keys.length kc1, .slice ra1 m.refs.length rc1] :: cb w.heap.size 59 #[.bool n.leaf, .int .i64 n.ver, .slice ka n.keys.length kc, .slice ra n.refs.length rc] :: L) rfl (.tmp 34) (.tmp 36) 57 9 (.string ⟨#[]⟩) 1 16 rfl Try.underlying57 copS.info rfl (by decide) (by decide) (.slice ad4 n.keys.length c4) (n.keys.length) (n.keys.map Value.string) rfl (ka1) (m.keys.length) (kc1) (m.keys.map Value.string) rfl (kcel_one _) (HG4.out) (H4.out) (HR.out.2.k _ _ H4.out (fun p hp => by first | (simp [hp]; done) | (simp [HRL.out p hp]; done))) HBD.out.2.2.1 ?_); intro v8 w7 A7 hG8 hv8; obtain ⟨adk, ck, rfl, -⟩ := hG8.form; rw [HNR.out.2.2.1] at hG8 ⊢; have HGk := Aside0.mk (show Gr 9 1 (.slice adk nk.length ck) nk.length (nk.map Value.string) A7 by rw [HNR.out.1] at hG8 ⊢; simpa using hG8); have H7 := Aside0.mk hv8; clear hG8 hv8; clear y0 y1 y2 y3 f0 f1 f2 f3 q0 q1 q2 q3 g0 g1 g2 g3 t0 t1 t2 t3 h0 h1 h2 h3; obtain ⟨y0, y1, y2, y3, f0, f1, f2, f3⟩ := H7.out.right.c4 w.heap.size 59 (.bool n.leaf) (.int .i64 n.ver) (.slice ka n.keys.length kc) (.slice ra n.refs.length rc) (by simp); obtain ⟨t0, t1, t2, t3, h0, h1, h2, h3⟩ := H7.out.right.c4 (w.heap.size + 1) 59 (.bool m.leaf) (.int .i64 m.ver) (.slice ka1 m.keys.length kc1) (.slice ra1 m.refs.length rc1) (by simp); obtain ⟨q0, q1, q2, q3, g0, g1, g2, g3⟩ := H7.out.right.c4 (w.heap.size + 1 + 1) 59 (.bool false) (.int .i64 0) (.slice none 0 0) (.slice none 0 0) (by simp))
  obtain ⟨W8, hW, hv8⟩ : ∃ W8, W8 = w7.setCell ⟨w.heap.size, 2, none⟩ (.slice adk nk.length ck) ∧ Hv w0 W8 (A7 ++ (cb (w.heap.size + 1 + 1) 59 #[.bool false, .int .i64 0, .slice none 0 0, .slice none 0 0] :: cb (w.heap.size + 1) 59 #[.bool m.leaf, .int .i64 m.ver, .slice ka1 m.keys.length kc1, .slice ra1 m.refs.length rc1] :: cb w.heap.size 59 #[.bool n.leaf, .int .i64 n.ver, .slice adk nk.length ck, .slice ra n.refs.length rc] :: L)) := ⟨_, rfl, putA2 H7.out 2 _ rfl⟩
  rw [← hW]
  have H8d := Aside0.mk hv8.drew
  clear hW hv8
  clear y0 y1 y2 y3 f0 f1 f2 f3 q0 q1 q2 q3 g0 g1 g2 g3 t0 t1 t2 t3 h0 h1 h2 h3
  have SP := Aside0.mk (show ∀ (w' : World) (L' : List Ob), Hv w0 w' L' → cb w.heap.size 59 #[.bool n.leaf, .int .i64 n.ver, .slice adk nk.length ck, .slice ra n.refs.length rc] ∈ L' → cb (w.heap.size + 1) 59 #[.bool m.leaf, .int .i64 m.ver, .slice ka1 m.keys.length kc1, .slice ra1 m.refs.length rc1] ∈ L' → (w'.cell? ⟨w.heap.size, 0, none⟩ = some (.bool n.leaf) ∧ w'.cell? ⟨w.heap.size, 1, none⟩ = some (.int .i64 n.ver) ∧ w'.cell? ⟨w.heap.size, 2, none⟩ = some (.slice adk nk.length ck) ∧ w'.cell? ⟨w.heap.size, 3, none⟩ = some (.slice ra n.refs.length rc) ∧ w'.cell? ⟨w.heap.size + 1, 0, none⟩ = some (.bool m.leaf) ∧ w'.cell? ⟨w.heap.size + 1, 1, none⟩ = some (.int .i64 m.ver) ∧ w'.cell? ⟨w.heap.size + 1, 2, none⟩ = some (.slice ka1 m.keys.length kc1) ∧ w'.cell? ⟨w.heap.size + 1, 3, none⟩ = some (.slice ra1 m.refs.length rc1)) from fun w' L' h m3 m5 => by
    obtain ⟨p0, p1, p2, p3, -, -, -, -⟩ := h.c4 _ _ _ _ _ _ m3
    obtain ⟨p4, p5, p6, p7, -, -, -, -⟩ := h.c4 _ _ _ _ _ _ m5
    exact ⟨p0, p1, p2, p3, p4, p5, p6, p7⟩)
  refine start_ (n := 8) (S := fun w' => w'.cell? ⟨w.heap.size, 0, none⟩ = some (.bool n.leaf) ∧ w'.cell? ⟨w.heap.size, 1, none⟩ = some (.int .i64 n.ver) ∧ w'.cell? ⟨w.heap.size, 2, none⟩ = some (.slice adk nk.length ck) ∧ w'.cell? ⟨w.heap.size, 3, none⟩ = some (.slice ra n.refs.length rc) ∧ w'.cell? ⟨w.heap.size + 1, 0, none⟩ = some (.bool m.leaf) ∧ w'.cell? ⟨w.heap.size + 1, 1, none⟩ = some (.int .i64 m.ver) ∧ w'.cell? ⟨w.heap.size + 1, 2, none⟩ = some (.slice ka1 m.keys.length kc1) ∧ w'.cell? ⟨w.heap.size + 1, 3, none⟩ = some (.slice ra1 m.refs.length rc1)) (ds := [7]) #[false, false, false, false, false, false, false, false] (by kernel_rfl) rfl rfl (SP.out _ _ H8d.out (by simp) (by simp)) (fun hHeld => ?_)
  generalize W8.drew = wr0 at H8d hHeld ⊢
  refine pure_ (i := 0) (N := some 40) (v := ?_) (a' := ?_) #[true, false, false, false, false, false, false, false] rfl rfl (by kernel_rfl) (fun _ _ _ h => h) (Or.inl ⟨by rfl, ?_⟩) ?_ ?_
  rotate_left
  · intro w'
    go_simp
    with_reducible rfl
  rotate_left
  · simp only [Act.put, List.setIfInBounds_toArray, List.set_cons_zero, List.set_cons_succ, i64_w, i32_w]
    rfl
  refine pure_ (i := 3) (N := some 43) (v := ?_) (a' := ?_) #[true, false, false, true, false, false, false, false] rfl rfl (by kernel_rfl) (fun _ _ _ h => h) (Or.inl ⟨by rfl, ?_⟩) ?_ ?_
  rotate_left
  · intro w'
    go_simp
    with_reducible rfl
  rotate_left
  · simp only [Act.put, List.setIfInBounds_toArray, List.set_cons_zero, List.set_cons_succ, i64_w, i32_w]
    rfl
  refine take_ (i := 1) (N := some 41) (v := ?_) (a' := ?_) #[true, true, false, true, false, false, false, false] rfl rfl (by kernel_rfl) (fun _ _ _ h => h) (Or.inl ⟨by rfl, ?_⟩) hHeld ?_ ?_
  rotate_left
  · rintro w' ⟨s0, s1, s2, s3, s4, s5, s6, s7⟩
    go_simp
    with_reducible rfl
  rotate_left
  · simp only [Act.put, List.setIfInBounds_toArray, List.set_cons_zero, List.set_cons_succ, i64_w, i32_w]
    rfl
  refine take_ (i := 4) (N := some 44) (v := ?_) (a' := ?_) #[true, true, false, true, true, false, false, false] rfl rfl (by kernel_rfl) (fun _ _ _ h => h) (Or.inl ⟨by rfl, ?_⟩) hHeld ?_ ?_
  rotate_left
  · rintro w' ⟨s0, s1, s2, s3, s4, s5, s6, s7⟩
    go_simp
    with_reducible rfl
  rotate_left
  · simp only [Act.put, List.setIfInBounds_toArray, List.set_cons_zero, List.set_cons_succ, i64_w, i32_w]
    rfl
  refine one_ (i := 2) (N := some 42) #[true, true, true, true, true, false, false, false] rfl rfl (by kernel_rfl) (by decide) (fun K hK => ?_)
  refine append_rows_step (w0 := w0) (A := []) (L := A7 ++ (cb (w.heap.size + 1 + 1) 59 #[.bool false, .int .i64 0, .slice none 0 0, .slice none 0 0] :: cb (w.heap.size + 1) 59 #[.bool m.leaf, .int .i64 m.ver, .slice ka1 m.keys.length kc1, .slice ra1 m.refs.length rc1] :: cb w.heap.size 59 #[.bool n.leaf, .int .i64 n.ver, .slice adk nk.length ck, .slice ra n.refs.length rc] :: L)) (by rfl) (.const (.slice none 0 0)) (.tmp 41) 31 33 (.agg #[.int .i64 0, .int .i64 0]) 2 16 rfl Try.underlying31 copR.info rfl (by decide) (by decide) (.slice none 0 0) (0) ([]) (by first | rfl | (go_simp; done) | (go_simp; rfl)) (ra) (n.refs.length) (rc) (n.refs.flatMap rcel) (by first | rfl | (go_simp; done) | (go_simp; rfl)) (rcel_one _) (Gr.nil 33 2) (show Hv w0 _ ([] ++ (A7 ++ (cb (w.heap.size + 1 + 1) 59 #[.bool false, .int .i64 0, .slice none 0 0, .slice none 0 0] :: cb (w.heap.size + 1) 59 #[.bool m.leaf, .int .i64 m.ver, .slice ka1 m.keys.length kc1, .slice ra1 m.refs.length rc1] :: cb w.heap.size 59 #[.bool n.leaf, .int .i64 n.ver, .slice adk nk.length ck, .slice ra n.refs.length rc] :: L))) from H8d.out) (HR.out.1.r _ _ H8d.out (fun p hp => by first | (simp [hp]; done) | (simp [HRL.out p hp]; done))) HBD.out.2.2.2.1 ?_
  intro v5 wr1 A11 hG hv5
  obtain ⟨adq, cq, rfl, -⟩ := hG.form
  rw [Nat.zero_add n.refs.length, List.nil_append] at hG; rw [Nat.zero_add n.refs.length]
  have HGadq := Aside0.mk hG
  have HR1 := Aside0.mk (show Hv w0 wr1 (A11 ++ (A7 ++ (cb (w.heap.size + 1 + 1) 59 #[.bool false, .int .i64 0, .slice none 0 0, .slice none 0 0] :: cb (w.heap.size + 1) 59 #[.bool m.leaf, .int .i64 m.ver, .slice ka1 m.keys.length kc1, .slice ra1 m.refs.length rc1] :: cb w.heap.size 59 #[.bool n.leaf, .int .i64 n.ver, .slice adk nk.length ck, .slice ra n.refs.length rc] :: L))) from hv5)
  clear hG hv5
  refine hK.out _ _ (SP.out _ _ HR1.out (by simp) (by simp)) (fun hHeld => ?_)
  clear hK K
  refine norm_ (a' := ?_) ?_ ?_
  rotate_left
  · show Act.put _ (some 42) _ = _
    simp only [Act.put, List.setIfInBounds_toArray, List.set_cons_zero, List.set_cons_succ, i64_w, i32_w]
    rfl
  refine one_ (i := 5) (N := some 45) #[true, true, true, true, true, true, false, false] rfl rfl (by kernel_rfl) (by decide) (fun K hK => ?_)
  refine append_rows_step (w0 := w0) (A := A11) (L := A7 ++ (cb (w.heap.size + 1 + 1) 59 #[.bool false, .int .i64 0, .slice none 0 0, .slice none 0 0] :: cb (w.heap.size + 1) 59 #[.bool m.leaf, .int .i64 m.ver, .slice ka1 m.keys.length kc1, .slice ra1 m.refs.length rc1] :: cb w.heap.size 59 #[.bool n.leaf, .int .i64 n.ver, .slice adk nk.length ck, .slice ra n.refs.length rc] :: L)) (by rfl) (.tmp 42) (.tmp 44) 31 33 (.agg #[.int .i64 0, .int .i64 0]) 2 16 rfl Try.underlying31 copR.info rfl (by decide) (by decide) (.slice adq n.refs.length cq) (n.refs.length) (n.refs.flatMap rcel) (by first | rfl | (go_simp; done) | (go_simp; rfl)) (ra1) (m.refs.length) (rc1) (m.refs.flatMap rcel) (by first | rfl | (go_simp; done) | (go_simp; rfl)) (rcel_one _) (HGadq.out) (HR1.out) (HR.out.2.r _ _ HR1.out (fun p hp => by first | (simp [hp]; done) | (simp [HRL.out p hp]; done))) HBD.out.2.2.2.2 ?_
  intro v5 wr2 A12 hG hv5
  obtain ⟨adr, cr, rfl, -⟩ := hG.form
  rw [HNR.out.2.2.2] at hG ⊢
  have HGadr := Aside0.mk hG
  have HR2 := Aside0.mk (show Hv w0 wr2 (A12 ++ (A7 ++ (cb (w.heap.size + 1 + 1) 59 #[.bool false, .int .i64 0, .slice none 0 0, .slice none 0 0] :: cb (w.heap.size + 1) 59 #[.bool m.leaf, .int .i64 m.ver, .slice ka1 m.keys.length kc1, .slice ra1 m.refs.length rc1] :: cb w.heap.size 59 #[.bool n.leaf, .int .i64 n.ver, .slice adk nk.length ck, .slice ra n.refs.length rc] :: L))) from hv5)
  clear hG hv5
  refine hK.out _ _ (SP.out _ _ HR2.out (by simp) (by simp)) (fun hHeld => ?_)
  clear hK K
  refine norm_ (a' := ?_) ?_ ?_
  rotate_left
  · show Act.put _ (some 45) _ = _
    simp only [Act.put, List.setIfInBounds_toArray, List.set_cons_zero, List.set_cons_succ, i64_w, i32_w]
    rfl
  refine pure_ (i := 6) (N := some 46) (v := ?_) (a' := ?_) #[true, true, true, true, true, true, true, false] rfl rfl (by kernel_rfl) (fun _ _ _ h => h) (Or.inl ⟨by rfl, ?_⟩) ?_ ?_
  rotate_left
  · intro w'
    go_simp
    with_reducible rfl
  rotate_left
  · simp only [Act.put, List.setIfInBounds_toArray, List.set_cons_zero, List.set_cons_succ, i64_w, i32_w]
    rfl
  refine last_ (i := 7) (N := none) #[true, true, true, true, true, true, true, true] rfl rfl (by kernel_rfl) (by decide) (fun K hK => ?_)
  have HS := Aside0.mk (show Hv w0 wr2 ((A12 ++ A7) ++ (cb (w.heap.size + 1 + 1) 59 #[.bool false, .int .i64 0, .slice none 0 0, .slice none 0 0] :: cb (w.heap.size + 1) 59 #[.bool m.leaf, .int .i64 m.ver, .slice ka1 m.keys.length kc1, .slice ra1 m.refs.length rc1] :: cb w.heap.size 59 #[.bool n.leaf, .int .i64 n.ver, .slice adk nk.length ck, .slice ra n.refs.length rc] :: L)) by rw [List.append_assoc]; exact HR2.out)
  obtain ⟨y0, y1, y2, y3, f0, f1, f2, f3⟩ := HS.out.right.c4 w.heap.size 59 (.bool n.leaf) (.int .i64 n.ver) (.slice adk nk.length ck) (.slice ra n.refs.length rc) (by simp)
  refine skip_ (w1 := ?_) (by rfl) rfl ?_ ?_
  rotate_left
  · go_simp
    rfl
  refine hK.out _ _ ?_
  clear hK K y0 y1 y2 y3 f0 f1 f2 f3
  obtain ⟨wr3, hW, hvv⟩ : ∃ wr3, wr3 = wr2.setCell ⟨w.heap.size, 3, none⟩ (.slice adr nr.length cr) ∧ Hv w0 wr3 ((A12 ++ A7) ++ (cb (w.heap.size + 1 + 1) 59 #[.bool false, .int .i64 0, .slice none 0 0, .slice none 0 0] :: cb (w.heap.size + 1) 59 #[.bool m.leaf, .int .i64 m.ver, .slice ka1 m.keys.length kc1, .slice ra1 m.refs.length rc1] :: cb w.heap.size 59 #[.bool n.leaf, .int .i64 n.ver, .slice adk nk.length ck, .slice adr nr.length cr] :: L)) := ⟨_, rfl, putA2 HS.out 3 _ rfl⟩
  rw [← hW]
  have HR3 := Aside0.mk hvv
  clear hW hvv HS
  refine done_ (by kernel_rfl) ?_
  obtain ⟨y0, y1, y2, y3, f0, f1, f2, f3⟩ := HR3.out.right.c4 w.heap.size 59 (.bool n.leaf) (.int .i64 n.ver) (.slice adk nk.length ck) (.slice adr nr.length cr) (by simp)
  obtain ⟨t0, t1, t2, t3, h0, h1, h2, h3⟩ := HR3.out.right.c4 (w.heap.size + 1) 59 (.bool m.leaf) (.int .i64 m.ver) (.slice ka1 m.keys.length kc1) (.slice ra1 m.refs.length rc1) (by simp)
  obtain ⟨q0, q1, q2, q3, g0, g1, g2, g3⟩ := HR3.out.right.c4 (w.heap.size + 1 + 1) 59 (.bool false) (.int .i64 0) (.slice none 0 0) (.slice none 0 0) (by simp)
  go_wp2_with fail
  have hgr : Gr 33 2 (.slice adr nr.length cr) nr.length (nr.flatMap rcel) A12 := by
    have h9 := HGadr.out
    rw [HNR.out.2.1] at h9 ⊢
    simpa [List.flatMap_append] using h9
  have HGR := Aside0.mk (And.intro HGk.out hgr)
  clear hgr
  obtain ⟨wg, hw, hg⟩ : ∃ wg, wg = _ ∧ Hv w0 wg ((A12 ++ A7) ++ (cb (w.heap.size + 1 + 1) 59 #[.bool n.leaf, .int .i64 (wrap64 (n.ver + 1)), .slice adk nk.length ck, .slice adr nr.length cr] :: cb (w.heap.size + 1) 59 #[.bool m.leaf, .int .i64 m.ver, .slice ka1 m.keys.length kc1, .slice ra1 m.refs.length rc1] :: cb w.heap.size 59 #[.bool n.leaf, .int .i64 (wrap64 (n.ver + 1)), .slice adk nk.length ck, .slice adr nr.length cr] :: L)) := ⟨_, rfl, (((((putA2 HR3.out 1 (.int .i64 (wrap64 (n.ver + 1))) rfl).putA0 0 (.bool n.leaf) rfl).putA0 1 (.int .i64 (wrap64 (n.ver + 1))) rfl).putA0 2 (.slice adk nk.length ck) rfl).putA0 3 (.slice adr nr.length cr) rfl)⟩
  rw [← hw]
  obtain ⟨e0, e1, e2, e3, -, -, -, -⟩ := hg.right.c4 (w.heap.size + 1 + 1) 59 (.bool n.leaf) (.int .i64 (wrap64 (n.ver + 1))) (.slice adk nk.length ck) (.slice adr nr.length cr) List.mem_cons_self
  exact bodyPost_ret (v := .agg #[.bool n.leaf, .int .i64 (wrap64 (n.ver + 1)), .slice adk nk.length ck, .slice adr nr.length cr]) (by simp [results, Try.results54, go_sem, e0, e1, e2, e3, hu59]) rfl ⟨_, (A12 ++ A7), rfl, ⟨adk, ck, adr, cr, by rw [HF.out, ← HNR.out.1, ← HNR.out.2.1]; rfl, by rw [HF.out, ← HNR.out.1, ← HNR.out.2.1]; exact ⟨(Rdy.of_rw (Rw.of_gr HGR.out.1)).mono (fun p hp => by first | (simp [hp]; done) | (simp [HRL.out p hp]; done)), (Rdy.of_rw (Rw.of_gr HGR.out.2)).mono (fun p hp => by first | (simp [hp]; done) | (simp [HRL.out p hp]; done)), (Rw.of_gr HGR.out.1).2.1, (Rw.of_gr HGR.out.2).2.1⟩⟩, hg.drop (List.Sublist.append_left ((List.sublist_cons_self _ _).trans ((List.sublist_cons_self _ _).trans (List.sublist_cons_self _ _))) (A12 ++ A7))⟩
set_option maxHeartbeats 16000000 in
set_option maxRecDepth 100000 in
theorem rjoin.inner (hv : Hv w0 w L) (hRL : ∀ p ∈ R, p ∈ L) {n m : Nd} {v v1 : Value} (hn : NV w0 R n v) (hm : NV w0 R m v1) (ho : Sm n) (ho1 : Sm m) (k : ByteArray) (hs : n.shape = true) (hs1 : m.shape = true) (hlf : n.leaf = false) (hlm : m.leaf = false) :
    Calls Try.prog 54 #[v, .string k, v1] w (NodeP w0 R L (n.join k m)) := by
  have hu59 := Try.underlying59
  have hu57 := Try.underlying57
  have hu31 := Try.underlying31
  obtain ⟨ka, kc, ra, rc, rfl, hr⟩ := hn
  have HRL := Aside0.mk hRL
  clear hRL
  obtain ⟨ka1, kc1, ra1, rc1, rfl, hr1⟩ := hm
  have HV := Aside0.mk (show Hv w0 _ (cb (w.heap.size + 1 + 1) 59 #[.bool false, .int .i64 0, .slice none 0 0, .slice none 0 0] :: cb (w.heap.size + 1) 59 #[.bool m.leaf, .int .i64 m.ver, .slice ka1 m.keys.length kc1, .slice ra1 m.refs.length rc1] :: cb w.heap.size 59 #[.bool n.leaf, .int .i64 n.ver, .slice ka n.keys.length kc, .slice ra n.refs.length rc] :: L) by
    have := ((hv.alloc (.cells #[.bool n.leaf, .int .i64 n.ver, .slice ka n.keys.length kc, .slice ra n.refs.length rc] 59)).alloc (.cells #[.bool m.leaf, .int .i64 m.ver, .slice ka1 m.keys.length kc1, .slice ra1 m.refs.length rc1] 59)).alloc (.cells #[.bool false, .int .i64 0, .slice none 0 0, .slice none 0 0] 59)
    simpa [cb] using this)
  have HR := Aside0.mk (And.intro hr hr1)
  have HB := Aside0.mk (show n.refs.length < 4611686018427387904 ∧ m.refs.length < 4611686018427387904 from ⟨by have := ho.r; omega, by have := ho1.r; omega⟩)
  obtain ⟨kk, hkk⟩ : ∃ kk, kk = n.keys ++ [k] := ⟨_, rfl⟩
  have hkl : n.keys.length + 1 = kk.length := by rw [hkk]; simp
  obtain ⟨nk, hnk⟩ : ∃ nk, nk = kk ++ m.keys := ⟨_, rfl⟩
  obtain ⟨nr, hnr⟩ : ∃ nr, nr = n.refs ++ m.refs := ⟨_, rfl⟩
  have HF := Aside0.mk (show n.join k m = { n with ver := wrap64 (n.ver + 1), keys := kk ++ m.keys, refs := n.refs ++ m.refs } by unfold Nd.join; rw [hs, hs1, hlf, hlm, hkk]; rfl)
  have HNR := Aside0.mk (And.intro hnk (And.intro hnr (And.intro (show kk.length + m.keys.length = nk.length by rw [hnk]; simp) (show n.refs.length + m.refs.length = nr.length by rw [hnr]; simp))))
  have HBD := Aside0.mk (show (0 + n.keys.length) * 16 ≤ 140737488355328 ∧ (n.keys.length + 1) * 16 ≤ 140737488355328 ∧ (kk.length + m.keys.length) * 16 ≤ 140737488355328 ∧ (0 + n.refs.length) * 16 ≤ 140737488355328 ∧ (n.refs.length + m.refs.length) * 16 ≤ 140737488355328 from ⟨by have := ho.k; omega, by have := ho.k; omega, by have := ho.k; have := ho1.k; omega, by have := ho.r; omega, by have := ho.r; have := ho1.r; omega⟩)
  have HKK := Aside0.mk (And.intro hkk hkl)
  have ew : IntKind.i64.wrap (n.ver + 1) = wrap64 (n.ver + 1) := i64_w _
  have hll : (n.leaf == m.leaf) = true := by rw [hlf, hlm]; rfl
  clear hv hr hr1 ho ho1 hnk hnr hkk hkl
  obtain ⟨y0, y1, y2, y3, f0, f1, f2, f3⟩ := HV.out.c4 w.heap.size 59 (.bool n.leaf) (.int .i64 n.ver) (.slice ka n.keys.length kc) (.slice ra n.refs.length rc) (by simp)
  obtain ⟨t0, t1, t2, t3, h0, h1, h2, h3⟩ := HV.out.c4 (w.heap.size + 1) 59 (.bool m.leaf) (.int .i64 m.ver) (.slice ka1 m.keys.length kc1) (.slice ra1 m.refs.length rc1) (by simp)
  obtain ⟨q0, q1, q2, q3, g0, g1, g2, g3⟩ := HV.out.c4 (w.heap.size + 1 + 1) 59 (.bool false) (.int .i64 0) (.slice none 0 0) (.slice none 0 0) (by simp)
  unfold nval at *
  unfold Nd.shape at hs hs1
  have HLF := Aside0.mk (And.intro hlf hlm)
  clear hlf hlm
  go_enter Try.func54, Try.ntmps54
  go_upto_region 3 with (first | (go_at_call 55; have hx2 := H2.out; clear hx2; go_loud (refine (rshape.calls H2.out m.leaf m.ver ka1 ra1 m.keys.length kc1 m.refs.length rc1 HB.out.2).mono ?_); rw [hs1]; rintro e3 w3 ⟨rfl, hh⟩; have H3 := Aside0.mk hh; clear y0 y1 y2 y3 f0 f1 f2 f3 q0 q1 q2 q3 g0 g1 g2 g3 t0 t1 t2 t3 h0 h1 h2 h3; obtain ⟨y0, y1, y2, y3, f0, f1, f2, f3⟩ := hh.c4 w.heap.size 59 (.bool n.leaf) (.int .i64 n.ver) (.slice ka n.keys.length kc) (.slice ra n.refs.length rc) (by simp); obtain ⟨t0, t1, t2, t3, h0, h1, h2, h3⟩ := hh.c4 (w.heap.size + 1) 59 (.bool m.leaf) (.int .i64 m.ver) (.slice ka1 m.keys.length kc1) (.slice ra1 m.refs.length rc1) (by simp); obtain ⟨q0, q1, q2, q3, g0, g1, g2, g3⟩ := hh.c4 (w.heap.size + 1 + 1) 59 (.bool false) (.int .i64 0) (.slice none 0 0) (.slice none 0 0) (by simp); clear hh) | (go_at_call 55; go_loud (refine (rshape.calls HV.out n.leaf n.ver ka ra n.keys.length kc n.refs.length rc HB.out.1).mono ?_); rw [hs]; rintro e2 w2 ⟨rfl, hh⟩; have H2 := Aside0.mk hh; clear y0 y1 y2 y3 f0 f1 f2 f3 q0 q1 q2 q3 g0 g1 g2 g3 t0 t1 t2 t3 h0 h1 h2 h3; obtain ⟨y0, y1, y2, y3, f0, f1, f2, f3⟩ := hh.c4 w.heap.size 59 (.bool n.leaf) (.int .i64 n.ver) (.slice ka n.keys.length kc) (.slice ra n.refs.length rc) (by simp); obtain ⟨t0, t1, t2, t3, h0, h1, h2, h3⟩ := hh.c4 (w.heap.size + 1) 59 (.bool m.leaf) (.int .i64 m.ver) (.slice ka1 m.keys.length kc1) (.slice ra1 m.refs.length rc1) (by simp); obtain ⟨q0, q1, q2, q3, g0, g1, g2, g3⟩ := hh.c4 (w.heap.size + 1 + 1) 59 (.bool false) (.int .i64 0) (.slice none 0 0) (.slice none 0 0) (by simp); clear hh))
  go_upto_region 4 with ((with_reducible refine gate_builtin (b := .append) (xs := #[.const (.slice none 0 0), .tmp 25]) rfl ?_); at_builtin; go_loud (refine append_rows (w0 := w0) (A := []) (L := cb (w.heap.size + 1 + 1) 59 #[.bool false, .int .i64 0, .slice none 0 0, .slice none 0 0] :: cb (w.heap.size + 1) 59 #[.bool m.leaf, .int .i64 m.ver, .slice ka1 m.keys.length kc1, .slice ra1 m.refs.length rc1] :: cb w.heap.size 59 #[.bool n.leaf, .int .i64 n.ver, .slice ka n.keys.length kc, .slice ra n.refs.length rc] :: L) rfl (.const (.slice none 0 0)) (.tmp 25) 57 9 (.string ⟨#[]⟩) 1 16 rfl Try.underlying57 copS.info rfl (by decide) (by decide) (.slice none 0 0) (0) ([]) rfl (ka) (n.keys.length) (kc) (n.keys.map Value.string) rfl (kcel_one _) (Gr.nil 9 1) (show Hv w0 _ ([] ++ (cb (w.heap.size + 1 + 1) 59 #[.bool false, .int .i64 0, .slice none 0 0, .slice none 0 0] :: cb (w.heap.size + 1) 59 #[.bool m.leaf, .int .i64 m.ver, .slice ka1 m.keys.length kc1, .slice ra1 m.refs.length rc1] :: cb w.heap.size 59 #[.bool n.leaf, .int .i64 n.ver, .slice ka n.keys.length kc, .slice ra n.refs.length rc] :: L)) from H3.out) (HR.out.1.k _ _ H3.out (fun p hp => by first | (simp [hp]; done) | (simp [HRL.out p hp]; done))) HBD.out.1 ?_); intro v8 w4 A4 hG8 hv8; obtain ⟨ad4, c4, rfl, -⟩ := hG8.form; rw [Nat.zero_add n.keys.length, List.nil_append] at hG8; rw [Nat.zero_add n.keys.length]; have HG4 := Aside0.mk hG8; have H4 := Aside0.mk hv8; clear hG8 hv8; clear y0 y1 y2 y3 f0 f1 f2 f3 q0 q1 q2 q3 g0 g1 g2 g3 t0 t1 t2 t3 h0 h1 h2 h3; obtain ⟨y0, y1, y2, y3, f0, f1, f2, f3⟩ := H4.out.right.c4 w.heap.size 59 (.bool n.leaf) (.int .i64 n.ver) (.slice ka n.keys.length kc) (.slice ra n.refs.length rc) (by simp); obtain ⟨t0, t1, t2, t3, h0, h1, h2, h3⟩ := H4.out.right.c4 (w.heap.size + 1) 59 (.bool m.leaf) (.int .i64 m.ver) (.slice ka1 m.keys.length kc1) (.slice ra1 m.refs.length rc1) (by simp); obtain ⟨q0, q1, q2, q3, g0, g1, g2, g3⟩ := H4.out.right.c4 (w.heap.size + 1 + 1) 59 (.bool false) (.int .i64 0) (.slice none 0 0) (.slice none 0 0) (by simp))
  have hlf := HLF.out.1
  go_upto_region 5 with (fail)
  clear hlf
  have h5 := H4.out.alloc (.cells #[.string k] 9)
  have H5 := Aside0.mk (show Hv w0 (w4.alloc (.cells #[.string k] 9)) (A4 ++ (cb w4.heap.size 9 #[.string k] :: cb (w.heap.size + 1 + 1) 59 #[.bool false, .int .i64 0, .slice none 0 0, .slice none 0 0] :: cb (w.heap.size + 1) 59 #[.bool m.leaf, .int .i64 m.ver, .slice ka1 m.keys.length kc1, .slice ra1 m.refs.length rc1] :: cb w.heap.size 59 #[.bool n.leaf, .int .i64 n.ver, .slice ka n.keys.length kc, .slice ra n.refs.length rc] :: L)) from h5.perm List.perm_middle)
  clear h5
  have HRN := Aside0.mk ((Rdy.of_rw (w0 := w0) (size := 1) (n := 1) (e := 9) (c := 1) (L := A4 ++ (cb w4.heap.size 9 #[.string k] :: cb (w.heap.size + 1 + 1) 59 #[.bool false, .int .i64 0, .slice none 0 0, .slice none 0 0] :: cb (w.heap.size + 1) 59 #[.bool m.leaf, .int .i64 m.ver, .slice ka1 m.keys.length kc1, .slice ra1 m.refs.length rc1] :: cb w.heap.size 59 #[.bool n.leaf, .int .i64 n.ver, .slice ka n.keys.length kc, .slice ra n.refs.length rc] :: L)) (ad := some ⟨w4.heap.size, 0, none⟩) (xs := [.string k]) ⟨rfl, Nat.le_refl _, fun _ => ⟨w4.heap.size, 0, _, rfl, (by simp : cb w4.heap.size 9 #[.string k] ∈ _), fun i _ => by rw [Nat.zero_add]; simp⟩⟩).now H5.out)
  go_upto_region 6 with ((with_reducible refine gate_builtin (b := .append) (xs := #[.tmp 30, .tmp 32]) rfl ?_); at_builtin; go_loud (refine append_rows (w0 := w0) (A := A4) (L := cb w4.heap.size 9 #[.string k] :: cb (w.heap.size + 1 + 1) 59 #[.bool false, .int .i64 0, .slice none 0 0, .slice none 0 0] :: cb (w.heap.size + 1) 59 #[.bool m.leaf, .int .i64 m.ver, .slice ka1 m.keys.length kc1, .slice ra1 m.refs.length rc1] :: cb w.heap.size 59 #[.bool n.leaf, .int .i64 n.ver, .slice ka n.keys.length kc, .slice ra n.refs.length rc] :: L) rfl (.tmp 30) (.tmp 32) 57 9 (.string ⟨#[]⟩) 1 16 rfl Try.underlying57 copS.info rfl (by decide) (by decide) (.slice ad4 n.keys.length c4) (n.keys.length) (n.keys.map Value.string) rfl (some ⟨w4.heap.size, 0, none⟩) (1) (1) ([.string k]) rfl (by intro u hu; simp at hu; subst hu; rfl) (HG4.out) (H5.out) (HRN.out) HBD.out.2.1 ?_); intro v8 w5 A5 hG8 hv8; obtain ⟨ad5, c5, rfl, -⟩ := hG8.form; rw [HKK.out.2] at hG8 ⊢; have HG5 := Aside0.mk (show Gr 9 1 (.slice ad5 kk.length c5) kk.length (kk.map Value.string) A5 by rw [HKK.out.1] at hG8 ⊢; simpa using hG8); have H6 := Aside0.mk (show Hv w0 w5 (A5 ++ (cb (w.heap.size + 1 + 1) 59 #[.bool false, .int .i64 0, .slice none 0 0, .slice none 0 0] :: cb (w.heap.size + 1) 59 #[.bool m.leaf, .int .i64 m.ver, .slice ka1 m.keys.length kc1, .slice ra1 m.refs.length rc1] :: cb w.heap.size 59 #[.bool n.leaf, .int .i64 n.ver, .slice ka n.keys.length kc, .slice ra n.refs.length rc] :: L)) from hv8.drop (List.Sublist.append_left (List.sublist_cons_self _ _) A5)); clear hG8 hv8; clear y0 y1 y2 y3 f0 f1 f2 f3 q0 q1 q2 q3 g0 g1 g2 g3 t0 t1 t2 t3 h0 h1 h2 h3; obtain ⟨y0, y1, y2, y3, f0, f1, f2, f3⟩ := H6.out.right.c4 w.heap.size 59 (.bool n.leaf) (.int .i64 n.ver) (.slice ka n.keys.length kc) (.slice ra n.refs.length rc) (by simp); obtain ⟨t0, t1, t2, t3, h0, h1, h2, h3⟩ := H6.out.right.c4 (w.heap.size + 1) 59 (.bool m.leaf) (.int .i64 m.ver) (.slice ka1 m.keys.length kc1) (.slice ra1 m.refs.length rc1) (by simp); obtain ⟨q0, q1, q2, q3, g0, g1, g2, g3⟩ := H6.out.right.c4 (w.heap.size + 1 + 1) 59 (.bool false) (.int .i64 0) (.slice none 0 0) (.slice none 0 0) (by simp))
  go_upto_region 8 with ((with_reducible refine gate_builtin (b := .append) (xs := #[.tmp 34, .tmp 36]) rfl ?_); at_builtin; go_loud (refine append_rows (w0 := w0) (A := A5) (L := cb (w.heap.size + 1 + 1) 59 #[.bool false, .int .i64 0, .slice none 0 0, .slice none 0 0] :: cb (w.heap.size + 1) 59 #[.bool m.leaf, .int .i64 m.ver, .slice ka1 m.keys.length kc1, .slice ra1 m.refs.length rc1] :: cb w.heap.size 59 #[.bool n.leaf, .int .i64 n.ver, .slice ka n.keys.length kc, .slice ra n.refs.length rc] :: L) rfl (.tmp 34) (.tmp 36) 57 9 (.string ⟨#[]⟩) 1 16 rfl Try.underlying57 copS.info rfl (by decide) (by decide) (.slice ad5 kk.length c5) (kk.length) (kk.map Value.string) rfl (ka1) (m.keys.length) (kc1) (m.keys.map Value.string) rfl (kcel_one _) (HG5.out) (H6.out) (HR.out.2.k _ _ H6.out (fun p hp => by first | (simp [hp]; done) | (simp [HRL.out p hp]; done))) HBD.out.2.2.1 ?_); intro v8 w7 A7 hG8 hv8; obtain ⟨adk, ck, rfl, -⟩ := hG8.form; rw [HNR.out.2.2.1] at hG8 ⊢; have HGk := Aside0.mk (show Gr 9 1 (.slice adk nk.length ck) nk.length (nk.map Value.string) A7 by rw [HNR.out.1] at hG8 ⊢; simpa using hG8); have H7 := Aside0.mk hv8; clear hG8 hv8; clear y0 y1 y2 y3 f0 f1 f2 f3 q0 q1 q2 q3 g0 g1 g2 g3 t0 t1 t2 t3 h0 h1 h2 h3; obtain ⟨y0, y1, y2, y3, f0, f1, f2, f3⟩ := H7.out.right.c4 w.heap.size 59 (.bool n.leaf) (.int .i64 n.ver) (.slice ka n.keys.length kc) (.slice ra n.refs.length rc) (by simp); obtain ⟨t0, t1, t2, t3, h0, h1, h2, h3⟩ := H7.out.right.c4 (w.heap.size + 1) 59 (.bool m.leaf) (.int .i64 m.ver) (.slice ka1 m.keys.length kc1) (.slice ra1 m.refs.length rc1) (by simp); obtain ⟨q0, q1, q2, q3, g0, g1, g2, g3⟩ := H7.out.right.c4 (w.heap.size + 1 + 1) 59 (.bool false) (.int .i64 0) (.slice none 0 0) (.slice none 0 0) (by simp))
  obtain ⟨W8, hW, hv8⟩ : ∃ W8, W8 = w7.setCell ⟨w.heap.size, 2, none⟩ (.slice adk nk.length ck) ∧ Hv w0 W8 (A7 ++ (cb (w.heap.size + 1 + 1) 59 #[.bool false, .int .i64 0, .slice none 0 0, .slice none 0 0] :: cb (w.heap.size + 1) 59 #[.bool m.leaf, .int .i64 m.ver, .slice ka1 m.keys.length kc1, .slice ra1 m.refs.length rc1] :: cb w.heap.size 59 #[.bool n.leaf, .int .i64 n.ver, .slice adk nk.length ck, .slice ra n.refs.length rc] :: L)) := ⟨_, rfl, putA2 H7.out 2 _ rfl⟩
  rw [← hW]
  have H8d := Aside0.mk hv8.drew
  clear hW hv8
  clear y0 y1 y2 y3 f0 f1 f2 f3 q0 q1 q2 q3 g0 g1 g2 g3 t0 t1 t2 t3 h0 h1 h2 h3
  have SP := Aside0.mk (show ∀ (w' : World) (L' : List Ob), Hv w0 w' L' → cb w.heap.size 59 #[.bool n.leaf, .int .i64 n.ver, .slice adk nk.length ck, .slice ra n.refs.length rc] ∈ L' → cb (w.heap.size + 1) 59 #[.bool m.leaf, .int .i64 m.ver, .slice ka1 m.keys.length kc1, .slice ra1 m.refs.length rc1] ∈ L' → (w'.cell? ⟨w.heap.size, 0, none⟩ = some (.bool n.leaf) ∧ w'.cell? ⟨w.heap.size, 1, none⟩ = some (.int .i64 n.ver) ∧ w'.cell? ⟨w.heap.size, 2, none⟩ = some (.slice adk nk.length ck) ∧ w'.cell? ⟨w.heap.size, 3, none⟩ = some (.slice ra n.refs.length rc) ∧ w'.cell? ⟨w.heap.size + 1, 0, none⟩ = some (.bool m.leaf) ∧ w'.cell? ⟨w.heap.size + 1, 1, none⟩ = some (.int .i64 m.ver) ∧ w'.cell? ⟨w.heap.size + 1, 2, none⟩ = some (.slice ka1 m.keys.length kc1) ∧ w'.cell? ⟨w.heap.size + 1, 3, none⟩ = some (.slice ra1 m.refs.length rc1)) from fun w' L' h m3 m5 => by
    obtain ⟨p0, p1, p2, p3, -, -, -, -⟩ := h.c4 _ _ _ _ _ _ m3
    obtain ⟨p4, p5, p6, p7, -, -, -, -⟩ := h.c4 _ _ _ _ _ _ m5
    exact ⟨p0, p1, p2, p3, p4, p5, p6, p7⟩)
  refine start_ (n := 8) (S := fun w' => w'.cell? ⟨w.heap.size, 0, none⟩ = some (.bool n.leaf) ∧ w'.cell? ⟨w.heap.size, 1, none⟩ = some (.int .i64 n.ver) ∧ w'.cell? ⟨w.heap.size, 2, none⟩ = some (.slice adk nk.length ck) ∧ w'.cell? ⟨w.heap.size, 3, none⟩ = some (.slice ra n.refs.length rc) ∧ w'.cell? ⟨w.heap.size + 1, 0, none⟩ = some (.bool m.leaf) ∧ w'.cell? ⟨w.heap.size + 1, 1, none⟩ = some (.int .i64 m.ver) ∧ w'.cell? ⟨w.heap.size + 1, 2, none⟩ = some (.slice ka1 m.keys.length kc1) ∧ w'.cell? ⟨w.heap.size + 1, 3, none⟩ = some (.slice ra1 m.refs.length rc1)) (ds := [7]) #[false, false, false, false, false, false, false, false] (by kernel_rfl) rfl rfl (SP.out _ _ H8d.out (by simp) (by simp)) (fun hHeld => ?_)
  generalize W8.drew = wr0 at H8d hHeld ⊢
  refine pure_ (i := 0) (N := some 40) (v := ?_) (a' := ?_) #[true, false, false, false, false, false, false, false] rfl rfl (by kernel_rfl) (fun _ _ _ h => h) (Or.inl ⟨by rfl, ?_⟩) ?_ ?_
  rotate_left
  · intro w'
    go_simp
    with_reducible rfl
  rotate_left
  · simp only [Act.put, List.setIfInBounds_toArray, List.set_cons_zero, List.set_cons_succ, i64_w, i32_w]
    rfl
  refine pure_ (i := 3) (N := some 43) (v := ?_) (a' := ?_) #[true, false, false, true, false, false, false, false] rfl rfl (by kernel_rfl) (fun _ _ _ h => h) (Or.inl ⟨by rfl, ?_⟩) ?_ ?_
  rotate_left
  · intro w'
    go_simp
    with_reducible rfl
  rotate_left
  · simp only [Act.put, List.setIfInBounds_toArray, List.set_cons_zero, List.set_cons_succ, i64_w, i32_w]
    rfl
  refine take_ (i := 1) (N := some 41) (v := ?_) (a' := ?_) #[true, true, false, true, false, false, false, false] rfl rfl (by kernel_rfl) (fun _ _ _ h => h) (Or.inl ⟨by rfl, ?_⟩) hHeld ?_ ?_
  rotate_left
  · rintro w' ⟨s0, s1, s2, s3, s4, s5, s6, s7⟩
    go_simp
    with_reducible rfl
  rotate_left
  · simp only [Act.put, List.setIfInBounds_toArray, List.set_cons_zero, List.set_cons_succ, i64_w, i32_w]
    rfl
  refine take_ (i := 4) (N := some 44) (v := ?_) (a' := ?_) #[true, true, false, true, true, false, false, false] rfl rfl (by kernel_rfl) (fun _ _ _ h => h) (Or.inl ⟨by rfl, ?_⟩) hHeld ?_ ?_
  rotate_left
  · rintro w' ⟨s0, s1, s2, s3, s4, s5, s6, s7⟩
    go_simp
    with_reducible rfl
  rotate_left
  · simp only [Act.put, List.setIfInBounds_toArray, List.set_cons_zero, List.set_cons_succ, i64_w, i32_w]
    rfl
  refine one_ (i := 2) (N := some 42) #[true, true, true, true, true, false, false, false] rfl rfl (by kernel_rfl) (by decide) (fun K hK => ?_)
  refine append_rows_step (w0 := w0) (A := []) (L := A7 ++ (cb (w.heap.size + 1 + 1) 59 #[.bool false, .int .i64 0, .slice none 0 0, .slice none 0 0] :: cb (w.heap.size + 1) 59 #[.bool m.leaf, .int .i64 m.ver, .slice ka1 m.keys.length kc1, .slice ra1 m.refs.length rc1] :: cb w.heap.size 59 #[.bool n.leaf, .int .i64 n.ver, .slice adk nk.length ck, .slice ra n.refs.length rc] :: L)) (by rfl) (.const (.slice none 0 0)) (.tmp 41) 31 33 (.agg #[.int .i64 0, .int .i64 0]) 2 16 rfl Try.underlying31 copR.info rfl (by decide) (by decide) (.slice none 0 0) (0) ([]) (by first | rfl | (go_simp; done) | (go_simp; rfl)) (ra) (n.refs.length) (rc) (n.refs.flatMap rcel) (by first | rfl | (go_simp; done) | (go_simp; rfl)) (rcel_one _) (Gr.nil 33 2) (show Hv w0 _ ([] ++ (A7 ++ (cb (w.heap.size + 1 + 1) 59 #[.bool false, .int .i64 0, .slice none 0 0, .slice none 0 0] :: cb (w.heap.size + 1) 59 #[.bool m.leaf, .int .i64 m.ver, .slice ka1 m.keys.length kc1, .slice ra1 m.refs.length rc1] :: cb w.heap.size 59 #[.bool n.leaf, .int .i64 n.ver, .slice adk nk.length ck, .slice ra n.refs.length rc] :: L))) from H8d.out) (HR.out.1.r _ _ H8d.out (fun p hp => by first | (simp [hp]; done) | (simp [HRL.out p hp]; done))) HBD.out.2.2.2.1 ?_
  intro v5 wr1 A11 hG hv5
  obtain ⟨adq, cq, rfl, -⟩ := hG.form
  rw [Nat.zero_add n.refs.length, List.nil_append] at hG; rw [Nat.zero_add n.refs.length]
  have HGadq := Aside0.mk hG
  have HR1 := Aside0.mk (show Hv w0 wr1 (A11 ++ (A7 ++ (cb (w.heap.size + 1 + 1) 59 #[.bool false, .int .i64 0, .slice none 0 0, .slice none 0 0] :: cb (w.heap.size + 1) 59 #[.bool m.leaf, .int .i64 m.ver, .slice ka1 m.keys.length kc1, .slice ra1 m.refs.length rc1] :: cb w.heap.size 59 #[.bool n.leaf, .int .i64 n.ver, .slice adk nk.length ck, .slice ra n.refs.length rc] :: L))) from hv5)
  clear hG hv5
  refine hK.out _ _ (SP.out _ _ HR1.out (by simp) (by simp)) (fun hHeld => ?_)
  clear hK K
  refine norm_ (a' := ?_) ?_ ?_
  rotate_left
  · show Act.put _ (some 42) _ = _
    simp only [Act.put, List.setIfInBounds_toArray, List.set_cons_zero, List.set_cons_succ, i64_w, i32_w]
    rfl
  refine one_ (i := 5) (N := some 45) #[true, true, true, true, true, true, false, false] rfl rfl (by kernel_rfl) (by decide) (fun K hK => ?_)
  refine append_rows_step (w0 := w0) (A := A11) (L := A7 ++ (cb (w.heap.size + 1 + 1) 59 #[.bool false, .int .i64 0, .slice none 0 0, .slice none 0 0] :: cb (w.heap.size + 1) 59 #[.bool m.leaf, .int .i64 m.ver, .slice ka1 m.keys.length kc1, .slice ra1 m.refs.length rc1] :: cb w.heap.size 59 #[.bool n.leaf, .int .i64 n.ver, .slice adk nk.length ck, .slice ra n.refs.length rc] :: L)) (by rfl) (.tmp 42) (.tmp 44) 31 33 (.agg #[.int .i64 0, .int .i64 0]) 2 16 rfl Try.underlying31 copR.info rfl (by decide) (by decide) (.slice adq n.refs.length cq) (n.refs.length) (n.refs.flatMap rcel) (by first | rfl | (go_simp; done) | (go_simp; rfl)) (ra1) (m.refs.length) (rc1) (m.refs.flatMap rcel) (by first | rfl | (go_simp; done) | (go_simp; rfl)) (rcel_one _) (HGadq.out) (HR1.out) (HR.out.2.r _ _ HR1.out (fun p hp => by first | (simp [hp]; done) | (simp [HRL.out p hp]; done))) HBD.out.2.2.2.2 ?_
  intro v5 wr2 A12 hG hv5
  obtain ⟨adr, cr, rfl, -⟩ := hG.form
  rw [HNR.out.2.2.2] at hG ⊢
  have HGadr := Aside0.mk hG
  have HR2 := Aside0.mk (show Hv w0 wr2 (A12 ++ (A7 ++ (cb (w.heap.size + 1 + 1) 59 #[.bool false, .int .i64 0, .slice none 0 0, .slice none 0 0] :: cb (w.heap.size + 1) 59 #[.bool m.leaf, .int .i64 m.ver, .slice ka1 m.keys.length kc1, .slice ra1 m.refs.length rc1] :: cb w.heap.size 59 #[.bool n.leaf, .int .i64 n.ver, .slice adk nk.length ck, .slice ra n.refs.length rc] :: L))) from hv5)
  clear hG hv5
  refine hK.out _ _ (SP.out _ _ HR2.out (by simp) (by simp)) (fun hHeld => ?_)
  clear hK K
  refine norm_ (a' := ?_) ?_ ?_
  rotate_left
  · show Act.put _ (some 45) _ = _
    simp only [Act.put, List.setIfInBounds_toArray, List.set_cons_zero, List.set_cons_succ, i64_w, i32_w]
    rfl
  refine pure_ (i := 6) (N := some 46) (v := ?_) (a' := ?_) #[true, true, true, true, true, true, true, false] rfl rfl (by kernel_rfl) (fun _ _ _ h => h) (Or.inl ⟨by rfl, ?_⟩) ?_ ?_
  rotate_left
  · intro w'
    go_simp
    with_reducible rfl
  rotate_left
  · simp only [Act.put, List.setIfInBounds_toArray, List.set_cons_zero, List.set_cons_succ, i64_w, i32_w]
    rfl
  refine last_ (i := 7) (N := none) #[true, true, true, true, true, true, true, true] rfl rfl (by kernel_rfl) (by decide) (fun K hK => ?_)
  have HS := Aside0.mk (show Hv w0 wr2 ((A12 ++ A7) ++ (cb (w.heap.size + 1 + 1) 59 #[.bool false, .int .i64 0, .slice none 0 0, .slice none 0 0] :: cb (w.heap.size + 1) 59 #[.bool m.leaf, .int .i64 m.ver, .slice ka1 m.keys.length kc1, .slice ra1 m.refs.length rc1] :: cb w.heap.size 59 #[.bool n.leaf, .int .i64 n.ver, .slice adk nk.length ck, .slice ra n.refs.length rc] :: L)) by rw [List.append_assoc]; exact HR2.out)
  obtain ⟨y0, y1, y2, y3, f0, f1, f2, f3⟩ := HS.out.right.c4 w.heap.size 59 (.bool n.leaf) (.int .i64 n.ver) (.slice adk nk.length ck) (.slice ra n.refs.length rc) (by simp)
  refine skip_ (w1 := ?_) (by rfl) rfl ?_ ?_
  rotate_left
  · go_simp
    rfl
  refine hK.out _ _ ?_
  clear hK K y0 y1 y2 y3 f0 f1 f2 f3
  obtain ⟨wr3, hW, hvv⟩ : ∃ wr3, wr3 = wr2.setCell ⟨w.heap.size, 3, none⟩ (.slice adr nr.length cr) ∧ Hv w0 wr3 ((A12 ++ A7) ++ (cb (w.heap.size + 1 + 1) 59 #[.bool false, .int .i64 0, .slice none 0 0, .slice none 0 0] :: cb (w.heap.size + 1) 59 #[.bool m.leaf, .int .i64 m.ver, .slice ka1 m.keys.length kc1, .slice ra1 m.refs.length rc1] :: cb w.heap.size 59 #[.bool n.leaf, .int .i64 n.ver, .slice adk nk.length ck, .slice adr nr.length cr] :: L)) := ⟨_, rfl, putA2 HS.out 3 _ rfl⟩
  rw [← hW]
  have HR3 := Aside0.mk hvv
  clear hW hvv HS
  refine done_ (by kernel_rfl) ?_
  obtain ⟨y0, y1, y2, y3, f0, f1, f2, f3⟩ := HR3.out.right.c4 w.heap.size 59 (.bool n.leaf) (.int .i64 n.ver) (.slice adk nk.length ck) (.slice adr nr.length cr) (by simp)
  obtain ⟨t0, t1, t2, t3, h0, h1, h2, h3⟩ := HR3.out.right.c4 (w.heap.size + 1) 59 (.bool m.leaf) (.int .i64 m.ver) (.slice ka1 m.keys.length kc1) (.slice ra1 m.refs.length rc1) (by simp)
  obtain ⟨q0, q1, q2, q3, g0, g1, g2, g3⟩ := HR3.out.right.c4 (w.heap.size + 1 + 1) 59 (.bool false) (.int .i64 0) (.slice none 0 0) (.slice none 0 0) (by simp)
  go_wp2_with fail
  have hgr : Gr 33 2 (.slice adr nr.length cr) nr.length (nr.flatMap rcel) A12 := by
    have h9 := HGadr.out
    rw [HNR.out.2.1] at h9 ⊢
    simpa [List.flatMap_append] using h9
  have HGR := Aside0.mk (And.intro HGk.out hgr)
  clear hgr
  obtain ⟨wg, hw, hg⟩ : ∃ wg, wg = _ ∧ Hv w0 wg ((A12 ++ A7) ++ (cb (w.heap.size + 1 + 1) 59 #[.bool n.leaf, .int .i64 (wrap64 (n.ver + 1)), .slice adk nk.length ck, .slice adr nr.length cr] :: cb (w.heap.size + 1) 59 #[.bool m.leaf, .int .i64 m.ver, .slice ka1 m.keys.length kc1, .slice ra1 m.refs.length rc1] :: cb w.heap.size 59 #[.bool n.leaf, .int .i64 (wrap64 (n.ver + 1)), .slice adk nk.length ck, .slice adr nr.length cr] :: L)) := ⟨_, rfl, (((((putA2 HR3.out 1 (.int .i64 (wrap64 (n.ver + 1))) rfl).putA0 0 (.bool n.leaf) rfl).putA0 1 (.int .i64 (wrap64 (n.ver + 1))) rfl).putA0 2 (.slice adk nk.length ck) rfl).putA0 3 (.slice adr nr.length cr) rfl)⟩
  rw [← hw]
  obtain ⟨e0, e1, e2, e3, -, -, -, -⟩ := hg.right.c4 (w.heap.size + 1 + 1) 59 (.bool n.leaf) (.int .i64 (wrap64 (n.ver + 1))) (.slice adk nk.length ck) (.slice adr nr.length cr) List.mem_cons_self
  exact bodyPost_ret (v := .agg #[.bool n.leaf, .int .i64 (wrap64 (n.ver + 1)), .slice adk nk.length ck, .slice adr nr.length cr]) (by simp [results, Try.results54, go_sem, e0, e1, e2, e3, hu59]) rfl ⟨_, (A12 ++ A7), rfl, ⟨adk, ck, adr, cr, by rw [HF.out, ← HNR.out.1, ← HNR.out.2.1]; rfl, by rw [HF.out, ← HNR.out.1, ← HNR.out.2.1]; exact ⟨(Rdy.of_rw (Rw.of_gr HGR.out.1)).mono (fun p hp => by first | (simp [hp]; done) | (simp [HRL.out p hp]; done)), (Rdy.of_rw (Rw.of_gr HGR.out.2)).mono (fun p hp => by first | (simp [hp]; done) | (simp [HRL.out p hp]; done)), (Rw.of_gr HGR.out.1).2.1, (Rw.of_gr HGR.out.2).2.1⟩⟩, hg.drop (List.Sublist.append_left ((List.sublist_cons_self _ _).trans ((List.sublist_cons_self _ _).trans (List.sublist_cons_self _ _))) (A12 ++ A7))⟩
set_option maxHeartbeats 4000000 in
theorem rjoin.calls (hv : Hv w0 w L) (hRL : ∀ p ∈ R, p ∈ L) {n m : Nd} {v v1 : Value} (hn : NV w0 R n v) (hm : NV w0 R m v1) (ho : Sm n) (ho1 : Sm m) (k : ByteArray) : Calls Try.prog 54 #[v, .string k, v1] w (NodeP w0 R L (n.join k m)) := by
  have hb : n.refs.length < 4611686018427387904 ∧ m.refs.length < 4611686018427387904 := ⟨by have := ho.r; omega, by have := ho1.r; omega⟩
  cases h : (n.shape && m.shape && (n.leaf == m.leaf))
  · exact rjoin.neg hv hRL hn hm hb k h
  · simp only [Bool.and_eq_true, beq_iff_eq] at h
    obtain ⟨⟨h1, h2⟩, h3⟩ := h
    cases h4 : n.leaf
    · exact rjoin.inner hv hRL hn hm ho ho1 k h1 h2 h4 (by rw [← h3, h4])
    · exact rjoin.leaf hv hRL hn hm ho ho1 k h1 h2 h4 (by rw [← h3, h4])
end Go.Proofs.Ytglbcfkmaamhaaa.Nd
