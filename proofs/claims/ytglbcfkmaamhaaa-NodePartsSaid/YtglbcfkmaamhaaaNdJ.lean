/- node: Join. No condition. -/
import Derived.Test.YtglbcfkmaamhaaaNdG
set_option linter.unusedVariables false
set_option linter.unusedSimpArgs false
namespace Go.Proofs.Ytglbcfkmaamhaaa.Nd
open Go Go.RowKit Go.Proofs.YtglbcfkmaamhaaaW.PrintWords Go.Proofs.YtglbcfkmaamhaaaW.PrintLast Go.Proofs.YtglbcfkmaamhaaaW.PrintMore Go.Proofs.Ytglbcfkmaamhaaa.Hv
variable {w0 w w1 : World} {g : Nat} {L L' R : List Ob}
structure Sm (n : Nd) : Prop where
  k : n.keys.length ≤ 1000000
  r : n.refs.length ≤ 1000000
theorem Ok.sm {n : Nd} (h : Ok n) : Sm n := ⟨h.k, h.r⟩
def Nd.join (n : Nd) (k : ByteArray) (m : Nd) : Nd :=
  if n.shape && m.shape && (n.leaf == m.leaf) then { n with ver := wrap64 (n.ver + 1), keys := (if n.leaf then n.keys else n.keys ++ [k]) ++ m.keys, refs := n.refs ++ m.refs } else n
set_option maxHeartbeats 16000000 in
set_option maxRecDepth 100000 in
theorem join.neg (hv : Hv w0 w L) (hRL : ∀ p ∈ R, p ∈ L) {n m : Nd} {v v1 : Value} (hn : NV w0 R n v) (hm : NV w0 R m v1) (hb : n.refs.length < 4611686018427387904 ∧ m.refs.length < 4611686018427387904) (k : ByteArray) (hno : (n.shape && m.shape && (n.leaf == m.leaf)) = false) :
    Calls Try.prog 53 #[v, .string k, v1] w (NodeP w0 R L (n.join k m)) := by
  have hu59 := Try.underlying59
  have hu57 := Try.underlying57
  have hu31 := Try.underlying31
  have hu33 := Try.underlying33
  obtain ⟨ka, kc, ra, rc, rfl, hr⟩ := hn
  have HRL := Aside0.mk hRL
  clear hRL
  obtain ⟨ka1, kc1, ra1, rc1, rfl, hr1⟩ := hm
  have HV := Aside0.mk (show Hv w0 _ (cb (w.heap.size + 1 + 1) 59 #[.bool false, .int .i64 0, .slice none 0 0, .slice none 0 0] :: cb (w.heap.size + 1) 59 #[.bool m.leaf, .int .i64 m.ver, .slice ka1 m.keys.length kc1, .slice ra1 m.refs.length rc1] :: cb w.heap.size 59 #[.bool n.leaf, .int .i64 n.ver, .slice ka n.keys.length kc, .slice ra n.refs.length rc] :: L) by
    have := ((hv.alloc (.cells #[.bool n.leaf, .int .i64 n.ver, .slice ka n.keys.length kc, .slice ra n.refs.length rc] 59)).alloc (.cells #[.bool m.leaf, .int .i64 m.ver, .slice ka1 m.keys.length kc1, .slice ra1 m.refs.length rc1] 59)).alloc (.cells #[.bool false, .int .i64 0, .slice none 0 0, .slice none 0 0] 59)
    simpa [cb] using this)
  have HR := Aside0.mk (And.intro hr hr1)
  have HB := Aside0.mk hb
  have HF := Aside0.mk (show n.join k m = n by unfold Nd.join; rw [hno]; rfl)
  clear hv hr hr1 hb
  obtain ⟨y0, y1, y2, y3, f0, f1, f2, f3⟩ := HV.out.c4 w.heap.size 59 (.bool n.leaf) (.int .i64 n.ver) (.slice ka n.keys.length kc) (.slice ra n.refs.length rc) (by simp)
  obtain ⟨t0, t1, t2, t3, h0, h1, h2, h3⟩ := HV.out.c4 (w.heap.size + 1) 59 (.bool m.leaf) (.int .i64 m.ver) (.slice ka1 m.keys.length kc1) (.slice ra1 m.refs.length rc1) (by simp)
  obtain ⟨q0, q1, q2, q3, g0, g1, g2, g3⟩ := HV.out.c4 (w.heap.size + 1 + 1) 59 (.bool false) (.int .i64 0) (.slice none 0 0) (.slice none 0 0) (by simp)
  unfold nval at *
  cases hs' : n.shape
  · have hs : shp n.leaf n.keys.length n.refs.length = false := hs'
    clear hno hs'
    go_enter Try.func53, Try.ntmps53
    go_wp2_with (go_at_call 93; go_loud (refine (shape.calls HV.out n.leaf n.ver ka ra n.keys.length kc n.refs.length rc HB.out.1).mono ?_); rw [hs]; rintro e2 w2 ⟨rfl, hh⟩; have H2 := Aside0.mk hh; clear y0 y1 y2 y3 f0 f1 f2 f3 q0 q1 q2 q3 g0 g1 g2 g3 t0 t1 t2 t3 h0 h1 h2 h3; obtain ⟨y0, y1, y2, y3, f0, f1, f2, f3⟩ := hh.c4 w.heap.size 59 (.bool n.leaf) (.int .i64 n.ver) (.slice ka n.keys.length kc) (.slice ra n.refs.length rc) (by simp); obtain ⟨t0, t1, t2, t3, h0, h1, h2, h3⟩ := hh.c4 (w.heap.size + 1) 59 (.bool m.leaf) (.int .i64 m.ver) (.slice ka1 m.keys.length kc1) (.slice ra1 m.refs.length rc1) (by simp); obtain ⟨q0, q1, q2, q3, g0, g1, g2, g3⟩ := hh.c4 (w.heap.size + 1 + 1) 59 (.bool false) (.int .i64 0) (.slice none 0 0) (.slice none 0 0) (by simp); clear hh)
    obtain ⟨wg, hw, hg⟩ : ∃ wg, wg = _ ∧ Hv w0 wg ([] ++ (cb (w.heap.size + 1 + 1) 59 #[.bool n.leaf, .int .i64 n.ver, .slice ka n.keys.length kc, .slice ra n.refs.length rc] :: cb (w.heap.size + 1) 59 #[.bool m.leaf, .int .i64 m.ver, .slice ka1 m.keys.length kc1, .slice ra1 m.refs.length rc1] :: cb w.heap.size 59 #[.bool n.leaf, .int .i64 n.ver, .slice ka n.keys.length kc, .slice ra n.refs.length rc] :: L)) := ⟨_, rfl, (((((show Hv w0 w2 ([] ++ (cb (w.heap.size + 1 + 1) 59 #[.bool false, .int .i64 0, .slice none 0 0, .slice none 0 0] :: cb (w.heap.size + 1) 59 #[.bool m.leaf, .int .i64 m.ver, .slice ka1 m.keys.length kc1, .slice ra1 m.refs.length rc1] :: cb w.heap.size 59 #[.bool n.leaf, .int .i64 n.ver, .slice ka n.keys.length kc, .slice ra n.refs.length rc] :: L)) from H2.out).putA0 0 (.bool n.leaf) rfl).putA0 1 (.int .i64 n.ver) rfl).putA0 2 (.slice ka n.keys.length kc) rfl).putA0 3 (.slice ra n.refs.length rc) rfl)⟩
    rw [← hw]
    obtain ⟨e0, e1, e2, e3, -, -, -, -⟩ := hg.right.c4 (w.heap.size + 1 + 1) 59 (.bool n.leaf) (.int .i64 n.ver) (.slice ka n.keys.length kc) (.slice ra n.refs.length rc) List.mem_cons_self
    exact bodyPost_ret (v := .agg #[.bool n.leaf, .int .i64 n.ver, .slice ka n.keys.length kc, .slice ra n.refs.length rc]) (by simp [results, Try.results53, go_sem, e0, e1, e2, e3, hu59]) rfl ⟨_, [], rfl, ⟨ka, kc, ra, rc, by rw [HF.out]; rfl, by rw [HF.out]; exact HR.out.1⟩, hg.drop (List.Sublist.append_left ((List.sublist_cons_self _ _).trans ((List.sublist_cons_self _ _).trans (List.sublist_cons_self _ _))) [])⟩
  · have hs : shp n.leaf n.keys.length n.refs.length = true := hs'
    cases hs1' : m.shape
    · have hs1 : shp m.leaf m.keys.length m.refs.length = false := hs1'
      clear hno hs' hs1'
      go_enter Try.func53, Try.ntmps53
      go_wp2_with (first | (go_at_call 93; have hx2 := H2.out; clear hx2; go_loud (refine (shape.calls H2.out m.leaf m.ver ka1 ra1 m.keys.length kc1 m.refs.length rc1 HB.out.2).mono ?_); rw [hs1]; rintro e3 w3 ⟨rfl, hh⟩; have H3 := Aside0.mk hh; clear y0 y1 y2 y3 f0 f1 f2 f3 q0 q1 q2 q3 g0 g1 g2 g3 t0 t1 t2 t3 h0 h1 h2 h3; obtain ⟨y0, y1, y2, y3, f0, f1, f2, f3⟩ := hh.c4 w.heap.size 59 (.bool n.leaf) (.int .i64 n.ver) (.slice ka n.keys.length kc) (.slice ra n.refs.length rc) (by simp); obtain ⟨t0, t1, t2, t3, h0, h1, h2, h3⟩ := hh.c4 (w.heap.size + 1) 59 (.bool m.leaf) (.int .i64 m.ver) (.slice ka1 m.keys.length kc1) (.slice ra1 m.refs.length rc1) (by simp); obtain ⟨q0, q1, q2, q3, g0, g1, g2, g3⟩ := hh.c4 (w.heap.size + 1 + 1) 59 (.bool false) (.int .i64 0) (.slice none 0 0) (.slice none 0 0) (by simp); clear hh) | (go_at_call 93; go_loud (refine (shape.calls HV.out n.leaf n.ver ka ra n.keys.length kc n.refs.length rc HB.out.1).mono ?_); rw [hs]; rintro e2 w2 ⟨rfl, hh⟩; have H2 := Aside0.mk hh; clear y0 y1 y2 y3 f0 f1 f2 f3 q0 q1 q2 q3 g0 g1 g2 g3 t0 t1 t2 t3 h0 h1 h2 h3; obtain ⟨y0, y1, y2, y3, f0, f1, f2, f3⟩ := hh.c4 w.heap.size 59 (.bool n.leaf) (.int .i64 n.ver) (.slice ka n.keys.length kc) (.slice ra n.refs.length rc) (by simp); obtain ⟨t0, t1, t2, t3, h0, h1, h2, h3⟩ := hh.c4 (w.heap.size + 1) 59 (.bool m.leaf) (.int .i64 m.ver) (.slice ka1 m.keys.length kc1) (.slice ra1 m.refs.length rc1) (by simp); obtain ⟨q0, q1, q2, q3, g0, g1, g2, g3⟩ := hh.c4 (w.heap.size + 1 + 1) 59 (.bool false) (.int .i64 0) (.slice none 0 0) (.slice none 0 0) (by simp); clear hh))
      obtain ⟨wg, hw, hg⟩ : ∃ wg, wg = _ ∧ Hv w0 wg ([] ++ (cb (w.heap.size + 1 + 1) 59 #[.bool n.leaf, .int .i64 n.ver, .slice ka n.keys.length kc, .slice ra n.refs.length rc] :: cb (w.heap.size + 1) 59 #[.bool m.leaf, .int .i64 m.ver, .slice ka1 m.keys.length kc1, .slice ra1 m.refs.length rc1] :: cb w.heap.size 59 #[.bool n.leaf, .int .i64 n.ver, .slice ka n.keys.length kc, .slice ra n.refs.length rc] :: L)) := ⟨_, rfl, (((((show Hv w0 w3 ([] ++ (cb (w.heap.size + 1 + 1) 59 #[.bool false, .int .i64 0, .slice none 0 0, .slice none 0 0] :: cb (w.heap.size + 1) 59 #[.bool m.leaf, .int .i64 m.ver, .slice ka1 m.keys.length kc1, .slice ra1 m.refs.length rc1] :: cb w.heap.size 59 #[.bool n.leaf, .int .i64 n.ver, .slice ka n.keys.length kc, .slice ra n.refs.length rc] :: L)) from H3.out).putA0 0 (.bool n.leaf) rfl).putA0 1 (.int .i64 n.ver) rfl).putA0 2 (.slice ka n.keys.length kc) rfl).putA0 3 (.slice ra n.refs.length rc) rfl)⟩
      rw [← hw]
      obtain ⟨e0, e1, e2, e3, -, -, -, -⟩ := hg.right.c4 (w.heap.size + 1 + 1) 59 (.bool n.leaf) (.int .i64 n.ver) (.slice ka n.keys.length kc) (.slice ra n.refs.length rc) List.mem_cons_self
      exact bodyPost_ret (v := .agg #[.bool n.leaf, .int .i64 n.ver, .slice ka n.keys.length kc, .slice ra n.refs.length rc]) (by simp [results, Try.results53, go_sem, e0, e1, e2, e3, hu59]) rfl ⟨_, [], rfl, ⟨ka, kc, ra, rc, by rw [HF.out]; rfl, by rw [HF.out]; exact HR.out.1⟩, hg.drop (List.Sublist.append_left ((List.sublist_cons_self _ _).trans ((List.sublist_cons_self _ _).trans (List.sublist_cons_self _ _))) [])⟩
    · have hs1 : shp m.leaf m.keys.length m.refs.length = true := hs1'
      have hl : (n.leaf == m.leaf) = false := by rw [hs', hs1'] at hno; simpa using hno
      clear hno hs' hs1'
      go_enter Try.func53, Try.ntmps53
      go_wp2_with (first | (go_at_call 93; have hx2 := H2.out; clear hx2; go_loud (refine (shape.calls H2.out m.leaf m.ver ka1 ra1 m.keys.length kc1 m.refs.length rc1 HB.out.2).mono ?_); rw [hs1]; rintro e3 w3 ⟨rfl, hh⟩; have H3 := Aside0.mk hh; clear y0 y1 y2 y3 f0 f1 f2 f3 q0 q1 q2 q3 g0 g1 g2 g3 t0 t1 t2 t3 h0 h1 h2 h3; obtain ⟨y0, y1, y2, y3, f0, f1, f2, f3⟩ := hh.c4 w.heap.size 59 (.bool n.leaf) (.int .i64 n.ver) (.slice ka n.keys.length kc) (.slice ra n.refs.length rc) (by simp); obtain ⟨t0, t1, t2, t3, h0, h1, h2, h3⟩ := hh.c4 (w.heap.size + 1) 59 (.bool m.leaf) (.int .i64 m.ver) (.slice ka1 m.keys.length kc1) (.slice ra1 m.refs.length rc1) (by simp); obtain ⟨q0, q1, q2, q3, g0, g1, g2, g3⟩ := hh.c4 (w.heap.size + 1 + 1) 59 (.bool false) (.int .i64 0) (.slice none 0 0) (.slice none 0 0) (by simp); clear hh) | (go_at_call 93; go_loud (refine (shape.calls HV.out n.leaf n.ver ka ra n.keys.length kc n.refs.length rc HB.out.1).mono ?_); rw [hs]; rintro e2 w2 ⟨rfl, hh⟩; have H2 := Aside0.mk hh; clear y0 y1 y2 y3 f0 f1 f2 f3 q0 q1 q2 q3 g0 g1 g2 g3 t0 t1 t2 t3 h0 h1 h2 h3; obtain ⟨y0, y1, y2, y3, f0, f1, f2, f3⟩ := hh.c4 w.heap.size 59 (.bool n.leaf) (.int .i64 n.ver) (.slice ka n.keys.length kc) (.slice ra n.refs.length rc) (by simp); obtain ⟨t0, t1, t2, t3, h0, h1, h2, h3⟩ := hh.c4 (w.heap.size + 1) 59 (.bool m.leaf) (.int .i64 m.ver) (.slice ka1 m.keys.length kc1) (.slice ra1 m.refs.length rc1) (by simp); obtain ⟨q0, q1, q2, q3, g0, g1, g2, g3⟩ := hh.c4 (w.heap.size + 1 + 1) 59 (.bool false) (.int .i64 0) (.slice none 0 0) (.slice none 0 0) (by simp); clear hh))
      obtain ⟨wg, hw, hg⟩ : ∃ wg, wg = _ ∧ Hv w0 wg ([] ++ (cb (w.heap.size + 1 + 1) 59 #[.bool n.leaf, .int .i64 n.ver, .slice ka n.keys.length kc, .slice ra n.refs.length rc] :: cb (w.heap.size + 1) 59 #[.bool m.leaf, .int .i64 m.ver, .slice ka1 m.keys.length kc1, .slice ra1 m.refs.length rc1] :: cb w.heap.size 59 #[.bool n.leaf, .int .i64 n.ver, .slice ka n.keys.length kc, .slice ra n.refs.length rc] :: L)) := ⟨_, rfl, (((((show Hv w0 w3 ([] ++ (cb (w.heap.size + 1 + 1) 59 #[.bool false, .int .i64 0, .slice none 0 0, .slice none 0 0] :: cb (w.heap.size + 1) 59 #[.bool m.leaf, .int .i64 m.ver, .slice ka1 m.keys.length kc1, .slice ra1 m.refs.length rc1] :: cb w.heap.size 59 #[.bool n.leaf, .int .i64 n.ver, .slice ka n.keys.length kc, .slice ra n.refs.length rc] :: L)) from H3.out).putA0 0 (.bool n.leaf) rfl).putA0 1 (.int .i64 n.ver) rfl).putA0 2 (.slice ka n.keys.length kc) rfl).putA0 3 (.slice ra n.refs.length rc) rfl)⟩
      rw [← hw]
      obtain ⟨e0, e1, e2, e3, -, -, -, -⟩ := hg.right.c4 (w.heap.size + 1 + 1) 59 (.bool n.leaf) (.int .i64 n.ver) (.slice ka n.keys.length kc) (.slice ra n.refs.length rc) List.mem_cons_self
      exact bodyPost_ret (v := .agg #[.bool n.leaf, .int .i64 n.ver, .slice ka n.keys.length kc, .slice ra n.refs.length rc]) (by simp [results, Try.results53, go_sem, e0, e1, e2, e3, hu59]) rfl ⟨_, [], rfl, ⟨ka, kc, ra, rc, by rw [HF.out]; rfl, by rw [HF.out]; exact HR.out.1⟩, hg.drop (List.Sublist.append_left ((List.sublist_cons_self _ _).trans ((List.sublist_cons_self _ _).trans (List.sublist_cons_self _ _))) [])⟩
end Go.Proofs.Ytglbcfkmaamhaaa.Nd
