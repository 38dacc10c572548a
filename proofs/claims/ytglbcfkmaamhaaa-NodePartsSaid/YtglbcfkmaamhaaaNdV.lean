/- transomlaw17: NodeParts. No condition. -/
import Derived.Test.YtglbcfkmaamhaaaNdU
set_option linter.unusedVariables false
set_option linter.unusedSimpArgs false
namespace Go.Proofs.Ytglbcfkmaamhaaa.Nd
open Go Go.RowKit Go.Proofs.YtglbcfkmaamhaaaW.PrintWords Go.Proofs.YtglbcfkmaamhaaaW.PrintLast Go.Proofs.YtglbcfkmaamhaaaW.PrintMore Go.Proofs.Ytglbcfkmaamhaaa.Hv
variable {w0 w w1 : World} {g : Nat} {L L' R : List Ob}
theorem split_len (n : Nd) : n.split.1.keys.length ≤ n.keys.length ∧ n.split.1.refs.length ≤ n.refs.length ∧ n.split.2.2.keys.length ≤ n.keys.length ∧ n.split.2.2.refs.length ≤ n.refs.length := by
  unfold Nd.split
  split
  · refine ⟨?_, ?_, ?_, ?_⟩ <;> simp <;> omega
  · simp
theorem join_len (n m : Nd) (k : ByteArray) : (n.join k m).keys.length ≤ n.keys.length + 1 + m.keys.length ∧ (n.join k m).refs.length ≤ n.refs.length + m.refs.length := by
  unfold Nd.join
  split
  · refine ⟨?_, ?_⟩
    · simp only [List.length_append]; split <;> simp
    · simp
  · constructor <;> omega
theorem off_call (hb : Below w.heap.size w w1) (h : Hv w0 w L) : Hv w0 w1 L := h.call hb
set_option maxHeartbeats 16000000 in
set_option maxRecDepth 100000 in
theorem parts.calls {n m : Nd} {v v1 : Value} (hn : NV w [] n v) (hm : NV w [] m v1) (k : ByteArray) : Calls Try.prog 8 #[v, v1, .string k] w fun e w' => e = .returned (.bool true) ∧ Below w.heap.size w w' := by
  have hu59 := Try.underlying59
  obtain ⟨ka, kc, ra, rc, rfl, hr⟩ := hn
  obtain ⟨ka1, kc1, ra1, rc1, rfl, hr1⟩ := hm
  have HV := Aside0.mk (show Hv w _ ([cb (w.heap.size + 1) 59 #[.bool m.leaf, .int .i64 m.ver, .slice ka1 m.keys.length kc1, .slice ra1 m.refs.length rc1], cb (w.heap.size) 59 #[.bool n.leaf, .int .i64 n.ver, .slice ka n.keys.length kc, .slice ra n.refs.length rc]] ++ []) by
    have := ((Hv.start w).alloc (.cells #[.bool n.leaf, .int .i64 n.ver, .slice ka n.keys.length kc, .slice ra n.refs.length rc] 59)).alloc (.cells #[.bool m.leaf, .int .i64 m.ver, .slice ka1 m.keys.length kc1, .slice ra1 m.refs.length rc1] 59)
    simpa [cb] using this)
  have HN := Aside0.mk (show NV w [] n (.agg #[.bool n.leaf, .int .i64 n.ver, .slice ka n.keys.length kc, .slice ra n.refs.length rc]) from ⟨ka, kc, ra, rc, rfl, hr⟩)
  have HM := Aside0.mk (show NV w [] m (.agg #[.bool m.leaf, .int .i64 m.ver, .slice ka1 m.keys.length kc1, .slice ra1 m.refs.length rc1]) from ⟨ka1, kc1, ra1, rc1, rfl, hr1⟩)
  clear hr hr1
  obtain ⟨y0, y1, y2, y3, -, -, -, -⟩ := HV.out.c4 (w.heap.size) 59 (.bool n.leaf) (.int .i64 n.ver) (.slice ka n.keys.length kc) (.slice ra n.refs.length rc) (by simp)
  obtain ⟨t0, t1, t2, t3, -, -, -, -⟩ := HV.out.c4 (w.heap.size + 1) 59 (.bool m.leaf) (.int .i64 m.ver) (.slice ka1 m.keys.length kc1) (.slice ra1 m.refs.length rc1) (by simp)
  unfold nval
  rcases few_or n with f1 | ⟨f1, l1, l2⟩
  · go_enter Try.func8, Try.ntmps8
    go_wp2_with (first | (go_at_call 31; go_loud (refine (few.calls HV.out (HN.out.mono (fun p hp => by simp at hp))).mono ?_); unfold FewP; rw [f1]; rintro e2 w2 ⟨rfl, hh⟩; have H2 := Aside0.mk hh; clear hh; clear y0 y1 y2 y3 t0 t1 t2 t3; obtain ⟨y0, y1, y2, y3, -, -, -, -⟩ := H2.out.c4 (w.heap.size) 59 (.bool n.leaf) (.int .i64 n.ver) (.slice ka n.keys.length kc) (.slice ra n.refs.length rc) (by simp); obtain ⟨t0, t1, t2, t3, -, -, -, -⟩ := H2.out.c4 (w.heap.size + 1) 59 (.bool m.leaf) (.int .i64 m.ver) (.slice ka1 m.keys.length kc1) (.slice ra1 m.refs.length rc1) (by simp)) | (go_at_call 32; go_loud (refine (awake.calls _).mono ?_); rintro ea wa ⟨rfl, hh⟩; have HA := Aside0.mk (H2.out.call hh); clear hh))
    exact bodyPost_ret (v := .bool true) (by simp [results, Try.results8, go_sem]) rfl ⟨rfl, HA.out.bel⟩
  rcases few_or m with f2 | ⟨f2, l3, l4⟩
  · clear l1 l2
    go_enter Try.func8, Try.ntmps8
    go_wp2_with (first | (go_at_call 31; have hx2 := H2.out; clear hx2; go_loud (refine (few.calls H2.out (HM.out.mono (fun p hp => by simp at hp))).mono ?_); unfold FewP; rw [f2]; rintro e3 w3 ⟨rfl, hh⟩; have H3 := Aside0.mk hh; clear hh; clear y0 y1 y2 y3 t0 t1 t2 t3; obtain ⟨y0, y1, y2, y3, -, -, -, -⟩ := H3.out.c4 (w.heap.size) 59 (.bool n.leaf) (.int .i64 n.ver) (.slice ka n.keys.length kc) (.slice ra n.refs.length rc) (by simp); obtain ⟨t0, t1, t2, t3, -, -, -, -⟩ := H3.out.c4 (w.heap.size + 1) 59 (.bool m.leaf) (.int .i64 m.ver) (.slice ka1 m.keys.length kc1) (.slice ra1 m.refs.length rc1) (by simp)) | (go_at_call 31; go_loud (refine (few.calls HV.out (HN.out.mono (fun p hp => by simp at hp))).mono ?_); unfold FewP; rw [f1]; rintro e2 w2 ⟨rfl, hh⟩; have H2 := Aside0.mk hh; clear hh; clear y0 y1 y2 y3 t0 t1 t2 t3; obtain ⟨y0, y1, y2, y3, -, -, -, -⟩ := H2.out.c4 (w.heap.size) 59 (.bool n.leaf) (.int .i64 n.ver) (.slice ka n.keys.length kc) (.slice ra n.refs.length rc) (by simp); obtain ⟨t0, t1, t2, t3, -, -, -, -⟩ := H2.out.c4 (w.heap.size + 1) 59 (.bool m.leaf) (.int .i64 m.ver) (.slice ka1 m.keys.length kc1) (.slice ra1 m.refs.length rc1) (by simp)) | (go_at_call 32; go_loud (refine (awake.calls _).mono ?_); rintro ea wa ⟨rfl, hh⟩; have HA := Aside0.mk (H3.out.call hh); clear hh))
    exact bodyPost_ret (v := .bool true) (by simp [results, Try.results8, go_sem]) rfl ⟨rfl, HA.out.bel⟩
  by_cases h5 : (k.size : Int) > 500
  · clear l1 l2 l3 l4
    go_enter Try.func8, Try.ntmps8
    go_wp2_with (first | (go_at_call 31; have hx2 := H2.out; clear hx2; go_loud (refine (few.calls H2.out (HM.out.mono (fun p hp => by simp at hp))).mono ?_); unfold FewP; rw [f2]; rintro e3 w3 ⟨rfl, hh⟩; have H3 := Aside0.mk hh; clear hh; clear y0 y1 y2 y3 t0 t1 t2 t3; obtain ⟨y0, y1, y2, y3, -, -, -, -⟩ := H3.out.c4 (w.heap.size) 59 (.bool n.leaf) (.int .i64 n.ver) (.slice ka n.keys.length kc) (.slice ra n.refs.length rc) (by simp); obtain ⟨t0, t1, t2, t3, -, -, -, -⟩ := H3.out.c4 (w.heap.size + 1) 59 (.bool m.leaf) (.int .i64 m.ver) (.slice ka1 m.keys.length kc1) (.slice ra1 m.refs.length rc1) (by simp)) | (go_at_call 31; go_loud (refine (few.calls HV.out (HN.out.mono (fun p hp => by simp at hp))).mono ?_); unfold FewP; rw [f1]; rintro e2 w2 ⟨rfl, hh⟩; have H2 := Aside0.mk hh; clear hh; clear y0 y1 y2 y3 t0 t1 t2 t3; obtain ⟨y0, y1, y2, y3, -, -, -, -⟩ := H2.out.c4 (w.heap.size) 59 (.bool n.leaf) (.int .i64 n.ver) (.slice ka n.keys.length kc) (.slice ra n.refs.length rc) (by simp); obtain ⟨t0, t1, t2, t3, -, -, -, -⟩ := H2.out.c4 (w.heap.size + 1) 59 (.bool m.leaf) (.int .i64 m.ver) (.slice ka1 m.keys.length kc1) (.slice ra1 m.refs.length rc1) (by simp)) | (go_at_call 32; go_loud (refine (awake.calls _).mono ?_); rintro ea wa ⟨rfl, hh⟩; have HA := Aside0.mk (H3.out.call hh); clear hh))
    exact bodyPost_ret (v := .bool true) (by simp [results, Try.results8, go_sem]) rfl ⟨rfl, HA.out.bel⟩
  by_cases h6 : n.ver > 1152921504606846976
  · clear l1 l2 l3 l4
    go_enter Try.func8, Try.ntmps8
    go_wp2_with (first | (go_at_call 31; have hx2 := H2.out; clear hx2; go_loud (refine (few.calls H2.out (HM.out.mono (fun p hp => by simp at hp))).mono ?_); unfold FewP; rw [f2]; rintro e3 w3 ⟨rfl, hh⟩; have H3 := Aside0.mk hh; clear hh; clear y0 y1 y2 y3 t0 t1 t2 t3; obtain ⟨y0, y1, y2, y3, -, -, -, -⟩ := H3.out.c4 (w.heap.size) 59 (.bool n.leaf) (.int .i64 n.ver) (.slice ka n.keys.length kc) (.slice ra n.refs.length rc) (by simp); obtain ⟨t0, t1, t2, t3, -, -, -, -⟩ := H3.out.c4 (w.heap.size + 1) 59 (.bool m.leaf) (.int .i64 m.ver) (.slice ka1 m.keys.length kc1) (.slice ra1 m.refs.length rc1) (by simp)) | (go_at_call 31; go_loud (refine (few.calls HV.out (HN.out.mono (fun p hp => by simp at hp))).mono ?_); unfold FewP; rw [f1]; rintro e2 w2 ⟨rfl, hh⟩; have H2 := Aside0.mk hh; clear hh; clear y0 y1 y2 y3 t0 t1 t2 t3; obtain ⟨y0, y1, y2, y3, -, -, -, -⟩ := H2.out.c4 (w.heap.size) 59 (.bool n.leaf) (.int .i64 n.ver) (.slice ka n.keys.length kc) (.slice ra n.refs.length rc) (by simp); obtain ⟨t0, t1, t2, t3, -, -, -, -⟩ := H2.out.c4 (w.heap.size + 1) 59 (.bool m.leaf) (.int .i64 m.ver) (.slice ka1 m.keys.length kc1) (.slice ra1 m.refs.length rc1) (by simp)) | (go_at_call 32; go_loud (refine (awake.calls _).mono ?_); rintro ea wa ⟨rfl, hh⟩; have HA := Aside0.mk (H3.out.call hh); clear hh))
    exact bodyPost_ret (v := .bool true) (by simp [results, Try.results8, go_sem]) rfl ⟨rfl, HA.out.bel⟩
  obtain ⟨c, mid, e, hsp⟩ : ∃ c mid e, n.split = (c, mid, e) := ⟨_, _, _, rfl⟩
  have hl := split_len n
  rw [hsp] at hl
  have HLN := Aside0.mk (show Sm n ∧ Sm m ∧ Sm c ∧ Sm e ∧ Sm (n.join k m) from ⟨⟨by omega, by omega⟩, ⟨by omega, by omega⟩, ⟨by have := hl.1; simp at this; omega, by have := hl.2.1; simp at this; omega⟩, ⟨by have := hl.2.2.1; simp at this; omega, by have := hl.2.2.2; simp at this; omega⟩, ⟨by have := (join_len n m k).1; omega, by have := (join_len n m k).2; omega⟩⟩)
  clear l1 l2 l3 l4 hl
  have hbb := bb mid
  go_enter Try.func8, Try.ntmps8
  go_upto_region 3 with (first | (go_at_call 31; have hx2 := H2.out; clear hx2; go_loud (refine (few.calls H2.out (HM.out.mono (fun p hp => by simp at hp))).mono ?_); unfold FewP; rw [f2]; rintro e3 w3 ⟨rfl, hh⟩; have H3 := Aside0.mk hh; clear hh; clear y0 y1 y2 y3 t0 t1 t2 t3; obtain ⟨y0, y1, y2, y3, -, -, -, -⟩ := H3.out.c4 (w.heap.size) 59 (.bool n.leaf) (.int .i64 n.ver) (.slice ka n.keys.length kc) (.slice ra n.refs.length rc) (by simp); obtain ⟨t0, t1, t2, t3, -, -, -, -⟩ := H3.out.c4 (w.heap.size + 1) 59 (.bool m.leaf) (.int .i64 m.ver) (.slice ka1 m.keys.length kc1) (.slice ra1 m.refs.length rc1) (by simp)) | (go_at_call 31; go_loud (refine (few.calls HV.out (HN.out.mono (fun p hp => by simp at hp))).mono ?_); unfold FewP; rw [f1]; rintro e2 w2 ⟨rfl, hh⟩; have H2 := Aside0.mk hh; clear hh; clear y0 y1 y2 y3 t0 t1 t2 t3; obtain ⟨y0, y1, y2, y3, -, -, -, -⟩ := H2.out.c4 (w.heap.size) 59 (.bool n.leaf) (.int .i64 n.ver) (.slice ka n.keys.length kc) (.slice ra n.refs.length rc) (by simp); obtain ⟨t0, t1, t2, t3, -, -, -, -⟩ := H2.out.c4 (w.heap.size + 1) 59 (.bool m.leaf) (.int .i64 m.ver) (.slice ka1 m.keys.length kc1) (.slice ra1 m.refs.length rc1) (by simp)))
  go_upto_region 4 with (go_at_call 51; go_loud ((refine (split.calls (w0 := w) (R := []) H3.out (fun p hp => by cases hp) HN.out HLN.out.1).mono ?_); rw [hsp]; rintro e5 w5 ⟨vc, ve, A5, rfl, hc, he, h5⟩; obtain ⟨ka2, kc2, ra2, rc2, ev, hrc⟩ := hc; have ev' : vc = .agg #[.bool c.leaf, .int .i64 c.ver, .slice ka2 c.keys.length kc2, .slice ra2 c.refs.length rc2] := ev; subst ev'; clear ev; obtain ⟨ka3, kc3, ra3, rc3, ev, hre⟩ := he; have ev' : ve = .agg #[.bool e.leaf, .int .i64 e.ver, .slice ka3 e.keys.length kc3, .slice ra3 e.refs.length rc3] := ev; subst ev'; clear ev; have HX := Aside0.mk (show Hv w w5 ([cb (w.heap.size + 1) 59 #[.bool m.leaf, .int .i64 m.ver, .slice ka1 m.keys.length kc1, .slice ra1 m.refs.length rc1], cb (w.heap.size) 59 #[.bool n.leaf, .int .i64 n.ver, .slice ka n.keys.length kc, .slice ra n.refs.length rc]] ++ (A5 ++ [])) from Hv.mid h5); have HC1c := Aside0.mk (show NV w (A5 ++ []) c (.agg #[.bool c.leaf, .int .i64 c.ver, .slice ka2 c.keys.length kc2, .slice ra2 c.refs.length rc2]) from ⟨_, _, _, _, rfl, hrc⟩); have HC1e := Aside0.mk (show NV w (A5 ++ []) e (.agg #[.bool e.leaf, .int .i64 e.ver, .slice ka3 e.keys.length kc3, .slice ra3 e.refs.length rc3]) from ⟨_, _, _, _, rfl, hre⟩); clear h5 hrc hre; clear y0 y1 y2 y3 t0 t1 t2 t3; obtain ⟨y0, y1, y2, y3, -, -, -, -⟩ := HX.out.c4 (w.heap.size) 59 (.bool n.leaf) (.int .i64 n.ver) (.slice ka n.keys.length kc) (.slice ra n.refs.length rc) (by simp); obtain ⟨t0, t1, t2, t3, -, -, -, -⟩ := HX.out.c4 (w.heap.size + 1) 59 (.bool m.leaf) (.int .i64 m.ver) (.slice ka1 m.keys.length kc1) (.slice ra1 m.refs.length rc1) (by simp)))
  obtain ⟨W5, hW, hw⟩ : ∃ W, W = (w5.alloc (.cells #[.bool c.leaf, .int .i64 c.ver, .slice ka2 c.keys.length kc2, .slice ra2 c.refs.length rc2] 59)).alloc (.cells #[.bool e.leaf, .int .i64 e.ver, .slice ka3 e.keys.length kc3, .slice ra3 e.refs.length rc3] 59) ∧ Hv w W (cb (w5.heap.size + 1) 59 #[.bool e.leaf, .int .i64 e.ver, .slice ka3 e.keys.length kc3, .slice ra3 e.refs.length rc3] :: cb w5.heap.size 59 #[.bool c.leaf, .int .i64 c.ver, .slice ka2 c.keys.length kc2, .slice ra2 c.refs.length rc2] :: ([cb (w.heap.size + 1) 59 #[.bool m.leaf, .int .i64 m.ver, .slice ka1 m.keys.length kc1, .slice ra1 m.refs.length rc1], cb (w.heap.size) 59 #[.bool n.leaf, .int .i64 n.ver, .slice ka n.keys.length kc, .slice ra n.refs.length rc]] ++ (A5 ++ []))) := ⟨_, rfl, by have := (HX.out.alloc (.cells #[.bool c.leaf, .int .i64 c.ver, .slice ka2 c.keys.length kc2, .slice ra2 c.refs.length rc2] 59)).alloc (.cells #[.bool e.leaf, .int .i64 e.ver, .slice ka3 e.keys.length kc3, .slice ra3 e.refs.length rc3] 59); simpa [cb] using this⟩
  rw [← hW]
  have HY := Aside0.mk hw
  clear hW hw HX
  clear y0 y1 y2 y3 t0 t1 t2 t3
  generalize w5.heap.size = g at HY ⊢
  obtain ⟨R1, hR1⟩ : ∃ R1, R1 = A5 ++ [] := ⟨_, rfl⟩
  rw [← hR1] at HY HC1c HC1e
  clear hR1
  have H5 := Aside0.mk (show Hv w W5 ([cb (g + 1) 59 #[.bool e.leaf, .int .i64 e.ver, .slice ka3 e.keys.length kc3, .slice ra3 e.refs.length rc3], cb (g) 59 #[.bool c.leaf, .int .i64 c.ver, .slice ka2 c.keys.length kc2, .slice ra2 c.refs.length rc2], cb (w.heap.size + 1) 59 #[.bool m.leaf, .int .i64 m.ver, .slice ka1 m.keys.length kc1, .slice ra1 m.refs.length rc1], cb (w.heap.size) 59 #[.bool n.leaf, .int .i64 n.ver, .slice ka n.keys.length kc, .slice ra n.refs.length rc]] ++ R1) from HY.out)
  clear HY
  obtain ⟨y0, y1, y2, y3, -, -, -, -⟩ := H5.out.c4 (w.heap.size) 59 (.bool n.leaf) (.int .i64 n.ver) (.slice ka n.keys.length kc) (.slice ra n.refs.length rc) (by simp)
  obtain ⟨t0, t1, t2, t3, -, -, -, -⟩ := H5.out.c4 (w.heap.size + 1) 59 (.bool m.leaf) (.int .i64 m.ver) (.slice ka1 m.keys.length kc1) (.slice ra1 m.refs.length rc1) (by simp)
  obtain ⟨q0, q1, q2, q3, -, -, -, -⟩ := H5.out.c4 (g) 59 (.bool c.leaf) (.int .i64 c.ver) (.slice ka2 c.keys.length kc2) (.slice ra2 c.refs.length rc2) (by simp)
  obtain ⟨z0, z1, z2, z3, -, -, -, -⟩ := H5.out.c4 (g + 1) 59 (.bool e.leaf) (.int .i64 e.ver) (.slice ka3 e.keys.length kc3) (.slice ra3 e.refs.length rc3) (by simp)
  go_upto_region 5 with (go_at_call 52; go_loud ((refine (rsplit.calls (w0 := w) (R := []) H5.out (fun p hp => by cases hp) HN.out HLN.out.1).mono ?_); rw [hsp]; rintro e5 w6 ⟨vc, ve, A6, rfl, hc, he, h5⟩; obtain ⟨ka4, kc4, ra4, rc4, ev, hrc⟩ := hc; have ev' : vc = .agg #[.bool c.leaf, .int .i64 c.ver, .slice ka4 c.keys.length kc4, .slice ra4 c.refs.length rc4] := ev; subst ev'; clear ev; obtain ⟨ka5, kc5, ra5, rc5, ev, hre⟩ := he; have ev' : ve = .agg #[.bool e.leaf, .int .i64 e.ver, .slice ka5 e.keys.length kc5, .slice ra5 e.refs.length rc5] := ev; subst ev'; clear ev; have HX := Aside0.mk (show Hv w w6 ([cb (g + 1) 59 #[.bool e.leaf, .int .i64 e.ver, .slice ka3 e.keys.length kc3, .slice ra3 e.refs.length rc3], cb (g) 59 #[.bool c.leaf, .int .i64 c.ver, .slice ka2 c.keys.length kc2, .slice ra2 c.refs.length rc2], cb (w.heap.size + 1) 59 #[.bool m.leaf, .int .i64 m.ver, .slice ka1 m.keys.length kc1, .slice ra1 m.refs.length rc1], cb (w.heap.size) 59 #[.bool n.leaf, .int .i64 n.ver, .slice ka n.keys.length kc, .slice ra n.refs.length rc]] ++ (A6 ++ R1)) from Hv.mid h5); have HC2c := Aside0.mk (show NV w (A6 ++ []) c (.agg #[.bool c.leaf, .int .i64 c.ver, .slice ka4 c.keys.length kc4, .slice ra4 c.refs.length rc4]) from ⟨_, _, _, _, rfl, hrc⟩); have HC2e := Aside0.mk (show NV w (A6 ++ []) e (.agg #[.bool e.leaf, .int .i64 e.ver, .slice ka5 e.keys.length kc5, .slice ra5 e.refs.length rc5]) from ⟨_, _, _, _, rfl, hre⟩); clear h5 hrc hre; clear y0 y1 y2 y3 t0 t1 t2 t3 q0 q1 q2 q3 z0 z1 z2 z3; obtain ⟨y0, y1, y2, y3, -, -, -, -⟩ := HX.out.c4 (w.heap.size) 59 (.bool n.leaf) (.int .i64 n.ver) (.slice ka n.keys.length kc) (.slice ra n.refs.length rc) (by simp); obtain ⟨t0, t1, t2, t3, -, -, -, -⟩ := HX.out.c4 (w.heap.size + 1) 59 (.bool m.leaf) (.int .i64 m.ver) (.slice ka1 m.keys.length kc1) (.slice ra1 m.refs.length rc1) (by simp); obtain ⟨q0, q1, q2, q3, -, -, -, -⟩ := HX.out.c4 (g) 59 (.bool c.leaf) (.int .i64 c.ver) (.slice ka2 c.keys.length kc2) (.slice ra2 c.refs.length rc2) (by simp); obtain ⟨z0, z1, z2, z3, -, -, -, -⟩ := HX.out.c4 (g + 1) 59 (.bool e.leaf) (.int .i64 e.ver) (.slice ka3 e.keys.length kc3) (.slice ra3 e.refs.length rc3) (by simp)))
  obtain ⟨W6, hW, hw⟩ : ∃ W, W = (w6.alloc (.cells #[.bool c.leaf, .int .i64 c.ver, .slice ka4 c.keys.length kc4, .slice ra4 c.refs.length rc4] 59)).alloc (.cells #[.bool e.leaf, .int .i64 e.ver, .slice ka5 e.keys.length kc5, .slice ra5 e.refs.length rc5] 59) ∧ Hv w W (cb (w6.heap.size + 1) 59 #[.bool e.leaf, .int .i64 e.ver, .slice ka5 e.keys.length kc5, .slice ra5 e.refs.length rc5] :: cb w6.heap.size 59 #[.bool c.leaf, .int .i64 c.ver, .slice ka4 c.keys.length kc4, .slice ra4 c.refs.length rc4] :: ([cb (g + 1) 59 #[.bool e.leaf, .int .i64 e.ver, .slice ka3 e.keys.length kc3, .slice ra3 e.refs.length rc3], cb (g) 59 #[.bool c.leaf, .int .i64 c.ver, .slice ka2 c.keys.length kc2, .slice ra2 c.refs.length rc2], cb (w.heap.size + 1) 59 #[.bool m.leaf, .int .i64 m.ver, .slice ka1 m.keys.length kc1, .slice ra1 m.refs.length rc1], cb (w.heap.size) 59 #[.bool n.leaf, .int .i64 n.ver, .slice ka n.keys.length kc, .slice ra n.refs.length rc]] ++ (A6 ++ R1))) := ⟨_, rfl, by have := (HX.out.alloc (.cells #[.bool c.leaf, .int .i64 c.ver, .slice ka4 c.keys.length kc4, .slice ra4 c.refs.length rc4] 59)).alloc (.cells #[.bool e.leaf, .int .i64 e.ver, .slice ka5 e.keys.length kc5, .slice ra5 e.refs.length rc5] 59); simpa [cb] using this⟩
  rw [← hW]
  have HY := Aside0.mk hw
  clear hW hw HX
  clear y0 y1 y2 y3 t0 t1 t2 t3 q0 q1 q2 q3 z0 z1 z2 z3
  generalize w6.heap.size = d at HY ⊢
  obtain ⟨R2, hR2⟩ : ∃ R2, R2 = A6 ++ R1 := ⟨_, rfl⟩
  have hR21 : ∀ p ∈ R1, p ∈ R2 := fun p hp => by rw [hR2]; exact List.mem_append_right _ hp
  have hR26 : ∀ p ∈ A6 ++ [], p ∈ R2 := fun p hp => by rw [hR2]; rw [List.append_nil] at hp; exact List.mem_append_left _ hp
  rw [← hR2] at HY
  have HNS := Aside0.mk (And.intro (And.intro (HC1c.out.mono hR21) (HC1e.out.mono hR21)) (And.intro (HC2c.out.mono hR26) (HC2e.out.mono hR26)))
  clear hR2 hR21 hR26 HC1c HC1e HC2c HC2e
  have H6 := Aside0.mk (show Hv w W6 ([cb (d + 1) 59 #[.bool e.leaf, .int .i64 e.ver, .slice ka5 e.keys.length kc5, .slice ra5 e.refs.length rc5], cb (d) 59 #[.bool c.leaf, .int .i64 c.ver, .slice ka4 c.keys.length kc4, .slice ra4 c.refs.length rc4], cb (g + 1) 59 #[.bool e.leaf, .int .i64 e.ver, .slice ka3 e.keys.length kc3, .slice ra3 e.refs.length rc3], cb (g) 59 #[.bool c.leaf, .int .i64 c.ver, .slice ka2 c.keys.length kc2, .slice ra2 c.refs.length rc2], cb (w.heap.size + 1) 59 #[.bool m.leaf, .int .i64 m.ver, .slice ka1 m.keys.length kc1, .slice ra1 m.refs.length rc1], cb (w.heap.size) 59 #[.bool n.leaf, .int .i64 n.ver, .slice ka n.keys.length kc, .slice ra n.refs.length rc]] ++ R2) from HY.out)
  clear HY
  have SP := Aside0.mk (show ∀ (w' : World) (L' : List Ob), Hv w w' L' → (∀ p ∈ [cb (d + 1) 59 #[.bool e.leaf, .int .i64 e.ver, .slice ka5 e.keys.length kc5, .slice ra5 e.refs.length rc5], cb (d) 59 #[.bool c.leaf, .int .i64 c.ver, .slice ka4 c.keys.length kc4, .slice ra4 c.refs.length rc4], cb (g + 1) 59 #[.bool e.leaf, .int .i64 e.ver, .slice ka3 e.keys.length kc3, .slice ra3 e.refs.length rc3], cb (g) 59 #[.bool c.leaf, .int .i64 c.ver, .slice ka2 c.keys.length kc2, .slice ra2 c.refs.length rc2], cb (w.heap.size + 1) 59 #[.bool m.leaf, .int .i64 m.ver, .slice ka1 m.keys.length kc1, .slice ra1 m.refs.length rc1], cb (w.heap.size) 59 #[.bool n.leaf, .int .i64 n.ver, .slice ka n.keys.length kc, .slice ra n.refs.length rc]], p ∈ L') → (w'.cell? ⟨w.heap.size, 0, none⟩ = some (.bool n.leaf) ∧ w'.cell? ⟨w.heap.size, 1, none⟩ = some (.int .i64 n.ver) ∧ w'.cell? ⟨w.heap.size, 2, none⟩ = some (.slice ka n.keys.length kc) ∧ w'.cell? ⟨w.heap.size, 3, none⟩ = some (.slice ra n.refs.length rc) ∧ w'.cell? ⟨w.heap.size + 1, 0, none⟩ = some (.bool m.leaf) ∧ w'.cell? ⟨w.heap.size + 1, 1, none⟩ = some (.int .i64 m.ver) ∧ w'.cell? ⟨w.heap.size + 1, 2, none⟩ = some (.slice ka1 m.keys.length kc1) ∧ w'.cell? ⟨w.heap.size + 1, 3, none⟩ = some (.slice ra1 m.refs.length rc1) ∧ w'.cell? ⟨g, 0, none⟩ = some (.bool c.leaf) ∧ w'.cell? ⟨g, 1, none⟩ = some (.int .i64 c.ver) ∧ w'.cell? ⟨g, 2, none⟩ = some (.slice ka2 c.keys.length kc2) ∧ w'.cell? ⟨g, 3, none⟩ = some (.slice ra2 c.refs.length rc2) ∧ w'.cell? ⟨g + 1, 0, none⟩ = some (.bool e.leaf) ∧ w'.cell? ⟨g + 1, 1, none⟩ = some (.int .i64 e.ver) ∧ w'.cell? ⟨g + 1, 2, none⟩ = some (.slice ka3 e.keys.length kc3) ∧ w'.cell? ⟨g + 1, 3, none⟩ = some (.slice ra3 e.refs.length rc3) ∧ w'.cell? ⟨d, 0, none⟩ = some (.bool c.leaf) ∧ w'.cell? ⟨d, 1, none⟩ = some (.int .i64 c.ver) ∧ w'.cell? ⟨d, 2, none⟩ = some (.slice ka4 c.keys.length kc4) ∧ w'.cell? ⟨d, 3, none⟩ = some (.slice ra4 c.refs.length rc4) ∧ w'.cell? ⟨d + 1, 0, none⟩ = some (.bool e.leaf) ∧ w'.cell? ⟨d + 1, 1, none⟩ = some (.int .i64 e.ver) ∧ w'.cell? ⟨d + 1, 2, none⟩ = some (.slice ka5 e.keys.length kc5) ∧ w'.cell? ⟨d + 1, 3, none⟩ = some (.slice ra5 e.refs.length rc5)) from fun w' L' hw hL => by
    obtain ⟨y0, y1, y2, y3, -, -, -, -⟩ := hw.c4 (w.heap.size) 59 (.bool n.leaf) (.int .i64 n.ver) (.slice ka n.keys.length kc) (.slice ra n.refs.length rc) (hL _ (by simp))
    obtain ⟨t0, t1, t2, t3, -, -, -, -⟩ := hw.c4 (w.heap.size + 1) 59 (.bool m.leaf) (.int .i64 m.ver) (.slice ka1 m.keys.length kc1) (.slice ra1 m.refs.length rc1) (hL _ (by simp))
    obtain ⟨q0, q1, q2, q3, -, -, -, -⟩ := hw.c4 (g) 59 (.bool c.leaf) (.int .i64 c.ver) (.slice ka2 c.keys.length kc2) (.slice ra2 c.refs.length rc2) (hL _ (by simp))
    obtain ⟨z0, z1, z2, z3, -, -, -, -⟩ := hw.c4 (g + 1) 59 (.bool e.leaf) (.int .i64 e.ver) (.slice ka3 e.keys.length kc3) (.slice ra3 e.refs.length rc3) (hL _ (by simp))
    obtain ⟨u0, u1, u2, u3, -, -, -, -⟩ := hw.c4 (d) 59 (.bool c.leaf) (.int .i64 c.ver) (.slice ka4 c.keys.length kc4) (.slice ra4 c.refs.length rc4) (hL _ (by simp))
    obtain ⟨m0, m1, m2, m3, -, -, -, -⟩ := hw.c4 (d + 1) 59 (.bool e.leaf) (.int .i64 e.ver) (.slice ka5 e.keys.length kc5) (.slice ra5 e.refs.length rc5) (hL _ (by simp))
    exact ⟨y0, y1, y2, y3, t0, t1, t2, t3, q0, q1, q2, q3, z0, z1, z2, z3, u0, u1, u2, u3, m0, m1, m2, m3⟩)
  have H6d := Aside0.mk H6.out.drew
  refine start_ (n := 28) (S := fun w' => w'.cell? ⟨w.heap.size, 0, none⟩ = some (.bool n.leaf) ∧ w'.cell? ⟨w.heap.size, 1, none⟩ = some (.int .i64 n.ver) ∧ w'.cell? ⟨w.heap.size, 2, none⟩ = some (.slice ka n.keys.length kc) ∧ w'.cell? ⟨w.heap.size, 3, none⟩ = some (.slice ra n.refs.length rc) ∧ w'.cell? ⟨w.heap.size + 1, 0, none⟩ = some (.bool m.leaf) ∧ w'.cell? ⟨w.heap.size + 1, 1, none⟩ = some (.int .i64 m.ver) ∧ w'.cell? ⟨w.heap.size + 1, 2, none⟩ = some (.slice ka1 m.keys.length kc1) ∧ w'.cell? ⟨w.heap.size + 1, 3, none⟩ = some (.slice ra1 m.refs.length rc1) ∧ w'.cell? ⟨g, 0, none⟩ = some (.bool c.leaf) ∧ w'.cell? ⟨g, 1, none⟩ = some (.int .i64 c.ver) ∧ w'.cell? ⟨g, 2, none⟩ = some (.slice ka2 c.keys.length kc2) ∧ w'.cell? ⟨g, 3, none⟩ = some (.slice ra2 c.refs.length rc2) ∧ w'.cell? ⟨g + 1, 0, none⟩ = some (.bool e.leaf) ∧ w'.cell? ⟨g + 1, 1, none⟩ = some (.int .i64 e.ver) ∧ w'.cell? ⟨g + 1, 2, none⟩ = some (.slice ka3 e.keys.length kc3) ∧ w'.cell? ⟨g + 1, 3, none⟩ = some (.slice ra3 e.refs.length rc3) ∧ w'.cell? ⟨d, 0, none⟩ = some (.bool c.leaf) ∧ w'.cell? ⟨d, 1, none⟩ = some (.int .i64 c.ver) ∧ w'.cell? ⟨d, 2, none⟩ = some (.slice ka4 c.keys.length kc4) ∧ w'.cell? ⟨d, 3, none⟩ = some (.slice ra4 c.refs.length rc4) ∧ w'.cell? ⟨d + 1, 0, none⟩ = some (.bool e.leaf) ∧ w'.cell? ⟨d + 1, 1, none⟩ = some (.int .i64 e.ver) ∧ w'.cell? ⟨d + 1, 2, none⟩ = some (.slice ka5 e.keys.length kc5) ∧ w'.cell? ⟨d + 1, 3, none⟩ = some (.slice ra5 e.refs.length rc5)) (ds := []) #[false, false, false, false, false, false, false, false, false, false, false, false, false, false, false, false, false, false, false, false, false, false, false, false, false, false, false, false] (by kernel_rfl) rfl rfl (SP.out _ _ H6d.out (fun p hp => List.mem_append_left _ hp)) (fun hHeld => ?_)
  generalize W6.drew = wr0 at H6d hHeld ⊢
  refine take_ (i := 0) (N := some 44) (v := ?_) (a' := ?_) #[true, false, false, false, false, false, false, false, false, false, false, false, false, false, false, false, false, false, false, false, false, false, false, false, false, false, false, false] rfl rfl (by kernel_rfl) (fun _ _ _ h => h) (Or.inl ⟨by rfl, ?_⟩) hHeld ?_ ?_
  rotate_left
  · rintro w' ⟨s0, s1, s2, s3, s4, s5, s6, s7, s8, s9, s10, s11, s12, s13, s14, s15, s16, s17, s18, s19, s20, s21, s22, s23⟩
    go_simp
    with_reducible rfl
  rotate_left
  · simp only [Act.put, List.setIfInBounds_toArray, List.set_cons_zero, List.set_cons_succ, i64_w, i32_w]
    rfl
  refine take_ (i := 1) (N := some 45) (v := ?_) (a' := ?_) #[true, true, false, false, false, false, false, false, false, false, false, false, false, false, false, false, false, false, false, false, false, false, false, false, false, false, false, false] rfl rfl (by kernel_rfl) (fun _ _ _ h => h) (Or.inl ⟨by rfl, ?_⟩) hHeld ?_ ?_
  rotate_left
  · rintro w' ⟨s0, s1, s2, s3, s4, s5, s6, s7, s8, s9, s10, s11, s12, s13, s14, s15, s16, s17, s18, s19, s20, s21, s22, s23⟩
    go_simp
    with_reducible rfl
  rotate_left
  · simp only [Act.put, List.setIfInBounds_toArray, List.set_cons_zero, List.set_cons_succ, i64_w, i32_w]
    rfl
  refine one_ (i := 2) (N := some 46) #[true, true, true, false, false, false, false, false, false, false, false, false, false, false, false, false, false, false, false, false, false, false, false, false, false, false, false, false] rfl rfl (by kernel_rfl) (by decide) (fun K hK => ?_)
  refine goes_ Try.func46 (by kernel_rfl) rfl #[.agg #[.bool c.leaf, .int .i64 c.ver, .slice ka2 c.keys.length kc2, .slice ra2 c.refs.length rc2], .agg #[.bool c.leaf, .int .i64 c.ver, .slice ka4 c.keys.length kc4, .slice ra4 c.refs.length rc4]] (by rfl) rfl rfl (by simp only [List.map_toArray, List.map_cons, List.map_nil]; first | rfl | (go_simp; done) | (go_simp; rfl)) ?_
  refine (same.calls H6d.out (HNS.out.1.1.mono (fun p hp => by exact List.mem_append_right _ hp)) (HNS.out.2.1.mono (fun p hp => by exact List.mem_append_right _ hp)) HLN.out.2.2.1.k HLN.out.2.2.1.r).mono ?_
  rintro e9 wr1 ⟨rfl, hh⟩
  refine ⟨_, rfl, ?_⟩
  have HR1 := Aside0.mk (show Hv w wr1 ([cb (d + 1) 59 #[.bool e.leaf, .int .i64 e.ver, .slice ka5 e.keys.length kc5, .slice ra5 e.refs.length rc5], cb (d) 59 #[.bool c.leaf, .int .i64 c.ver, .slice ka4 c.keys.length kc4, .slice ra4 c.refs.length rc4], cb (g + 1) 59 #[.bool e.leaf, .int .i64 e.ver, .slice ka3 e.keys.length kc3, .slice ra3 e.refs.length rc3], cb (g) 59 #[.bool c.leaf, .int .i64 c.ver, .slice ka2 c.keys.length kc2, .slice ra2 c.refs.length rc2], cb (w.heap.size + 1) 59 #[.bool m.leaf, .int .i64 m.ver, .slice ka1 m.keys.length kc1, .slice ra1 m.refs.length rc1], cb (w.heap.size) 59 #[.bool n.leaf, .int .i64 n.ver, .slice ka n.keys.length kc, .slice ra n.refs.length rc]] ++ R2) from hh)
  clear hh
  refine hK.out _ _ (SP.out _ _ HR1.out (fun p hp => by exact List.mem_append_left _ hp)) (fun hHeld => ?_)
  clear hK K
  refine norm_ (a' := ?_) ?_ ?_
  rotate_left
  · show Act.put _ (some 46) _ = _
    simp only [Act.put, List.setIfInBounds_toArray, List.set_cons_zero, List.set_cons_succ, i64_w, i32_w]
    rfl
  refine pure_ (i := 3) (N := some 47) (v := ?_) (a' := ?_) #[true, true, true, true, false, false, false, false, false, false, false, false, false, false, false, false, false, false, false, false, false, false, false, false, false, false, false, false] rfl rfl (by kernel_rfl) (fun _ _ _ h => h) (Or.inl ⟨by rfl, ?_⟩) ?_ ?_
  rotate_left
  · intro w'
    go_simp
    with_reducible rfl
  rotate_left
  · simp only [Act.put, List.setIfInBounds_toArray, List.set_cons_zero, List.set_cons_succ, i64_w, i32_w]
    rfl
  refine pure_ (i := 4) (N := some 48) (v := ?_) (a' := ?_) #[true, true, true, true, true, false, false, false, false, false, false, false, false, false, false, false, false, false, false, false, false, false, false, false, false, false, false, false] rfl rfl (by kernel_rfl) (fun _ _ _ h => h) (Or.inl ⟨by rfl, ?_⟩) ?_ ?_
  rotate_left
  · intro w'
    go_simp
    with_reducible rfl
  rotate_left
  · simp only [Act.put, List.setIfInBounds_toArray, List.set_cons_zero, List.set_cons_succ, i64_w, i32_w]
    rfl
  refine pure_ (i := 5) (N := some 49) (v := ?_) (a' := ?_) #[true, true, true, true, true, true, false, false, false, false, false, false, false, false, false, false, false, false, false, false, false, false, false, false, false, false, false, false] rfl rfl (by kernel_rfl) (fun _ _ _ h => h) (Or.inl ⟨by rfl, ?_⟩) ?_ ?_
  rotate_left
  · intro w'
    go_simp
    with_reducible rfl
  rotate_left
  · simp only [Act.put, List.setIfInBounds_toArray, List.set_cons_zero, List.set_cons_succ, i64_w, i32_w]
    rfl
  refine pure_ (i := 6) (N := some 50) (v := ?_) (a' := ?_) #[true, true, true, true, true, true, true, false, false, false, false, false, false, false, false, false, false, false, false, false, false, false, false, false, false, false, false, false] rfl rfl (by kernel_rfl) (fun _ _ _ h => h) (Or.inl ⟨by rfl, ?_⟩) ?_ ?_
  rotate_left
  · intro w'
    go_simp
    with_reducible rfl
  rotate_left
  · simp only [Act.put, List.setIfInBounds_toArray, List.set_cons_zero, List.set_cons_succ, i64_w, i32_w]
    rfl
  refine pure_ (i := 7) (N := some 51) (v := ?_) (a' := ?_) #[true, true, true, true, true, true, true, true, false, false, false, false, false, false, false, false, false, false, false, false, false, false, false, false, false, false, false, false] rfl rfl (by kernel_rfl) (fun _ _ _ h => h) (Or.inl ⟨by rfl, ?_⟩) ?_ ?_
  rotate_left
  · intro w'
    go_simp
    with_reducible rfl
  rotate_left
  · simp only [Act.put, List.setIfInBounds_toArray, List.set_cons_zero, List.set_cons_succ, i64_w, i32_w]
    rfl
  refine pure_ (i := 8) (N := some 52) (v := ?_) (a' := ?_) #[true, true, true, true, true, true, true, true, true, false, false, false, false, false, false, false, false, false, false, false, false, false, false, false, false, false, false, false] rfl rfl (by kernel_rfl) (fun _ _ _ h => h) (Or.inl ⟨by rfl, ?_⟩) ?_ ?_
  rotate_left
  · intro w'
    go_simp
    with_reducible rfl
  rotate_left
  · simp only [Act.put, List.setIfInBounds_toArray, List.set_cons_zero, List.set_cons_succ, i64_w, i32_w]
    rfl
  refine take_ (i := 9) (N := some 53) (v := ?_) (a' := ?_) #[true, true, true, true, true, true, true, true, true, true, false, false, false, false, false, false, false, false, false, false, false, false, false, false, false, false, false, false] rfl rfl (by kernel_rfl) (fun _ _ _ h => h) (Or.inl ⟨by rfl, ?_⟩) hHeld ?_ ?_
  rotate_left
  · rintro w' ⟨s0, s1, s2, s3, s4, s5, s6, s7, s8, s9, s10, s11, s12, s13, s14, s15, s16, s17, s18, s19, s20, s21, s22, s23⟩
    go_simp
    with_reducible rfl
  rotate_left
  · simp only [Act.put, List.setIfInBounds_toArray, List.set_cons_zero, List.set_cons_succ, i64_w, i32_w]
    rfl
  refine take_ (i := 10) (N := some 54) (v := ?_) (a' := ?_) #[true, true, true, true, true, true, true, true, true, true, true, false, false, false, false, false, false, false, false, false, false, false, false, false, false, false, false, false] rfl rfl (by kernel_rfl) (fun _ _ _ h => h) (Or.inl ⟨by rfl, ?_⟩) hHeld ?_ ?_
  rotate_left
  · rintro w' ⟨s0, s1, s2, s3, s4, s5, s6, s7, s8, s9, s10, s11, s12, s13, s14, s15, s16, s17, s18, s19, s20, s21, s22, s23⟩
    go_simp
    with_reducible rfl
  rotate_left
  · simp only [Act.put, List.setIfInBounds_toArray, List.set_cons_zero, List.set_cons_succ, i64_w, i32_w]
    rfl
  refine one_ (i := 11) (N := some 55) #[true, true, true, true, true, true, true, true, true, true, true, true, false, false, false, false, false, false, false, false, false, false, false, false, false, false, false, false] rfl rfl (by kernel_rfl) (by decide) (fun K hK => ?_)
  refine goes_ Try.func46 (by kernel_rfl) rfl #[.agg #[.bool e.leaf, .int .i64 e.ver, .slice ka3 e.keys.length kc3, .slice ra3 e.refs.length rc3], .agg #[.bool e.leaf, .int .i64 e.ver, .slice ka5 e.keys.length kc5, .slice ra5 e.refs.length rc5]] (by rfl) rfl rfl (by simp only [List.map_toArray, List.map_cons, List.map_nil]; first | rfl | (go_simp; done) | (go_simp; rfl)) ?_
  refine (same.calls HR1.out (HNS.out.1.2.mono (fun p hp => by exact List.mem_append_right _ hp)) (HNS.out.2.2.mono (fun p hp => by exact List.mem_append_right _ hp)) HLN.out.2.2.2.1.k HLN.out.2.2.2.1.r).mono ?_
  rintro e9 wr2 ⟨rfl, hh⟩
  refine ⟨_, rfl, ?_⟩
  have HR2 := Aside0.mk (show Hv w wr2 ([cb (d + 1) 59 #[.bool e.leaf, .int .i64 e.ver, .slice ka5 e.keys.length kc5, .slice ra5 e.refs.length rc5], cb (d) 59 #[.bool c.leaf, .int .i64 c.ver, .slice ka4 c.keys.length kc4, .slice ra4 c.refs.length rc4], cb (g + 1) 59 #[.bool e.leaf, .int .i64 e.ver, .slice ka3 e.keys.length kc3, .slice ra3 e.refs.length rc3], cb (g) 59 #[.bool c.leaf, .int .i64 c.ver, .slice ka2 c.keys.length kc2, .slice ra2 c.refs.length rc2], cb (w.heap.size + 1) 59 #[.bool m.leaf, .int .i64 m.ver, .slice ka1 m.keys.length kc1, .slice ra1 m.refs.length rc1], cb (w.heap.size) 59 #[.bool n.leaf, .int .i64 n.ver, .slice ka n.keys.length kc, .slice ra n.refs.length rc]] ++ R2) from hh)
  clear hh
  refine hK.out _ _ (SP.out _ _ HR2.out (fun p hp => by exact List.mem_append_left _ hp)) (fun hHeld => ?_)
  clear hK K
  refine norm_ (a' := ?_) ?_ ?_
  rotate_left
  · show Act.put _ (some 55) _ = _
    simp only [Act.put, List.setIfInBounds_toArray, List.set_cons_zero, List.set_cons_succ, i64_w, i32_w]
    rfl
  refine pure_ (i := 12) (N := some 56) (v := ?_) (a' := ?_) #[true, true, true, true, true, true, true, true, true, true, true, true, true, false, false, false, false, false, false, false, false, false, false, false, false, false, false, false] rfl rfl (by kernel_rfl) (fun _ _ _ h => h) (Or.inl ⟨by rfl, ?_⟩) ?_ ?_
  rotate_left
  · intro w'
    go_simp
    with_reducible rfl
  rotate_left
  · simp only [Act.put, List.setIfInBounds_toArray, List.set_cons_zero, List.set_cons_succ, i64_w, i32_w]
    rfl
  refine pure_ (i := 13) (N := some 57) (v := ?_) (a' := ?_) #[true, true, true, true, true, true, true, true, true, true, true, true, true, true, false, false, false, false, false, false, false, false, false, false, false, false, false, false] rfl rfl (by kernel_rfl) (fun _ _ _ h => h) (Or.inl ⟨by rfl, ?_⟩) ?_ ?_
  rotate_left
  · intro w'
    go_simp
    with_reducible rfl
  rotate_left
  · simp only [Act.put, List.setIfInBounds_toArray, List.set_cons_zero, List.set_cons_succ, i64_w, i32_w]
    rfl
  refine pure_ (i := 15) (N := some 59) (v := ?_) (a' := ?_) #[true, true, true, true, true, true, true, true, true, true, true, true, true, true, false, true, false, false, false, false, false, false, false, false, false, false, false, false] rfl rfl (by kernel_rfl) (fun _ _ _ h => h) (Or.inl ⟨by rfl, ?_⟩) ?_ ?_
  rotate_left
  · intro w'
    go_simp
    with_reducible rfl
  rotate_left
  · simp only [Act.put, List.setIfInBounds_toArray, List.set_cons_zero, List.set_cons_succ, i64_w, i32_w]
    rfl
  refine pure_ (i := 19) (N := some 63) (v := ?_) (a' := ?_) #[true, true, true, true, true, true, true, true, true, true, true, true, true, true, false, true, false, false, false, true, false, false, false, false, false, false, false, false] rfl rfl (by kernel_rfl) (fun _ _ _ h => h) (Or.inl ⟨by rfl, ?_⟩) ?_ ?_
  rotate_left
  · intro w'
    go_simp
    with_reducible rfl
  rotate_left
  · simp only [Act.put, List.setIfInBounds_toArray, List.set_cons_zero, List.set_cons_succ, i64_w, i32_w]
    rfl
  refine take_ (i := 14) (N := some 58) (v := ?_) (a' := ?_) #[true, true, true, true, true, true, true, true, true, true, true, true, true, true, true, true, false, false, false, true, false, false, false, false, false, false, false, false] rfl rfl (by kernel_rfl) (fun _ _ _ h => h) (Or.inl ⟨by rfl, ?_⟩) hHeld ?_ ?_
  rotate_left
  · rintro w' ⟨s0, s1, s2, s3, s4, s5, s6, s7, s8, s9, s10, s11, s12, s13, s14, s15, s16, s17, s18, s19, s20, s21, s22, s23⟩
    go_simp
    with_reducible rfl
  rotate_left
  · simp only [Act.put, List.setIfInBounds_toArray, List.set_cons_zero, List.set_cons_succ, i64_w, i32_w]
    rfl
  refine take_ (i := 16) (N := some 60) (v := ?_) (a' := ?_) #[true, true, true, true, true, true, true, true, true, true, true, true, true, true, true, true, true, false, false, true, false, false, false, false, false, false, false, false] rfl rfl (by kernel_rfl) (fun _ _ _ h => h) (Or.inl ⟨by rfl, ?_⟩) hHeld ?_ ?_
  rotate_left
  · rintro w' ⟨s0, s1, s2, s3, s4, s5, s6, s7, s8, s9, s10, s11, s12, s13, s14, s15, s16, s17, s18, s19, s20, s21, s22, s23⟩
    go_simp
    with_reducible rfl
  rotate_left
  · simp only [Act.put, List.setIfInBounds_toArray, List.set_cons_zero, List.set_cons_succ, i64_w, i32_w]
    rfl
  refine take_ (i := 18) (N := some 62) (v := ?_) (a' := ?_) #[true, true, true, true, true, true, true, true, true, true, true, true, true, true, true, true, true, false, true, true, false, false, false, false, false, false, false, false] rfl rfl (by kernel_rfl) (fun _ _ _ h => h) (Or.inl ⟨by rfl, ?_⟩) hHeld ?_ ?_
  rotate_left
  · rintro w' ⟨s0, s1, s2, s3, s4, s5, s6, s7, s8, s9, s10, s11, s12, s13, s14, s15, s16, s17, s18, s19, s20, s21, s22, s23⟩
    go_simp
    with_reducible rfl
  rotate_left
  · simp only [Act.put, List.setIfInBounds_toArray, List.set_cons_zero, List.set_cons_succ, i64_w, i32_w]
    rfl
  refine take_ (i := 20) (N := some 64) (v := ?_) (a' := ?_) #[true, true, true, true, true, true, true, true, true, true, true, true, true, true, true, true, true, false, true, true, true, false, false, false, false, false, false, false] rfl rfl (by kernel_rfl) (fun _ _ _ h => h) (Or.inl ⟨by rfl, ?_⟩) hHeld ?_ ?_
  rotate_left
  · rintro w' ⟨s0, s1, s2, s3, s4, s5, s6, s7, s8, s9, s10, s11, s12, s13, s14, s15, s16, s17, s18, s19, s20, s21, s22, s23⟩
    go_simp
    with_reducible rfl
  rotate_left
  · simp only [Act.put, List.setIfInBounds_toArray, List.set_cons_zero, List.set_cons_succ, i64_w, i32_w]
    rfl
  refine one_ (i := 17) (N := some 61) #[true, true, true, true, true, true, true, true, true, true, true, true, true, true, true, true, true, true, true, true, true, false, false, false, false, false, false, false] rfl rfl (by kernel_rfl) (by decide) (fun K hK => ?_)
  refine goes_ Try.func53 (by kernel_rfl) rfl #[.agg #[.bool n.leaf, .int .i64 n.ver, .slice ka n.keys.length kc, .slice ra n.refs.length rc], .string k, .agg #[.bool m.leaf, .int .i64 m.ver, .slice ka1 m.keys.length kc1, .slice ra1 m.refs.length rc1]] (by rfl) rfl rfl (by simp only [List.map_toArray, List.map_cons, List.map_nil]; first | rfl | (go_simp; done) | (go_simp; rfl)) ?_
  refine (join.calls (w0 := w) (R := []) HR2.out (fun p hp => by cases hp) HN.out HM.out HLN.out.1 HLN.out.2.1 k).mono ?_
  rintro e9 wr3 ⟨vj1, J1, rfl, hj, hh⟩
  refine ⟨_, rfl, ?_⟩
  have HJvj1 := Aside0.mk hj
  have HR3 := Aside0.mk (show Hv w wr3 (J1 ++ ([cb (d + 1) 59 #[.bool e.leaf, .int .i64 e.ver, .slice ka5 e.keys.length kc5, .slice ra5 e.refs.length rc5], cb (d) 59 #[.bool c.leaf, .int .i64 c.ver, .slice ka4 c.keys.length kc4, .slice ra4 c.refs.length rc4], cb (g + 1) 59 #[.bool e.leaf, .int .i64 e.ver, .slice ka3 e.keys.length kc3, .slice ra3 e.refs.length rc3], cb (g) 59 #[.bool c.leaf, .int .i64 c.ver, .slice ka2 c.keys.length kc2, .slice ra2 c.refs.length rc2], cb (w.heap.size + 1) 59 #[.bool m.leaf, .int .i64 m.ver, .slice ka1 m.keys.length kc1, .slice ra1 m.refs.length rc1], cb (w.heap.size) 59 #[.bool n.leaf, .int .i64 n.ver, .slice ka n.keys.length kc, .slice ra n.refs.length rc]] ++ R2)) from hh)
  clear hh hj
  refine hK.out _ _ (SP.out _ _ HR3.out (fun p hp => by simp at hp; rcases hp with hp | hp | hp | hp | hp | hp <;> simp [hp])) (fun hHeld => ?_)
  clear hK K
  refine norm_ (a' := ?_) ?_ ?_
  rotate_left
  · show Act.put _ (some 61) _ = _
    simp only [Act.put, List.setIfInBounds_toArray, List.set_cons_zero, List.set_cons_succ, i64_w, i32_w]
    rfl
  refine one_ (i := 21) (N := some 65) #[true, true, true, true, true, true, true, true, true, true, true, true, true, true, true, true, true, true, true, true, true, true, false, false, false, false, false, false] rfl rfl (by kernel_rfl) (by decide) (fun K hK => ?_)
  refine goes_ Try.func54 (by kernel_rfl) rfl #[.agg #[.bool n.leaf, .int .i64 n.ver, .slice ka n.keys.length kc, .slice ra n.refs.length rc], .string k, .agg #[.bool m.leaf, .int .i64 m.ver, .slice ka1 m.keys.length kc1, .slice ra1 m.refs.length rc1]] (by rfl) rfl rfl (by simp only [List.map_toArray, List.map_cons, List.map_nil]; first | rfl | (go_simp; done) | (go_simp; rfl)) ?_
  refine (rjoin.calls (w0 := w) (R := []) HR3.out (fun p hp => by cases hp) HN.out HM.out HLN.out.1 HLN.out.2.1 k).mono ?_
  rintro e9 wr4 ⟨vj2, J2, rfl, hj, hh⟩
  refine ⟨_, rfl, ?_⟩
  have HJvj2 := Aside0.mk hj
  have HR4 := Aside0.mk (show Hv w wr4 (J2 ++ (J1 ++ ([cb (d + 1) 59 #[.bool e.leaf, .int .i64 e.ver, .slice ka5 e.keys.length kc5, .slice ra5 e.refs.length rc5], cb (d) 59 #[.bool c.leaf, .int .i64 c.ver, .slice ka4 c.keys.length kc4, .slice ra4 c.refs.length rc4], cb (g + 1) 59 #[.bool e.leaf, .int .i64 e.ver, .slice ka3 e.keys.length kc3, .slice ra3 e.refs.length rc3], cb (g) 59 #[.bool c.leaf, .int .i64 c.ver, .slice ka2 c.keys.length kc2, .slice ra2 c.refs.length rc2], cb (w.heap.size + 1) 59 #[.bool m.leaf, .int .i64 m.ver, .slice ka1 m.keys.length kc1, .slice ra1 m.refs.length rc1], cb (w.heap.size) 59 #[.bool n.leaf, .int .i64 n.ver, .slice ka n.keys.length kc, .slice ra n.refs.length rc]] ++ R2))) from hh)
  clear hh hj
  refine hK.out _ _ (SP.out _ _ HR4.out (fun p hp => by simp at hp; rcases hp with hp | hp | hp | hp | hp | hp <;> simp [hp])) (fun hHeld => ?_)
  clear hK K
  refine norm_ (a' := ?_) ?_ ?_
  rotate_left
  · show Act.put _ (some 65) _ = _
    simp only [Act.put, List.setIfInBounds_toArray, List.set_cons_zero, List.set_cons_succ, i64_w, i32_w]
    rfl
  refine one_ (i := 22) (N := some 66) #[true, true, true, true, true, true, true, true, true, true, true, true, true, true, true, true, true, true, true, true, true, true, true, false, false, false, false, false] rfl rfl (by kernel_rfl) (by decide) (fun K hK => ?_)
  refine goes_ Try.func46 (by kernel_rfl) rfl #[vj1, vj2] (by rfl) rfl rfl (by simp only [List.map_toArray, List.map_cons, List.map_nil]; first | rfl | (go_simp; done) | (go_simp; rfl)) ?_
  refine (same.calls HR4.out (HJvj1.out.mono (fun p hp => by rw [List.append_nil] at hp; simp [hp])) (HJvj2.out.mono (fun p hp => by rw [List.append_nil] at hp; simp [hp])) HLN.out.2.2.2.2.k HLN.out.2.2.2.2.r).mono ?_
  rintro e9 wr5 ⟨rfl, hh⟩
  refine ⟨_, rfl, ?_⟩
  have HR5 := Aside0.mk (show Hv w wr5 (J2 ++ (J1 ++ ([cb (d + 1) 59 #[.bool e.leaf, .int .i64 e.ver, .slice ka5 e.keys.length kc5, .slice ra5 e.refs.length rc5], cb (d) 59 #[.bool c.leaf, .int .i64 c.ver, .slice ka4 c.keys.length kc4, .slice ra4 c.refs.length rc4], cb (g + 1) 59 #[.bool e.leaf, .int .i64 e.ver, .slice ka3 e.keys.length kc3, .slice ra3 e.refs.length rc3], cb (g) 59 #[.bool c.leaf, .int .i64 c.ver, .slice ka2 c.keys.length kc2, .slice ra2 c.refs.length rc2], cb (w.heap.size + 1) 59 #[.bool m.leaf, .int .i64 m.ver, .slice ka1 m.keys.length kc1, .slice ra1 m.refs.length rc1], cb (w.heap.size) 59 #[.bool n.leaf, .int .i64 n.ver, .slice ka n.keys.length kc, .slice ra n.refs.length rc]] ++ R2))) from hh)
  clear hh
  refine hK.out _ _ (SP.out _ _ HR5.out (fun p hp => by simp at hp; rcases hp with hp | hp | hp | hp | hp | hp <;> simp [hp])) (fun hHeld => ?_)
  clear hK K
  refine norm_ (a' := ?_) ?_ ?_
  rotate_left
  · show Act.put _ (some 66) _ = _
    simp only [Act.put, List.setIfInBounds_toArray, List.set_cons_zero, List.set_cons_succ, i64_w, i32_w]
    rfl
  refine pure_ (i := 23) (N := some 67) (v := ?_) (a' := ?_) #[true, true, true, true, true, true, true, true, true, true, true, true, true, true, true, true, true, true, true, true, true, true, true, true, false, false, false, false] rfl rfl (by kernel_rfl) (fun _ _ _ h => h) (Or.inl ⟨by rfl, ?_⟩) ?_ ?_
  rotate_left
  · intro w'
    go_simp
    with_reducible rfl
  rotate_left
  · simp only [Act.put, List.setIfInBounds_toArray, List.set_cons_zero, List.set_cons_succ, i64_w, i32_w]
    rfl
  refine pure_ (i := 24) (N := some 68) (v := ?_) (a' := ?_) #[true, true, true, true, true, true, true, true, true, true, true, true, true, true, true, true, true, true, true, true, true, true, true, true, true, false, false, false] rfl rfl (by kernel_rfl) (fun _ _ _ h => h) (Or.inl ⟨by rfl, ?_⟩) ?_ ?_
  rotate_left
  · intro w'
    go_simp
    with_reducible rfl
  rotate_left
  · simp only [Act.put, List.setIfInBounds_toArray, List.set_cons_zero, List.set_cons_succ, i64_w, i32_w]
    rfl
  refine one_ (i := 25) (N := some 69) #[true, true, true, true, true, true, true, true, true, true, true, true, true, true, true, true, true, true, true, true, true, true, true, true, true, true, false, false] rfl rfl (by kernel_rfl) (by decide) (fun K hK => ?_)
  refine goes_ Try.func32 (by kernel_rfl) rfl #[] (by rfl) rfl rfl (by simp) ?_
  refine (awake.calls _).mono ?_
  rintro e9 wr6 ⟨rfl, hh⟩
  refine ⟨_, rfl, ?_⟩
  have HR6 := Aside0.mk (show Hv w wr6 (J2 ++ (J1 ++ ([cb (d + 1) 59 #[.bool e.leaf, .int .i64 e.ver, .slice ka5 e.keys.length kc5, .slice ra5 e.refs.length rc5], cb (d) 59 #[.bool c.leaf, .int .i64 c.ver, .slice ka4 c.keys.length kc4, .slice ra4 c.refs.length rc4], cb (g + 1) 59 #[.bool e.leaf, .int .i64 e.ver, .slice ka3 e.keys.length kc3, .slice ra3 e.refs.length rc3], cb (g) 59 #[.bool c.leaf, .int .i64 c.ver, .slice ka2 c.keys.length kc2, .slice ra2 c.refs.length rc2], cb (w.heap.size + 1) 59 #[.bool m.leaf, .int .i64 m.ver, .slice ka1 m.keys.length kc1, .slice ra1 m.refs.length rc1], cb (w.heap.size) 59 #[.bool n.leaf, .int .i64 n.ver, .slice ka n.keys.length kc, .slice ra n.refs.length rc]] ++ R2))) from HR5.out.call hh)
  clear hh
  refine hK.out _ _ (SP.out _ _ HR6.out (fun p hp => by simp at hp; rcases hp with hp | hp | hp | hp | hp | hp <;> simp [hp])) (fun hHeld => ?_)
  clear hK K
  refine norm_ (a' := ?_) ?_ ?_
  rotate_left
  · show Act.put _ (some 69) _ = _
    simp only [Act.put, List.setIfInBounds_toArray, List.set_cons_zero, List.set_cons_succ, i64_w, i32_w]
    rfl
  refine pure_ (i := 26) (N := some 70) (v := ?_) (a' := ?_) #[true, true, true, true, true, true, true, true, true, true, true, true, true, true, true, true, true, true, true, true, true, true, true, true, true, true, true, false] rfl rfl (by kernel_rfl) (fun _ _ _ h => h) (Or.inl ⟨by rfl, ?_⟩) ?_ ?_
  rotate_left
  · intro w'
    go_simp
    with_reducible rfl
  rotate_left
  · simp only [Act.put, List.setIfInBounds_toArray, List.set_cons_zero, List.set_cons_succ, i64_w, i32_w]
    rfl
  refine pure_ (i := 27) (N := some 6) (v := ?_) (a' := ?_) #[true, true, true, true, true, true, true, true, true, true, true, true, true, true, true, true, true, true, true, true, true, true, true, true, true, true, true, true] rfl rfl (by kernel_rfl) (fun _ _ _ h => h) (Or.inl ⟨by rfl, ?_⟩) ?_ ?_
  rotate_left
  · intro w'
    go_simp
    with_reducible rfl
  rotate_left
  · simp only [Act.put, List.setIfInBounds_toArray, List.set_cons_zero, List.set_cons_succ, i64_w, i32_w]
    rfl
  refine done_ (by kernel_rfl) ?_
  go_wp2_with fail
  exact bodyPost_ret (v := .bool true) (by simp [results, Try.results8, go_sem]) rfl ⟨rfl, HR6.out.bel⟩
end Go.Proofs.Ytglbcfkmaamhaaa.Nd
