/- node: Join, both whole, no leaves; Join. No condition. -/
import Derived.Test.YtglbcfkmaamhaaaNdK
set_option linter.unusedVariables false
set_option linter.unusedSimpArgs false
namespace Go.Proofs.Ytglbcfkmaamhaaa.Nd
open Go Go.RowKit Go.Proofs.YtglbcfkmaamhaaaW.PrintWords Go.Proofs.YtglbcfkmaamhaaaW.PrintLast Go.Proofs.YtglbcfkmaamhaaaW.PrintMore Go.Proofs.Ytglbcfkmaamhaaa.Hv
variable {w0 w w1 : World} {g : Nat} {L L' R : List Ob}
set_option maxHeartbeats 16000000 in
set_option maxRecDepth 100000 in
theorem join.inner (hv : Hv w0 w L) (hRL : ∀ p ∈ R, p ∈ L) {n m : Nd} {v v1 : Value} (hn : NV w0 R n v) (hm : NV w0 R m v1) (ho : Sm n) (ho1 : Sm m) (k : ByteArray) (hs : n.shape = true) (hs1 : m.shape = true) (hlf : n.leaf = false) (hlm : m.leaf = false) :
    Calls Try.prog 53 #[v, .string k, v1] w (NodeP w0 R L (n.join k m)) := by
  have hu59 := Try.underlying59
  have hu57 := Try.underlying57
  have hu31 := Try.underlying31
  obtain ⟨ka, kc, ra, rc, rfl, hr⟩ := hn
  have HRL := Aside0.mk hRL
  clear hRL
  obtain ⟨ka1, kc1, ra1, rc1, rfl, hr1⟩ := hm
  have HV := Aside0.mk (show Hv w0 _ (cb (w.heap.size + 1 + 1) 59 #[.bool false, .int .i64 0, .slice none 0 0, .slice none 0 0] :: cb (w.heap.size + 1) 59 #[.bool m.leaf, .int .i64 m.ver, .slice ka1 m.keys.length kc1, .slice ra1 m.refs.length rc1] :: cb w.heap.size 59 #[.bool n.leaf, .int .i64 n.ver, .slice ka n.keys.length kc, .slice ra n.refs.length rc] :: L) by
    have := ((hv.alloc (.cells #[.bool n.leaf, .int .i64 n.ver, .slice ka n.keys.length kc, .slice ra n.refs.length rc] 59)).alloc (.cells #[.bool m.leaf, .int .i64 m.ver, .slice ka1 m.keys.length kc1, .slice ra1 m.refs.length rc1] 59)).alloc (.cells #[.bool false, .int .i64 0, .slice none 0 0, .slice none 0 0] 59)
    simpa [cb] using this)
  have HR := Aside0.mk (And.intro hr hr1)
  have HB := Aside0.mk (show n.refs.length < 4611686018427387904 ∧ m.refs.length < 4611686018427387904 from ⟨by have := ho.r; omega, by have := ho1.r; omega⟩)
  obtain ⟨kk, hkk⟩ : ∃ kk, kk = n.keys ++ [k] := ⟨_, rfl⟩
  have hkl : n.keys.length + 1 = kk.length := by rw [hkk]; simp
  have hkb : n.keys.length + 1 < 8796093022208 := by have := ho.k; omega
  obtain ⟨nk, hnk⟩ : ∃ nk, nk = kk ++ m.keys := ⟨_, rfl⟩
  obtain ⟨nr, hnr⟩ : ∃ nr, nr = n.refs ++ m.refs := ⟨_, rfl⟩
  have HF := Aside0.mk (show n.join k m = { n with ver := wrap64 (n.ver + 1), keys := kk ++ m.keys, refs := n.refs ++ m.refs } by unfold Nd.join; rw [hs, hs1, hlf, hlm, hkk]; rfl)
  have HNR := Aside0.mk (And.intro hnk (And.intro hnr (And.intro (show kk.length + m.keys.length < 8796093022208 ∧ n.refs.length + m.refs.length < 8796093022208 from ⟨by have := ho.k; have := ho1.k; omega, by have := ho.r; have := ho1.r; omega⟩) (And.intro (show kk.length + m.keys.length = nk.length by rw [hnk]; simp) (show n.refs.length + m.refs.length = nr.length by rw [hnr]; simp)))))
  have HKK := Aside0.mk (And.intro hkk (And.intro hkl hkb))
  have ew : IntKind.i64.wrap (n.ver + 1) = wrap64 (n.ver + 1) := i64_w _
  have hll : (n.leaf == m.leaf) = true := by rw [hlf, hlm]; rfl
  clear hv hr hr1 ho ho1 hnk hnr hkk hkl hkb
  obtain ⟨y0, y1, y2, y3, f0, f1, f2, f3⟩ := HV.out.c4 w.heap.size 59 (.bool n.leaf) (.int .i64 n.ver) (.slice ka n.keys.length kc) (.slice ra n.refs.length rc) (by simp)
  obtain ⟨t0, t1, t2, t3, h0, h1, h2, h3⟩ := HV.out.c4 (w.heap.size + 1) 59 (.bool m.leaf) (.int .i64 m.ver) (.slice ka1 m.keys.length kc1) (.slice ra1 m.refs.length rc1) (by simp)
  obtain ⟨q0, q1, q2, q3, g0, g1, g2, g3⟩ := HV.out.c4 (w.heap.size + 1 + 1) 59 (.bool false) (.int .i64 0) (.slice none 0 0) (.slice none 0 0) (by simp)
  unfold nval at *
  unfold Nd.shape at hs hs1
  have HLF := Aside0.mk (And.intro hlf hlm)
  clear hlf hlm
  go_enter Try.func53, Try.ntmps53
  go_upto_region 3 with (first | (go_at_call 93; have hx2 := H2.out; clear hx2; go_loud (refine (shape.calls H2.out m.leaf m.ver ka1 ra1 m.keys.length kc1 m.refs.length rc1 HB.out.2).mono ?_); rw [hs1]; rintro e3 w3 ⟨rfl, hh⟩; have H3 := Aside0.mk hh; clear y0 y1 y2 y3 f0 f1 f2 f3 q0 q1 q2 q3 g0 g1 g2 g3 t0 t1 t2 t3 h0 h1 h2 h3; obtain ⟨y0, y1, y2, y3, f0, f1, f2, f3⟩ := hh.c4 w.heap.size 59 (.bool n.leaf) (.int .i64 n.ver) (.slice ka n.keys.length kc) (.slice ra n.refs.length rc) (by simp); obtain ⟨t0, t1, t2, t3, h0, h1, h2, h3⟩ := hh.c4 (w.heap.size + 1) 59 (.bool m.leaf) (.int .i64 m.ver) (.slice ka1 m.keys.length kc1) (.slice ra1 m.refs.length rc1) (by simp); obtain ⟨q0, q1, q2, q3, g0, g1, g2, g3⟩ := hh.c4 (w.heap.size + 1 + 1) 59 (.bool false) (.int .i64 0) (.slice none 0 0) (.slice none 0 0) (by simp); clear hh) | (go_at_call 93; go_loud (refine (shape.calls HV.out n.leaf n.ver ka ra n.keys.length kc n.refs.length rc HB.out.1).mono ?_); rw [hs]; rintro e2 w2 ⟨rfl, hh⟩; have H2 := Aside0.mk hh; clear y0 y1 y2 y3 f0 f1 f2 f3 q0 q1 q2 q3 g0 g1 g2 g3 t0 t1 t2 t3 h0 h1 h2 h3; obtain ⟨y0, y1, y2, y3, f0, f1, f2, f3⟩ := hh.c4 w.heap.size 59 (.bool n.leaf) (.int .i64 n.ver) (.slice ka n.keys.length kc) (.slice ra n.refs.length rc) (by simp); obtain ⟨t0, t1, t2, t3, h0, h1, h2, h3⟩ := hh.c4 (w.heap.size + 1) 59 (.bool m.leaf) (.int .i64 m.ver) (.slice ka1 m.keys.length kc1) (.slice ra1 m.refs.length rc1) (by simp); obtain ⟨q0, q1, q2, q3, g0, g1, g2, g3⟩ := hh.c4 (w.heap.size + 1 + 1) 59 (.bool false) (.int .i64 0) (.slice none 0 0) (.slice none 0 0) (by simp); clear hh))
  have hlf := HLF.out.1
  go_upto_region 4 with (fail)
  clear hlf
  have h5 := H3.out.alloc (.cells #[.string k] 9)
  have HX := Aside0.mk (copS.calls (w0 := w0) (a0 := ka) (n0 := n.keys.length) (c0 := kc) (a1 := some ⟨w3.heap.size, 0, none⟩) (n1 := 1) (c1 := 1) (xs := n.keys.map Value.string) (ys := [.string k]) h5 (HR.out.1.k.mono (fun p hp => by first | (simp [hp]; done) | (simp [HRL.out p hp]; done))) (Rdy.of_rw (e := 9) (c := 1) ⟨rfl, Nat.le_refl _, fun _ => ⟨w3.heap.size, 0, _, rfl, List.mem_cons_self, fun i _ => by rw [Nat.zero_add]; simp⟩⟩) (kcel_one _) (by intro u hu; simp at hu; subst hu; rfl) HKK.out.2.2)
  clear h5
  go_upto_region 5 with (go_at_call 105; go_loud (refine HX.out.mono ?_); rintro e5 w5 hq5; obtain ⟨adq, cq, A0, rfl, hG, hv5⟩ := hq5; rw [HKK.out.2.1] at hG ⊢; have HG0 := Aside0.mk hG; have H5 := Aside0.mk (hv5.drop (L' := A0 ++ (cb (w.heap.size + 1 + 1) 59 #[.bool false, .int .i64 0, .slice none 0 0, .slice none 0 0] :: cb (w.heap.size + 1) 59 #[.bool m.leaf, .int .i64 m.ver, .slice ka1 m.keys.length kc1, .slice ra1 m.refs.length rc1] :: cb w.heap.size 59 #[.bool n.leaf, .int .i64 n.ver, .slice ka n.keys.length kc, .slice ra n.refs.length rc] :: L)) (List.Sublist.append_left (List.sublist_cons_self _ _) A0)); clear hG hv5; clear y0 y1 y2 y3 f0 f1 f2 f3 q0 q1 q2 q3 g0 g1 g2 g3 t0 t1 t2 t3 h0 h1 h2 h3; obtain ⟨y0, y1, y2, y3, f0, f1, f2, f3⟩ := H5.out.right.c4 w.heap.size 59 (.bool n.leaf) (.int .i64 n.ver) (.slice ka n.keys.length kc) (.slice ra n.refs.length rc) (by simp); obtain ⟨t0, t1, t2, t3, h0, h1, h2, h3⟩ := H5.out.right.c4 (w.heap.size + 1) 59 (.bool m.leaf) (.int .i64 m.ver) (.slice ka1 m.keys.length kc1) (.slice ra1 m.refs.length rc1) (by simp); obtain ⟨q0, q1, q2, q3, g0, g1, g2, g3⟩ := H5.out.right.c4 (w.heap.size + 1 + 1) 59 (.bool false) (.int .i64 0) (.slice none 0 0) (.slice none 0 0) (by simp))
  clear y0 y1 y2 y3 f0 f1 f2 f3 q0 q1 q2 q3 g0 g1 g2 g3 t0 t1 t2 t3 h0 h1 h2 h3
  obtain ⟨W4, hW, hv4⟩ : ∃ W4, W4 = w5.setCell ⟨w.heap.size, 2, none⟩ (.slice adq kk.length cq) ∧ Hv w0 W4 (A0 ++ (cb (w.heap.size + 1 + 1) 59 #[.bool false, .int .i64 0, .slice none 0 0, .slice none 0 0] :: cb (w.heap.size + 1) 59 #[.bool m.leaf, .int .i64 m.ver, .slice ka1 m.keys.length kc1, .slice ra1 m.refs.length rc1] :: cb w.heap.size 59 #[.bool n.leaf, .int .i64 n.ver, .slice adq kk.length cq, .slice ra n.refs.length rc] :: L)) := ⟨_, rfl, putA2 H5.out 2 _ rfl⟩
  rw [← hW]
  have H4d := Aside0.mk (show Hv w0 W4.drew (A0 ++ (cb (w.heap.size + 1 + 1) 59 #[.bool false, .int .i64 0, .slice none 0 0, .slice none 0 0] :: cb (w.heap.size + 1) 59 #[.bool m.leaf, .int .i64 m.ver, .slice ka1 m.keys.length kc1, .slice ra1 m.refs.length rc1] :: cb w.heap.size 59 #[.bool n.leaf, .int .i64 n.ver, .slice adq kk.length cq, .slice ra n.refs.length rc] :: L)) from hv4.drew)
  have HKQ := Aside0.mk (show Rdy 1 w0 A0 adq kk.length (kk.map Value.string) by
    have h9 : Gr 9 1 (.slice adq kk.length cq) kk.length (kk.map Value.string) A0 := by
      have h9 := HG0.out
      rw [HKK.out.1] at h9 ⊢
      simpa using h9
    exact Rdy.of_rw (Rw.of_gr h9))
  clear hW hv4
  have SP := Aside0.mk (show ∀ (w' : World) (L' : List Ob), Hv w0 w' L' → cb w.heap.size 59 #[.bool n.leaf, .int .i64 n.ver, .slice adq kk.length cq, .slice ra n.refs.length rc] ∈ L' → cb (w.heap.size + 1) 59 #[.bool m.leaf, .int .i64 m.ver, .slice ka1 m.keys.length kc1, .slice ra1 m.refs.length rc1] ∈ L' → (w'.cell? ⟨w.heap.size, 0, none⟩ = some (.bool n.leaf) ∧ w'.cell? ⟨w.heap.size, 1, none⟩ = some (.int .i64 n.ver) ∧ w'.cell? ⟨w.heap.size, 2, none⟩ = some (.slice adq kk.length cq) ∧ w'.cell? ⟨w.heap.size, 3, none⟩ = some (.slice ra n.refs.length rc) ∧ w'.cell? ⟨w.heap.size + 1, 0, none⟩ = some (.bool m.leaf) ∧ w'.cell? ⟨w.heap.size + 1, 1, none⟩ = some (.int .i64 m.ver) ∧ w'.cell? ⟨w.heap.size + 1, 2, none⟩ = some (.slice ka1 m.keys.length kc1) ∧ w'.cell? ⟨w.heap.size + 1, 3, none⟩ = some (.slice ra1 m.refs.length rc1)) from fun w' L' h m3 m5 => by
    obtain ⟨p0, p1, p2, p3, -, -, -, -⟩ := h.c4 _ _ _ _ _ _ m3
    obtain ⟨p4, p5, p6, p7, -, -, -, -⟩ := h.c4 _ _ _ _ _ _ m5
    exact ⟨p0, p1, p2, p3, p4, p5, p6, p7⟩)

  refine start_ (n := 14) (S := fun w' => w'.cell? ⟨w.heap.size, 0, none⟩ = some (.bool n.leaf) ∧ w'.cell? ⟨w.heap.size, 1, none⟩ = some (.int .i64 n.ver) ∧ w'.cell? ⟨w.heap.size, 2, none⟩ = some (.slice adq kk.length cq) ∧ w'.cell? ⟨w.heap.size, 3, none⟩ = some (.slice ra n.refs.length rc) ∧ w'.cell? ⟨w.heap.size + 1, 0, none⟩ = some (.bool m.leaf) ∧ w'.cell? ⟨w.heap.size + 1, 1, none⟩ = some (.int .i64 m.ver) ∧ w'.cell? ⟨w.heap.size + 1, 2, none⟩ = some (.slice ka1 m.keys.length kc1) ∧ w'.cell? ⟨w.heap.size + 1, 3, none⟩ = some (.slice ra1 m.refs.length rc1)) (ds := [11, 13]) #[false, false, false, false, false, false, false, false, false, false, false, false, false, false] (by kernel_rfl) rfl rfl (SP.out _ _ H4d.out (by simp) (by simp)) (fun hHeld => ?_)
  generalize W4.drew = wr0 at H4d hHeld ⊢
  refine pure_ (i := 0) (N := some 32) (v := ?_) (a' := ?_) #[true, false, false, false, false, false, false, false, false, false, false, false, false, false] rfl rfl (by kernel_rfl) (fun _ _ _ h => h) (Or.inl ⟨by rfl, ?_⟩) ?_ ?_
  rotate_left
  · intro w'
    go_simp
    with_reducible rfl
  rotate_left
  · simp only [Act.put, List.setIfInBounds_toArray, List.set_cons_zero, List.set_cons_succ, i64_w, i32_w]
    rfl
  refine pure_ (i := 2) (N := some 34) (v := ?_) (a' := ?_) #[true, false, true, false, false, false, false, false, false, false, false, false, false, false] rfl rfl (by kernel_rfl) (fun _ _ _ h => h) (Or.inl ⟨by rfl, ?_⟩) ?_ ?_
  rotate_left
  · intro w'
    go_simp
    with_reducible rfl
  rotate_left
  · simp only [Act.put, List.setIfInBounds_toArray, List.set_cons_zero, List.set_cons_succ, i64_w, i32_w]
    rfl
  refine pure_ (i := 5) (N := some 37) (v := ?_) (a' := ?_) #[true, false, true, false, false, true, false, false, false, false, false, false, false, false] rfl rfl (by kernel_rfl) (fun _ _ _ h => h) (Or.inl ⟨by rfl, ?_⟩) ?_ ?_
  rotate_left
  · intro w'
    go_simp
    with_reducible rfl
  rotate_left
  · simp only [Act.put, List.setIfInBounds_toArray, List.set_cons_zero, List.set_cons_succ, i64_w, i32_w]
    rfl
  refine pure_ (i := 7) (N := some 39) (v := ?_) (a' := ?_) #[true, false, true, false, false, true, false, true, false, false, false, false, false, false] rfl rfl (by kernel_rfl) (fun _ _ _ h => h) (Or.inl ⟨by rfl, ?_⟩) ?_ ?_
  rotate_left
  · intro w'
    go_simp
    with_reducible rfl
  rotate_left
  · simp only [Act.put, List.setIfInBounds_toArray, List.set_cons_zero, List.set_cons_succ, i64_w, i32_w]
    rfl
  refine take_ (i := 1) (N := some 33) (v := ?_) (a' := ?_) #[true, true, true, false, false, true, false, true, false, false, false, false, false, false] rfl rfl (by kernel_rfl) (fun _ _ _ h => h) (Or.inl ⟨by rfl, ?_⟩) hHeld ?_ ?_
  rotate_left
  · rintro w' ⟨s0, s1, s2, s3, s4, s5, s6, s7⟩
    go_simp
    with_reducible rfl
  rotate_left
  · simp only [Act.put, List.setIfInBounds_toArray, List.set_cons_zero, List.set_cons_succ, i64_w, i32_w]
    rfl
  refine take_ (i := 3) (N := some 35) (v := ?_) (a' := ?_) #[true, true, true, true, false, true, false, true, false, false, false, false, false, false] rfl rfl (by kernel_rfl) (fun _ _ _ h => h) (Or.inl ⟨by rfl, ?_⟩) hHeld ?_ ?_
  rotate_left
  · rintro w' ⟨s0, s1, s2, s3, s4, s5, s6, s7⟩
    go_simp
    with_reducible rfl
  rotate_left
  · simp only [Act.put, List.setIfInBounds_toArray, List.set_cons_zero, List.set_cons_succ, i64_w, i32_w]
    rfl
  refine take_ (i := 6) (N := some 38) (v := ?_) (a' := ?_) #[true, true, true, true, false, true, true, true, false, false, false, false, false, false] rfl rfl (by kernel_rfl) (fun _ _ _ h => h) (Or.inl ⟨by rfl, ?_⟩) hHeld ?_ ?_
  rotate_left
  · rintro w' ⟨s0, s1, s2, s3, s4, s5, s6, s7⟩
    go_simp
    with_reducible rfl
  rotate_left
  · simp only [Act.put, List.setIfInBounds_toArray, List.set_cons_zero, List.set_cons_succ, i64_w, i32_w]
    rfl
  refine take_ (i := 8) (N := some 40) (v := ?_) (a' := ?_) #[true, true, true, true, false, true, true, true, true, false, false, false, false, false] rfl rfl (by kernel_rfl) (fun _ _ _ h => h) (Or.inl ⟨by rfl, ?_⟩) hHeld ?_ ?_
  rotate_left
  · rintro w' ⟨s0, s1, s2, s3, s4, s5, s6, s7⟩
    go_simp
    with_reducible rfl
  rotate_left
  · simp only [Act.put, List.setIfInBounds_toArray, List.set_cons_zero, List.set_cons_succ, i64_w, i32_w]
    rfl
  refine one_ (i := 4) (N := some 36) #[true, true, true, true, true, true, true, true, true, false, false, false, false, false] rfl rfl (by kernel_rfl) (by decide) (fun K hK => ?_)
  refine goes_ Try.func105 (by kernel_rfl) rfl #[.slice adq kk.length cq, .slice ka1 m.keys.length kc1] (by rfl) rfl rfl (by simp only [List.map_toArray, List.map_cons, List.map_nil]; first | rfl | (go_simp; done) | (go_simp; rfl)) ?_
  refine (copS.calls (w0 := w0) H4d.out (HKQ.out.mono (fun p hp => by first | (simp [hp]; done) | (simp [HRL.out p hp]; done))) (HR.out.2.k.mono (fun p hp => by first | (simp [hp]; done) | (simp [HRL.out p hp]; done))) (kcel_one _) (kcel_one _) HNR.out.2.2.1.1).mono ?_
  rintro e wr1 hq5
  obtain ⟨adk, ck, A1, rfl, hG, hv5⟩ := hq5
  rw [HNR.out.2.2.2.1] at hG ⊢
  refine ⟨_, rfl, ?_⟩
  have HGk := Aside0.mk hG
  have HR1 := Aside0.mk (show Hv w0 wr1 (A1 ++ (A0 ++ (cb (w.heap.size + 1 + 1) 59 #[.bool false, .int .i64 0, .slice none 0 0, .slice none 0 0] :: cb (w.heap.size + 1) 59 #[.bool m.leaf, .int .i64 m.ver, .slice ka1 m.keys.length kc1, .slice ra1 m.refs.length rc1] :: cb w.heap.size 59 #[.bool n.leaf, .int .i64 n.ver, .slice adq kk.length cq, .slice ra n.refs.length rc] :: L))) from hv5)
  clear hG hv5
  refine hK.out _ _ (SP.out _ _ HR1.out (by simp) (by simp)) (fun hHeld => ?_)
  clear hK K
  refine norm_ (a' := ?_) ?_ ?_
  rotate_left
  · show Act.put _ (some 36) _ = _
    simp only [Act.put, List.setIfInBounds_toArray, List.set_cons_zero, List.set_cons_succ, i64_w, i32_w]
    rfl
  refine pure_ (i := 10) (N := some 42) (v := ?_) (a' := ?_) #[true, true, true, true, true, true, true, true, true, false, true, false, false, false] rfl rfl (by kernel_rfl) (fun _ _ _ h => h) (Or.inl ⟨by rfl, ?_⟩) ?_ ?_
  rotate_left
  · intro w'
    go_simp
    with_reducible rfl
  rotate_left
  · simp only [Act.put, List.setIfInBounds_toArray, List.set_cons_zero, List.set_cons_succ, i64_w, i32_w]
    rfl
  refine one_ (i := 9) (N := some 41) #[true, true, true, true, true, true, true, true, true, true, true, false, false, false] rfl rfl (by kernel_rfl) (by decide) (fun K hK => ?_)
  refine goes_ Try.func106 (by kernel_rfl) rfl #[.slice ra n.refs.length rc, .slice ra1 m.refs.length rc1] (by rfl) rfl rfl (by simp only [List.map_toArray, List.map_cons, List.map_nil]; first | rfl | (go_simp; done) | (go_simp; rfl)) ?_
  refine (copR.calls (w0 := w0) HR1.out (HR.out.1.r.mono (fun p hp => by first | (simp [hp]; done) | (simp [HRL.out p hp]; done))) (HR.out.2.r.mono (fun p hp => by first | (simp [hp]; done) | (simp [HRL.out p hp]; done))) (rcel_one _) (rcel_one _) HNR.out.2.2.1.2).mono ?_
  rintro e wr2 hq5
  obtain ⟨adr, cr, A2, rfl, hG, hv5⟩ := hq5
  rw [HNR.out.2.2.2.2] at hG ⊢
  refine ⟨_, rfl, ?_⟩
  have HGr := Aside0.mk hG
  have HR2 := Aside0.mk (show Hv w0 wr2 (A2 ++ (A1 ++ (A0 ++ (cb (w.heap.size + 1 + 1) 59 #[.bool false, .int .i64 0, .slice none 0 0, .slice none 0 0] :: cb (w.heap.size + 1) 59 #[.bool m.leaf, .int .i64 m.ver, .slice ka1 m.keys.length kc1, .slice ra1 m.refs.length rc1] :: cb w.heap.size 59 #[.bool n.leaf, .int .i64 n.ver, .slice adq kk.length cq, .slice ra n.refs.length rc] :: L)))) from hv5)
  clear hG hv5
  refine hK.out _ _ (SP.out _ _ HR2.out (by simp) (by simp)) (fun hHeld => ?_)
  clear hK K
  refine norm_ (a' := ?_) ?_ ?_
  rotate_left
  · show Act.put _ (some 41) _ = _
    simp only [Act.put, List.setIfInBounds_toArray, List.set_cons_zero, List.set_cons_succ, i64_w, i32_w]
    rfl
  refine last_ (i := 11) (N := none) #[true, true, true, true, true, true, true, true, true, true, true, true, false, false] rfl rfl (by kernel_rfl) (by decide) (fun K hK => ?_)
  have HS := Aside0.mk (show Hv w0 wr2 (((A2 ++ A1) ++ A0) ++ (cb (w.heap.size + 1 + 1) 59 #[.bool false, .int .i64 0, .slice none 0 0, .slice none 0 0] :: cb (w.heap.size + 1) 59 #[.bool m.leaf, .int .i64 m.ver, .slice ka1 m.keys.length kc1, .slice ra1 m.refs.length rc1] :: cb w.heap.size 59 #[.bool n.leaf, .int .i64 n.ver, .slice adq kk.length cq, .slice ra n.refs.length rc] :: L)) by rw [List.append_assoc, List.append_assoc]; exact HR2.out)
  obtain ⟨y0, y1, y2, y3, f0, f1, f2, f3⟩ := HS.out.right.c4 w.heap.size 59 (.bool n.leaf) (.int .i64 n.ver) (.slice adq kk.length cq) (.slice ra n.refs.length rc) (by simp)
  refine skip_ (w1 := ?_) (by rfl) rfl ?_ ?_
  rotate_left
  · go_simp
    rfl
  refine hK.out _ _ ?_
  clear hK K y0 y1 y2 y3 f0 f1 f2 f3
  obtain ⟨wr3, hW, hvv⟩ : ∃ wr3, wr3 = wr2.setCell ⟨w.heap.size, 2, none⟩ (.slice adk nk.length ck) ∧ Hv w0 wr3 (((A2 ++ A1) ++ A0) ++ (cb (w.heap.size + 1 + 1) 59 #[.bool false, .int .i64 0, .slice none 0 0, .slice none 0 0] :: cb (w.heap.size + 1) 59 #[.bool m.leaf, .int .i64 m.ver, .slice ka1 m.keys.length kc1, .slice ra1 m.refs.length rc1] :: cb w.heap.size 59 #[.bool n.leaf, .int .i64 n.ver, .slice adk nk.length ck, .slice ra n.refs.length rc] :: L)) := ⟨_, rfl, putA2 HS.out 2 _ rfl⟩
  rw [← hW]
  have HR3 := Aside0.mk hvv
  clear hW hvv
  refine pure_ (i := 12) (N := some 43) (v := ?_) (a' := ?_) #[true, true, true, true, true, true, true, true, true, true, true, true, true, false] rfl rfl (by kernel_rfl) (fun _ _ _ h => h) (Or.inl ⟨by rfl, ?_⟩) ?_ ?_
  rotate_left
  · intro w'
    go_simp
    with_reducible rfl
  rotate_left
  · simp only [Act.put, List.setIfInBounds_toArray, List.set_cons_zero, List.set_cons_succ, i64_w, i32_w]
    rfl
  refine last_ (i := 13) (N := none) #[true, true, true, true, true, true, true, true, true, true, true, true, true, true] rfl rfl (by kernel_rfl) (by decide) (fun K hK => ?_)
  obtain ⟨y0, y1, y2, y3, f0, f1, f2, f3⟩ := HR3.out.right.c4 w.heap.size 59 (.bool n.leaf) (.int .i64 n.ver) (.slice adk nk.length ck) (.slice ra n.refs.length rc) (by simp)
  refine skip_ (w1 := ?_) (by rfl) rfl ?_ ?_
  rotate_left
  · go_simp
    rfl
  refine hK.out _ _ ?_
  clear hK K y0 y1 y2 y3 f0 f1 f2 f3
  obtain ⟨wr4, hW, hvv⟩ : ∃ wr4, wr4 = wr3.setCell ⟨w.heap.size, 3, none⟩ (.slice adr nr.length cr) ∧ Hv w0 wr4 (((A2 ++ A1) ++ A0) ++ (cb (w.heap.size + 1 + 1) 59 #[.bool false, .int .i64 0, .slice none 0 0, .slice none 0 0] :: cb (w.heap.size + 1) 59 #[.bool m.leaf, .int .i64 m.ver, .slice ka1 m.keys.length kc1, .slice ra1 m.refs.length rc1] :: cb w.heap.size 59 #[.bool n.leaf, .int .i64 n.ver, .slice adk nk.length ck, .slice adr nr.length cr] :: L)) := ⟨_, rfl, putA2 HR3.out 3 _ rfl⟩
  rw [← hW]
  have HR4 := Aside0.mk hvv
  clear hW hvv
  refine done_ (by kernel_rfl) ?_
  obtain ⟨y0, y1, y2, y3, f0, f1, f2, f3⟩ := HR4.out.right.c4 w.heap.size 59 (.bool n.leaf) (.int .i64 n.ver) (.slice adk nk.length ck) (.slice adr nr.length cr) (by simp)
  obtain ⟨t0, t1, t2, t3, h0, h1, h2, h3⟩ := HR4.out.right.c4 (w.heap.size + 1) 59 (.bool m.leaf) (.int .i64 m.ver) (.slice ka1 m.keys.length kc1) (.slice ra1 m.refs.length rc1) (by simp)
  obtain ⟨q0, q1, q2, q3, g0, g1, g2, g3⟩ := HR4.out.right.c4 (w.heap.size + 1 + 1) 59 (.bool false) (.int .i64 0) (.slice none 0 0) (.slice none 0 0) (by simp)
  go_wp2_with fail
  have hgk : Gr 9 1 (.slice adk nk.length ck) nk.length (nk.map Value.string) A1 := by
    have h9 := HGk.out
    rw [HNR.out.1] at h9 ⊢
    simpa using h9
  have hgr : Gr 33 2 (.slice adr nr.length cr) nr.length (nr.flatMap rcel) A2 := by
    have h9 := HGr.out
    rw [HNR.out.2.1] at h9 ⊢
    simpa [List.flatMap_append] using h9
  have HGR := Aside0.mk (And.intro hgk hgr)
  clear hgk hgr
  obtain ⟨wg, hw, hg⟩ : ∃ wg, wg = _ ∧ Hv w0 wg (((A2 ++ A1) ++ A0) ++ (cb (w.heap.size + 1 + 1) 59 #[.bool n.leaf, .int .i64 (wrap64 (n.ver + 1)), .slice adk nk.length ck, .slice adr nr.length cr] :: cb (w.heap.size + 1) 59 #[.bool m.leaf, .int .i64 m.ver, .slice ka1 m.keys.length kc1, .slice ra1 m.refs.length rc1] :: cb w.heap.size 59 #[.bool n.leaf, .int .i64 (wrap64 (n.ver + 1)), .slice adk nk.length ck, .slice adr nr.length cr] :: L)) := ⟨_, rfl, (((((putA2 HR4.out 1 (.int .i64 (wrap64 (n.ver + 1))) rfl).putA0 0 (.bool n.leaf) rfl).putA0 1 (.int .i64 (wrap64 (n.ver + 1))) rfl).putA0 2 (.slice adk nk.length ck) rfl).putA0 3 (.slice adr nr.length cr) rfl)⟩
  rw [← hw]
  obtain ⟨e0, e1, e2, e3, -, -, -, -⟩ := hg.right.c4 (w.heap.size + 1 + 1) 59 (.bool n.leaf) (.int .i64 (wrap64 (n.ver + 1))) (.slice adk nk.length ck) (.slice adr nr.length cr) List.mem_cons_self
  exact bodyPost_ret (v := .agg #[.bool n.leaf, .int .i64 (wrap64 (n.ver + 1)), .slice adk nk.length ck, .slice adr nr.length cr]) (by simp [results, Try.results53, go_sem, e0, e1, e2, e3, hu59]) rfl ⟨_, ((A2 ++ A1) ++ A0), rfl, ⟨adk, ck, adr, cr, by rw [HF.out, ← HNR.out.1, ← HNR.out.2.1]; rfl, by rw [HF.out, ← HNR.out.1, ← HNR.out.2.1]; exact ⟨(Rdy.of_rw (Rw.of_gr HGR.out.1)).mono (fun p hp => by first | (simp [hp]; done) | (simp [HRL.out p hp]; done)), (Rdy.of_rw (Rw.of_gr HGR.out.2)).mono (fun p hp => by first | (simp [hp]; done) | (simp [HRL.out p hp]; done)), (Rw.of_gr HGR.out.1).2.1, (Rw.of_gr HGR.out.2).2.1⟩⟩, hg.drop (List.Sublist.append_left ((List.sublist_cons_self _ _).trans ((List.sublist_cons_self _ _).trans (List.sublist_cons_self _ _))) ((A2 ++ A1) ++ A0))⟩
set_option maxHeartbeats 4000000 in
theorem join.calls (hv : Hv w0 w L) (hRL : ∀ p ∈ R, p ∈ L) {n m : Nd} {v v1 : Value} (hn : NV w0 R n v) (hm : NV w0 R m v1) (ho : Sm n) (ho1 : Sm m) (k : ByteArray) : Calls Try.prog 53 #[v, .string k, v1] w (NodeP w0 R L (n.join k m)) := by
  have hb : n.refs.length < 4611686018427387904 ∧ m.refs.length < 4611686018427387904 := ⟨by have := ho.r; omega, by have := ho1.r; omega⟩
  cases h : (n.shape && m.shape && (n.leaf == m.leaf))
  · exact join.neg hv hRL hn hm hb k h
  · simp only [Bool.and_eq_true, beq_iff_eq] at h
    obtain ⟨⟨h1, h2⟩, h3⟩ := h
    cases h4 : n.leaf
    · exact join.inner hv hRL hn hm ho ho1 k h1 h2 h4 (by rw [← h3, h4])
    · exact join.leaf hv hRL hn hm ho ho1 k h1 h2 h4 (by rw [← h3, h4])
end Go.Proofs.Ytglbcfkmaamhaaa.Nd
