/- node: Remove. No condition. -/
import Derived.Test.YtglbcfkmaamhaaaNdF
set_option linter.unusedVariables false
set_option linter.unusedSimpArgs false
namespace Go.Proofs.Ytglbcfkmaamhaaa.Nd
open Go Go.RowKit Go.Proofs.YtglbcfkmaamhaaaW.PrintWords Go.Proofs.YtglbcfkmaamhaaaW.PrintLast Go.Proofs.YtglbcfkmaamhaaaW.PrintMore Go.Proofs.Ytglbcfkmaamhaaa.Hv
variable {w0 w w1 : World} {g : Nat} {L L' R : List Ob}
def Nd.remove (n : Nd) (i : Int) : Nd :=
  if n.kid i then { n with ver := wrap64 (n.ver + 1), keys := if n.keys.length = 0 then n.keys else n.keys.take (i.toNat - 1) ++ n.keys.drop (i.toNat - 1 + 1), refs := n.refs.take i.toNat ++ n.refs.drop (i.toNat + 1) } else n
theorem kid_facts {n : Nd} {i : Int} (h : n.kid i = true) : n.leaf = false ∧ n.keys.length + 1 = n.refs.length ∧ 0 ≤ i ∧ i < n.refs.length := by
  unfold Nd.kid Nd.shape shp at h
  simp only [Bool.and_eq_true, Bool.not_eq_true', decide_eq_true_eq] at h
  obtain ⟨⟨⟨h1, h2⟩, h3⟩, h4⟩ := h
  rw [h1] at h2
  simp at h2
  exact ⟨h1, h2.2, h3, h4⟩
def NodeP (w0 : World) (R L : List Ob) (n : Nd) (e : Ending) (w' : World) : Prop := ∃ v A, e = .returned v ∧ NV w0 (A ++ R) n v ∧ Hv w0 w' (A ++ L)
set_option maxHeartbeats 16000000 in
set_option maxRecDepth 100000 in
theorem remove.calls (hv : Hv w0 w L) (hRL : ∀ p ∈ R, p ∈ L) {n : Nd} {v : Value} (hn : NV w0 R n v) (ho : Ok n) (i : Int) :
    Calls Try.prog 49 #[v, .int .i64 i] w (NodeP w0 R L (n.remove i)) := by
  have hu59 := Try.underlying59
  have hu57 := Try.underlying57
  have hu31 := Try.underlying31
  obtain ⟨ka, kc, ra, rc, rfl, hr⟩ := hn
  have HRL := Aside0.mk hRL
  clear hRL
  have HV := Aside0.mk (show Hv w0 _ (cb (w.heap.size + 1) 59 #[.bool false, .int .i64 0, .slice none 0 0, .slice none 0 0] :: cb w.heap.size 59 #[.bool n.leaf, .int .i64 n.ver, .slice ka n.keys.length kc, .slice ra n.refs.length rc] :: L) by
    have := (hv.alloc (.cells #[.bool n.leaf, .int .i64 n.ver, .slice ka n.keys.length kc, .slice ra n.refs.length rc] 59)).alloc (.cells #[.bool false, .int .i64 0, .slice none 0 0, .slice none 0 0] 59)
    simpa [cb] using this)
  have HR := Aside0.mk hr
  have HO := Aside0.mk ho
  have HB := Aside0.mk (show n.refs.length < 4611686018427387904 by have := ho.r; omega)
  clear hv hr ho
  obtain ⟨y0, y1, y2, y3, f0, f1, f2, f3⟩ := HV.out.c4 w.heap.size 59 (.bool n.leaf) (.int .i64 n.ver) (.slice ka n.keys.length kc) (.slice ra n.refs.length rc) (by simp)
  obtain ⟨q0, q1, q2, q3, g0, g1, g2, g3⟩ := HV.out.c4 (w.heap.size + 1) 59 (.bool false) (.int .i64 0) (.slice none 0 0) (.slice none 0 0) (by simp)
  unfold nval at *
  have ew : IntKind.i64.wrap (n.ver + 1) = wrap64 (n.ver + 1) := i64_w _
  cases hk : n.kid i
  · have HF := Aside0.mk (show n.remove i = n by unfold Nd.remove; rw [hk]; rfl)
    go_enter Try.func49, Try.ntmps49
    go_wp2_with (go_at_call 103; go_loud (refine (kid.calls HV.out n ka ra kc rc i HB.out).mono ?_); rw [hk]; rintro e2 w2 ⟨rfl, h2⟩; have H2 := Aside0.mk h2; clear y0 y1 y2 y3 f0 f1 f2 f3 q0 q1 q2 q3 g0 g1 g2 g3; obtain ⟨y0, y1, y2, y3, f0, f1, f2, f3⟩ := h2.c4 w.heap.size 59 (.bool n.leaf) (.int .i64 n.ver) (.slice ka n.keys.length kc) (.slice ra n.refs.length rc) (by simp); obtain ⟨q0, q1, q2, q3, g0, g1, g2, g3⟩ := h2.c4 (w.heap.size + 1) 59 (.bool false) (.int .i64 0) (.slice none 0 0) (.slice none 0 0) (by simp); clear h2)
    obtain ⟨wg, hw, hg⟩ : ∃ wg, wg = _ ∧ Hv w0 wg ([] ++ (cb (w.heap.size + 1) 59 #[.bool n.leaf, .int .i64 n.ver, .slice ka n.keys.length kc, .slice ra n.refs.length rc] :: cb w.heap.size 59 #[.bool n.leaf, .int .i64 n.ver, .slice ka n.keys.length kc, .slice ra n.refs.length rc] :: L)) := ⟨_, rfl, (((((show Hv w0 w2 ([] ++ (cb (w.heap.size + 1) 59 #[.bool false, .int .i64 0, .slice none 0 0, .slice none 0 0] :: cb w.heap.size 59 #[.bool n.leaf, .int .i64 n.ver, .slice ka n.keys.length kc, .slice ra n.refs.length rc] :: L)) from H2.out).putA0 0 (.bool n.leaf) rfl).putA0 1 (.int .i64 n.ver) rfl).putA0 2 (.slice ka n.keys.length kc) rfl).putA0 3 (.slice ra n.refs.length rc) rfl)⟩
    rw [← hw]
    obtain ⟨e0, e1, e2, e3, -, -, -, -⟩ := hg.right.c4 (w.heap.size + 1) 59 (.bool n.leaf) (.int .i64 n.ver) (.slice ka n.keys.length kc) (.slice ra n.refs.length rc) List.mem_cons_self
    exact bodyPost_ret (v := .agg #[.bool n.leaf, .int .i64 n.ver, .slice ka n.keys.length kc, .slice ra n.refs.length rc]) (by simp [results, Try.results49, go_sem, e0, e1, e2, e3, hu59]) rfl ⟨_, [], rfl, ⟨ka, kc, ra, rc, by rw [HF.out]; rfl, by rw [HF.out]; exact HR.out⟩, hg.drop (List.Sublist.append_left ((List.sublist_cons_self _ _).trans (List.sublist_cons_self _ _)) [])⟩
  · obtain ⟨hlf, hkr, hi0, hi1⟩ := kid_facts hk
    obtain ⟨j, rfl⟩ : ∃ j : Nat, i = j := ⟨i.toNat, by omega⟩
    obtain ⟨nr, hnr⟩ : ∃ nr, nr = n.refs.take j ++ n.refs.drop (j + 1) := ⟨_, rfl⟩
    have hjl : j + 1 ≤ n.refs.length := by omega
    have hlr : j + 0 + (n.refs.length - (j + 1)) = nr.length := by rw [hnr]; simp; omega
    have HNR := Aside0.mk (And.intro hnr hlr)
    have HN := Aside0.mk (show n.refs.length + 0 < 4000000000000 ∧ j + 1 ≤ n.refs.length ∧ n.keys.length + 0 < 4000000000000 ∧ (n.keys.length ≠ 0 → j - 1 + 1 ≤ n.keys.length) from ⟨by have := HO.out.r; omega, hjl, by have := HO.out.k; omega, by intro h; omega⟩)
    by_cases h0 : n.keys.length = 0
    · have HF := Aside0.mk (show n.remove (j : Int) = { n with ver := wrap64 (n.ver + 1), refs := n.refs.take j ++ n.refs.drop (j + 1) } by unfold Nd.remove; rw [if_pos hk, if_pos h0, Int.toNat_natCast])
      have hg0 : ¬ ((n.keys.length : Int) > 0) := by omega
      clear hlf hkr hi0 hi1 hjl hlr hnr h0
      go_enter Try.func49, Try.ntmps49
      go_wp2_with (first | (go_at_call 103; go_loud (refine (kid.calls HV.out n ka ra kc rc j HB.out).mono ?_); rw [hk]; rintro e2 w2 ⟨rfl, h2⟩; have H2 := Aside0.mk h2; clear y0 y1 y2 y3 f0 f1 f2 f3 q0 q1 q2 q3 g0 g1 g2 g3; obtain ⟨y0, y1, y2, y3, f0, f1, f2, f3⟩ := h2.c4 w.heap.size 59 (.bool n.leaf) (.int .i64 n.ver) (.slice ka n.keys.length kc) (.slice ra n.refs.length rc) (by simp); obtain ⟨q0, q1, q2, q3, g0, g1, g2, g3⟩ := h2.c4 (w.heap.size + 1) 59 (.bool false) (.int .i64 0) (.slice none 0 0) (.slice none 0 0) (by simp); clear h2) | (go_at_call 96; go_loud (refine (splR.calls (w0 := w0) (a1 := none) (n1 := 0) (c1 := 0) (ys := []) H2.out (HR.out.r.mono (fun p hp => by first | (simp [hp]; done) | (simp [HRL.out p hp]; done))) (Rdy.nil 2 none) (rcel_one _) (by intro u hu; cases hu) HR.out.rc HN.out.1 j 1 HN.out.2.1).mono ?_); rintro e5 w5 hq5; obtain ⟨ad, c, A, rfl, hG, hv5⟩ := hq5; rw [HNR.out.2] at hG ⊢; have HG := Aside0.mk hG; have H5 := Aside0.mk hv5; clear hG hv5; clear y0 y1 y2 y3 f0 f1 f2 f3 q0 q1 q2 q3 g0 g1 g2 g3; obtain ⟨y0, y1, y2, y3, f0, f1, f2, f3⟩ := H5.out.right.c4 w.heap.size 59 (.bool n.leaf) (.int .i64 n.ver) (.slice ka n.keys.length kc) (.slice ra n.refs.length rc) (by simp); obtain ⟨q0, q1, q2, q3, g0, g1, g2, g3⟩ := H5.out.right.c4 (w.heap.size + 1) 59 (.bool false) (.int .i64 0) (.slice none 0 0) (.slice none 0 0) (by simp)))
      have hgr : Gr 33 2 (.slice ad nr.length c) nr.length (nr.flatMap rcel) A := by
        have h9 := HG.out
        rw [rcel_take, rcel_drop] at h9
        rw [HNR.out.1] at h9 ⊢
        simpa [List.flatMap_append, rcel] using h9
      have HGR := Aside0.mk hgr
      clear hgr
      obtain ⟨wg, hw, hg⟩ : ∃ wg, wg = _ ∧ Hv w0 wg (A ++ (cb (w.heap.size + 1) 59 #[.bool n.leaf, .int .i64 (wrap64 (n.ver + 1)), .slice ka n.keys.length kc, .slice ad nr.length c] :: cb w.heap.size 59 #[.bool n.leaf, .int .i64 (wrap64 (n.ver + 1)), .slice ka n.keys.length kc, .slice ad nr.length c] :: L)) := ⟨_, rfl, (((((Hv.putA1 (Hv.putA1 H5.out 3 (.slice ad nr.length c) rfl) 1 (.int .i64 (wrap64 (n.ver + 1))) rfl).putA0 0 (.bool n.leaf) rfl).putA0 1 (.int .i64 (wrap64 (n.ver + 1))) rfl).putA0 2 (.slice ka n.keys.length kc) rfl).putA0 3 (.slice ad nr.length c) rfl)⟩
      rw [← hw]
      obtain ⟨e0, e1, e2, e3, -, -, -, -⟩ := hg.right.c4 (w.heap.size + 1) 59 (.bool n.leaf) (.int .i64 (wrap64 (n.ver + 1))) (.slice ka n.keys.length kc) (.slice ad nr.length c) List.mem_cons_self
      exact bodyPost_ret (v := .agg #[.bool n.leaf, .int .i64 (wrap64 (n.ver + 1)), .slice ka n.keys.length kc, .slice ad nr.length c]) (by simp [results, Try.results49, go_sem, e0, e1, e2, e3, hu59]) rfl ⟨_, A, rfl, ⟨ka, kc, ad, c, by rw [HF.out, ← HNR.out.1]; rfl, by rw [HF.out, ← HNR.out.1]; exact ⟨HR.out.k.mono (fun p hp => List.mem_append_right A hp), (Rdy.of_rw (Rw.of_gr HGR.out)).mono (fun p hp => List.mem_append_left R hp), HR.out.kc, (Rw.of_gr HGR.out).2.1⟩⟩, hg.drop (List.Sublist.append_left ((List.sublist_cons_self _ _).trans (List.sublist_cons_self _ _)) A)⟩
    · have HF := Aside0.mk (show n.remove (j : Int) = { n with ver := wrap64 (n.ver + 1), keys := n.keys.take (j - 1) ++ n.keys.drop (j - 1 + 1), refs := n.refs.take j ++ n.refs.drop (j + 1) } by unfold Nd.remove; rw [if_pos hk, if_neg h0, Int.toNat_natCast])
      have hg0 : (n.keys.length : Int) > 0 := by omega
      obtain ⟨nk, hnk⟩ : ∃ nk, nk = n.keys.take (j - 1) ++ n.keys.drop (j - 1 + 1) := ⟨_, rfl⟩
      have hlk : j - 1 + 0 + (n.keys.length - (j - 1 + 1)) = nk.length := by rw [hnk]; simp; omega
      have HNK := Aside0.mk (And.intro hnk hlk)
      replace HN := Aside0.mk (And.intro HN.out.1 (And.intro HN.out.2.1 (And.intro HN.out.2.2.1 (HN.out.2.2.2 h0))))
      obtain ⟨z, hz⟩ : ∃ z, z = (j : Int) - 1 := ⟨_, rfl⟩
      have hj1 : wrap64 ((j : Int) - 1) = z := by have := HO.out.r; unfold wrap64; omega
      have hj2 : IntKind.i64.wrap ((j : Int) - 1) = z := by rw [i64_w]; exact hj1
      clear hlf hkr hi0 hi1 hjl hlr hnr h0 hnk hlk
      by_cases hz0 : z > 0
      · have HZ := Aside0.mk (show z = ((j - 1 : Nat) : Int) by omega)
        clear hz
        go_enter Try.func49, Try.ntmps49
        go_wp2_with (first | (go_at_call 103; go_loud (refine (kid.calls HV.out n ka ra kc rc j HB.out).mono ?_); rw [hk]; rintro e2 w2 ⟨rfl, h2⟩; have H2 := Aside0.mk h2; clear y0 y1 y2 y3 f0 f1 f2 f3 q0 q1 q2 q3 g0 g1 g2 g3; obtain ⟨y0, y1, y2, y3, f0, f1, f2, f3⟩ := h2.c4 w.heap.size 59 (.bool n.leaf) (.int .i64 n.ver) (.slice ka n.keys.length kc) (.slice ra n.refs.length rc) (by simp); obtain ⟨q0, q1, q2, q3, g0, g1, g2, g3⟩ := h2.c4 (w.heap.size + 1) 59 (.bool false) (.int .i64 0) (.slice none 0 0) (.slice none 0 0) (by simp); clear h2) | (go_at_call 96; go_loud (refine (splR.calls (w0 := w0) (a1 := none) (n1 := 0) (c1 := 0) (ys := []) H2.out (HR.out.r.mono (fun p hp => by first | (simp [hp]; done) | (simp [HRL.out p hp]; done))) (Rdy.nil 2 none) (rcel_one _) (by intro u hu; cases hu) HR.out.rc HN.out.1 j 1 HN.out.2.1).mono ?_); rintro e5 w5 hq5; obtain ⟨ad, c, A, rfl, hG, hv5⟩ := hq5; rw [HNR.out.2] at hG ⊢; have HG := Aside0.mk hG; have H5 := Aside0.mk hv5; clear hG hv5; clear y0 y1 y2 y3 f0 f1 f2 f3 q0 q1 q2 q3 g0 g1 g2 g3; obtain ⟨y0, y1, y2, y3, f0, f1, f2, f3⟩ := H5.out.right.c4 w.heap.size 59 (.bool n.leaf) (.int .i64 n.ver) (.slice ka n.keys.length kc) (.slice ra n.refs.length rc) (by simp); obtain ⟨q0, q1, q2, q3, g0, g1, g2, g3⟩ := H5.out.right.c4 (w.heap.size + 1) 59 (.bool false) (.int .i64 0) (.slice none 0 0) (.slice none 0 0) (by simp)) | (go_at_call 97; rw [HZ.out]; go_loud (refine (splS.calls (w0 := w0) (a1 := none) (n1 := 0) (c1 := 0) (ys := []) (Hv.putA1 H5.out 3 (.slice ad nr.length c) rfl) (HR.out.k.mono (fun p hp => by first | (simp [hp]; done) | (simp [HRL.out p hp]; done))) (Rdy.nil 1 none) (kcel_one _) (by intro u hu; cases hu) HR.out.kc HN.out.2.2.1 (j - 1) 1 HN.out.2.2.2).mono ?_); rintro e6 w6 hq6; obtain ⟨ak, ck, A2, rfl, hG, hv6⟩ := hq6; rw [HNK.out.2] at hG ⊢; have HG2 := Aside0.mk hG; have H6 := Aside0.mk (show Hv w0 w6 ((A2 ++ A) ++ (cb (w.heap.size + 1) 59 #[.bool false, .int .i64 0, .slice none 0 0, .slice none 0 0] :: cb w.heap.size 59 #[.bool n.leaf, .int .i64 n.ver, .slice ka n.keys.length kc, .slice ad nr.length c] :: L)) by rw [List.append_assoc]; exact hv6); clear hG hv6; clear y0 y1 y2 y3 f0 f1 f2 f3 q0 q1 q2 q3 g0 g1 g2 g3; obtain ⟨y0, y1, y2, y3, f0, f1, f2, f3⟩ := H6.out.right.c4 w.heap.size 59 (.bool n.leaf) (.int .i64 n.ver) (.slice ka n.keys.length kc) (.slice ad nr.length c) (by simp); obtain ⟨q0, q1, q2, q3, g0, g1, g2, g3⟩ := H6.out.right.c4 (w.heap.size + 1) 59 (.bool false) (.int .i64 0) (.slice none 0 0) (.slice none 0 0) (by simp)))
        have hgr : Gr 33 2 (.slice ad nr.length c) nr.length (nr.flatMap rcel) A := by
          have h9 := HG.out
          rw [rcel_take, rcel_drop] at h9
          rw [HNR.out.1] at h9 ⊢
          simpa [List.flatMap_append, rcel] using h9
        have HGR := Aside0.mk hgr
        clear hgr
        have hgk : Gr 9 1 (.slice ak nk.length ck) nk.length (nk.map Value.string) A2 := by
          have h9 := HG2.out
          rw [HNK.out.1] at h9 ⊢
          simpa using h9
        have HGK := Aside0.mk hgk
        clear hgk
        obtain ⟨wg, hw, hg⟩ : ∃ wg, wg = _ ∧ Hv w0 wg ((A2 ++ A) ++ (cb (w.heap.size + 1) 59 #[.bool n.leaf, .int .i64 (wrap64 (n.ver + 1)), .slice ak nk.length ck, .slice ad nr.length c] :: cb w.heap.size 59 #[.bool n.leaf, .int .i64 (wrap64 (n.ver + 1)), .slice ak nk.length ck, .slice ad nr.length c] :: L)) := ⟨_, rfl, (((((Hv.putA1 (Hv.putA1 H6.out 2 (.slice ak nk.length ck) rfl) 1 (.int .i64 (wrap64 (n.ver + 1))) rfl).putA0 0 (.bool n.leaf) rfl).putA0 1 (.int .i64 (wrap64 (n.ver + 1))) rfl).putA0 2 (.slice ak nk.length ck) rfl).putA0 3 (.slice ad nr.length c) rfl)⟩
        rw [← hw]
        obtain ⟨e0, e1, e2, e3, -, -, -, -⟩ := hg.right.c4 (w.heap.size + 1) 59 (.bool n.leaf) (.int .i64 (wrap64 (n.ver + 1))) (.slice ak nk.length ck) (.slice ad nr.length c) List.mem_cons_self
        exact bodyPost_ret (v := .agg #[.bool n.leaf, .int .i64 (wrap64 (n.ver + 1)), .slice ak nk.length ck, .slice ad nr.length c]) (by simp [results, Try.results49, go_sem, e0, e1, e2, e3, hu59]) rfl ⟨_, (A2 ++ A), rfl, ⟨ak, ck, ad, c, by rw [HF.out, ← HNR.out.1, ← HNK.out.1]; rfl, by rw [HF.out, ← HNR.out.1, ← HNK.out.1]; exact ⟨(Rdy.of_rw (Rw.of_gr HGK.out)).mono (fun p hp => by first | (simp [hp]; done) | (simp [HRL.out p hp]; done)), (Rdy.of_rw (Rw.of_gr HGR.out)).mono (fun p hp => by first | (simp [hp]; done) | (simp [HRL.out p hp]; done)), (Rw.of_gr HGK.out).2.1, (Rw.of_gr HGR.out).2.1⟩⟩, hg.drop (List.Sublist.append_left ((List.sublist_cons_self _ _).trans (List.sublist_cons_self _ _)) (A2 ++ A))⟩
      · have HJ := Aside0.mk (show j - 1 = 0 by omega)
        clear hz
        have hF := HF.out
        have hN := HN.out
        have hK := HNK.out
        rw [HJ.out] at hF hN hK
        replace HF := Aside0.mk hF
        replace HN := Aside0.mk hN
        replace HNK := Aside0.mk hK
        clear hF hN hK
        go_enter Try.func49, Try.ntmps49
        go_wp2_with (first | (go_at_call 103; go_loud (refine (kid.calls HV.out n ka ra kc rc j HB.out).mono ?_); rw [hk]; rintro e2 w2 ⟨rfl, h2⟩; have H2 := Aside0.mk h2; clear y0 y1 y2 y3 f0 f1 f2 f3 q0 q1 q2 q3 g0 g1 g2 g3; obtain ⟨y0, y1, y2, y3, f0, f1, f2, f3⟩ := h2.c4 w.heap.size 59 (.bool n.leaf) (.int .i64 n.ver) (.slice ka n.keys.length kc) (.slice ra n.refs.length rc) (by simp); obtain ⟨q0, q1, q2, q3, g0, g1, g2, g3⟩ := h2.c4 (w.heap.size + 1) 59 (.bool false) (.int .i64 0) (.slice none 0 0) (.slice none 0 0) (by simp); clear h2) | (go_at_call 96; go_loud (refine (splR.calls (w0 := w0) (a1 := none) (n1 := 0) (c1 := 0) (ys := []) H2.out (HR.out.r.mono (fun p hp => by first | (simp [hp]; done) | (simp [HRL.out p hp]; done))) (Rdy.nil 2 none) (rcel_one _) (by intro u hu; cases hu) HR.out.rc HN.out.1 j 1 HN.out.2.1).mono ?_); rintro e5 w5 hq5; obtain ⟨ad, c, A, rfl, hG, hv5⟩ := hq5; rw [HNR.out.2] at hG ⊢; have HG := Aside0.mk hG; have H5 := Aside0.mk hv5; clear hG hv5; clear y0 y1 y2 y3 f0 f1 f2 f3 q0 q1 q2 q3 g0 g1 g2 g3; obtain ⟨y0, y1, y2, y3, f0, f1, f2, f3⟩ := H5.out.right.c4 w.heap.size 59 (.bool n.leaf) (.int .i64 n.ver) (.slice ka n.keys.length kc) (.slice ra n.refs.length rc) (by simp); obtain ⟨q0, q1, q2, q3, g0, g1, g2, g3⟩ := H5.out.right.c4 (w.heap.size + 1) 59 (.bool false) (.int .i64 0) (.slice none 0 0) (.slice none 0 0) (by simp)) | (go_at_call 97; go_loud (refine (splS.calls (w0 := w0) (a1 := none) (n1 := 0) (c1 := 0) (ys := []) (Hv.putA1 H5.out 3 (.slice ad nr.length c) rfl) (HR.out.k.mono (fun p hp => by first | (simp [hp]; done) | (simp [HRL.out p hp]; done))) (Rdy.nil 1 none) (kcel_one _) (by intro u hu; cases hu) HR.out.kc HN.out.2.2.1 0 1 HN.out.2.2.2).mono ?_); rintro e6 w6 hq6; obtain ⟨ak, ck, A2, rfl, hG, hv6⟩ := hq6; rw [HNK.out.2] at hG ⊢; have HG2 := Aside0.mk hG; have H6 := Aside0.mk (show Hv w0 w6 ((A2 ++ A) ++ (cb (w.heap.size + 1) 59 #[.bool false, .int .i64 0, .slice none 0 0, .slice none 0 0] :: cb w.heap.size 59 #[.bool n.leaf, .int .i64 n.ver, .slice ka n.keys.length kc, .slice ad nr.length c] :: L)) by rw [List.append_assoc]; exact hv6); clear hG hv6; clear y0 y1 y2 y3 f0 f1 f2 f3 q0 q1 q2 q3 g0 g1 g2 g3; obtain ⟨y0, y1, y2, y3, f0, f1, f2, f3⟩ := H6.out.right.c4 w.heap.size 59 (.bool n.leaf) (.int .i64 n.ver) (.slice ka n.keys.length kc) (.slice ad nr.length c) (by simp); obtain ⟨q0, q1, q2, q3, g0, g1, g2, g3⟩ := H6.out.right.c4 (w.heap.size + 1) 59 (.bool false) (.int .i64 0) (.slice none 0 0) (.slice none 0 0) (by simp)))
        have hgr : Gr 33 2 (.slice ad nr.length c) nr.length (nr.flatMap rcel) A := by
          have h9 := HG.out
          rw [rcel_take, rcel_drop] at h9
          rw [HNR.out.1] at h9 ⊢
          simpa [List.flatMap_append, rcel] using h9
        have HGR := Aside0.mk hgr
        clear hgr
        have hgk : Gr 9 1 (.slice ak nk.length ck) nk.length (nk.map Value.string) A2 := by
          have h9 := HG2.out
          rw [HNK.out.1] at h9 ⊢
          simpa using h9
        have HGK := Aside0.mk hgk
        clear hgk
        obtain ⟨wg, hw, hg⟩ : ∃ wg, wg = _ ∧ Hv w0 wg ((A2 ++ A) ++ (cb (w.heap.size + 1) 59 #[.bool n.leaf, .int .i64 (wrap64 (n.ver + 1)), .slice ak nk.length ck, .slice ad nr.length c] :: cb w.heap.size 59 #[.bool n.leaf, .int .i64 (wrap64 (n.ver + 1)), .slice ak nk.length ck, .slice ad nr.length c] :: L)) := ⟨_, rfl, (((((Hv.putA1 (Hv.putA1 H6.out 2 (.slice ak nk.length ck) rfl) 1 (.int .i64 (wrap64 (n.ver + 1))) rfl).putA0 0 (.bool n.leaf) rfl).putA0 1 (.int .i64 (wrap64 (n.ver + 1))) rfl).putA0 2 (.slice ak nk.length ck) rfl).putA0 3 (.slice ad nr.length c) rfl)⟩
        rw [← hw]
        obtain ⟨e0, e1, e2, e3, -, -, -, -⟩ := hg.right.c4 (w.heap.size + 1) 59 (.bool n.leaf) (.int .i64 (wrap64 (n.ver + 1))) (.slice ak nk.length ck) (.slice ad nr.length c) List.mem_cons_self
        exact bodyPost_ret (v := .agg #[.bool n.leaf, .int .i64 (wrap64 (n.ver + 1)), .slice ak nk.length ck, .slice ad nr.length c]) (by simp [results, Try.results49, go_sem, e0, e1, e2, e3, hu59]) rfl ⟨_, (A2 ++ A), rfl, ⟨ak, ck, ad, c, by rw [HF.out, ← HNR.out.1, ← HNK.out.1]; rfl, by rw [HF.out, ← HNR.out.1, ← HNK.out.1]; exact ⟨(Rdy.of_rw (Rw.of_gr HGK.out)).mono (fun p hp => by first | (simp [hp]; done) | (simp [HRL.out p hp]; done)), (Rdy.of_rw (Rw.of_gr HGR.out)).mono (fun p hp => by first | (simp [hp]; done) | (simp [HRL.out p hp]; done)), (Rw.of_gr HGK.out).2.1, (Rw.of_gr HGR.out).2.1⟩⟩, hg.drop (List.Sublist.append_left ((List.sublist_cons_self _ _).trans (List.sublist_cons_self _ _)) (A2 ++ A))⟩
end Go.Proofs.Ytglbcfkmaamhaaa.Nd
