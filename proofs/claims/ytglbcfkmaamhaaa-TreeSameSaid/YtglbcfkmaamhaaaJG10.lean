/- A text of this claim: parts NdIS. No condition. -/
import Derived.Test.YtglbcfkmaamhaaaJG4
import Derived.Test.YtglbcfkmaamhaaaJG5
import Derived.Test.YtglbcfkmaamhaaaJG2
import Derived.Test.YtglbcfkmaamhaaaJG0
set_option linter.unusedVariables false
set_option linter.unusedSimpArgs false
set_option maxHeartbeats 16000000
set_option maxRecDepth 100000
namespace Go.Proofs.Ytglbcfkmaamhaaa.Nd
open Go Go.RowKit Go.Proofs.YtglbcfkmaamhaaaW.PrintWords Go.Proofs.YtglbcfkmaamhaaaW.PrintLast Go.Proofs.YtglbcfkmaamhaaaW.PrintMore Go.Proofs.Ytglbcfkmaamhaaa.Hv
variable {w0 w w1 : World} {g : Nat} {L L' R : List Ob}
theorem insertS.calls (hv : Hv w0 w L) (hRL : ∀ p ∈ R, p ∈ L) {n : Nd} {v : Value} (hn : NV w0 R n v) (ho : Sm n) (i : Int) (k : ByteArray) (r : Rf) :
  Calls Try.prog 47 #[v, .int .i64 i, .string k, .agg #[.int .i64 r.1, .int .i64 r.2]] w (NodeP w0 R L (n.insert i k r)) := by
 have hu59 := Try.underlying59
 have hu57 := Try.underlying57
 have hu31 := Try.underlying31
 have hu33 := Try.underlying33
 obtain ⟨ka, kc, ra, rc, rfl, hr⟩ := hn
 have HRL := As hRL
 clear hRL
 have HV := As (show Hv w0 _ (cb (w.heap.size + 1 + 1) 59 #[.bool false, .int .i64 0, .slice none 0 0, .slice none 0 0] :: cb (w.heap.size + 1) 33 #[.int .i64 r.1, .int .i64 r.2] :: cb w.heap.size 59 #[.bool n.leaf, .int .i64 n.ver, .slice ka n.keys.length kc, .slice ra n.refs.length rc] :: L) by
  have := ((hv.alloc (.cells #[.bool n.leaf, .int .i64 n.ver, .slice ka n.keys.length kc, .slice ra n.refs.length rc] 59)).alloc (.cells #[.int .i64 r.1, .int .i64 r.2] 33)).alloc (.cells #[.bool false, .int .i64 0, .slice none 0 0, .slice none 0 0] 59)
  simpa [cb] using this)
 have HR := As hr
 have HO := As ho
 have HB := As (show n.refs.length < 4611686018427387904 by have := ho.r; omega)
 clear hv hr ho
 obtain ⟨y0, y1, y2, y3, f0, f1, f2, f3⟩ := HV.out.c4 w.heap.size 59 (.bool n.leaf) (.int .i64 n.ver) (.slice ka n.keys.length kc) (.slice ra n.refs.length rc) (by simp)
 obtain ⟨t0, t1, -, -⟩ := HV.out.c2 (w.heap.size + 1) 33 (.int .i64 r.1) (.int .i64 r.2) (by simp)
 obtain ⟨q0, q1, q2, q3, g0, g1, g2, g3⟩ := HV.out.c4 (w.heap.size + 1 + 1) 59 (.bool false) (.int .i64 0) (.slice none 0 0) (.slice none 0 0) (by simp)
 unfold nval at *
 have ew : IntKind.i64.wrap (n.ver + 1) = wrap64 (n.ver + 1) := i64_w _
 cases hk : n.kid i
 ·have HF := As (show n.insert i k r = n by unfold Nd.insert; rw [hk]; rfl)
  go_enter Try.func47, Try.ntmps47
  go_wp2_with (go_at_call 103; go_loud (refine (kid.calls HV.out n ka ra kc rc i HB.out).mono ?_); rw [hk]; rintro e2 w2 ⟨rfl, h2⟩; have H2 := As h2; clear y0 y1 y2 y3 f0 f1 f2 f3 t0 t1 q0 q1 q2 q3 g0 g1 g2 g3; obtain ⟨y0, y1, y2, y3, f0, f1, f2, f3⟩ := h2.c4 w.heap.size 59 (.bool n.leaf) (.int .i64 n.ver) (.slice ka n.keys.length kc) (.slice ra n.refs.length rc) (by simp); obtain ⟨t0, t1, -, -⟩ := h2.c2 (w.heap.size + 1) 33 (.int .i64 r.1) (.int .i64 r.2) (by simp); obtain ⟨q0, q1, q2, q3, g0, g1, g2, g3⟩ := h2.c4 (w.heap.size + 1 + 1) 59 (.bool false) (.int .i64 0) (.slice none 0 0) (.slice none 0 0) (by simp); clear h2)
  obtain ⟨wg, hw, hg⟩ : ∃ wg, wg = _ ∧ Hv w0 wg ([] ++ (cb (w.heap.size + 1 + 1) 59 #[.bool n.leaf, .int .i64 n.ver, .slice ka n.keys.length kc, .slice ra n.refs.length rc] :: cb (w.heap.size + 1) 33 #[.int .i64 r.1, .int .i64 r.2] :: cb w.heap.size 59 #[.bool n.leaf, .int .i64 n.ver, .slice ka n.keys.length kc, .slice ra n.refs.length rc] :: L)) := ⟨_, rfl, (((((show Hv w0 w2 ([] ++ (cb (w.heap.size + 1 + 1) 59 #[.bool false, .int .i64 0, .slice none 0 0, .slice none 0 0] :: cb (w.heap.size + 1) 33 #[.int .i64 r.1, .int .i64 r.2] :: cb w.heap.size 59 #[.bool n.leaf, .int .i64 n.ver, .slice ka n.keys.length kc, .slice ra n.refs.length rc] :: L)) from H2.out).putA0 0 (.bool n.leaf) rfl).putA0 1 (.int .i64 n.ver) rfl).putA0 2 (.slice ka n.keys.length kc) rfl).putA0 3 (.slice ra n.refs.length rc) rfl)⟩
  rw [← hw]
  obtain ⟨e0, e1, e2, e3, -, -, -, -⟩ := hg.right.c4 (w.heap.size + 1 + 1) 59 (.bool n.leaf) (.int .i64 n.ver) (.slice ka n.keys.length kc) (.slice ra n.refs.length rc) List.mem_cons_self
  exact bodyPost_ret (v := .agg #[.bool n.leaf, .int .i64 n.ver, .slice ka n.keys.length kc, .slice ra n.refs.length rc]) (by simp [results, Try.results47, go_sem, e0, e1, e2, e3, hu59]) rfl ⟨_, [], rfl, ⟨ka, kc, ra, rc, by rw [HF.out]; rfl, by rw [HF.out]; exact HR.out⟩, hg.drop (List.Sublist.append_left ((List.sublist_cons_self _ _).trans ((List.sublist_cons_self _ _).trans (List.sublist_cons_self _ _))) [])⟩
 ·obtain ⟨hlf, hkr, hi0, hi1⟩ := kid_facts hk
  obtain ⟨j, rfl⟩ : ∃ j : Nat, i = j := ⟨i.toNat, by omega⟩
  have HF := As (show n.insert (j : Int) k r = { n with ver := wrap64 (n.ver + 1), keys := n.keys.take j ++ [k] ++ n.keys.drop j, refs := n.refs.take (j + 1) ++ [r] ++ n.refs.drop (j + 1) } by unfold Nd.insert; rw [if_pos hk, Int.toNat_natCast])
  have HKR := As (show n.keys.length + 1 = n.refs.length ∧ j + 1 ≤ n.refs.length from ⟨hkr, by omega⟩)
  have hw1 : wrap64 ((j : Int) + 1) = ((j + 1 : Nat) : Int) := by have := HO.out.r; unfold wrap64; omega
  obtain ⟨nk, hnk⟩ : ∃ nk, nk = n.keys.take j ++ [k] ++ n.keys.drop j := ⟨_, rfl⟩
  obtain ⟨nr, hnr⟩ : ∃ nr, nr = n.refs.take (j + 1) ++ [r] ++ n.refs.drop (j + 1) := ⟨_, rfl⟩
  have hlk : j + 1 + (n.keys.length - (j + 0)) = nk.length := by rw [hnk]; simp; omega
  have hlr : (j + 1) + 1 + (n.refs.length - ((j + 1) + 0)) = nr.length := by rw [hnr]; simp; omega
  have HNR := As (And.intro hnk (And.intro hnr (And.intro hlk hlr)))
  clear hnk hnr hlk hlr hlf hkr hi0 hi1
  have SP := As (show ∀ (w' : World) (L' : List Ob), Hv w0 w' L' → cb w.heap.size 59 #[.bool n.leaf, .int .i64 n.ver, .slice ka n.keys.length kc, .slice ra n.refs.length rc] ∈ L' → cb (w.heap.size + 1) 33 #[.int .i64 r.1, .int .i64 r.2] ∈ L' → (w'.cell? ⟨w.heap.size, 0, none⟩ = some (.bool n.leaf) ∧ w'.cell? ⟨w.heap.size, 1, none⟩ = some (.int .i64 n.ver) ∧ w'.cell? ⟨w.heap.size, 2, none⟩ = some (.slice ka n.keys.length kc) ∧ w'.cell? ⟨w.heap.size, 3, none⟩ = some (.slice ra n.refs.length rc) ∧ w'.cell? ⟨w.heap.size + 1, 0, none⟩ = some (.int .i64 r.1) ∧ w'.cell? ⟨w.heap.size + 1, 1, none⟩ = some (.int .i64 r.2)) from fun w' L' h m3 m5 => by
   obtain ⟨p0, p1, p2, p3, -, -, -, -⟩ := h.c4 _ _ _ _ _ _ m3
   obtain ⟨p4, p5, -, -⟩ := h.c2 _ _ _ _ m5
   exact ⟨p0, p1, p2, p3, p4, p5⟩)
  go_enter Try.func47, Try.ntmps47
  go_upto_region 2 with (go_at_call 103; go_loud (refine (kid.calls HV.out n ka ra kc rc j HB.out).mono ?_); rw [hk]; rintro e2 w2 ⟨rfl, h2⟩; have H2 := As h2; clear y0 y1 y2 y3 f0 f1 f2 f3 t0 t1 q0 q1 q2 q3 g0 g1 g2 g3; obtain ⟨y0, y1, y2, y3, f0, f1, f2, f3⟩ := h2.c4 w.heap.size 59 (.bool n.leaf) (.int .i64 n.ver) (.slice ka n.keys.length kc) (.slice ra n.refs.length rc) (by simp); obtain ⟨t0, t1, -, -⟩ := h2.c2 (w.heap.size + 1) 33 (.int .i64 r.1) (.int .i64 r.2) (by simp); obtain ⟨q0, q1, q2, q3, g0, g1, g2, g3⟩ := h2.c4 (w.heap.size + 1 + 1) 59 (.bool false) (.int .i64 0) (.slice none 0 0) (.slice none 0 0) (by simp); clear h2)
  have H4d := As H2.out.drew
  clear y0 y1 y2 y3 f0 f1 f2 f3 t0 t1 q0 q1 q2 q3 g0 g1 g2 g3
  refine start_ (n := 17) (S := fun w' => w'.cell? ⟨w.heap.size, 0, none⟩ = some (.bool n.leaf) ∧ w'.cell? ⟨w.heap.size, 1, none⟩ = some (.int .i64 n.ver) ∧ w'.cell? ⟨w.heap.size, 2, none⟩ = some (.slice ka n.keys.length kc) ∧ w'.cell? ⟨w.heap.size, 3, none⟩ = some (.slice ra n.refs.length rc) ∧ w'.cell? ⟨w.heap.size + 1, 0, none⟩ = some (.int .i64 r.1) ∧ w'.cell? ⟨w.heap.size + 1, 1, none⟩ = some (.int .i64 r.2)) (ds := [14, 16]) #[false, false, false, false, false, false, false, false, false, false, false, false, false, false, false, false, false] (by kernel_rfl) rfl rfl (SP.out _ _ H4d.out (by simp) (by simp)) (fun hHeld => ?_)
  generalize w2.drew = wr0 at H4d hHeld ⊢
  refine pu_ 0 (some 12) ?_ (ha := by simp only [Act.put, List.setIfInBounds_toArray, List.set_cons_zero, List.set_cons_succ, i64_w, i32_w, hw1]; rfl)
  refine pu_ 2 (some 14) ?_ (ha := by simp only [Act.put, List.setIfInBounds_toArray, List.set_cons_zero, List.set_cons_succ, i64_w, i32_w, hw1]; rfl)
  refine pu_ 3 (some 15) ?_ (ha := by simp only [Act.put, List.setIfInBounds_toArray, List.set_cons_zero, List.set_cons_succ, i64_w, i32_w, hw1]; rfl)
  refine pu_ 6 (some 18) ?_ (ha := by simp only [Act.put, List.setIfInBounds_toArray, List.set_cons_zero, List.set_cons_succ, i64_w, i32_w, hw1]; rfl)
  refine pu_ 8 (some 20) ?_ (ha := by simp only [Act.put, List.setIfInBounds_toArray, List.set_cons_zero, List.set_cons_succ, i64_w, i32_w, hw1]; rfl)
  refine pu_ 9 (some 21) ?_ (ha := by simp only [Act.put, List.setIfInBounds_toArray, List.set_cons_zero, List.set_cons_succ, i64_w, i32_w, hw1]; rfl)
  refine ta_ 1 (some 13) hHeld ?_ (hy := Or.inl ⟨by rfl, by rintro w' ⟨s0, s1, s2, s3, s4, s5⟩; go_simp; with_reducible rfl⟩) (ha := by simp only [Act.put, List.setIfInBounds_toArray, List.set_cons_zero, List.set_cons_succ, i64_w, i32_w, hw1]; rfl)
  refine ta_ 7 (some 19) hHeld ?_ (hy := Or.inl ⟨by rfl, by rintro w' ⟨s0, s1, s2, s3, s4, s5⟩; go_simp; with_reducible rfl⟩) (ha := by simp only [Act.put, List.setIfInBounds_toArray, List.set_cons_zero, List.set_cons_succ, i64_w, i32_w, hw1]; rfl)
  refine ta_ 10 (some 22) hHeld ?_ (hy := Or.inl ⟨by rfl, by rintro w' ⟨s0, s1, s2, s3, s4, s5⟩; go_simp; with_reducible rfl⟩) (ha := by simp only [Act.put, List.setIfInBounds_toArray, List.set_cons_zero, List.set_cons_succ, i64_w, i32_w, hw1]; rfl)
  refine two_ (i := 4) (j := 11) (Ni := some 16) (Nj := some 23) #[true, true, true, true, true, false, true, true, true, true, true, false, false, false, false, false, false] #[true, true, true, true, false, false, true, true, true, true, true, true, false, false, false, false, false] rfl rfl rfl rfl (by kernel_rfl) (by decide) (by decide) (fun K hK => ?_) (fun K hK => ?_)
  ·refine value_ (v := .slice (some ⟨wr0.heap.size, 0, none⟩) 1 1) (w1 := wr0.alloc (.cells #[.string k] 9)) (by rfl) rfl ?_ ?_
   ·go_simp
   obtain ⟨wr1, hW, hvv⟩ : ∃ wr1, wr1 = wr0.alloc (.cells #[.string k] 9) ∧ Hv w0 wr1 (cb wr0.heap.size 9 #[.string k] :: cb (w.heap.size + 1 + 1) 59 #[.bool false, .int .i64 0, .slice none 0 0, .slice none 0 0] :: cb (w.heap.size + 1) 33 #[.int .i64 r.1, .int .i64 r.2] :: cb w.heap.size 59 #[.bool n.leaf, .int .i64 n.ver, .slice ka n.keys.length kc, .slice ra n.refs.length rc] :: L) := ⟨_, rfl, H4d.out.alloc _⟩
   rw [← hW]
   have HR1 := As hvv
   clear hW hvv
   refine hK.out _ _ (SP.out _ _ HR1.out (by simp) (by simp)) (fun hHeld => ?_)
   clear hK K
   refine nm_ ?_ (ha := by simp only [Act.put, List.setIfInBounds_toArray, List.set_cons_zero, List.set_cons_succ, i64_w, i32_w, hw1]; rfl)
   refine two_ (i := 5) (j := 11) (Ni := some 17) (Nj := some 23) #[true, true, true, true, true, true, true, true, true, true, true, false, false, false, false, false, false] #[true, true, true, true, true, false, true, true, true, true, true, true, false, false, false, false, false] rfl rfl rfl rfl (by kernel_rfl) (by decide) (by decide) (fun K hK => ?_) (fun K hK => ?_)
   ·refine gs_ Try.func97 #[.slice ka n.keys.length kc, .int .i64 ((j : Nat) : Int), .int .i64 0, .slice (some ⟨wr0.heap.size, 0, none⟩) 1 1] ?_
    have hca := splS.calls (w0 := w0) (a1 := some ⟨wr0.heap.size, 0, none⟩) (n1 := 1) (c1 := 1) (ys := [.string k]) HR1.out (HR.out.k.mono (fun p hp => by first | (simp [hp]; done) | (simp [HRL.out p hp]; done))) (Rdy.of_rw (e := 9) (c := 1) ⟨rfl, Nat.le_refl _, fun _ => ⟨wr0.heap.size, 0, _, rfl, (by simp : cb wr0.heap.size 9 #[.string k] ∈ _), fun i _ => by rw [Nat.zero_add]; simp⟩⟩) (kcel_one _) (by intro u hu; simp at hu; subst hu; rfl) HR.out.kc (by have := HO.out.r; have := HO.out.k; omega) j 0 (by have := HKR.out.1; have := HKR.out.2; omega)
    refine hca.mono ?_
    clear hca
    rintro e wr2 hq5
    obtain ⟨adk, ck, A2, rfl, hG, hv5⟩ := hq5
    rw [HNR.out.2.2.1] at hG ⊢
    refine ⟨_, rfl, ?_⟩
    have HGk := As hG
    have HR2 := As (show Hv w0 wr2 (A2 ++ (cb wr0.heap.size 9 #[.string k] :: cb (w.heap.size + 1 + 1) 59 #[.bool false, .int .i64 0, .slice none 0 0, .slice none 0 0] :: cb (w.heap.size + 1) 33 #[.int .i64 r.1, .int .i64 r.2] :: cb w.heap.size 59 #[.bool n.leaf, .int .i64 n.ver, .slice ka n.keys.length kc, .slice ra n.refs.length rc] :: L)) from hv5)
    clear hG hv5
    refine hK.out _ _ (SP.out _ _ HR2.out (by simp) (by simp)) (fun hHeld => ?_)
    clear hK K
    refine nm_ ?_ (ha := by simp only [Act.put, List.setIfInBounds_toArray, List.set_cons_zero, List.set_cons_succ, i64_w, i32_w, hw1]; rfl)
    refine pu_ 13 (some 25) ?_ (ha := by simp only [Act.put, List.setIfInBounds_toArray, List.set_cons_zero, List.set_cons_succ, i64_w, i32_w, hw1]; rfl)
    refine on_ 11 (some 23) fun K hK => ?_
    refine value_ (v := .slice (some ⟨wr2.heap.size, 0, none⟩) 1 1) (w1 := wr2.alloc (.cells #[.int .i64 r.1, .int .i64 r.2] 33)) (by rfl) rfl ?_ ?_
    ·go_simp
    obtain ⟨wr3, hW, hvv⟩ : ∃ wr3, wr3 = wr2.alloc (.cells #[.int .i64 r.1, .int .i64 r.2] 33) ∧ Hv w0 wr3 (cb wr2.heap.size 33 #[.int .i64 r.1, .int .i64 r.2] :: A2 ++ (cb wr0.heap.size 9 #[.string k] :: cb (w.heap.size + 1 + 1) 59 #[.bool false, .int .i64 0, .slice none 0 0, .slice none 0 0] :: cb (w.heap.size + 1) 33 #[.int .i64 r.1, .int .i64 r.2] :: cb w.heap.size 59 #[.bool n.leaf, .int .i64 n.ver, .slice ka n.keys.length kc, .slice ra n.refs.length rc] :: L)) := ⟨_, rfl, HR2.out.alloc _⟩
    rw [← hW]
    have HR3 := As hvv
    clear hW hvv
    refine hK.out _ _ (SP.out _ _ HR3.out (by simp) (by simp)) (fun hHeld => ?_)
    clear hK K
    refine nm_ ?_ (ha := by simp only [Act.put, List.setIfInBounds_toArray, List.set_cons_zero, List.set_cons_succ, i64_w, i32_w, hw1]; rfl)
    refine on_ 12 (some 24) fun K hK => ?_
    refine gs_ Try.func96 #[.slice ra n.refs.length rc, .int .i64 (((j + 1) : Nat) : Int), .int .i64 0, .slice (some ⟨wr2.heap.size, 0, none⟩) 1 1] ?_
    have hca := splR.calls (w0 := w0) (a1 := some ⟨wr2.heap.size, 0, none⟩) (n1 := 1) (c1 := 1) (ys := [.int .i64 r.1, .int .i64 r.2]) HR3.out (HR.out.r.mono (fun p hp => by first | (simp [hp]; done) | (simp [HRL.out p hp]; done))) (Rdy.of_rw (e := 33) (c := 1) ⟨rfl, Nat.le_refl _, fun _ => ⟨wr2.heap.size, 0, _, rfl, (by simp : cb wr2.heap.size 33 #[.int .i64 r.1, .int .i64 r.2] ∈ _), fun i _ => by rw [Nat.zero_add]; simp⟩⟩) (rcel_one _) (by intro u hu; simp at hu; rcases hu with rfl | rfl <;> rfl) HR.out.rc (by have := HO.out.r; have := HO.out.k; omega) (j + 1) 0 (by have := HKR.out.1; have := HKR.out.2; omega)
    refine hca.mono ?_
    clear hca
    rintro e wr4 hq5
    obtain ⟨adr, cr, A4, rfl, hG, hv5⟩ := hq5
    rw [HNR.out.2.2.2] at hG ⊢
    refine ⟨_, rfl, ?_⟩
    have HGr := As hG
    have HR4 := As (show Hv w0 wr4 (A4 ++ (cb wr2.heap.size 33 #[.int .i64 r.1, .int .i64 r.2] :: A2 ++ (cb wr0.heap.size 9 #[.string k] :: cb (w.heap.size + 1 + 1) 59 #[.bool false, .int .i64 0, .slice none 0 0, .slice none 0 0] :: cb (w.heap.size + 1) 33 #[.int .i64 r.1, .int .i64 r.2] :: cb w.heap.size 59 #[.bool n.leaf, .int .i64 n.ver, .slice ka n.keys.length kc, .slice ra n.refs.length rc] :: L))) from hv5)
    clear hG hv5
    refine hK.out _ _ (SP.out _ _ HR4.out (by simp) (by simp)) (fun hHeld => ?_)
    clear hK K
    refine nm_ ?_ (ha := by simp only [Act.put, List.setIfInBounds_toArray, List.set_cons_zero, List.set_cons_succ, i64_w, i32_w, hw1]; rfl)
    refine la_ 14 none fun K hK => ?_
    have HS := As (show Hv w0 wr4 ((A4 ++ A2) ++ (cb (w.heap.size + 1 + 1) 59 #[.bool false, .int .i64 0, .slice none 0 0, .slice none 0 0] :: cb (w.heap.size + 1) 33 #[.int .i64 r.1, .int .i64 r.2] :: cb w.heap.size 59 #[.bool n.leaf, .int .i64 n.ver, .slice ka n.keys.length kc, .slice ra n.refs.length rc] :: L)) by rw [List.append_assoc]; exact HR4.out.drop (List.Sublist.append_left (List.Sublist.cons _ (List.Sublist.append_left (List.Sublist.cons _ (List.Sublist.refl _)) A2)) A4))
    obtain ⟨y0, y1, y2, y3, f0, f1, f2, f3⟩ := HS.out.right.c4 w.heap.size 59 (.bool n.leaf) (.int .i64 n.ver) (.slice ka n.keys.length kc) (.slice ra n.refs.length rc) (by simp)
    refine sk_ (hK.out _ _ ?_)
    clear hK K y0 y1 y2 y3 f0 f1 f2 f3
    obtain ⟨wr5, hW, hvv⟩ : ∃ wr5, wr5 = wr4.setCell ⟨w.heap.size, 2, none⟩ (.slice adk nk.length ck) ∧ Hv w0 wr5 ((A4 ++ A2) ++ (cb (w.heap.size + 1 + 1) 59 #[.bool false, .int .i64 0, .slice none 0 0, .slice none 0 0] :: cb (w.heap.size + 1) 33 #[.int .i64 r.1, .int .i64 r.2] :: cb w.heap.size 59 #[.bool n.leaf, .int .i64 n.ver, .slice adk nk.length ck, .slice ra n.refs.length rc] :: L)) := ⟨_, rfl, putA2 HS.out 2 _ rfl⟩
    rw [← hW]
    have HR5 := As hvv
    clear hW hvv
    refine pu_ 15 (some 26) ?_ (ha := by simp only [Act.put, List.setIfInBounds_toArray, List.set_cons_zero, List.set_cons_succ, i64_w, i32_w, hw1]; rfl)
    refine la_ 16 none fun K hK => ?_
    obtain ⟨y0, y1, y2, y3, f0, f1, f2, f3⟩ := HR5.out.right.c4 w.heap.size 59 (.bool n.leaf) (.int .i64 n.ver) (.slice adk nk.length ck) (.slice ra n.refs.length rc) (by simp)
    refine sk_ (hK.out _ _ ?_)
    clear hK K y0 y1 y2 y3 f0 f1 f2 f3
    obtain ⟨wr6, hW, hvv⟩ : ∃ wr6, wr6 = wr5.setCell ⟨w.heap.size, 3, none⟩ (.slice adr nr.length cr) ∧ Hv w0 wr6 ((A4 ++ A2) ++ (cb (w.heap.size + 1 + 1) 59 #[.bool false, .int .i64 0, .slice none 0 0, .slice none 0 0] :: cb (w.heap.size + 1) 33 #[.int .i64 r.1, .int .i64 r.2] :: cb w.heap.size 59 #[.bool n.leaf, .int .i64 n.ver, .slice adk nk.length ck, .slice adr nr.length cr] :: L)) := ⟨_, rfl, putA2 HR5.out 3 _ rfl⟩
    rw [← hW]
    have HR6 := As hvv
    clear hW hvv
    refine done_ (by kernel_rfl) ?_
    obtain ⟨y0, y1, y2, y3, f0, f1, f2, f3⟩ := HR6.out.right.c4 w.heap.size 59 (.bool n.leaf) (.int .i64 n.ver) (.slice adk nk.length ck) (.slice adr nr.length cr) (by simp)
    obtain ⟨q0, q1, q2, q3, g0, g1, g2, g3⟩ := HR6.out.right.c4 (w.heap.size + 1 + 1) 59 (.bool false) (.int .i64 0) (.slice none 0 0) (.slice none 0 0) List.mem_cons_self
    go_wp2_with fail
    have hgk : Gr 9 1 (.slice adk nk.length ck) nk.length (nk.map Value.string) A2 := by
     have h9 := HGk.out
     rw [HNR.out.1] at h9 ⊢
     simpa using h9
    have hgr : Gr 33 2 (.slice adr nr.length cr) nr.length (nr.flatMap rcel) A4 := by
     have h9 := HGr.out
     rw [Nat.add_zero, rcel_take, rcel_drop] at h9
     rw [HNR.out.2.1] at h9 ⊢
     simpa [List.flatMap_append, rcel] using h9
    have HGR := As (And.intro hgk hgr)
    clear hgk hgr
    obtain ⟨wg, hw, hg⟩ : ∃ wg, wg = _ ∧ Hv w0 wg ((A4 ++ A2) ++ (cb (w.heap.size + 1 + 1) 59 #[.bool n.leaf, .int .i64 (wrap64 (n.ver + 1)), .slice adk nk.length ck, .slice adr nr.length cr] :: cb (w.heap.size + 1) 33 #[.int .i64 r.1, .int .i64 r.2] :: cb w.heap.size 59 #[.bool n.leaf, .int .i64 (wrap64 (n.ver + 1)), .slice adk nk.length ck, .slice adr nr.length cr] :: L)) := ⟨_, rfl, (((((putA2 HR6.out 1 (.int .i64 (wrap64 (n.ver + 1))) rfl).putA0 0 (.bool n.leaf) rfl).putA0 1 (.int .i64 (wrap64 (n.ver + 1))) rfl).putA0 2 (.slice adk nk.length ck) rfl).putA0 3 (.slice adr nr.length cr) rfl)⟩
    rw [← hw]
    obtain ⟨e0, e1, e2, e3, -, -, -, -⟩ := hg.right.c4 (w.heap.size + 1 + 1) 59 (.bool n.leaf) (.int .i64 (wrap64 (n.ver + 1))) (.slice adk nk.length ck) (.slice adr nr.length cr) List.mem_cons_self
    exact bodyPost_ret (v := .agg #[.bool n.leaf, .int .i64 (wrap64 (n.ver + 1)), .slice adk nk.length ck, .slice adr nr.length cr]) (by simp [results, Try.results47, go_sem, e0, e1, e2, e3, hu59]) rfl ⟨_, (A4 ++ A2), rfl, ⟨adk, ck, adr, cr, by rw [HF.out, ← HNR.out.1, ← HNR.out.2.1]; rfl, by rw [HF.out, ← HNR.out.1, ← HNR.out.2.1]; exact ⟨(Rdy.of_rw (Rw.of_gr HGR.out.1)).mono (fun p hp => by first | (simp [hp]; done) | (simp [HRL.out p hp]; done)), (Rdy.of_rw (Rw.of_gr HGR.out.2)).mono (fun p hp => by first | (simp [hp]; done) | (simp [HRL.out p hp]; done)), (Rw.of_gr HGR.out.1).2.1, (Rw.of_gr HGR.out.2).2.1⟩⟩, hg.drop (List.Sublist.append_left ((List.sublist_cons_self _ _).trans ((List.sublist_cons_self _ _).trans (List.sublist_cons_self _ _))) (A4 ++ A2))⟩
   ·refine value_ (v := .slice (some ⟨wr1.heap.size, 0, none⟩) 1 1) (w1 := wr1.alloc (.cells #[.int .i64 r.1, .int .i64 r.2] 33)) (by rfl) rfl ?_ ?_
    ·go_simp
    obtain ⟨wr2, hW, hvv⟩ : ∃ wr2, wr2 = wr1.alloc (.cells #[.int .i64 r.1, .int .i64 r.2] 33) ∧ Hv w0 wr2 (cb wr1.heap.size 33 #[.int .i64 r.1, .int .i64 r.2] :: cb wr0.heap.size 9 #[.string k] :: cb (w.heap.size + 1 + 1) 59 #[.bool false, .int .i64 0, .slice none 0 0, .slice none 0 0] :: cb (w.heap.size + 1) 33 #[.int .i64 r.1, .int .i64 r.2] :: cb w.heap.size 59 #[.bool n.leaf, .int .i64 n.ver, .slice ka n.keys.length kc, .slice ra n.refs.length rc] :: L) := ⟨_, rfl, HR1.out.alloc _⟩
    rw [← hW]
    have HR2 := As hvv
    clear hW hvv
    refine hK.out _ _ (SP.out _ _ HR2.out (by simp) (by simp)) (fun hHeld => ?_)
    clear hK K
    refine nm_ ?_ (ha := by simp only [Act.put, List.setIfInBounds_toArray, List.set_cons_zero, List.set_cons_succ, i64_w, i32_w, hw1]; rfl)
    refine on_ 5 (some 17) fun K hK => ?_
    refine gs_ Try.func97 #[.slice ka n.keys.length kc, .int .i64 ((j : Nat) : Int), .int .i64 0, .slice (some ⟨wr0.heap.size, 0, none⟩) 1 1] ?_
    have hca := splS.calls (w0 := w0) (a1 := some ⟨wr0.heap.size, 0, none⟩) (n1 := 1) (c1 := 1) (ys := [.string k]) HR2.out (HR.out.k.mono (fun p hp => by first | (simp [hp]; done) | (simp [HRL.out p hp]; done))) (Rdy.of_rw (e := 9) (c := 1) ⟨rfl, Nat.le_refl _, fun _ => ⟨wr0.heap.size, 0, _, rfl, (by simp : cb wr0.heap.size 9 #[.string k] ∈ _), fun i _ => by rw [Nat.zero_add]; simp⟩⟩) (kcel_one _) (by intro u hu; simp at hu; subst hu; rfl) HR.out.kc (by have := HO.out.r; have := HO.out.k; omega) j 0 (by have := HKR.out.1; have := HKR.out.2; omega)
    refine hca.mono ?_
    clear hca
    rintro e wr3 hq5
    obtain ⟨adk, ck, A3, rfl, hG, hv5⟩ := hq5
    rw [HNR.out.2.2.1] at hG ⊢
    refine ⟨_, rfl, ?_⟩
    have HGk := As hG
    have HR3 := As (show Hv w0 wr3 (A3 ++ (cb wr1.heap.size 33 #[.int .i64 r.1, .int .i64 r.2] :: cb wr0.heap.size 9 #[.string k] :: cb (w.heap.size + 1 + 1) 59 #[.bool false, .int .i64 0, .slice none 0 0, .slice none 0 0] :: cb (w.heap.size + 1) 33 #[.int .i64 r.1, .int .i64 r.2] :: cb w.heap.size 59 #[.bool n.leaf, .int .i64 n.ver, .slice ka n.keys.length kc, .slice ra n.refs.length rc] :: L)) from hv5)
    clear hG hv5
    refine hK.out _ _ (SP.out _ _ HR3.out (by simp) (by simp)) (fun hHeld => ?_)
    clear hK K
    refine nm_ ?_ (ha := by simp only [Act.put, List.setIfInBounds_toArray, List.set_cons_zero, List.set_cons_succ, i64_w, i32_w, hw1]; rfl)
    refine pu_ 13 (some 25) ?_ (ha := by simp only [Act.put, List.setIfInBounds_toArray, List.set_cons_zero, List.set_cons_succ, i64_w, i32_w, hw1]; rfl)
    refine on_ 12 (some 24) fun K hK => ?_
    refine gs_ Try.func96 #[.slice ra n.refs.length rc, .int .i64 (((j + 1) : Nat) : Int), .int .i64 0, .slice (some ⟨wr1.heap.size, 0, none⟩) 1 1] ?_
    have hca := splR.calls (w0 := w0) (a1 := some ⟨wr1.heap.size, 0, none⟩) (n1 := 1) (c1 := 1) (ys := [.int .i64 r.1, .int .i64 r.2]) HR3.out (HR.out.r.mono (fun p hp => by first | (simp [hp]; done) | (simp [HRL.out p hp]; done))) (Rdy.of_rw (e := 33) (c := 1) ⟨rfl, Nat.le_refl _, fun _ => ⟨wr1.heap.size, 0, _, rfl, (by simp : cb wr1.heap.size 33 #[.int .i64 r.1, .int .i64 r.2] ∈ _), fun i _ => by rw [Nat.zero_add]; simp⟩⟩) (rcel_one _) (by intro u hu; simp at hu; rcases hu with rfl | rfl <;> rfl) HR.out.rc (by have := HO.out.r; have := HO.out.k; omega) (j + 1) 0 (by have := HKR.out.1; have := HKR.out.2; omega)
    refine hca.mono ?_
    clear hca
    rintro e wr4 hq5
    obtain ⟨adr, cr, A4, rfl, hG, hv5⟩ := hq5
    rw [HNR.out.2.2.2] at hG ⊢
    refine ⟨_, rfl, ?_⟩
    have HGr := As hG
    have HR4 := As (show Hv w0 wr4 (A4 ++ (A3 ++ (cb wr1.heap.size 33 #[.int .i64 r.1, .int .i64 r.2] :: cb wr0.heap.size 9 #[.string k] :: cb (w.heap.size + 1 + 1) 59 #[.bool false, .int .i64 0, .slice none 0 0, .slice none 0 0] :: cb (w.heap.size + 1) 33 #[.int .i64 r.1, .int .i64 r.2] :: cb w.heap.size 59 #[.bool n.leaf, .int .i64 n.ver, .slice ka n.keys.length kc, .slice ra n.refs.length rc] :: L))) from hv5)
    clear hG hv5
    refine hK.out _ _ (SP.out _ _ HR4.out (by simp) (by simp)) (fun hHeld => ?_)
    clear hK K
    refine nm_ ?_ (ha := by simp only [Act.put, List.setIfInBounds_toArray, List.set_cons_zero, List.set_cons_succ, i64_w, i32_w, hw1]; rfl)
    refine la_ 14 none fun K hK => ?_
    have HS := As (show Hv w0 wr4 ((A4 ++ A3) ++ (cb (w.heap.size + 1 + 1) 59 #[.bool false, .int .i64 0, .slice none 0 0, .slice none 0 0] :: cb (w.heap.size + 1) 33 #[.int .i64 r.1, .int .i64 r.2] :: cb w.heap.size 59 #[.bool n.leaf, .int .i64 n.ver, .slice ka n.keys.length kc, .slice ra n.refs.length rc] :: L)) by rw [List.append_assoc]; exact HR4.out.drop (List.Sublist.append_left (List.Sublist.append_left (List.Sublist.cons _ (List.Sublist.cons _ (List.Sublist.refl _))) A3) A4))
    obtain ⟨y0, y1, y2, y3, f0, f1, f2, f3⟩ := HS.out.right.c4 w.heap.size 59 (.bool n.leaf) (.int .i64 n.ver) (.slice ka n.keys.length kc) (.slice ra n.refs.length rc) (by simp)
    refine sk_ (hK.out _ _ ?_)
    clear hK K y0 y1 y2 y3 f0 f1 f2 f3
    obtain ⟨wr5, hW, hvv⟩ : ∃ wr5, wr5 = wr4.setCell ⟨w.heap.size, 2, none⟩ (.slice adk nk.length ck) ∧ Hv w0 wr5 ((A4 ++ A3) ++ (cb (w.heap.size + 1 + 1) 59 #[.bool false, .int .i64 0, .slice none 0 0, .slice none 0 0] :: cb (w.heap.size + 1) 33 #[.int .i64 r.1, .int .i64 r.2] :: cb w.heap.size 59 #[.bool n.leaf, .int .i64 n.ver, .slice adk nk.length ck, .slice ra n.refs.length rc] :: L)) := ⟨_, rfl, putA2 HS.out 2 _ rfl⟩
    rw [← hW]
    have HR5 := As hvv
    clear hW hvv
    refine pu_ 15 (some 26) ?_ (ha := by simp only [Act.put, List.setIfInBounds_toArray, List.set_cons_zero, List.set_cons_succ, i64_w, i32_w, hw1]; rfl)
    refine la_ 16 none fun K hK => ?_
    obtain ⟨y0, y1, y2, y3, f0, f1, f2, f3⟩ := HR5.out.right.c4 w.heap.size 59 (.bool n.leaf) (.int .i64 n.ver) (.slice adk nk.length ck) (.slice ra n.refs.length rc) (by simp)
    refine sk_ (hK.out _ _ ?_)
    clear hK K y0 y1 y2 y3 f0 f1 f2 f3
    obtain ⟨wr6, hW, hvv⟩ : ∃ wr6, wr6 = wr5.setCell ⟨w.heap.size, 3, none⟩ (.slice adr nr.length cr) ∧ Hv w0 wr6 ((A4 ++ A3) ++ (cb (w.heap.size + 1 + 1) 59 #[.bool false, .int .i64 0, .slice none 0 0, .slice none 0 0] :: cb (w.heap.size + 1) 33 #[.int .i64 r.1, .int .i64 r.2] :: cb w.heap.size 59 #[.bool n.leaf, .int .i64 n.ver, .slice adk nk.length ck, .slice adr nr.length cr] :: L)) := ⟨_, rfl, putA2 HR5.out 3 _ rfl⟩
    rw [← hW]
    have HR6 := As hvv
    clear hW hvv
    refine done_ (by kernel_rfl) ?_
    obtain ⟨y0, y1, y2, y3, f0, f1, f2, f3⟩ := HR6.out.right.c4 w.heap.size 59 (.bool n.leaf) (.int .i64 n.ver) (.slice adk nk.length ck) (.slice adr nr.length cr) (by simp)
    obtain ⟨q0, q1, q2, q3, g0, g1, g2, g3⟩ := HR6.out.right.c4 (w.heap.size + 1 + 1) 59 (.bool false) (.int .i64 0) (.slice none 0 0) (.slice none 0 0) List.mem_cons_self
    go_wp2_with fail
    have hgk : Gr 9 1 (.slice adk nk.length ck) nk.length (nk.map Value.string) A3 := by
     have h9 := HGk.out
     rw [HNR.out.1] at h9 ⊢
     simpa using h9
    have hgr : Gr 33 2 (.slice adr nr.length cr) nr.length (nr.flatMap rcel) A4 := by
     have h9 := HGr.out
     rw [Nat.add_zero, rcel_take, rcel_drop] at h9
     rw [HNR.out.2.1] at h9 ⊢
     simpa [List.flatMap_append, rcel] using h9
    have HGR := As (And.intro hgk hgr)
    clear hgk hgr
    obtain ⟨wg, hw, hg⟩ : ∃ wg, wg = _ ∧ Hv w0 wg ((A4 ++ A3) ++ (cb (w.heap.size + 1 + 1) 59 #[.bool n.leaf, .int .i64 (wrap64 (n.ver + 1)), .slice adk nk.length ck, .slice adr nr.length cr] :: cb (w.heap.size + 1) 33 #[.int .i64 r.1, .int .i64 r.2] :: cb w.heap.size 59 #[.bool n.leaf, .int .i64 (wrap64 (n.ver + 1)), .slice adk nk.length ck, .slice adr nr.length cr] :: L)) := ⟨_, rfl, (((((putA2 HR6.out 1 (.int .i64 (wrap64 (n.ver + 1))) rfl).putA0 0 (.bool n.leaf) rfl).putA0 1 (.int .i64 (wrap64 (n.ver + 1))) rfl).putA0 2 (.slice adk nk.length ck) rfl).putA0 3 (.slice adr nr.length cr) rfl)⟩
    rw [← hw]
    obtain ⟨e0, e1, e2, e3, -, -, -, -⟩ := hg.right.c4 (w.heap.size + 1 + 1) 59 (.bool n.leaf) (.int .i64 (wrap64 (n.ver + 1))) (.slice adk nk.length ck) (.slice adr nr.length cr) List.mem_cons_self
    exact bodyPost_ret (v := .agg #[.bool n.leaf, .int .i64 (wrap64 (n.ver + 1)), .slice adk nk.length ck, .slice adr nr.length cr]) (by simp [results, Try.results47, go_sem, e0, e1, e2, e3, hu59]) rfl ⟨_, (A4 ++ A3), rfl, ⟨adk, ck, adr, cr, by rw [HF.out, ← HNR.out.1, ← HNR.out.2.1]; rfl, by rw [HF.out, ← HNR.out.1, ← HNR.out.2.1]; exact ⟨(Rdy.of_rw (Rw.of_gr HGR.out.1)).mono (fun p hp => by first | (simp [hp]; done) | (simp [HRL.out p hp]; done)), (Rdy.of_rw (Rw.of_gr HGR.out.2)).mono (fun p hp => by first | (simp [hp]; done) | (simp [HRL.out p hp]; done)), (Rw.of_gr HGR.out.1).2.1, (Rw.of_gr HGR.out.2).2.1⟩⟩, hg.drop (List.Sublist.append_left ((List.sublist_cons_self _ _).trans ((List.sublist_cons_self _ _).trans (List.sublist_cons_self _ _))) (A4 ++ A3))⟩
  ·refine value_ (v := .slice (some ⟨wr0.heap.size, 0, none⟩) 1 1) (w1 := wr0.alloc (.cells #[.int .i64 r.1, .int .i64 r.2] 33)) (by rfl) rfl ?_ ?_
   ·go_simp
   obtain ⟨wr1, hW, hvv⟩ : ∃ wr1, wr1 = wr0.alloc (.cells #[.int .i64 r.1, .int .i64 r.2] 33) ∧ Hv w0 wr1 (cb wr0.heap.size 33 #[.int .i64 r.1, .int .i64 r.2] :: cb (w.heap.size + 1 + 1) 59 #[.bool false, .int .i64 0, .slice none 0 0, .slice none 0 0] :: cb (w.heap.size + 1) 33 #[.int .i64 r.1, .int .i64 r.2] :: cb w.heap.size 59 #[.bool n.leaf, .int .i64 n.ver, .slice ka n.keys.length kc, .slice ra n.refs.length rc] :: L) := ⟨_, rfl, H4d.out.alloc _⟩
   rw [← hW]
   have HR1 := As hvv
   clear hW hvv
   refine hK.out _ _ (SP.out _ _ HR1.out (by simp) (by simp)) (fun hHeld => ?_)
   clear hK K
   refine nm_ ?_ (ha := by simp only [Act.put, List.setIfInBounds_toArray, List.set_cons_zero, List.set_cons_succ, i64_w, i32_w, hw1]; rfl)
   refine on_ 4 (some 16) fun K hK => ?_
   refine value_ (v := .slice (some ⟨wr1.heap.size, 0, none⟩) 1 1) (w1 := wr1.alloc (.cells #[.string k] 9)) (by rfl) rfl ?_ ?_
   ·go_simp
   obtain ⟨wr2, hW, hvv⟩ : ∃ wr2, wr2 = wr1.alloc (.cells #[.string k] 9) ∧ Hv w0 wr2 (cb wr1.heap.size 9 #[.string k] :: cb wr0.heap.size 33 #[.int .i64 r.1, .int .i64 r.2] :: cb (w.heap.size + 1 + 1) 59 #[.bool false, .int .i64 0, .slice none 0 0, .slice none 0 0] :: cb (w.heap.size + 1) 33 #[.int .i64 r.1, .int .i64 r.2] :: cb w.heap.size 59 #[.bool n.leaf, .int .i64 n.ver, .slice ka n.keys.length kc, .slice ra n.refs.length rc] :: L) := ⟨_, rfl, HR1.out.alloc _⟩
   rw [← hW]
   have HR2 := As hvv
   clear hW hvv
   refine hK.out _ _ (SP.out _ _ HR2.out (by simp) (by simp)) (fun hHeld => ?_)
   clear hK K
   refine nm_ ?_ (ha := by simp only [Act.put, List.setIfInBounds_toArray, List.set_cons_zero, List.set_cons_succ, i64_w, i32_w, hw1]; rfl)
   refine on_ 5 (some 17) fun K hK => ?_
   refine gs_ Try.func97 #[.slice ka n.keys.length kc, .int .i64 ((j : Nat) : Int), .int .i64 0, .slice (some ⟨wr1.heap.size, 0, none⟩) 1 1] ?_
   have hca := splS.calls (w0 := w0) (a1 := some ⟨wr1.heap.size, 0, none⟩) (n1 := 1) (c1 := 1) (ys := [.string k]) HR2.out (HR.out.k.mono (fun p hp => by first | (simp [hp]; done) | (simp [HRL.out p hp]; done))) (Rdy.of_rw (e := 9) (c := 1) ⟨rfl, Nat.le_refl _, fun _ => ⟨wr1.heap.size, 0, _, rfl, (by simp : cb wr1.heap.size 9 #[.string k] ∈ _), fun i _ => by rw [Nat.zero_add]; simp⟩⟩) (kcel_one _) (by intro u hu; simp at hu; subst hu; rfl) HR.out.kc (by have := HO.out.r; have := HO.out.k; omega) j 0 (by have := HKR.out.1; have := HKR.out.2; omega)
   refine hca.mono ?_
   clear hca
   rintro e wr3 hq5
   obtain ⟨adk, ck, A3, rfl, hG, hv5⟩ := hq5
   rw [HNR.out.2.2.1] at hG ⊢
   refine ⟨_, rfl, ?_⟩
   have HGk := As hG
   have HR3 := As (show Hv w0 wr3 (A3 ++ (cb wr1.heap.size 9 #[.string k] :: cb wr0.heap.size 33 #[.int .i64 r.1, .int .i64 r.2] :: cb (w.heap.size + 1 + 1) 59 #[.bool false, .int .i64 0, .slice none 0 0, .slice none 0 0] :: cb (w.heap.size + 1) 33 #[.int .i64 r.1, .int .i64 r.2] :: cb w.heap.size 59 #[.bool n.leaf, .int .i64 n.ver, .slice ka n.keys.length kc, .slice ra n.refs.length rc] :: L)) from hv5)
   clear hG hv5
   refine hK.out _ _ (SP.out _ _ HR3.out (by simp) (by simp)) (fun hHeld => ?_)
   clear hK K
   refine nm_ ?_ (ha := by simp only [Act.put, List.setIfInBounds_toArray, List.set_cons_zero, List.set_cons_succ, i64_w, i32_w, hw1]; rfl)
   refine pu_ 13 (some 25) ?_ (ha := by simp only [Act.put, List.setIfInBounds_toArray, List.set_cons_zero, List.set_cons_succ, i64_w, i32_w, hw1]; rfl)
   refine on_ 12 (some 24) fun K hK => ?_
   refine gs_ Try.func96 #[.slice ra n.refs.length rc, .int .i64 (((j + 1) : Nat) : Int), .int .i64 0, .slice (some ⟨wr0.heap.size, 0, none⟩) 1 1] ?_
   have hca := splR.calls (w0 := w0) (a1 := some ⟨wr0.heap.size, 0, none⟩) (n1 := 1) (c1 := 1) (ys := [.int .i64 r.1, .int .i64 r.2]) HR3.out (HR.out.r.mono (fun p hp => by first | (simp [hp]; done) | (simp [HRL.out p hp]; done))) (Rdy.of_rw (e := 33) (c := 1) ⟨rfl, Nat.le_refl _, fun _ => ⟨wr0.heap.size, 0, _, rfl, (by simp : cb wr0.heap.size 33 #[.int .i64 r.1, .int .i64 r.2] ∈ _), fun i _ => by rw [Nat.zero_add]; simp⟩⟩) (rcel_one _) (by intro u hu; simp at hu; rcases hu with rfl | rfl <;> rfl) HR.out.rc (by have := HO.out.r; have := HO.out.k; omega) (j + 1) 0 (by have := HKR.out.1; have := HKR.out.2; omega)
   refine hca.mono ?_
   clear hca
   rintro e wr4 hq5
   obtain ⟨adr, cr, A4, rfl, hG, hv5⟩ := hq5
   rw [HNR.out.2.2.2] at hG ⊢
   refine ⟨_, rfl, ?_⟩
   have HGr := As hG
   have HR4 := As (show Hv w0 wr4 (A4 ++ (A3 ++ (cb wr1.heap.size 9 #[.string k] :: cb wr0.heap.size 33 #[.int .i64 r.1, .int .i64 r.2] :: cb (w.heap.size + 1 + 1) 59 #[.bool false, .int .i64 0, .slice none 0 0, .slice none 0 0] :: cb (w.heap.size + 1) 33 #[.int .i64 r.1, .int .i64 r.2] :: cb w.heap.size 59 #[.bool n.leaf, .int .i64 n.ver, .slice ka n.keys.length kc, .slice ra n.refs.length rc] :: L))) from hv5)
   clear hG hv5
   refine hK.out _ _ (SP.out _ _ HR4.out (by simp) (by simp)) (fun hHeld => ?_)
   clear hK K
   refine nm_ ?_ (ha := by simp only [Act.put, List.setIfInBounds_toArray, List.set_cons_zero, List.set_cons_succ, i64_w, i32_w, hw1]; rfl)
   refine la_ 14 none fun K hK => ?_
   have HS := As (show Hv w0 wr4 ((A4 ++ A3) ++ (cb (w.heap.size + 1 + 1) 59 #[.bool false, .int .i64 0, .slice none 0 0, .slice none 0 0] :: cb (w.heap.size + 1) 33 #[.int .i64 r.1, .int .i64 r.2] :: cb w.heap.size 59 #[.bool n.leaf, .int .i64 n.ver, .slice ka n.keys.length kc, .slice ra n.refs.length rc] :: L)) by rw [List.append_assoc]; exact HR4.out.drop (List.Sublist.append_left (List.Sublist.append_left (List.Sublist.cons _ (List.Sublist.cons _ (List.Sublist.refl _))) A3) A4))
   obtain ⟨y0, y1, y2, y3, f0, f1, f2, f3⟩ := HS.out.right.c4 w.heap.size 59 (.bool n.leaf) (.int .i64 n.ver) (.slice ka n.keys.length kc) (.slice ra n.refs.length rc) (by simp)
   refine sk_ (hK.out _ _ ?_)
   clear hK K y0 y1 y2 y3 f0 f1 f2 f3
   obtain ⟨wr5, hW, hvv⟩ : ∃ wr5, wr5 = wr4.setCell ⟨w.heap.size, 2, none⟩ (.slice adk nk.length ck) ∧ Hv w0 wr5 ((A4 ++ A3) ++ (cb (w.heap.size + 1 + 1) 59 #[.bool false, .int .i64 0, .slice none 0 0, .slice none 0 0] :: cb (w.heap.size + 1) 33 #[.int .i64 r.1, .int .i64 r.2] :: cb w.heap.size 59 #[.bool n.leaf, .int .i64 n.ver, .slice adk nk.length ck, .slice ra n.refs.length rc] :: L)) := ⟨_, rfl, putA2 HS.out 2 _ rfl⟩
   rw [← hW]
   have HR5 := As hvv
   clear hW hvv
   refine pu_ 15 (some 26) ?_ (ha := by simp only [Act.put, List.setIfInBounds_toArray, List.set_cons_zero, List.set_cons_succ, i64_w, i32_w, hw1]; rfl)
   refine la_ 16 none fun K hK => ?_
   obtain ⟨y0, y1, y2, y3, f0, f1, f2, f3⟩ := HR5.out.right.c4 w.heap.size 59 (.bool n.leaf) (.int .i64 n.ver) (.slice adk nk.length ck) (.slice ra n.refs.length rc) (by simp)
   refine sk_ (hK.out _ _ ?_)
   clear hK K y0 y1 y2 y3 f0 f1 f2 f3
   obtain ⟨wr6, hW, hvv⟩ : ∃ wr6, wr6 = wr5.setCell ⟨w.heap.size, 3, none⟩ (.slice adr nr.length cr) ∧ Hv w0 wr6 ((A4 ++ A3) ++ (cb (w.heap.size + 1 + 1) 59 #[.bool false, .int .i64 0, .slice none 0 0, .slice none 0 0] :: cb (w.heap.size + 1) 33 #[.int .i64 r.1, .int .i64 r.2] :: cb w.heap.size 59 #[.bool n.leaf, .int .i64 n.ver, .slice adk nk.length ck, .slice adr nr.length cr] :: L)) := ⟨_, rfl, putA2 HR5.out 3 _ rfl⟩
   rw [← hW]
   have HR6 := As hvv
   clear hW hvv
   refine done_ (by kernel_rfl) ?_
   obtain ⟨y0, y1, y2, y3, f0, f1, f2, f3⟩ := HR6.out.right.c4 w.heap.size 59 (.bool n.leaf) (.int .i64 n.ver) (.slice adk nk.length ck) (.slice adr nr.length cr) (by simp)
   obtain ⟨q0, q1, q2, q3, g0, g1, g2, g3⟩ := HR6.out.right.c4 (w.heap.size + 1 + 1) 59 (.bool false) (.int .i64 0) (.slice none 0 0) (.slice none 0 0) List.mem_cons_self
   go_wp2_with fail
   have hgk : Gr 9 1 (.slice adk nk.length ck) nk.length (nk.map Value.string) A3 := by
    have h9 := HGk.out
    rw [HNR.out.1] at h9 ⊢
    simpa using h9
   have hgr : Gr 33 2 (.slice adr nr.length cr) nr.length (nr.flatMap rcel) A4 := by
    have h9 := HGr.out
    rw [Nat.add_zero, rcel_take, rcel_drop] at h9
    rw [HNR.out.2.1] at h9 ⊢
    simpa [List.flatMap_append, rcel] using h9
   have HGR := As (And.intro hgk hgr)
   clear hgk hgr
   obtain ⟨wg, hw, hg⟩ : ∃ wg, wg = _ ∧ Hv w0 wg ((A4 ++ A3) ++ (cb (w.heap.size + 1 + 1) 59 #[.bool n.leaf, .int .i64 (wrap64 (n.ver + 1)), .slice adk nk.length ck, .slice adr nr.length cr] :: cb (w.heap.size + 1) 33 #[.int .i64 r.1, .int .i64 r.2] :: cb w.heap.size 59 #[.bool n.leaf, .int .i64 (wrap64 (n.ver + 1)), .slice adk nk.length ck, .slice adr nr.length cr] :: L)) := ⟨_, rfl, (((((putA2 HR6.out 1 (.int .i64 (wrap64 (n.ver + 1))) rfl).putA0 0 (.bool n.leaf) rfl).putA0 1 (.int .i64 (wrap64 (n.ver + 1))) rfl).putA0 2 (.slice adk nk.length ck) rfl).putA0 3 (.slice adr nr.length cr) rfl)⟩
   rw [← hw]
   obtain ⟨e0, e1, e2, e3, -, -, -, -⟩ := hg.right.c4 (w.heap.size + 1 + 1) 59 (.bool n.leaf) (.int .i64 (wrap64 (n.ver + 1))) (.slice adk nk.length ck) (.slice adr nr.length cr) List.mem_cons_self
   exact bodyPost_ret (v := .agg #[.bool n.leaf, .int .i64 (wrap64 (n.ver + 1)), .slice adk nk.length ck, .slice adr nr.length cr]) (by simp [results, Try.results47, go_sem, e0, e1, e2, e3, hu59]) rfl ⟨_, (A4 ++ A3), rfl, ⟨adk, ck, adr, cr, by rw [HF.out, ← HNR.out.1, ← HNR.out.2.1]; rfl, by rw [HF.out, ← HNR.out.1, ← HNR.out.2.1]; exact ⟨(Rdy.of_rw (Rw.of_gr HGR.out.1)).mono (fun p hp => by first | (simp [hp]; done) | (simp [HRL.out p hp]; done)), (Rdy.of_rw (Rw.of_gr HGR.out.2)).mono (fun p hp => by first | (simp [hp]; done) | (simp [HRL.out p hp]; done)), (Rw.of_gr HGR.out.1).2.1, (Rw.of_gr HGR.out.2).2.1⟩⟩, hg.drop (List.Sublist.append_left ((List.sublist_cons_self _ _).trans ((List.sublist_cons_self _ _).trans (List.sublist_cons_self _ _))) (A4 ++ A3))⟩
end Go.Proofs.Ytglbcfkmaamhaaa.Nd
