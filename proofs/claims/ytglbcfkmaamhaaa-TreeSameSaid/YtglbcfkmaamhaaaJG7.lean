/- A text of this claim: parts NdN. No condition. -/
import Derived.Test.YtglbcfkmaamhaaaJG6
import Derived.Test.YtglbcfkmaamhaaaJG2
import Derived.Test.YtglbcfkmaamhaaaJG0
set_option linter.unusedVariables false
set_option linter.unusedSimpArgs false
set_option maxHeartbeats 16000000
set_option maxRecDepth 100000
namespace Go.Proofs.Ytglbcfkmaamhaaa.Nd
open Go Go.RowKit Go.Proofs.YtglbcfkmaamhaaaW.PrintWords Go.Proofs.YtglbcfkmaamhaaaW.PrintLast Go.Proofs.YtglbcfkmaamhaaaW.PrintMore Go.Proofs.Ytglbcfkmaamhaaa.Hv
variable {w0 w w1 : World} {g : Nat} {L L' R : List Ob}
theorem split.inner (hv : Hv w0 w L) (hRL : ∀ p ∈ R, p ∈ L) {n : Nd} {v : Value} (hn : NV w0 R n v) (ho : Sm n) (hs : n.shape = true) (h2 : 2 ≤ n.refs.length) (hlf : n.leaf = false) :
  Calls Try.prog 51 #[v] w (SplitP w0 R L n.split) := by
 have hu59 := Try.underlying59
 have hu57 := Try.underlying57
 have hu31 := Try.underlying31
 obtain ⟨ka, kc, ra, rc, rfl, hr⟩ := hn
 have HRL := As hRL
 clear hRL
 have HV := As (show Hv w0 _ (cb (w.heap.size + 1 + 1) 59 #[.bool false, .int .i64 0, .slice none 0 0, .slice none 0 0] :: cb (w.heap.size + 1) 59 #[.bool false, .int .i64 0, .slice none 0 0, .slice none 0 0] :: cb w.heap.size 59 #[.bool n.leaf, .int .i64 n.ver, .slice ka n.keys.length kc, .slice ra n.refs.length rc] :: L) by
  have := ((hv.alloc (.cells #[.bool n.leaf, .int .i64 n.ver, .slice ka n.keys.length kc, .slice ra n.refs.length rc] 59)).alloc (.cells #[.bool false, .int .i64 0, .slice none 0 0, .slice none 0 0] 59)).alloc (.cells #[.bool false, .int .i64 0, .slice none 0 0, .slice none 0 0] 59)
  simpa [cb] using this)
 have HR := As hr
 have HB := As (show n.refs.length < 4611686018427387904 by have := ho.r; omega)
 obtain ⟨h, hh⟩ : ∃ h, h = n.refs.length - n.refs.length / 2 := ⟨_, rfl⟩
 have hsh : n.keys.length + 1 = n.refs.length := by unfold Nd.shape shp at hs; rw [hlf] at hs; simp at hs; omega
 obtain ⟨kp, hkp⟩ : ∃ kp, kp = h - 1 := ⟨_, rfl⟩
 have hkl : kp < n.keys.length := by omega
 obtain ⟨mid, hmid⟩ : ∃ r, n.keys[kp]? = some r := ⟨_, List.getElem?_eq_getElem hkl⟩
 have hhalf : n.half = h := hh.symm
 have hkeep : n.keep = kp := by unfold Nd.keep; rw [hlf, hhalf, hkp]; rfl
 have HF := As (show n.split = ({ n with ver := wrap64 (n.ver + 1), keys := n.keys.take kp, refs := n.refs.take h }, mid, ⟨n.leaf, 1, n.keys.drop h, n.refs.drop h⟩) by
  unfold Nd.split; rw [if_pos (by rw [hs]; simp; exact h2), hkeep, hhalf, List.getD_eq_getElem?_getD, hmid]; rfl)
 have hb1 := ho.r
 have hb2 := ho.k
 have eh : wrap64 ((n.refs.length : Int) - wrap64 ((n.refs.length : Int) / 2)) = (h : Int) := half_w hb1 hh
 have ew7 : wrap64 ((h : Int) - 1) = (kp : Int) := pred_w (by omega) (by omega) hkp
 obtain ⟨bk, hbk⟩ : ∃ bk, bk = n.keys.drop h := ⟨_, rfl⟩
 obtain ⟨br, hbr⟩ : ∃ br, br = n.refs.drop h := ⟨_, rfl⟩
 obtain ⟨nk, hnk⟩ : ∃ nk, nk = n.keys.take kp := ⟨_, rfl⟩
 obtain ⟨nr, hnr⟩ : ∃ nr, nr = n.refs.take h := ⟨_, rfl⟩
 have HNR := As (And.intro hbk (And.intro hbr (And.intro (show n.keys.length - h + 0 = bk.length by rw [hbk]; simp) (And.intro (show n.refs.length - h + 0 = br.length by rw [hbr]; simp) True.intro))))
 have HNR2 := As (And.intro hnk (And.intro hnr (And.intro (show kp + 0 = nk.length by rw [hnk, List.length_take]; omega) (show h + 0 = nr.length by rw [hnr, List.length_take]; omega))))
 have HQ2 := As (show kp ≤ n.keys.length ∧ kp + 0 < 8796093022208 ∧ h + 0 < 8796093022208 from ⟨by omega, by omega, by omega⟩)
 have HQ := As (show h ≤ n.keys.length ∧ h ≤ n.refs.length ∧ n.keys.length - h + 0 < 8796093022208 ∧ n.refs.length - h + 0 < 8796093022208 from ⟨by omega, by omega, by omega, by omega⟩)
 obtain ⟨i9, hi9, hs9⟩ : ∃ i, Try.prog.info? 9 = some i ∧ i.size = 1 := by
  have := copS.size
  cases hi : Try.prog.info? 9 with
  | none => rw [hi] at this; cases this
  | some i => rw [hi] at this; exact ⟨i, rfl, by simpa using this⟩
 obtain ⟨i33, hi33, hs33⟩ : ∃ i, Try.prog.info? 33 = some i ∧ i.size = 2 := by
  have := copR.size
  cases hi : Try.prog.info? 33 with
  | none => rw [hi] at this; cases this
  | some i => rw [hi] at this; exact ⟨i, rfl, by simpa using this⟩
 have hkc := hr.kc
 have hrc := hr.rc
 have p0 : (h : Int) ≤ (n.keys.length : Int) := by omega
 have p1 : (h : Int) ≤ (n.refs.length : Int) := by omega
 have p2 : (h : Int) ≤ (rc : Int) := by omega
 have p3 : (kp : Int) ≤ (kc : Int) := by omega
 have p4 : (0 : Int) ≤ (h : Int) := by omega
 have p5 : (0 : Int) ≤ (kp : Int) := by omega
 have p6 : (kp : Int) < (n.keys.length : Int) := by omega
 have p7 : ¬ ((n.refs.length : Int) < 2) := by omega
 have p8 : (h : Int) ≤ (kc : Int) := by omega
 obtain ⟨ad, ea, -⟩ := (hr.k _ _ HV.out (fun x hx => by first | (simp [hx]; done) | (simp [HRL.out x hx]; done))).2 (by omega)
 cases ea
 have RP := As (show ∀ (W : World) (L' : List Ob), Hv w0 W L' → (∀ x ∈ R, x ∈ L') → W.cell? (ad.add kp) = some (.string mid) from fun W L' h hL => by
  obtain ⟨a, e1, hc⟩ := (HR.out.k W L' h hL).2 (by omega)
  cases e1
  exact hc _ _ (by rw [List.getElem?_map, hmid]; rfl))
 have ew : IntKind.i64.wrap (n.ver + 1) = wrap64 (n.ver + 1) := i64_w _
 have hs0 : shp n.leaf n.keys.length n.refs.length = true := hs
 have HLF := As hlf
 clear hv hr ho hs hlf h2 hh hsh hkp hmid hhalf hkeep hbk hbr hnk hnr hb1 hb2 hkc hrc
 have hs := hs0
 clear hs0
 obtain ⟨y0, y1, y2, y3, f0, f1, f2, f3⟩ := HV.out.c4 w.heap.size 59 (.bool n.leaf) (.int .i64 n.ver) (.slice (some ad) n.keys.length kc) (.slice ra n.refs.length rc) (by simp)
 obtain ⟨t0, t1, t2, t3, h0, h1, h2, h3⟩ := HV.out.c4 (w.heap.size + 1) 59 (.bool false) (.int .i64 0) (.slice none 0 0) (.slice none 0 0) (by simp)
 obtain ⟨q0, q1, q2, q3, g0, g1, g2, g3⟩ := HV.out.c4 (w.heap.size + 1 + 1) 59 (.bool false) (.int .i64 0) (.slice none 0 0) (.slice none 0 0) (by simp)
 unfold nval at *
 have SP := As (show ∀ (w' : World) (L' : List Ob), Hv w0 w' L' → cb w.heap.size 59 #[.bool n.leaf, .int .i64 n.ver, .slice (some ad) n.keys.length kc, .slice ra n.refs.length rc] ∈ L' → (w'.cell? ⟨w.heap.size, 0, none⟩ = some (.bool n.leaf) ∧ w'.cell? ⟨w.heap.size, 1, none⟩ = some (.int .i64 n.ver) ∧ w'.cell? ⟨w.heap.size, 2, none⟩ = some (.slice (some ad) n.keys.length kc) ∧ w'.cell? ⟨w.heap.size, 3, none⟩ = some (.slice ra n.refs.length rc)) from fun w' L' h m3 => by
  obtain ⟨p0, p1, p2, p3, -, -, -, -⟩ := h.c4 _ _ _ _ _ _ m3
  exact ⟨p0, p1, p2, p3⟩)
 go_enter Try.func51, Try.ntmps51
 go_upto_region 4 with (go_at_call 93; go_loud (refine (shape.calls HV.out n.leaf n.ver (some ad) ra n.keys.length kc n.refs.length rc HB.out).mono ?_); rw [hs]; rintro e2 w2 ⟨rfl, hh⟩; have H2 := As hh; clear y0 y1 y2 y3 f0 f1 f2 f3 q0 q1 q2 q3 g0 g1 g2 g3 t0 t1 t2 t3 h0 h1 h2 h3; obtain ⟨y0, y1, y2, y3, f0, f1, f2, f3⟩ := hh.c4 w.heap.size 59 (.bool n.leaf) (.int .i64 n.ver) (.slice (some ad) n.keys.length kc) (.slice ra n.refs.length rc) (by simp); obtain ⟨t0, t1, t2, t3, h0, h1, h2, h3⟩ := hh.c4 (w.heap.size + 1) 59 (.bool false) (.int .i64 0) (.slice none 0 0) (.slice none 0 0) (by simp); obtain ⟨q0, q1, q2, q3, g0, g1, g2, g3⟩ := hh.c4 (w.heap.size + 1 + 1) 59 (.bool false) (.int .i64 0) (.slice none 0 0) (.slice none 0 0) (by simp); clear hh)
 have H4d := As H2.out.drew
 clear y0 y1 y2 y3 f0 f1 f2 f3 q0 q1 q2 q3 g0 g1 g2 g3 t0 t1 t2 t3 h0 h1 h2 h3
 refine start_ (n := 15) (S := fun w' => w'.cell? ⟨w.heap.size, 0, none⟩ = some (.bool n.leaf) ∧ w'.cell? ⟨w.heap.size, 1, none⟩ = some (.int .i64 n.ver) ∧ w'.cell? ⟨w.heap.size, 2, none⟩ = some (.slice (some ad) n.keys.length kc) ∧ w'.cell? ⟨w.heap.size, 3, none⟩ = some (.slice ra n.refs.length rc)) (ds := [14]) #[false, false, false, false, false, false, false, false, false, false, false, false, false, false, false] (by kernel_rfl) rfl rfl (SP.out _ _ H4d.out (by simp)) (fun hHeld => ?_)
 generalize w2.drew = wr0 at H4d hHeld ⊢
 refine pu_ 0 (some 28) ?_
 refine pu_ 2 (some 30) ?_
 refine pu_ 4 (some 32) ?_
 refine pu_ 7 (some 35) ?_
 refine pu_ 9 (some 37) ?_
 refine ta_ 1 (some 29) hHeld ?_ (hy := Or.inl ⟨by rfl, by rintro w' ⟨s0, s1, s2, s3⟩; go_simp; with_reducible rfl⟩)
 refine ta_ 3 (some 31) hHeld ?_ (hy := Or.inl ⟨by rfl, by rintro w' ⟨s0, s1, s2, s3⟩; go_simp; with_reducible rfl⟩)
 refine pu_ 5 (some 33) ?_
 refine ta_ 8 (some 36) hHeld ?_ (hy := Or.inl ⟨by rfl, by rintro w' ⟨s0, s1, s2, s3⟩; go_simp; with_reducible rfl⟩)
 refine pu_ 10 (some 38) ?_
 refine two_ (i := 6) (j := 13) (Ni := some 34) (Nj := some 6) #[true, true, true, true, true, true, true, true, true, true, true, false, false, false, false] #[true, true, true, true, true, true, false, true, true, true, true, false, false, true, false] rfl rfl rfl rfl (by kernel_rfl) (by decide) (by decide) (fun K hK => ?_) (fun K hK => ?_)
 ·refine gs_ Try.func105 #[.slice (if kc = h then (some ad) else (some ad).map (·.add (h * 1))) (n.keys.length - h) (kc - h), .slice none 0 0] ?_
  refine (copS.calls (w0 := w0) (a1 := none) (n1 := 0) (c1 := 0) (ys := []) H4d.out ((HR.out.k.drop h HQ.out.1 HR.out.kc).mono (fun p hp => by first | (simp [hp]; done) | (simp [HRL.out p hp]; done))) (Rdy.nil 1 none) (fun u hu => kcel_one _ u (List.mem_of_mem_drop hu)) (by intro u hu; cases hu) HQ.out.2.2.1).mono ?_
  rintro e wr1 hq5
  obtain ⟨adk, ck, A1, rfl, hG, hv5⟩ := hq5
  rw [HNR.out.2.2.1] at hG ⊢
  refine ⟨_, rfl, ?_⟩
  have HGk := As hG
  have HR1 := As (show Hv w0 wr1 (A1 ++ (cb (w.heap.size + 1 + 1) 59 #[.bool false, .int .i64 0, .slice none 0 0, .slice none 0 0] :: cb (w.heap.size + 1) 59 #[.bool false, .int .i64 0, .slice none 0 0, .slice none 0 0] :: cb w.heap.size 59 #[.bool n.leaf, .int .i64 n.ver, .slice (some ad) n.keys.length kc, .slice ra n.refs.length rc] :: L)) from hv5)
  clear hG hv5
  refine hK.out _ _ (SP.out _ _ HR1.out (by simp)) (fun hHeld => ?_)
  clear hK K
  refine nm_ ?_
  refine two_ (i := 11) (j := 13) (Ni := some 39) (Nj := some 6) #[true, true, true, true, true, true, true, true, true, true, true, true, false, false, false] #[true, true, true, true, true, true, true, true, true, true, true, false, false, true, false] rfl rfl rfl rfl (by kernel_rfl) (by decide) (by decide) (fun K hK => ?_) (fun K hK => ?_)
  ·refine gs_ Try.func106 #[.slice (if rc = h then ra else ra.map (·.add (h * 2))) (n.refs.length - h) (rc - h), .slice none 0 0] ?_
   refine (copR.calls (w0 := w0) (a1 := none) (n1 := 0) (c1 := 0) (ys := []) HR1.out ((HR.out.r.drop h HQ.out.2.1 HR.out.rc).mono (fun p hp => by first | (simp [hp]; done) | (simp [HRL.out p hp]; done))) (Rdy.nil 2 none) (fun u hu => rcel_one _ u (List.mem_of_mem_drop hu)) (by intro u hu; cases hu) HQ.out.2.2.2).mono ?_
   rintro e wr2 hq5
   obtain ⟨adr, cr, A2, rfl, hG, hv5⟩ := hq5
   rw [HNR.out.2.2.2.1] at hG ⊢
   refine ⟨_, rfl, ?_⟩
   have HGr := As hG
   have HR2 := As (show Hv w0 wr2 (A2 ++ (A1 ++ (cb (w.heap.size + 1 + 1) 59 #[.bool false, .int .i64 0, .slice none 0 0, .slice none 0 0] :: cb (w.heap.size + 1) 59 #[.bool false, .int .i64 0, .slice none 0 0, .slice none 0 0] :: cb w.heap.size 59 #[.bool n.leaf, .int .i64 n.ver, .slice (some ad) n.keys.length kc, .slice ra n.refs.length rc] :: L))) from hv5)
   clear hG hv5
   refine hK.out _ _ (SP.out _ _ HR2.out (by simp)) (fun hHeld => ?_)
   clear hK K
   refine nm_ ?_
   refine pu_ 12 (some 40) ?_
   refine on_ 13 (some 6) fun K hK => ?_
   refine value_ (v := .pointer (some ⟨wr2.heap.size, 0, none⟩)) (w1 := wr2.alloc (.cells #[.bool false, .int .i64 0, .slice none 0 0, .slice none 0 0] 59)) (by rfl) rfl ?_ ?_
   ·go_simp
   obtain ⟨wr3, hW, hvv⟩ : ∃ wr3, wr3 = wr2.alloc (.cells #[.bool false, .int .i64 0, .slice none 0 0, .slice none 0 0] 59) ∧ Hv w0 wr3 (cb wr2.heap.size 59 #[.bool false, .int .i64 0, .slice none 0 0, .slice none 0 0] :: A2 ++ (A1 ++ (cb (w.heap.size + 1 + 1) 59 #[.bool false, .int .i64 0, .slice none 0 0, .slice none 0 0] :: cb (w.heap.size + 1) 59 #[.bool false, .int .i64 0, .slice none 0 0, .slice none 0 0] :: cb w.heap.size 59 #[.bool n.leaf, .int .i64 n.ver, .slice (some ad) n.keys.length kc, .slice ra n.refs.length rc] :: L))) := ⟨_, rfl, HR2.out.alloc _⟩
   rw [← hW]
   have HR3 := As hvv
   clear hW hvv
   refine hK.out _ _ (SP.out _ _ HR3.out (by simp)) (fun hHeld => ?_)
   clear hK K
   refine nm_ ?_
   refine la_ 14 none fun K hK => ?_
   have HS := As (show Hv w0 wr3 ((A2 ++ A1) ++ (cb (wr2.heap.size) 59 #[.bool false, .int .i64 0, .slice none 0 0, .slice none 0 0] :: cb (w.heap.size + 1 + 1) 59 #[.bool false, .int .i64 0, .slice none 0 0, .slice none 0 0] :: cb (w.heap.size + 1) 59 #[.bool false, .int .i64 0, .slice none 0 0, .slice none 0 0] :: cb w.heap.size 59 #[.bool n.leaf, .int .i64 n.ver, .slice (some ad) n.keys.length kc, .slice ra n.refs.length rc] :: L)) from by rw [List.append_assoc]; exact HR3.out.perm (by rw [← List.append_assoc, ← List.append_assoc]; exact List.perm_middle))
   obtain ⟨b0, b1, b2, b3, d0, d1, d2, d3⟩ := HS.out.right.c4 (wr2.heap.size) 59 (.bool false) (.int .i64 0) (.slice none 0 0) (.slice none 0 0) (by simp)
   refine sk_ (hK.out _ _ ?_)
   clear hK K b0 b1 b2 b3 d0 d1 d2 d3
   obtain ⟨wr4, hW, hvv⟩ : ∃ wr4, wr4 = _ ∧ Hv w0 wr4 ((A2 ++ A1) ++ (cb (wr2.heap.size) 59 #[.bool n.leaf, .int .i64 1, .slice adk bk.length ck, .slice adr br.length cr] :: cb (w.heap.size + 1 + 1) 59 #[.bool false, .int .i64 0, .slice none 0 0, .slice none 0 0] :: cb (w.heap.size + 1) 59 #[.bool false, .int .i64 0, .slice none 0 0, .slice none 0 0] :: cb w.heap.size 59 #[.bool n.leaf, .int .i64 n.ver, .slice (some ad) n.keys.length kc, .slice ra n.refs.length rc] :: L)) := ⟨_, rfl, (Hv.putA0 (Hv.putA0 (Hv.putA0 (Hv.putA0 HS.out 0 (.bool n.leaf) rfl) 1 (.int .i64 1) rfl) 2 (.slice adk bk.length ck) rfl) 3 (.slice adr br.length cr) rfl)⟩
   rw [← hW]
   have HR4 := As hvv
   clear hW hvv HS
   refine done_ (by kernel_rfl) ?_
   obtain ⟨sk, hsk⟩ : ∃ sk, (if kc = h then some ad else some (ad.add h)) = sk := ⟨_, rfl⟩
   obtain ⟨sr, hsr⟩ : ∃ sr, (if rc = h then ra else Option.map (fun x => x.add (h * 2)) ra) = sr := ⟨_, rfl⟩
   rw [hsk, hsr]
   clear hsk hsr
   obtain ⟨y0, y1, y2, y3, f0, f1, f2, f3⟩ := HR4.out.right.c4 w.heap.size 59 (.bool n.leaf) (.int .i64 n.ver) (.slice (some ad) n.keys.length kc) (.slice ra n.refs.length rc) (by simp)
   obtain ⟨t0, t1, t2, t3, h0, h1, h2, h3⟩ := HR4.out.right.c4 (w.heap.size + 1) 59 (.bool false) (.int .i64 0) (.slice none 0 0) (.slice none 0 0) (by simp)
   obtain ⟨q0, q1, q2, q3, g0, g1, g2, g3⟩ := HR4.out.right.c4 (w.heap.size + 1 + 1) 59 (.bool false) (.int .i64 0) (.slice none 0 0) (.slice none 0 0) (by simp)
   obtain ⟨b0, b1, b2, b3, d0, d1, d2, d3⟩ := HR4.out.right.c4 (wr2.heap.size) 59 (.bool n.leaf) (.int .i64 1) (.slice adk bk.length ck) (.slice adr br.length cr) (by simp)
   have hlf := HLF.out
   go_upto_region 7 with (fail)
   clear hlf
   go_upto_region 8 with (fail)
   have z0 := RP.out _ _ HR4.out (fun x hx => by first | (simp [hx]; done) | (simp [HRL.out x hx]; done))
   go_upto_region 9 with (fail)
   clear z0
   clear y0 y1 y2 y3 f0 f1 f2 f3 q0 q1 q2 q3 g0 g1 g2 g3 t0 t1 t2 t3 h0 h1 h2 h3
   clear b0 b1 b2 b3 d0 d1 d2 d3
   have H9d := As HR4.out.drew
   refine start_ (n := 14) (S := fun w' => w'.cell? ⟨w.heap.size, 0, none⟩ = some (.bool n.leaf) ∧ w'.cell? ⟨w.heap.size, 1, none⟩ = some (.int .i64 n.ver) ∧ w'.cell? ⟨w.heap.size, 2, none⟩ = some (.slice (some ad) n.keys.length kc) ∧ w'.cell? ⟨w.heap.size, 3, none⟩ = some (.slice ra n.refs.length rc)) (ds := [11, 13]) #[false, false, false, false, false, false, false, false, false, false, false, false, false, false] (by kernel_rfl) rfl rfl (SP.out _ _ H9d.out (by simp)) (fun hHeld => ?_)
   generalize wr4.drew = wr5 at H9d hHeld ⊢
   refine pu_ 0 (some 52) ?_
   refine pu_ 2 (some 54) ?_
   refine pu_ 5 (some 57) ?_
   refine pu_ 7 (some 59) ?_
   refine ta_ 1 (some 53) hHeld ?_ (hy := Or.inl ⟨by rfl, by rintro w' ⟨s0, s1, s2, s3⟩; go_simp; with_reducible rfl⟩)
   refine pu_ 3 (some 55) ?_
   refine ta_ 6 (some 58) hHeld ?_ (hy := Or.inl ⟨by rfl, by rintro w' ⟨s0, s1, s2, s3⟩; go_simp; with_reducible rfl⟩)
   refine pu_ 8 (some 60) ?_
   refine on_ 4 (some 56) fun K hK => ?_
   refine gs_ Try.func105 #[.slice (some ad) kp kc, .slice none 0 0] ?_
   refine (copS.calls (w0 := w0) (a1 := none) (n1 := 0) (c1 := 0) (ys := []) H9d.out ((HR.out.k.take kp HQ2.out.1).mono (fun p hp => by first | (simp [hp]; done) | (simp [HRL.out p hp]; done))) (Rdy.nil 1 none) (fun u hu => kcel_one _ u (List.mem_of_mem_take hu)) (by intro u hu; cases hu) HQ2.out.2.1).mono ?_
   rintro e wr6 hq5
   obtain ⟨adk2, ck2, A6, rfl, hG, hv5⟩ := hq5
   rw [HNR2.out.2.2.1] at hG ⊢
   refine ⟨_, rfl, ?_⟩
   have HGk2 := As hG
   have HR6 := As (show Hv w0 wr6 (A6 ++ ((A2 ++ A1) ++ (cb (wr2.heap.size) 59 #[.bool n.leaf, .int .i64 1, .slice adk bk.length ck, .slice adr br.length cr] :: cb (w.heap.size + 1 + 1) 59 #[.bool false, .int .i64 0, .slice none 0 0, .slice none 0 0] :: cb (w.heap.size + 1) 59 #[.bool false, .int .i64 0, .slice none 0 0, .slice none 0 0] :: cb w.heap.size 59 #[.bool n.leaf, .int .i64 n.ver, .slice (some ad) n.keys.length kc, .slice ra n.refs.length rc] :: L))) from hv5)
   clear hG hv5
   refine hK.out _ _ (SP.out _ _ HR6.out (by simp)) (fun hHeld => ?_)
   clear hK K
   refine nm_ ?_
   refine pu_ 10 (some 62) ?_
   refine on_ 9 (some 61) fun K hK => ?_
   refine gs_ Try.func106 #[.slice ra h rc, .slice none 0 0] ?_
   refine (copR.calls (w0 := w0) (a1 := none) (n1 := 0) (c1 := 0) (ys := []) HR6.out ((HR.out.r.take h HQ.out.2.1).mono (fun p hp => by first | (simp [hp]; done) | (simp [HRL.out p hp]; done))) (Rdy.nil 2 none) (fun u hu => rcel_one _ u (List.mem_of_mem_take hu)) (by intro u hu; cases hu) HQ2.out.2.2).mono ?_
   rintro e wr7 hq5
   obtain ⟨adr2, cr2, A7, rfl, hG, hv5⟩ := hq5
   rw [HNR2.out.2.2.2] at hG ⊢
   refine ⟨_, rfl, ?_⟩
   have HGr2 := As hG
   have HR7 := As (show Hv w0 wr7 (A7 ++ (A6 ++ ((A2 ++ A1) ++ (cb (wr2.heap.size) 59 #[.bool n.leaf, .int .i64 1, .slice adk bk.length ck, .slice adr br.length cr] :: cb (w.heap.size + 1 + 1) 59 #[.bool false, .int .i64 0, .slice none 0 0, .slice none 0 0] :: cb (w.heap.size + 1) 59 #[.bool false, .int .i64 0, .slice none 0 0, .slice none 0 0] :: cb w.heap.size 59 #[.bool n.leaf, .int .i64 n.ver, .slice (some ad) n.keys.length kc, .slice ra n.refs.length rc] :: L)))) from hv5)
   clear hG hv5
   refine hK.out _ _ (SP.out _ _ HR7.out (by simp)) (fun hHeld => ?_)
   clear hK K
   refine nm_ ?_
   refine la_ 11 none fun K hK => ?_
   have HS := As (show Hv w0 wr7 (((A7 ++ A6) ++ (A2 ++ A1)) ++ (cb (wr2.heap.size) 59 #[.bool n.leaf, .int .i64 1, .slice adk bk.length ck, .slice adr br.length cr] :: cb (w.heap.size + 1 + 1) 59 #[.bool false, .int .i64 0, .slice none 0 0, .slice none 0 0] :: cb (w.heap.size + 1) 59 #[.bool false, .int .i64 0, .slice none 0 0, .slice none 0 0] :: cb w.heap.size 59 #[.bool n.leaf, .int .i64 n.ver, .slice (some ad) n.keys.length kc, .slice ra n.refs.length rc] :: L)) by have h9 := HR7.out; simpa only [List.append_assoc] using h9)
   obtain ⟨y0, y1, y2, y3, f0, f1, f2, f3⟩ := HS.out.right.c4 w.heap.size 59 (.bool n.leaf) (.int .i64 n.ver) (.slice (some ad) n.keys.length kc) (.slice ra n.refs.length rc) (by simp)
   refine sk_ (hK.out _ _ ?_)
   clear hK K y0 y1 y2 y3 f0 f1 f2 f3
   obtain ⟨wr8, hW, hvv⟩ : ∃ wr8, wr8 = wr7.setCell ⟨w.heap.size, 2, none⟩ (.slice adk2 nk.length ck2) ∧ Hv w0 wr8 (((A7 ++ A6) ++ (A2 ++ A1)) ++ (cb (wr2.heap.size) 59 #[.bool n.leaf, .int .i64 1, .slice adk bk.length ck, .slice adr br.length cr] :: cb (w.heap.size + 1 + 1) 59 #[.bool false, .int .i64 0, .slice none 0 0, .slice none 0 0] :: cb (w.heap.size + 1) 59 #[.bool false, .int .i64 0, .slice none 0 0, .slice none 0 0] :: cb w.heap.size 59 #[.bool n.leaf, .int .i64 n.ver, .slice adk2 nk.length ck2, .slice ra n.refs.length rc] :: L)) := ⟨_, rfl, putA3 HS.out 2 _ rfl⟩
   rw [← hW]
   have HR8 := As hvv
   clear hW hvv
   refine pu_ 12 (some 63) ?_
   refine la_ 13 none fun K hK => ?_
   obtain ⟨y0, y1, y2, y3, f0, f1, f2, f3⟩ := HR8.out.right.c4 w.heap.size 59 (.bool n.leaf) (.int .i64 n.ver) (.slice adk2 nk.length ck2) (.slice ra n.refs.length rc) (by simp)
   refine sk_ (hK.out _ _ ?_)
   clear hK K y0 y1 y2 y3 f0 f1 f2 f3
   obtain ⟨wr9, hW, hvv⟩ : ∃ wr9, wr9 = wr8.setCell ⟨w.heap.size, 3, none⟩ (.slice adr2 nr.length cr2) ∧ Hv w0 wr9 (((A7 ++ A6) ++ (A2 ++ A1)) ++ (cb (wr2.heap.size) 59 #[.bool n.leaf, .int .i64 1, .slice adk bk.length ck, .slice adr br.length cr] :: cb (w.heap.size + 1 + 1) 59 #[.bool false, .int .i64 0, .slice none 0 0, .slice none 0 0] :: cb (w.heap.size + 1) 59 #[.bool false, .int .i64 0, .slice none 0 0, .slice none 0 0] :: cb w.heap.size 59 #[.bool n.leaf, .int .i64 n.ver, .slice adk2 nk.length ck2, .slice adr2 nr.length cr2] :: L)) := ⟨_, rfl, putA3 HR8.out 3 _ rfl⟩
   rw [← hW]
   have HR9 := As hvv
   clear hW hvv
   refine done_ (by kernel_rfl) ?_
   obtain ⟨y0, y1, y2, y3, f0, f1, f2, f3⟩ := HR9.out.right.c4 w.heap.size 59 (.bool n.leaf) (.int .i64 n.ver) (.slice adk2 nk.length ck2) (.slice adr2 nr.length cr2) (by simp)
   obtain ⟨t0, t1, t2, t3, h0, h1, h2, h3⟩ := HR9.out.right.c4 (w.heap.size + 1) 59 (.bool false) (.int .i64 0) (.slice none 0 0) (.slice none 0 0) (by simp)
   obtain ⟨q0, q1, q2, q3, g0, g1, g2, g3⟩ := HR9.out.right.c4 (w.heap.size + 1 + 1) 59 (.bool false) (.int .i64 0) (.slice none 0 0) (.slice none 0 0) (by simp)
   obtain ⟨b0, b1, b2, b3, d0, d1, d2, d3⟩ := HR9.out.right.c4 (wr2.heap.size) 59 (.bool n.leaf) (.int .i64 1) (.slice adk bk.length ck) (.slice adr br.length cr) (by simp)
   go_upto_region 11 with (fail)
   obtain ⟨wv, hW, hvv⟩ : ∃ wv, wv = wr9.setCell ⟨w.heap.size, 1, none⟩ (.int .i64 (wrap64 (n.ver + 1))) ∧ Hv w0 wv (((A7 ++ A6) ++ (A2 ++ A1)) ++ (cb (wr2.heap.size) 59 #[.bool n.leaf, .int .i64 1, .slice adk bk.length ck, .slice adr br.length cr] :: cb (w.heap.size + 1 + 1) 59 #[.bool false, .int .i64 0, .slice none 0 0, .slice none 0 0] :: cb (w.heap.size + 1) 59 #[.bool false, .int .i64 0, .slice none 0 0, .slice none 0 0] :: cb w.heap.size 59 #[.bool n.leaf, .int .i64 (wrap64 (n.ver + 1)), .slice adk2 nk.length ck2, .slice adr2 nr.length cr2] :: L)) := ⟨_, rfl, putA3 HR9.out 1 _ rfl⟩
   rw [← hW]
   have HV9 := As hvv
   clear hW
   clear y0 y1 y2 y3 f0 f1 f2 f3 q0 q1 q2 q3 g0 g1 g2 g3 t0 t1 t2 t3 h0 h1 h2 h3
   clear b0 b1 b2 b3 d0 d1 d2 d3
   obtain ⟨y0, y1, y2, y3, f0, f1, f2, f3⟩ := hvv.right.c4 w.heap.size 59 (.bool n.leaf) (.int .i64 (wrap64 (n.ver + 1))) (.slice adk2 nk.length ck2) (.slice adr2 nr.length cr2) (by simp)
   obtain ⟨t0, t1, t2, t3, h0, h1, h2, h3⟩ := hvv.right.c4 (w.heap.size + 1) 59 (.bool false) (.int .i64 0) (.slice none 0 0) (.slice none 0 0) (by simp)
   obtain ⟨q0, q1, q2, q3, g0, g1, g2, g3⟩ := hvv.right.c4 (w.heap.size + 1 + 1) 59 (.bool false) (.int .i64 0) (.slice none 0 0) (.slice none 0 0) (by simp)
   obtain ⟨b0, b1, b2, b3, d0, d1, d2, d3⟩ := hvv.right.c4 (wr2.heap.size) 59 (.bool n.leaf) (.int .i64 1) (.slice adk bk.length ck) (.slice adr br.length cr) (by simp)
   have x1 := hvv.right.apart (i := 0) (j := 1) rfl rfl (by decide)
   have x2 := hvv.right.apart (i := 0) (j := 2) rfl rfl (by decide)
   have x3 := hvv.right.apart (i := 0) (j := 3) rfl rfl (by decide)
   have x4 := hvv.right.apart (i := 1) (j := 0) rfl rfl (by decide)
   have x5 := hvv.right.apart (i := 2) (j := 0) rfl rfl (by decide)
   have x6 := hvv.right.apart (i := 3) (j := 0) rfl rfl (by decide)
   simp only [cb] at x1 x2 x3 x4 x5 x6
   clear hvv
   go_region
   go_wp2_with fail
   have hgk : Gr 9 1 (.slice adk bk.length ck) bk.length (bk.map Value.string) A1 := by
    have h9 := HGk.out
    rw [HNR.out.1] at h9 ⊢
    simpa using h9
   have hgr : Gr 33 2 (.slice adr br.length cr) br.length (br.flatMap rcel) A2 := by
    have h9 := HGr.out
    rw [rcel_drop] at h9
    rw [HNR.out.2.1] at h9 ⊢
    simpa using h9
   have hgk2 : Gr 9 1 (.slice adk2 nk.length ck2) nk.length (nk.map Value.string) A6 := by
    have h9 := HGk2.out
    rw [HNR2.out.1] at h9 ⊢
    simpa using h9
   have hgr2 : Gr 33 2 (.slice adr2 nr.length cr2) nr.length (nr.flatMap rcel) A7 := by
    have h9 := HGr2.out
    rw [rcel_take] at h9
    rw [HNR2.out.2.1] at h9 ⊢
    simpa using h9
   have HGR := As (And.intro (And.intro hgk hgr) (And.intro hgk2 hgr2))
   clear hgk hgr hgk2 hgr2
   obtain ⟨wg, hw, hg⟩ : ∃ wg, wg = _ ∧ Hv w0 wg (((A7 ++ A6) ++ (A2 ++ A1)) ++ (cb (wr2.heap.size) 59 #[.bool n.leaf, .int .i64 1, .slice adk bk.length ck, .slice adr br.length cr] :: cb (w.heap.size + 1 + 1) 59 #[.bool n.leaf, .int .i64 1, .slice adk bk.length ck, .slice adr br.length cr] :: cb (w.heap.size + 1) 59 #[.bool n.leaf, .int .i64 (wrap64 (n.ver + 1)), .slice adk2 nk.length ck2, .slice adr2 nr.length cr2] :: cb w.heap.size 59 #[.bool n.leaf, .int .i64 (wrap64 (n.ver + 1)), .slice adk2 nk.length ck2, .slice adr2 nr.length cr2] :: L)) := ⟨_, rfl, (Hv.putA1 (Hv.putA1 (Hv.putA1 (Hv.putA1 (putA2 (putA2 (putA2 (putA2 HV9.out 0 (.bool n.leaf) rfl) 1 (.int .i64 (wrap64 (n.ver + 1))) rfl) 2 (.slice adk2 nk.length ck2) rfl) 3 (.slice adr2 nr.length cr2) rfl) 0 (.bool n.leaf) rfl) 1 (.int .i64 1) rfl) 2 (.slice adk bk.length ck) rfl) 3 (.slice adr br.length cr) rfl)⟩
   rw [← hw]
   obtain ⟨e0, e1, e2, e3, -, -, -, -⟩ := hg.right.c4 (w.heap.size + 1) 59 (.bool n.leaf) (.int .i64 (wrap64 (n.ver + 1))) (.slice adk2 nk.length ck2) (.slice adr2 nr.length cr2) (by simp)
   obtain ⟨e4, e5, e6, e7, -, -, -, -⟩ := hg.right.c4 (w.heap.size + 1 + 1) 59 (.bool n.leaf) (.int .i64 1) (.slice adk bk.length ck) (.slice adr br.length cr) (by simp)
   exact bodyPost_ret (v := .tuple #[.agg #[.bool n.leaf, .int .i64 (wrap64 (n.ver + 1)), .slice adk2 nk.length ck2, .slice adr2 nr.length cr2], .string mid, .agg #[.bool n.leaf, .int .i64 1, .slice adk bk.length ck, .slice adr br.length cr]]) (by simp [results, Try.results51, go_sem, e0, e1, e2, e3, e4, e5, e6, e7, hu59]) rfl ⟨_, _, ((A7 ++ A6) ++ (A2 ++ A1)), by rw [HF.out], by rw [HF.out, ← HNR2.out.1, ← HNR2.out.2.1]; exact ⟨adk2, ck2, adr2, cr2, rfl, (Rdy.of_rw (Rw.of_gr HGR.out.2.1)).mono (fun p hp => by first | (simp [hp]; done) | (simp [HRL.out p hp]; done)), (Rdy.of_rw (Rw.of_gr HGR.out.2.2)).mono (fun p hp => by first | (simp [hp]; done) | (simp [HRL.out p hp]; done)), (Rw.of_gr HGR.out.2.1).2.1, (Rw.of_gr HGR.out.2.2).2.1⟩, by rw [HF.out, ← HNR.out.1, ← HNR.out.2.1]; exact ⟨adk, ck, adr, cr, rfl, (Rdy.of_rw (Rw.of_gr HGR.out.1.1)).mono (fun p hp => by first | (simp [hp]; done) | (simp [HRL.out p hp]; done)), (Rdy.of_rw (Rw.of_gr HGR.out.1.2)).mono (fun p hp => by first | (simp [hp]; done) | (simp [HRL.out p hp]; done)), (Rw.of_gr HGR.out.1.1).2.1, (Rw.of_gr HGR.out.1.2).2.1⟩, (hg.drop (List.Sublist.append_left ((List.sublist_cons_self _ _).trans ((List.sublist_cons_self _ _).trans ((List.sublist_cons_self _ _).trans (List.sublist_cons_self _ _)))) ((A7 ++ A6) ++ (A2 ++ A1)))).drew⟩
  ·refine value_ (v := .pointer (some ⟨wr1.heap.size, 0, none⟩)) (w1 := wr1.alloc (.cells #[.bool false, .int .i64 0, .slice none 0 0, .slice none 0 0] 59)) (by rfl) rfl ?_ ?_
   ·go_simp
   obtain ⟨wr2, hW, hvv⟩ : ∃ wr2, wr2 = wr1.alloc (.cells #[.bool false, .int .i64 0, .slice none 0 0, .slice none 0 0] 59) ∧ Hv w0 wr2 (cb wr1.heap.size 59 #[.bool false, .int .i64 0, .slice none 0 0, .slice none 0 0] :: A1 ++ (cb (w.heap.size + 1 + 1) 59 #[.bool false, .int .i64 0, .slice none 0 0, .slice none 0 0] :: cb (w.heap.size + 1) 59 #[.bool false, .int .i64 0, .slice none 0 0, .slice none 0 0] :: cb w.heap.size 59 #[.bool n.leaf, .int .i64 n.ver, .slice (some ad) n.keys.length kc, .slice ra n.refs.length rc] :: L)) := ⟨_, rfl, HR1.out.alloc _⟩
   rw [← hW]
   have HR2 := As hvv
   clear hW hvv
   refine hK.out _ _ (SP.out _ _ HR2.out (by simp)) (fun hHeld => ?_)
   clear hK K
   refine nm_ ?_
   refine on_ 11 (some 39) fun K hK => ?_
   refine gs_ Try.func106 #[.slice (if rc = h then ra else ra.map (·.add (h * 2))) (n.refs.length - h) (rc - h), .slice none 0 0] ?_
   refine (copR.calls (w0 := w0) (a1 := none) (n1 := 0) (c1 := 0) (ys := []) HR2.out ((HR.out.r.drop h HQ.out.2.1 HR.out.rc).mono (fun p hp => by first | (simp [hp]; done) | (simp [HRL.out p hp]; done))) (Rdy.nil 2 none) (fun u hu => rcel_one _ u (List.mem_of_mem_drop hu)) (by intro u hu; cases hu) HQ.out.2.2.2).mono ?_
   rintro e wr3 hq5
   obtain ⟨adr, cr, A3, rfl, hG, hv5⟩ := hq5
   rw [HNR.out.2.2.2.1] at hG ⊢
   refine ⟨_, rfl, ?_⟩
   have HGr := As hG
   have HR3 := As (show Hv w0 wr3 (A3 ++ (cb wr1.heap.size 59 #[.bool false, .int .i64 0, .slice none 0 0, .slice none 0 0] :: A1 ++ (cb (w.heap.size + 1 + 1) 59 #[.bool false, .int .i64 0, .slice none 0 0, .slice none 0 0] :: cb (w.heap.size + 1) 59 #[.bool false, .int .i64 0, .slice none 0 0, .slice none 0 0] :: cb w.heap.size 59 #[.bool n.leaf, .int .i64 n.ver, .slice (some ad) n.keys.length kc, .slice ra n.refs.length rc] :: L))) from hv5)
   clear hG hv5
   refine hK.out _ _ (SP.out _ _ HR3.out (by simp)) (fun hHeld => ?_)
   clear hK K
   refine nm_ ?_
   refine pu_ 12 (some 40) ?_
   refine la_ 14 none fun K hK => ?_
   have HS := As (show Hv w0 wr3 ((A3 ++ A1) ++ (cb (wr1.heap.size) 59 #[.bool false, .int .i64 0, .slice none 0 0, .slice none 0 0] :: cb (w.heap.size + 1 + 1) 59 #[.bool false, .int .i64 0, .slice none 0 0, .slice none 0 0] :: cb (w.heap.size + 1) 59 #[.bool false, .int .i64 0, .slice none 0 0, .slice none 0 0] :: cb w.heap.size 59 #[.bool n.leaf, .int .i64 n.ver, .slice (some ad) n.keys.length kc, .slice ra n.refs.length rc] :: L)) from by rw [List.append_assoc]; exact HR3.out.perm (List.Perm.append_left _ List.perm_middle))
   obtain ⟨b0, b1, b2, b3, d0, d1, d2, d3⟩ := HS.out.right.c4 (wr1.heap.size) 59 (.bool false) (.int .i64 0) (.slice none 0 0) (.slice none 0 0) (by simp)
   refine sk_ (hK.out _ _ ?_)
   clear hK K b0 b1 b2 b3 d0 d1 d2 d3
   obtain ⟨wr4, hW, hvv⟩ : ∃ wr4, wr4 = _ ∧ Hv w0 wr4 ((A3 ++ A1) ++ (cb (wr1.heap.size) 59 #[.bool n.leaf, .int .i64 1, .slice adk bk.length ck, .slice adr br.length cr] :: cb (w.heap.size + 1 + 1) 59 #[.bool false, .int .i64 0, .slice none 0 0, .slice none 0 0] :: cb (w.heap.size + 1) 59 #[.bool false, .int .i64 0, .slice none 0 0, .slice none 0 0] :: cb w.heap.size 59 #[.bool n.leaf, .int .i64 n.ver, .slice (some ad) n.keys.length kc, .slice ra n.refs.length rc] :: L)) := ⟨_, rfl, (Hv.putA0 (Hv.putA0 (Hv.putA0 (Hv.putA0 HS.out 0 (.bool n.leaf) rfl) 1 (.int .i64 1) rfl) 2 (.slice adk bk.length ck) rfl) 3 (.slice adr br.length cr) rfl)⟩
   rw [← hW]
   have HR4 := As hvv
   clear hW hvv HS
   refine done_ (by kernel_rfl) ?_
   obtain ⟨sk, hsk⟩ : ∃ sk, (if kc = h then some ad else some (ad.add h)) = sk := ⟨_, rfl⟩
   obtain ⟨sr, hsr⟩ : ∃ sr, (if rc = h then ra else Option.map (fun x => x.add (h * 2)) ra) = sr := ⟨_, rfl⟩
   rw [hsk, hsr]
   clear hsk hsr
   obtain ⟨y0, y1, y2, y3, f0, f1, f2, f3⟩ := HR4.out.right.c4 w.heap.size 59 (.bool n.leaf) (.int .i64 n.ver) (.slice (some ad) n.keys.length kc) (.slice ra n.refs.length rc) (by simp)
   obtain ⟨t0, t1, t2, t3, h0, h1, h2, h3⟩ := HR4.out.right.c4 (w.heap.size + 1) 59 (.bool false) (.int .i64 0) (.slice none 0 0) (.slice none 0 0) (by simp)
   obtain ⟨q0, q1, q2, q3, g0, g1, g2, g3⟩ := HR4.out.right.c4 (w.heap.size + 1 + 1) 59 (.bool false) (.int .i64 0) (.slice none 0 0) (.slice none 0 0) (by simp)
   obtain ⟨b0, b1, b2, b3, d0, d1, d2, d3⟩ := HR4.out.right.c4 (wr1.heap.size) 59 (.bool n.leaf) (.int .i64 1) (.slice adk bk.length ck) (.slice adr br.length cr) (by simp)
   have hlf := HLF.out
   go_upto_region 7 with (fail)
   clear hlf
   go_upto_region 8 with (fail)
   have z0 := RP.out _ _ HR4.out (fun x hx => by first | (simp [hx]; done) | (simp [HRL.out x hx]; done))
   go_upto_region 9 with (fail)
   clear z0
   clear y0 y1 y2 y3 f0 f1 f2 f3 q0 q1 q2 q3 g0 g1 g2 g3 t0 t1 t2 t3 h0 h1 h2 h3
   clear b0 b1 b2 b3 d0 d1 d2 d3
   have H9d := As HR4.out.drew
   refine start_ (n := 14) (S := fun w' => w'.cell? ⟨w.heap.size, 0, none⟩ = some (.bool n.leaf) ∧ w'.cell? ⟨w.heap.size, 1, none⟩ = some (.int .i64 n.ver) ∧ w'.cell? ⟨w.heap.size, 2, none⟩ = some (.slice (some ad) n.keys.length kc) ∧ w'.cell? ⟨w.heap.size, 3, none⟩ = some (.slice ra n.refs.length rc)) (ds := [11, 13]) #[false, false, false, false, false, false, false, false, false, false, false, false, false, false] (by kernel_rfl) rfl rfl (SP.out _ _ H9d.out (by simp)) (fun hHeld => ?_)
   generalize wr4.drew = wr5 at H9d hHeld ⊢
   refine pu_ 0 (some 52) ?_
   refine pu_ 2 (some 54) ?_
   refine pu_ 5 (some 57) ?_
   refine pu_ 7 (some 59) ?_
   refine ta_ 1 (some 53) hHeld ?_ (hy := Or.inl ⟨by rfl, by rintro w' ⟨s0, s1, s2, s3⟩; go_simp; with_reducible rfl⟩)
   refine pu_ 3 (some 55) ?_
   refine ta_ 6 (some 58) hHeld ?_ (hy := Or.inl ⟨by rfl, by rintro w' ⟨s0, s1, s2, s3⟩; go_simp; with_reducible rfl⟩)
   refine pu_ 8 (some 60) ?_
   refine on_ 4 (some 56) fun K hK => ?_
   refine gs_ Try.func105 #[.slice (some ad) kp kc, .slice none 0 0] ?_
   refine (copS.calls (w0 := w0) (a1 := none) (n1 := 0) (c1 := 0) (ys := []) H9d.out ((HR.out.k.take kp HQ2.out.1).mono (fun p hp => by first | (simp [hp]; done) | (simp [HRL.out p hp]; done))) (Rdy.nil 1 none) (fun u hu => kcel_one _ u (List.mem_of_mem_take hu)) (by intro u hu; cases hu) HQ2.out.2.1).mono ?_
   rintro e wr6 hq5
   obtain ⟨adk2, ck2, A6, rfl, hG, hv5⟩ := hq5
   rw [HNR2.out.2.2.1] at hG ⊢
   refine ⟨_, rfl, ?_⟩
   have HGk2 := As hG
   have HR6 := As (show Hv w0 wr6 (A6 ++ ((A3 ++ A1) ++ (cb (wr1.heap.size) 59 #[.bool n.leaf, .int .i64 1, .slice adk bk.length ck, .slice adr br.length cr] :: cb (w.heap.size + 1 + 1) 59 #[.bool false, .int .i64 0, .slice none 0 0, .slice none 0 0] :: cb (w.heap.size + 1) 59 #[.bool false, .int .i64 0, .slice none 0 0, .slice none 0 0] :: cb w.heap.size 59 #[.bool n.leaf, .int .i64 n.ver, .slice (some ad) n.keys.length kc, .slice ra n.refs.length rc] :: L))) from hv5)
   clear hG hv5
   refine hK.out _ _ (SP.out _ _ HR6.out (by simp)) (fun hHeld => ?_)
   clear hK K
   refine nm_ ?_
   refine pu_ 10 (some 62) ?_
   refine on_ 9 (some 61) fun K hK => ?_
   refine gs_ Try.func106 #[.slice ra h rc, .slice none 0 0] ?_
   refine (copR.calls (w0 := w0) (a1 := none) (n1 := 0) (c1 := 0) (ys := []) HR6.out ((HR.out.r.take h HQ.out.2.1).mono (fun p hp => by first | (simp [hp]; done) | (simp [HRL.out p hp]; done))) (Rdy.nil 2 none) (fun u hu => rcel_one _ u (List.mem_of_mem_take hu)) (by intro u hu; cases hu) HQ2.out.2.2).mono ?_
   rintro e wr7 hq5
   obtain ⟨adr2, cr2, A7, rfl, hG, hv5⟩ := hq5
   rw [HNR2.out.2.2.2] at hG ⊢
   refine ⟨_, rfl, ?_⟩
   have HGr2 := As hG
   have HR7 := As (show Hv w0 wr7 (A7 ++ (A6 ++ ((A3 ++ A1) ++ (cb (wr1.heap.size) 59 #[.bool n.leaf, .int .i64 1, .slice adk bk.length ck, .slice adr br.length cr] :: cb (w.heap.size + 1 + 1) 59 #[.bool false, .int .i64 0, .slice none 0 0, .slice none 0 0] :: cb (w.heap.size + 1) 59 #[.bool false, .int .i64 0, .slice none 0 0, .slice none 0 0] :: cb w.heap.size 59 #[.bool n.leaf, .int .i64 n.ver, .slice (some ad) n.keys.length kc, .slice ra n.refs.length rc] :: L)))) from hv5)
   clear hG hv5
   refine hK.out _ _ (SP.out _ _ HR7.out (by simp)) (fun hHeld => ?_)
   clear hK K
   refine nm_ ?_
   refine la_ 11 none fun K hK => ?_
   have HS := As (show Hv w0 wr7 (((A7 ++ A6) ++ (A3 ++ A1)) ++ (cb (wr1.heap.size) 59 #[.bool n.leaf, .int .i64 1, .slice adk bk.length ck, .slice adr br.length cr] :: cb (w.heap.size + 1 + 1) 59 #[.bool false, .int .i64 0, .slice none 0 0, .slice none 0 0] :: cb (w.heap.size + 1) 59 #[.bool false, .int .i64 0, .slice none 0 0, .slice none 0 0] :: cb w.heap.size 59 #[.bool n.leaf, .int .i64 n.ver, .slice (some ad) n.keys.length kc, .slice ra n.refs.length rc] :: L)) by have h9 := HR7.out; simpa only [List.append_assoc] using h9)
   obtain ⟨y0, y1, y2, y3, f0, f1, f2, f3⟩ := HS.out.right.c4 w.heap.size 59 (.bool n.leaf) (.int .i64 n.ver) (.slice (some ad) n.keys.length kc) (.slice ra n.refs.length rc) (by simp)
   refine sk_ (hK.out _ _ ?_)
   clear hK K y0 y1 y2 y3 f0 f1 f2 f3
   obtain ⟨wr8, hW, hvv⟩ : ∃ wr8, wr8 = wr7.setCell ⟨w.heap.size, 2, none⟩ (.slice adk2 nk.length ck2) ∧ Hv w0 wr8 (((A7 ++ A6) ++ (A3 ++ A1)) ++ (cb (wr1.heap.size) 59 #[.bool n.leaf, .int .i64 1, .slice adk bk.length ck, .slice adr br.length cr] :: cb (w.heap.size + 1 + 1) 59 #[.bool false, .int .i64 0, .slice none 0 0, .slice none 0 0] :: cb (w.heap.size + 1) 59 #[.bool false, .int .i64 0, .slice none 0 0, .slice none 0 0] :: cb w.heap.size 59 #[.bool n.leaf, .int .i64 n.ver, .slice adk2 nk.length ck2, .slice ra n.refs.length rc] :: L)) := ⟨_, rfl, putA3 HS.out 2 _ rfl⟩
   rw [← hW]
   have HR8 := As hvv
   clear hW hvv
   refine pu_ 12 (some 63) ?_
   refine la_ 13 none fun K hK => ?_
   obtain ⟨y0, y1, y2, y3, f0, f1, f2, f3⟩ := HR8.out.right.c4 w.heap.size 59 (.bool n.leaf) (.int .i64 n.ver) (.slice adk2 nk.length ck2) (.slice ra n.refs.length rc) (by simp)
   refine sk_ (hK.out _ _ ?_)
   clear hK K y0 y1 y2 y3 f0 f1 f2 f3
   obtain ⟨wr9, hW, hvv⟩ : ∃ wr9, wr9 = wr8.setCell ⟨w.heap.size, 3, none⟩ (.slice adr2 nr.length cr2) ∧ Hv w0 wr9 (((A7 ++ A6) ++ (A3 ++ A1)) ++ (cb (wr1.heap.size) 59 #[.bool n.leaf, .int .i64 1, .slice adk bk.length ck, .slice adr br.length cr] :: cb (w.heap.size + 1 + 1) 59 #[.bool false, .int .i64 0, .slice none 0 0, .slice none 0 0] :: cb (w.heap.size + 1) 59 #[.bool false, .int .i64 0, .slice none 0 0, .slice none 0 0] :: cb w.heap.size 59 #[.bool n.leaf, .int .i64 n.ver, .slice adk2 nk.length ck2, .slice adr2 nr.length cr2] :: L)) := ⟨_, rfl, putA3 HR8.out 3 _ rfl⟩
   rw [← hW]
   have HR9 := As hvv
   clear hW hvv
   refine done_ (by kernel_rfl) ?_
   obtain ⟨y0, y1, y2, y3, f0, f1, f2, f3⟩ := HR9.out.right.c4 w.heap.size 59 (.bool n.leaf) (.int .i64 n.ver) (.slice adk2 nk.length ck2) (.slice adr2 nr.length cr2) (by simp)
   obtain ⟨t0, t1, t2, t3, h0, h1, h2, h3⟩ := HR9.out.right.c4 (w.heap.size + 1) 59 (.bool false) (.int .i64 0) (.slice none 0 0) (.slice none 0 0) (by simp)
   obtain ⟨q0, q1, q2, q3, g0, g1, g2, g3⟩ := HR9.out.right.c4 (w.heap.size + 1 + 1) 59 (.bool false) (.int .i64 0) (.slice none 0 0) (.slice none 0 0) (by simp)
   obtain ⟨b0, b1, b2, b3, d0, d1, d2, d3⟩ := HR9.out.right.c4 (wr1.heap.size) 59 (.bool n.leaf) (.int .i64 1) (.slice adk bk.length ck) (.slice adr br.length cr) (by simp)
   go_upto_region 11 with (fail)
   obtain ⟨wv, hW, hvv⟩ : ∃ wv, wv = wr9.setCell ⟨w.heap.size, 1, none⟩ (.int .i64 (wrap64 (n.ver + 1))) ∧ Hv w0 wv (((A7 ++ A6) ++ (A3 ++ A1)) ++ (cb (wr1.heap.size) 59 #[.bool n.leaf, .int .i64 1, .slice adk bk.length ck, .slice adr br.length cr] :: cb (w.heap.size + 1 + 1) 59 #[.bool false, .int .i64 0, .slice none 0 0, .slice none 0 0] :: cb (w.heap.size + 1) 59 #[.bool false, .int .i64 0, .slice none 0 0, .slice none 0 0] :: cb w.heap.size 59 #[.bool n.leaf, .int .i64 (wrap64 (n.ver + 1)), .slice adk2 nk.length ck2, .slice adr2 nr.length cr2] :: L)) := ⟨_, rfl, putA3 HR9.out 1 _ rfl⟩
   rw [← hW]
   have HV9 := As hvv
   clear hW
   clear y0 y1 y2 y3 f0 f1 f2 f3 q0 q1 q2 q3 g0 g1 g2 g3 t0 t1 t2 t3 h0 h1 h2 h3
   clear b0 b1 b2 b3 d0 d1 d2 d3
   obtain ⟨y0, y1, y2, y3, f0, f1, f2, f3⟩ := hvv.right.c4 w.heap.size 59 (.bool n.leaf) (.int .i64 (wrap64 (n.ver + 1))) (.slice adk2 nk.length ck2) (.slice adr2 nr.length cr2) (by simp)
   obtain ⟨t0, t1, t2, t3, h0, h1, h2, h3⟩ := hvv.right.c4 (w.heap.size + 1) 59 (.bool false) (.int .i64 0) (.slice none 0 0) (.slice none 0 0) (by simp)
   obtain ⟨q0, q1, q2, q3, g0, g1, g2, g3⟩ := hvv.right.c4 (w.heap.size + 1 + 1) 59 (.bool false) (.int .i64 0) (.slice none 0 0) (.slice none 0 0) (by simp)
   obtain ⟨b0, b1, b2, b3, d0, d1, d2, d3⟩ := hvv.right.c4 (wr1.heap.size) 59 (.bool n.leaf) (.int .i64 1) (.slice adk bk.length ck) (.slice adr br.length cr) (by simp)
   have x1 := hvv.right.apart (i := 0) (j := 1) rfl rfl (by decide)
   have x2 := hvv.right.apart (i := 0) (j := 2) rfl rfl (by decide)
   have x3 := hvv.right.apart (i := 0) (j := 3) rfl rfl (by decide)
   have x4 := hvv.right.apart (i := 1) (j := 0) rfl rfl (by decide)
   have x5 := hvv.right.apart (i := 2) (j := 0) rfl rfl (by decide)
   have x6 := hvv.right.apart (i := 3) (j := 0) rfl rfl (by decide)
   simp only [cb] at x1 x2 x3 x4 x5 x6
   clear hvv
   go_region
   go_wp2_with fail
   have hgk : Gr 9 1 (.slice adk bk.length ck) bk.length (bk.map Value.string) A1 := by
    have h9 := HGk.out
    rw [HNR.out.1] at h9 ⊢
    simpa using h9
   have hgr : Gr 33 2 (.slice adr br.length cr) br.length (br.flatMap rcel) A3 := by
    have h9 := HGr.out
    rw [rcel_drop] at h9
    rw [HNR.out.2.1] at h9 ⊢
    simpa using h9
   have hgk2 : Gr 9 1 (.slice adk2 nk.length ck2) nk.length (nk.map Value.string) A6 := by
    have h9 := HGk2.out
    rw [HNR2.out.1] at h9 ⊢
    simpa using h9
   have hgr2 : Gr 33 2 (.slice adr2 nr.length cr2) nr.length (nr.flatMap rcel) A7 := by
    have h9 := HGr2.out
    rw [rcel_take] at h9
    rw [HNR2.out.2.1] at h9 ⊢
    simpa using h9
   have HGR := As (And.intro (And.intro hgk hgr) (And.intro hgk2 hgr2))
   clear hgk hgr hgk2 hgr2
   obtain ⟨wg, hw, hg⟩ : ∃ wg, wg = _ ∧ Hv w0 wg (((A7 ++ A6) ++ (A3 ++ A1)) ++ (cb (wr1.heap.size) 59 #[.bool n.leaf, .int .i64 1, .slice adk bk.length ck, .slice adr br.length cr] :: cb (w.heap.size + 1 + 1) 59 #[.bool n.leaf, .int .i64 1, .slice adk bk.length ck, .slice adr br.length cr] :: cb (w.heap.size + 1) 59 #[.bool n.leaf, .int .i64 (wrap64 (n.ver + 1)), .slice adk2 nk.length ck2, .slice adr2 nr.length cr2] :: cb w.heap.size 59 #[.bool n.leaf, .int .i64 (wrap64 (n.ver + 1)), .slice adk2 nk.length ck2, .slice adr2 nr.length cr2] :: L)) := ⟨_, rfl, (Hv.putA1 (Hv.putA1 (Hv.putA1 (Hv.putA1 (putA2 (putA2 (putA2 (putA2 HV9.out 0 (.bool n.leaf) rfl) 1 (.int .i64 (wrap64 (n.ver + 1))) rfl) 2 (.slice adk2 nk.length ck2) rfl) 3 (.slice adr2 nr.length cr2) rfl) 0 (.bool n.leaf) rfl) 1 (.int .i64 1) rfl) 2 (.slice adk bk.length ck) rfl) 3 (.slice adr br.length cr) rfl)⟩
   rw [← hw]
   obtain ⟨e0, e1, e2, e3, -, -, -, -⟩ := hg.right.c4 (w.heap.size + 1) 59 (.bool n.leaf) (.int .i64 (wrap64 (n.ver + 1))) (.slice adk2 nk.length ck2) (.slice adr2 nr.length cr2) (by simp)
   obtain ⟨e4, e5, e6, e7, -, -, -, -⟩ := hg.right.c4 (w.heap.size + 1 + 1) 59 (.bool n.leaf) (.int .i64 1) (.slice adk bk.length ck) (.slice adr br.length cr) (by simp)
   exact bodyPost_ret (v := .tuple #[.agg #[.bool n.leaf, .int .i64 (wrap64 (n.ver + 1)), .slice adk2 nk.length ck2, .slice adr2 nr.length cr2], .string mid, .agg #[.bool n.leaf, .int .i64 1, .slice adk bk.length ck, .slice adr br.length cr]]) (by simp [results, Try.results51, go_sem, e0, e1, e2, e3, e4, e5, e6, e7, hu59]) rfl ⟨_, _, ((A7 ++ A6) ++ (A3 ++ A1)), by rw [HF.out], by rw [HF.out, ← HNR2.out.1, ← HNR2.out.2.1]; exact ⟨adk2, ck2, adr2, cr2, rfl, (Rdy.of_rw (Rw.of_gr HGR.out.2.1)).mono (fun p hp => by first | (simp [hp]; done) | (simp [HRL.out p hp]; done)), (Rdy.of_rw (Rw.of_gr HGR.out.2.2)).mono (fun p hp => by first | (simp [hp]; done) | (simp [HRL.out p hp]; done)), (Rw.of_gr HGR.out.2.1).2.1, (Rw.of_gr HGR.out.2.2).2.1⟩, by rw [HF.out, ← HNR.out.1, ← HNR.out.2.1]; exact ⟨adk, ck, adr, cr, rfl, (Rdy.of_rw (Rw.of_gr HGR.out.1.1)).mono (fun p hp => by first | (simp [hp]; done) | (simp [HRL.out p hp]; done)), (Rdy.of_rw (Rw.of_gr HGR.out.1.2)).mono (fun p hp => by first | (simp [hp]; done) | (simp [HRL.out p hp]; done)), (Rw.of_gr HGR.out.1.1).2.1, (Rw.of_gr HGR.out.1.2).2.1⟩, (hg.drop (List.Sublist.append_left ((List.sublist_cons_self _ _).trans ((List.sublist_cons_self _ _).trans ((List.sublist_cons_self _ _).trans (List.sublist_cons_self _ _)))) ((A7 ++ A6) ++ (A3 ++ A1)))).drew⟩
 ·refine value_ (v := .pointer (some ⟨wr0.heap.size, 0, none⟩)) (w1 := wr0.alloc (.cells #[.bool false, .int .i64 0, .slice none 0 0, .slice none 0 0] 59)) (by rfl) rfl ?_ ?_
  ·go_simp
  obtain ⟨wr1, hW, hvv⟩ : ∃ wr1, wr1 = wr0.alloc (.cells #[.bool false, .int .i64 0, .slice none 0 0, .slice none 0 0] 59) ∧ Hv w0 wr1 (cb wr0.heap.size 59 #[.bool false, .int .i64 0, .slice none 0 0, .slice none 0 0] :: cb (w.heap.size + 1 + 1) 59 #[.bool false, .int .i64 0, .slice none 0 0, .slice none 0 0] :: cb (w.heap.size + 1) 59 #[.bool false, .int .i64 0, .slice none 0 0, .slice none 0 0] :: cb w.heap.size 59 #[.bool n.leaf, .int .i64 n.ver, .slice (some ad) n.keys.length kc, .slice ra n.refs.length rc] :: L) := ⟨_, rfl, H4d.out.alloc _⟩
  rw [← hW]
  have HR1 := As hvv
  clear hW hvv
  refine hK.out _ _ (SP.out _ _ HR1.out (by simp)) (fun hHeld => ?_)
  clear hK K
  refine nm_ ?_
  refine on_ 6 (some 34) fun K hK => ?_
  refine gs_ Try.func105 #[.slice (if kc = h then (some ad) else (some ad).map (·.add (h * 1))) (n.keys.length - h) (kc - h), .slice none 0 0] ?_
  refine (copS.calls (w0 := w0) (a1 := none) (n1 := 0) (c1 := 0) (ys := []) HR1.out ((HR.out.k.drop h HQ.out.1 HR.out.kc).mono (fun p hp => by first | (simp [hp]; done) | (simp [HRL.out p hp]; done))) (Rdy.nil 1 none) (fun u hu => kcel_one _ u (List.mem_of_mem_drop hu)) (by intro u hu; cases hu) HQ.out.2.2.1).mono ?_
  rintro e wr2 hq5
  obtain ⟨adk, ck, A2, rfl, hG, hv5⟩ := hq5
  rw [HNR.out.2.2.1] at hG ⊢
  refine ⟨_, rfl, ?_⟩
  have HGk := As hG
  have HR2 := As (show Hv w0 wr2 (A2 ++ (cb wr0.heap.size 59 #[.bool false, .int .i64 0, .slice none 0 0, .slice none 0 0] :: cb (w.heap.size + 1 + 1) 59 #[.bool false, .int .i64 0, .slice none 0 0, .slice none 0 0] :: cb (w.heap.size + 1) 59 #[.bool false, .int .i64 0, .slice none 0 0, .slice none 0 0] :: cb w.heap.size 59 #[.bool n.leaf, .int .i64 n.ver, .slice (some ad) n.keys.length kc, .slice ra n.refs.length rc] :: L)) from hv5)
  clear hG hv5
  refine hK.out _ _ (SP.out _ _ HR2.out (by simp)) (fun hHeld => ?_)
  clear hK K
  refine nm_ ?_
  refine on_ 11 (some 39) fun K hK => ?_
  refine gs_ Try.func106 #[.slice (if rc = h then ra else ra.map (·.add (h * 2))) (n.refs.length - h) (rc - h), .slice none 0 0] ?_
  refine (copR.calls (w0 := w0) (a1 := none) (n1 := 0) (c1 := 0) (ys := []) HR2.out ((HR.out.r.drop h HQ.out.2.1 HR.out.rc).mono (fun p hp => by first | (simp [hp]; done) | (simp [HRL.out p hp]; done))) (Rdy.nil 2 none) (fun u hu => rcel_one _ u (List.mem_of_mem_drop hu)) (by intro u hu; cases hu) HQ.out.2.2.2).mono ?_
  rintro e wr3 hq5
  obtain ⟨adr, cr, A3, rfl, hG, hv5⟩ := hq5
  rw [HNR.out.2.2.2.1] at hG ⊢
  refine ⟨_, rfl, ?_⟩
  have HGr := As hG
  have HR3 := As (show Hv w0 wr3 (A3 ++ (A2 ++ (cb wr0.heap.size 59 #[.bool false, .int .i64 0, .slice none 0 0, .slice none 0 0] :: cb (w.heap.size + 1 + 1) 59 #[.bool false, .int .i64 0, .slice none 0 0, .slice none 0 0] :: cb (w.heap.size + 1) 59 #[.bool false, .int .i64 0, .slice none 0 0, .slice none 0 0] :: cb w.heap.size 59 #[.bool n.leaf, .int .i64 n.ver, .slice (some ad) n.keys.length kc, .slice ra n.refs.length rc] :: L))) from hv5)
  clear hG hv5
  refine hK.out _ _ (SP.out _ _ HR3.out (by simp)) (fun hHeld => ?_)
  clear hK K
  refine nm_ ?_
  refine pu_ 12 (some 40) ?_
  refine la_ 14 none fun K hK => ?_
  have HS := As (show Hv w0 wr3 ((A3 ++ A2) ++ (cb (wr0.heap.size) 59 #[.bool false, .int .i64 0, .slice none 0 0, .slice none 0 0] :: cb (w.heap.size + 1 + 1) 59 #[.bool false, .int .i64 0, .slice none 0 0, .slice none 0 0] :: cb (w.heap.size + 1) 59 #[.bool false, .int .i64 0, .slice none 0 0, .slice none 0 0] :: cb w.heap.size 59 #[.bool n.leaf, .int .i64 n.ver, .slice (some ad) n.keys.length kc, .slice ra n.refs.length rc] :: L)) from by rw [List.append_assoc]; exact HR3.out)
  obtain ⟨b0, b1, b2, b3, d0, d1, d2, d3⟩ := HS.out.right.c4 (wr0.heap.size) 59 (.bool false) (.int .i64 0) (.slice none 0 0) (.slice none 0 0) (by simp)
  refine sk_ (hK.out _ _ ?_)
  clear hK K b0 b1 b2 b3 d0 d1 d2 d3
  obtain ⟨wr4, hW, hvv⟩ : ∃ wr4, wr4 = _ ∧ Hv w0 wr4 ((A3 ++ A2) ++ (cb (wr0.heap.size) 59 #[.bool n.leaf, .int .i64 1, .slice adk bk.length ck, .slice adr br.length cr] :: cb (w.heap.size + 1 + 1) 59 #[.bool false, .int .i64 0, .slice none 0 0, .slice none 0 0] :: cb (w.heap.size + 1) 59 #[.bool false, .int .i64 0, .slice none 0 0, .slice none 0 0] :: cb w.heap.size 59 #[.bool n.leaf, .int .i64 n.ver, .slice (some ad) n.keys.length kc, .slice ra n.refs.length rc] :: L)) := ⟨_, rfl, (Hv.putA0 (Hv.putA0 (Hv.putA0 (Hv.putA0 HS.out 0 (.bool n.leaf) rfl) 1 (.int .i64 1) rfl) 2 (.slice adk bk.length ck) rfl) 3 (.slice adr br.length cr) rfl)⟩
  rw [← hW]
  have HR4 := As hvv
  clear hW hvv HS
  refine done_ (by kernel_rfl) ?_
  obtain ⟨sk, hsk⟩ : ∃ sk, (if kc = h then some ad else some (ad.add h)) = sk := ⟨_, rfl⟩
  obtain ⟨sr, hsr⟩ : ∃ sr, (if rc = h then ra else Option.map (fun x => x.add (h * 2)) ra) = sr := ⟨_, rfl⟩
  rw [hsk, hsr]
  clear hsk hsr
  obtain ⟨y0, y1, y2, y3, f0, f1, f2, f3⟩ := HR4.out.right.c4 w.heap.size 59 (.bool n.leaf) (.int .i64 n.ver) (.slice (some ad) n.keys.length kc) (.slice ra n.refs.length rc) (by simp)
  obtain ⟨t0, t1, t2, t3, h0, h1, h2, h3⟩ := HR4.out.right.c4 (w.heap.size + 1) 59 (.bool false) (.int .i64 0) (.slice none 0 0) (.slice none 0 0) (by simp)
  obtain ⟨q0, q1, q2, q3, g0, g1, g2, g3⟩ := HR4.out.right.c4 (w.heap.size + 1 + 1) 59 (.bool false) (.int .i64 0) (.slice none 0 0) (.slice none 0 0) (by simp)
  obtain ⟨b0, b1, b2, b3, d0, d1, d2, d3⟩ := HR4.out.right.c4 (wr0.heap.size) 59 (.bool n.leaf) (.int .i64 1) (.slice adk bk.length ck) (.slice adr br.length cr) (by simp)
  have hlf := HLF.out
  go_upto_region 7 with (fail)
  clear hlf
  go_upto_region 8 with (fail)
  have z0 := RP.out _ _ HR4.out (fun x hx => by first | (simp [hx]; done) | (simp [HRL.out x hx]; done))
  go_upto_region 9 with (fail)
  clear z0
  clear y0 y1 y2 y3 f0 f1 f2 f3 q0 q1 q2 q3 g0 g1 g2 g3 t0 t1 t2 t3 h0 h1 h2 h3
  clear b0 b1 b2 b3 d0 d1 d2 d3
  have H9d := As HR4.out.drew
  refine start_ (n := 14) (S := fun w' => w'.cell? ⟨w.heap.size, 0, none⟩ = some (.bool n.leaf) ∧ w'.cell? ⟨w.heap.size, 1, none⟩ = some (.int .i64 n.ver) ∧ w'.cell? ⟨w.heap.size, 2, none⟩ = some (.slice (some ad) n.keys.length kc) ∧ w'.cell? ⟨w.heap.size, 3, none⟩ = some (.slice ra n.refs.length rc)) (ds := [11, 13]) #[false, false, false, false, false, false, false, false, false, false, false, false, false, false] (by kernel_rfl) rfl rfl (SP.out _ _ H9d.out (by simp)) (fun hHeld => ?_)
  generalize wr4.drew = wr5 at H9d hHeld ⊢
  refine pu_ 0 (some 52) ?_
  refine pu_ 2 (some 54) ?_
  refine pu_ 5 (some 57) ?_
  refine pu_ 7 (some 59) ?_
  refine ta_ 1 (some 53) hHeld ?_ (hy := Or.inl ⟨by rfl, by rintro w' ⟨s0, s1, s2, s3⟩; go_simp; with_reducible rfl⟩)
  refine pu_ 3 (some 55) ?_
  refine ta_ 6 (some 58) hHeld ?_ (hy := Or.inl ⟨by rfl, by rintro w' ⟨s0, s1, s2, s3⟩; go_simp; with_reducible rfl⟩)
  refine pu_ 8 (some 60) ?_
  refine on_ 4 (some 56) fun K hK => ?_
  refine gs_ Try.func105 #[.slice (some ad) kp kc, .slice none 0 0] ?_
  refine (copS.calls (w0 := w0) (a1 := none) (n1 := 0) (c1 := 0) (ys := []) H9d.out ((HR.out.k.take kp HQ2.out.1).mono (fun p hp => by first | (simp [hp]; done) | (simp [HRL.out p hp]; done))) (Rdy.nil 1 none) (fun u hu => kcel_one _ u (List.mem_of_mem_take hu)) (by intro u hu; cases hu) HQ2.out.2.1).mono ?_
  rintro e wr6 hq5
  obtain ⟨adk2, ck2, A6, rfl, hG, hv5⟩ := hq5
  rw [HNR2.out.2.2.1] at hG ⊢
  refine ⟨_, rfl, ?_⟩
  have HGk2 := As hG
  have HR6 := As (show Hv w0 wr6 (A6 ++ ((A3 ++ A2) ++ (cb (wr0.heap.size) 59 #[.bool n.leaf, .int .i64 1, .slice adk bk.length ck, .slice adr br.length cr] :: cb (w.heap.size + 1 + 1) 59 #[.bool false, .int .i64 0, .slice none 0 0, .slice none 0 0] :: cb (w.heap.size + 1) 59 #[.bool false, .int .i64 0, .slice none 0 0, .slice none 0 0] :: cb w.heap.size 59 #[.bool n.leaf, .int .i64 n.ver, .slice (some ad) n.keys.length kc, .slice ra n.refs.length rc] :: L))) from hv5)
  clear hG hv5
  refine hK.out _ _ (SP.out _ _ HR6.out (by simp)) (fun hHeld => ?_)
  clear hK K
  refine nm_ ?_
  refine pu_ 10 (some 62) ?_
  refine on_ 9 (some 61) fun K hK => ?_
  refine gs_ Try.func106 #[.slice ra h rc, .slice none 0 0] ?_
  refine (copR.calls (w0 := w0) (a1 := none) (n1 := 0) (c1 := 0) (ys := []) HR6.out ((HR.out.r.take h HQ.out.2.1).mono (fun p hp => by first | (simp [hp]; done) | (simp [HRL.out p hp]; done))) (Rdy.nil 2 none) (fun u hu => rcel_one _ u (List.mem_of_mem_take hu)) (by intro u hu; cases hu) HQ2.out.2.2).mono ?_
  rintro e wr7 hq5
  obtain ⟨adr2, cr2, A7, rfl, hG, hv5⟩ := hq5
  rw [HNR2.out.2.2.2] at hG ⊢
  refine ⟨_, rfl, ?_⟩
  have HGr2 := As hG
  have HR7 := As (show Hv w0 wr7 (A7 ++ (A6 ++ ((A3 ++ A2) ++ (cb (wr0.heap.size) 59 #[.bool n.leaf, .int .i64 1, .slice adk bk.length ck, .slice adr br.length cr] :: cb (w.heap.size + 1 + 1) 59 #[.bool false, .int .i64 0, .slice none 0 0, .slice none 0 0] :: cb (w.heap.size + 1) 59 #[.bool false, .int .i64 0, .slice none 0 0, .slice none 0 0] :: cb w.heap.size 59 #[.bool n.leaf, .int .i64 n.ver, .slice (some ad) n.keys.length kc, .slice ra n.refs.length rc] :: L)))) from hv5)
  clear hG hv5
  refine hK.out _ _ (SP.out _ _ HR7.out (by simp)) (fun hHeld => ?_)
  clear hK K
  refine nm_ ?_
  refine la_ 11 none fun K hK => ?_
  have HS := As (show Hv w0 wr7 (((A7 ++ A6) ++ (A3 ++ A2)) ++ (cb (wr0.heap.size) 59 #[.bool n.leaf, .int .i64 1, .slice adk bk.length ck, .slice adr br.length cr] :: cb (w.heap.size + 1 + 1) 59 #[.bool false, .int .i64 0, .slice none 0 0, .slice none 0 0] :: cb (w.heap.size + 1) 59 #[.bool false, .int .i64 0, .slice none 0 0, .slice none 0 0] :: cb w.heap.size 59 #[.bool n.leaf, .int .i64 n.ver, .slice (some ad) n.keys.length kc, .slice ra n.refs.length rc] :: L)) by have h9 := HR7.out; simpa only [List.append_assoc] using h9)
  obtain ⟨y0, y1, y2, y3, f0, f1, f2, f3⟩ := HS.out.right.c4 w.heap.size 59 (.bool n.leaf) (.int .i64 n.ver) (.slice (some ad) n.keys.length kc) (.slice ra n.refs.length rc) (by simp)
  refine sk_ (hK.out _ _ ?_)
  clear hK K y0 y1 y2 y3 f0 f1 f2 f3
  obtain ⟨wr8, hW, hvv⟩ : ∃ wr8, wr8 = wr7.setCell ⟨w.heap.size, 2, none⟩ (.slice adk2 nk.length ck2) ∧ Hv w0 wr8 (((A7 ++ A6) ++ (A3 ++ A2)) ++ (cb (wr0.heap.size) 59 #[.bool n.leaf, .int .i64 1, .slice adk bk.length ck, .slice adr br.length cr] :: cb (w.heap.size + 1 + 1) 59 #[.bool false, .int .i64 0, .slice none 0 0, .slice none 0 0] :: cb (w.heap.size + 1) 59 #[.bool false, .int .i64 0, .slice none 0 0, .slice none 0 0] :: cb w.heap.size 59 #[.bool n.leaf, .int .i64 n.ver, .slice adk2 nk.length ck2, .slice ra n.refs.length rc] :: L)) := ⟨_, rfl, putA3 HS.out 2 _ rfl⟩
  rw [← hW]
  have HR8 := As hvv
  clear hW hvv
  refine pu_ 12 (some 63) ?_
  refine la_ 13 none fun K hK => ?_
  obtain ⟨y0, y1, y2, y3, f0, f1, f2, f3⟩ := HR8.out.right.c4 w.heap.size 59 (.bool n.leaf) (.int .i64 n.ver) (.slice adk2 nk.length ck2) (.slice ra n.refs.length rc) (by simp)
  refine sk_ (hK.out _ _ ?_)
  clear hK K y0 y1 y2 y3 f0 f1 f2 f3
  obtain ⟨wr9, hW, hvv⟩ : ∃ wr9, wr9 = wr8.setCell ⟨w.heap.size, 3, none⟩ (.slice adr2 nr.length cr2) ∧ Hv w0 wr9 (((A7 ++ A6) ++ (A3 ++ A2)) ++ (cb (wr0.heap.size) 59 #[.bool n.leaf, .int .i64 1, .slice adk bk.length ck, .slice adr br.length cr] :: cb (w.heap.size + 1 + 1) 59 #[.bool false, .int .i64 0, .slice none 0 0, .slice none 0 0] :: cb (w.heap.size + 1) 59 #[.bool false, .int .i64 0, .slice none 0 0, .slice none 0 0] :: cb w.heap.size 59 #[.bool n.leaf, .int .i64 n.ver, .slice adk2 nk.length ck2, .slice adr2 nr.length cr2] :: L)) := ⟨_, rfl, putA3 HR8.out 3 _ rfl⟩
  rw [← hW]
  have HR9 := As hvv
  clear hW hvv
  refine done_ (by kernel_rfl) ?_
  obtain ⟨y0, y1, y2, y3, f0, f1, f2, f3⟩ := HR9.out.right.c4 w.heap.size 59 (.bool n.leaf) (.int .i64 n.ver) (.slice adk2 nk.length ck2) (.slice adr2 nr.length cr2) (by simp)
  obtain ⟨t0, t1, t2, t3, h0, h1, h2, h3⟩ := HR9.out.right.c4 (w.heap.size + 1) 59 (.bool false) (.int .i64 0) (.slice none 0 0) (.slice none 0 0) (by simp)
  obtain ⟨q0, q1, q2, q3, g0, g1, g2, g3⟩ := HR9.out.right.c4 (w.heap.size + 1 + 1) 59 (.bool false) (.int .i64 0) (.slice none 0 0) (.slice none 0 0) (by simp)
  obtain ⟨b0, b1, b2, b3, d0, d1, d2, d3⟩ := HR9.out.right.c4 (wr0.heap.size) 59 (.bool n.leaf) (.int .i64 1) (.slice adk bk.length ck) (.slice adr br.length cr) (by simp)
  go_upto_region 11 with (fail)
  obtain ⟨wv, hW, hvv⟩ : ∃ wv, wv = wr9.setCell ⟨w.heap.size, 1, none⟩ (.int .i64 (wrap64 (n.ver + 1))) ∧ Hv w0 wv (((A7 ++ A6) ++ (A3 ++ A2)) ++ (cb (wr0.heap.size) 59 #[.bool n.leaf, .int .i64 1, .slice adk bk.length ck, .slice adr br.length cr] :: cb (w.heap.size + 1 + 1) 59 #[.bool false, .int .i64 0, .slice none 0 0, .slice none 0 0] :: cb (w.heap.size + 1) 59 #[.bool false, .int .i64 0, .slice none 0 0, .slice none 0 0] :: cb w.heap.size 59 #[.bool n.leaf, .int .i64 (wrap64 (n.ver + 1)), .slice adk2 nk.length ck2, .slice adr2 nr.length cr2] :: L)) := ⟨_, rfl, putA3 HR9.out 1 _ rfl⟩
  rw [← hW]
  have HV9 := As hvv
  clear hW
  clear y0 y1 y2 y3 f0 f1 f2 f3 q0 q1 q2 q3 g0 g1 g2 g3 t0 t1 t2 t3 h0 h1 h2 h3
  clear b0 b1 b2 b3 d0 d1 d2 d3
  obtain ⟨y0, y1, y2, y3, f0, f1, f2, f3⟩ := hvv.right.c4 w.heap.size 59 (.bool n.leaf) (.int .i64 (wrap64 (n.ver + 1))) (.slice adk2 nk.length ck2) (.slice adr2 nr.length cr2) (by simp)
  obtain ⟨t0, t1, t2, t3, h0, h1, h2, h3⟩ := hvv.right.c4 (w.heap.size + 1) 59 (.bool false) (.int .i64 0) (.slice none 0 0) (.slice none 0 0) (by simp)
  obtain ⟨q0, q1, q2, q3, g0, g1, g2, g3⟩ := hvv.right.c4 (w.heap.size + 1 + 1) 59 (.bool false) (.int .i64 0) (.slice none 0 0) (.slice none 0 0) (by simp)
  obtain ⟨b0, b1, b2, b3, d0, d1, d2, d3⟩ := hvv.right.c4 (wr0.heap.size) 59 (.bool n.leaf) (.int .i64 1) (.slice adk bk.length ck) (.slice adr br.length cr) (by simp)
  have x1 := hvv.right.apart (i := 0) (j := 1) rfl rfl (by decide)
  have x2 := hvv.right.apart (i := 0) (j := 2) rfl rfl (by decide)
  have x3 := hvv.right.apart (i := 0) (j := 3) rfl rfl (by decide)
  have x4 := hvv.right.apart (i := 1) (j := 0) rfl rfl (by decide)
  have x5 := hvv.right.apart (i := 2) (j := 0) rfl rfl (by decide)
  have x6 := hvv.right.apart (i := 3) (j := 0) rfl rfl (by decide)
  simp only [cb] at x1 x2 x3 x4 x5 x6
  clear hvv
  go_region
  go_wp2_with fail
  have hgk : Gr 9 1 (.slice adk bk.length ck) bk.length (bk.map Value.string) A2 := by
   have h9 := HGk.out
   rw [HNR.out.1] at h9 ⊢
   simpa using h9
  have hgr : Gr 33 2 (.slice adr br.length cr) br.length (br.flatMap rcel) A3 := by
   have h9 := HGr.out
   rw [rcel_drop] at h9
   rw [HNR.out.2.1] at h9 ⊢
   simpa using h9
  have hgk2 : Gr 9 1 (.slice adk2 nk.length ck2) nk.length (nk.map Value.string) A6 := by
   have h9 := HGk2.out
   rw [HNR2.out.1] at h9 ⊢
   simpa using h9
  have hgr2 : Gr 33 2 (.slice adr2 nr.length cr2) nr.length (nr.flatMap rcel) A7 := by
   have h9 := HGr2.out
   rw [rcel_take] at h9
   rw [HNR2.out.2.1] at h9 ⊢
   simpa using h9
  have HGR := As (And.intro (And.intro hgk hgr) (And.intro hgk2 hgr2))
  clear hgk hgr hgk2 hgr2
  obtain ⟨wg, hw, hg⟩ : ∃ wg, wg = _ ∧ Hv w0 wg (((A7 ++ A6) ++ (A3 ++ A2)) ++ (cb (wr0.heap.size) 59 #[.bool n.leaf, .int .i64 1, .slice adk bk.length ck, .slice adr br.length cr] :: cb (w.heap.size + 1 + 1) 59 #[.bool n.leaf, .int .i64 1, .slice adk bk.length ck, .slice adr br.length cr] :: cb (w.heap.size + 1) 59 #[.bool n.leaf, .int .i64 (wrap64 (n.ver + 1)), .slice adk2 nk.length ck2, .slice adr2 nr.length cr2] :: cb w.heap.size 59 #[.bool n.leaf, .int .i64 (wrap64 (n.ver + 1)), .slice adk2 nk.length ck2, .slice adr2 nr.length cr2] :: L)) := ⟨_, rfl, (Hv.putA1 (Hv.putA1 (Hv.putA1 (Hv.putA1 (putA2 (putA2 (putA2 (putA2 HV9.out 0 (.bool n.leaf) rfl) 1 (.int .i64 (wrap64 (n.ver + 1))) rfl) 2 (.slice adk2 nk.length ck2) rfl) 3 (.slice adr2 nr.length cr2) rfl) 0 (.bool n.leaf) rfl) 1 (.int .i64 1) rfl) 2 (.slice adk bk.length ck) rfl) 3 (.slice adr br.length cr) rfl)⟩
  rw [← hw]
  obtain ⟨e0, e1, e2, e3, -, -, -, -⟩ := hg.right.c4 (w.heap.size + 1) 59 (.bool n.leaf) (.int .i64 (wrap64 (n.ver + 1))) (.slice adk2 nk.length ck2) (.slice adr2 nr.length cr2) (by simp)
  obtain ⟨e4, e5, e6, e7, -, -, -, -⟩ := hg.right.c4 (w.heap.size + 1 + 1) 59 (.bool n.leaf) (.int .i64 1) (.slice adk bk.length ck) (.slice adr br.length cr) (by simp)
  exact bodyPost_ret (v := .tuple #[.agg #[.bool n.leaf, .int .i64 (wrap64 (n.ver + 1)), .slice adk2 nk.length ck2, .slice adr2 nr.length cr2], .string mid, .agg #[.bool n.leaf, .int .i64 1, .slice adk bk.length ck, .slice adr br.length cr]]) (by simp [results, Try.results51, go_sem, e0, e1, e2, e3, e4, e5, e6, e7, hu59]) rfl ⟨_, _, ((A7 ++ A6) ++ (A3 ++ A2)), by rw [HF.out], by rw [HF.out, ← HNR2.out.1, ← HNR2.out.2.1]; exact ⟨adk2, ck2, adr2, cr2, rfl, (Rdy.of_rw (Rw.of_gr HGR.out.2.1)).mono (fun p hp => by first | (simp [hp]; done) | (simp [HRL.out p hp]; done)), (Rdy.of_rw (Rw.of_gr HGR.out.2.2)).mono (fun p hp => by first | (simp [hp]; done) | (simp [HRL.out p hp]; done)), (Rw.of_gr HGR.out.2.1).2.1, (Rw.of_gr HGR.out.2.2).2.1⟩, by rw [HF.out, ← HNR.out.1, ← HNR.out.2.1]; exact ⟨adk, ck, adr, cr, rfl, (Rdy.of_rw (Rw.of_gr HGR.out.1.1)).mono (fun p hp => by first | (simp [hp]; done) | (simp [HRL.out p hp]; done)), (Rdy.of_rw (Rw.of_gr HGR.out.1.2)).mono (fun p hp => by first | (simp [hp]; done) | (simp [HRL.out p hp]; done)), (Rw.of_gr HGR.out.1.1).2.1, (Rw.of_gr HGR.out.1.2).2.1⟩, (hg.drop (List.Sublist.append_left ((List.sublist_cons_self _ _).trans ((List.sublist_cons_self _ _).trans ((List.sublist_cons_self _ _).trans (List.sublist_cons_self _ _)))) ((A7 ++ A6) ++ (A3 ++ A2)))).drew⟩
theorem split.calls (hv : Hv w0 w L) (hRL : ∀ p ∈ R, p ∈ L) {n : Nd} {v : Value} (hn : NV w0 R n v) (ho : Sm n) : Calls Try.prog 51 #[v] w (SplitP w0 R L n.split) := by
 have hb : n.refs.length < 4611686018427387904 := by have := ho.r; omega
 cases h : (n.shape && decide (2 ≤ n.refs.length))
 ·exact split.neg hv hRL hn hb h
 ·simp only [Bool.and_eq_true, decide_eq_true_eq] at h
  cases h4 : n.leaf
  ·exact split.inner hv hRL hn ho h.1 h.2 h4
  ·exact split.leaf hv hRL hn ho h.1 h.2 h4
end Go.Proofs.Ytglbcfkmaamhaaa.Nd
