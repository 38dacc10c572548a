/- transomref21: Node where it is new. No condition. -/
import Derived.Test.YtgecokldbkamlaaStS
set_option linter.unusedVariables false
set_option linter.unusedSimpArgs false
namespace Go.Proofs.Ytgecokldbkamlaa.St
open Go Go.RowKit Go.MapKept Go.Proofs.YtgecokldbkamlaaW.PrintWords Go.Proofs.YtgecokldbkamlaaW.PrintLast Go.Proofs.YtgecokldbkamlaaW.PrintMore Go.Proofs.Ytgecokldbkamlaa.Hv Go.Proofs.Ytgecokldbkamlaa.Mk Go.Proofs.Ytgecokldbkamlaa.Ka
variable {w0 w w1 : World} {g : Nat} {s : St} {L L' : List Ob} {a1 a2 a3 : Option Addr} {c1 c2 c3 : Nat}
def RNP (w0 : World) (s : St) (x : R3) (L : List Ob) (a1 : Option Addr) (c1 : Nat) (a3 : Option Addr) (c3 : Nat) (e : Ending) (w' : World) : Prop :=
  ∃ a2 c2 A, e = .returned (.agg #[.slice a1 s.reads.length c1, .slice a2 (s.nodes.length + 1) c2, .slice a3 s.writes.length c3]) ∧ Gr 38 3 (.slice a2 (s.nodes.length + 1) c2) (s.nodes.length + 1) ((s.nodes ++ [x]).flatMap cel3) A ∧ Hv w0 w' (A ++ L)
set_option maxHeartbeats 8000000 in
set_option maxRecDepth 100000 in
theorem rNode.new (hv : Hv w0 w L) (hl : s.nodes.length ≤ 100000) (hR : RS L s a1 c1 a2 c2 a3 c3) (a b ver : Int) (hn : ∀ x ∈ s.nodes, x.1 ≠ (a, b)) :
    Calls Try.prog 22 #[.agg #[.slice a1 s.reads.length c1, .slice a2 s.nodes.length c2, .slice a3 s.writes.length c3], .agg #[.int .i64 a, .int .i64 b, .int .i64 ver]] w (RNP w0 s ((a, b), ver) L a1 c1 a3 c3) := by
  have hu31 := Try.underlying31
  have hu38 := Try.underlying38
  have info38 : (Try.prog.info? 38).map (fun i => (i.zero, i.size, i.bytes)) = some (some (.agg #[.int .i64 0, .int .i64 0, .int .i64 0]), 3, 24) := by kernel_rfl
  have I38 := Aside0.mk info38
  have h1 := ((hv.alloc (.cells #[.slice a1 s.reads.length c1, .slice a2 s.nodes.length c2, .slice a3 s.writes.length c3] 31)).alloc (.cells #[.int .i64 a, .int .i64 b, .int .i64 ver] 38)).alloc (.cells #[.slice none 0 0, .slice none 0 0, .slice none 0 0] 31)
  obtain ⟨x0, x1, x2, -, -, -⟩ := h1.c3 w.heap.size 31 (.slice a1 s.reads.length c1) (.slice a2 s.nodes.length c2) (.slice a3 s.writes.length c3) (by simp)
  obtain ⟨y0, y1, y2, -, -, -⟩ := h1.c3 (w.heap.size + 1) 38 (.int .i64 a) (.int .i64 b) (.int .i64 ver) (by simp)
  have HV := Aside0.mk h1
  have HR := Aside0.mk hR
  have HE := Aside0.mk hn
  have HL := Aside0.mk hl
  have HB0 := Aside0.mk (show (0 + s.nodes.length) * 24 ≤ 140737488355328 by omega)
  have HB1 := Aside0.mk (show (s.nodes.length + 1) * 24 ≤ 140737488355328 by omega)
  clear hv h1 hR hn hl info38
  go_enter Try.func22, Try.ntmps22
  go_wp2_with fail
  refine (rnode.no HV.out HL.out (HR.out.n.mono (fun p hp => by simp [hp])) a b HE.out).mono ?_
  rintro e2 W3 ⟨rfl, h2⟩
  have hP : Hv w0 W3 (cb (w.heap.size + 1 + 1) 31 #[.slice none 0 0, .slice none 0 0, .slice none 0 0] :: cb (w.heap.size + 1) 38 #[.int .i64 a, .int .i64 b, .int .i64 ver] :: cb w.heap.size 31 #[.slice a1 s.reads.length c1, .slice a2 s.nodes.length c2, .slice a3 s.writes.length c3] :: L) := by simpa [cb] using h2
  clear h2 x0 x1 x2 y0 y1 y2
  obtain ⟨x0, x1, x2, -, -, -⟩ := hP.c3 w.heap.size 31 (.slice a1 s.reads.length c1) (.slice a2 s.nodes.length c2) (.slice a3 s.writes.length c3) (by simp)
  obtain ⟨y0, y1, y2, -, -, -⟩ := hP.c3 (w.heap.size + 1) 38 (.int .i64 a) (.int .i64 b) (.int .i64 ver) (by simp)
  have RN := Aside0.mk (HR.out.n.mono (L' := cb (w.heap.size + 1 + 1) 31 #[.slice none 0 0, .slice none 0 0, .slice none 0 0] :: cb (w.heap.size + 1) 38 #[.int .i64 a, .int .i64 b, .int .i64 ver] :: cb w.heap.size 31 #[.slice a1 s.reads.length c1, .slice a2 s.nodes.length c2, .slice a3 s.writes.length c3] :: L) (fun p hp => by simp [hp]))
  have HP := Aside0.mk hP
  clear hP
  have x1a : ∀ o, (W3.alloc o).cell? ⟨w.heap.size, 1, none⟩ = some (.slice a2 s.nodes.length c2) := fun o => pw_cell_below (below_alloc (Below.refl _ _) o) x1
  go_upto_region 3 with (fail)
  go_region_law (first
    | (refine append_rows_step (w0 := w0) (A := []) (by rfl) (.const (.slice none 0 0)) (.tmp 13) 28 38 (.agg #[.int .i64 0, .int .i64 0, .int .i64 0]) 3 24 rfl Try.underlying28 I38.out rfl (by decide) (by decide) (.slice none 0 0) 0 [] (by simp [Act.eval, Act.put]) a2 s.nodes.length c2 (s.nodes.flatMap cel3) (by simp [Act.eval, Act.put]) (cel3_one _) (Gr.nil _ _) (by first | exact HP.out.drew | exact (HP.out.drew.alloc _) | exact (HP.out.alloc _).drew) (RN.out.rd HP.out |>.below (by first | exact below_drew1 (Below.refl _ _) | exact below_drew1 (below_alloc (Below.refl _ _) _) | exact below_alloc (below_drew1 (Below.refl _ _)) _)) HB0.out ?_; intro v1 w5 B1 hG hH; rw [Nat.zero_add, List.nil_append] at hG; obtain ⟨b3, d3, rfl, hd3⟩ := hG.form; have KG := Aside0.mk hG; have KH := Aside0.mk hH; clear y0 y1 y2; obtain ⟨y0, y1, y2, -, -, -⟩ := hH.c3 (w.heap.size + 1) 38 (.int .i64 a) (.int .i64 b) (.int .i64 ver) (by simp); clear hG hH hd3)
    | (refine append_step (w0 := w0) (A := B1) (by rfl) (.tmp 14) (.tmp 16) 28 38 (.agg #[.int .i64 0, .int .i64 0, .int .i64 0]) 3 24 rfl Try.underlying28 I38.out rfl (by decide) (by decide) (.slice b3 s.nodes.length d3) s.nodes.length (s.nodes.flatMap cel3) (by simp [Act.eval, Act.put]) ⟨w5.heap.size, 0, none⟩ 1 1 (cel3 ((a, b), ver)) (by simp [Act.eval, Act.put]) rfl (news_new _ _ 38 _ rfl) (by intro u hu; simp [cel3] at hu; rcases hu with rfl | rfl | rfl <;> rfl) KG.out (KH.out.skip _) HB1.out ?_; intro v2 w6 B2 hG hH; obtain ⟨b4, d4, rfl, hd4⟩ := hG.form; have KG2 := Aside0.mk hG; have KH2 := Aside0.mk hH; clear x0 x1 x2; obtain ⟨x0, x1, x2, u0, u1, u2⟩ := hH.c3 w.heap.size 31 (.slice a1 s.reads.length c1) (.slice a2 s.nodes.length c2) (.slice a3 s.writes.length c3) (by simp); clear hG hH hd4)
    | (refine append_step (w0 := w0) (A := B1) (by rfl) (.tmp 14) (.tmp 16) 28 38 (.agg #[.int .i64 0, .int .i64 0, .int .i64 0]) 3 24 rfl Try.underlying28 I38.out rfl (by decide) (by decide) (.slice b3 s.nodes.length d3) s.nodes.length (s.nodes.flatMap cel3) (by simp [Act.eval, Act.put]) ⟨W3.heap.size, 0, none⟩ 1 1 (cel3 ((a, b), ver)) (by simp [Act.eval, Act.put]) rfl (by intro j u hj; have := KH.out.cell (g := W3.heap.size) (t := 38) (cs := #[.int .i64 a, .int .i64 b, .int .i64 ver]) (by simp) j (v := u) (by simpa [cel3] using hj); exact if hj0 : j = 0 then (by subst hj0; simpa [Addr.add] using this) else (by simpa [Addr.add, hj0] using this)) (by intro u hu; simp [cel3] at hu; rcases hu with rfl | rfl | rfl <;> rfl) KG.out KH.out HB1.out ?_; intro v2 w6 B2 hG hH; obtain ⟨b4, d4, rfl, hd4⟩ := hG.form; have KG2 := Aside0.mk hG; have KH2 := Aside0.mk hH; clear x0 x1 x2; obtain ⟨x0, x1, x2, u0, u1, u2⟩ := hH.c3 w.heap.size 31 (.slice a1 s.reads.length c1) (.slice a2 s.nodes.length c2) (.slice a3 s.writes.length c3) (by simp); clear hG hH hd4))
  all_goals
    have K6 : Hv w0 w6 (B2 ++ (cb (w.heap.size + 1 + 1) 31 #[.slice none 0 0, .slice none 0 0, .slice none 0 0] :: cb (w.heap.size + 1) 38 #[.int .i64 a, .int .i64 b, .int .i64 ver] :: cb w.heap.size 31 #[.slice a1 s.reads.length c1, .slice a2 s.nodes.length c2, .slice a3 s.writes.length c3] :: L)) := by first | exact KH2.out | exact KH2.out.drop (List.Sublist.append_left (List.sublist_cons_self _ _) _)
    have K7 := (K6.perm (toFront [cb (w.heap.size + 1 + 1) 31 #[.slice none 0 0, .slice none 0 0, .slice none 0 0], cb (w.heap.size + 1) 38 #[.int .i64 a, .int .i64 b, .int .i64 ver], cb w.heap.size 31 #[.slice a1 s.reads.length c1, .slice a2 s.nodes.length c2, .slice a3 s.writes.length c3]] B2 L rfl)).put 2 rfl 1 (.slice b4 (s.nodes.length + 1) d4)
    obtain ⟨wf, hw, hf⟩ : ∃ wf, wf = _ ∧ Hv w0 wf (cb (w.heap.size + 1 + 1) 31 #[.slice none 0 0, .slice none 0 0, .slice none 0 0] :: cb (w.heap.size + 1) 38 #[.int .i64 a, .int .i64 b, .int .i64 ver] :: cb w.heap.size 31 #[.slice a1 s.reads.length c1, .slice b4 (s.nodes.length + 1) d4, .slice a3 s.writes.length c3] :: (B2 ++ L)) := ⟨_, rfl, by simpa using K7⟩
    rw [← hw]
    clear hw K6 K7 x0 x1 x2 u0 u1 u2 x1a y0 y1 y2
    obtain ⟨x0, x1, x2, -, -, -⟩ := hf.c3 w.heap.size 31 (.slice a1 s.reads.length c1) (.slice b4 (s.nodes.length + 1) d4) (.slice a3 s.writes.length c3) (by simp)
    obtain ⟨z0, z1, z2, f0, f1, f2⟩ := hf.c3 (w.heap.size + 1 + 1) 31 (.slice none 0 0) (.slice none 0 0) (.slice none 0 0) (by simp)
    have H3 := Aside0.mk hf
    clear hf
    go_wp2_with fail
    have K8 := (((H3.out.put 0 rfl 0 (.slice a1 s.reads.length c1)).put 0 rfl 1 (.slice b4 (s.nodes.length + 1) d4)).put 0 rfl 2 (.slice a3 s.writes.length c3))
    obtain ⟨wg, hw, hg⟩ : ∃ wg, wg = _ ∧ Hv w0 wg (cb (w.heap.size + 1 + 1) 31 #[.slice a1 s.reads.length c1, .slice b4 (s.nodes.length + 1) d4, .slice a3 s.writes.length c3] :: cb (w.heap.size + 1) 38 #[.int .i64 a, .int .i64 b, .int .i64 ver] :: cb w.heap.size 31 #[.slice a1 s.reads.length c1, .slice b4 (s.nodes.length + 1) d4, .slice a3 s.writes.length c3] :: (B2 ++ L)) := ⟨_, rfl, by simpa using K8⟩
    rw [← hw]
    obtain ⟨p0, p1, p2, -, -, -⟩ := hg.c3 (w.heap.size + 1 + 1) 31 _ _ _ List.mem_cons_self
    exact bodyPost_ret (v := .agg #[.slice a1 s.reads.length c1, .slice b4 (s.nodes.length + 1) d4, .slice a3 s.writes.length c3]) (by simp [results, Try.results22, go_sem, p0, p1, p2, hu31]) rfl ⟨b4, d4, B2, rfl, by simpa [List.flatMap_append] using KG2.out, hg.tail.tail.tail⟩
end Go.Proofs.Ytgecokldbkamlaa.St
