/- transomref21: Read. No condition. -/
import Derived.Test.YtgecokldbkamlaaStU
set_option linter.unusedVariables false
set_option linter.unusedSimpArgs false
namespace Go.Proofs.Ytgecokldbkamlaa.St
open Go Go.RowKit Go.MapKept Go.Proofs.YtgecokldbkamlaaW.PrintWords Go.Proofs.YtgecokldbkamlaaW.PrintLast Go.Proofs.YtgecokldbkamlaaW.PrintMore Go.Proofs.Ytgecokldbkamlaa.Hv Go.Proofs.Ytgecokldbkamlaa.Mk Go.Proofs.Ytgecokldbkamlaa.Ka
variable {w0 w w1 : World} {g : Nat} {s : St} {L L' : List Ob} {a1 a2 a3 : Option Addr} {c1 c2 c3 : Nat}
def RRP (w0 : World) (s : St) (x : R3) (L : List Ob) (a2 : Option Addr) (c2 : Nat) (a3 : Option Addr) (c3 : Nat) (e : Ending) (w' : World) : Prop :=
  ∃ a1 c1 A, e = .returned (.agg #[.slice a1 (s.reads.length + 1) c1, .slice a2 s.nodes.length c2, .slice a3 s.writes.length c3]) ∧ Gr 36 3 (.slice a1 (s.reads.length + 1) c1) (s.reads.length + 1) ((s.reads ++ [x]).flatMap cel3) A ∧ Hv w0 w' (A ++ L)
set_option maxHeartbeats 8000000 in
set_option maxRecDepth 100000 in
theorem rRead.new (hv : Hv w0 w L) (hl : s.reads.length ≤ 100000) (hR : RS L s a1 c1 a2 c2 a3 c3) (a b word : Int) (hn : ∀ x ∈ s.reads, x.1 ≠ (a, b)) :
    Calls Try.prog 21 #[.agg #[.slice a1 s.reads.length c1, .slice a2 s.nodes.length c2, .slice a3 s.writes.length c3], .agg #[.int .i64 a, .int .i64 b], .int .i64 word] w (RRP w0 s ((a, b), word) L a2 c2 a3 c3) := by
  have hu31 := Try.underlying31
  have hu34 := Try.underlying34
  have hu36 := Try.underlying36
  have hu27 := Try.underlying27
  have h1 : Hv w0 (((w.alloc (.cells #[.slice a1 s.reads.length c1, .slice a2 s.nodes.length c2, .slice a3 s.writes.length c3] 31)).alloc (.cells #[.int .i64 a, .int .i64 b] 34)).alloc (.cells #[.slice none 0 0, .slice none 0 0, .slice none 0 0] 31)) (cb (w.heap.size + 1 + 1) 31 #[.slice none 0 0, .slice none 0 0, .slice none 0 0] :: cb (w.heap.size + 1) 34 #[.int .i64 a, .int .i64 b] :: cb w.heap.size 31 #[.slice a1 s.reads.length c1, .slice a2 s.nodes.length c2, .slice a3 s.writes.length c3] :: L) := by
    have := ((hv.alloc (.cells #[.slice a1 s.reads.length c1, .slice a2 s.nodes.length c2, .slice a3 s.writes.length c3] 31)).alloc (.cells #[.int .i64 a, .int .i64 b] 34)).alloc (.cells #[.slice none 0 0, .slice none 0 0, .slice none 0 0] 31)
    simpa [cb] using this
  have HV := Aside0.mk h1
  have HR := Aside0.mk (hR.r.mono (L' := cb (w.heap.size + 1 + 1) 31 #[.slice none 0 0, .slice none 0 0, .slice none 0 0] :: cb (w.heap.size + 1) 34 #[.int .i64 a, .int .i64 b] :: cb w.heap.size 31 #[.slice a1 s.reads.length c1, .slice a2 s.nodes.length c2, .slice a3 s.writes.length c3] :: L) (fun p hp => by simp [hp]))
  have HL := Aside0.mk hl
  have info36 : (Try.prog.info? 36).map (fun i => (i.zero, i.size, i.bytes)) = some (some (.agg #[.int .i64 0, .int .i64 0, .int .i64 0]), 3, 24) := by kernel_rfl
  have I36 := Aside0.mk info36
  have HB0 := Aside0.mk (show (0 + s.reads.length) * 24 ≤ 140737488355328 by omega)
  have HB1 := Aside0.mk (show (s.reads.length + 1) * 24 ≤ 140737488355328 by omega)
  have HE := Aside0.mk hn
  clear hv h1 hR hl hn info36
  go_enter Try.func21, Try.ntmps21
  go_wp2_with fail
  go_loopg [7] s.reads.length (fun kq v7 wr => ∃ (k : Nat), v7 = .int .i64 (k : Int) ∧ kq = s.reads.length - k ∧ k ≤ s.reads.length ∧ Aside0 (Hv w0 wr (cb (w.heap.size + 1 + 1) 31 #[.slice none 0 0, .slice none 0 0, .slice none 0 0] :: cb (w.heap.size + 1) 34 #[.int .i64 a, .int .i64 b] :: cb w.heap.size 31 #[.slice a1 s.reads.length c1, .slice a2 s.nodes.length c2, .slice a3 s.writes.length c3] :: L)))
  case atStart => exact ⟨0, rfl, rfl, Nat.zero_le _, HV⟩
  case round =>
    obtain ⟨k, rfl, rfl, hk, HP⟩ := hrel
    clear HV
    have hk7 : k ≤ 100000 := by have := HL.out; omega
    obtain ⟨b0, b1, b2, -, -, -⟩ := HP.out.c3 w.heap.size 31 (.slice a1 s.reads.length c1) (.slice a2 s.nodes.length c2) (.slice a3 s.writes.length c3) (by simp)
    by_cases hltn : k < s.reads.length
    · have hlt' : (k : Int) < (s.reads.length : Int) := by omega
      obtain ⟨adl, ea, hcl⟩ := HR.out.cells HP.out.drew (by omega)
      cases ea
      obtain ⟨⟨⟨x0, x1⟩, x2⟩, hd⟩ : ∃ d, s.reads[k]? = some d := ⟨_, List.getElem?_eq_getElem hltn⟩
      have z0 := hcl (k * 3) _ (cel3_at s.reads k 0 _ (.int .i64 x0) hd rfl)
      have z1 := hcl (k * 3 + 1) _ (cel3_at s.reads k 1 _ (.int .i64 x1) hd rfl)
      rw [add_next _ _ _ (by omega)] at z1
      obtain ⟨y0, y1, -, -⟩ := HP.out.c2 (w.heap.size + 1) 34 (.int .i64 a) (.int .i64 b) (by simp)
      have heq := eq34 x0 x1 a b
      rw [ne_pair (HE.out _ (List.mem_of_getElem? hd))] at heq
      clear hcl hd
      go_wp2_with fail
      go_region
      go_wp2_with fail
      go_roundg (s.reads.length - (k + 1))
      case measure => omega
      case rel => exact ⟨k + 1, by go_num, rfl, hltn, ⟨by first | exact HP.out.drew | exact HP.out⟩⟩
    · have hge : ¬ (k : Int) < (s.reads.length : Int) := by omega
      clear b0 b1 b2
      obtain ⟨x0, x1, x2, -, -, -⟩ := HP.out.c3 w.heap.size 31 (.slice a1 s.reads.length c1) (.slice a2 s.nodes.length c2) (.slice a3 s.writes.length c3) (by simp)
      obtain ⟨y0, y1, -, -⟩ := HP.out.c2 (w.heap.size + 1) 34 (.int .i64 a) (.int .i64 b) (by simp)
      have x0a : ∀ o, (wr.alloc o).cell? ⟨w.heap.size, 0, none⟩ = some (.slice a1 s.reads.length c1) := fun o => pw_cell_below (below_alloc (Below.refl _ _) o) x0
      go_upto_region 6 with (fail)
      go_region_law (first
        | (refine append_rows_step (w0 := w0) (A := []) (by rfl) (.const (.slice none 0 0)) (.tmp 25) 27 36 (.agg #[.int .i64 0, .int .i64 0, .int .i64 0]) 3 24 rfl Try.underlying27 I36.out rfl (by decide) (by decide) (.slice none 0 0) 0 [] (by simp [Act.eval, Act.put]) a1 s.reads.length c1 (s.reads.flatMap cel3) (by simp [Act.eval, Act.put]) (cel3_one _) (Gr.nil _ _) (by first | exact HP.out.drew | exact (HP.out.drew.alloc _) | exact (HP.out.alloc _).drew) (HR.out.rd HP.out |>.below (by first | exact below_drew1 (Below.refl _ _) | exact below_drew1 (below_alloc (Below.refl _ _) _) | exact below_alloc (below_drew1 (Below.refl _ _)) _)) HB0.out ?_; intro v1 w5 B1 hG hH; rw [Nat.zero_add, List.nil_append] at hG; obtain ⟨b3, d3, rfl, hd3⟩ := hG.form; have KG := Aside0.mk hG; have KH := Aside0.mk hH; clear y0 y1; obtain ⟨y0, y1, -, -⟩ := hH.c2 (w.heap.size + 1) 34 (.int .i64 a) (.int .i64 b) (by simp); clear hG hH hd3)
        | (refine append_step (w0 := w0) (A := B1) (by rfl) (.tmp 26) (.tmp 30) 27 36 (.agg #[.int .i64 0, .int .i64 0, .int .i64 0]) 3 24 rfl Try.underlying27 I36.out rfl (by decide) (by decide) (.slice b3 s.reads.length d3) s.reads.length (s.reads.flatMap cel3) (by simp [Act.eval, Act.put]) ⟨w5.heap.size, 0, none⟩ 1 1 (cel3 ((a, b), word)) (by simp [Act.eval, Act.put]) rfl (news_new _ _ 36 _ rfl) (by intro u hu; simp [cel3] at hu; rcases hu with rfl | rfl | rfl <;> rfl) KG.out (KH.out.skip _) HB1.out ?_; intro v2 w6 B2 hG hH; obtain ⟨b4, d4, rfl, hd4⟩ := hG.form; have KG2 := Aside0.mk hG; have KH2 := Aside0.mk hH; clear x0 x1 x2; obtain ⟨x0, x1, x2, u0, u1, u2⟩ := hH.c3 w.heap.size 31 (.slice a1 s.reads.length c1) (.slice a2 s.nodes.length c2) (.slice a3 s.writes.length c3) (by simp); clear hG hH hd4)
        | (refine append_step (w0 := w0) (A := B1) (by rfl) (.tmp 26) (.tmp 30) 27 36 (.agg #[.int .i64 0, .int .i64 0, .int .i64 0]) 3 24 rfl Try.underlying27 I36.out rfl (by decide) (by decide) (.slice b3 s.reads.length d3) s.reads.length (s.reads.flatMap cel3) (by simp [Act.eval, Act.put]) ⟨wr.heap.size, 0, none⟩ 1 1 (cel3 ((a, b), word)) (by simp [Act.eval, Act.put]) rfl (by intro j u hj; have := KH.out.cell (g := wr.heap.size) (t := 36) (cs := #[.int .i64 a, .int .i64 b, .int .i64 word]) (by simp) j (v := u) (by simpa [cel3] using hj); exact if hj0 : j = 0 then (by subst hj0; simpa [Addr.add] using this) else (by simpa [Addr.add, hj0] using this)) (by intro u hu; simp [cel3] at hu; rcases hu with rfl | rfl | rfl <;> rfl) KG.out KH.out HB1.out ?_; intro v2 w6 B2 hG hH; obtain ⟨b4, d4, rfl, hd4⟩ := hG.form; have KG2 := Aside0.mk hG; have KH2 := Aside0.mk hH; clear x0 x1 x2; obtain ⟨x0, x1, x2, u0, u1, u2⟩ := hH.c3 w.heap.size 31 (.slice a1 s.reads.length c1) (.slice a2 s.nodes.length c2) (.slice a3 s.writes.length c3) (by simp); clear hG hH hd4))
      all_goals
        have K6 : Hv w0 w6 (B2 ++ (cb (w.heap.size + 1 + 1) 31 #[.slice none 0 0, .slice none 0 0, .slice none 0 0] :: cb (w.heap.size + 1) 34 #[.int .i64 a, .int .i64 b] :: cb w.heap.size 31 #[.slice a1 s.reads.length c1, .slice a2 s.nodes.length c2, .slice a3 s.writes.length c3] :: L)) := by first | exact KH2.out | exact KH2.out.drop (List.Sublist.append_left (List.sublist_cons_self _ _) _)
        have K7 := (K6.perm (toFront [cb (w.heap.size + 1 + 1) 31 #[.slice none 0 0, .slice none 0 0, .slice none 0 0], cb (w.heap.size + 1) 34 #[.int .i64 a, .int .i64 b], cb w.heap.size 31 #[.slice a1 s.reads.length c1, .slice a2 s.nodes.length c2, .slice a3 s.writes.length c3]] B2 L rfl)).put 2 rfl 0 (.slice b4 (s.reads.length + 1) d4)
        obtain ⟨wf, hw, hf⟩ : ∃ wf, wf = _ ∧ Hv w0 wf (cb (w.heap.size + 1 + 1) 31 #[.slice none 0 0, .slice none 0 0, .slice none 0 0] :: cb (w.heap.size + 1) 34 #[.int .i64 a, .int .i64 b] :: cb w.heap.size 31 #[.slice b4 (s.reads.length + 1) d4, .slice a2 s.nodes.length c2, .slice a3 s.writes.length c3] :: (B2 ++ L)) := ⟨_, rfl, by simpa using K7⟩
        rw [← hw]
        clear hw K6 K7 x0 x1 x2 u0 u1 u2 x0a y0 y1
        obtain ⟨x0, x1, x2, -, -, -⟩ := hf.c3 w.heap.size 31 (.slice b4 (s.reads.length + 1) d4) (.slice a2 s.nodes.length c2) (.slice a3 s.writes.length c3) (by simp)
        obtain ⟨z0, z1, z2, f0, f1, f2⟩ := hf.c3 (w.heap.size + 1 + 1) 31 (.slice none 0 0) (.slice none 0 0) (.slice none 0 0) (by simp)
        have H3 := Aside0.mk hf
        clear hf
        go_wp2_with fail
        have K8 := (((H3.out.put 0 rfl 0 (.slice b4 (s.reads.length + 1) d4)).put 0 rfl 1 (.slice a2 s.nodes.length c2)).put 0 rfl 2 (.slice a3 s.writes.length c3))
        obtain ⟨wg, hw, hg⟩ : ∃ wg, wg = _ ∧ Hv w0 wg (cb (w.heap.size + 1 + 1) 31 #[.slice b4 (s.reads.length + 1) d4, .slice a2 s.nodes.length c2, .slice a3 s.writes.length c3] :: cb (w.heap.size + 1) 34 #[.int .i64 a, .int .i64 b] :: cb w.heap.size 31 #[.slice b4 (s.reads.length + 1) d4, .slice a2 s.nodes.length c2, .slice a3 s.writes.length c3] :: (B2 ++ L)) := ⟨_, rfl, by simpa using K8⟩
        rw [← hw]
        obtain ⟨p0, p1, p2, -, -, -⟩ := hg.c3 (w.heap.size + 1 + 1) 31 _ _ _ List.mem_cons_self
        exact bodyPost_ret (v := .agg #[.slice b4 (s.reads.length + 1) d4, .slice a2 s.nodes.length c2, .slice a3 s.writes.length c3]) (by simp [results, Try.results21, go_sem, p0, p1, p2, hu31]) rfl ⟨b4, d4, B2, rfl, by simpa [List.flatMap_append] using KG2.out, hg.tail.tail.tail⟩
end Go.Proofs.Ytgecokldbkamlaa.St
