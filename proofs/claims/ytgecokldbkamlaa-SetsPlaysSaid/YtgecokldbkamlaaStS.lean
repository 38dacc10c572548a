/- transomref21: Node where it is there. No condition. -/
import Derived.Test.YtgecokldbkamlaaStR
set_option linter.unusedVariables false
set_option linter.unusedSimpArgs false
namespace Go.Proofs.Ytgecokldbkamlaa.St
open Go Go.RowKit Go.MapKept Go.Proofs.YtgecokldbkamlaaW.PrintWords Go.Proofs.YtgecokldbkamlaaW.PrintLast Go.Proofs.YtgecokldbkamlaaW.PrintMore Go.Proofs.Ytgecokldbkamlaa.Hv Go.Proofs.Ytgecokldbkamlaa.Mk Go.Proofs.Ytgecokldbkamlaa.Ka
variable {w0 w w1 : World} {g : Nat} {s : St} {L L' : List Ob}

/-- The rows of the reference's sets. -/
structure RS (L : List Ob) (s : St) (a1 : Option Addr) (c1 : Nat) (a2 : Option Addr) (c2 : Nat) (a3 : Option Addr) (c3 : Nat) : Prop where
  r : Rw 36 3 L a1 s.reads.length c1 (s.reads.flatMap cel3)
  n : Rw 38 3 L a2 s.nodes.length c2 (s.nodes.flatMap cel3)
  w : Rw 40 5 L a3 s.writes.length c3 (s.writes.flatMap wcel)
variable {a1 a2 a3 : Option Addr} {c1 c2 c3 : Nat}
theorem RS.mono (h : RS L s a1 c1 a2 c2 a3 c3) (hL : ∀ p ∈ L, p ∈ L') : RS L' s a1 c1 a2 c2 a3 c3 := ⟨h.r.mono hL, h.n.mono hL, h.w.mono hL⟩
set_option maxHeartbeats 8000000 in
set_option maxRecDepth 100000 in
theorem rNode.old (hv : Hv w0 w L) (hl : s.nodes.length ≤ 100000) (hR : RS L s a1 c1 a2 c2 a3 c3) (a b ver : Int) {l1 l2 : List R3} {v : Int} (e : s.nodes = l1 ++ ((a, b), v) :: l2) (hn : ∀ x ∈ l1, x.1 ≠ (a, b)) :
    Calls Try.prog 22 #[.agg #[.slice a1 s.reads.length c1, .slice a2 s.nodes.length c2, .slice a3 s.writes.length c3], .agg #[.int .i64 a, .int .i64 b, .int .i64 ver]] w fun e w' => e = .returned (.agg #[.slice a1 s.reads.length c1, .slice a2 s.nodes.length c2, .slice a3 s.writes.length c3]) ∧ Hv w0 w' L := by
  have hu31 := Try.underlying31
  have hu38 := Try.underlying38
  have h1 := ((hv.alloc (.cells #[.slice a1 s.reads.length c1, .slice a2 s.nodes.length c2, .slice a3 s.writes.length c3] 31)).alloc (.cells #[.int .i64 a, .int .i64 b, .int .i64 ver] 38)).alloc (.cells #[.slice none 0 0, .slice none 0 0, .slice none 0 0] 31)
  obtain ⟨x0, x1, x2, -, -, -⟩ := h1.c3 w.heap.size 31 (.slice a1 s.reads.length c1) (.slice a2 s.nodes.length c2) (.slice a3 s.writes.length c3) (by simp)
  obtain ⟨y0, y1, y2, -, -, -⟩ := h1.c3 (w.heap.size + 1) 38 (.int .i64 a) (.int .i64 b) (.int .i64 ver) (by simp)
  have HV := Aside0.mk h1
  have HR := Aside0.mk hR
  have HE := Aside0.mk (And.intro e hn)
  have HL := Aside0.mk hl
  clear hv h1 hR e hn hl
  go_enter Try.func22, Try.ntmps22
  go_wp2_with fail
  refine (rnode.yes HV.out HL.out (HR.out.n.mono (fun p hp => by simp [hp])) a b HE.out.1 HE.out.2).mono ?_
  rintro e2 w2 ⟨rfl, h2⟩
  have h3 : Hv w0 w2 (cb (w.heap.size + 1 + 1) 31 #[.slice none 0 0, .slice none 0 0, .slice none 0 0] :: cb (w.heap.size + 1) 38 #[.int .i64 a, .int .i64 b, .int .i64 ver] :: cb w.heap.size 31 #[.slice a1 s.reads.length c1, .slice a2 s.nodes.length c2, .slice a3 s.writes.length c3] :: L) := by simpa [cb] using h2
  clear h2 x0 x1 x2 y0 y1 y2
  obtain ⟨x0, x1, x2, -, -, -⟩ := h3.c3 w.heap.size 31 (.slice a1 s.reads.length c1) (.slice a2 s.nodes.length c2) (.slice a3 s.writes.length c3) (by simp)
  obtain ⟨z0, z1, z2, f0, f1, f2⟩ := h3.c3 (w.heap.size + 1 + 1) 31 (.slice none 0 0) (.slice none 0 0) (.slice none 0 0) (by simp)
  have H3 := Aside0.mk h3
  clear h3
  have hge : decide ((l1.length : Int) ≥ 0) = true := decide_eq_true (by omega)
  go_wp2_with fail
  have K6 := (((H3.out.put 0 rfl 0 (.slice a1 s.reads.length c1)).put 0 rfl 1 (.slice a2 s.nodes.length c2)).put 0 rfl 2 (.slice a3 s.writes.length c3))
  obtain ⟨wf, hw, hf⟩ : ∃ wf, wf = _ ∧ Hv w0 wf (cb (w.heap.size + 1 + 1) 31 #[.slice a1 s.reads.length c1, .slice a2 s.nodes.length c2, .slice a3 s.writes.length c3] :: cb (w.heap.size + 1) 38 #[.int .i64 a, .int .i64 b, .int .i64 ver] :: cb w.heap.size 31 #[.slice a1 s.reads.length c1, .slice a2 s.nodes.length c2, .slice a3 s.writes.length c3] :: L) := ⟨_, rfl, by simpa using K6⟩
  rw [← hw]
  obtain ⟨p0, p1, p2, -, -, -⟩ := hf.c3 (w.heap.size + 1 + 1) 31 _ _ _ List.mem_cons_self
  exact bodyPost_ret (v := .agg #[.slice a1 s.reads.length c1, .slice a2 s.nodes.length c2, .slice a3 s.writes.length c3]) (by simp [results, Try.results22, go_sem, p0, p1, p2, hu31]) rfl ⟨rfl, hf.tail.tail.tail⟩
end Go.Proofs.Ytgecokldbkamlaa.St
