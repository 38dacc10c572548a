/- transomlaw21: awake, the walk. No condition. -/
import Derived.Test.YtgecokldbkamlaaStAH
set_option linter.unusedVariables false
set_option linter.unusedSimpArgs false
namespace Go.Proofs.Ytgecokldbkamlaa.St
open Go Go.RowKit Go.MapKept Go.Proofs.YtgecokldbkamlaaW.PrintWords Go.Proofs.YtgecokldbkamlaaW.PrintLast Go.Proofs.YtgecokldbkamlaaW.PrintMore Go.Proofs.Ytgecokldbkamlaa.Hv Go.Proofs.Ytgecokldbkamlaa.Mk Go.Proofs.Ytgecokldbkamlaa.Ka
variable {w0 w w1 : World} {g : Nat} {s s' x x' : St} {L L' L1 : List Ob} {v : Value}
set_option maxHeartbeats 16000000 in
set_option maxRecDepth 100000 in
theorem awake.calls (w : World) : Calls Try.prog 7 #[] w fun e w' => e = .returned (.bool true) ∧ Below w.heap.size w w' := by
  have hu34 := Try.underlying34
  have hu38 := Try.underlying38
  have hu40 := Try.underlying40
  have hu57 := Try.underlying57
  have hu36 := Try.underlying36
  have hu41 := Try.underlying41
  have hu27 := Try.underlying27
  have hu28 := Try.underlying28
  have hu29 := Try.underlying29
  go_enter Try.func7, Try.ntmps7
  go_upto_region 5 with (go_at_call 8; go_loud (refine (new.calls (Hv.start w)).mono ?_); rintro e w1 ⟨g, rfl, h1⟩)
  have H1 := Aside0.mk (show Sts w _ g ⟨[], [], []⟩ (cb (w1.heap.size + 1) 34 #[.int .i64 2, .int .i64 1] :: cb w1.heap.size 34 #[.int .i64 1, .int .i64 1] :: []) by
    have := (h1.alloc (.cells #[.int .i64 1, .int .i64 1] 34)).alloc (.cells #[.int .i64 2, .int .i64 1] 34)
    simpa [cb] using this)
  clear h1
  obtain ⟨x0, x1, -, -⟩ := H1.out.other.c2 w1.heap.size 34 (.int .i64 1) (.int .i64 1) (by simp)
  obtain ⟨y0, y1, -, -⟩ := H1.out.other.c2 (w1.heap.size + 1) 34 (.int .i64 2) (.int .i64 1) (by simp)
  go_upto_region 6 with (go_at_call 17; go_loud (refine (node.any H1.out (by simp) 1 1 1).mono ?_); rintro e w2 ⟨rfl, hq⟩; clear x0 x1 y0 y1)
  have H2 := Aside0.mk (show Sts w w2 g ⟨[], [((1, 1), 1)], []⟩ (cb (w1.heap.size + 1) 34 #[.int .i64 2, .int .i64 1] :: cb w1.heap.size 34 #[.int .i64 1, .int .i64 1] :: []) by have h9 := hq; simp only [st1] at h9; exact h9)
  clear hq
  obtain ⟨x0, x1, -, -⟩ := H2.out.other.c2 w1.heap.size 34 (.int .i64 1) (.int .i64 1) (by simp)
  obtain ⟨y0, y1, -, -⟩ := H2.out.other.c2 (w1.heap.size + 1) 34 (.int .i64 2) (.int .i64 1) (by simp)
  go_upto_region 7 with (go_at_call 17; go_loud (refine (node.any H2.out (by simp) 1 1 9).mono ?_); rintro e w3 ⟨rfl, hq⟩; clear x0 x1 y0 y1)
  have H3 := Aside0.mk (show Sts w w3 g ⟨[], [((1, 1), 1)], []⟩ (cb (w1.heap.size + 1) 34 #[.int .i64 2, .int .i64 1] :: cb w1.heap.size 34 #[.int .i64 1, .int .i64 1] :: []) by have h9 := hq; simp only [st2] at h9; exact h9)
  clear hq
  obtain ⟨x0, x1, -, -⟩ := H3.out.other.c2 w1.heap.size 34 (.int .i64 1) (.int .i64 1) (by simp)
  obtain ⟨y0, y1, -, -⟩ := H3.out.other.c2 (w1.heap.size + 1) 34 (.int .i64 2) (.int .i64 1) (by simp)
  have H3r := Aside0.mk (H3.out.alloc (.cells #[.int .i64 1, .int .i64 1, .int .i64 0, .int .i64 0, .int .i64 1, .int .i64 3, .bool false, .int .i64 2, .int .i64 1, .int .i64 1, .int .i64 1, .int .i64 0, .int .i64 1, .bool true] 57))
  go_upto_region 8 with (go_at_call 18; go_loud (refine (turned.calls H3r.out tsA (ad := some ⟨w3.heap.size, 0, none⟩) (c := 2) (Rdy.of_rw (e := 57) (c := 2) ⟨rfl, Nat.le_refl _, fun _ => ⟨w3.heap.size, 0, _, rfl, List.mem_cons_self, fun i _ => by rw [Nat.zero_add]; simp [tsA, tcel]⟩⟩) (by simp [tsA])).mono ?_); rintro e w4 ⟨rfl, hq⟩; clear x0 x1 y0 y1)
  have H4 := Aside0.mk (show Sts w w4 g ⟨[], [((1, 1), 3), ((2, 1), 1)], []⟩ (cb (w1.heap.size + 1) 34 #[.int .i64 2, .int .i64 1] :: cb w1.heap.size 34 #[.int .i64 1, .int .i64 1] :: []) by have h9 := hq.tail; simp only [st3] at h9; exact h9)
  clear hq
  obtain ⟨x0, x1, -, -⟩ := H4.out.other.c2 w1.heap.size 34 (.int .i64 1) (.int .i64 1) (by simp)
  obtain ⟨y0, y1, -, -⟩ := H4.out.other.c2 (w1.heap.size + 1) 34 (.int .i64 2) (.int .i64 1) (by simp)
  go_upto_region 9 with (go_at_call 19; go_loud (refine (read.any H4.out (by simp) 1 1 5).mono ?_); rintro e w5 ⟨rfl, hq⟩; clear x0 x1 y0 y1)
  have H5 := Aside0.mk (show Sts w w5 g ⟨[((1, 1), 5)], [((1, 1), 3), ((2, 1), 1)], []⟩ (cb (w1.heap.size + 1) 34 #[.int .i64 2, .int .i64 1] :: cb w1.heap.size 34 #[.int .i64 1, .int .i64 1] :: []) by have h9 := hq; simp only [st4] at h9; exact h9)
  clear hq
  obtain ⟨x0, x1, -, -⟩ := H5.out.other.c2 w1.heap.size 34 (.int .i64 1) (.int .i64 1) (by simp)
  obtain ⟨y0, y1, -, -⟩ := H5.out.other.c2 (w1.heap.size + 1) 34 (.int .i64 2) (.int .i64 1) (by simp)
  go_upto_region 10 with (go_at_call 19; go_loud (refine (read.any H5.out (by simp) 1 1 6).mono ?_); rintro e w6 ⟨rfl, hq⟩; clear x0 x1 y0 y1)
  have H6 := Aside0.mk (show Sts w w6 g ⟨[((1, 1), 5)], [((1, 1), 3), ((2, 1), 1)], []⟩ (cb (w1.heap.size + 1) 34 #[.int .i64 2, .int .i64 1] :: cb w1.heap.size 34 #[.int .i64 1, .int .i64 1] :: []) by have h9 := hq; simp only [st5] at h9; exact h9)
  clear hq
  obtain ⟨x0, x1, -, -⟩ := H6.out.other.c2 w1.heap.size 34 (.int .i64 1) (.int .i64 1) (by simp)
  obtain ⟨y0, y1, -, -⟩ := H6.out.other.c2 (w1.heap.size + 1) 34 (.int .i64 2) (.int .i64 1) (by simp)
  go_upto_region 11 with (go_at_call 20; go_loud (refine (write.all H6.out (wB 49)).mono ?_); rintro e w7 ⟨rfl, hq⟩; clear x0 x1 y0 y1)
  have H7 := Aside0.mk (show Sts w w7 g ⟨[((1, 1), 5)], [((1, 1), 3), ((2, 1), 1)], [wB 49]⟩ (cb (w1.heap.size + 1) 34 #[.int .i64 2, .int .i64 1] :: cb w1.heap.size 34 #[.int .i64 1, .int .i64 1] :: []) by have h9 := hq; simp only [st6] at h9; exact h9)
  clear hq
  obtain ⟨x0, x1, -, -⟩ := H7.out.other.c2 w1.heap.size 34 (.int .i64 1) (.int .i64 1) (by simp)
  obtain ⟨y0, y1, -, -⟩ := H7.out.other.c2 (w1.heap.size + 1) 34 (.int .i64 2) (.int .i64 1) (by simp)
  go_upto_region 12 with (go_at_call 20; go_loud (refine (write.all H7.out wA).mono ?_); rintro e w8 ⟨rfl, hq⟩; clear x0 x1 y0 y1)
  have H8 := Aside0.mk (show Sts w w8 g ⟨[((1, 1), 5)], [((1, 1), 3), ((2, 1), 1)], [wB 49, wA]⟩ (cb (w1.heap.size + 1) 34 #[.int .i64 2, .int .i64 1] :: cb w1.heap.size 34 #[.int .i64 1, .int .i64 1] :: []) by have h9 := hq; simp only [st7] at h9; exact h9)
  clear hq
  obtain ⟨x0, x1, -, -⟩ := H8.out.other.c2 w1.heap.size 34 (.int .i64 1) (.int .i64 1) (by simp)
  obtain ⟨y0, y1, -, -⟩ := H8.out.other.c2 (w1.heap.size + 1) 34 (.int .i64 2) (.int .i64 1) (by simp)
  go_upto_region 13 with (go_at_call 20; go_loud (refine (write.all H8.out (wB 50)).mono ?_); rintro e w9 ⟨rfl, hq⟩; clear x0 x1 y0 y1)
  have H9 := Aside0.mk (show Sts w w9 g ⟨[((1, 1), 5)], [((1, 1), 3), ((2, 1), 1)], [wB 50, wA]⟩ (cb (w1.heap.size + 1) 34 #[.int .i64 2, .int .i64 1] :: cb w1.heap.size 34 #[.int .i64 1, .int .i64 1] :: []) by have h9 := hq; simp only [st8] at h9; exact h9)
  clear hq
  obtain ⟨x0, x1, -, -⟩ := H9.out.other.c2 w1.heap.size 34 (.int .i64 1) (.int .i64 1) (by simp)
  obtain ⟨y0, y1, -, -⟩ := H9.out.other.c2 (w1.heap.size + 1) 34 (.int .i64 2) (.int .i64 1) (by simp)
  go_upto_region 14 with (go_at_call 10; go_loud (refine (own.all H9.out ⟨#[98]⟩).mono ?_); simp only [st9, wB, wcel]; rintro e w10 ⟨rfl, hq⟩; clear x0 x1 y0 y1)
  have H10 := Aside0.mk (hq.alloc (.cells #[.string ⟨#[98]⟩, .int .i64 0, .int .i64 0, .string ⟨#[50]⟩, .bool false] 40))
  clear hq
  go_upto_region 15 with (first | (go_at_call 16; go_loud (refine (writes.calls H10.out (by simp)).mono ?_); rintro e w11 hq; obtain ⟨ws, ad1, e1, A1, hp, hs, rfl, hG, hS⟩ := hq; have hws := two_sorted hp hs; subst hws; have G1 := Aside0.mk hG; have H11 := Aside0.mk hS; clear hp hs hG hS; simp only [List.length_cons, List.length_nil, Nat.zero_add, Nat.reduceAdd]) | (go_at_call 15; go_loud (refine (nodes.calls H11.out (by simp)).mono ?_); rintro e w12 hq; obtain ⟨ad2, e2, A2, rfl, hG, hS⟩ := hq; have G2 := Aside0.mk hG; have H12 := Aside0.mk hS; clear hG hS; simp only [List.length_cons, List.length_nil, Nat.zero_add, Nat.reduceAdd]))
  go_upto_region 17 with (go_at_call 14; go_loud (refine (reads.calls H12.out (by simp)).mono ?_); rintro e w13 hq; obtain ⟨ad3, e3, A3, rfl, hG, hS⟩ := hq; have G3 := Aside0.mk hG; have H13 := Aside0.mk hS; clear hG hS; simp only [List.length_cons, List.length_nil, Nat.zero_add, Nat.reduceAdd])
  obtain ⟨gb1, cur1, ea1, rfl, -, -, -, hc1⟩ := Gr.addr G1.out (by simp)
  obtain ⟨gb2, cur2, ea2, rfl, -, -, -, hc2⟩ := Gr.addr G2.out (by simp)
  cases ea1
  cases ea2
  have m2 := H13.out.other.cell (g := gb2) (t := 38) (cs := cur2) (by simp) 2 ((hc2 2 (by simp)).trans (by simp [cel3] : _ = some (.int .i64 3)))
  have m5 := H13.out.other.cell (g := gb2) (t := 38) (cs := cur2) (by simp) 5 ((hc2 5 (by simp)).trans (by simp [cel3] : _ = some (.int .i64 1)))
  have l0 := (hc1 0 (by simp)).trans (by simp [wcel, wA] : _ = some (.string ⟨#[97]⟩))
  clear hc2 hc1
  go_wp2_with (go_at_call 14; go_loud (refine (reads.calls H13.out (by simp)).mono ?_); rintro e w14 hq; obtain ⟨ad4, e4, A4, rfl, hG, hS⟩ := hq; have H14 := Aside0.mk hS; obtain ⟨gb4, cur4, ea4, rfl, -, -, -, hc4⟩ := Gr.addr hG (by simp); cases ea4; clear hG; simp only [List.length_cons, List.length_nil, Nat.zero_add, Nat.reduceAdd]; have q2 := hS.other.cell (g := gb4) (t := 36) (cs := cur4) (by simp) 2 ((hc4 2 (by simp)).trans (by simp [cel3] : _ = some (.int .i64 5))); have q0 := hS.other.cell (g := gb1) (t := 40) (cs := cur1) (by simp) 0 l0; have t3 := hS.other.cell (g := w10.heap.size) (t := 40) (cs := #[.string ⟨#[98]⟩, .int .i64 0, .int .i64 0, .string ⟨#[50]⟩, .bool false]) (by simp) 3 rfl; clear hS hc4)
  exact bodyPost_ret (v := .bool true) (by simp [results, Try.results7, go_sem]) rfl ⟨rfl, H14.out.bel⟩
end Go.Proofs.Ytgecokldbkamlaa.St
