/- transomlaw21: all; SetsNone. No condition. -/
import Derived.Test.YtgecokldbkamlaaStAI
set_option linter.unusedVariables false
set_option linter.unusedSimpArgs false
namespace Go.Proofs.Ytgecokldbkamlaa.St
open Go Go.RowKit Go.MapKept Go.Proofs.YtgecokldbkamlaaW.PrintWords Go.Proofs.YtgecokldbkamlaaW.PrintLast Go.Proofs.YtgecokldbkamlaaW.PrintMore Go.Proofs.Ytgecokldbkamlaa.Hv Go.Proofs.Ytgecokldbkamlaa.Mk Go.Proofs.Ytgecokldbkamlaa.Ka
variable {w0 w w1 : World} {g : Nat} {s s' x x' : St} {L L' L1 : List Ob} {v : Value}
def AllP (w0 : World) (L : List Ob) (g : Nat) (s : St) (e : Ending) (w' : World) : Prop := ∃ ws v, ws.Perm s.writes ∧ ws.Pairwise (fun x y => bl y.1 x.1 = false) ∧ e = .returned v ∧ JS w0 w' L g s { s with writes := ws } v
set_option maxHeartbeats 8000000 in
set_option maxRecDepth 100000 in
theorem all.calls (h : Sts w0 w g s L) (h1 : s.reads.length ≤ 1000000) (h2 : s.nodes.length ≤ 1000000) (h3 : s.writes.length ≤ 100000) : Calls Try.prog 13 #[.pointer (some ⟨g, 0, none⟩)] w (AllP w0 L g s) := by
  have hu31 := Try.underlying31
  have H0 := Aside0.mk (show Sts w0 (w.alloc (.cells #[.slice none 0 0, .slice none 0 0, .slice none 0 0] 31)) g s (cb w.heap.size 31 #[.slice none 0 0, .slice none 0 0, .slice none 0 0] :: L) from h.alloc _)
  have HL := Aside0.mk (And.intro h1 (And.intro h2 h3))
  clear h h1 h2 h3
  go_enter Try.func13, Try.ntmps13
  go_wp2_with (first | (go_at_call 14; go_loud (refine (reads.calls H0.out HL.out.1).mono ?_); rintro e w2 hq; obtain ⟨ad1, e1, A1, rfl, hG, hS⟩ := hq; have G1 := Aside0.mk hG; have H1 := Aside0.mk hS; clear hG hS) | (go_at_call 15; go_loud (refine (nodes.calls H1.out HL.out.2.1).mono ?_); rintro e w3 hq; obtain ⟨ad2, e2, A2, rfl, hG, hS⟩ := hq; have G2 := Aside0.mk hG; have H2 := Aside0.mk hS; clear hG hS) | (go_at_call 16; go_loud (refine (writes.calls H2.out HL.out.2.2).mono ?_); rintro e w4 hq; obtain ⟨ws, ad3, e3, A3, hp, hs, rfl, hG, hS⟩ := hq; have G3 := Aside0.mk (And.intro hp (And.intro hs hG)); have H3 := Aside0.mk hS; obtain ⟨z0, z1, z2, f0, f1, f2⟩ := hS.other.c3 w.heap.size 31 (.slice none 0 0) (.slice none 0 0) (.slice none 0 0) (by simp); clear hG hS hp hs))
  obtain ⟨wg, hw, hg⟩ : ∃ wg, wg = ((w4.setCell ⟨w.heap.size, 0, none⟩ (.slice ad1 s.reads.length e1)).setCell ⟨w.heap.size, 1, none⟩ (.slice ad2 s.nodes.length e2)).setCell ⟨w.heap.size, 2, none⟩ (.slice ad3 s.writes.length e3) ∧ Sts w0 wg g s ((A3 ++ (A2 ++ A1)) ++ (cb w.heap.size 31 #[.slice ad1 s.reads.length e1, .slice ad2 s.nodes.length e2, .slice ad3 s.writes.length e3] :: L)) := ⟨_, rfl, H3.out.frame (fun H hH => by
    have q0 : Hv w0 w4 ((H ++ (A3 ++ (A2 ++ A1))) ++ (cb w.heap.size 31 #[.slice none 0 0, .slice none 0 0, .slice none 0 0] :: L)) := by simpa [List.append_assoc] using hH
    have q1 := ((q0.putA0 0 (.slice ad1 s.reads.length e1) rfl).putA0 1 (.slice ad2 s.nodes.length e2) rfl).putA0 2 (.slice ad3 s.writes.length e3) rfl
    simpa [List.append_assoc] using q1)⟩
  rw [← hw]
  obtain ⟨t0, t1, t2, -, -, -⟩ := hg.other.c3 w.heap.size 31 (.slice ad1 s.reads.length e1) (.slice ad2 s.nodes.length e2) (.slice ad3 s.writes.length e3) (by simp)
  have hlen : ws.length = s.writes.length := G3.out.1.length_eq
  refine bodyPost_ret (v := .agg #[.slice ad1 s.reads.length e1, .slice ad2 s.nodes.length e2, .slice ad3 s.writes.length e3]) (by simp [results, Try.results13, go_sem, t0, t1, t2, hu31]) rfl ⟨ws, _, G3.out.1, G3.out.2.1, rfl, ad1, e1, ad2, e2, ad3, e3, A3 ++ (A2 ++ A1), by simp [sval, hlen], ⟨?_, ?_, ?_⟩, hg.frame (fun H hH => hH.drop (List.Sublist.append_left (List.Sublist.append_left (List.sublist_cons_self _ _) _) _))⟩
  · exact (Rw.of_gr G1.out).mono (fun p hp => by simp [hp])
  · exact (Rw.of_gr G2.out).mono (fun p hp => by simp [hp])
  · have h9 := Rw.of_gr G3.out.2.2
    simp only [hlen]
    exact h9.mono (fun p hp => by simp [hp])
set_option maxHeartbeats 8000000 in
set_option maxRecDepth 100000 in
theorem all.nil (hv : Hv w0 w L) : Calls Try.prog 13 #[.pointer none] w fun e w' => e = .returned (.agg #[.slice none 0 0, .slice none 0 0, .slice none 0 0]) ∧ Hv w0 w' L := by
  have hu31 := Try.underlying31
  have H0 := Aside0.mk (hv.alloc (.cells #[.slice none 0 0, .slice none 0 0, .slice none 0 0] 31))
  clear hv
  go_enter Try.func13, Try.ntmps13
  go_wp2_with (first | (go_at_call 14; refine (readsNil _).mono ?_; rintro e w2 ⟨rfl, hb⟩; have H1 := Aside0.mk (H0.out.call hb); clear hb) | (go_at_call 15; refine (nodesNil _).mono ?_; rintro e w3 ⟨rfl, hb⟩; have H2 := Aside0.mk (H1.out.call hb); clear hb) | (go_at_call 16; refine (writesNil _).mono ?_; rintro e w4 ⟨rfl, hb⟩; have H3 := Aside0.mk (H2.out.call hb); clear hb; obtain ⟨z0, z1, z2, f0, f1, f2⟩ := H3.out.c3 w.heap.size 31 (.slice none 0 0) (.slice none 0 0) (.slice none 0 0) List.mem_cons_self))
  obtain ⟨wg, hw, hg⟩ : ∃ wg, wg = ((w4.setCell ⟨w.heap.size, 0, none⟩ (.slice none 0 0)).setCell ⟨w.heap.size, 1, none⟩ (.slice none 0 0)).setCell ⟨w.heap.size, 2, none⟩ (.slice none 0 0) ∧ Hv w0 wg (cb w.heap.size 31 #[.slice none 0 0, .slice none 0 0, .slice none 0 0] :: L) := ⟨_, rfl, ((H3.out.put0 0 (.slice none 0 0) rfl).put0 1 (.slice none 0 0) rfl).put0 2 (.slice none 0 0) rfl⟩
  rw [← hw]
  obtain ⟨t0, t1, t2, -, -, -⟩ := hg.c3 w.heap.size 31 _ _ _ List.mem_cons_self
  exact bodyPost_ret (v := .agg #[.slice none 0 0, .slice none 0 0, .slice none 0 0]) (by simp [results, Try.results13, go_sem, t0, t1, t2, hu31]) rfl ⟨rfl, hg.tail⟩
end Go.Proofs.Ytgecokldbkamlaa.St
