/- transomref21: Turned, the walk. No condition. -/
import Derived.Test.YtgecokldbkamlaaStAB
set_option linter.unusedVariables false
set_option linter.unusedSimpArgs false
namespace Go.Proofs.Ytgecokldbkamlaa.St
open Go Go.RowKit Go.MapKept Go.Proofs.YtgecokldbkamlaaW.PrintWords Go.Proofs.YtgecokldbkamlaaW.PrintLast Go.Proofs.YtgecokldbkamlaaW.PrintMore Go.Proofs.Ytgecokldbkamlaa.Hv Go.Proofs.Ytgecokldbkamlaa.Mk Go.Proofs.Ytgecokldbkamlaa.Ka
variable {w0 w w1 : World} {g : Nat} {s : St} {L L' : List Ob} {a1 a2 a3 : Option Addr} {c1 c2 c3 : Nat} {v : Value}
theorem ts_of (s' : St) {wr : World} {b : Nat} {mine : List Rf} {v5 : Value} (h : TS w0 wr L b s' mine v5) {q : List R3 × List Rf} (e1 : q.1 = s'.nodes) (e2 : q.2 = mine) (e3 : s'.reads = s.reads) (e4 : s'.writes = s.writes) : TS w0 wr L b { s with nodes := q.1 } q.2 v5 := by
  obtain ⟨r, n, wq⟩ := s'
  simp only at e1 e3 e4
  subst e1 e2 e3 e4
  exact h
theorem pswap (A M X : List Ob) : (M ++ (A ++ X)).Perm (A ++ (M ++ X)) := by
  rw [← List.append_assoc, ← List.append_assoc]
  exact List.perm_append_comm.append_right X
/-- The sets' box takes another value. -/
theorem ts_put {wr : World} {b : Nat} {s' : St} {mine : List Rf} {v5 : Value} {M A : List Ob} {o0 o1 o2 : Value} {a1 a2 a3 : Option Addr} {c1 c2 c3 : Nat} (hG : Gr 34 2 v5 mine.length (mine.flatMap cel2) M) (hR : RS A s' a1 c1 a2 c2 a3 c3)
    (hv : Hv w0 wr (A ++ (M ++ (cb (b + 1) 31 #[.slice none 0 0, .slice none 0 0, .slice none 0 0] :: cb b 31 #[o0, o1, o2] :: L)))) :
    TS w0 (((wr.setCell ⟨b, 0, none⟩ (.slice a1 s'.reads.length c1)).setCell ⟨b, 1, none⟩ (.slice a2 s'.nodes.length c2)).setCell ⟨b, 2, none⟩ (.slice a3 s'.writes.length c3)) L b s' mine v5 := by
  have q0 : Hv w0 wr ((M ++ A) ++ (cb (b + 1) 31 #[.slice none 0 0, .slice none 0 0, .slice none 0 0] :: cb b 31 #[o0, o1, o2] :: L)) := by
    rw [List.append_assoc]; exact hv.perm (pswap A M _)
  have q1 := ((q0.putA1 0 (.slice a1 s'.reads.length c1) rfl).putA1 1 (.slice a2 s'.nodes.length c2) rfl).putA1 2 (.slice a3 s'.writes.length c3) rfl
  rw [List.append_assoc] at q1
  exact ⟨M, A, a1, c1, a2, c2, a3, c3, hG, hR, q1⟩
theorem inn_r (s : St) (x : Tn) (mine : List Rf) : (inn s x mine).reads = s.reads ∧ (inn s x mine).writes = s.writes := by unfold inn; split <;> exact ⟨rfl, rfl⟩
set_option maxHeartbeats 8000000 in
set_option maxRecDepth 100000 in
theorem rTurned.gen (h : RV w0 w L s v) (ts : List Tn) {ad : Option Addr} {c : Nat} (hT : Rdy 7 w0 L ad ts.length (ts.flatMap tcel)) (hb : ts.length ≤ 9223372036854775807) (hn : ∀ k, (trn0 s.nodes (ts.take k)).2.length ≤ 100000 ∧ (trn0 s.nodes (ts.take k)).1.length ≤ 100000 ∧ (k < ts.length → (trn0 s.nodes (ts.take k)).1.length + 1 ≤ 100000)) :
    Calls Try.prog 24 #[v, .slice ad ts.length c] w (RP w0 L { s with nodes := trn s.nodes ts }) := by
  have hu31 := Try.underlying31
  have hu34 := Try.underlying34
  have hu38 := Try.underlying38
  have hu57 := Try.underlying57
  have hu41 := Try.underlying41
  have hu28 := Try.underlying28
  have hu75 := Try.underlying75
  obtain ⟨a1, c1, a2, c2, a3, c3, A, rfl, h1, h2⟩ := h
  unfold sval
  have HS := Aside0.mk (show TS w0 ((w.alloc (.cells #[.slice a1 s.reads.length c1, .slice a2 s.nodes.length c2, .slice a3 s.writes.length c3] 31)).alloc (.cells #[.slice none 0 0, .slice none 0 0, .slice none 0 0] 31)) L w.heap.size s [] (.slice none 0 0) by
    refine ⟨[], A, a1, c1, a2, c2, a3, c3, Gr.nil _ _, h1, ?_⟩
    have h9 := (h2.alloc (.cells #[.slice a1 s.reads.length c1, .slice a2 s.nodes.length c2, .slice a3 s.writes.length c3] 31)).alloc (.cells #[.slice none 0 0, .slice none 0 0, .slice none 0 0] 31)
    refine h9.perm ?_
    have := toFront [cb (w.heap.size + 1) 31 #[.slice none 0 0, .slice none 0 0, .slice none 0 0], cb w.heap.size 31 #[.slice a1 s.reads.length c1, .slice a2 s.nodes.length c2, .slice a3 s.writes.length c3]] A L rfl
    simpa [cb] using this.symm)
  have HT := Aside0.mk hT
  have HN := Aside0.mk hn
  clear h1 h2 hT hn
  go_enter Try.func24, Try.ntmps24
  go_wp2_with fail
  go_loopg [5, 6] ts.length (fun kq v5 v6 wr => ∃ (k : Nat), v6 = .int .i64 (k : Int) ∧ kq = ts.length - k ∧ k ≤ ts.length ∧ Aside0 (TS w0 wr L w.heap.size { s with nodes := (trn0 s.nodes (ts.take k)).1 } (trn0 s.nodes (ts.take k)).2 v5))
  case atStart => exact ⟨0, rfl, rfl, Nat.zero_le _, HS⟩
  case round =>
    obtain ⟨k, rfl, rfl, hk, HP⟩ := hrel
    clear HS
    obtain ⟨hpl2, hpl, hplt⟩ := HN.out k
    generalize hp : trn0 s.nodes (ts.take k) = p at HP hpl hpl2 hplt
    obtain ⟨p1, p2⟩ := p
    simp only at HP hpl hpl2 hplt
    have HPP := Aside0.mk hp
    have HPM := Aside0.mk hplt
    have HP2L := Aside0.mk hpl2
    have hk7 : k ≤ 9223372036854775807 := by omega
    clear hp hpl hpl2 hplt
    generalize hs1 : ({ s with nodes := p1 } : St) = s1 at HP
    have e1 : s1.nodes = p1 := by rw [← hs1]
    have e2 : s1.reads = s.reads ∧ s1.writes = s.writes := by rw [← hs1]; exact ⟨rfl, rfl⟩
    have HE := Aside0.mk (And.intro e1 e2)
    clear hs1 e1 e2
    by_cases hltn : k < ts.length
    · have hlt' : (k : Int) < (ts.length : Int) := by omega
      have hk8 : k + 1 ≤ 9223372036854775807 := by omega
      obtain ⟨M, A, a1, c1, a2, c2, a3, c3, hG, hR, hv⟩ := HP.out
      obtain ⟨adl, ea, hcl⟩ := (HT.out wr _ hv (fun p hp => by simp [hp])).2 (by omega)
      cases ea
      obtain ⟨⟨⟨n0, n1⟩, ⟨f0, f1⟩, old, new, fr⟩, hd⟩ : ∃ d, ts[k]? = some d := ⟨_, List.getElem?_eq_getElem hltn⟩
      have z0 := hcl (k * 7) _ (tcel_at ts k 0 _ (.int .i64 n0) hd rfl)
      have z1 := hcl (k * 7 + 1) _ (tcel_at ts k 1 _ (.int .i64 n1) hd rfl)
      have z2 := hcl (k * 7 + 2) _ (tcel_at ts k 2 _ (.int .i64 f0) hd rfl)
      have z3 := hcl (k * 7 + 3) _ (tcel_at ts k 3 _ (.int .i64 f1) hd rfl)
      have z4 := hcl (k * 7 + 4) _ (tcel_at ts k 4 _ (.int .i64 old) hd rfl)
      have z5 := hcl (k * 7 + 5) _ (tcel_at ts k 5 _ (.int .i64 new) hd rfl)
      have z6 := hcl (k * 7 + 6) _ (tcel_at ts k 6 _ (.bool fr) hd rfl)
      rw [add_next _ _ _ (by omega)] at z1 z2 z3 z4 z5 z6
      have HS1 := Aside0.mk (HP.out.alloc (.cells #[.int .i64 n0, .int .i64 n1, .int .i64 f0, .int .i64 f1, .int .i64 old, .int .i64 new, .bool fr] 57))
      have hk1 := hv.alloc (.cells #[.int .i64 n0, .int .i64 n1, .int .i64 f0, .int .i64 f1, .int .i64 old, .int .i64 new, .bool fr] 57)
      obtain ⟨y0, y1, y2, y3, y4, y5, y6⟩ := c7 hk1 wr.heap.size 57 _ _ _ _ _ _ _ List.mem_cons_self
      have HD := Aside0.mk (show trn0 s.nodes (ts.take (k + 1)) = tstp (p1, p2) ⟨(n0, n1), (f0, f1), old, new, fr⟩ by rw [List.take_add_one, hd, Option.toList_some, trn0_snoc, HPP.out])
      clear hcl hd
      cases fr
      · obtain ⟨b0, b1, b2, fb0, fb1, fb2⟩ := hk1.c3 w.heap.size 31 (.slice a1 s1.reads.length c1) (.slice a2 s1.nodes.length c2) (.slice a3 s1.writes.length c3) (by simp)
        have HK := Aside0.mk (And.intro hG (And.intro hR hk1))
        have hl9 : s1.nodes.length ≤ 100000 := by have h8 := HPM.out hltn; have h9 := HE.out.1; rw [h9]; omega
        have HSL := Aside0.mk hl9
        clear hG hR hv hk1 hl9
        by_cases hm : (n0, n1) ∈ s1.nodes.map (·.1)
        · obtain ⟨l1, l2, u, e, hne⟩ := split_of_mem hm
          have HEN := Aside0.mk (And.intro e hne)
          have hlt1 : l1.length < s1.nodes.length := by rw [e]; simp
          have hd1 : s1.nodes[l1.length]? = some ((n0, n1), u) := by rw [e]; simp
          have hlt1' : (l1.length : Int) < (s1.nodes.length : Int) := by omega
          have hge1 : decide ((l1.length : Int) ≥ 0) = true := decide_eq_true (by omega)
          have HR1 := Aside0.mk (HK.out.2.1.n.mono (L' := cb wr.heap.size 57 #[.int .i64 n0, .int .i64 n1, .int .i64 f0, .int .i64 f1, .int .i64 old, .int .i64 new, .bool false] :: (M ++ (A ++ (cb (w.heap.size + 1) 31 #[.slice none 0 0, .slice none 0 0, .slice none 0 0] :: cb w.heap.size 31 #[.slice a1 s1.reads.length c1, .slice a2 s1.nodes.length c2, .slice a3 s1.writes.length c3] :: L)))) (fun p hp => List.mem_cons_of_mem _ (List.mem_append_right _ (List.mem_append_left _ hp))))
          obtain ⟨adn, ea2, -⟩ := HR1.out.cells HK.out.2.2 (by omega)
          cases ea2
          have HD1 := Aside0.mk (And.intro hlt1 hd1)
          clear e hne hm hd1 hlt1
          go_wp2_with (go_at_call 30; go_loud (refine (rnode.yes (w0 := w0) (L := cb wr.heap.size 57 #[.int .i64 n0, .int .i64 n1, .int .i64 f0, .int .i64 f1, .int .i64 old, .int .i64 new, .bool false] :: (M ++ (A ++ (cb (w.heap.size + 1) 31 #[.slice none 0 0, .slice none 0 0, .slice none 0 0] :: cb w.heap.size 31 #[.slice a1 s1.reads.length c1, .slice (some adn) s1.nodes.length c2, .slice a3 s1.writes.length c3] :: L)))) HK.out.2.2 HSL.out (HK.out.2.1.n.mono (fun p hp => List.mem_cons_of_mem _ (List.mem_append_right _ (List.mem_append_left _ hp)))) n0 n1 HEN.out.1 HEN.out.2).mono ?_); rintro e2 w2 ⟨rfl, hv9⟩; clear b0 b1 b2 fb0 fb1 fb2 y0 y1 y2 y3 y4 y5 y6; obtain ⟨b0, b1, b2, fb0, fb1, fb2⟩ := hv9.c3 w.heap.size 31 (.slice a1 s1.reads.length c1) (.slice (some adn) s1.nodes.length c2) (.slice a3 s1.writes.length c3) (by simp); obtain ⟨y0, y1, y2, y3, y4, y5, y6⟩ := c7 hv9 wr.heap.size 57 (.int .i64 n0) (.int .i64 n1) (.int .i64 f0) (.int .i64 f1) (.int .i64 old) (.int .i64 new) (.bool false) List.mem_cons_self; obtain ⟨adn', ea2, hcn⟩ := HR1.out.cells hv9 (Nat.lt_of_le_of_lt (Nat.zero_le _) HD1.out.1); cases ea2; have v2 := hcn (l1.length * 3 + 2) _ (cel3_at s1.nodes l1.length 2 _ (.int .i64 u) HD1.out.2 rfl); rw [add_next _ _ _ (by decide)] at v2; clear hcn; have H9 := Aside0.mk hv9; clear hv9)
          by_cases huo : u = old
          · subst huo
            go_quiet (fail)
            have HB0 := Aside0.mk (show (0 + s1.nodes.length) * 24 ≤ 140737488355328 by have := HSL.out; omega)
            have HB1 := Aside0.mk (show (p2.length + 1) * 16 ≤ 140737488355328 by have := HP2L.out; omega)
            go_upto_region 15 with (at_builtin; go_loud (refine append_rows (w0 := w0) (A := []) (L := cb wr.heap.size 57 #[.int .i64 n0, .int .i64 n1, .int .i64 f0, .int .i64 f1, .int .i64 u, .int .i64 new, .bool false] :: (M ++ (A ++ (cb (w.heap.size + 1) 31 #[.slice none 0 0, .slice none 0 0, .slice none 0 0] :: cb w.heap.size 31 #[.slice a1 s1.reads.length c1, .slice (some adn) s1.nodes.length c2, .slice a3 s1.writes.length c3] :: L)))) rfl (.const (.slice none 0 0)) (.tmp 61) 28 38 (.agg #[.int .i64 0, .int .i64 0, .int .i64 0]) 3 24 rfl Try.underlying28 info38 rfl (by decide) (by decide) (.slice none 0 0) 0 [] rfl (some adn) s1.nodes.length c2 (s1.nodes.flatMap cel3) rfl (cel3_one _) (Gr.nil _ _) (H9.out.call (by repeat (first | exact Below.refl _ _ | apply below_drew1 | apply pw_below_drewN))) (HR1.out.rd (H9.out.call (by repeat (first | exact Below.refl _ _ | apply below_drew1 | apply pw_below_drewN)))) HB0.out ?_); intro v1 w5 B1 hG hH; rw [Nat.zero_add, List.nil_append] at hG; obtain ⟨ad5, d3, rfl, hd3⟩ := hG.form; clear b0 b1 b2 fb0 fb1 fb2 y0 y1 y2 y3 y4 y5 y6 v2; obtain ⟨b0, b1, b2, fb0, fb1, fb2⟩ := hH.right.c3 w.heap.size 31 (.slice a1 s1.reads.length c1) (.slice (some adn) s1.nodes.length c2) (.slice a3 s1.writes.length c3) (by simp); have KG := Aside0.mk hG; have KH := Aside0.mk hH; clear hG hH hd3)
            obtain ⟨gb, cur, ea5, rfl, hcur, hset⟩ := Gr.setc KG.out (Nat.lt_of_le_of_lt (Nat.zero_le _) HD1.out.1)
            cases ea5
            have hcu := (hcur (l1.length * 3 + 2) (by have := HD1.out.1; omega)).trans (cel3_at s1.nodes l1.length 2 _ (.int .i64 u) HD1.out.2 rfl)
            have KS := Aside0.mk hset
            obtain ⟨W6, hW, hP⟩ : ∃ W6, W6 = w5.setCell ⟨w.heap.size, 1, none⟩ (.slice (some ⟨gb, 0, none⟩) s1.nodes.length d3) ∧ Hv w0 W6 (cb gb 38 cur :: cb wr.heap.size 57 #[.int .i64 n0, .int .i64 n1, .int .i64 f0, .int .i64 f1, .int .i64 u, .int .i64 new, .bool false] :: (M ++ (A ++ (cb (w.heap.size + 1) 31 #[.slice none 0 0, .slice none 0 0, .slice none 0 0] :: cb w.heap.size 31 #[.slice a1 s1.reads.length c1, .slice (some ⟨gb, 0, none⟩) s1.nodes.length d3, .slice a3 s1.writes.length c3] :: L)))) := ⟨_, rfl, by
              have q0 : Hv w0 w5 ((cb gb 38 cur :: cb wr.heap.size 57 #[.int .i64 n0, .int .i64 n1, .int .i64 f0, .int .i64 f1, .int .i64 u, .int .i64 new, .bool false] :: (M ++ A)) ++ (cb (w.heap.size + 1) 31 #[.slice none 0 0, .slice none 0 0, .slice none 0 0] :: cb w.heap.size 31 #[.slice a1 s1.reads.length c1, .slice (some adn) s1.nodes.length c2, .slice a3 s1.writes.length c3] :: L)) := by
                have := KH.out
                simpa [List.append_assoc] using this
              have q1 := q0.putA1 1 (.slice (some ⟨gb, 0, none⟩) s1.nodes.length d3) rfl
              simpa [List.append_assoc] using q1⟩
            rw [← hW]
            clear hW b0 b1 b2 fb0 fb1 fb2 hcur hset
            obtain ⟨b0, b1, b2, -, -, -⟩ := hP.c3 w.heap.size 31 (.slice a1 s1.reads.length c1) (.slice (some ⟨gb, 0, none⟩) s1.nodes.length d3) (.slice a3 s1.writes.length c3) (by simp)
            obtain ⟨y0, y1, y2, y3, y4, y5, y6⟩ := c7 hP wr.heap.size 57 (.int .i64 n0) (.int .i64 n1) (.int .i64 f0) (.int .i64 f1) (.int .i64 u) (.int .i64 new) (.bool false) (by simp)
            have v2 := hP.cell (g := gb) (t := 38) (cs := cur) (by simp) (l1.length * 3 + 2) hcu
            have fv2 := hP.frozen (g := gb) (t := 38) (cs := cur) (by simp) (l1.length * 3 + 2)
            have HP6 := Aside0.mk hP
            clear hP hcu
            go_upto_region 16 with (fail)
            obtain ⟨W7, hW, hP⟩ : ∃ W7, W7 = W6.setCell ⟨gb, l1.length * 3 + 2, none⟩ (.int .i64 new) ∧ Hv w0 W7 (cb gb 38 (cur.setIfInBounds (l1.length * 3 + 2) (.int .i64 new)) :: cb wr.heap.size 57 #[.int .i64 n0, .int .i64 n1, .int .i64 f0, .int .i64 f1, .int .i64 u, .int .i64 new, .bool false] :: (M ++ (A ++ (cb (w.heap.size + 1) 31 #[.slice none 0 0, .slice none 0 0, .slice none 0 0] :: cb w.heap.size 31 #[.slice a1 s1.reads.length c1, .slice (some ⟨gb, 0, none⟩) s1.nodes.length d3, .slice a3 s1.writes.length c3] :: L)))) := ⟨_, rfl, HP6.out.put0 _ _ rfl⟩
            rw [← hW]
            clear hW b0 b1 b2 y0 y1 y2 y3 y4 y5 y6 v2 fv2
            obtain ⟨y0, y1, y2, y3, y4, y5, y6⟩ := c7 hP wr.heap.size 57 (.int .i64 n0) (.int .i64 n1) (.int .i64 f0) (.int .i64 f1) (.int .i64 u) (.int .i64 new) (.bool false) (by simp)
            have hP' : Hv w0 W7 (M ++ (cb gb 38 (cur.setIfInBounds (l1.length * 3 + 2) (.int .i64 new)) :: cb wr.heap.size 57 #[.int .i64 n0, .int .i64 n1, .int .i64 f0, .int .i64 f1, .int .i64 u, .int .i64 new, .bool false] :: (A ++ (cb (w.heap.size + 1) 31 #[.slice none 0 0, .slice none 0 0, .slice none 0 0] :: cb w.heap.size 31 #[.slice a1 s1.reads.length c1, .slice (some ⟨gb, 0, none⟩) s1.nodes.length d3, .slice a3 s1.writes.length c3] :: L)))) := hP.perm (toFront M [cb gb 38 (cur.setIfInBounds (l1.length * 3 + 2) (.int .i64 new)), cb wr.heap.size 57 #[.int .i64 n0, .int .i64 n1, .int .i64 f0, .int .i64 f1, .int .i64 u, .int .i64 new, .bool false]] (A ++ (cb (w.heap.size + 1) 31 #[.slice none 0 0, .slice none 0 0, .slice none 0 0] :: cb w.heap.size 31 #[.slice a1 s1.reads.length c1, .slice (some ⟨gb, 0, none⟩) s1.nodes.length d3, .slice a3 s1.writes.length c3] :: L)) rfl)
            have HP7 := Aside0.mk hP'
            clear hP hP'
            obtain ⟨adm, cm, rfl, -⟩ := HK.out.1.form
            go_wp2_with (at_builtin; go_loud (refine append_list (w0 := w0) (A := M) (L := cb gb 38 (cur.setIfInBounds (l1.length * 3 + 2) (.int .i64 new)) :: cb wr.heap.size 57 #[.int .i64 n0, .int .i64 n1, .int .i64 f0, .int .i64 f1, .int .i64 u, .int .i64 new, .bool false] :: (A ++ (cb (w.heap.size + 1) 31 #[.slice none 0 0, .slice none 0 0, .slice none 0 0] :: cb w.heap.size 31 #[.slice a1 s1.reads.length c1, .slice (some ⟨gb, 0, none⟩) s1.nodes.length d3, .slice a3 s1.writes.length c3] :: L))) rfl (.tmp 71) (.tmp 74) 75 34 (.agg #[.int .i64 0, .int .i64 0]) 2 16 rfl Try.underlying75 info34 rfl (by decide) (by decide) _ _ _ rfl ⟨W7.heap.size, 0, none⟩ 1 1 (cel2 (n0, n1)) (by simp [Act.eval, Act.put]) rfl (news_new _ _ 34 _ (by simp)) (by intro x hx; simp [cel2] at hx; rcases hx with rfl | rfl <;> rfl) HK.out.1 (HP7.out.skip _) HB1.out ?_); intro v8 w8 M8 hG8 hH8; have KG8 := Aside0.mk hG8; have KH8 := Aside0.mk hH8; clear hG8 hH8)
            go_roundg (ts.length - (k + 1))
            case measure => omega
            case rel =>
              have hst : trn0 s.nodes (ts.take (k + 1)) = (l1 ++ ((n0, n1), new) :: l2, p2 ++ [(n0, n1)]) := by
                rw [HD.out]
                simp only [tstp, Bool.false_eq_true, if_false, ← HE.out.1, HEN.out.1, getN_split HEN.out.2, setN_split HEN.out.2, if_true]
              refine ⟨k + 1, by go_num, rfl, hltn, ⟨?_⟩⟩
              rw [hst]
              have e8 : (l1 ++ ((n0, n1), new) :: l2).length = s1.nodes.length := by rw [HEN.out.1]; simp
              have h9 := KS.out (l1.length * 3 + 2) (.int .i64 new)
              rw [show s1.nodes.flatMap cel3 = (l1 ++ ((n0, n1), u) :: l2).flatMap cel3 by rw [HEN.out.1], cel3_set] at h9
              refine ts_of { s1 with nodes := l1 ++ ((n0, n1), new) :: l2 } ⟨M8, cb gb 38 (cur.setIfInBounds (l1.length * 3 + 2) (.int .i64 new)) :: cb wr.heap.size 57 #[.int .i64 n0, .int .i64 n1, .int .i64 f0, .int .i64 f1, .int .i64 u, .int .i64 new, .bool false] :: A, a1, c1, some ⟨gb, 0, none⟩, d3, a3, c3, ?_, ⟨HK.out.2.1.r.mono (fun p hp => List.mem_cons_of_mem _ (List.mem_cons_of_mem _ hp)), ?_, HK.out.2.1.w.mono (fun p hp => List.mem_cons_of_mem _ (List.mem_cons_of_mem _ hp))⟩, ?_⟩ rfl rfl HE.out.2.1 HE.out.2.2
              · simpa [List.flatMap_append] using KG8.out
              · simp only [e8]
                exact (Rw.of_gr h9).mono (fun p hp => by simp at hp; simp [hp])
              · simp only [e8]
                exact KH8.out
          · have hud : (u == old) = false := by simpa using huo
            have HNE := Aside0.mk (show getN (n0, n1) p1 ≠ some old by rw [← HE.out.1, HEN.out.1, getN_split HEN.out.2]; simpa using huo)
            clear huo
            go_quiet (fail)
            go_wp2_with fail
            go_roundg (ts.length - (k + 1))
            case measure => omega
            case rel =>
              have hst : trn0 s.nodes (ts.take (k + 1)) = (p1, p2) := by rw [HD.out]; simp only [tstp, Bool.false_eq_true, if_false, HNE.out]
              refine ⟨k + 1, by go_num, rfl, hltn, ⟨?_⟩⟩
              rw [hst]
              exact ts_of s1 ⟨M, A, a1, c1, some adn, c2, a3, c3, HK.out.1, HK.out.2.1, H9.out.tail.call (by repeat (first | exact Below.refl _ _ | apply below_drew1 | apply pw_below_drewN))⟩ HE.out.1.symm rfl HE.out.2.1 HE.out.2.2
        · have hno := no_of_not_mem hm
          have HNO := Aside0.mk hno
          have HNE := Aside0.mk (show getN (n0, n1) p1 ≠ some old by rw [← HE.out.1, getN_no hno]; simp)
          clear hno hm
          go_wp2_with (go_at_call 30; go_loud (refine (rnode.no (w0 := w0) (L := cb wr.heap.size 57 #[.int .i64 n0, .int .i64 n1, .int .i64 f0, .int .i64 f1, .int .i64 old, .int .i64 new, .bool false] :: (M ++ (A ++ (cb (w.heap.size + 1) 31 #[.slice none 0 0, .slice none 0 0, .slice none 0 0] :: cb w.heap.size 31 #[.slice a1 s1.reads.length c1, .slice a2 s1.nodes.length c2, .slice a3 s1.writes.length c3] :: L)))) HK.out.2.2 HSL.out (HK.out.2.1.n.mono (fun p hp => List.mem_cons_of_mem _ (List.mem_append_right _ (List.mem_append_left _ hp)))) n0 n1 HNO.out).mono ?_); rintro e2 w2 ⟨rfl, hv9⟩; have H9 := Aside0.mk hv9; clear hv9)
          go_quiet (fail)
          go_wp2_with fail
          go_roundg (ts.length - (k + 1))
          case measure => omega
          case rel =>
            have hst : trn0 s.nodes (ts.take (k + 1)) = (p1, p2) := by rw [HD.out]; simp only [tstp, Bool.false_eq_true, if_false, HNE.out]
            refine ⟨k + 1, by go_num, rfl, hltn, ⟨?_⟩⟩
            rw [hst]
            exact ts_of s1 ⟨M, A, a1, c1, a2, c2, a3, c3, HK.out.1, HK.out.2.1, H9.out.tail.call (by repeat (first | exact Below.refl _ _ | apply below_drew1 | apply pw_below_drewN))⟩ HE.out.1.symm rfl HE.out.2.1 HE.out.2.2
      · clear hk1 hv hR hG
        go_wp2_with fail
        obtain ⟨b7, hb7⟩ : ∃ b7, b7 = wr.heap.size := ⟨_, rfl⟩
        rw [← hb7] at HS1 ⊢
        clear y0 y1 y2 y3 y4 y5 y6 z0 z1 z2 z3 z4 z5 z6 hb7
        go_loopg [8] p2.length (fun kq v8 wi => ∃ (j : Nat), v8 = .int .i64 (j : Int) ∧ kq = p2.length - j ∧ j ≤ p2.length ∧ Aside0 (TS w0 wi (cb b7 57 #[.int .i64 n0, .int .i64 n1, .int .i64 f0, .int .i64 f1, .int .i64 old, .int .i64 new, .bool true] :: L) w.heap.size (inn s1 ⟨(n0, n1), (f0, f1), old, new, true⟩ (p2.take j)) p2 u5))
        case atStart => exact ⟨0, rfl, rfl, Nat.zero_le _, by simpa [inn] using HS1⟩
        case round =>
          obtain ⟨j, rfl, rfl, hj, HI⟩ := hrel
          obtain ⟨hir, hiw⟩ := inn_r s1 ⟨(n0, n1), (f0, f1), old, new, true⟩ (p2.take j)
          have hil := inn_len s1 ⟨(n0, n1), (f0, f1), old, new, true⟩ (p2.take j)
          generalize hs2 : inn s1 ⟨(n0, n1), (f0, f1), old, new, true⟩ (p2.take j) = s2 at HI hil hir hiw
          have HS2 := Aside0.mk hs2
          have HSL := Aside0.mk (show s2.nodes.length ≤ 100000 by have h8 := HPM.out hltn; have h9 := HE.out.1; rw [h9] at hil; omega)
          have hj7 : j ≤ 100000 := by have := HP2L.out; omega
          clear hs2 hil hir hiw
          obtain ⟨M, A, a1, c1, a2, c2, a3, c3, hG, hR, hv⟩ := HI.out
          obtain ⟨adm, cm, rfl, hcm⟩ := hG.form
          obtain ⟨y0, y1, y2, y3, y4, y5, y6⟩ := c7 hv b7 57 (.int .i64 n0) (.int .i64 n1) (.int .i64 f0) (.int .i64 f1) (.int .i64 old) (.int .i64 new) (.bool true) (by simp)
          obtain ⟨b0, b1, b2, fb0, fb1, fb2⟩ := hv.c3 w.heap.size 31 (.slice a1 s2.reads.length c1) (.slice a2 s2.nodes.length c2) (.slice a3 s2.writes.length c3) (by simp)
          by_cases hltj : j < p2.length
          · have hltj' : (j : Int) < (p2.length : Int) := by omega
            obtain ⟨gm, cur, ea, rfl, _, _, _, hcur⟩ := hG.addr (by omega)
            cases ea
            obtain ⟨⟨r0, r1⟩, hd⟩ : ∃ d, p2[j]? = some d := ⟨_, List.getElem?_eq_getElem hltj⟩
            have m0 := hv.cell (g := gm) (t := 34) (cs := cur) (by simp) (j * 2) ((hcur _ (by omega)).trans (cel2_at p2 j 0 _ (.int .i64 r0) hd rfl))
            have m1 := hv.cell (g := gm) (t := 34) (cs := cur) (by simp) (j * 2 + 1) ((hcur _ (by omega)).trans (cel2_at p2 j 1 _ (.int .i64 r1) hd rfl))
            have HTJ := Aside0.mk (show p2.take (j + 1) = p2.take j ++ [(r0, r1)] by rw [List.take_add_one, hd]; rfl)
            have heq := eq34 r0 r1 f0 f1
            have HK := Aside0.mk (And.intro hG (And.intro hR hv))
            clear hG hR hv hcur hd hcm
            by_cases hreq : ((r0, r1) : Rf) = (f0, f1)
            · simp only [Prod.mk.injEq] at hreq
              obtain ⟨rfl, rfl⟩ := hreq
              simp only [beq_self_eq_true, Bool.and_self] at heq
              go_wp2_with fail
              go_region
              go_wp2_with (go_at_call 22; go_loud (refine (rNode.any (w0 := w0) (L := [cb gm 34 cur] ++ (cb (w.heap.size + 1) 31 #[.slice none 0 0, .slice none 0 0, .slice none 0 0] :: cb w.heap.size 31 #[.slice a1 s2.reads.length c1, .slice a2 s2.nodes.length c2, .slice a3 s2.writes.length c3] :: cb b7 57 #[.int .i64 n0, .int .i64 n1, .int .i64 r0, .int .i64 r1, .int .i64 old, .int .i64 new, .bool true] :: L)) (s := s2) ⟨a1, c1, a2, c2, a3, c3, A, rfl, HK.out.2.1, ((HK.out.2.2).perm (pswap [cb gm 34 cur] A _)).call (by repeat (first | exact Below.refl _ _ | apply below_drew1 | apply pw_below_drewN))⟩ HSL.out n0 n1 new).mono ?_); rintro e2 w2 hq; obtain ⟨v9, rfl, A1, C1, A2, C2, A3, C3, N, rfl, hR9, hv9⟩ := hq; simp only [sval]; clear b0 b1 b2 fb0 fb1 fb2 y0 y1 y2 y3 y4 y5 y6 m0 m1; obtain ⟨b0, b1, b2, fb0, fb1, fb2⟩ := hv9.c3 w.heap.size 31 (.slice a1 s2.reads.length c1) (.slice a2 s2.nodes.length c2) (.slice a3 s2.writes.length c3) (by simp); have H9 := Aside0.mk (And.intro hR9 hv9); clear hR9 hv9)
              go_roundg (p2.length - (j + 1))
              case measure => omega
              case rel =>
                refine ⟨j + 1, by go_num, rfl, hltj, ⟨?_⟩⟩
                rw [HTJ.out, inn_yes s1 ⟨(n0, n1), (r0, r1), old, new, true⟩ (p2.take j), HS2.out]
                exact ts_put (A := N) (M := [cb gm 34 cur]) HK.out.1 H9.out.1 H9.out.2
            · rw [ne_pair hreq] at heq
              have HQ := Aside0.mk hreq
              clear hreq
              go_wp2_with fail
              go_region
              go_wp2_with fail
              go_roundg (p2.length - (j + 1))
              case measure => omega
              case rel => exact ⟨j + 1, by go_num, rfl, hltj, by rw [HTJ.out, inn_no _ _ _ _ HQ.out, HS2.out]; exact ⟨HI.out.call (by repeat (first | exact Below.refl _ _ | apply below_drew1 | apply pw_below_drewN))⟩⟩
          · have hgej : ¬ (j : Int) < (p2.length : Int) := by omega
            have hjj : j = p2.length := by omega
            have HW := Aside0.mk (show inn s1 ⟨(n0, n1), (f0, f1), old, new, true⟩ p2 = s2 by have := HS2.out; rw [hjj, List.take_length] at this; exact this)
            clear hG hR hv hcm hjj
            go_wp2_with fail
            go_roundg (ts.length - (k + 1))
            case measure => omega
            case rel =>
              refine ⟨k + 1, by go_num, rfl, hltn, ⟨?_⟩⟩
              rw [HD.out]
              have hw := HW.out
              unfold inn at hw
              refine ts_of s2 HI.out.tail ?_ rfl ?_ ?_
              · simp only [tstp, if_true]
                rw [← hw]
                split
                · simp [HE.out.1]
                · simp [HE.out.1]
              · rw [← hw]; split <;> exact HE.out.2.1
              · rw [← hw]; split <;> exact HE.out.2.2
    · have hge : ¬ (k : Int) < (ts.length : Int) := by omega
      have hkk : k = ts.length := by omega
      have HW := Aside0.mk (show trn s.nodes ts = p1 by have := HPP.out; rw [hkk, List.take_length] at this; unfold trn; rw [this])
      clear hkk
      obtain ⟨M, A, a1, c1, a2, c2, a3, c3, hG, hR, hv⟩ := HP.out
      obtain ⟨b0, b1, b2, -, -, -⟩ := hv.c3 w.heap.size 31 (.slice a1 s1.reads.length c1) (.slice a2 s1.nodes.length c2) (.slice a3 s1.writes.length c3) (by simp)
      obtain ⟨q0, q1, q2, f0, f1, f2⟩ := hv.c3 (w.heap.size + 1) 31 (.slice none 0 0) (.slice none 0 0) (.slice none 0 0) (by simp)
      have HK := Aside0.mk (And.intro hG (And.intro hR hv))
      clear hG hR hv
      go_wp2_with fail
      have hv1 : Hv w0 wr ((M ++ A) ++ (cb (w.heap.size + 1) 31 #[.slice none 0 0, .slice none 0 0, .slice none 0 0] :: cb w.heap.size 31 #[.slice a1 s1.reads.length c1, .slice a2 s1.nodes.length c2, .slice a3 s1.writes.length c3] :: L)) := by rw [List.append_assoc]; exact HK.out.2.2
      have K8 := ((hv1.putA0 0 (.slice a1 s1.reads.length c1) rfl).putA0 1 (.slice a2 s1.nodes.length c2) rfl).putA0 2 (.slice a3 s1.writes.length c3) rfl
      obtain ⟨wg, hw, hg⟩ : ∃ wg, wg = _ ∧ Hv w0 wg ((M ++ A) ++ (cb (w.heap.size + 1) 31 #[.slice a1 s1.reads.length c1, .slice a2 s1.nodes.length c2, .slice a3 s1.writes.length c3] :: cb w.heap.size 31 #[.slice a1 s1.reads.length c1, .slice a2 s1.nodes.length c2, .slice a3 s1.writes.length c3] :: L)) := ⟨_, rfl, by simpa using K8⟩
      rw [← hw]
      obtain ⟨p0, p1', p2', -, -, -⟩ := hg.c3 (w.heap.size + 1) 31 (.slice a1 s1.reads.length c1) (.slice a2 s1.nodes.length c2) (.slice a3 s1.writes.length c3) (by simp)
      have hs1 : { s with nodes := trn s.nodes ts } = s1 := by
        rw [HW.out, ← HE.out.1, ← HE.out.2.1, ← HE.out.2.2]
      rw [hs1]
      refine bodyPost_ret (v := sval s1 a1 c1 a2 c2 a3 c3) (by simp [results, Try.results24, go_sem, p0, p1', p2', hu31, sval]) rfl ⟨_, rfl, a1, c1, a2, c2, a3, c3, A, rfl, HK.out.2.1, ?_⟩
      refine hg.drop ?_
      rw [List.append_assoc]
      exact ((List.Sublist.append_left ((List.sublist_cons_self _ _).trans (List.sublist_cons_self _ _)) A)).trans (List.sublist_append_right M _)
theorem rTurned.any (h : RV w0 w L s v) (ts : List Tn) {ad : Option Addr} {c : Nat} (hT : Rdy 7 w0 L ad ts.length (ts.flatMap tcel)) (hn : s.nodes.length + ts.length ≤ 100000) :
    Calls Try.prog 24 #[v, .slice ad ts.length c] w (RP w0 L { s with nodes := trn s.nodes ts }) := by
  refine rTurned.gen h ts hT (by omega) (fun k => ?_)
  have h1 := trn0_len s.nodes (ts.take k)
  have h2 := trn0_len2 s.nodes (ts.take k)
  rw [List.length_take] at h1 h2
  exact ⟨by omega, by omega, fun hk => by omega⟩
theorem trn0_zero : ∀ ts : List Tn, trn0 [] ts = ([], []) := by
  have key : ∀ ts : List Tn, ts.foldl tstp ([], []) = ([], []) := by
    intro ts
    induction ts with
    | nil => rfl
    | cons x ts ih =>
      have : tstp ([], []) x = ([], []) := by unfold tstp; simp [getN]
      rw [List.foldl_cons, this, ih]
  exact key
theorem rTurned.zero (hv : Hv w0 w L) (ts : List Tn) {ad : Option Addr} {c : Nat} (hT : Rdy 7 w0 L ad ts.length (ts.flatMap tcel)) (hb : ts.length ≤ 9223372036854775807) :
    Calls Try.prog 24 #[.agg #[.slice none 0 0, .slice none 0 0, .slice none 0 0], .slice ad ts.length c] w (RP w0 L ⟨[], [], []⟩) := by
  have := rTurned.gen (RV.zero hv) ts (c := c) hT hb (fun k => by simp only [trn0_zero]; simp)
  simpa [trn, trn0_zero] using this
end Go.Proofs.Ytgecokldbkamlaa.St
