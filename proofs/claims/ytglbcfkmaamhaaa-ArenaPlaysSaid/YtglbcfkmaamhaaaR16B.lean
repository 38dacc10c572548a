/- The reference's arena: Take, Free. No condition. -/
import Derived.Test.YtglbcfkmaamhaaaR16
set_option linter.unusedVariables false
set_option linter.unusedSimpArgs false
namespace Go.Proofs.Ytglbcfkmaamhaaa.R16
open Go Go.RowKit Go.Proofs.YtglbcfkmaamhaaaW.PrintWords Go.Proofs.YtglbcfkmaamhaaaW.PrintLast Go.Proofs.YtglbcfkmaamhaaaW.PrintMore Go.Proofs.Ytglbcfkmaamhaaa.Hv Go.Proofs.Ytglbcfkmaamhaaa.Arm
variable {w0 w w1 : World} {L : List Ob} {s : Ar} {a1 a2 a3 : Option Addr} {c1 c2 c3 : Nat}

theorem gens_take (s : Ar) (x : List Value) : gens (s.take x) = (gens s).set s.next.toNat s.gen := by simp [gens, Ar.take, List.map_set]
theorem tks_take (s : Ar) (x : List Value) : tks (s.take x) = (tks s).set s.next.toNat true := by simp [tks, Ar.take, List.map_set]
theorem nums_set (l : List Int) (i : Nat) (v : Int) : nums .i64 (l.set i v) = (nums .i64 l).set i (.int .i64 v) := by simp [nums, List.map_set]
theorem bools_set (l : List Bool) (i : Nat) (v : Bool) : bools (l.set i v) = (bools l).set i (.bool v) := by simp [bools, List.map_set]
/-- A row in a block of its own, with one cell written. -/
theorem rw_put {e g i n d : Nat} {cur : Array Value} {xs : List Value} {v : Value} (hx : xs.length = n) (hd : n ≤ d) (hc : ∀ j, j < n → cur[j]? = xs[j]?) (L : List Ob) (hm : cb g e (cur.setIfInBounds i v) ∈ L) : Rw e 1 L (some ⟨g, 0, none⟩) n d (xs.set i v) := by
  refine ⟨by simp [hx], hd, fun hn => ⟨g, 0, _, rfl, hm, fun j hj => ?_⟩⟩
  rw [Nat.mul_one] at hj
  rw [Nat.zero_add, Array.getElem?_setIfInBounds, List.getElem?_set]
  have h1 := hc j hj
  have hlt : j < cur.size := by
    rcases Nat.lt_or_ge j cur.size with h | h
    · exact h
    · rw [Array.getElem?_eq_none h, List.getElem?_eq_getElem (by omega)] at h1
      cases h1
  by_cases e : i = j
  · subst e
    rw [if_pos rfl, if_pos rfl, if_pos hlt, if_pos (by omega)]
  · rw [if_neg e, if_neg e, h1]
set_option maxHeartbeats 16000000 in
set_option maxRecDepth 100000 in
theorem take1.calls (hv : Hv w0 w L) (h : RfA L s a1 c1 a2 c2 a3 c3) {m : Nat} {X : List Value → Prop} (hok : s.Ok m X) (hr : ¬ s.room = 0) (hk : s.back = []) (x : List Value) : Calls Try.prog 21 #[.agg #[.slice a1 s.n c1, .slice a2 s.n c2, .slice a3 0 c3, .int .i64 s.ever]] w (Takes (s.take x) s.next s.gen 0 L w) := by
  have hu29 := Try.underlying29
  have hu33 := Try.underlying33
  obtain ⟨i0, i1⟩ := hok.next hr
  have en : s.next = s.ever := by simp [Ar.next, hk]
  rw [en] at i0 i1
  have hi : s.ever.toNat < s.n := by omega
  have hn := hok.most
  have dr : (s.room == 0) = false := by simp [hr]
  have el : s.back.length = 0 := by simp [hk]
  have H3 := Aside0.mk ((((Hv.start w).alloc (.cells #[.slice a1 s.n c1, .slice a2 s.n c2, .slice a3 0 c3, .int .i64 s.ever] 29)).alloc (.cells #[.slice none 0 0, .slice none 0 0, .slice none 0 0, .int .i64 0] 29)).alloc (.cells #[.int .i64 0, .int .i64 0] 33))
  have HR := Aside0.mk h
  have HV := Aside0.mk hv
  have HN := Aside0.mk hn
  have EN := Aside0.mk en
  have EL := Aside0.mk el
  clear h hv en el
  go_enter Try.func21, Try.ntmps21
  go_wp2_with fail
  have R0 := room.calls (HV.out.call H3.out.bel) HR.out HN.out
  rw [EL.out] at R0
  refine R0.mono ?_
  clear R0
  rintro e1 w1 ⟨rfl, hb⟩
  have H4 := Aside0.mk (H3.out.call hb)
  have hq := H4.out
  simp only [World.size_alloc] at hq
  obtain ⟨x0, x1, x2, x3, u0, u1, u2, u3⟩ := hq.c4 w.heap.size 29 (.slice a1 s.n c1) (.slice a2 s.n c2) (.slice a3 0 c3) (.int .i64 s.ever) (by simp)
  obtain ⟨y0, y1, y2, y3, v0, v1, v2, v3⟩ := hq.c4 (w.heap.size + 1) 29 (.slice none 0 0) (.slice none 0 0) (.slice none 0 0) (.int .i64 0) (by simp)
  obtain ⟨z0, z1, t0, t1⟩ := hq.c2 (w.heap.size + 1 + 1) 33 (.int .i64 0) (.int .i64 0) (by simp)
  have HQ := Aside0.mk hq
  clear hq hb
  go_wp2_with fail
  have W0 := with_.calls (HV.out.call HQ.out.bel) HR.out HN.out
  unfold Withs at W0
  rw [EL.out] at W0
  refine W0.mono ?_
  clear W0
  rintro e2 w2 ⟨b1, d1, b2, d2, A1, A2, rfl, hG1, hG2, hW⟩
  obtain ⟨g1, cur1, rfl, rfl, _, hd1, _, hc1⟩ := hG1.addr (by omega)
  obtain ⟨g2, cur2, rfl, rfl, _, hd2, _, hc2⟩ := hG2.addr (by omega)
  have hJ := HQ.out.join hW
  clear x0 x1 x2 x3 u0 u1 u2 u3 y0 y1 y2 y3 v0 v1 v2 v3 z0 z1 t0 t1 hW hG1 hG2
  have hJ2 : Hv w w2 (cb g1 3 cur1 :: cb g2 4 cur2 :: cb (w.heap.size + 1 + 1) 33 #[.int .i64 0, .int .i64 0] :: cb (w.heap.size + 1) 29 #[.slice none 0 0, .slice none 0 0, .slice none 0 0, .int .i64 0] :: cb w.heap.size 29 #[.slice a1 s.n c1, .slice a2 s.n c2, .slice a3 0 c3, .int .i64 s.ever] :: []) := hJ
  obtain ⟨nab, nac, nad, nae, nba, nbc, nbd, nbe, nca, ncb, ncd, nce, nda, ndb, ndc, nde, nea, neb, nec, ned⟩ := hJ2.neq5
  have p1 : w2.cell? ⟨g1, s.ever.toNat, none⟩ = some (.int .i64 (s.slot s.ever).gen) := hJ2.cell (t := 3) (cs := cur1) (by simp) _ ((hc1 _ (by omega)).trans (gens_get s _ hi))
  have p2 : w2.cell? ⟨g2, s.ever.toNat, none⟩ = some (.bool (s.slot s.ever).taken) := hJ2.cell (t := 4) (cs := cur2) (by simp) _ ((hc2 _ (by omega)).trans (tks_get s _ hi))
  have q1 : w2.frozen? ⟨g1, s.ever.toNat, none⟩ = false := hJ2.frozen (t := 3) (cs := cur1) (by simp) _
  have q2 : w2.frozen? ⟨g2, s.ever.toNat, none⟩ = false := hJ2.frozen (t := 4) (cs := cur2) (by simp) _
  obtain ⟨x0, x1, x2, x3, u0, u1, u2, u3⟩ := hJ2.c4 w.heap.size 29 (.slice a1 s.n c1) (.slice a2 s.n c2) (.slice a3 0 c3) (.int .i64 s.ever) (by simp)
  obtain ⟨y0, y1, y2, y3, v0, v1, v2, v3⟩ := hJ2.c4 (w.heap.size + 1) 29 (.slice none 0 0) (.slice none 0 0) (.slice none 0 0) (.int .i64 0) (by simp)
  obtain ⟨z0, z1, t0, t1⟩ := hJ2.c2 (w.heap.size + 1 + 1) 33 (.int .i64 0) (.int .i64 0) (by simp)
  have HJ := Aside0.mk hJ2
  have HC1 := Aside0.mk hc1
  have HC2 := Aside0.mk hc2
  clear hJ hJ2 hc1 hc2
  go_upto_region 12 with (fail)
  have eg : s.gen = wrap64 ((s.slot s.ever).gen + 1) := by unfold Ar.gen; rw [EN.out]
  rw [← eg]
  obtain ⟨W3, hW3, hP⟩ : ∃ W3, W3 = _ ∧ Hv w W3 (cb g1 3 (cur1.setIfInBounds s.ever.toNat (.int .i64 s.gen)) :: cb g2 4 (cur2.setIfInBounds s.ever.toNat (.bool true)) :: cb (w.heap.size + 1 + 1) 33 #[.int .i64 0, .int .i64 0] :: cb (w.heap.size + 1) 29 #[.slice none 0 0, .slice none 0 0, .slice none 0 0, .int .i64 0] :: cb w.heap.size 29 #[.slice (some ⟨g1, 0, none⟩) s.n d1, .slice (some ⟨g2, 0, none⟩) s.n d2, .slice a3 0 c3, .int .i64 (s.ever + 1)] :: []) :=
    ⟨_, rfl, ((((((HJ.out.put 4 rfl 0 (.slice (some ⟨g1, 0, none⟩) s.n d1)).put 4 rfl 1 (.slice (some ⟨g2, 0, none⟩) s.n d2)).put 4 rfl 2 (.slice a3 0 c3)).put 4 rfl 3 (.int .i64 s.ever)).put 4 rfl 3 (.int .i64 (s.ever + 1))).put 1 rfl s.ever.toNat (.bool true)).put 0 rfl s.ever.toNat (.int .i64 s.gen)⟩
  rw [← hW3]
  clear hW3 x0 x1 x2 x3 u0 u1 u2 u3 y0 y1 y2 y3 v0 v1 v2 v3 z0 z1 t0 t1 p1 p2 q1 q2
  have p1 : W3.cell? ⟨g1, s.ever.toNat, none⟩ = some (.int .i64 s.gen) := hP.cell (t := 3) (cs := cur1.setIfInBounds s.ever.toNat (.int .i64 s.gen)) (by simp) _ (by
    have h1 := HC1.out s.ever.toNat (by omega)
    rw [gens_get s _ hi] at h1
    have h2 := (Array.getElem?_eq_some_iff.1 h1).1
    rw [Array.getElem?_setIfInBounds, if_pos rfl, if_pos h2])
  obtain ⟨x0, x1, x2, x3, u0, u1, u2, u3⟩ := hP.c4 w.heap.size 29 (.slice (some ⟨g1, 0, none⟩) s.n d1) (.slice (some ⟨g2, 0, none⟩) s.n d2) (.slice a3 0 c3) (.int .i64 (s.ever + 1)) (by simp)
  obtain ⟨y0, y1, y2, y3, v0, v1, v2, v3⟩ := hP.c4 (w.heap.size + 1) 29 (.slice none 0 0) (.slice none 0 0) (.slice none 0 0) (.int .i64 0) (by simp)
  obtain ⟨z0, z1, t0, t1⟩ := hP.c2 (w.heap.size + 1 + 1) 33 (.int .i64 0) (.int .i64 0) (by simp)
  have HP := Aside0.mk hP
  have EG := Aside0.mk eg
  clear hP eg
  go_region
  all_goals go_wp2_with fail
  have eN : (s.take x).n = s.n := by simp [Ar.n, Ar.take]
  have eE : (s.take x).ever = s.ever + 1 := by simp [Ar.take, hk]
  have eB : (s.take x).back = [] := by simp [Ar.take, hk]
  have Q := ((((((HP.out.put 3 rfl 0 (.slice (some ⟨g1, 0, none⟩) s.n d1)).put 3 rfl 1 (.slice (some ⟨g2, 0, none⟩) s.n d2)).put 3 rfl 2 (.slice a3 0 c3)).put 3 rfl 3 (.int .i64 (s.ever + 1))).put 2 rfl 0 (.int .i64 s.ever)).put 2 rfl 1 (.int .i64 s.gen)).drew
  refine bodyPost_ret (v := .tuple #[.agg #[.slice (some ⟨g1, 0, none⟩) s.n d1, .slice (some ⟨g2, 0, none⟩) s.n d2, .slice a3 0 c3, .int .i64 (s.ever + 1)], .agg #[.int .i64 s.ever, .int .i64 s.gen], .int .i64 0]) (by simp [results, Try.results21, go_sem, y0, y1, y2, y3, z0, z1]) rfl ⟨some ⟨g1, 0, none⟩, d1, some ⟨g2, 0, none⟩, d2, a3, c3, _, ?_, Q, ?_, ?_, ?_⟩
  · rw [eN, eE, eB, EN.out]; rfl
  · rw [eN, gens_take, EN.out, nums_set]
    exact rw_put (xs := nums .i64 (gens s)) (by simp [nums, gens, Ar.n]) hd1 (fun j hj => HC1.out j (by omega)) _ (by simp)
  · rw [eN, tks_take, EN.out, bools_set]
    exact rw_put (xs := bools (tks s)) (by simp [bools, tks, Ar.n]) hd2 (fun j hj => HC2.out j (by omega)) _ (by simp)
  · rw [eB]
    exact ⟨rfl, Nat.zero_le _, fun h => absurd h (Nat.lt_irrefl 0)⟩
set_option maxHeartbeats 16000000 in
set_option maxRecDepth 100000 in
theorem take2.calls (hv : Hv w0 w L) (h : RfA L s a1 c1 a2 c2 a3 c3) {m : Nat} {X : List Value → Prop} (hok : s.Ok m X) (hr : ¬ s.room = 0) {k : Nat} (hk : s.back.length = k + 1) (x : List Value) : Calls Try.prog 21 #[.agg #[.slice a1 s.n c1, .slice a2 s.n c2, .slice a3 (k + 1) c3, .int .i64 s.ever]] w (Takes (s.take x) s.next s.gen 0 L w) := by
  have hu29 := Try.underlying29
  have hu33 := Try.underlying33
  obtain ⟨i0, i1⟩ := hok.next hr
  have hkn : ¬ s.back = [] := fun e => by rw [e] at hk; simp at hk
  have hlast : s.back[k]? = some s.next := by
    simp only [Ar.next, if_neg hkn]
    rw [List.getLastD_eq_getLast?, List.getLast?_eq_getElem?, hk]
    simp [hk]
  have hkm : k ≤ 4096 := by have := hok.sum; have := hok.ever; have := hok.most; omega
  obtain ⟨gb, ob, rfl, hcb, hgl, _⟩ := h.b.at_ hv (by omega)
  have hbk := hcb k (.int .i64 s.next) (by simp [nums, hlast])
  have m1 : ¬ gb = w.heap.size := by omega
  have hi : s.next.toNat < s.n := by omega
  have hn := hok.most
  have dr : (s.room == 0) = false := by simp [hr]
  have el : s.back.length = k + 1 := hk
  have H3 := Aside0.mk ((((Hv.start w).alloc (.cells #[.slice a1 s.n c1, .slice a2 s.n c2, .slice (some ⟨gb, ob, none⟩) (k + 1) c3, .int .i64 s.ever] 29)).alloc (.cells #[.slice none 0 0, .slice none 0 0, .slice none 0 0, .int .i64 0] 29)).alloc (.cells #[.int .i64 0, .int .i64 0] 33))
  have HR := Aside0.mk h
  have HV := Aside0.mk hv
  have HN := Aside0.mk hn
  have HKN := Aside0.mk hkn
  have HK := Aside0.mk hk
  have HLA := Aside0.mk hlast
  have hkc : k + 1 ≤ c3 := by have := h.b.2.1; omega
  have EL := Aside0.mk el
  clear h hv el hkn hk hlast hcb hgl
  go_enter Try.func21, Try.ntmps21
  go_wp2_with fail
  have R0 := room.calls (HV.out.call H3.out.bel) HR.out HN.out
  rw [EL.out] at R0
  refine R0.mono ?_
  clear R0
  rintro e1 w1 ⟨rfl, hb⟩
  have H4 := Aside0.mk (H3.out.call hb)
  have hq := H4.out
  simp only [World.size_alloc] at hq
  obtain ⟨x0, x1, x2, x3, u0, u1, u2, u3⟩ := hq.c4 w.heap.size 29 (.slice a1 s.n c1) (.slice a2 s.n c2) (.slice (some ⟨gb, ob, none⟩) (k + 1) c3) (.int .i64 s.ever) (by simp)
  obtain ⟨y0, y1, y2, y3, v0, v1, v2, v3⟩ := hq.c4 (w.heap.size + 1) 29 (.slice none 0 0) (.slice none 0 0) (.slice none 0 0) (.int .i64 0) (by simp)
  obtain ⟨z0, z1, t0, t1⟩ := hq.c2 (w.heap.size + 1 + 1) 33 (.int .i64 0) (.int .i64 0) (by simp)
  have HQ := Aside0.mk hq
  clear hq hb
  go_wp2_with fail
  have W0 := with_.calls (HV.out.call HQ.out.bel) HR.out HN.out
  unfold Withs at W0
  rw [EL.out] at W0
  refine W0.mono ?_
  clear W0
  rintro e2 w2 ⟨b1, d1, b2, d2, A1, A2, rfl, hG1, hG2, hW⟩
  obtain ⟨g1, cur1, rfl, rfl, _, hd1, _, hc1⟩ := hG1.addr (by omega)
  obtain ⟨g2, cur2, rfl, rfl, _, hd2, _, hc2⟩ := hG2.addr (by omega)
  have hJ := HQ.out.join hW
  clear x0 x1 x2 x3 u0 u1 u2 u3 y0 y1 y2 y3 v0 v1 v2 v3 z0 z1 t0 t1 hW hG1 hG2
  have hJ2 : Hv w w2 (cb g1 3 cur1 :: cb g2 4 cur2 :: cb (w.heap.size + 1 + 1) 33 #[.int .i64 0, .int .i64 0] :: cb (w.heap.size + 1) 29 #[.slice none 0 0, .slice none 0 0, .slice none 0 0, .int .i64 0] :: cb w.heap.size 29 #[.slice a1 s.n c1, .slice a2 s.n c2, .slice (some ⟨gb, ob, none⟩) (k + 1) c3, .int .i64 s.ever] :: []) := hJ
  obtain ⟨nab, nac, nad, nae, nba, nbc, nbd, nbe, nca, ncb, ncd, nce, nda, ndb, ndc, nde, nea, neb, nec, ned⟩ := hJ2.neq5
  have pb : w2.cell? ⟨gb, ob + k, none⟩ = some (.int .i64 s.next) := pw_cell_below hJ2.bel hbk
  have p1 : w2.cell? ⟨g1, s.next.toNat, none⟩ = some (.int .i64 (s.slot s.next).gen) := hJ2.cell (t := 3) (cs := cur1) (by simp) _ ((hc1 _ (by omega)).trans (gens_get s _ hi))
  have p2 : w2.cell? ⟨g2, s.next.toNat, none⟩ = some (.bool (s.slot s.next).taken) := hJ2.cell (t := 4) (cs := cur2) (by simp) _ ((hc2 _ (by omega)).trans (tks_get s _ hi))
  have q1 : w2.frozen? ⟨g1, s.next.toNat, none⟩ = false := hJ2.frozen (t := 3) (cs := cur1) (by simp) _
  have q2 : w2.frozen? ⟨g2, s.next.toNat, none⟩ = false := hJ2.frozen (t := 4) (cs := cur2) (by simp) _
  obtain ⟨x0, x1, x2, x3, u0, u1, u2, u3⟩ := hJ2.c4 w.heap.size 29 (.slice a1 s.n c1) (.slice a2 s.n c2) (.slice (some ⟨gb, ob, none⟩) (k + 1) c3) (.int .i64 s.ever) (by simp)
  obtain ⟨y0, y1, y2, y3, v0, v1, v2, v3⟩ := hJ2.c4 (w.heap.size + 1) 29 (.slice none 0 0) (.slice none 0 0) (.slice none 0 0) (.int .i64 0) (by simp)
  obtain ⟨z0, z1, t0, t1⟩ := hJ2.c2 (w.heap.size + 1 + 1) 33 (.int .i64 0) (.int .i64 0) (by simp)
  have HJ := Aside0.mk hJ2
  have HC1 := Aside0.mk hc1
  have HC2 := Aside0.mk hc2
  clear hJ hJ2 hc1 hc2 hbk
  have k1 : ((k : Int) < (k : Int) + 1) = True := eq_true (by omega)
  have k2 : (k : Int) ≤ (c3 : Int) := by omega
  have k3 : k ≤ c3 := by omega
  have k4 : k < k + 1 := by omega
  go_upto_region 12 with (fail)
  have eg : s.gen = wrap64 ((s.slot s.next).gen + 1) := rfl
  rw [← eg]
  obtain ⟨W3, hW3, hP⟩ : ∃ W3, W3 = _ ∧ Hv w W3 (cb g1 3 (cur1.setIfInBounds s.next.toNat (.int .i64 s.gen)) :: cb g2 4 (cur2.setIfInBounds s.next.toNat (.bool true)) :: cb (w.heap.size + 1 + 1) 33 #[.int .i64 0, .int .i64 0] :: cb (w.heap.size + 1) 29 #[.slice none 0 0, .slice none 0 0, .slice none 0 0, .int .i64 0] :: cb w.heap.size 29 #[.slice (some ⟨g1, 0, none⟩) s.n d1, .slice (some ⟨g2, 0, none⟩) s.n d2, .slice (some ⟨gb, ob, none⟩) k c3, .int .i64 (s.ever)] :: []) :=
    ⟨_, rfl, ((((((HJ.out.put 4 rfl 0 (.slice (some ⟨g1, 0, none⟩) s.n d1)).put 4 rfl 1 (.slice (some ⟨g2, 0, none⟩) s.n d2)).put 4 rfl 2 (.slice (some ⟨gb, ob, none⟩) (k + 1) c3)).put 4 rfl 3 (.int .i64 s.ever)).put 4 rfl 2 (.slice (some ⟨gb, ob, none⟩) k c3)).put 1 rfl s.next.toNat (.bool true)).put 0 rfl s.next.toNat (.int .i64 s.gen)⟩
  rw [← hW3]
  clear hW3 x0 x1 x2 x3 u0 u1 u2 u3 y0 y1 y2 y3 v0 v1 v2 v3 z0 z1 t0 t1 p1 p2 q1 q2 pb
  have p1 : W3.cell? ⟨g1, s.next.toNat, none⟩ = some (.int .i64 s.gen) := hP.cell (t := 3) (cs := cur1.setIfInBounds s.next.toNat (.int .i64 s.gen)) (by simp) _ (by
    have h1 := HC1.out s.next.toNat (by omega)
    rw [gens_get s _ hi] at h1
    have h2 := (Array.getElem?_eq_some_iff.1 h1).1
    rw [Array.getElem?_setIfInBounds, if_pos rfl, if_pos h2])
  obtain ⟨x0, x1, x2, x3, u0, u1, u2, u3⟩ := hP.c4 w.heap.size 29 (.slice (some ⟨g1, 0, none⟩) s.n d1) (.slice (some ⟨g2, 0, none⟩) s.n d2) (.slice (some ⟨gb, ob, none⟩) k c3) (.int .i64 (s.ever)) (by simp)
  obtain ⟨y0, y1, y2, y3, v0, v1, v2, v3⟩ := hP.c4 (w.heap.size + 1) 29 (.slice none 0 0) (.slice none 0 0) (.slice none 0 0) (.int .i64 0) (by simp)
  obtain ⟨z0, z1, t0, t1⟩ := hP.c2 (w.heap.size + 1 + 1) 33 (.int .i64 0) (.int .i64 0) (by simp)
  have HP := Aside0.mk hP
  have EG := Aside0.mk eg
  clear hP eg
  go_region
  all_goals go_wp2_with fail
  have eN : (s.take x).n = s.n := by simp [Ar.n, Ar.take]
  have eE : (s.take x).ever = s.ever := by simp [Ar.take, HKN.out]
  have eB : (s.take x).back = s.back.take k := by simp [Ar.take, List.dropLast_eq_take, HK.out]
  have Q := ((((((HP.out.put 3 rfl 0 (.slice (some ⟨g1, 0, none⟩) s.n d1)).put 3 rfl 1 (.slice (some ⟨g2, 0, none⟩) s.n d2)).put 3 rfl 2 (.slice (some ⟨gb, ob, none⟩) k c3)).put 3 rfl 3 (.int .i64 (s.ever))).put 2 rfl 0 (.int .i64 s.next)).put 2 rfl 1 (.int .i64 s.gen)).drew
  refine bodyPost_ret (v := .tuple #[.agg #[.slice (some ⟨g1, 0, none⟩) s.n d1, .slice (some ⟨g2, 0, none⟩) s.n d2, .slice (some ⟨gb, ob, none⟩) k c3, .int .i64 (s.ever)], .agg #[.int .i64 s.next, .int .i64 s.gen], .int .i64 0]) (by simp [results, Try.results21, go_sem, y0, y1, y2, y3, z0, z1]) rfl ⟨some ⟨g1, 0, none⟩, d1, some ⟨g2, 0, none⟩, d2, some ⟨gb, ob, none⟩, c3, _, ?_, Q, ?_, ?_, ?_⟩
  · rw [eN, eE, eB, List.length_take, HK.out, Nat.min_eq_left (by omega)]
  · rw [eN, gens_take, nums_set]
    exact rw_put (xs := nums .i64 (gens s)) (by simp [nums, gens, Ar.n]) hd1 (fun j hj => HC1.out j (by omega)) _ (by simp)
  · rw [eN, tks_take, bools_set]
    exact rw_put (xs := bools (tks s)) (by simp [bools, tks, Ar.n]) hd2 (fun j hj => HC2.out j (by omega)) _ (by simp)
  · rw [eB, List.length_take, HK.out, Nat.min_eq_left (by omega)]
    have := (HR.out.b.take k (by rw [HK.out]; omega)).right (cb g1 3 (cur1.setIfInBounds s.next.toNat (.int .i64 s.gen)) :: cb g2 4 (cur2.setIfInBounds s.next.toNat (.bool true)) :: [])
    have e : (nums .i64 s.back).take (k * 1) = nums .i64 (s.back.take k) := by simp [nums]
    rw [e] at this
    exact this.mono (fun p hp => by simp at hp ⊢; rcases hp with hp | hp | hp <;> simp [hp])

/-! ### Free -/
def Frees (s : Ar) (b : Bool) (L : List Ob) (w : World) (e : Ending) (w' : World) : Prop :=
  ∃ b1 d1 b2 d2 b3 d3 R, e = .returned (.tuple #[.agg #[.slice b1 s.n d1, .slice b2 s.n d2, .slice b3 s.back.length d3, .int .i64 s.ever], .bool b]) ∧ Hv w w' R ∧ RfA (R ++ L) s b1 d1 b2 d2 b3 d3
set_option maxHeartbeats 8000000 in
set_option maxRecDepth 100000 in
theorem free0.calls (hv : Hv w0 w L) (h : RfA L s a1 c1 a2 c2 a3 c3) (hn : s.n ≤ 4096) (i q : Int) (hb : s.has i q = false) : Calls Try.prog 24 #[.agg #[.slice a1 s.n c1, .slice a2 s.n c2, .slice a3 s.back.length c3, .int .i64 s.ever], .agg #[.int .i64 i, .int .i64 q]] w (Frees s false L w) := by
  have hu29 := Try.underlying29
  have hu33 := Try.underlying33
  have H3 := Aside0.mk ((((Hv.start w).alloc (.cells #[.slice a1 s.n c1, .slice a2 s.n c2, .slice a3 s.back.length c3, .int .i64 s.ever] 29)).alloc (.cells #[.int .i64 i, .int .i64 q] 33)).alloc (.cells #[.slice none 0 0, .slice none 0 0, .slice none 0 0, .int .i64 0] 29))
  have HR := Aside0.mk h
  have HV := Aside0.mk hv
  clear h hv
  go_enter Try.func24, Try.ntmps24
  go_wp2_with fail
  refine (right.calls (HV.out.call H3.out.bel) HR.out hn i q).mono ?_
  rintro e1 w1 ⟨rfl, hbl⟩
  simp only [hb]
  have hq := H3.out.call hbl
  simp only [World.size_alloc] at hq
  obtain ⟨x0, x1, x2, x3, u0, u1, u2, u3⟩ := hq.c4 w.heap.size 29 (.slice a1 s.n c1) (.slice a2 s.n c2) (.slice a3 s.back.length c3) (.int .i64 s.ever) (by simp)
  obtain ⟨r0, r1, k0, k1⟩ := hq.c2 (w.heap.size + 1) 33 (.int .i64 i) (.int .i64 q) (by simp)
  obtain ⟨y0, y1, y2, y3, v0, v1, v2, v3⟩ := hq.c4 (w.heap.size + 1 + 1) 29 (.slice none 0 0) (.slice none 0 0) (.slice none 0 0) (.int .i64 0) (by simp)
  have HQ := Aside0.mk hq
  clear hq hbl
  go_wp2_with fail
  have Q := (((HQ.out.put 0 rfl 0 (.slice a1 s.n c1)).put 0 rfl 1 (.slice a2 s.n c2)).put 0 rfl 2 (.slice a3 s.back.length c3)).put 0 rfl 3 (.int .i64 s.ever)
  exact bodyPost_ret (v := .tuple #[.agg #[.slice a1 s.n c1, .slice a2 s.n c2, .slice a3 s.back.length c3, .int .i64 s.ever], .bool false]) (by simp [results, Try.results24, go_sem, y0, y1, y2, y3]) rfl ⟨a1, c1, a2, c2, a3, c3, _, rfl, Q, HR.out.right _⟩

theorem gens_drop (s : Ar) (i : Int) (z : List Value) (hi : i.toNat < s.n) : gens (s.drop i z) = gens s := by
  simp only [gens, Ar.drop, List.map_set]
  exact set_same (by rw [List.getElem?_map, slot_eq hi]; rfl)
theorem tks_drop (s : Ar) (i : Int) (z : List Value) : tks (s.drop i z) = (tks s).set i.toNat false := by simp [tks, Ar.drop, List.map_set]
set_option maxHeartbeats 16000000 in
set_option maxRecDepth 100000 in
theorem free1.calls (hv : Hv w0 w L) (h : RfA L s a1 c1 a2 c2 a3 c3) {m : Nat} {X : List Value → Prop} (hok : s.Ok m X) (i q : Int) (hb : s.has i q = true) (z : List Value) : Calls Try.prog 24 #[.agg #[.slice a1 s.n c1, .slice a2 s.n c2, .slice a3 s.back.length c3, .int .i64 s.ever], .agg #[.int .i64 i, .int .i64 q]] w (Frees (s.drop i z) true L w) := by
  obtain ⟨i0, i1, i2, _⟩ := Ar.has_lt hb
  have hi : i.toNat < s.n := by omega
  have hn := hok.most
  have hnb : s.back.length ≤ 4096 := by have := hok.sum; have := hok.ever; omega
  have hu29 := Try.underlying29
  have hu33 := Try.underlying33
  have H3 := Aside0.mk ((((Hv.start w).alloc (.cells #[.slice a1 s.n c1, .slice a2 s.n c2, .slice a3 s.back.length c3, .int .i64 s.ever] 29)).alloc (.cells #[.int .i64 i, .int .i64 q] 33)).alloc (.cells #[.slice none 0 0, .slice none 0 0, .slice none 0 0, .int .i64 0] 29))
  have HR := Aside0.mk h
  have HV := Aside0.mk hv
  have D3 := Aside0.mk (h.b.rd hv)
  clear h hv
  go_enter Try.func24, Try.ntmps24
  go_wp2_with fail
  refine (right.calls (HV.out.call H3.out.bel) HR.out hn i q).mono ?_
  rintro e1 w1 ⟨rfl, hbl⟩
  simp only [hb]
  have hq := H3.out.call hbl
  simp only [World.size_alloc] at hq
  obtain ⟨x0, x1, x2, x3, u0, u1, u2, u3⟩ := hq.c4 w.heap.size 29 (.slice a1 s.n c1) (.slice a2 s.n c2) (.slice a3 s.back.length c3) (.int .i64 s.ever) (by simp)
  obtain ⟨r0, r1, k0, k1⟩ := hq.c2 (w.heap.size + 1) 33 (.int .i64 i) (.int .i64 q) (by simp)
  obtain ⟨y0, y1, y2, y3, v0, v1, v2, v3⟩ := hq.c4 (w.heap.size + 1 + 1) 29 (.slice none 0 0) (.slice none 0 0) (.slice none 0 0) (.int .i64 0) (by simp)
  have HQ := Aside0.mk hq
  clear hq hbl
  go_wp2_with fail
  refine (with_.calls (HV.out.call HQ.out.bel) HR.out hn).mono ?_
  rintro e2 w2 ⟨b1, d1, b2, d2, A1, A2, rfl, hG1, hG2, hW⟩
  obtain ⟨g1, cur1, rfl, rfl, _, hd1, _, hc1⟩ := hG1.addr (by omega)
  obtain ⟨g2, cur2, rfl, rfl, _, hd2, _, hc2⟩ := hG2.addr (by omega)
  have hJ := HQ.out.join hW
  clear x0 x1 x2 x3 u0 u1 u2 u3 y0 y1 y2 y3 v0 v1 v2 v3 r0 r1 k0 k1 hW hG1 hG2
  have hJ2 : Hv w w2 (cb g1 3 cur1 :: cb g2 4 cur2 :: cb (w.heap.size + 1 + 1) 29 #[.slice none 0 0, .slice none 0 0, .slice none 0 0, .int .i64 0] :: cb (w.heap.size + 1) 33 #[.int .i64 i, .int .i64 q] :: cb w.heap.size 29 #[.slice a1 s.n c1, .slice a2 s.n c2, .slice a3 s.back.length c3, .int .i64 s.ever] :: []) := hJ
  obtain ⟨nab, nac, nad, nae, nba, nbc, nbd, nbe, nca, ncb, ncd, nce, nda, ndb, ndc, nde, nea, neb, nec, ned⟩ := hJ2.neq5
  have p2 : w2.cell? ⟨g2, i.toNat, none⟩ = some (.bool (s.slot i).taken) := hJ2.cell (t := 4) (cs := cur2) (by simp) _ ((hc2 _ (by omega)).trans (tks_get s _ hi))
  have q2 : w2.frozen? ⟨g2, i.toNat, none⟩ = false := hJ2.frozen (t := 4) (cs := cur2) (by simp) _
  obtain ⟨x0, x1, x2, x3, u0, u1, u2, u3⟩ := hJ2.c4 w.heap.size 29 (.slice a1 s.n c1) (.slice a2 s.n c2) (.slice a3 s.back.length c3) (.int .i64 s.ever) (by simp)
  obtain ⟨r0, r1, k0, k1⟩ := hJ2.c2 (w.heap.size + 1) 33 (.int .i64 i) (.int .i64 q) (by simp)
  obtain ⟨y0, y1, y2, y3, v0, v1, v2, v3⟩ := hJ2.c4 (w.heap.size + 1 + 1) 29 (.slice none 0 0) (.slice none 0 0) (.slice none 0 0) (.int .i64 0) (by simp)
  have HJ := Aside0.mk hJ2
  have HC1 := Aside0.mk hc1
  have HC2 := Aside0.mk hc2
  clear hJ hJ2 hc1 hc2
  go_upto_region 5 with (fail)
  obtain ⟨W3, hW3, hP⟩ : ∃ W3, W3 = _ ∧ Hv w W3 (cb g1 3 cur1 :: cb g2 4 (cur2.setIfInBounds i.toNat (.bool false)) :: cb (w.heap.size + 1 + 1) 29 #[.slice none 0 0, .slice none 0 0, .slice none 0 0, .int .i64 0] :: cb (w.heap.size + 1) 33 #[.int .i64 i, .int .i64 q] :: cb w.heap.size 29 #[.slice (some ⟨g1, 0, none⟩) s.n d1, .slice (some ⟨g2, 0, none⟩) s.n d2, .slice a3 s.back.length c3, .int .i64 s.ever] :: []) :=
    ⟨_, rfl, ((((HJ.out.put 4 rfl 0 (.slice (some ⟨g1, 0, none⟩) s.n d1)).put 4 rfl 1 (.slice (some ⟨g2, 0, none⟩) s.n d2)).put 4 rfl 2 (.slice a3 s.back.length c3)).put 4 rfl 3 (.int .i64 s.ever)).put 1 rfl i.toNat (.bool false)⟩
  rw [← hW3]
  clear hW3 x0 x1 x2 x3 u0 u1 u2 u3 y0 y1 y2 y3 v0 v1 v2 v3 r0 r1 k0 k1 p2 q2
  obtain ⟨x0, x1, x2, x3, u0, u1, u2, u3⟩ := hP.c4 w.heap.size 29 (.slice (some ⟨g1, 0, none⟩) s.n d1) (.slice (some ⟨g2, 0, none⟩) s.n d2) (.slice a3 s.back.length c3) (.int .i64 s.ever) (by simp)
  obtain ⟨r0, r1, k0, k1⟩ := hP.c2 (w.heap.size + 1) 33 (.int .i64 i) (.int .i64 q) (by simp)
  have x2a : ∀ o, (W3.alloc o).cell? ⟨w.heap.size, 2, none⟩ = some (.slice a3 s.back.length c3) := fun o => pw_cell_below (below_alloc (Below.refl _ _) o) x2
  have r0a : ∀ o, (W3.alloc o).cell? ⟨w.heap.size + 1, 0, none⟩ = some (.int .i64 i) := fun o => pw_cell_below (below_alloc (Below.refl _ _) o) r0
  have HP := Aside0.mk hP
  have HB0 := Aside0.mk (show (0 + s.back.length) * 8 ≤ 140737488355328 by omega)
  have HB1 := Aside0.mk (show (s.back.length + 1) * 8 ≤ 140737488355328 by omega)
  clear hP
  go_region_law (first
    | (refine append_rows_step (w0 := w) (A := []) (by rfl) (.const (.slice none 0 0)) (.tmp 19) 26 3 (.int .i64 0) 1 8 rfl Try.underlying26 info3 rfl (by decide) (by decide) (.slice none 0 0) 0 [] (by simp [Act.eval, Act.put]) a3 s.back.length c3 (nums .i64 s.back) (by simp [Act.eval, Act.put]) (nums_one _) (Gr.nil _ _) (by first | exact HP.out.drew | exact (HP.out.alloc _).drew) (D3.out.below (by first | exact HP.out.drew.bel | exact (HP.out.alloc _).drew.bel)) HB0.out ?_; intro v1 w5 B1 hG hH; rw [Nat.zero_add, List.nil_append] at hG; obtain ⟨b3, d3, rfl, hd3⟩ := hG.form; have KG := Aside0.mk hG; have KH := Aside0.mk hH; have r0b := hH.cell (g := w.heap.size + 1) (t := 33) (cs := #[.int .i64 i, .int .i64 q]) (by simp) 0 rfl; clear hG hH hd3)
    | (refine append_step (w0 := w) (A := B1) (by rfl) (.tmp 20) (.tmp 23) 26 3 (.int .i64 0) 1 8 rfl Try.underlying26 info3 rfl (by decide) (by decide) (.slice b3 s.back.length d3) s.back.length (nums .i64 s.back) (by simp [Act.eval, Act.put]) ⟨w5.heap.size, 0, none⟩ 1 1 [.int .i64 i] (by simp [Act.eval, Act.put]) rfl (news_new _ _ 3 _ rfl) (by intro u hu; simp at hu; subst hu; rfl) KG.out (KH.out.skip _) HB1.out ?_; intro v2 w6 B2 hG hH; obtain ⟨b4, d4, rfl, hd4⟩ := hG.form; have KG2 := Aside0.mk hG; have KH2 := Aside0.mk hH; obtain ⟨xx0, xx1, xx2, xx3, uu0, uu1, uu2, uu3⟩ := hH.c4 w.heap.size 29 (.slice (some ⟨g1, 0, none⟩) s.n d1) (.slice (some ⟨g2, 0, none⟩) s.n d2) (.slice a3 s.back.length c3) (.int .i64 s.ever) (by simp); obtain ⟨y0, y1, y2, y3, v0, v1, v2, v3⟩ := hH.c4 (w.heap.size + 1 + 1) 29 (.slice none 0 0) (.slice none 0 0) (.slice none 0 0) (.int .i64 0) (by simp); clear hG hH hd4)
    | (refine append_step (w0 := w) (A := B1) (by rfl) (.tmp 20) (.tmp 23) 26 3 (.int .i64 0) 1 8 rfl Try.underlying26 info3 rfl (by decide) (by decide) (.slice b3 s.back.length d3) s.back.length (nums .i64 s.back) (by simp [Act.eval, Act.put]) ⟨W3.heap.size, 0, none⟩ 1 1 [.int .i64 i] (by simp [Act.eval, Act.put]) rfl (by intro j u hj; match j, hj with | 0, hj => simp at hj; subst hj; simpa [Addr.add] using KH.out.cell (g := W3.heap.size) (t := 3) (cs := #[.int .i64 i]) (by simp) 0 rfl) (by intro u hu; simp at hu; subst hu; rfl) KG.out KH.out HB1.out ?_; intro v2 w6 B2 hG hH; obtain ⟨b4, d4, rfl, hd4⟩ := hG.form; have KG2 := Aside0.mk hG; have KH2 := Aside0.mk hH; obtain ⟨xx0, xx1, xx2, xx3, uu0, uu1, uu2, uu3⟩ := hH.c4 w.heap.size 29 (.slice (some ⟨g1, 0, none⟩) s.n d1) (.slice (some ⟨g2, 0, none⟩) s.n d2) (.slice a3 s.back.length c3) (.int .i64 s.ever) (by simp); obtain ⟨y0, y1, y2, y3, v0, v1, v2, v3⟩ := hH.c4 (w.heap.size + 1 + 1) 29 (.slice none 0 0) (.slice none 0 0) (.slice none 0 0) (.int .i64 0) (by simp); clear hG hH hd4))
  all_goals
    go_wp2_with fail
    have K6 : Hv w w6 (B2 ++ [cb g1 3 cur1, cb g2 4 (cur2.setIfInBounds i.toNat (.bool false)), cb (w.heap.size + 1 + 1) 29 #[.slice none 0 0, .slice none 0 0, .slice none 0 0, .int .i64 0], cb (w.heap.size + 1) 33 #[.int .i64 i, .int .i64 q], cb w.heap.size 29 #[.slice (some ⟨g1, 0, none⟩) s.n d1, .slice (some ⟨g2, 0, none⟩) s.n d2, .slice a3 s.back.length c3, .int .i64 s.ever]]) := by
      first
        | exact KH2.out
        | exact KH2.out.drop (List.Sublist.append_left (List.sublist_cons_self _ _) _)
    have Q := ((((K6.comm.put 4 rfl 2 (.slice b4 (s.back.length + 1) d4)).put 2 rfl 0 (.slice (some ⟨g1, 0, none⟩) s.n d1)).put 2 rfl 1 (.slice (some ⟨g2, 0, none⟩) s.n d2)).put 2 rfl 2 (.slice b4 (s.back.length + 1) d4)).put 2 rfl 3 (.int .i64 s.ever)
    have eN : (s.drop i z).n = s.n := by simp [Ar.n, Ar.drop]
    have eE : (s.drop i z).ever = s.ever := rfl
    have eB : (s.drop i z).back = s.back ++ [i] := rfl
    refine bodyPost_ret (v := .tuple #[.agg #[.slice (some ⟨g1, 0, none⟩) s.n d1, .slice (some ⟨g2, 0, none⟩) s.n d2, .slice b4 (s.back.length + 1) d4, .int .i64 s.ever], .bool true]) (by simp [results, Try.results24, go_sem, y0, y1, y2, y3]) rfl ⟨some ⟨g1, 0, none⟩, d1, some ⟨g2, 0, none⟩, d2, b4, d4, _, ?_, Q, ?_, ?_, ?_⟩
    · rw [eN, eE, eB, List.length_append]; rfl
    · rw [eN, gens_drop s i z hi]
      exact ⟨by simp [nums, gens, Ar.n], hd1, fun hn => ⟨g1, 0, cur1, rfl, by simp, fun j hj => by rw [Nat.zero_add]; exact HC1.out j (by omega)⟩⟩
    · rw [eN, tks_drop, bools_set]
      exact rw_put (xs := bools (tks s)) (by simp [bools, tks, Ar.n]) hd2 (fun j hj => HC2.out j (by omega)) _ (by simp)
    · have hg := Rw.of_gr KG2.out
      rw [eB, List.length_append]
      have e : nums .i64 (s.back ++ [i]) = nums .i64 s.back ++ [.int .i64 i] := by simp [nums]
      rw [e]
      exact hg.mono (fun p hp => by simp [hp])
end Go.Proofs.Ytglbcfkmaamhaaa.R16
