/- sets.Sets: Reads, Nodes (slices.Clone). No condition. -/
import Derived.Test.YtgecokldbkamlaaStC
import Derived.Test.YtgecokldbkamlaaShelf
set_option linter.unusedVariables false
set_option linter.unusedSimpArgs false
namespace Go.Proofs.Ytgecokldbkamlaa.St
open Go Go.RowKit Go.MapKept Go.Proofs.YtgecokldbkamlaaW.PrintWords Go.Proofs.YtgecokldbkamlaaW.PrintLast Go.Proofs.YtgecokldbkamlaaW.PrintMore Go.Proofs.Ytgecokldbkamlaa.Hv Go.Proofs.Ytgecokldbkamlaa.Mk Go.Proofs.Ytgecokldbkamlaa.Ka
variable {w0 w w1 : World} {g : Nat} {s : St} {L L' : List Ob}

theorem of_own {e size n : Nat} {v : Value} {xs : List Value} (ho : w1.ownsRow w.heap.size e size v n xs) (hb : Below w.heap.size w w1) : ∃ A, Gr e size v n xs A ∧ Hv w w1 A := by
  rcases ho.2 with ⟨h1, h2⟩ | ⟨b, cap, cur, rfl, hge, hbox, h3, h4, h5, h6⟩
  · exact ⟨[], ⟨ho.1, .inl ⟨h1, h2, rfl⟩⟩, ⟨hb, by simp, by simp, by simp⟩⟩
  · refine ⟨[cb b e cur], ⟨ho.1, .inr ⟨b, cap, cur, rfl, rfl, h3, h4, h5, h6⟩⟩, ⟨hb, ?_, ?_, by simp⟩⟩
    · intro p hp
      simp at hp
      subst hp
      exact hbox
    · intro p hp
      simp at hp
      subst hp
      exact hge
theorem Sts.join (h : Sts w0 w g s L) {A : List Ob} (k : Hv w w1 A) : Sts w0 w1 g s (A ++ L) := by
  obtain ⟨mr, ms, mw, or, os, ow, vr, vn, A1, B, h1, h2, h3, h4, h5, h6⟩ := h
  refine ⟨mr, ms, mw, or, os, ow, vr, vn, A1, B, (h1.join k).perm ?_, h2, h3, h4, h5, h6⟩
  have := toFront A (cb g 63 #[vr, vn, .map (some mr), .map (some ms), .map (some mw)] :: (mr, or) :: (ms, os) :: (mw, ow) :: (A1 ++ B)) L rfl
  simpa [List.append_assoc] using this.symm
theorem cel3_one (l : List R3) : ∀ u ∈ l.flatMap cel3, u.oneCell' = true := by
  intro u hu
  obtain ⟨x, _, hx⟩ := List.mem_flatMap.1 hu
  simp [cel3] at hx
  rcases hx with rfl | rfl | rfl <;> rfl
theorem cloneR.calls {ad : Option Addr} {n c : Nat} {l : List R3} {A : List Ob} (hn : n ≤ 1000000) (hG : Gr 36 3 (.slice ad n c) n (l.flatMap cel3) A) (hv : Hv w0 w (A ++ L)) :
    Calls Try.prog 25 #[.slice ad n c] w fun e w' => ∃ ad c A', e = .returned (.slice ad n c) ∧ Gr 36 3 (.slice ad n c) n (l.flatMap cel3) A' ∧ Hv w w' A' := by
  cases ad with
  | none =>
    have h0 : n = 0 := by
      rcases hG.2 with ⟨h1, h2, _⟩ | ⟨_, _, _, h1, _⟩
      · exact h2
      · simp at h1
    subst h0
    have hc := AnyE.slices_Clone_nil Try.cloneR 0 c w
    change Calls Try.prog 25 _ _ _ at hc
    refine hc.mono ?_
    rintro e w' ⟨rfl, rfl⟩
    have hx : l.flatMap cel3 = [] := List.length_eq_zero_iff.1 (by have := hG.1; omega)
    rw [hx]
    exact ⟨none, 0, [], rfl, Gr.nil _ _, Hv.start _⟩
  | some a =>
    obtain ⟨g1, cap, cur, h1, h2, h3, h4, h5, h6⟩ : ∃ g cap cur, Value.slice (some a) n c = .slice (some ⟨g, 0, none⟩) n cap ∧ A = [cb g 36 cur] ∧ n ≤ cap ∧ cap ≤ maxLen ∧ cur.size = cap * 3 ∧ cur.toList.take (n * 3) = l.flatMap cel3 := by
      rcases hG.2 with ⟨h1, _⟩ | ⟨g, cap, cur, h1, h2, h3, h4, h5, h6⟩
      · simp at h1
      · exact ⟨g, cap, cur, h1, h2, h3, h4, h5, h6⟩
    simp only [Value.slice.injEq, Option.some.injEq] at h1
    obtain ⟨rfl, _, rfl⟩ := h1
    subst h2
    have hi : (Try.prog.info? 36).map (fun i => (i.zero, i.size, i.bytes)) = some (some (.agg #[.int .i64 0, .int .i64 0, .int .i64 0]), 3, 24) := by kernel_rfl
    obtain ⟨i0, hi0, hz⟩ := Option.map_eq_some_iff.1 hi
    simp only [Prod.mk.injEq] at hz
    have hc := AnyE.slices_Clone Try.cloneR i0 _ 3 24 hi0 hz.1 hz.2.1 hz.2.2 rfl (by decide) Try.sizeOf36 g1 0 n c (l.flatMap cel3) w hG.1 (by unfold maxLen; omega) (by omega)
      (fun j u hj => by
        have hjn : j < n * 3 := by rw [← hG.1]; exact (List.getElem?_eq_some_iff.1 hj).1
        have := hv.cell (g := g1) (t := 36) (cs := cur) (by simp) j (v := u) (by rw [← h6, List.getElem?_take_of_lt hjn, Array.getElem?_toList] at hj; exact hj)
        rw [Nat.zero_add]
        exact this) (cel3_one l)
    change Calls Try.prog 25 _ _ _ at hc
    refine hc.mono ?_
    rintro e w' ⟨v', rfl, ho, _, hb⟩
    obtain ⟨A', hG', hH'⟩ := of_own ho hb
    obtain ⟨ad', c', rfl, _⟩ := hG'.form
    exact ⟨ad', c', A', rfl, hG', hH'⟩
def ReadsP (w0 : World) (g : Nat) (s : St) (L : List Ob) (e : Ending) (w' : World) : Prop :=
  ∃ ad c A, e = .returned (.slice ad s.reads.length c) ∧ Gr 36 3 (.slice ad s.reads.length c) s.reads.length (s.reads.flatMap cel3) A ∧ Sts w0 w' g s (A ++ L)
set_option maxHeartbeats 4000000 in
set_option maxRecDepth 100000 in
theorem reads.calls (h : Sts w0 w g s L) (hn : s.reads.length ≤ 1000000) : Calls Try.prog 14 #[.pointer (some ⟨g, 0, none⟩)] w (ReadsP w0 g s L) := by
  have hu63 := Try.underlying63
  have HS := Aside0.mk h
  obtain ⟨mr, ms, mw, or, os, ow, vr, vn, A, B, h1, h2, h3, h4, h5, h6⟩ := h
  obtain ⟨ad, c, rfl, hnc⟩ := h2.form
  obtain ⟨c0, c1, c2, c3, c4, -, -, -, -, -⟩ := h1.c5 g 63 (.slice ad s.reads.length c) vn (.map (some mr)) (.map (some ms)) (.map (some mw)) (by simp)
  have KK := Aside0.mk (And.intro h2 (h1.tail.tail.tail.tail))
  have HN := Aside0.mk hn
  clear h1 h2 h3 h4 h5 h6 hnc hn c1 c2 c3 c4
  go_enter Try.func14, Try.ntmps14
  go_wp2_with fail
  refine (cloneR.calls HN.out KK.out.1 KK.out.2).mono ?_
  rintro e1 w1 ⟨ad1, c1, A1, rfl, hG, hH⟩
  have HG := Aside0.mk hG
  have HH := Aside0.mk (HS.out.join hH)
  clear hG hH c0
  go_wp2_with fail
  exact bodyPost_ret (v := .slice ad1 s.reads.length c1) (by simp [results, Try.results14, go_sem]) rfl ⟨ad1, c1, A1, rfl, HG.out, HH.out⟩
theorem cloneN.calls {ad : Option Addr} {n c : Nat} {l : List R3} {A : List Ob} (hn : n ≤ 1000000) (hG : Gr 38 3 (.slice ad n c) n (l.flatMap cel3) A) (hv : Hv w0 w (A ++ L)) :
    Calls Try.prog 26 #[.slice ad n c] w fun e w' => ∃ ad c A', e = .returned (.slice ad n c) ∧ Gr 38 3 (.slice ad n c) n (l.flatMap cel3) A' ∧ Hv w w' A' := by
  cases ad with
  | none =>
    have h0 : n = 0 := by
      rcases hG.2 with ⟨h1, h2, _⟩ | ⟨_, _, _, h1, _⟩
      · exact h2
      · simp at h1
    subst h0
    have hc := AnyE.slices_Clone_nil Try.cloneN 0 c w
    change Calls Try.prog 26 _ _ _ at hc
    refine hc.mono ?_
    rintro e w' ⟨rfl, rfl⟩
    have hx : l.flatMap cel3 = [] := List.length_eq_zero_iff.1 (by have := hG.1; omega)
    rw [hx]
    exact ⟨none, 0, [], rfl, Gr.nil _ _, Hv.start _⟩
  | some a =>
    obtain ⟨g1, cap, cur, h1, h2, h3, h4, h5, h6⟩ : ∃ g cap cur, Value.slice (some a) n c = .slice (some ⟨g, 0, none⟩) n cap ∧ A = [cb g 38 cur] ∧ n ≤ cap ∧ cap ≤ maxLen ∧ cur.size = cap * 3 ∧ cur.toList.take (n * 3) = l.flatMap cel3 := by
      rcases hG.2 with ⟨h1, _⟩ | ⟨g, cap, cur, h1, h2, h3, h4, h5, h6⟩
      · simp at h1
      · exact ⟨g, cap, cur, h1, h2, h3, h4, h5, h6⟩
    simp only [Value.slice.injEq, Option.some.injEq] at h1
    obtain ⟨rfl, _, rfl⟩ := h1
    subst h2
    have hi : (Try.prog.info? 38).map (fun i => (i.zero, i.size, i.bytes)) = some (some (.agg #[.int .i64 0, .int .i64 0, .int .i64 0]), 3, 24) := by kernel_rfl
    obtain ⟨i0, hi0, hz⟩ := Option.map_eq_some_iff.1 hi
    simp only [Prod.mk.injEq] at hz
    have hc := AnyE.slices_Clone Try.cloneN i0 _ 3 24 hi0 hz.1 hz.2.1 hz.2.2 rfl (by decide) Try.sizeOf38 g1 0 n c (l.flatMap cel3) w hG.1 (by unfold maxLen; omega) (by omega)
      (fun j u hj => by
        have hjn : j < n * 3 := by rw [← hG.1]; exact (List.getElem?_eq_some_iff.1 hj).1
        have := hv.cell (g := g1) (t := 38) (cs := cur) (by simp) j (v := u) (by rw [← h6, List.getElem?_take_of_lt hjn, Array.getElem?_toList] at hj; exact hj)
        rw [Nat.zero_add]
        exact this) (cel3_one l)
    change Calls Try.prog 26 _ _ _ at hc
    refine hc.mono ?_
    rintro e w' ⟨v', rfl, ho, _, hb⟩
    obtain ⟨A', hG', hH'⟩ := of_own ho hb
    obtain ⟨ad', c', rfl, _⟩ := hG'.form
    exact ⟨ad', c', A', rfl, hG', hH'⟩
def NodesP (w0 : World) (g : Nat) (s : St) (L : List Ob) (e : Ending) (w' : World) : Prop :=
  ∃ ad c A, e = .returned (.slice ad s.nodes.length c) ∧ Gr 38 3 (.slice ad s.nodes.length c) s.nodes.length (s.nodes.flatMap cel3) A ∧ Sts w0 w' g s (A ++ L)
set_option maxHeartbeats 4000000 in
set_option maxRecDepth 100000 in
theorem nodes.calls (h : Sts w0 w g s L) (hn : s.nodes.length ≤ 1000000) : Calls Try.prog 15 #[.pointer (some ⟨g, 0, none⟩)] w (NodesP w0 g s L) := by
  have hu63 := Try.underlying63
  have HS := Aside0.mk h
  obtain ⟨mr, ms, mw, or, os, ow, vr, vn, A, B, h1, h2, h3, h4, h5, h6⟩ := h
  obtain ⟨ad, c, rfl, hnc⟩ := h3.form
  obtain ⟨c0, c1, c2, c3, c4, -, -, -, -, -⟩ := h1.c5 g 63 vr (.slice ad s.nodes.length c) (.map (some mr)) (.map (some ms)) (.map (some mw)) (by simp)
  have KK := Aside0.mk (And.intro h3 (h1.tail.tail.tail.tail.right))
  have HN := Aside0.mk hn
  clear h1 h2 h3 h4 h5 h6 hnc hn c0 c2 c3 c4
  go_enter Try.func15, Try.ntmps15
  go_wp2_with fail
  refine (cloneN.calls HN.out KK.out.1 KK.out.2).mono ?_
  rintro e1 w1 ⟨ad1, k1, A1, rfl, hG, hH⟩
  have HG := Aside0.mk hG
  have HH := Aside0.mk (HS.out.join hH)
  clear hG hH c1
  go_wp2_with fail
  exact bodyPost_ret (v := .slice ad1 s.nodes.length k1) (by simp [results, Try.results15, go_sem]) rfl ⟨ad1, k1, A1, rfl, HG.out, HH.out⟩
end Go.Proofs.Ytgecokldbkamlaa.St
