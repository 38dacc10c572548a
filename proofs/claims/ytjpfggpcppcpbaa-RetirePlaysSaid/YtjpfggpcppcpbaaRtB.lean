/- retire.List: Next. No condition. -/
import Derived.Test.YtjpfggpcppcpbaaRtA
import Derived.Maps.RangeWalk
set_option linter.unusedVariables false
set_option linter.unusedSimpArgs false
namespace Go.Proofs.Ytjpfggpcppcpbaa.Rt
open Go Go.RowKit Go.MapKept Go.Proofs.YtjpfggpcppcpbaaW.PrintWords Go.Proofs.YtjpfggpcppcpbaaW.PrintLast Go.Proofs.YtjpfggpcppcpbaaW.PrintMore Go.Proofs.Ytjpfggpcppcpbaa.Hv Go.Proofs.Ytjpfggpcppcpbaa.Mp
variable {w0 w w1 : World} {g m : Nat} {s : Ls} {L L' : List Ob}

/-- Of those seen: none is due, or the one at key a is, and none before it. -/
def Best (least : Int) (done : List Et) (a : Int) : Prop :=
  (a = -1 ∧ ∀ p ∈ done, ¬ p.2.2.2.2 < least) ∨ (∃ p ∈ done, a = (p.1 : Int) ∧ p.2.2.2.2 < least ∧ ∀ x ∈ done, x.2.2.2.2 < least → p.1 ≤ x.1)
theorem best_nil (least : Int) : Best least [] (-1) := .inl ⟨rfl, by simp⟩
theorem best_stay {least : Int} {done : List Et} {a : Int} (h : Best least done a) (x : Et) (hx : ¬ x.2.2.2.2 < least) : Best least (x :: done) a := by
  rcases h with ⟨h1, h2⟩ | ⟨p, h1, h2, h3, h4⟩
  · refine .inl ⟨h1, ?_⟩
    intro p hp
    rcases List.mem_cons.1 hp with rfl | hp
    · exact hx
    · exact h2 p hp
  · refine .inr ⟨p, List.mem_cons_of_mem _ h1, h2, h3, ?_⟩
    intro y hy hd
    rcases List.mem_cons.1 hy with rfl | hy
    · exact absurd hd hx
    · exact h4 y hy hd
theorem best_keep {least : Int} {done : List Et} {a : Int} (h : Best least done a) (x : Et) (h0 : ¬ a < 0) (hx : ¬ (x.1 : Int) < a) : Best least (x :: done) a := by
  rcases h with ⟨h1, h2⟩ | ⟨p, h1, h2, h3, h4⟩
  · omega
  · refine .inr ⟨p, List.mem_cons_of_mem _ h1, h2, h3, ?_⟩
    intro y hy hd
    rcases List.mem_cons.1 hy with rfl | hy
    · omega
    · exact h4 y hy hd
theorem best_take {least : Int} {done : List Et} {a : Int} (h : Best least done a) (x : Et) (hd : x.2.2.2.2 < least) (hx : a < 0 ∨ (x.1 : Int) < a) : Best least (x :: done) (x.1 : Int) := by
  refine .inr ⟨x, List.mem_cons_self, rfl, hd, ?_⟩
  intro y hy hyd
  rcases List.mem_cons.1 hy with rfl | hy
  · exact Nat.le_refl _
  · rcases h with ⟨h1, h2⟩ | ⟨p, h1, h2, h3, h4⟩
    · exact absurd hyd (h2 y hy)
    · have := h4 y hy hyd
      omega
theorem best_ge {least : Int} {done : List Et} {a : Int} (h : Best least done a) : -1 ≤ a := by
  rcases h with ⟨h1, h2⟩ | ⟨p, h1, h2, h3, h4⟩ <;> omega
theorem best_no {least : Int} {done q : List Et} {a : Int} (h : Best least done a) (hp : q.Perm done) (h0 : a < 0) : ∀ p ∈ q, ¬ p.2.2.2.2 < least := by
  rcases h with ⟨h1, h2⟩ | ⟨p, h1, h2, h3, h4⟩
  · exact fun p hq => h2 p (hp.mem_iff.1 hq)
  · omega
theorem best_yes {least : Int} {done q : List Et} {a : Int} (h : Best least done a) (hp : q.Perm done) (hq : (q.map Prod.fst).Pairwise (· < ·)) (h0 : ¬ a < 0) : ∃ l1 p l2, q = l1 ++ p :: l2 ∧ a = (p.1 : Int) ∧ p.2.2.2.2 < least ∧ ∀ x ∈ l1, ¬ x.2.2.2.2 < least := by
  rcases h with ⟨h1, h2⟩ | ⟨p, h1, h2, h3, h4⟩
  · omega
  · obtain ⟨l1, l2, rfl⟩ := List.append_of_mem (hp.mem_iff.2 h1)
    refine ⟨l1, p, l2, rfl, h2, h3, ?_⟩
    intro x hx hd
    have h5 := h4 x (hp.mem_iff.1 (List.mem_append_left _ hx)) hd
    rw [List.map_append, List.pairwise_append] at hq
    have := hq.2.2 x.1 (List.mem_map_of_mem hx) p.1 (by simp)
    omega
theorem first_one {least : Int} : ∀ {l1 l2 r1 r2 : List Et} {p q : Et}, l1 ++ p :: l2 = r1 ++ q :: r2 → (∀ x ∈ l1, ¬ x.2.2.2.2 < least) → (∀ x ∈ r1, ¬ x.2.2.2.2 < least) → p.2.2.2.2 < least → q.2.2.2.2 < least → l1 = r1 ∧ p = q ∧ l2 = r2
  | [], l2, [], r2, p, q, h, _, _, _, _ => by simp at h; exact ⟨rfl, h.1, h.2⟩
  | [], l2, b :: r1, r2, p, q, h, _, h2, h3, _ => by
    simp at h
    exact absurd (h.1 ▸ h3) (h2 b List.mem_cons_self)
  | a :: l1, l2, [], r2, p, q, h, h1, _, _, h4 => by
    simp at h
    exact absurd (h.1 ▸ h4) (h1 a List.mem_cons_self)
  | a :: l1, l2, b :: r1, r2, p, q, h, h1, h2, h3, h4 => by
    simp at h
    obtain ⟨e1, e2, e3⟩ := first_one h.2 (fun x hx => h1 x (List.mem_cons_of_mem _ hx)) (fun x hx => h2 x (List.mem_cons_of_mem _ hx)) h3 h4
    exact ⟨by rw [h.1, e1], e2, e3⟩
theorem ok_del {s : Ls} (h : Ok s) {l1 l2 : List Et} {p : Et} (e : s.q = l1 ++ p :: l2) : Ok ⟨l1 ++ l2, s.ever⟩ := by
  have hs : (l1 ++ l2).Sublist s.q := by
    rw [e]
    exact List.Sublist.append_left (List.sublist_cons_self _ _) _
  exact ⟨h.asc.sublist (hs.map _), fun x hx => h.lt x (hs.mem hx)⟩

theorem perm_on {q done left left' : List Et} {x : Et} (h : q.Perm (done ++ left)) (hl : left.Perm (x :: left')) : q.Perm (x :: done ++ left') :=
  h.trans ((hl.append_left done).trans List.perm_middle)

def NextP (w0 : World) (g m : Nat) (s : Ls) (L : List Ob) (least : Int) (e : Ending) (w' : World) : Prop :=
  ((∀ p ∈ s.q, ¬ p.2.2.2.2 < least) ∧ e = .returned (.tuple #[.agg #[.bool false, .int .i64 0, .int .i64 0, .int .i64 0], .bool false]) ∧ Rtn w0 w' g m s L) ∨
  (∃ l1 p l2, s.q = l1 ++ p :: l2 ∧ (∀ x ∈ l1, ¬ x.2.2.2.2 < least) ∧ p.2.2.2.2 < least ∧ e = .returned (.tuple #[val p.2, .bool true]) ∧ Rtn w0 w' g m ⟨l1 ++ l2, s.ever⟩ L)

set_option maxHeartbeats 8000000 in
set_option maxRecDepth 100000 in
theorem next.all (h : Rtn w0 w g m s L) (least : Int) : Calls Try.prog 9 #[.pointer (some ⟨g, 0, none⟩), .int .i64 least] w (NextP w0 g m s L least) := by
  have hu47 := Try.underlying47
  have hu45 := Try.underlying45
  have hu30 := Try.underlying30
  obtain ⟨om, h1, h2, h3⟩ := h
  have H2 := Aside0.mk h2
  have H3 := Aside0.mk h3
  have h1' := h1.alloc (.cells #[.bool false, .int .i64 0, .int .i64 0, .int .i64 0] 30)
  obtain ⟨c0, c1, f0, f1⟩ := h1'.c2 g 47 (.map (some m)) (.int .i64 (s.ever : Int)) (by simp)
  have HH := Aside0.mk h1'
  clear h1 h2 h3 h1'
  go_enter Try.func9, Try.ntmps9
  go_wp2_with (at_range; refine range_at rfl _ rfl Try.underlying45 HH.out (om := om) (b := m) (by simp) H2.out rfl ?_; intro r oi w1 hI h1)
  have HI := Aside0.mk hI
  have H1 := Aside0.mk h1
  clear hI h1
  go_frame
  go_loopg [6] s.q.length (fun kq v6 wr => ∃ (a : Int) (left done : List Et) (oi : Obj), v6 = .int .i64 a ∧ kq = left.length ∧ s.q.Perm (done ++ left) ∧ Best least done a ∧ Aside0 (HasI om oi m s left) ∧ Aside0 (Hv w0 wr ((r, oi) :: cb w.heap.size 30 #[.bool false, .int .i64 0, .int .i64 0, .int .i64 0] :: cb g 47 #[.map (some m), .int .i64 (s.ever : Int)] :: (m, om) :: L)))
  case atStart => exact ⟨-1, s.q, [], oi, rfl, rfl, List.Perm.refl _, best_nil _, ⟨HI.out⟩, ⟨H1.out⟩⟩
  case round =>
    obtain ⟨a, left, done, oi1, rfl, rfl, hp, hB, HI1, HV⟩ := hrel
    have HP := Aside0.mk hp
    have HB := Aside0.mk hB
    clear hp hB HI H1 oi
    obtain ⟨b4a, b4b, b4c, b4d, g4a, g4b, g4c, g4d⟩ := HV.out.c4 w.heap.size 30 _ _ _ _ (List.mem_cons_of_mem _ List.mem_cons_self)
    clear c0 c1 f0 f1
    have hge := best_ge HB.out
    cases left with
    | nil =>
      obtain ⟨c0, c1, f0, f1⟩ := HV.out.c2 g 47 (.map (some m)) (.int .i64 (s.ever : Int)) (by simp)
      by_cases ha : a < 0
      · go_wp2_with (at_next; refine next_none rfl _ rfl HV.out (b := m) (om := om) (by simp) 0 rfl HI1.out rfl ?_)
        have HW := HV.out
        obtain ⟨wf, hw, hf⟩ : ∃ wf, wf = _ ∧ Hv w0 wf ((r, oi1) :: cb w.heap.size 30 #[.bool false, .int .i64 0, .int .i64 0, .int .i64 0] :: cb g 47 #[.map (some m), .int .i64 (s.ever : Int)] :: (m, om) :: L) := ⟨_, rfl, by simpa using ((((HW.put 1 rfl 0 (.bool false)).put 1 rfl 1 (.int .i64 0)).put 1 rfl 2 (.int .i64 0)).put 1 rfl 3 (.int .i64 0))⟩
        rw [← hw]
        obtain ⟨q0, q1, q2, q3, -, -, -, -⟩ := hf.c4 w.heap.size 30 _ _ _ _ (List.mem_cons_of_mem _ List.mem_cons_self)
        exact bodyPost_ret (v := .tuple #[.agg #[.bool false, .int .i64 0, .int .i64 0, .int .i64 0], .bool false]) (by simp [results, Try.results9, go_sem, q0, q1, q2, q3, hu30]) rfl (.inl ⟨best_no HB.out (by simpa using HP.out) ha, rfl, om, hf.tail.tail, H2.out, H3.out⟩)
      · obtain ⟨l1, ⟨k, b, x0, x1, x2⟩, l2, e0, rfl, hd, hl1⟩ := best_yes HB.out (by simpa using HP.out) H3.out.asc ha
        have hIs := H2.out
        rw [e0, List.map_append, List.map_cons] at hIs
        have hlook := look_hasW (P := Try.prog) (mty := 45) (v := .agg #[.bool b, .int .i64 x0, .int .i64 x1, .int .i64 x2]) Try.underlying45 Try.underlying3 hIs (keyK (k : Int)) (by simp [pr, mkK, mkV, val]) false wr (HV.out.box (m, om) (by simp))
        have KH := Aside0.mk (And.intro hIs (And.intro e0 (And.intro hd hl1)))
        clear hIs e0 hd hl1
        simp only [Bool.false_eq_true, if_false] at hlook
        have hvb := HV.out.alloc (.cells #[.bool b, .int .i64 x0, .int .i64 x1, .int .i64 x2] 30)
        obtain ⟨d0, d1, d2, d3⟩ := hvb.c2 g 47 (.map (some m)) (.int .i64 (s.ever : Int)) (by simp)
        have KB := Aside0.mk hvb
        clear hvb
        go_wp2_with (first | (at_next; refine next_none rfl _ rfl HV.out (b := m) (om := om) (by simp) 0 rfl HI1.out rfl ?_) | (at_delete; refine del_at rfl _ _ rfl Try.underlying45 Try.underlying3 4 KB.out rfl (.int .i64 (k : Int)) KH.out.1 rfl rfl (keyK _) ?_; intro om' w2 hM hv2; obtain ⟨q0, q1, q2, q3, -, -, -, -⟩ := hv2.c4 wr.heap.size 30 (.bool b) (.int .i64 x0) (.int .i64 x1) (.int .i64 x2) (by simp); obtain ⟨z0, z1, z2, z3, y0, y1, y2, y3⟩ := hv2.c4 w.heap.size 30 (.bool false) (.int .i64 0) (.int .i64 0) (.int .i64 0) (by simp); have KM := Aside0.mk hM; have K2 := Aside0.mk hv2; clear hM hv2))
        obtain ⟨wf, hw, hf⟩ : ∃ wf, wf = _ ∧ Hv w0 wf (cb w.heap.size 30 #[.bool b, .int .i64 x0, .int .i64 x1, .int .i64 x2] :: cb g 47 #[.map (some m), .int .i64 (s.ever : Int)] :: (m, om') :: L) := ⟨_, rfl, by simpa using ((((K2.out.tail.tail.put 0 rfl 0 (.bool b)).put 0 rfl 1 (.int .i64 x0)).put 0 rfl 2 (.int .i64 x1)).put 0 rfl 3 (.int .i64 x2))⟩
        rw [← hw]
        obtain ⟨p0, p1, p2, p3, -, -, -, -⟩ := hf.c4 w.heap.size 30 _ _ _ _ List.mem_cons_self
        exact bodyPost_ret (v := .tuple #[.agg #[.bool b, .int .i64 x0, .int .i64 x1, .int .i64 x2], .bool true]) (by simp [results, Try.results9, go_sem, p0, p1, p2, p3, hu30]) rfl (.inr ⟨l1, (k, b, x0, x1, x2), l2, KH.out.2.1, (fun x hx => by have := KH.out.2.2.2 x hx; omega), KH.out.2.2.1, rfl, om', hf.tail, by simpa using KM.out, ok_del H3.out KH.out.2.1⟩)
    | cons p0 lf0 =>
      go_wp2_with (at_next; refine next_some (fun x : Et => Value.int .i64 (x.1 : Int)) (fun x : Et => Value.agg #[.bool x.2.1, .int .i64 x.2.2.1, .int .i64 x.2.2.2.1, .int .i64 x.2.2.2.2]) rfl _ rfl HV.out (b := m) (om := om) (by simp) 0 rfl (by simp) HI1.out rfl ?_; intro x left' oi' w1 hpl hI' hv' hen)
      · have hd : x.2.2.2.2 < least := by assumption
        have hx : a < 0 ∨ (x.1 : Int) < a := by assumption
        go_roundg left'.length
        case measure => have := hpl.length_eq; simp at this ⊢; omega
        case rel => exact ⟨x.1, left', x :: done, oi', rfl, rfl, perm_on HP.out hpl, best_take HB.out x hd hx, ⟨hI'⟩, ⟨hv'.skip _⟩⟩
      · have hx : 0 ≤ a ∧ a ≤ (x.1 : Int) := by assumption
        go_roundg left'.length
        case measure => have := hpl.length_eq; simp at this ⊢; omega
        case rel => exact ⟨a, left', x :: done, oi', rfl, rfl, perm_on HP.out hpl, best_keep HB.out x (by omega) (by omega), ⟨hI'⟩, ⟨hv'.skip _⟩⟩
      · have hd : x.2.2.2.2 < least := by assumption
        have hx : a < 0 := by assumption
        go_roundg left'.length
        case measure => have := hpl.length_eq; simp at this ⊢; omega
        case rel => exact ⟨x.1, left', x :: done, oi', rfl, rfl, perm_on HP.out hpl, best_take HB.out x hd (.inl hx), ⟨hI'⟩, ⟨hv'.skip _⟩⟩
      · have hd : least ≤ x.2.2.2.2 := by assumption
        go_roundg left'.length
        case measure => have := hpl.length_eq; simp at this ⊢; omega
        case rel => exact ⟨a, left', x :: done, oi', rfl, rfl, perm_on HP.out hpl, best_stay HB.out x (by omega), ⟨hI'⟩, ⟨hv'.skip _⟩⟩
theorem next.no (h : Rtn w0 w g m s L) (least : Int) (hn : ∀ p ∈ s.q, ¬ p.2.2.2.2 < least) : Calls Try.prog 9 #[.pointer (some ⟨g, 0, none⟩), .int .i64 least] w fun e w' => e = .returned (.tuple #[.agg #[.bool false, .int .i64 0, .int .i64 0, .int .i64 0], .bool false]) ∧ Rtn w0 w' g m s L :=
  (next.all h least).mono fun e w' hh => by
    rcases hh with ⟨_, h2, h3⟩ | ⟨l1, p, l2, h1, h2, h3, _⟩
    · exact ⟨h2, h3⟩
    · exact absurd h3 (hn p (by rw [h1]; simp))
theorem next.yes (h : Rtn w0 w g m s L) (least : Int) {l1 l2 : List Et} {k : Nat} {b : Bool} {x0 x1 x2 : Int} (e : s.q = l1 ++ (k, b, x0, x1, x2) :: l2) (hn : ∀ p ∈ l1, ¬ p.2.2.2.2 < least) (hd : x2 < least) :
    Calls Try.prog 9 #[.pointer (some ⟨g, 0, none⟩), .int .i64 least] w fun e w' => e = .returned (.tuple #[.agg #[.bool b, .int .i64 x0, .int .i64 x1, .int .i64 x2], .bool true]) ∧ Rtn w0 w' g m ⟨l1 ++ l2, s.ever⟩ L :=
  (next.all h least).mono fun e' w' hh => by
    rcases hh with ⟨h1, _⟩ | ⟨r1, p, r2, h1, h2, h3, h4, h5⟩
    · exact absurd hd (h1 (k, b, x0, x1, x2) (by rw [e]; simp))
    · obtain ⟨rfl, rfl, rfl⟩ := first_one (e.symm.trans h1) hn h2 hd h3
      exact ⟨h4, h5⟩
end Go.Proofs.Ytjpfggpcppcpbaa.Rt
