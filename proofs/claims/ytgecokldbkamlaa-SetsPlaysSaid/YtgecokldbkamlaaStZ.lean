/- sets.Sets: Turned, the walk. No condition. -/
import Derived.Test.YtgecokldbkamlaaStY
set_option linter.unusedVariables false
set_option linter.unusedSimpArgs false
namespace Go.Proofs.Ytgecokldbkamlaa.St
open Go Go.RowKit Go.MapKept Go.Proofs.YtgecokldbkamlaaW.PrintWords Go.Proofs.YtgecokldbkamlaaW.PrintLast Go.Proofs.YtgecokldbkamlaaW.PrintMore Go.Proofs.Ytgecokldbkamlaa.Hv Go.Proofs.Ytgecokldbkamlaa.Mk Go.Proofs.Ytgecokldbkamlaa.Ka
variable {w0 w w1 : World} {g : Nat} {s : St} {L L' : List Ob} {a1 a2 a3 : Option Addr} {c1 c2 c3 : Nat}
theorem Mine.has {om : Obj} {mine : List Rf} (h : Mine om mine) {r : Rf} (hr : r ∈ mine) : ∃ l1 l2 v, IsM K2 om (l1 ++ (rkey r, v) :: l2) := by
  obtain ⟨ml, h1, h2⟩ := h
  obtain ⟨⟨k, v⟩, hq, e⟩ := (h2 r).2 hr
  simp only at e
  subst e
  obtain ⟨l1, l2, rfl⟩ := List.append_of_mem hq
  exact ⟨l1, l2, v, h1⟩
theorem Mine.no {om : Obj} {mine : List Rf} (h : Mine om mine) {r : Rf} (hr : r ∉ mine) : ∃ ml, IsM K2 om ml ∧ ∀ p ∈ ml, p.1 ≠ rkey r := by
  obtain ⟨ml, h1, h2⟩ := h
  exact ⟨ml, h1, fun p hp e => hr ((h2 r).1 ⟨p, hp, e⟩)⟩
theorem rkey_inj {r q : Rf} (h : rkey r = rkey q) : r = q := by
  simp only [rkey, Value.agg.injEq] at h
  have h9 := congrArg Array.toList h
  simp at h9
  exact Prod.ext h9.1 h9.2
theorem Mine.add {om : Obj} {mine : List Rf} (h : Mine om mine) (r : Rf) (v : Value) (b : Nat) : ∃ om', (∀ W : World, W.heap[b]? = some om → (Instr.mapUpdate 60 (.map (some b)) (rkey r) v).run Try.prog W = .ok () (Go.ChangeMaps.setBlock W b om')) ∧ Mine om' (mine ++ [r]) := by
  by_cases hr : r ∈ mine
  · obtain ⟨ml, h1, h2⟩ := h
    obtain ⟨⟨k, u⟩, hq, e⟩ := (h2 r).2 hr
    simp only at e
    subst e
    obtain ⟨l1, l2, rfl⟩ := List.append_of_mem hq
    obtain ⟨om', hu, hI⟩ := upd_oldW (P := Try.prog) (mty := 60) Try.underlying60 kl h1 ⟨r.1, r.2, rfl⟩ v b
    refine ⟨om', hu, _, hI, fun q => ?_⟩
    rw [List.mem_append, ← h2 q]
    simp only [List.mem_append, List.mem_cons, List.not_mem_nil, or_false]
    constructor
    · rintro ⟨p, (hp | rfl | hp), e⟩
      · exact .inl ⟨p, .inl hp, e⟩
      · exact .inl ⟨_, .inr (.inl rfl), e⟩
      · exact .inl ⟨p, .inr (.inr hp), e⟩
    · rintro (⟨p, (hp | rfl | hp), e⟩ | rfl)
      · exact ⟨p, .inl hp, e⟩
      · exact ⟨_, .inr (.inl rfl), e⟩
      · exact ⟨p, .inr (.inr hp), e⟩
      · exact ⟨_, .inr (.inl rfl), rfl⟩
  · obtain ⟨ml, h1, h2⟩ := h
    obtain ⟨om', hu, hI⟩ := upd_newW (P := Try.prog) (mty := 60) (key := rkey r) Try.underlying60 kl h1 ⟨r.1, r.2, rfl⟩ (fun p hp e => hr ((h2 r).1 ⟨p, hp, e⟩)) v b
    refine ⟨om', hu, _, hI, fun q => ?_⟩
    rw [List.mem_append, ← h2 q]
    simp only [List.mem_append, List.mem_singleton]
    constructor
    · rintro ⟨p, (hp | rfl), e⟩
      · exact .inl ⟨p, hp, e⟩
      · exact .inr (rkey_inj e).symm
    · rintro (⟨p, hp, e⟩ | rfl)
      · exact ⟨p, .inl hp, e⟩
      · exact ⟨_, .inr rfl, rfl⟩
theorem Gr.setc {e size n : Nat} {ad : Option Addr} {c : Nat} {xs : List Value} {A : List Ob} (h : Gr e size (.slice ad n c) n xs A) (hn : 0 < n) : ∃ gb cur, ad = some ⟨gb, 0, none⟩ ∧ A = [cb gb e cur] ∧ (∀ i, i < n * size → cur[i]? = xs[i]?) ∧ ∀ i u, Gr e size (.slice ad n c) n (xs.set i u) [cb gb e (cur.setIfInBounds i u)] := by
  have h0 := h.addr hn
  rcases h.2 with ⟨h1, rfl, rfl⟩ | ⟨gb, cap, cur, h1, rfl, h3, h4, h5, h6⟩
  · omega
  · simp only [Value.slice.injEq] at h1
    obtain ⟨rfl, _, rfl⟩ := h1
    obtain ⟨g', cur', e1, e2, _, _, _, h9⟩ := h0
    simp only [List.cons.injEq, Prod.mk.injEq, and_true, Obj.cells.injEq, true_and] at e2
    obtain ⟨rfl, rfl⟩ := e2
    refine ⟨gb, cur, rfl, rfl, h9, fun i u => ⟨by rw [List.length_set]; exact h.1, .inr ⟨gb, c, _, rfl, rfl, h3, h4, by simpa using h5, ?_⟩⟩⟩
    rw [Array.toList_setIfInBounds, List.take_set, h6]
theorem cel3_len (l : List R3) : (l.flatMap cel3).length = l.length * 3 := by
  induction l with
  | nil => rfl
  | cons a l ih => rw [List.flatMap_cons, List.length_append, ih]; simp [cel3]; omega
theorem cel3_set (l1 l2 : List R3) (r : Rf) (u v : Int) : ((l1 ++ (r, u) :: l2).flatMap cel3).set (l1.length * 3 + 2) (.int .i64 v) = (l1 ++ (r, v) :: l2).flatMap cel3 := by
  rw [List.flatMap_append, List.flatMap_append, List.set_append_right _ _ (by rw [cel3_len]; omega), cel3_len, Nat.add_sub_cancel_left, List.flatMap_cons, List.flatMap_cons]
  rfl
theorem ixs_set (l1 l2 : List R3) (r : Rf) (u v : Int) : ixs 0 (l1 ++ (r, u) :: l2) = ixs 0 (l1 ++ (r, v) :: l2) := by rw [ixs_at, ixs_at]
set_option maxHeartbeats 8000000 in
set_option maxRecDepth 100000 in
theorem turned.calls (h : Sts w0 w g s L) (ts : List Tn) {ad : Option Addr} {c : Nat} (hT : Rdy 7 w0 L ad ts.length (ts.flatMap tcel)) (hn : s.nodes.length + ts.length ≤ 100000) :
    Calls Try.prog 18 #[.pointer (some ⟨g, 0, none⟩), .slice ad ts.length c] w fun e w' => e = .returned (.tuple #[]) ∧ Sts w0 w' g { s with nodes := trn s.nodes ts } L := by
  have hu63 := Try.underlying63
  have hu60 := Try.underlying60
  have hu34 := Try.underlying34
  have hu38 := Try.underlying38
  have hu57 := Try.underlying57
  have hu41 := Try.underlying41
  have hmm := @run_makeMap Try.prog
  have HS := Aside0.mk (h.alloc (.map #[] 0))
  have HT := Aside0.mk hT
  have HN := Aside0.mk hn
  clear h hT hn
  go_enter Try.func18, Try.ntmps18
  go_wp2_with fail
  go_loopg [16] ts.length (fun kq v16 wr => ∃ (k : Nat) (om : Obj), v16 = .int .i64 (k : Int) ∧ kq = ts.length - k ∧ k ≤ ts.length ∧ Aside0 (Mine om (trn0 s.nodes (ts.take k)).2) ∧ Aside0 (Sts w0 wr g { s with nodes := (trn0 s.nodes (ts.take k)).1 } ((w.heap.size, om) :: L)))
  case atStart => exact ⟨0, _, rfl, rfl, Nat.zero_le _, ⟨[], IsM.empty _, by simp [trn0]⟩, HS⟩
  case round =>
    obtain ⟨k, om, rfl, rfl, hk, HM, HP⟩ := hrel
    clear HS
    have hpl := trn0_len s.nodes (ts.take k)
    rw [List.length_take, Nat.min_eq_left hk] at hpl
    generalize hp : trn0 s.nodes (ts.take k) = p at HM HP hpl
    obtain ⟨p1, p2⟩ := p
    simp only at HM HP hpl
    have HPP := Aside0.mk hp
    have HPL := Aside0.mk (show p1.length ≤ 1000000 by have := HN.out; omega)
    have hk7 : k ≤ 100000 := by have := HN.out; omega
    clear hp hpl
    by_cases hltn : k < ts.length
    · have hlt' : (k : Int) < (ts.length : Int) := by omega
      obtain ⟨mr, ms, mw, or, os, ow, vr, vn, A, B, h1, h2, h3, h4, h5, h6⟩ := HP.out
      obtain ⟨adl, ea, hcl⟩ := (HT.out wr _ h1 (fun p hp => by simp [hp])).2 (by omega)
      cases ea
      obtain ⟨⟨⟨n0, n1⟩, ⟨f0, f1⟩, old, new, fr⟩, hd⟩ : ∃ d, ts[k]? = some d := ⟨_, List.getElem?_eq_getElem hltn⟩
      have z0 := hcl (k * 7) _ (tcel_at ts k 0 _ (.int .i64 n0) hd rfl)
      have z1 := hcl (k * 7 + 1) _ (tcel_at ts k 1 _ (.int .i64 n1) hd rfl)
      have z2 := hcl (k * 7 + 2) _ (tcel_at ts k 2 _ (.int .i64 f0) hd rfl)
      have z3 := hcl (k * 7 + 3) _ (tcel_at ts k 3 _ (.int .i64 f1) hd rfl)
      have z4 := hcl (k * 7 + 4) _ (tcel_at ts k 4 _ (.int .i64 old) hd rfl)
      have z5 := hcl (k * 7 + 5) _ (tcel_at ts k 5 _ (.int .i64 new) hd rfl)
      have z6 := hcl (k * 7 + 6) _ (tcel_at ts k 6 _ (.bool fr) hd rfl)
      rw [add_next _ _ _ (by omega)] at z1 z2 z3 z4 z5 z6
      have hk1 := h1.alloc (.cells #[.int .i64 n0, .int .i64 n1, .int .i64 f0, .int .i64 f1, .int .i64 old, .int .i64 new, .bool fr] 57)
      obtain ⟨y0, y1, y2, y3, y4, y5, y6⟩ := c7 hk1 wr.heap.size 57 _ _ _ _ _ _ _ List.mem_cons_self
      have HD := Aside0.mk (show trn0 s.nodes (ts.take (k + 1)) = tstp (p1, p2) ⟨(n0, n1), (f0, f1), old, new, fr⟩ by rw [List.take_add_one, hd, Option.toList_some, trn0_snoc, HPP.out])
      have HS1 := Aside0.mk (HP.out.alloc (.cells #[.int .i64 n0, .int .i64 n1, .int .i64 f0, .int .i64 f1, .int .i64 old, .int .i64 new, .bool fr] 57)).tail
      have hbm := hk1.box (w.heap.size, om) (by simp)
      clear hcl hd
      cases fr
      · by_cases hm : (n0, n1) ∈ p1.map (·.1)
        · obtain ⟨l1, l2, u, e, hne⟩ := split_of_mem hm
          have h3' := h3
          have h5' := h5
          simp only at h3' h5'
          rw [e, ixs_at] at h5'
          have hl0 : ∀ W : World, W.heap[ms]? = some os → _ := fun W hb => look_hasW (P := Try.prog) (mty := 60) (o := os) Try.underlying60 kl h5' ⟨n0, n1, rfl⟩ true ms W hb
          simp only [if_true, rkey] at hl0
          have hlA := hl0 _ (hk1.box (ms, os) (by simp))
          have hlB := hl0 _ (hk1.drew.box (ms, os) (by simp))
          obtain ⟨d0, d1, d2, d3, d4, -, -, -, -, -⟩ := hk1.c5 g 63 vr vn (.map (some mr)) (.map (some ms)) (.map (some mw)) (by simp)
          have hat := cel3_at (l1 ++ ((n0, n1), u) :: l2) l1.length 2 ((n0, n1), u) (.int .i64 u) (by simp) rfl
          have hlen : l1.length < p1.length := by rw [e]; simp
          have hlt2 : (l1.length : Int) < (p1.length : Int) := by omega
          obtain ⟨adn, cn, rfl, hnc⟩ := h3.form
          simp only at h3 hlt2
          obtain ⟨gb, cur, rfl, rfl, hcur, hset⟩ := Gr.setc h3 (by omega)
          rw [← e] at hat
          have HEE := Aside0.mk (And.intro e hne)
          have hcu := (hcur (l1.length * 3 + 2) (by omega)).trans hat
          have KB := Aside0.mk hk1
          have KH := Aside0.mk (And.intro h2 (And.intro h4 (And.intro h6 (And.intro h5 hset))))
          have v2 := hk1.cell (g := gb) (t := 38) (cs := cur) (by simp) (l1.length * 3 + 2) hcu
          have fv2 := hk1.frozen (g := gb) (t := 38) (cs := cur) (by simp) (l1.length * 3 + 2)
          clear h2 h4 h6 h5 h5' hk1 hset hl0 hbm h3 h1
          by_cases huo : u = old
          · subst huo
            go_wp2_with fail
            go_region
            go_wp2_with fail
            go_quiet (fail)
            go_upto_region 11 with (fail)
            go_region
            go_upto_region 12 with (fail)
            obtain ⟨W2, hW, hP⟩ : ∃ W2, W2 = ((wr.alloc (.cells #[.int .i64 n0, .int .i64 n1, .int .i64 f0, .int .i64 f1, .int .i64 u, .int .i64 new, .bool false] 57)).drewN (1 + nq + 1)).setCell ⟨gb, l1.length * 3 + 2, none⟩ (.int .i64 new) ∧ Hv w0 W2 (cb gb 38 (cur.setIfInBounds (l1.length * 3 + 2) (.int .i64 new)) :: cb wr.heap.size 57 #[.int .i64 n0, .int .i64 n1, .int .i64 f0, .int .i64 f1, .int .i64 u, .int .i64 new, .bool false] :: cb g 63 #[vr, .slice (some ⟨gb, 0, none⟩) p1.length cn, .map (some mr), .map (some ms), .map (some mw)] :: (mr, or) :: (ms, os) :: (mw, ow) :: (A ++ ((w.heap.size, om) :: L))) := ⟨_, rfl, ((KB.out.drewN _).perm (L' := cb gb 38 cur :: cb wr.heap.size 57 #[.int .i64 n0, .int .i64 n1, .int .i64 f0, .int .i64 f1, .int .i64 u, .int .i64 new, .bool false] :: cb g 63 #[vr, .slice (some ⟨gb, 0, none⟩) p1.length cn, .map (some mr), .map (some ms), .map (some mw)] :: (mr, or) :: (ms, os) :: (mw, ow) :: (A ++ ((w.heap.size, om) :: L))) (toFront [cb gb 38 cur] (cb wr.heap.size 57 #[.int .i64 n0, .int .i64 n1, .int .i64 f0, .int .i64 f1, .int .i64 u, .int .i64 new, .bool false] :: cb g 63 #[vr, .slice (some ⟨gb, 0, none⟩) p1.length cn, .map (some mr), .map (some ms), .map (some mw)] :: (mr, or) :: (ms, os) :: (mw, ow) :: A) ((w.heap.size, om) :: L) (by simp))).put0 _ _ rfl⟩
            rw [← hW]
            clear hW y0 y1 y2 y3 y4 y5 y6 d0 d1 d2 d3 d4 v2 fv2 hcu hcur z0 z1 z2 z3 z4 z5 z6 hlA hlB
            obtain ⟨y0, y1, y2, y3, y4, y5, y6⟩ := c7 hP wr.heap.size 57 (.int .i64 n0) (.int .i64 n1) (.int .i64 f0) (.int .i64 f1) (.int .i64 u) (.int .i64 new) (.bool false) (by simp)
            obtain ⟨om', hup, hM'⟩ := HM.out.add (n0, n1) (.int .i64 (l1.length : Int)) w.heap.size
            have hu0 := hup W2 (hP.box (w.heap.size, om) (by simp))
            simp only [rkey] at hu0
            have HP2 := Aside0.mk hP
            have HM2 := Aside0.mk hM'
            clear hP hup hM'
            go_wp2_with fail
            go_roundg (ts.length - (k + 1))
            case measure => omega
            case rel =>
              have hst : trn0 s.nodes (ts.take (k + 1)) = (l1 ++ ((n0, n1), new) :: l2, p2 ++ [(n0, n1)]) := by
                rw [HD.out]
                simp only [tstp, Bool.false_eq_true, if_false, e, getN_split hne, setN_split hne, if_true]
              have q1 := (HP2.out.perm (L' := (w.heap.size, om) :: (cb gb 38 (cur.setIfInBounds (l1.length * 3 + 2) (.int .i64 new)) :: cb wr.heap.size 57 #[.int .i64 n0, .int .i64 n1, .int .i64 f0, .int .i64 f1, .int .i64 u, .int .i64 new, .bool false] :: cb g 63 #[vr, .slice (some ⟨gb, 0, none⟩) p1.length cn, .map (some mr), .map (some ms), .map (some mw)] :: (mr, or) :: (ms, os) :: (mw, ow) :: (A ++ L))) (toFront [(w.heap.size, om)] (cb gb 38 (cur.setIfInBounds (l1.length * 3 + 2) (.int .i64 new)) :: cb wr.heap.size 57 #[.int .i64 n0, .int .i64 n1, .int .i64 f0, .int .i64 f1, .int .i64 u, .int .i64 new, .bool false] :: cb g 63 #[vr, .slice (some ⟨gb, 0, none⟩) p1.length cn, .map (some mr), .map (some ms), .map (some mw)] :: (mr, or) :: (ms, os) :: (mw, ow) :: A) L (by simp))).turn 0 rfl om'
              have q2 := q1.drop (L' := (w.heap.size, om') :: (cb gb 38 (cur.setIfInBounds (l1.length * 3 + 2) (.int .i64 new)) :: cb g 63 #[vr, .slice (some ⟨gb, 0, none⟩) p1.length cn, .map (some mr), .map (some ms), .map (some mw)] :: (mr, or) :: (ms, os) :: (mw, ow) :: (A ++ L))) (by simp)
              refine ⟨k + 1, om', by go_num, rfl, hltn, by rw [hst]; exact HM2, by
                rw [hst]
                refine ⟨mr, ms, mw, or, os, ow, vr, .slice (some ⟨gb, 0, none⟩) p1.length cn, A, [cb gb 38 (cur.setIfInBounds (l1.length * 3 + 2) (.int .i64 new))], q2.perm ?_, KH.out.1, ?_, KH.out.2.1, ?_, KH.out.2.2.1⟩
                · exact ((List.Perm.swap _ _ L).append_left (cb g 63 #[vr, .slice (some ⟨gb, 0, none⟩) p1.length cn, .map (some mr), .map (some ms), .map (some mw)] :: (mr, or) :: (ms, os) :: (mw, ow) :: A)).trans (toFront [(w.heap.size, om'), cb gb 38 (cur.setIfInBounds (l1.length * 3 + 2) (.int .i64 new))] (cb g 63 #[vr, .slice (some ⟨gb, 0, none⟩) p1.length cn, .map (some mr), .map (some ms), .map (some mw)] :: (mr, or) :: (ms, os) :: (mw, ow) :: A) L rfl).symm |> fun h9 => by simpa [List.append_assoc] using h9
                · have h9 := KH.out.2.2.2.2 (l1.length * 3 + 2) (.int .i64 new)
                  have e8 : (l1 ++ ((n0, n1), new) :: l2).length = p1.length := by rw [HEE.out.1]; simp
                  rw [HEE.out.1] at h9
                  rw [cel3_set] at h9
                  simp only [e8]
                  rw [HEE.out.1]
                  exact h9
                · have h9 := KH.out.2.2.2.1
                  simp only [HEE.out.1] at h9
                  show IsM K2 os (ixs 0 (l1 ++ ((n0, n1), new) :: l2))
                  rw [ixs_set l1 l2 (n0, n1) new u]
                  exact h9⟩
          · have hud : (u == old) = false := by simpa using huo
            have hne2 : getN (n0, n1) p1 ≠ some old := by rw [e, getN_split hne]; simpa using huo
            have HNE := Aside0.mk hne2
            clear hne2
            go_wp2_with fail
            go_region
            go_wp2_with fail
            go_quiet (fail)
            go_wp2_with fail
            go_roundg (ts.length - (k + 1))
            case measure => omega
            case rel =>
              have hst : trn0 s.nodes (ts.take (k + 1)) = (p1, p2) := by rw [HD.out]; simp only [tstp, Bool.false_eq_true, if_false, HNE.out]
              exact ⟨k + 1, om, by go_num, rfl, hltn, by rw [hst]; exact HM, by rw [hst]; exact ⟨HS1.out.call (by repeat (first | exact Below.refl _ _ | apply below_drew1 | apply pw_below_drewN))⟩⟩
        · have hno := no_of_not_mem hm
          have hl0 : ∀ W : World, W.heap[ms]? = some os → _ := fun W hb => look_noW (P := Try.prog) (mty := 60) (o := os) Try.underlying60 kl h5 ⟨n0, n1, rfl⟩ (ixs_new hno) (.int .i64 0) true ms W (Try.zeroValue3 W) hb
          simp only [if_true, rkey] at hl0
          have hlA := hl0 _ (hk1.box (ms, os) (by simp))
          have hlB := hl0 _ (hk1.drew.box (ms, os) (by simp))
          obtain ⟨d0, d1, d2, d3, d4, -, -, -, -, -⟩ := hk1.c5 g 63 vr vn (.map (some mr)) (.map (some ms)) (.map (some mw)) (by simp)
          have HNE := Aside0.mk (show getN (n0, n1) p1 ≠ some old by rw [getN_no hno]; simp)
          clear h1 h2 h3 h4 h6 h5 hl0 hbm hno hk1
          go_wp2_with fail
          go_region
          go_wp2_with fail
          go_quiet (fail)
          go_wp2_with fail
          go_roundg (ts.length - (k + 1))
          case measure => omega
          case rel =>
            have hst : trn0 s.nodes (ts.take (k + 1)) = (p1, p2) := by rw [HD.out]; simp only [tstp, Bool.false_eq_true, if_false, HNE.out]
            exact ⟨k + 1, om, by go_num, rfl, hltn, by rw [hst]; exact HM, by rw [hst]; exact ⟨HS1.out.call (by repeat (first | exact Below.refl _ _ | apply below_drew1 | apply pw_below_drewN))⟩⟩
      · by_cases hf : (f0, f1) ∈ p2
        · obtain ⟨l1, l2, v, hI⟩ := HM.out.has hf
          have hl0 := look_hasW (P := Try.prog) (mty := 60) Try.underlying60 kl hI ⟨f0, f1, rfl⟩ true _ _ hbm
          simp only [if_true, rkey] at hl0
          have HF := Aside0.mk hf
          clear h1 h2 h3 h4 h5 h6 hk1 hI hbm hf
          go_wp2_with (go_at_call 17; go_loud (refine (node.any HS1.out HPL.out n0 n1 new).mono ?_); rintro e w2 ⟨rfl, hq⟩; have HS2 := Aside0.mk hq; clear hq)
          go_roundg (ts.length - (k + 1))
          case measure => omega
          case rel =>
            have hst : trn0 s.nodes (ts.take (k + 1)) = (addN p1 ((n0, n1), new), p2) := by rw [HD.out]; simp [tstp, HF.out]
            exact ⟨k + 1, om, by go_num, rfl, hltn, by rw [hst]; exact HM, by rw [hst]; exact HS2⟩
        · obtain ⟨ml, hI, hno⟩ := HM.out.no hf
          have hl0 := look_noW (P := Try.prog) (mty := 60) Try.underlying60 kl hI ⟨f0, f1, rfl⟩ hno (.int .i64 0) true _ _ (Try.zeroValue3 _) hbm
          simp only [if_true, rkey] at hl0
          have HF := Aside0.mk hf
          clear h1 h2 h3 h4 h5 h6 hk1 hI hbm hf hno
          go_wp2_with fail
          go_roundg (ts.length - (k + 1))
          case measure => omega
          case rel =>
            have hst : trn0 s.nodes (ts.take (k + 1)) = (p1, p2) := by rw [HD.out]; simp [tstp, HF.out]
            exact ⟨k + 1, om, by go_num, rfl, hltn, by rw [hst]; exact HM, by rw [hst]; exact HS1⟩
    · have hge : ¬ (k : Int) < (ts.length : Int) := by omega
      have hkk : k = ts.length := by omega
      have HW := Aside0.mk (show trn s.nodes ts = p1 by have := HPP.out; rw [hkk, List.take_length] at this; unfold trn; rw [this])
      clear hkk
      go_wp2_with fail
      go_end0
      exact ⟨rfl, by rw [HW.out]; exact HP.out.tail⟩
end Go.Proofs.Ytgecokldbkamlaa.St
