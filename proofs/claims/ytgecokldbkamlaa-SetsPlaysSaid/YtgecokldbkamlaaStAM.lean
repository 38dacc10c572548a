/- transomlaw21: SetsPlays, its walk. No condition. -/
import Derived.Test.YtgecokldbkamlaaStAL
set_option linter.unusedVariables false
set_option linter.unusedSimpArgs false
namespace Go.Proofs.Ytgecokldbkamlaa.St
open Go Go.RowKit Go.MapKept Go.Proofs.YtgecokldbkamlaaW.PrintWords Go.Proofs.YtgecokldbkamlaaW.PrintLast Go.Proofs.YtgecokldbkamlaaW.PrintMore Go.Proofs.Ytgecokldbkamlaa.Hv Go.Proofs.Ytgecokldbkamlaa.Mk Go.Proofs.Ytgecokldbkamlaa.Ka
variable {w0 w w1 : World} {g : Nat} {s s' x x' : St} {L L' L1 : List Ob} {v : Value}
/-- Sets, and a value of the reference's that lies in a box. -/
def PS (w0 w : World) (b g : Nat) (s x : St) : Prop := ∃ a1 c1 a2 c2 a3 c3 A, RS A x a1 c1 a2 c2 a3 c3 ∧ Sts w0 w g s (A ++ [cb b 31 #[.slice a1 x.reads.length c1, .slice a2 x.nodes.length c2, .slice a3 x.writes.length c3]])
theorem PS.call {b : Nat} (h : PS w0 w b g s x) (hb : Below w.heap.size w w1) : PS w0 w1 b g s x := by
  obtain ⟨a1, c1, a2, c2, a3, c3, A, h1, h2⟩ := h
  exact ⟨a1, c1, a2, c2, a3, c3, A, h1, h2.call hb⟩
theorem JS.call (h : JS w0 w L g s x v) (hb : Below w.heap.size w w1) : JS w0 w1 L g s x v := h.frame fun H hH => hH.call hb
theorem same.two {M : List Ob} (hv : Hv w0 w M) {a1 a2 a3 b1 b2 b3 : Option Addr} {c1 c2 c3 d1 d2 d3 : Nat} (h1 : x.reads.length ≤ 100000) (h2 : x.nodes.length ≤ 100000) (h3 : x.writes.length ≤ 100000) (hA : RS M x a1 c1 a2 c2 a3 c3) (hB : RS M x b1 d1 b2 d2 b3 d3) :
    Calls Try.prog 12 #[sval x a1 c1 a2 c2 a3 c3, sval x b1 d1 b2 d2 b3 d3] w fun e w' => e = .returned (.bool true) ∧ Hv w0 w' M := same.yes hv h1 h2 h3 hA hB
theorem Sts.below {M : List Ob} (h : Sts w0 w g s L) (hf : Hv w0 w L → Hv w0 w L) : True := trivial
theorem JS.inv {a1 a2 a3 : Option Addr} {c1 c2 c3 : Nat} (h : JS w0 w L g s x (sval x a1 c1 a2 c2 a3 c3)) : ∃ A, RS A x a1 c1 a2 c2 a3 c3 ∧ Sts w0 w g s (A ++ L) := by
  obtain ⟨b1, d1, b2, d2, b3, d3, A, e, h1, h2⟩ := h
  simp only [sval, Value.agg.injEq] at e
  have e9 := congrArg Array.toList e
  simp at e9
  obtain ⟨⟨rfl, rfl⟩, ⟨rfl, rfl⟩, rfl, rfl⟩ := e9
  exact ⟨A, h1, h2⟩
/-- Sets, and two values that stand for the same. -/
def JS2 (w0 w : World) (L : List Ob) (g : Nat) (s x : St) (u v : Value) : Prop := ∃ a1 c1 a2 c2 a3 c3 b1 d1 b2 d2 b3 d3 A, u = sval x a1 c1 a2 c2 a3 c3 ∧ v = sval x b1 d1 b2 d2 b3 d3 ∧ RS A x a1 c1 a2 c2 a3 c3 ∧ RS A x b1 d1 b2 d2 b3 d3 ∧ Sts w0 w g s (A ++ L)
theorem JS2.other {u : Value} (h : JS2 w0 w L g s x u v) : Hv w0 w L := by obtain ⟨_, _, _, _, _, _, _, _, _, _, _, _, A, _, _, _, _, h1⟩ := h; exact h1.other.right
theorem JS2.call {u : Value} (h : JS2 w0 w L g s x u v) (hb : Below w.heap.size w w1) : JS2 w0 w1 L g s x u v := by
  obtain ⟨a1, c1, a2, c2, a3, c3, b1, d1, b2, d2, b3, d3, A, e1, e2, h1, h2, h3⟩ := h
  exact ⟨a1, c1, a2, c2, a3, c3, b1, d1, b2, d2, b3, d3, A, e1, e2, h1, h2, h3.call hb⟩
theorem all2 (h : JS w0 w L g s x v) (hi : Inv s x) (h1 : s.reads.length ≤ 1000000) (h2 : s.nodes.length ≤ 1000000) (h3 : s.writes.length ≤ 100000) : Calls Try.prog 13 #[.pointer (some ⟨g, 0, none⟩)] w (fun e w' => ∃ u, e = .returned u ∧ JS2 w0 w' L g s x u v) := by
  obtain ⟨b1, d1, b2, d2, b3, d3, A, e, k1, k2⟩ := h
  refine (all.calls k2 h1 h2 h3).mono ?_
  rintro e2 w2 ⟨ws, u, hp, hs, rfl, a1, c1, a2, c2, a3, c3, B, eu, j1, j2⟩
  have hws : ws = x.writes := asc_eq (asc_of hs ((hp.map _).nodup_iff.2 hi.nodup)) hi.a (hp.trans hi.p.symm)
  have hx : ({ s with writes := ws } : St) = x := by
    obtain ⟨xr, xn, xw⟩ := x
    have q1 := hi.r
    have q2 := hi.n
    simp only at q1 q2 hws
    rw [q1, q2, hws]
  rw [hx] at eu j1
  exact ⟨u, rfl, a1, c1, a2, c2, a3, c3, b1, d1, b2, d2, b3, d3, B ++ A, eu, e, j1.mono (fun p hp => List.mem_append_left A hp), k1.mono (fun p hp => List.mem_append_right B hp), by rw [List.append_assoc]; exact j2⟩
theorem same2 {u : Value} (h : JS2 w0 w L g s x u v) (h1 : x.reads.length ≤ 100000) (h2 : x.nodes.length ≤ 100000) (h3 : x.writes.length ≤ 100000) : Calls Try.prog 12 #[u, v] w (fun e w' => e = .returned (.bool true) ∧ JS w0 w' L g s x v) := by
  obtain ⟨a1, c1, a2, c2, a3, c3, b1, d1, b2, d2, b3, d3, A, rfl, rfl, k1, k2, mr, ms, mw, or, os, ow, vr, vn, C, B, q1, q2, q3, q4, q5, q6⟩ := h
  have hm : ∀ p ∈ A, p ∈ (cb g 63 #[vr, vn, .map (some mr), .map (some ms), .map (some mw)] :: (mr, or) :: (ms, os) :: (mw, ow) :: (C ++ (B ++ (A ++ L)))) := fun p hp => by simp [hp]
  refine (same.yes q1 h1 h2 h3 (k1.mono hm) (k2.mono hm)).mono ?_
  rintro e2 w2 ⟨rfl, hv⟩
  exact ⟨rfl, b1, d1, b2, d2, b3, d3, A, rfl, k2, mr, ms, mw, or, os, ow, vr, vn, C, B, hv, q2, q3, q4, q5, q6⟩
set_option maxHeartbeats 16000000 in
set_option maxRecDepth 100000 in
theorem plays.calls (w : World) (l : List Dd) (key : ByteArray) {ad : Option Addr} {c : Nat} (hl : l.length ≤ 9223372036854775807) (hR : DRow w ad l) :
    Calls Try.prog 3 #[.slice ad l.length c, .string key] w fun e w' => e = .returned (.bool true) ∧ Below w.heap.size w w' := by
  have hu31 := Try.underlying31
  have hu40 := Try.underlying40
  have hu43 := Try.underlying43
  have hu22 := Try.underlying22
  have hu9 := Try.underlying9
  have HR := Aside0.mk (And.intro hl hR)
  clear hR hl
  by_cases hkey : 500 < key.size
  · have hkey' : ((key.size : Int) > 500) := by omega
    go_enter Try.func3, Try.ntmps3
    go_wp2_with (first | (go_at_call 6; go_loud (refine (few.calls w l HR.out.1 HR.out.2).mono ?_); rintro e w1 hq; obtain ⟨b, rfl, hbt, hbl⟩ := hq; have HB := Aside0.mk hbl; clear hbl hbt; cases b) | (go_at_call 7; go_loud (refine (awake.calls _).mono ?_); rintro e w6 ⟨rfl, hb⟩; have H6 := Aside0.mk ((HB.out.trans (hb.mono HB.out.size))); clear hb))
    all_goals exact bodyPost_ret (v := .bool true) (by simp [results, Try.results3, go_sem]) rfl ⟨rfl, H6.out⟩
  · have hkey' : ¬ ((key.size : Int) > 500) := by omega
    clear hkey
    go_enter Try.func3, Try.ntmps3
    go_wp2_with (first | (go_at_call 6; go_loud (refine (few.calls w l HR.out.1 HR.out.2).mono ?_); rintro e w1 hq; obtain ⟨b, rfl, hbt, hbl⟩ := hq; have HB := Aside0.mk hbl; have HT := Aside0.mk hbt; clear hbl hbt; cases b) | (go_at_call 7; go_loud (refine (awake.calls _).mono ?_); rintro e w6 ⟨rfl, hb⟩; have H6 := Aside0.mk ((HB.out.trans (hb.mono HB.out.size))); clear hb) | (go_at_call 8; go_loud (refine (new.calls ((Hv.start w).call HB.out)).mono ?_); rintro e w2 ⟨g, rfl, hq⟩; have H2 := Aside0.mk hq; clear hq))
    · exact bodyPost_ret (v := .bool true) (by simp [results, Try.results3, go_sem]) rfl ⟨rfl, H6.out⟩
    · obtain ⟨b6, hb6⟩ : ∃ b6, b6 = w2.heap.size := ⟨_, rfl⟩
      have HP0 := Aside0.mk (show PS w (w2.alloc (.cells #[.slice none 0 0, .slice none 0 0, .slice none 0 0] 31)) b6 g ⟨[], [], []⟩ ⟨[], [], []⟩ from ⟨none, 0, none, 0, none, 0, [], ⟨Rw.nil _ _ _, Rw.nil _ _ _, Rw.nil _ _ _⟩, by rw [hb6]; exact H2.out.alloc _⟩)
      have HF := Aside0.mk (HT.out (by simp))
      rw [← hb6]
      clear hb6
      go_loopg [7] l.length (fun kq v7 wr => ∃ (k : Nat) (s x : St), v7 = .int .i64 (k : Int) ∧ kq = l.length - k ∧ k ≤ l.length ∧ Aside0 (PS w wr b6 g s x) ∧ Aside0 (Inv s x ∧ Lens s k))
      case atStart => exact ⟨0, _, _, rfl, rfl, Nat.zero_le _, HP0, ⟨Inv.zero, by constructor <;> simp⟩⟩
      case round =>
        obtain ⟨k, s, x, rfl, rfl, hk, HP, HI⟩ := hrel
        clear HP0
        have hk7 : k ≤ 60 := by have := HF.out.1; omega
        obtain ⟨a1, c1, a2, c2, a3, c3, A, hRA, hS⟩ := HP.out
        by_cases hltn : k < l.length
        · have hlt' : (k : Int) < (l.length : Int) := by omega
          obtain ⟨dd, hd⟩ : ∃ d, l[k]? = some d := ⟨_, List.getElem?_eq_getElem hltn⟩
          have hfit := HF.out.2 dd (List.mem_of_getElem? hd)
          obtain ⟨adl, td, tc, ea, hT, hcl0⟩ := HR.out.2 k dd hd
          cases ea
          have hcl := hcl0
          have HFit := Aside0.mk hfit
          have HTT := Aside0.mk hT
          clear hd hfit hcl0
          obtain ⟨kd, ⟨⟨r0, r1⟩, rw⟩, ⟨⟨n0, n1⟩, nw⟩, ⟨k0, ⟨a, b⟩, d0, t⟩, ts⟩ := dd
          have z0 := hcl 0 (.int .i64 kd) rfl
          have z1 := hcl 1 (.int .i64 r0) rfl
          have z2 := hcl 2 (.int .i64 r1) rfl
          have z3 := hcl 3 (.int .i64 rw) rfl
          have z4 := hcl 4 (.int .i64 n0) rfl
          have z5 := hcl 5 (.int .i64 n1) rfl
          have z6 := hcl 6 (.int .i64 nw) rfl
          have z7 := hcl 7 (.string k0) rfl
          have z8 := hcl 8 (.int .i64 a) rfl
          have z9 := hcl 9 (.int .i64 b) rfl
          have z10 := hcl 10 (.string d0) rfl
          have z11 := hcl 11 (.bool t) rfl
          have z12 := hcl 12 (.slice td ts.length tc) rfl
          rw [Nat.add_zero] at z0
          rw [add_next _ _ _ (by omega)] at z1 z2 z3 z4 z5 z6 z7 z8 z9 z10 z11 z12
          have HZ := Aside0.mk (show ∀ w' : World, Below w.heap.size w w' → (w'.cell? (adl.add (k * 13)) = some (.int .i64 kd) ∧ w'.cell? { block := (adl.add (k * 13)).block, off := (adl.add (k * 13)).off + 1 } = some (.int .i64 r0) ∧ w'.cell? { block := (adl.add (k * 13)).block, off := (adl.add (k * 13)).off + 2 } = some (.int .i64 r1) ∧ w'.cell? { block := (adl.add (k * 13)).block, off := (adl.add (k * 13)).off + 3 } = some (.int .i64 rw) ∧ w'.cell? { block := (adl.add (k * 13)).block, off := (adl.add (k * 13)).off + 4 } = some (.int .i64 n0) ∧ w'.cell? { block := (adl.add (k * 13)).block, off := (adl.add (k * 13)).off + 5 } = some (.int .i64 n1) ∧ w'.cell? { block := (adl.add (k * 13)).block, off := (adl.add (k * 13)).off + 6 } = some (.int .i64 nw) ∧ w'.cell? { block := (adl.add (k * 13)).block, off := (adl.add (k * 13)).off + 7 } = some (.string k0) ∧ w'.cell? { block := (adl.add (k * 13)).block, off := (adl.add (k * 13)).off + 8 } = some (.int .i64 a) ∧ w'.cell? { block := (adl.add (k * 13)).block, off := (adl.add (k * 13)).off + 9 } = some (.int .i64 b) ∧ w'.cell? { block := (adl.add (k * 13)).block, off := (adl.add (k * 13)).off + 10 } = some (.string d0) ∧ w'.cell? { block := (adl.add (k * 13)).block, off := (adl.add (k * 13)).off + 11 } = some (.bool t) ∧ w'.cell? { block := (adl.add (k * 13)).block, off := (adl.add (k * 13)).off + 12 } = some (.slice td ts.length tc)) from fun w' hb => ⟨pw_cell_below hb z0, pw_cell_below hb z1, pw_cell_below hb z2, pw_cell_below hb z3, pw_cell_below hb z4, pw_cell_below hb z5, pw_cell_below hb z6, pw_cell_below hb z7, pw_cell_below hb z8, pw_cell_below hb z9, pw_cell_below hb z10, pw_cell_below hb z11, pw_cell_below hb z12⟩)
          clear z0 z1 z2 z3 z4 z5 z6 z7 z8 z9 z10 z11 z12
          obtain ⟨z0, z1, z2, z3, z4, z5, z6, z7, z8, z9, z10, z11, z12⟩ := HZ.out _ hS.bel
          obtain ⟨x0, x1, x2, f0, f1, f2⟩ := hS.other.c3 b6 31 (.slice a1 x.reads.length c1) (.slice a2 x.nodes.length c2) (.slice a3 x.writes.length c3) (by simp)
          clear hcl
          have HJ := Aside0.mk (show JS w wr [cb b6 31 #[.slice a1 x.reads.length c1, .slice a2 x.nodes.length c2, .slice a3 x.writes.length c3]] g s x (sval x a1 c1 a2 c2 a3 c3) from ⟨a1, c1, a2, c2, a3, c3, A, rfl, hRA, hS⟩)
          clear hRA hS
          have HSm := Aside0.mk (And.intro (HI.out.2.small hk7 HFit.out.1) ((HI.out.2.inv HI.out.1).small hk7 HFit.out.1))
          go_upto_region 10 with (fail)
          go_region_with (go_at_call 9; go_loud (refine (do.live (w0 := w) (dd := ⟨kd, ((r0, r1), rw), ((n0, n1), nw), (k0, (a, b), d0, t), ts⟩) (ad := td) (c := tc) (by first | exact HJ.out.call (pw_below_drewN (Below.refl _ _) _) | exact HJ.out.call (below_drew1 (Below.refl _ _)) | exact HJ.out) HSm.out.1 HSm.out.2 HTT.out).mono ?_); rintro e2 w2 ⟨v9, rfl, hq⟩; clear x0 x1 x2 f0 f1 f2 z0 z1 z2 z3 z4 z5 z6 z7 z8 z9 z10 z11 z12; obtain ⟨x0, x1, x2, f0, f1, f2⟩ := hq.other.c3 b6 31 (.slice a1 x.reads.length c1) (.slice a2 x.nodes.length c2) (.slice a3 x.writes.length c3) (by simp); generalize hs9 : stI s ⟨kd, ((r0, r1), rw), ((n0, n1), nw), (k0, (a, b), d0, t), ts⟩ = s9 at hq; generalize hx9 : stR x ⟨kd, ((r0, r1), rw), ((n0, n1), nw), (k0, (a, b), d0, t), ts⟩ = x9 at hq; have H9 := Aside0.mk hq; have HE9 := Aside0.mk (And.intro hs9 hx9); obtain ⟨P1, Q1, P2, Q2, P3, Q3, N9, rfl, -, -⟩ := hq; clear hs9 hx9; simp only [sval])
          all_goals
            obtain ⟨wg, hw, hg⟩ : ∃ wg, wg = _ ∧ JS w wg [cb b6 31 #[.slice P1 x9.reads.length Q1, .slice P2 x9.nodes.length Q2, .slice P3 x9.writes.length Q3]] g s9 x9 (sval x9 P1 Q1 P2 Q2 P3 Q3) := ⟨_, rfl, H9.out.frame (fun H hH => ((hH.putA0 0 (.slice P1 x9.reads.length Q1) rfl).putA0 1 (.slice P2 x9.nodes.length Q2) rfl).putA0 2 (.slice P3 x9.writes.length Q3) rfl)⟩
            rw [← hw]
            have HJ2 := Aside0.mk hg
            have hi9 : Inv s9 x9 := by rw [← HE9.out.1, ← HE9.out.2]; exact HI.out.1.step _
            have hl9 : Lens s9 (k + 1) := by rw [← HE9.out.1]; exact HI.out.2.step HFit.out.1
            have hm9 := hl9.inv hi9
            have HI9 := Aside0.mk (And.intro hi9 (And.intro hl9 hm9))
            have hwg : wget key x9.writes = wget key s9.writes := wget_perm hi9.p hi9.a.nodup
            have hxw : x9.writes.length ≤ 100000 := by have := hm9.w; omega
            generalize hz : wget key s9.writes = z at hwg
            obtain ⟨⟨q0, ⟨q1, q2⟩, q3, q4⟩, qb⟩ := z
            have hown : ∀ (W : World) (L : List Ob), JS w W L g s9 x9 (sval x9 P1 Q1 P2 Q2 P3 Q3) → Calls Try.prog 10 #[.pointer (some ⟨g, 0, none⟩), .string key] W (fun e w' => e = .returned (.tuple #[.agg #[.string q0, .int .i64 q1, .int .i64 q2, .string q3, .bool q4], .bool qb]) ∧ JS w w' L g s9 x9 (sval x9 P1 Q1 P2 Q2 P3 Q3)) := fun W L h => h.impl (fun L8 h1 => by have := own.all h1 key; rw [hz] at this; exact this)
            have hrown : ∀ (W : World) (L : List Ob), JS w W L g s9 x9 (sval x9 P1 Q1 P2 Q2 P3 Q3) → Calls Try.prog 11 #[sval x9 P1 Q1 P2 Q2 P3 Q3, .string key] W (fun e w' => e = .returned (.tuple #[.agg #[.string q0, .int .i64 q1, .int .i64 q2, .string q3, .bool q4], .bool qb]) ∧ JS w w' L g s9 x9 (sval x9 P1 Q1 P2 Q2 P3 Q3)) := fun W L h => h.ask (fun L8 h1 => by have := rOwn.any h1 hxw key; rw [hwg] at this; exact this)
            have HC := Aside0.mk (And.intro hown hrown)
            clear hown hrown hz hwg hxw hi9 hl9 hm9 hw hg x0 x1 x2 f0 f1 f2
            obtain ⟨x0, x1, x2, -, -, -⟩ := HJ2.out.other.c3 b6 31 (.slice P1 x9.reads.length Q1) (.slice P2 x9.nodes.length Q2) (.slice P3 x9.writes.length Q3) (by simp)
            go_upto_region 12 with (go_at_call 10; go_loud (refine (HC.out.1 _ _ HJ2.out).mono ?_); rintro e3 w3 ⟨rfl, hq⟩; have HJ3 := Aside0.mk (hq.alloc (.cells #[.string q0, .int .i64 q1, .int .i64 q2, .string q3, .bool q4] 40)); clear hq x0 x1 x2; obtain ⟨x0, x1, x2, -, -, -⟩ := HJ3.out.other.c3 b6 31 (.slice P1 x9.reads.length Q1) (.slice P2 x9.nodes.length Q2) (.slice P3 x9.writes.length Q3) (by simp))
            go_upto_region 13 with (go_at_call 11; go_loud (refine (HC.out.2 _ _ HJ3.out).mono ?_); rintro e4 w4 ⟨rfl, hq⟩; have HJ4 := Aside0.mk (hq.alloc (.cells #[.string q0, .int .i64 q1, .int .i64 q2, .string q3, .bool q4] 40)); clear hq x0 x1 x2; obtain ⟨x0, x1, x2, -, -, -⟩ := HJ4.out.other.c3 b6 31 (.slice P1 x9.reads.length Q1) (.slice P2 x9.nodes.length Q2) (.slice P3 x9.writes.length Q3) (by simp))
            have hne := neq40 q0 q3 q1 q2 q4
            have HL9 := Aside0.mk (show s9.reads.length ≤ 1000000 ∧ s9.nodes.length ≤ 1000000 ∧ s9.writes.length ≤ 100000 ∧ x9.reads.length ≤ 100000 ∧ x9.nodes.length ≤ 100000 ∧ x9.writes.length ≤ 100000 by
              have h1 := HI9.out.2.1
              have h2 := HI9.out.2.2
              have := h1.r; have := h1.n; have := h1.w; have := h2.r; have := h2.n; have := h2.w
              refine ⟨?_, ?_, ?_, ?_, ?_, ?_⟩ <;> omega)
            have HX9 := Aside0.mk (show ∀ w' : World, Hv w w' (cb w4.heap.size 40 #[.string q0, .int .i64 q1, .int .i64 q2, .string q3, .bool q4] :: cb w3.heap.size 40 #[.string q0, .int .i64 q1, .int .i64 q2, .string q3, .bool q4] :: [cb b6 31 #[.slice P1 x9.reads.length Q1, .slice P2 x9.nodes.length Q2, .slice P3 x9.writes.length Q3]]) → (w'.cell? { block := b6, off := 0 } = some (.slice P1 x9.reads.length Q1) ∧ w'.cell? { block := b6, off := 1 } = some (.slice P2 x9.nodes.length Q2) ∧ w'.cell? { block := b6, off := 2 } = some (.slice P3 x9.writes.length Q3) ∧ w'.cell? { block := w3.heap.size, off := 0 } = some (.string q0) ∧ w'.cell? { block := w3.heap.size, off := 1 } = some (.int .i64 q1) ∧ w'.cell? { block := w3.heap.size, off := 2 } = some (.int .i64 q2) ∧ w'.cell? { block := w3.heap.size, off := 3 } = some (.string q3) ∧ w'.cell? { block := w3.heap.size, off := 4 } = some (.bool q4) ∧ w'.cell? { block := w4.heap.size, off := 0 } = some (.string q0) ∧ w'.cell? { block := w4.heap.size, off := 1 } = some (.int .i64 q1) ∧ w'.cell? { block := w4.heap.size, off := 2 } = some (.int .i64 q2) ∧ w'.cell? { block := w4.heap.size, off := 3 } = some (.string q3) ∧ w'.cell? { block := w4.heap.size, off := 4 } = some (.bool q4)) from fun w' h => by
              obtain ⟨h0, h1, h2, -, -, -⟩ := h.c3 b6 31 (.slice P1 x9.reads.length Q1) (.slice P2 x9.nodes.length Q2) (.slice P3 x9.writes.length Q3) (by simp)
              obtain ⟨m0, m1, m2, m3, m4, -, -, -, -, -⟩ := h.c5 w4.heap.size 40 (.string q0) (.int .i64 q1) (.int .i64 q2) (.string q3) (.bool q4) (by simp)
              obtain ⟨n0', n1', n2', n3', n4', -, -, -, -, -⟩ := h.c5 w3.heap.size 40 (.string q0) (.int .i64 q1) (.int .i64 q2) (.string q3) (.bool q4) (by simp)
              exact ⟨h0, h1, h2, n0', n1', n2', n3', n4', m0, m1, m2, m3, m4⟩)
            go_region_held3 (fun w' => w'.cell? { block := b6, off := 0 } = some (.slice P1 x9.reads.length Q1) ∧ w'.cell? { block := b6, off := 1 } = some (.slice P2 x9.nodes.length Q2) ∧ w'.cell? { block := b6, off := 2 } = some (.slice P3 x9.writes.length Q3) ∧ w'.cell? { block := w3.heap.size, off := 0 } = some (.string q0) ∧ w'.cell? { block := w3.heap.size, off := 1 } = some (.int .i64 q1) ∧ w'.cell? { block := w3.heap.size, off := 2 } = some (.int .i64 q2) ∧ w'.cell? { block := w3.heap.size, off := 3 } = some (.string q3) ∧ w'.cell? { block := w3.heap.size, off := 4 } = some (.bool q4) ∧ w'.cell? { block := w4.heap.size, off := 0 } = some (.string q0) ∧ w'.cell? { block := w4.heap.size, off := 1 } = some (.int .i64 q1) ∧ w'.cell? { block := w4.heap.size, off := 2 } = some (.int .i64 q2) ∧ w'.cell? { block := w4.heap.size, off := 3 } = some (.string q3) ∧ w'.cell? { block := w4.heap.size, off := 4 } = some (.bool q4))
              (first | exact HX9.out _ HJ4.out.other | exact HX9.out _ HJ4.out.other.drew | exact HX9.out _ (HJ4.out.other.drewN _) | exact HX9.out _ H5.out.other | exact HX9.out _ H6.out.other)
              (first
                | (go_at_call 13; go_loud (refine (all2 (w0 := w) (L := cb w4.heap.size 40 #[.string q0, .int .i64 q1, .int .i64 q2, .string q3, .bool q4] :: cb w3.heap.size 40 #[.string q0, .int .i64 q1, .int .i64 q2, .string q3, .bool q4] :: [cb b6 31 #[.slice P1 x9.reads.length Q1, .slice P2 x9.nodes.length Q2, .slice P3 x9.writes.length Q3]]) (by first | exact HJ4.out.call (pw_below_drewN (Below.refl _ _) _) | exact HJ4.out.call (below_drew1 (Below.refl _ _)) | exact HJ4.out) HI9.out.1 HL9.out.1 HL9.out.2.1 HL9.out.2.2.1).mono ?_); rintro e5 w5 ⟨u5, rfl, hq⟩; have H5 := Aside0.mk hq; clear hq)
                | (go_at_call 12; go_loud (refine (same2 H5.out HL9.out.2.2.2.1 HL9.out.2.2.2.2.1 HL9.out.2.2.2.2.2).mono ?_); rintro e6 w6 ⟨rfl, hq⟩; have H6 := Aside0.mk hq; obtain ⟨m0, m1, m2, m3, m4, -, -, -, -, -⟩ := hq.other.c5 w4.heap.size 40 (.string q0) (.int .i64 q1) (.int .i64 q2) (.string q3) (.bool q4) (by simp); obtain ⟨n0', n1', n2', n3', n4', -, -, -, -, -⟩ := hq.other.c5 w3.heap.size 40 (.string q0) (.int .i64 q1) (.int .i64 q2) (.string q3) (.bool q4) (by simp); clear hq))
            all_goals
              go_wp2_with fail
              go_roundg (l.length - (k + 1))
              case measure => omega
              case rel =>
                obtain ⟨A9, hR9, hS9⟩ := H6.out.inv
                exact ⟨k + 1, s9, x9, by go_num, rfl, hltn, ⟨⟨P1, Q1, P2, Q2, P3, Q3, A9, hR9, (hS9.frame (fun H hH => hH.drop (List.Sublist.append_left (List.Sublist.append_left ((List.sublist_cons_self _ _).trans (List.sublist_cons_self _ _)) A9) H))).call (by repeat (first | exact Below.refl _ _ | apply below_drew1 | apply pw_below_drewN))⟩⟩, ⟨HI9.out.1, HI9.out.2.1⟩⟩
        · have hge : ¬ (k : Int) < (l.length : Int) := by omega
          have HE := Aside0.mk hS.bel
          clear hRA hS
          go_wp2_with (go_at_call 7; go_loud (refine (awake.calls _).mono ?_); rintro e w6 ⟨rfl, hb⟩; have H6 := Aside0.mk ((HE.out.trans (hb.mono HE.out.size))); clear hb)
          exact bodyPost_ret (v := .bool true) (by simp [results, Try.results3, go_sem]) rfl ⟨rfl, H6.out⟩
end Go.Proofs.Ytgecokldbkamlaa.St
