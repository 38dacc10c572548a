/- transomlaw21: SetsOnce, its walk. No condition. -/
import Derived.Test.YtgecokldbkamlaaStAN
set_option linter.unusedVariables false
set_option linter.unusedSimpArgs false
namespace Go.Proofs.Ytgecokldbkamlaa.St
open Go Go.RowKit Go.MapKept Go.Proofs.YtgecokldbkamlaaW.PrintWords Go.Proofs.YtgecokldbkamlaaW.PrintLast Go.Proofs.YtgecokldbkamlaaW.PrintMore Go.Proofs.Ytgecokldbkamlaa.Hv Go.Proofs.Ytgecokldbkamlaa.Mk Go.Proofs.Ytgecokldbkamlaa.Ka
variable {w0 w w1 : World} {g : Nat} {s s' x x' : St} {L L' L1 : List Ob} {v : Value}
set_option maxHeartbeats 16000000 in
set_option maxRecDepth 100000 in
theorem once.calls (w : World) (l : List Dd) {ad : Option Addr} {c : Nat} (hl : l.length ≤ 9223372036854775807) (hR : DRow w ad l) :
    Calls Try.prog 4 #[.slice ad l.length c] w fun e w' => e = .returned (.bool true) ∧ Below w.heap.size w w' := by
  have hu31 := Try.underlying31
  have hu40 := Try.underlying40
  have hu43 := Try.underlying43
  have hu22 := Try.underlying22
  have hu36 := Try.underlying36
  have hu38 := Try.underlying38
  have hu34 := Try.underlying34
  have hleq := fun x y => Less.str_leq 9 x y
  have HR := Aside0.mk (And.intro hl hR)
  clear hR hl
  go_enter Try.func4, Try.ntmps4
  go_wp2_with (first | (go_at_call 6; go_loud (refine (few.calls w l HR.out.1 HR.out.2).mono ?_); rintro e w1 hq; obtain ⟨b, rfl, hbt, hbl⟩ := hq; have HB := Aside0.mk hbl; have HT := Aside0.mk hbt; clear hbl hbt; cases b) | (go_at_call 7; go_loud (refine (awake.calls _).mono ?_); rintro e w6 ⟨rfl, hb⟩; have H6 := Aside0.mk ((HB.out.trans (hb.mono HB.out.size))); clear hb) | (go_at_call 8; go_loud (refine (new.calls ((Hv.start w).call HB.out)).mono ?_); rintro e w2 ⟨g, rfl, hq⟩; have H2 := Aside0.mk hq; clear hq))
  · exact bodyPost_ret (v := .bool true) (by simp [results, Try.results4, go_sem]) rfl ⟨rfl, H6.out⟩
  · have HF := Aside0.mk (HT.out (by simp))
    go_loopg [4] l.length (fun kq v4 wr => ∃ (k : Nat) (s : St), v4 = .int .i64 (k : Int) ∧ kq = l.length - k ∧ k ≤ l.length ∧ Aside0 (Sts w wr g s []) ∧ Aside0 (Lens s k))
    case atStart => exact ⟨0, _, rfl, rfl, Nat.zero_le _, H2, ⟨by constructor <;> simp⟩⟩
    case round =>
      obtain ⟨k, s, rfl, rfl, hk, HP, HI⟩ := hrel
      clear H2
      have hk7 : k ≤ 60 := by have := HF.out.1; omega
      by_cases hltn : k < l.length
      · have hlt' : (k : Int) < (l.length : Int) := by omega
        obtain ⟨dd, hd⟩ : ∃ d, l[k]? = some d := ⟨_, List.getElem?_eq_getElem hltn⟩
        have hfit := HF.out.2 dd (List.mem_of_getElem? hd)
        obtain ⟨adl, td, tc, ea, hT, hcl0⟩ := HR.out.2 k dd hd
        cases ea
        have hcl := fun j u hu => pw_cell_below HP.out.bel (hcl0 j u hu)
        have HFit := Aside0.mk hfit
        have HTT := Aside0.mk hT
        have HSm := Aside0.mk (HI.out.small hk7 hfit.1)
        clear hd hfit hcl0 hT
        obtain ⟨kd, ⟨⟨r0, r1⟩, rw⟩, ⟨⟨n0, n1⟩, nw⟩, ⟨k0, ⟨a, b⟩, d0, t⟩, ts⟩ := dd
        have z0 := hcl 0 (.int .i64 kd) rfl
        have z1 := hcl 1 (.int .i64 r0) rfl
        have z2 := hcl 2 (.int .i64 r1) rfl
        have z3 := hcl 3 (.int .i64 rw) rfl
        have z4 := hcl 4 (.int .i64 n0) rfl
        have z5 := hcl 5 (.int .i64 n1) rfl
        have z6 := hcl 6 (.int .i64 nw) rfl
        have z7 := hcl 7 (.string k0) rfl
        have z8 := hcl 8 (.int .i64 a) rfl
        have z9 := hcl 9 (.int .i64 b) rfl
        have z10 := hcl 10 (.string d0) rfl
        have z11 := hcl 11 (.bool t) rfl
        have z12 := hcl 12 (.slice td ts.length tc) rfl
        rw [Nat.add_zero] at z0
        rw [add_next _ _ _ (by omega)] at z1 z2 z3 z4 z5 z6 z7 z8 z9 z10 z11 z12
        clear hcl
        go_wp2_with (go_at_call 9; go_loud (refine (do.live (w0 := w) (dd := ⟨kd, ((r0, r1), rw), ((n0, n1), nw), (k0, (a, b), d0, t), ts⟩) (ad := td) (c := tc) HP.out.js HSm.out (Small.zero _ HFit.out.1) HTT.out).mono ?_); rintro e2 w2 ⟨v9, rfl, hq⟩; have H9 := Aside0.mk hq.sts; clear hq z0 z1 z2 z3 z4 z5 z6 z7 z8 z9 z10 z11 z12)
        go_roundg (l.length - (k + 1))
        case measure => omega
        case rel => exact ⟨k + 1, _, by go_num, rfl, hltn, H9, ⟨HI.out.step HFit.out.1⟩⟩
      · have hge : ¬ (k : Int) < (l.length : Int) := by omega
        have HL := Aside0.mk (show s.reads.length ≤ 60 ∧ s.nodes.length ≤ 660 ∧ s.writes.length ≤ 60 by
          have := HI.out.r; have := HI.out.n; have := HI.out.w
          refine ⟨?_, ?_, ?_⟩ <;> omega)
        have hk1 : s.reads.length ≤ 1000000 ∧ s.nodes.length ≤ 1000000 ∧ s.writes.length ≤ 100000 := by
          obtain ⟨h1, h2, h3⟩ := HL.out
          refine ⟨?_, ?_, ?_⟩ <;> omega
        have HK := Aside0.mk hk1
        have HU := Aside0.mk HP.out.keys
        clear hk1 hk hge
        have hge : ¬ (k : Int) < (l.length : Int) := by omega
        clear hltn
        go_wp2_with (first | (go_at_call 14; go_loud (refine (reads.calls HP.out HK.out.1).mono ?_); rintro e w3 hq; obtain ⟨ad1, e1, A1, rfl, hG, hS⟩ := hq; have G1 := Aside0.mk (Rw.of_gr hG); have S1 := Aside0.mk hS; clear hG hS) | (go_at_call 15; go_loud (refine (nodes.calls S1.out HK.out.2.1).mono ?_); rintro e w4 hq; obtain ⟨ad2, e2, A2, rfl, hG, hS⟩ := hq; have G2 := Aside0.mk (Rw.of_gr hG); have S2 := Aside0.mk hS; clear hG hS) | (go_at_call 16; go_loud (refine (writes.calls S2.out HK.out.2.2).mono ?_); rintro e w5 hq; obtain ⟨ws, ad3, e3, A3, hp, hs, rfl, hG, hS⟩ := hq; have hlen : ws.length = s.writes.length := hp.length_eq; rw [← hlen] at hG ⊢; have GA := Aside0.mk (asc_of hs ((hp.map _).nodup_iff.2 HU.out.2.2)); have HWL := Aside0.mk hlen; have G3 := Aside0.mk (Rw.of_gr hG); have S3 := Aside0.mk hS; clear hG hS hp hs hlen))
        have HV0 := Aside0.mk S3.out.other
        have HWN := Aside0.mk (show ws.length ≤ 60 by rw [HWL.out]; exact HL.out.2.2)
        clear S1 S2
        have hb0 : s.reads.length ≤ 60 := HL.out.1
        go_loopg [8] s.reads.length (fun kq v8 wr => ∃ (i : Nat), v8 = .int .i64 (i : Int) ∧ kq = s.reads.length + 1 - i ∧ 1 ≤ i ∧ i ≤ s.reads.length + 1 ∧ Aside0 (Hv w wr (A3 ++ (A2 ++ (A1 ++ [])))))
        case atStart => exact ⟨1, rfl, rfl, Nat.le_refl _, by omega, HV0⟩
        case round =>
          obtain ⟨i, rfl, rfl, hi1, hi2, HO0⟩ := hrel
          by_cases hlt0 : i < s.reads.length
          · have hlt' : (i : Int) < (s.reads.length : Int) := by omega
            go_wp2_with fail
            go_loopg [9] i (fun kq v9 wi => ∃ (j : Nat), v9 = .int .i64 (j : Int) ∧ kq = i - j ∧ j ≤ i ∧ Aside0 (Hv w wi (A3 ++ (A2 ++ (A1 ++ [])))))
            case atStart => exact ⟨0, rfl, rfl, Nat.zero_le _, HO0⟩
            case round =>
              obtain ⟨j, rfl, rfl, hj, HN0⟩ := hrel
              by_cases hlj : j < i
              · have hlj' : (j : Int) < (i : Int) := by omega
                have hj0 : (j : Int) < (s.reads.length : Int) := by omega
                obtain ⟨adr, ea, hcl⟩ := (G1.out.mono (L' := A3 ++ (A2 ++ (A1 ++ []))) (fun p hp => by simp [hp])).cells HN0.out (by omega)
                cases ea
                obtain ⟨⟨⟨x0, x1⟩, x2⟩, hdi⟩ : ∃ d, s.reads[i]? = some d := ⟨_, List.getElem?_eq_getElem hlt0⟩
                obtain ⟨⟨⟨y0, y1⟩, y2⟩, hdj⟩ : ∃ d, s.reads[j]? = some d := ⟨_, List.getElem?_eq_getElem (by omega)⟩
                have z0 := hcl (i * 3) _ (cel3_at s.reads i 0 _ (.int .i64 x0) hdi rfl)
                have z1 := hcl (i * 3 + 1) _ (cel3_at s.reads i 1 _ (.int .i64 x1) hdi rfl)
                have t0 := hcl (j * 3) _ (cel3_at s.reads j 0 _ (.int .i64 y0) hdj rfl)
                have t1 := hcl (j * 3 + 1) _ (cel3_at s.reads j 1 _ (.int .i64 y1) hdj rfl)
                rw [add_next _ _ _ (by omega)] at z1 t1
                have heq := eq34 x0 x1 y0 y1
                rw [ne_pair (key_ne HU.out.1 hdi hdj (by omega))] at heq
                clear hcl hdi hdj
                go_wp2_with fail
                go_region
                go_wp2_with fail
                go_roundg (i - (j + 1))
                case measure => omega
                case rel => exact ⟨j + 1, by go_num, rfl, hlj, ⟨HN0.out.call (by repeat (first | exact Below.refl _ _ | apply below_drew1 | apply pw_below_drewN))⟩⟩
              · have hlj' : ¬ (j : Int) < (i : Int) := by omega
                go_wp2_with fail
                go_roundg (s.reads.length + 1 - (i + 1))
                case measure => omega
                case rel => exact ⟨i + 1, by go_num, rfl, by omega, by omega, HN0⟩
          · have hlt' : ¬ (i : Int) < (s.reads.length : Int) := by omega
            have HV1 := HO0
            clear hi1 hi2 hlt0
            go_wp2_with fail
            have hb1 : s.nodes.length ≤ 660 := HL.out.2.1
            go_loopg [10] s.nodes.length (fun kq v10 wr => ∃ (i : Nat), v10 = .int .i64 (i : Int) ∧ kq = s.nodes.length + 1 - i ∧ 1 ≤ i ∧ i ≤ s.nodes.length + 1 ∧ Aside0 (Hv w wr (A3 ++ (A2 ++ (A1 ++ [])))))
            case atStart => exact ⟨1, rfl, rfl, Nat.le_refl _, by omega, HV1⟩
            case round =>
              obtain ⟨i, rfl, rfl, hi1, hi2, HO1⟩ := hrel
              by_cases hlt1 : i < s.nodes.length
              · have hlt' : (i : Int) < (s.nodes.length : Int) := by omega
                go_wp2_with fail
                go_loopg [11] i (fun kq v11 wi => ∃ (j : Nat), v11 = .int .i64 (j : Int) ∧ kq = i - j ∧ j ≤ i ∧ Aside0 (Hv w wi (A3 ++ (A2 ++ (A1 ++ [])))))
                case atStart => exact ⟨0, rfl, rfl, Nat.zero_le _, HO1⟩
                case round =>
                  obtain ⟨j, rfl, rfl, hj, HN1⟩ := hrel
                  by_cases hlj : j < i
                  · have hlj' : (j : Int) < (i : Int) := by omega
                    have hj0 : (j : Int) < (s.nodes.length : Int) := by omega
                    obtain ⟨adr, ea, hcl⟩ := (G2.out.mono (L' := A3 ++ (A2 ++ (A1 ++ []))) (fun p hp => by simp [hp])).cells HN1.out (by omega)
                    cases ea
                    obtain ⟨⟨⟨x0, x1⟩, x2⟩, hdi⟩ : ∃ d, s.nodes[i]? = some d := ⟨_, List.getElem?_eq_getElem hlt1⟩
                    obtain ⟨⟨⟨y0, y1⟩, y2⟩, hdj⟩ : ∃ d, s.nodes[j]? = some d := ⟨_, List.getElem?_eq_getElem (by omega)⟩
                    have z0 := hcl (i * 3) _ (cel3_at s.nodes i 0 _ (.int .i64 x0) hdi rfl)
                    have z1 := hcl (i * 3 + 1) _ (cel3_at s.nodes i 1 _ (.int .i64 x1) hdi rfl)
                    have t0 := hcl (j * 3) _ (cel3_at s.nodes j 0 _ (.int .i64 y0) hdj rfl)
                    have t1 := hcl (j * 3 + 1) _ (cel3_at s.nodes j 1 _ (.int .i64 y1) hdj rfl)
                    rw [add_next _ _ _ (by omega)] at z1 t1
                    have heq := eq34 x0 x1 y0 y1
                    rw [ne_pair (key_ne HU.out.2.1 hdi hdj (by omega))] at heq
                    clear hcl hdi hdj
                    go_wp2_with fail
                    go_region
                    go_wp2_with fail
                    go_roundg (i - (j + 1))
                    case measure => omega
                    case rel => exact ⟨j + 1, by go_num, rfl, hlj, ⟨HN1.out.call (by repeat (first | exact Below.refl _ _ | apply below_drew1 | apply pw_below_drewN))⟩⟩
                  · have hlj' : ¬ (j : Int) < (i : Int) := by omega
                    go_wp2_with fail
                    go_roundg (s.nodes.length + 1 - (i + 1))
                    case measure => omega
                    case rel => exact ⟨i + 1, by go_num, rfl, by omega, by omega, HN1⟩
              · have hlt' : ¬ (i : Int) < (s.nodes.length : Int) := by omega
                have HV2 := HO1
                clear hi1 hi2 hlt1
                go_wp2_with fail
                have hb2 : ws.length ≤ 60 := HWN.out
                go_loopg [12] ws.length (fun kq v12 wr => ∃ (i : Nat), v12 = .int .i64 ((i : Int) + 1) ∧ kq = ws.length - i ∧ i ≤ ws.length ∧ Aside0 (Hv w wr (A3 ++ (A2 ++ (A1 ++ [])))))
                case atStart => exact ⟨0, rfl, rfl, Nat.zero_le _, HV2⟩
                case round =>
                  obtain ⟨i, rfl, rfl, hi2, HO2⟩ := hrel
                  by_cases hlt2 : i + 1 < ws.length
                  · have hlt' : (i : Int) + 1 < (ws.length : Int) := by omega
                    have hlt0 : (i : Int) < (ws.length : Int) := by omega
                    have hsub : (i : Int) + 1 - 1 = (i : Int) := by omega
                    obtain ⟨adr, ea, hcl⟩ := (G3.out.mono (L' := A3 ++ (A2 ++ (A1 ++ []))) (fun p hp => by simp [hp])).cells HO2.out (by omega)
                    cases ea
                    obtain ⟨⟨k1, u1⟩, hdi⟩ : ∃ d, ws[i + 1]? = some d := ⟨_, List.getElem?_eq_getElem hlt2⟩
                    obtain ⟨⟨k2, u2⟩, hdj⟩ : ∃ d, ws[i]? = some d := ⟨_, List.getElem?_eq_getElem (by omega)⟩
                    have z0 := hcl ((i + 1) * 5) _ (wcel_at ws (i + 1) 0 _ (.string k1) hdi rfl)
                    have t0 := hcl (i * 5) _ (wcel_at ws i 0 _ (.string k2) hdj rfl)
                    have hless : Op.bytesLess k2.toList k1.toList = true := asc_at GA.out hdj hdi
                    clear hcl hdi hdj
                    go_wp2_with fail
                    go_region
                    go_wp2_with fail
                    go_roundg (ws.length - (i + 1))
                    case measure => omega
                    case rel => exact ⟨i + 1, by go_num, rfl, by omega, ⟨HO2.out.call (by repeat (first | exact Below.refl _ _ | apply below_drew1 | apply pw_below_drewN))⟩⟩
                  · have hlt' : ¬ (i : Int) + 1 < (ws.length : Int) := by omega
                    go_wp2_with (go_at_call 7; go_loud (refine (awake.calls _).mono ?_); rintro e w6 ⟨rfl, hb⟩; have H6 := Aside0.mk ((HO2.out.bel.trans (hb.mono HO2.out.bel.size))); clear hb)
                    exact bodyPost_ret (v := .bool true) (by simp [results, Try.results4, go_sem]) rfl ⟨rfl, H6.out⟩
end Go.Proofs.Ytgecokldbkamlaa.St
