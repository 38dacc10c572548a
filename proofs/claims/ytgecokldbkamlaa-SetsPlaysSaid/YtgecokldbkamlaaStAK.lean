/- transomlaw21: SetsNone, its walk. No condition. -/
import Derived.Test.YtgecokldbkamlaaStAJ
set_option linter.unusedVariables false
set_option linter.unusedSimpArgs false
namespace Go.Proofs.Ytgecokldbkamlaa.St
open Go Go.RowKit Go.MapKept Go.Proofs.YtgecokldbkamlaaW.PrintWords Go.Proofs.YtgecokldbkamlaaW.PrintLast Go.Proofs.YtgecokldbkamlaaW.PrintMore Go.Proofs.Ytgecokldbkamlaa.Hv Go.Proofs.Ytgecokldbkamlaa.Mk Go.Proofs.Ytgecokldbkamlaa.Ka
variable {w0 w w1 : World} {g : Nat} {s s' x x' : St} {L L' L1 : List Ob} {v : Value}
theorem same.zero (hv : Hv w0 w L) : Calls Try.prog 12 #[.agg #[.slice none 0 0, .slice none 0 0, .slice none 0 0], .agg #[.slice none 0 0, .slice none 0 0, .slice none 0 0]] w fun e w' => e = .returned (.bool true) ∧ Hv w0 w' L :=
  same.yes (s := ⟨[], [], []⟩) hv (by simp) (by simp) (by simp) ⟨Rw.nil _ _ _, Rw.nil _ _ _, Rw.nil _ _ _⟩ ⟨Rw.nil _ _ _, Rw.nil _ _ _, Rw.nil _ _ _⟩
set_option maxHeartbeats 8000000 in
set_option maxRecDepth 100000 in
theorem none.calls (w : World) (d : Dd) {ad : Option Addr} {c : Nat} (hT : Rd 7 w ad d.ts.length (d.ts.flatMap tcel)) (hb : d.ts.length ≤ 9223372036854775807) : Calls Try.prog 5 #[.agg (dcel d ad c).toArray] w fun e w' => e = .returned (.bool true) ∧ Below w.heap.size w w' := by
  have hu31 := Try.underlying31
  have hu40 := Try.underlying40
  have hu43 := Try.underlying43
  obtain ⟨kd, ⟨⟨r0, r1⟩, rw⟩, ⟨⟨n0, n1⟩, nw⟩, ⟨k0, ⟨a, b⟩, d0, t⟩, ts⟩ := d
  simp only [dcel] at hT hb ⊢
  have H0 := Aside0.mk ((Hv.start w).alloc (.cells #[.int .i64 kd, .int .i64 r0, .int .i64 r1, .int .i64 rw, .int .i64 n0, .int .i64 n1, .int .i64 nw, .string k0, .int .i64 a, .int .i64 b, .string d0, .bool t, .slice ad ts.length c] 43))
  have HT := Aside0.mk (And.intro hT hb)
  have h24 : ∀ (W : World) (L : List Ob) (v : Value), RV w W L ⟨[], [], []⟩ v → Calls Try.prog 24 #[v, .slice ad ts.length c] W (RP w L ⟨[], trn [] ts, []⟩) := fun W L v hR => rTurned.gen hR ts (ad := ad) (c := c) (Rdy.of_rd HT.out.1 L) HT.out.2 (fun k => by simp only [trn0_zero]; simp)
  clear hT hb
  obtain ⟨⟨y0, y1, y2, y3⟩, ⟨y4, y5, y6⟩, ⟨y7, y8, y9, y10, y11⟩, y12⟩ := c13 H0.out w.heap.size 43 (.int .i64 kd) (.int .i64 r0) (.int .i64 r1) (.int .i64 rw) (.int .i64 n0) (.int .i64 n1) (.int .i64 nw) (.string k0) (.int .i64 a) (.int .i64 b) (.string d0) (.bool t) (.slice ad ts.length c) List.mem_cons_self
  go_enter Try.func5, Try.ntmps5
  go_upto_region 3 with (go_at_call 9; go_loud (refine (do.nil (dd := ⟨kd, ((r0, r1), rw), ((n0, n1), nw), (k0, (a, b), d0, t), ts⟩) (x := ⟨[], [], []⟩) (ad := ad) (c := c) (RV.zero H0.out) (by simp) h24).mono ?_); rintro e w2 ⟨v9, rfl, hq⟩; have H2 := Aside0.mk hq.other; clear hq y0 y1 y2 y3 y4 y5 y6 y7 y8 y9 y10 y11 y12)
  have y7 := H2.out.cell (g := w.heap.size) (t := 43) (List.mem_cons_self) 7 (v := .string k0) rfl
  go_wp2_with (first | (go_at_call 10; refine (ownNil _ k0).mono ?_; rintro e w3 ⟨rfl, hb⟩; have H3 := Aside0.mk ((H2.out.call hb).skip (.cells #[Value.string ⟨#[]⟩, .int .i64 0, .int .i64 0, Value.string ⟨#[]⟩, .bool false] 40)); clear hb y7) | (go_at_call 13; go_loud (refine (all.nil H3.out).mono ?_); rintro e w4 ⟨rfl, hv⟩; have H4 := Aside0.mk hv; clear hv) | (go_at_call 12; go_loud (refine (same.zero H4.out).mono ?_); rintro e w5 ⟨rfl, hv⟩; have H5 := Aside0.mk hv; clear hv) | (go_at_call 7; go_loud (refine (awake.calls _).mono ?_); rintro e w6 ⟨rfl, hb⟩; have H6 := Aside0.mk (H5.out.call hb); clear hb))
  exact bodyPost_ret (v := .bool true) (by simp [results, Try.results5, go_sem]) rfl ⟨rfl, H6.out.bel⟩
end Go.Proofs.Ytgecokldbkamlaa.St
