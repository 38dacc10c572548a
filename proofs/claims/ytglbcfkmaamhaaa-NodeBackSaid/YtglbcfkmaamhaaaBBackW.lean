/- NodeBack: the walk. No condition. -/
import Derived.Test.YtglbcfkmaamhaaaBBack
import Derived.Test.YtglbcfkmaamhaaaBQNodex8
import Derived.Test.YtglbcfkmaamhaaaBQNodex9J
import Derived.Test.YtglbcfkmaamhaaaBTurnsW
set_option linter.unusedVariables false
set_option linter.unusedSimpArgs false
namespace Go.Proofs.Ytglbcfkmaamhaaa.PNode
open Go Go.RowKit Go.Proofs.YtglbcfkmaamhaaaW.PrintWords Go.Proofs.YtglbcfkmaamhaaaW.PrintLast Go.Proofs.YtglbcfkmaamhaaaW.PrintMore Go.Proofs.Ytglbcfkmaamhaaa.Stk Go.Proofs.Ytglbcfkmaamhaaa.Ord Go.Proofs.Ytglbcfkmaamhaaa.Less
theorem splitG_go {w0 w : World} {L : List Bx} {S : List (Value × List ByteArray)} {R : List (Value × List S33)} (hm : Mem w0 w L S R) {b b1 b2 : Bool} {n n1 nn : Int} {A2 A3 : Option Addr} {n2 c2 n3 c3 : Nat} {ks ks1 ks2 : List ByteArray} {rs rs1 rs2 : List S33} (h2 : (.slice A2 n2 c2, ks) ∈ S) (h3 : (.slice A3 n3 c3, rs) ∈ R) (key : ByteArray) (m2 m3 m4 m5 : Nat) (k : Nat) (hf : node_Split.f k b n ks rs = some (b1, n1, ks1, rs1, key, b2, nn, ks2, rs2)) (e2 : ks1.length = m2) (e3 : rs1.length = m3) (e4 : ks2.length = m4) (e5 : rs2.length = m5) :
    Calls Try.prog 51 #[.agg #[.bool b, .int .i64 n, .slice A2 n2 c2, .slice A3 n3 c3]] w fun e w' => ∃ (B2 : Option Addr) (d2 : Nat) (B3 : Option Addr) (d3 : Nat) (B4 : Option Addr) (d4 : Nat) (B5 : Option Addr) (d5 : Nat), e = .returned (.tuple #[.agg #[.bool b1, .int .i64 n1, .slice B2 m2 d2, .slice B3 m3 d3], .string key, .agg #[.bool b2, .int .i64 nn, .slice B4 m4 d4, .slice B5 m5 d5]]) ∧ Mem w0 w' L ((.slice B2 m2 d2, ks1) :: (.slice B4 m4 d4, ks2) :: S) ((.slice B3 m3 d3, rs1) :: (.slice B5 m5 d5, rs2) :: R) := by
  have H2 : Sl Kd.string 9 w L (.slice A2 n2 c2) ks := hm.s _ h2
  have H3 : Sl k33 33 w L (.slice A3 n3 c3) rs := hm.r _ h3
  obtain rfl := H2.reads.1
  obtain rfl := H3.reads.1
  refine (node_Split.calls k b n (Far L) A2 c2 ks (Far L) A3 c3 rs b1 n1 ks1 rs1 key b2 nn ks2 rs2 w H2 H3 hf).mono ?_
  rintro e w' ⟨v2, v3, v4, v5, rfl, g2, g3, g4, g5, hb⟩
  have G2 := Sl.ofV2 hm.st (Kd.V_mono g2 (fun k hk => hk.1))
  have G3 := Sl.ofV2 hm.st (Kd.V_mono g3 (fun k hk => hk.1))
  have G4 := Sl.ofR hm.st g4
  have G5 := Sl.ofR hm.st g5
  obtain ⟨B2, d2, rfl⟩ := G2.form
  obtain ⟨B3, d3, rfl⟩ := G3.form
  obtain ⟨B4, d4, rfl⟩ := G4.form
  obtain ⟨B5, d5, rfl⟩ := G5.form
  subst e2 e3 e4 e5
  exact ⟨B2, d2, B3, d3, B4, d4, B5, d5, rfl, ((((hm.call hb).addR G5).addR G3).addS G4).addS G2⟩
theorem joinG_go {w0 w : World} {L : List Bx} {S : List (Value × List ByteArray)} {R : List (Value × List S33)} (hm : Mem w0 w L S R) {b b1 : Bool} {n n1 : Int} {A2 A3 : Option Addr} {n2 c2 n3 c3 : Nat} {ks ks1 : List ByteArray} {rs rs1 : List S33} (h2 : (.slice A2 n2 c2, ks) ∈ S) (h3 : (.slice A3 n3 c3, rs) ∈ R) (key : ByteArray) {bb : Bool} {nn : Int} {A4 A5 : Option Addr} {n4 c4 n5 c5 : Nat} {ks2 : List ByteArray} {rs2 : List S33} (h4 : (.slice A4 n4 c4, ks2) ∈ S) (h5 : (.slice A5 n5 c5, rs2) ∈ R) (m2 m3 : Nat) (k : Nat) (hf : node_Join.f k b n ks rs key bb nn ks2 rs2 = some (b1, n1, ks1, rs1)) (e2 : ks1.length = m2) (e3 : rs1.length = m3) :
    Calls Try.prog 53 #[.agg #[.bool b, .int .i64 n, .slice A2 n2 c2, .slice A3 n3 c3], .string key, .agg #[.bool bb, .int .i64 nn, .slice A4 n4 c4, .slice A5 n5 c5]] w fun e w' => ∃ (B2 : Option Addr) (d2 : Nat) (B3 : Option Addr) (d3 : Nat), e = .returned (.agg #[.bool b1, .int .i64 n1, .slice B2 m2 d2, .slice B3 m3 d3]) ∧ Mem w0 w' L ((.slice B2 m2 d2, ks1) :: S) ((.slice B3 m3 d3, rs1) :: R) := by
  have H2 : Sl Kd.string 9 w L (.slice A2 n2 c2) ks := hm.s _ h2
  have H3 : Sl k33 33 w L (.slice A3 n3 c3) rs := hm.r _ h3
  obtain rfl := H2.reads.1
  obtain rfl := H3.reads.1
  have H4 : Sl Kd.string 9 w L (.slice A4 n4 c4) ks2 := hm.s _ h4
  have H5 : Sl k33 33 w L (.slice A5 n5 c5) rs2 := hm.r _ h5
  obtain rfl := H4.reads.1
  obtain rfl := H5.reads.1
  refine (node_Join.calls k b n (Far L) A2 c2 ks (Far L) A3 c3 rs key bb nn A4 c4 ks2 A5 c5 rs2 b1 n1 ks1 rs1 w H2 H3 H4.C H4.le H5.C H5.le hf).mono ?_
  rintro e w' ⟨v2, v3, rfl, g2, g3, hb⟩
  have G2 := Sl.ofV2 hm.st g2
  have G3 := Sl.ofV2 hm.st g3
  obtain ⟨B2, d2, rfl⟩ := G2.form
  obtain ⟨B3, d3, rfl⟩ := G3.form
  subst e2 e3
  exact ⟨B2, d2, B3, d3, rfl, ((hm.call hb).addR G3).addS G2⟩
theorem shape_go {w0 w : World} {L : List Bx} {S : List (Value × List ByteArray)} {R : List (Value × List S33)} (hm : Mem w0 w L S R) {b : Bool} {n : Int} {A2 A3 : Option Addr} {n2 c2 n3 c3 : Nat} {ks : List ByteArray} {rs : List S33} (h2 : (.slice A2 n2 c2, ks) ∈ S) (h3 : (.slice A3 n3 c3, rs) ∈ R) (q : Bool) (hf : transomref17_Shape.f b n ks rs = some q) :
    Calls Try.prog 55 #[.agg #[.bool b, .int .i64 n, .slice A2 n2 c2, .slice A3 n3 c3]] w fun e w' => e = .returned (.bool q) ∧ Mem w0 w' L S R := by
  have H2 : Sl Kd.string 9 w L (.slice A2 n2 c2) ks := hm.s _ h2
  have H3 : Sl k33 33 w L (.slice A3 n3 c3) rs := hm.r _ h3
  obtain rfl := H2.reads.1
  obtain rfl := H3.reads.1
  refine (transomref17_Shape.calls b n A2 c2 ks A3 c3 rs q w H2.C H2.le H3.C H3.le hf).mono ?_
  rintro e w' ⟨rfl, hb⟩
  exact ⟨rfl, hm.call hb⟩
attribute [local go_sem] str_leq str_gtr str_geq
open Classical in
set_option maxHeartbeats 16000000 in
set_option maxRecDepth 100000 in
theorem back_walk {A2 A3 : Option Addr} {c2 c3 : Nat} (b : Bool) (v : Int) (ks : List ByteArray) (rs : List S33) (W : World) (l2 : ks.length ≤ c2) (C2 : Kd.C Kd.string W A2 ks.length ks) (l3 : rs.length ≤ c3) (C3 : Kd.C k33 W A3 rs.length rs) :
    Calls Try.prog 9 #[.agg #[.bool b, .int .i64 v, .slice A2 ks.length c2, .slice A3 rs.length c3]] W fun e w' => e = .returned (.bool true) ∧ Below W.heap.size W w' := by
  obtain ⟨t, ht, hT⟩ := few_f b v ks rs
  have hu59 := Try.underlying59
  have hu33 := Try.underlying33
  have hu57 := Try.underlying57
  have hu31 := Try.underlying31
  have HM := Aside0.mk ((((Mem.start W).addS (Sl.came (e := 9) Kd.heap_string C2 l2)).addR (Sl.came (e := 33) k33_heap C3 l3)).alloc #[.bool b, .int .i64 v, .slice A2 ks.length c2, .slice A3 rs.length c3] 59)
  have HT := Aside0.mk ht
  clear C2 C3 l2 l3 ht
  rcases hT with rfl | ⟨rfl, hn, hr⟩
  · go_enter Try.func9, Try.ntmps9
    go_wp2_with (first
        | (go_at_call 31; refine (few_go HM.out (by simp) (by simp) _ 100 HT.out).mono ?_; rintro e1 w1 ⟨rfl, h1⟩
           obtain ⟨⟨x0, x1, x2, x3⟩, xz, xn⟩ := Mem.four h1 W.heap.size 59 (.bool b) (.int .i64 v) (.slice A2 ks.length c2) (.slice A3 rs.length c3) (by simp)
           have xz0 := xz 0
           have xz1 := xz 1
           have xz2 := xz 2
           have xz3 := xz 3
           clear xz
           obtain ⟨xa0, xa1, xa2, xa3, xaz⟩ := Mem.fourA h1 W.heap.size 59 (.bool b) (.int .i64 v) (.slice A2 ks.length c2) (.slice A3 rs.length c3) (by simp)
           have H1 := Aside0.mk h1
           clear h1)
        | (go_at_call 32; refine (awake_go H1.out).mono ?_; rintro e1 w9 ⟨rfl, h1⟩
           have H9 := Aside0.mk h1
           clear h1))
    exact bodyPost_ret (v := .bool true) (by simp [results, Try.results9, go_sem]) rfl ⟨rfl, H9.out.st.bel⟩
  · have HS := Aside0.mk (Shape_f b v ks rs hr)
    have HR := Aside0.mk (rises_f b v ks rs hn 100 (by omega))
    by_cases hS : Shp b ks rs = true
    · rw [hS] at HS
      by_cases hR : RiseB ks 1
      · have HR := Aside0.mk (show transomlaw17_rises.f 100 b v ks rs = some true by rw [HR.out, decide_eq_true hR])
        by_cases h2 : (rs.length : Int) < 2
        · have g1 : decide ((rs.length : Int) < 2) = true := decide_eq_true h2
          have g2 : decide (rs.length < 2) = true := decide_eq_true (by omega)
          clear hR h2 hS
          go_enter Try.func9, Try.ntmps9
          go_wp2_with (first
              | (go_at_call 31; refine (few_go HM.out (by simp) (by simp) _ 100 HT.out).mono ?_; rintro e1 w1 ⟨rfl, h1⟩
                 obtain ⟨⟨x0, x1, x2, x3⟩, xz, xn⟩ := Mem.four h1 W.heap.size 59 (.bool b) (.int .i64 v) (.slice A2 ks.length c2) (.slice A3 rs.length c3) (by simp)
                 have xz0 := xz 0
                 have xz1 := xz 1
                 have xz2 := xz 2
                 have xz3 := xz 3
                 clear xz
                 obtain ⟨xa0, xa1, xa2, xa3, xaz⟩ := Mem.fourA h1 W.heap.size 59 (.bool b) (.int .i64 v) (.slice A2 ks.length c2) (.slice A3 rs.length c3) (by simp)
                 have H1 := Aside0.mk h1
                 clear h1)
              | (go_at_call 55; refine (shape_go H1.out (by simp) (by simp) _ HS.out).mono ?_; rintro e1 w2 ⟨rfl, h1⟩
                 obtain ⟨⟨y0, y1, y2, y3⟩, yz, yn⟩ := Mem.four h1 W.heap.size 59 (.bool b) (.int .i64 v) (.slice A2 ks.length c2) (.slice A3 rs.length c3) (by simp)
                 have yz0 := yz 0
                 have yz1 := yz 1
                 have yz2 := yz 2
                 have yz3 := yz 3
                 clear yz
                 obtain ⟨ya0, ya1, ya2, ya3, yaz⟩ := Mem.fourA h1 W.heap.size 59 (.bool b) (.int .i64 v) (.slice A2 ks.length c2) (.slice A3 rs.length c3) (by simp)
                 have H2 := Aside0.mk h1
                 clear h1)
              | (go_at_call 37; refine (rises_go H2.out (by simp) (by simp) _ 100 HR.out).mono ?_; rintro e1 w3 ⟨rfl, h1⟩
                 obtain ⟨⟨z0, z1, z2, z3⟩, zz, zn⟩ := Mem.four h1 W.heap.size 59 (.bool b) (.int .i64 v) (.slice A2 ks.length c2) (.slice A3 rs.length c3) (by simp)
                 have zz0 := zz 0
                 have zz1 := zz 1
                 have zz2 := zz 2
                 have zz3 := zz 3
                 clear zz
                 obtain ⟨za0, za1, za2, za3, zaz⟩ := Mem.fourA h1 W.heap.size 59 (.bool b) (.int .i64 v) (.slice A2 ks.length c2) (.slice A3 rs.length c3) (by simp)
                 have H3 := Aside0.mk h1
                 clear h1)
              | (go_at_call 32; refine (awake_go H3.out).mono ?_; rintro e1 w9 ⟨rfl, h1⟩
                 have H9 := Aside0.mk h1
                 clear h1))
          exact bodyPost_ret (v := .bool true) (by simp [results, Try.results9, go_sem]) rfl ⟨rfl, H9.out.st.bel⟩
        · have g1 : decide ((rs.length : Int) < 2) = false := decide_eq_false h2
          have g2 : decide (rs.length < 2) = false := decide_eq_false (by omega)
          by_cases hv : v > 1152921504606846976
          · have hv1 : decide (1152921504606846976 < v) = true := decide_eq_true hv
            clear hR hv h2 hS
            go_enter Try.func9, Try.ntmps9
            go_wp2_with (first
                | (go_at_call 31; refine (few_go HM.out (by simp) (by simp) _ 100 HT.out).mono ?_; rintro e1 w1 ⟨rfl, h1⟩
                   obtain ⟨⟨x0, x1, x2, x3⟩, xz, xn⟩ := Mem.four h1 W.heap.size 59 (.bool b) (.int .i64 v) (.slice A2 ks.length c2) (.slice A3 rs.length c3) (by simp)
                   have xz0 := xz 0
                   have xz1 := xz 1
                   have xz2 := xz 2
                   have xz3 := xz 3
                   clear xz
                   obtain ⟨xa0, xa1, xa2, xa3, xaz⟩ := Mem.fourA h1 W.heap.size 59 (.bool b) (.int .i64 v) (.slice A2 ks.length c2) (.slice A3 rs.length c3) (by simp)
                   have H1 := Aside0.mk h1
                   clear h1)
                | (go_at_call 55; refine (shape_go H1.out (by simp) (by simp) _ HS.out).mono ?_; rintro e1 w2 ⟨rfl, h1⟩
                   obtain ⟨⟨y0, y1, y2, y3⟩, yz, yn⟩ := Mem.four h1 W.heap.size 59 (.bool b) (.int .i64 v) (.slice A2 ks.length c2) (.slice A3 rs.length c3) (by simp)
                   have yz0 := yz 0
                   have yz1 := yz 1
                   have yz2 := yz 2
                   have yz3 := yz 3
                   clear yz
                   obtain ⟨ya0, ya1, ya2, ya3, yaz⟩ := Mem.fourA h1 W.heap.size 59 (.bool b) (.int .i64 v) (.slice A2 ks.length c2) (.slice A3 rs.length c3) (by simp)
                   have H2 := Aside0.mk h1
                   clear h1)
                | (go_at_call 37; refine (rises_go H2.out (by simp) (by simp) _ 100 HR.out).mono ?_; rintro e1 w3 ⟨rfl, h1⟩
                   obtain ⟨⟨z0, z1, z2, z3⟩, zz, zn⟩ := Mem.four h1 W.heap.size 59 (.bool b) (.int .i64 v) (.slice A2 ks.length c2) (.slice A3 rs.length c3) (by simp)
                   have zz0 := zz 0
                   have zz1 := zz 1
                   have zz2 := zz 2
                   have zz3 := zz 3
                   clear zz
                   obtain ⟨za0, za1, za2, za3, zaz⟩ := Mem.fourA h1 W.heap.size 59 (.bool b) (.int .i64 v) (.slice A2 ks.length c2) (.slice A3 rs.length c3) (by simp)
                   have H3 := Aside0.mk h1
                   clear h1)
                | (go_at_call 32; refine (awake_go H3.out).mono ?_; rintro e1 w9 ⟨rfl, h1⟩
                   have H9 := Aside0.mk h1
                   clear h1))
            exact bodyPost_ret (v := .bool true) (by simp [results, Try.results9, go_sem]) rfl ⟨rfl, H9.out.st.bel⟩
          · have hv1 : decide (1152921504606846976 < v) = false := decide_eq_false hv
            obtain ⟨mid, v1, v2, ks1, rs1, ks2, rs2, P1, P2, P3, P4, P5, P6, P7, P8, P9⟩ := back b v ks rs hn hr hR hS (by omega)
            have HP := Aside0.mk (And.intro P1 (And.intro P2 (And.intro P3 (And.intro P4 P5))))
            have HQ := Aside0.mk (And.intro P6 (And.intro P7 (And.intro P8 P9)))
            clear P1 P2 P3 P4 P5 P6 P7 P8 P9 hR hv hS h2
            go_enter Try.func9, Try.ntmps9
            go_upto_region 3 with (first
                | (go_at_call 31; refine (few_go HM.out (by simp) (by simp) _ 100 HT.out).mono ?_; rintro e1 w1 ⟨rfl, h1⟩
                   obtain ⟨⟨x0, x1, x2, x3⟩, xz, xn⟩ := Mem.four h1 W.heap.size 59 (.bool b) (.int .i64 v) (.slice A2 ks.length c2) (.slice A3 rs.length c3) (by simp)
                   have xz0 := xz 0
                   have xz1 := xz 1
                   have xz2 := xz 2
                   have xz3 := xz 3
                   clear xz
                   obtain ⟨xa0, xa1, xa2, xa3, xaz⟩ := Mem.fourA h1 W.heap.size 59 (.bool b) (.int .i64 v) (.slice A2 ks.length c2) (.slice A3 rs.length c3) (by simp)
                   have H1 := Aside0.mk h1
                   clear h1)
                | (go_at_call 55; refine (shape_go H1.out (by simp) (by simp) _ HS.out).mono ?_; rintro e1 w2 ⟨rfl, h1⟩
                   obtain ⟨⟨y0, y1, y2, y3⟩, yz, yn⟩ := Mem.four h1 W.heap.size 59 (.bool b) (.int .i64 v) (.slice A2 ks.length c2) (.slice A3 rs.length c3) (by simp)
                   have yz0 := yz 0
                   have yz1 := yz 1
                   have yz2 := yz 2
                   have yz3 := yz 3
                   clear yz
                   obtain ⟨ya0, ya1, ya2, ya3, yaz⟩ := Mem.fourA h1 W.heap.size 59 (.bool b) (.int .i64 v) (.slice A2 ks.length c2) (.slice A3 rs.length c3) (by simp)
                   have H2 := Aside0.mk h1
                   clear h1)
                | (go_at_call 37; refine (rises_go H2.out (by simp) (by simp) _ 100 HR.out).mono ?_; rintro e1 w3 ⟨rfl, h1⟩
                   obtain ⟨⟨z0, z1, z2, z3⟩, zz, zn⟩ := Mem.four h1 W.heap.size 59 (.bool b) (.int .i64 v) (.slice A2 ks.length c2) (.slice A3 rs.length c3) (by simp)
                   have zz0 := zz 0
                   have zz1 := zz 1
                   have zz2 := zz 2
                   have zz3 := zz 3
                   clear zz
                   obtain ⟨za0, za1, za2, za3, zaz⟩ := Mem.fourA h1 W.heap.size 59 (.bool b) (.int .i64 v) (.slice A2 ks.length c2) (.slice A3 rs.length c3) (by simp)
                   have H3 := Aside0.mk h1
                   clear h1))
            go_upto_region 4 with (first
                | (go_at_call 51; refine (splitG_go H3.out (by simp) (by simp) mid ks1.length rs1.length ks2.length rs2.length 100 HP.out.1 rfl rfl rfl rfl).mono ?_; rintro e1 w4 ⟨B2, d2, B3, d3, C2, e2, C3, e3, rfl, h1⟩
                   have H4 := Aside0.mk h1
                   clear h1))
            obtain ⟨u, hu, HV⟩ : ∃ u, u = _ ∧ Mem W u [(w4.heap.size + 1, 59, #[.bool b, .int .i64 1, .slice C2 ks2.length e2, .slice C3 rs2.length e3]), (w4.heap.size, 59, #[.bool b, .int .i64 v1, .slice B2 ks1.length d2, .slice B3 rs1.length d3]), (W.heap.size, 59, #[.bool b, .int .i64 v, .slice A2 ks.length c2, .slice A3 rs.length c3])] _ _ := ⟨_, rfl, H4.out.alloc2 #[.bool b, .int .i64 v1, .slice B2 ks1.length d2, .slice B3 rs1.length d3] #[.bool b, .int .i64 1, .slice C2 ks2.length e2, .slice C3 rs2.length e3] 59 59⟩
            rw [← hu]
            clear hu
            generalize w4.heap.size = ga at HV ⊢
            obtain ⟨gb, hgb⟩ : ∃ gb, gb = ga + 1 := ⟨_, rfl⟩
            rw [← hgb] at HV ⊢
            clear hgb H1 H2 H3 H4 HM x0 x1 x2 x3 xn xz0 xz1 xz2 xz3 xa0 xa1 xa2 xa3 xaz y0 y1 y2 y3 yn yz0 yz1 yz2 yz3 ya0 ya1 ya2 ya3 yaz z0 z1 z2 z3 zn zz0 zz1 zz2 zz3 za0 za1 za2 za3 zaz
            have HM := Aside0.mk HV
            clear HV
            obtain ⟨⟨x0, x1, x2, x3⟩, xz, xn⟩ := Mem.four HM.out ga 59 (.bool b) (.int .i64 v1) (.slice B2 ks1.length d2) (.slice B3 rs1.length d3) (by simp)
            have xz0 := xz 0
            have xz1 := xz 1
            have xz2 := xz 2
            have xz3 := xz 3
            clear xz
            obtain ⟨xa0, xa1, xa2, xa3, xaz⟩ := Mem.fourA HM.out ga 59 (.bool b) (.int .i64 v1) (.slice B2 ks1.length d2) (.slice B3 rs1.length d3) (by simp)
            obtain ⟨⟨y0, y1, y2, y3⟩, yz, yn⟩ := Mem.four HM.out gb 59 (.bool b) (.int .i64 1) (.slice C2 ks2.length e2) (.slice C3 rs2.length e3) (by simp)
            have yz0 := yz 0
            have yz1 := yz 1
            have yz2 := yz 2
            have yz3 := yz 3
            clear yz
            obtain ⟨ya0, ya1, ya2, ya3, yaz⟩ := Mem.fourA HM.out gb 59 (.bool b) (.int .i64 1) (.slice C2 ks2.length e2) (.slice C3 rs2.length e3) (by simp)
            go_upto_region 5 with (first
                | (go_at_call 53; refine (joinG_go HM.out (by simp) (by simp) mid (by simp) (by simp) ks.length rs.length 100 HP.out.2.1 rfl rfl).mono ?_; rintro e1 w5 ⟨D2, k2, D3, k3, rfl, h1⟩
                   have H5 := Aside0.mk h1
                   clear h1))
            obtain ⟨u, hu, HV⟩ : ∃ u, u = _ ∧ Mem W u [(w5.heap.size, 59, #[.bool b, .int .i64 v2, .slice D2 ks.length k2, .slice D3 rs.length k3]), (gb, 59, #[.bool b, .int .i64 1, .slice C2 ks2.length e2, .slice C3 rs2.length e3]), (ga, 59, #[.bool b, .int .i64 v1, .slice B2 ks1.length d2, .slice B3 rs1.length d3]), (W.heap.size, 59, #[.bool b, .int .i64 v, .slice A2 ks.length c2, .slice A3 rs.length c3])] _ _ := ⟨_, rfl, H5.out.alloc #[.bool b, .int .i64 v2, .slice D2 ks.length k2, .slice D3 rs.length k3] 59⟩
            rw [← hu]
            clear hu
            generalize w5.heap.size = gc at HV ⊢
            clear H5 HM x0 x1 x2 x3 xn xz0 xz1 xz2 xz3 xa0 xa1 xa2 xa3 xaz y0 y1 y2 y3 yn yz0 yz1 yz2 yz3 ya0 ya1 ya2 ya3 yaz
            have HM := Aside0.mk HV
            clear HV
            obtain ⟨⟨x0, x1, x2, x3⟩, xz, xn⟩ := Mem.four HM.out gc 59 (.bool b) (.int .i64 v2) (.slice D2 ks.length k2) (.slice D3 rs.length k3) (by simp)
            have xz0 := xz 0
            have xz1 := xz 1
            have xz2 := xz 2
            have xz3 := xz 3
            clear xz
            obtain ⟨xa0, xa1, xa2, xa3, xaz⟩ := Mem.fourA HM.out gc 59 (.bool b) (.int .i64 v2) (.slice D2 ks.length k2) (.slice D3 rs.length k3) (by simp)
            obtain ⟨⟨y0, y1, y2, y3⟩, yz, yn⟩ := Mem.four HM.out W.heap.size 59 (.bool b) (.int .i64 v) (.slice A2 ks.length c2) (.slice A3 rs.length c3) (by simp)
            have yz0 := yz 0
            have yz1 := yz 1
            have yz2 := yz 2
            have yz3 := yz 3
            clear yz
            obtain ⟨ya0, ya1, ya2, ya3, yaz⟩ := Mem.fourA HM.out W.heap.size 59 (.bool b) (.int .i64 v) (.slice A2 ks.length c2) (.slice A3 rs.length c3) (by simp)
            go_upto_region 6 with fail
            obtain ⟨u, hu, HV⟩ : ∃ u, u = _ ∧ Mem W u [(gc, 59, #[.bool b, .int .i64 v, .slice D2 ks.length k2, .slice D3 rs.length k3]), (gb, 59, #[.bool b, .int .i64 1, .slice C2 ks2.length e2, .slice C3 rs2.length e3]), (ga, 59, #[.bool b, .int .i64 v1, .slice B2 ks1.length d2, .slice B3 rs1.length d3]), (W.heap.size, 59, #[.bool b, .int .i64 v, .slice A2 ks.length c2, .slice A3 rs.length c3])] _ _ := ⟨_, rfl, HM.out.put 1 (.int .i64 v)⟩
            rw [← hu]
            clear hu
            clear HM x0 x1 x2 x3 xn xz0 xz1 xz2 xz3 xa0 xa1 xa2 xa3 xaz y0 y1 y2 y3 yn yz0 yz1 yz2 yz3 ya0 ya1 ya2 ya3 yaz
            have HM := Aside0.mk HV
            clear HV
            obtain ⟨⟨x0, x1, x2, x3⟩, xz, xn⟩ := Mem.four HM.out gc 59 (.bool b) (.int .i64 v) (.slice D2 ks.length k2) (.slice D3 rs.length k3) (by simp)
            have xz0 := xz 0
            have xz1 := xz 1
            have xz2 := xz 2
            have xz3 := xz 3
            clear xz
            obtain ⟨xa0, xa1, xa2, xa3, xaz⟩ := Mem.fourA HM.out gc 59 (.bool b) (.int .i64 v) (.slice D2 ks.length k2) (.slice D3 rs.length k3) (by simp)
            obtain ⟨⟨y0, y1, y2, y3⟩, yz, yn⟩ := Mem.four HM.out W.heap.size 59 (.bool b) (.int .i64 v) (.slice A2 ks.length c2) (.slice A3 rs.length c3) (by simp)
            have yz0 := yz 0
            have yz1 := yz 1
            have yz2 := yz 2
            have yz3 := yz 3
            clear yz
            obtain ⟨ya0, ya1, ya2, ya3, yaz⟩ := Mem.fourA HM.out W.heap.size 59 (.bool b) (.int .i64 v) (.slice A2 ks.length c2) (.slice A3 rs.length c3) (by simp)
            have q1 : wrap64 ((rs1.length : Int) + (rs2.length : Int)) = (rs.length : Int) := by have := HP.out.2.2.1; unfold wrap64; omega
            have q1w : IntKind.i64.wrap ((rs1.length : Int) + (rs2.length : Int)) = (rs.length : Int) := by have := HP.out.2.2.1; rw [IntKind.wrap_i64]; omega
            obtain ⟨dd, hdd, hd1⟩ : ∃ dd : Int, wrap64 ((rs1.length : Int) - (rs2.length : Int)) = dd ∧ dd ≤ 1 := ⟨_, rfl, by have := HP.out.2.2.2.1; have := HP.out.2.2.2.2; unfold wrap64; omega⟩
            have hddw : IntKind.i64.wrap ((rs1.length : Int) - (rs2.length : Int)) = dd := (i64_w _).trans hdd
            have q2 : decide (1 < dd) = false := decide_eq_false (by omega)
            have q3 : decide ((rs1.length : Int) < (rs2.length : Int)) = false := decide_eq_false (by have := HP.out.2.2.2.2; omega)
            have q4 : decide (rs1.length < rs2.length) = false := decide_eq_false (by have := HP.out.2.2.2.2; omega)
            clear hd1
            go_upto_region 8 with (first
                | (go_at_call 46; refine (same_go (b := b) (n := v) (ks := ks) (rs := rs) HM.out (by simp) (by simp) (by simp) (by simp) (by omega) (by omega)).mono ?_; rintro e1 w6 ⟨rfl, h1⟩
                   obtain ⟨⟨p0, p1, p2, p3⟩, pz, pn⟩ := Mem.four h1 ga 59 (.bool b) (.int .i64 v1) (.slice B2 ks1.length d2) (.slice B3 rs1.length d3) (by simp)
                   have pz0 := pz 0
                   have pz1 := pz 1
                   have pz2 := pz 2
                   have pz3 := pz 3
                   clear pz
                   obtain ⟨pa0, pa1, pa2, pa3, paz⟩ := Mem.fourA h1 ga 59 (.bool b) (.int .i64 v1) (.slice B2 ks1.length d2) (.slice B3 rs1.length d3) (by simp)
                   obtain ⟨⟨q0, q1, q2, q3⟩, qz, qn⟩ := Mem.four h1 gb 59 (.bool b) (.int .i64 1) (.slice C2 ks2.length e2) (.slice C3 rs2.length e3) (by simp)
                   have qz0 := qz 0
                   have qz1 := qz 1
                   have qz2 := qz 2
                   have qz3 := qz 3
                   clear qz
                   obtain ⟨qa0, qa1, qa2, qa3, qaz⟩ := Mem.fourA h1 gb 59 (.bool b) (.int .i64 1) (.slice C2 ks2.length e2) (.slice C3 rs2.length e3) (by simp)
                   obtain ⟨⟨s0, s1, s2, s3⟩, sz, sn⟩ := Mem.four h1 W.heap.size 59 (.bool b) (.int .i64 v) (.slice A2 ks.length c2) (.slice A3 rs.length c3) (by simp)
                   have sz0 := sz 0
                   have sz1 := sz 1
                   have sz2 := sz 2
                   have sz3 := sz 3
                   clear sz
                   obtain ⟨sa0, sa1, sa2, sa3, saz⟩ := Mem.fourA h1 W.heap.size 59 (.bool b) (.int .i64 v) (.slice A2 ks.length c2) (.slice A3 rs.length c3) (by simp)
                   have H6 := Aside0.mk h1
                   clear h1))
            go_wp2_with fail
            go_loopg [7] ks1.length (fun kq vv w' => ∃ i : Int, vv = .int .i64 i ∧ kq = ks1.length - i.toNat ∧ 0 ≤ i ∧ i ≤ ks1.length ∧ w6 = w')
            case atStart => exact ⟨0, rfl, rfl, Int.le_refl _, by omega, rfl⟩
            case round =>
              obtain ⟨i, rfl, rfl, hi0, hi, rfl⟩ := hrel
              by_cases hlt : i < (ks1.length : Int)
              · obtain ⟨ad, ea, hx⟩ := Kd.at_string (Sl.C (H6.out.s (.slice B2 ks1.length d2, ks1) (by simp))) i hi0 hlt
                cases ea
                have hb := HQ.out.2.2.1 i hi0 hlt
                have p1 := eq_true hi0
                have q1 := eq_true hlt
                have HI := Aside0.mk (And.intro hi0 (And.intro hi hlt))
                clear hi0 hi hlt
                go_wp2_with fail
                have hi0 := HI.out
                go_roundg (ks1.length - (i + 1).toNat)
                case measure => omega
                case rel => exact ⟨i + 1, by rw [show wrap64 (i + 1) = i + 1 by have := HQ.out.1; have := HQ.out.2.1; unfold wrap64; omega], rfl, by omega, by omega, rfl⟩
              · have q1 : ¬ i < (ks1.length : Int) := hlt
                go_wp2_with fail
                go_loopg [8] ks2.length (fun kq vv w' => ∃ i : Int, vv = .int .i64 i ∧ kq = ks2.length - i.toNat ∧ 0 ≤ i ∧ i ≤ ks2.length ∧ w6 = w')
                case atStart => exact ⟨0, rfl, rfl, Int.le_refl _, by omega, rfl⟩
                case round =>
                  obtain ⟨i, rfl, rfl, hi0, hi, rfl⟩ := hrel
                  by_cases hlt : i < (ks2.length : Int)
                  · obtain ⟨ad, ea, hx⟩ := Kd.at_string (Sl.C (H6.out.s (.slice C2 ks2.length e2, ks2) (by simp))) i hi0 hlt
                    cases ea
                    have hb := HQ.out.2.2.2 i hi0 hlt
                    have p1 := eq_true hi0
                    have q1 := eq_true hlt
                    have HI := Aside0.mk (And.intro hi0 (And.intro hi hlt))
                    clear hi0 hi hlt
                    go_wp2_with fail
                    have hi0 := HI.out
                    go_roundg (ks2.length - (i + 1).toNat)
                    case measure => omega
                    case rel => exact ⟨i + 1, by rw [show wrap64 (i + 1) = i + 1 by have := HQ.out.1; have := HQ.out.2.1; unfold wrap64; omega], rfl, by omega, by omega, rfl⟩
                  · have q1 : ¬ i < (ks2.length : Int) := hlt
                    go_wp2_with (first
                        | (go_at_call 32; refine (awake_go H6.out).mono ?_; rintro e1 w9 ⟨rfl, h1⟩
                           have H9 := Aside0.mk h1
                           clear h1))
                    exact bodyPost_ret (v := .bool true) (by simp [results, Try.results9, go_sem]) rfl ⟨rfl, H9.out.st.bel⟩
      · have HR := Aside0.mk (show transomlaw17_rises.f 100 b v ks rs = some false by rw [HR.out, decide_eq_false hR])
        clear hR hS
        go_enter Try.func9, Try.ntmps9
        go_wp2_with (first
            | (go_at_call 31; refine (few_go HM.out (by simp) (by simp) _ 100 HT.out).mono ?_; rintro e1 w1 ⟨rfl, h1⟩
               obtain ⟨⟨x0, x1, x2, x3⟩, xz, xn⟩ := Mem.four h1 W.heap.size 59 (.bool b) (.int .i64 v) (.slice A2 ks.length c2) (.slice A3 rs.length c3) (by simp)
               have xz0 := xz 0
               have xz1 := xz 1
               have xz2 := xz 2
               have xz3 := xz 3
               clear xz
               obtain ⟨xa0, xa1, xa2, xa3, xaz⟩ := Mem.fourA h1 W.heap.size 59 (.bool b) (.int .i64 v) (.slice A2 ks.length c2) (.slice A3 rs.length c3) (by simp)
               have H1 := Aside0.mk h1
               clear h1)
            | (go_at_call 55; refine (shape_go H1.out (by simp) (by simp) _ HS.out).mono ?_; rintro e1 w2 ⟨rfl, h1⟩
               obtain ⟨⟨y0, y1, y2, y3⟩, yz, yn⟩ := Mem.four h1 W.heap.size 59 (.bool b) (.int .i64 v) (.slice A2 ks.length c2) (.slice A3 rs.length c3) (by simp)
               have yz0 := yz 0
               have yz1 := yz 1
               have yz2 := yz 2
               have yz3 := yz 3
               clear yz
               obtain ⟨ya0, ya1, ya2, ya3, yaz⟩ := Mem.fourA h1 W.heap.size 59 (.bool b) (.int .i64 v) (.slice A2 ks.length c2) (.slice A3 rs.length c3) (by simp)
               have H2 := Aside0.mk h1
               clear h1)
            | (go_at_call 37; refine (rises_go H2.out (by simp) (by simp) _ 100 HR.out).mono ?_; rintro e1 w3 ⟨rfl, h1⟩
               obtain ⟨⟨z0, z1, z2, z3⟩, zz, zn⟩ := Mem.four h1 W.heap.size 59 (.bool b) (.int .i64 v) (.slice A2 ks.length c2) (.slice A3 rs.length c3) (by simp)
               have zz0 := zz 0
               have zz1 := zz 1
               have zz2 := zz 2
               have zz3 := zz 3
               clear zz
               obtain ⟨za0, za1, za2, za3, zaz⟩ := Mem.fourA h1 W.heap.size 59 (.bool b) (.int .i64 v) (.slice A2 ks.length c2) (.slice A3 rs.length c3) (by simp)
               have H3 := Aside0.mk h1
               clear h1)
            | (go_at_call 32; refine (awake_go H3.out).mono ?_; rintro e1 w9 ⟨rfl, h1⟩
               have H9 := Aside0.mk h1
               clear h1))
        exact bodyPost_ret (v := .bool true) (by simp [results, Try.results9, go_sem]) rfl ⟨rfl, H9.out.st.bel⟩
    · rw [Bool.eq_false_iff.mpr hS] at HS
      clear hS HR
      go_enter Try.func9, Try.ntmps9
      go_wp2_with (first
          | (go_at_call 31; refine (few_go HM.out (by simp) (by simp) _ 100 HT.out).mono ?_; rintro e1 w1 ⟨rfl, h1⟩
             obtain ⟨⟨x0, x1, x2, x3⟩, xz, xn⟩ := Mem.four h1 W.heap.size 59 (.bool b) (.int .i64 v) (.slice A2 ks.length c2) (.slice A3 rs.length c3) (by simp)
             have xz0 := xz 0
             have xz1 := xz 1
             have xz2 := xz 2
             have xz3 := xz 3
             clear xz
             obtain ⟨xa0, xa1, xa2, xa3, xaz⟩ := Mem.fourA h1 W.heap.size 59 (.bool b) (.int .i64 v) (.slice A2 ks.length c2) (.slice A3 rs.length c3) (by simp)
             have H1 := Aside0.mk h1
             clear h1)
          | (go_at_call 55; refine (shape_go H1.out (by simp) (by simp) _ HS.out).mono ?_; rintro e1 w2 ⟨rfl, h1⟩
             obtain ⟨⟨y0, y1, y2, y3⟩, yz, yn⟩ := Mem.four h1 W.heap.size 59 (.bool b) (.int .i64 v) (.slice A2 ks.length c2) (.slice A3 rs.length c3) (by simp)
             have yz0 := yz 0
             have yz1 := yz 1
             have yz2 := yz 2
             have yz3 := yz 3
             clear yz
             obtain ⟨ya0, ya1, ya2, ya3, yaz⟩ := Mem.fourA h1 W.heap.size 59 (.bool b) (.int .i64 v) (.slice A2 ks.length c2) (.slice A3 rs.length c3) (by simp)
             have H2 := Aside0.mk h1
             clear h1)
          | (go_at_call 32; refine (awake_go H2.out).mono ?_; rintro e1 w9 ⟨rfl, h1⟩
             have H9 := Aside0.mk h1
             clear h1))
      exact bodyPost_ret (v := .bool true) (by simp [results, Try.results9, go_sem]) rfl ⟨rfl, H9.out.st.bel⟩

end Go.Proofs.Ytglbcfkmaamhaaa.PNode
