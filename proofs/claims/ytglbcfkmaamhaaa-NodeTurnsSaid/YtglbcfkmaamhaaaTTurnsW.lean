/- NodeTurns: the walk. No condition. -/
import Derived.Test.YtglbcfkmaamhaaaTTurns
import Derived.Test.YtglbcfkmaamhaaaTQNodex9
set_option linter.unusedVariables false
set_option linter.unusedSimpArgs false
namespace Go.Proofs.Ytglbcfkmaamhaaa.PNode
open Go Go.RowKit Go.Proofs.YtglbcfkmaamhaaaW.PrintWords Go.Proofs.YtglbcfkmaamhaaaW.PrintLast Go.Proofs.YtglbcfkmaamhaaaW.PrintMore Go.Proofs.Ytglbcfkmaamhaaa.Stk
theorem rput_go {w0 w : World} {L : List Bx} {S : List (Value × List ByteArray)} {R : List (Value × List S33)} (hm : Mem w0 w L S R) {b b1 : Bool} {n n1 : Int} {A2 A3 : Option Addr} {n2 c2 n3 c3 : Nat} {ks ks1 : List ByteArray} {rs rs1 : List S33} (h2 : (.slice A2 n2 c2, ks) ∈ S) (h3 : (.slice A3 n3 c3, rs) ∈ R) (key : ByteArray) (x y : Int) (fl : Bool) (m2 m3 : Nat) (k : Nat) (hf : transomref17_Put.f k b n ks rs key x y = some (b1, n1, ks1, rs1, fl)) (e2 : ks1.length = m2) (e3 : rs1.length = m3) :
    Calls Try.prog 43 #[.agg #[.bool b, .int .i64 n, .slice A2 n2 c2, .slice A3 n3 c3], .string key, .agg #[.int .i64 x, .int .i64 y]] w fun e w' => ∃ (B2 : Option Addr) (d2 : Nat) (B3 : Option Addr) (d3 : Nat), e = .returned (.tuple #[.agg #[.bool b1, .int .i64 n1, .slice B2 m2 d2, .slice B3 m3 d3], .bool fl]) ∧ Mem w0 w' L ((.slice B2 m2 d2, ks1) :: S) ((.slice B3 m3 d3, rs1) :: R) := by
  have H2 : Sl Kd.string 9 w L (.slice A2 n2 c2) ks := hm.s _ h2
  have H3 : Sl k33 33 w L (.slice A3 n3 c3) rs := hm.r _ h3
  obtain rfl := H2.reads.1
  obtain rfl := H3.reads.1
  refine (transomref17_Put.calls k b n (Far L) A2 c2 ks (Far L) A3 c3 rs key x y b1 n1 ks1 rs1 fl w H2 H3 hf).mono ?_
  rintro e w' ⟨v2, v3, rfl, g2, g3, hb⟩
  have G2 := Sl.ofV2 hm.st g2
  have G3 := Sl.ofV2 hm.st g3
  obtain ⟨B2, d2, rfl⟩ := G2.form
  obtain ⟨B3, d3, rfl⟩ := G3.form
  subst e2 e3
  exact ⟨B2, d2, B3, d3, rfl, ((hm.call hb).addR G3).addS G2⟩
theorem rdelete_go {w0 w : World} {L : List Bx} {S : List (Value × List ByteArray)} {R : List (Value × List S33)} (hm : Mem w0 w L S R) {b b1 : Bool} {n n1 : Int} {A2 A3 : Option Addr} {n2 c2 n3 c3 : Nat} {ks ks1 : List ByteArray} {rs rs1 : List S33} (h2 : (.slice A2 n2 c2, ks) ∈ S) (h3 : (.slice A3 n3 c3, rs) ∈ R) (key : ByteArray) (x y : Int) (fl : Bool) (m2 m3 : Nat) (k : Nat) (hf : transomref17_Delete.f k b n ks rs key = some (b1, n1, ks1, rs1, x, y, fl)) (e2 : ks1.length = m2) (e3 : rs1.length = m3) :
    Calls Try.prog 45 #[.agg #[.bool b, .int .i64 n, .slice A2 n2 c2, .slice A3 n3 c3], .string key] w fun e w' => ∃ (B2 : Option Addr) (d2 : Nat) (B3 : Option Addr) (d3 : Nat), e = .returned (.tuple #[.agg #[.bool b1, .int .i64 n1, .slice B2 m2 d2, .slice B3 m3 d3], .agg #[.int .i64 x, .int .i64 y], .bool fl]) ∧ Mem w0 w' L ((.slice B2 m2 d2, ks1) :: S) ((.slice B3 m3 d3, rs1) :: R) := by
  have H2 : Sl Kd.string 9 w L (.slice A2 n2 c2) ks := hm.s _ h2
  have H3 : Sl k33 33 w L (.slice A3 n3 c3) rs := hm.r _ h3
  obtain rfl := H2.reads.1
  obtain rfl := H3.reads.1
  refine (transomref17_Delete.calls k b n (Far L) A2 c2 ks (Far L) A3 c3 rs key b1 n1 ks1 rs1 x y fl w H2 H3 hf).mono ?_
  rintro e w' ⟨v2, v3, rfl, g2, g3, hb⟩
  have G2 := Sl.ofV2 hm.st g2
  have G3 := Sl.ofV2 hm.st g3
  obtain ⟨B2, d2, rfl⟩ := G2.form
  obtain ⟨B3, d3, rfl⟩ := G3.form
  subst e2 e3
  exact ⟨B2, d2, B3, d3, rfl, ((hm.call hb).addR G3).addS G2⟩
theorem rinsert_go {w0 w : World} {L : List Bx} {S : List (Value × List ByteArray)} {R : List (Value × List S33)} (hm : Mem w0 w L S R) {b b1 : Bool} {n n1 : Int} {A2 A3 : Option Addr} {n2 c2 n3 c3 : Nat} {ks ks1 : List ByteArray} {rs rs1 : List S33} (h2 : (.slice A2 n2 c2, ks) ∈ S) (h3 : (.slice A3 n3 c3, rs) ∈ R) (p : Int) (key : ByteArray) (x y : Int) (m2 m3 : Nat) (hf : transomref17_Insert.f b n ks rs p key x y = some (b1, n1, ks1, rs1)) (e2 : ks1.length = m2) (e3 : rs1.length = m3) :
    Calls Try.prog 48 #[.agg #[.bool b, .int .i64 n, .slice A2 n2 c2, .slice A3 n3 c3], .int .i64 p, .string key, .agg #[.int .i64 x, .int .i64 y]] w fun e w' => ∃ (B2 : Option Addr) (d2 : Nat) (B3 : Option Addr) (d3 : Nat), e = .returned (.agg #[.bool b1, .int .i64 n1, .slice B2 m2 d2, .slice B3 m3 d3]) ∧ Mem w0 w' L ((.slice B2 m2 d2, ks1) :: S) ((.slice B3 m3 d3, rs1) :: R) := by
  have H2 : Sl Kd.string 9 w L (.slice A2 n2 c2) ks := hm.s _ h2
  have H3 : Sl k33 33 w L (.slice A3 n3 c3) rs := hm.r _ h3
  obtain rfl := H2.reads.1
  obtain rfl := H3.reads.1
  refine (transomref17_Insert.calls b n (Far L) A2 c2 ks (Far L) A3 c3 rs p key x y b1 n1 ks1 rs1 w H2 H3 hf).mono ?_
  rintro e w' ⟨v2, v3, rfl, g2, g3, hb⟩
  have G2 := Sl.ofV2 hm.st g2
  have G3 := Sl.ofV2 hm.st g3
  obtain ⟨B2, d2, rfl⟩ := G2.form
  obtain ⟨B3, d3, rfl⟩ := G3.form
  subst e2 e3
  exact ⟨B2, d2, B3, d3, rfl, ((hm.call hb).addR G3).addS G2⟩
theorem rremove_go {w0 w : World} {L : List Bx} {S : List (Value × List ByteArray)} {R : List (Value × List S33)} (hm : Mem w0 w L S R) {b b1 : Bool} {n n1 : Int} {A2 A3 : Option Addr} {n2 c2 n3 c3 : Nat} {ks ks1 : List ByteArray} {rs rs1 : List S33} (h2 : (.slice A2 n2 c2, ks) ∈ S) (h3 : (.slice A3 n3 c3, rs) ∈ R) (p : Int) (m2 m3 : Nat) (hf : transomref17_Remove.f b n ks rs p = some (b1, n1, ks1, rs1)) (e2 : ks1.length = m2) (e3 : rs1.length = m3) :
    Calls Try.prog 50 #[.agg #[.bool b, .int .i64 n, .slice A2 n2 c2, .slice A3 n3 c3], .int .i64 p] w fun e w' => ∃ (B2 : Option Addr) (d2 : Nat) (B3 : Option Addr) (d3 : Nat), e = .returned (.agg #[.bool b1, .int .i64 n1, .slice B2 m2 d2, .slice B3 m3 d3]) ∧ Mem w0 w' L ((.slice B2 m2 d2, ks1) :: S) ((.slice B3 m3 d3, rs1) :: R) := by
  have H2 : Sl Kd.string 9 w L (.slice A2 n2 c2) ks := hm.s _ h2
  have H3 : Sl k33 33 w L (.slice A3 n3 c3) rs := hm.r _ h3
  obtain rfl := H2.reads.1
  obtain rfl := H3.reads.1
  refine (transomref17_Remove.calls b n (Far L) A2 c2 ks (Far L) A3 c3 rs p b1 n1 ks1 rs1 w H2 H3 hf).mono ?_
  rintro e w' ⟨v2, v3, rfl, g2, g3, hb⟩
  have G2 := Sl.ofV2 hm.st g2
  have G3 := Sl.ofV2 hm.st g3
  obtain ⟨B2, d2, rfl⟩ := G2.form
  obtain ⟨B3, d3, rfl⟩ := G3.form
  subst e2 e3
  exact ⟨B2, d2, B3, d3, rfl, ((hm.call hb).addR G3).addS G2⟩
theorem few_go {w0 w : World} {L : List Bx} {S : List (Value × List ByteArray)} {R : List (Value × List S33)} (hm : Mem w0 w L S R) {b : Bool} {n : Int} {A2 A3 : Option Addr} {n2 c2 n3 c3 : Nat} {ks : List ByteArray} {rs : List S33} (h2 : (.slice A2 n2 c2, ks) ∈ S) (h3 : (.slice A3 n3 c3, rs) ∈ R) (i : Int) (k : Nat) (hf : transomlaw17_Few.f k b n ks rs = some i) :
    Calls Try.prog 31 #[.agg #[.bool b, .int .i64 n, .slice A2 n2 c2, .slice A3 n3 c3]] w fun e w' => e = .returned (.int .i64 i) ∧ Mem w0 w' L S R := by
  have H2 : Sl Kd.string 9 w L (.slice A2 n2 c2) ks := hm.s _ h2
  have H3 : Sl k33 33 w L (.slice A3 n3 c3) rs := hm.r _ h3
  obtain rfl := H2.reads.1
  obtain rfl := H3.reads.1
  refine (transomlaw17_Few.calls k b n A2 c2 ks A3 c3 rs i w H2.C H2.le H3.C H3.le hf).mono ?_
  rintro e w' ⟨rfl, hb⟩
  exact ⟨rfl, hm.call hb⟩
theorem rises_go {w0 w : World} {L : List Bx} {S : List (Value × List ByteArray)} {R : List (Value × List S33)} (hm : Mem w0 w L S R) {b : Bool} {n : Int} {A2 A3 : Option Addr} {n2 c2 n3 c3 : Nat} {ks : List ByteArray} {rs : List S33} (h2 : (.slice A2 n2 c2, ks) ∈ S) (h3 : (.slice A3 n3 c3, rs) ∈ R) (q : Bool) (k : Nat) (hf : transomlaw17_rises.f k b n ks rs = some q) :
    Calls Try.prog 37 #[.agg #[.bool b, .int .i64 n, .slice A2 n2 c2, .slice A3 n3 c3]] w fun e w' => e = .returned (.bool q) ∧ Mem w0 w' L S R := by
  have H2 : Sl Kd.string 9 w L (.slice A2 n2 c2) ks := hm.s _ h2
  have H3 : Sl k33 33 w L (.slice A3 n3 c3) rs := hm.r _ h3
  obtain rfl := H2.reads.1
  obtain rfl := H3.reads.1
  refine (transomlaw17_rises.calls k b n A2 c2 ks A3 c3 rs q w H2.C H2.le H3.C H3.le hf).mono ?_
  rintro e w' ⟨rfl, hb⟩
  exact ⟨rfl, hm.call hb⟩
theorem awake_go {w0 w : World} {L : List Bx} {S : List (Value × List ByteArray)} {R : List (Value × List S33)} (hm : Mem w0 w L S R) : Calls Try.prog 32 #[] w fun e w' => e = .returned (.bool true) ∧ Mem w0 w' L S R := by
  refine (transomlaw17_awake.calls true w rfl).mono ?_
  rintro e w' ⟨rfl, hb⟩
  exact ⟨rfl, hm.call hb⟩
theorem same_go {w0 w : World} {L : List Bx} {S : List (Value × List ByteArray)} {R : List (Value × List S33)} (hm : Mem w0 w L S R) {b : Bool} {n : Int} {A2 A3 A4 A5 : Option Addr} {n2 c2 n3 c3 n4 c4 n5 c5 : Nat} {ks : List ByteArray} {rs : List S33} (h2 : (.slice A2 n2 c2, ks) ∈ S) (h3 : (.slice A3 n3 c3, rs) ∈ R) (h4 : (.slice A4 n4 c4, ks) ∈ S) (h5 : (.slice A5 n5 c5, rs) ∈ R) (hn : ks.length ≤ 41) (hr : rs.length ≤ 41) :
    Calls Try.prog 46 #[.agg #[.bool b, .int .i64 n, .slice A2 n2 c2, .slice A3 n3 c3], .agg #[.bool b, .int .i64 n, .slice A4 n4 c4, .slice A5 n5 c5]] w fun e w' => e = .returned (.bool true) ∧ Mem w0 w' L S R := by
  have H2 : Sl Kd.string 9 w L (.slice A2 n2 c2) ks := hm.s _ h2
  have H3 : Sl k33 33 w L (.slice A3 n3 c3) rs := hm.r _ h3
  obtain rfl := H2.reads.1
  obtain rfl := H3.reads.1
  have H4 : Sl Kd.string 9 w L (.slice A4 n4 c4) ks := hm.s _ h4
  have H5 : Sl k33 33 w L (.slice A5 n5 c5) rs := hm.r _ h5
  obtain rfl := H4.reads.1
  obtain rfl := H5.reads.1
  refine (transomref17_Same.calls 100 b n A2 c2 ks A3 c3 rs b n A4 c4 ks A5 c5 rs true w H2.C H2.le H3.C H3.le H4.C H4.le H5.C H5.le (same_self b n ks rs (by omega) (by omega))).mono ?_
  rintro e w' ⟨rfl, hb⟩
  exact ⟨rfl, hm.call hb⟩
def TH (W : World) (gr g8 g10 g12 g15 : Nat) (b b1 b2 : Bool) (v v1 v2 dx dy : Int) (A2 A3 B2 B3 C2 C3 D2 D3 E2 E3 : Option Addr) (c2 c3 d2 d3 e2 e3 k2 k3 m2 m3 : Nat) (ks ks1 ks2 : List ByteArray) (rs rs1 rs2 : List S33) (w' : World) : Prop := w'.cell? ⟨W.heap.size, 0, none⟩ = some (.bool b) ∧ w'.cell? ⟨W.heap.size, 1, none⟩ = some (.int .i64 v) ∧ w'.cell? ⟨W.heap.size, 2, none⟩ = some (.slice A2 ks.length c2) ∧ w'.cell? ⟨W.heap.size, 3, none⟩ = some (.slice A3 rs.length c3) ∧ w'.cell? ⟨g8, 0, none⟩ = some (.bool b1) ∧ w'.cell? ⟨g8, 1, none⟩ = some (.int .i64 v1) ∧ w'.cell? ⟨g8, 2, none⟩ = some (.slice B2 ks1.length d2) ∧ w'.cell? ⟨g8, 3, none⟩ = some (.slice B3 rs1.length d3) ∧ w'.cell? ⟨g10, 0, none⟩ = some (.bool b1) ∧ w'.cell? ⟨g10, 1, none⟩ = some (.int .i64 v1) ∧ w'.cell? ⟨g10, 2, none⟩ = some (.slice C2 ks1.length e2) ∧ w'.cell? ⟨g10, 3, none⟩ = some (.slice C3 rs1.length e3) ∧ w'.cell? ⟨g12, 0, none⟩ = some (.bool b2) ∧ w'.cell? ⟨g12, 1, none⟩ = some (.int .i64 v2) ∧ w'.cell? ⟨g12, 2, none⟩ = some (.slice D2 ks2.length k2) ∧ w'.cell? ⟨g12, 3, none⟩ = some (.slice D3 rs2.length k3) ∧ w'.cell? ⟨g15, 0, none⟩ = some (.bool b2) ∧ w'.cell? ⟨g15, 1, none⟩ = some (.int .i64 v2) ∧ w'.cell? ⟨g15, 2, none⟩ = some (.slice E2 ks2.length m2) ∧ w'.cell? ⟨g15, 3, none⟩ = some (.slice E3 rs2.length m3) ∧ w'.cell? ⟨gr, 0, none⟩ = some (.int .i64 7) ∧ w'.cell? ⟨gr, 1, none⟩ = some (.int .i64 8) ∧ w'.cell? ⟨(g12 + 1), 0, none⟩ = some (.int .i64 dx) ∧ w'.cell? ⟨(g12 + 1), 1, none⟩ = some (.int .i64 dy) ∧ w'.cell? ⟨(g15 + 1), 0, none⟩ = some (.int .i64 dx) ∧ w'.cell? ⟨(g15 + 1), 1, none⟩ = some (.int .i64 dy) ∧ Mem W w' [(g15 + 1, 33, #[.int .i64 dx, .int .i64 dy]), (g15, 59, #[.bool b2, .int .i64 v2, .slice E2 ks2.length m2, .slice E3 rs2.length m3]), (g12 + 1, 33, #[.int .i64 dx, .int .i64 dy]), (g12, 59, #[.bool b2, .int .i64 v2, .slice D2 ks2.length k2, .slice D3 rs2.length k3]), (g10, 59, #[.bool b1, .int .i64 v1, .slice C2 ks1.length e2, .slice C3 rs1.length e3]), (g8, 59, #[.bool b1, .int .i64 v1, .slice B2 ks1.length d2, .slice B3 rs1.length d3]), (gr, 33, #[.int .i64 7, .int .i64 8]), (W.heap.size, 59, #[.bool b, .int .i64 v, .slice A2 ks.length c2, .slice A3 rs.length c3])] [(.slice E2 ks2.length m2, ks2), (.slice D2 ks2.length k2, ks2), (.slice C2 ks1.length e2, ks1), (.slice B2 ks1.length d2, ks1), (.slice A2 ks.length c2, ks)] [(.slice E3 rs2.length m3, rs2), (.slice D3 rs2.length k3, rs2), (.slice C3 rs1.length e3, rs1), (.slice B3 rs1.length d3, rs1), (.slice A3 rs.length c3, rs)]
theorem TH.of {W : World} {gr g8 g10 g12 g15 : Nat} {b b1 b2 : Bool} {v v1 v2 dx dy : Int} {A2 A3 B2 B3 C2 C3 D2 D3 E2 E3 : Option Addr} {c2 c3 d2 d3 e2 e3 k2 k3 m2 m3 : Nat} {ks ks1 ks2 : List ByteArray} {rs rs1 rs2 : List S33} {w' : World} (h : Mem W w' [(g15 + 1, 33, #[.int .i64 dx, .int .i64 dy]), (g15, 59, #[.bool b2, .int .i64 v2, .slice E2 ks2.length m2, .slice E3 rs2.length m3]), (g12 + 1, 33, #[.int .i64 dx, .int .i64 dy]), (g12, 59, #[.bool b2, .int .i64 v2, .slice D2 ks2.length k2, .slice D3 rs2.length k3]), (g10, 59, #[.bool b1, .int .i64 v1, .slice C2 ks1.length e2, .slice C3 rs1.length e3]), (g8, 59, #[.bool b1, .int .i64 v1, .slice B2 ks1.length d2, .slice B3 rs1.length d3]), (gr, 33, #[.int .i64 7, .int .i64 8]), (W.heap.size, 59, #[.bool b, .int .i64 v, .slice A2 ks.length c2, .slice A3 rs.length c3])] [(.slice E2 ks2.length m2, ks2), (.slice D2 ks2.length k2, ks2), (.slice C2 ks1.length e2, ks1), (.slice B2 ks1.length d2, ks1), (.slice A2 ks.length c2, ks)] [(.slice E3 rs2.length m3, rs2), (.slice D3 rs2.length k3, rs2), (.slice C3 rs1.length e3, rs1), (.slice B3 rs1.length d3, rs1), (.slice A3 rs.length c3, rs)]) : TH W gr g8 g10 g12 g15 b b1 b2 v v1 v2 dx dy A2 A3 B2 B3 C2 C3 D2 D3 E2 E3 c2 c3 d2 d3 e2 e3 k2 k3 m2 m3 ks ks1 ks2 rs rs1 rs2 w' :=
  ⟨h.cell W.heap.size 59 #[.bool b, .int .i64 v, .slice A2 ks.length c2, .slice A3 rs.length c3] (by simp) 0 rfl, h.cell W.heap.size 59 #[.bool b, .int .i64 v, .slice A2 ks.length c2, .slice A3 rs.length c3] (by simp) 1 rfl, h.cell W.heap.size 59 #[.bool b, .int .i64 v, .slice A2 ks.length c2, .slice A3 rs.length c3] (by simp) 2 rfl, h.cell W.heap.size 59 #[.bool b, .int .i64 v, .slice A2 ks.length c2, .slice A3 rs.length c3] (by simp) 3 rfl, h.cell g8 59 #[.bool b1, .int .i64 v1, .slice B2 ks1.length d2, .slice B3 rs1.length d3] (by simp) 0 rfl, h.cell g8 59 #[.bool b1, .int .i64 v1, .slice B2 ks1.length d2, .slice B3 rs1.length d3] (by simp) 1 rfl, h.cell g8 59 #[.bool b1, .int .i64 v1, .slice B2 ks1.length d2, .slice B3 rs1.length d3] (by simp) 2 rfl, h.cell g8 59 #[.bool b1, .int .i64 v1, .slice B2 ks1.length d2, .slice B3 rs1.length d3] (by simp) 3 rfl, h.cell g10 59 #[.bool b1, .int .i64 v1, .slice C2 ks1.length e2, .slice C3 rs1.length e3] (by simp) 0 rfl, h.cell g10 59 #[.bool b1, .int .i64 v1, .slice C2 ks1.length e2, .slice C3 rs1.length e3] (by simp) 1 rfl, h.cell g10 59 #[.bool b1, .int .i64 v1, .slice C2 ks1.length e2, .slice C3 rs1.length e3] (by simp) 2 rfl, h.cell g10 59 #[.bool b1, .int .i64 v1, .slice C2 ks1.length e2, .slice C3 rs1.length e3] (by simp) 3 rfl, h.cell g12 59 #[.bool b2, .int .i64 v2, .slice D2 ks2.length k2, .slice D3 rs2.length k3] (by simp) 0 rfl, h.cell g12 59 #[.bool b2, .int .i64 v2, .slice D2 ks2.length k2, .slice D3 rs2.length k3] (by simp) 1 rfl, h.cell g12 59 #[.bool b2, .int .i64 v2, .slice D2 ks2.length k2, .slice D3 rs2.length k3] (by simp) 2 rfl, h.cell g12 59 #[.bool b2, .int .i64 v2, .slice D2 ks2.length k2, .slice D3 rs2.length k3] (by simp) 3 rfl, h.cell g15 59 #[.bool b2, .int .i64 v2, .slice E2 ks2.length m2, .slice E3 rs2.length m3] (by simp) 0 rfl, h.cell g15 59 #[.bool b2, .int .i64 v2, .slice E2 ks2.length m2, .slice E3 rs2.length m3] (by simp) 1 rfl, h.cell g15 59 #[.bool b2, .int .i64 v2, .slice E2 ks2.length m2, .slice E3 rs2.length m3] (by simp) 2 rfl, h.cell g15 59 #[.bool b2, .int .i64 v2, .slice E2 ks2.length m2, .slice E3 rs2.length m3] (by simp) 3 rfl, h.cell gr 33 #[.int .i64 7, .int .i64 8] (by simp) 0 rfl, h.cell gr 33 #[.int .i64 7, .int .i64 8] (by simp) 1 rfl, h.cell (g12 + 1) 33 #[.int .i64 dx, .int .i64 dy] (by simp) 0 rfl, h.cell (g12 + 1) 33 #[.int .i64 dx, .int .i64 dy] (by simp) 1 rfl, h.cell (g15 + 1) 33 #[.int .i64 dx, .int .i64 dy] (by simp) 0 rfl, h.cell (g15 + 1) 33 #[.int .i64 dx, .int .i64 dy] (by simp) 1 rfl, h⟩
theorem TH.mem {W : World} {gr g8 g10 g12 g15 : Nat} {b b1 b2 : Bool} {v v1 v2 dx dy : Int} {A2 A3 B2 B3 C2 C3 D2 D3 E2 E3 : Option Addr} {c2 c3 d2 d3 e2 e3 k2 k3 m2 m3 : Nat} {ks ks1 ks2 : List ByteArray} {rs rs1 rs2 : List S33} {w' : World} (h : TH W gr g8 g10 g12 g15 b b1 b2 v v1 v2 dx dy A2 A3 B2 B3 C2 C3 D2 D3 E2 E3 c2 c3 d2 d3 e2 e3 k2 k3 m2 m3 ks ks1 ks2 rs rs1 rs2 w') : Mem W w' [(g15 + 1, 33, #[.int .i64 dx, .int .i64 dy]), (g15, 59, #[.bool b2, .int .i64 v2, .slice E2 ks2.length m2, .slice E3 rs2.length m3]), (g12 + 1, 33, #[.int .i64 dx, .int .i64 dy]), (g12, 59, #[.bool b2, .int .i64 v2, .slice D2 ks2.length k2, .slice D3 rs2.length k3]), (g10, 59, #[.bool b1, .int .i64 v1, .slice C2 ks1.length e2, .slice C3 rs1.length e3]), (g8, 59, #[.bool b1, .int .i64 v1, .slice B2 ks1.length d2, .slice B3 rs1.length d3]), (gr, 33, #[.int .i64 7, .int .i64 8]), (W.heap.size, 59, #[.bool b, .int .i64 v, .slice A2 ks.length c2, .slice A3 rs.length c3])] [(.slice E2 ks2.length m2, ks2), (.slice D2 ks2.length k2, ks2), (.slice C2 ks1.length e2, ks1), (.slice B2 ks1.length d2, ks1), (.slice A2 ks.length c2, ks)] [(.slice E3 rs2.length m3, rs2), (.slice D3 rs2.length k3, rs2), (.slice C3 rs1.length e3, rs1), (.slice B3 rs1.length d3, rs1), (.slice A3 rs.length c3, rs)] := h.2.2.2.2.2.2.2.2.2.2.2.2.2.2.2.2.2.2.2.2.2.2.2.2.2.2
theorem TH.drew {W : World} {gr g8 g10 g12 g15 : Nat} {b b1 b2 : Bool} {v v1 v2 dx dy : Int} {A2 A3 B2 B3 C2 C3 D2 D3 E2 E3 : Option Addr} {c2 c3 d2 d3 e2 e3 k2 k3 m2 m3 : Nat} {ks ks1 ks2 : List ByteArray} {rs rs1 rs2 : List S33} {w' : World} (h : TH W gr g8 g10 g12 g15 b b1 b2 v v1 v2 dx dy A2 A3 B2 B3 C2 C3 D2 D3 E2 E3 c2 c3 d2 d3 e2 e3 k2 k3 m2 m3 ks ks1 ks2 rs rs1 rs2 w') : TH W gr g8 g10 g12 g15 b b1 b2 v v1 v2 dx dy A2 A3 B2 B3 C2 C3 D2 D3 E2 E3 c2 c3 d2 d3 e2 e3 k2 k3 m2 m3 ks ks1 ks2 rs rs1 rs2 w'.drew := TH.of h.mem.drew
theorem TH.drewN {W : World} {gr g8 g10 g12 g15 : Nat} {b b1 b2 : Bool} {v v1 v2 dx dy : Int} {A2 A3 B2 B3 C2 C3 D2 D3 E2 E3 : Option Addr} {c2 c3 d2 d3 e2 e3 k2 k3 m2 m3 : Nat} {ks ks1 ks2 : List ByteArray} {rs rs1 rs2 : List S33} {w' : World} (h : TH W gr g8 g10 g12 g15 b b1 b2 v v1 v2 dx dy A2 A3 B2 B3 C2 C3 D2 D3 E2 E3 c2 c3 d2 d3 e2 e3 k2 k3 m2 m3 ks ks1 ks2 rs rs1 rs2 w') (n : Nat) : TH W gr g8 g10 g12 g15 b b1 b2 v v1 v2 dx dy A2 A3 B2 B3 C2 C3 D2 D3 E2 E3 c2 c3 d2 d3 e2 e3 k2 k3 m2 m3 ks ks1 ks2 rs rs1 rs2 (w'.drewN n) := TH.of (h.mem.drewN n)
theorem eq33 (x y : Int) (w : World) : (binOp .eql 33 (.agg #[.int .i64 x, .int .i64 y]) (.agg #[.int .i64 x, .int .i64 y])).run Try.prog w = .ok (.bool true) w := by
  have h : (Op.equal 33 (.agg #[.int .i64 x, .int .i64 y]) (.agg #[.int .i64 x, .int .i64 y])).run Try.prog w = .ok true w := (eqA33 (Op.maxDepth - 2) w x x y y).trans (by simp)
  simp [binOp, go_sem, h]
open Classical in
set_option maxHeartbeats 16000000 in
set_option maxRecDepth 100000 in
theorem turns_walk {A2 A3 : Option Addr} {c2 c3 : Nat} (b : Bool) (v : Int) (ks : List ByteArray) (rs : List S33) (key : ByteArray) (p : Int) (W : World) (l2 : ks.length ≤ c2) (C2 : Kd.C Kd.string W A2 ks.length ks) (l3 : rs.length ≤ c3) (C3 : Kd.C k33 W A3 rs.length rs) :
    Calls Try.prog 7 #[.agg #[.bool b, .int .i64 v, .slice A2 ks.length c2, .slice A3 rs.length c3], .string key, .int .i64 p] W fun e w' => e = .returned (.bool true) ∧ Below W.heap.size W w' := by
  obtain ⟨t, ht, hT⟩ := few_f b v ks rs
  have hu59 := Try.underlying59
  have hu33 := Try.underlying33
  have hu57 := Try.underlying57
  have hu31 := Try.underlying31
  have HM := Aside0.mk ((((Mem.start W).addS (Sl.came (e := 9) Kd.heap_string C2 l2)).addR (Sl.came (e := 33) k33_heap C3 l3)).alloc #[.bool b, .int .i64 v, .slice A2 ks.length c2, .slice A3 rs.length c3] 59)
  have HT := Aside0.mk ht
  clear C2 C3 l2 l3 ht
  rcases hT with rfl | ⟨rfl, hn, hr⟩
  · go_enter Try.func7, Try.ntmps7
    go_wp2_with (first
        | (go_at_call 31; refine (few_go HM.out (by simp) (by simp) _ 100 HT.out).mono ?_; rintro e1 w1 ⟨rfl, h1⟩
           obtain ⟨⟨x0, x1, x2, x3⟩, xz, xn⟩ := Mem.four h1 W.heap.size 59 (.bool b) (.int .i64 v) (.slice A2 ks.length c2) (.slice A3 rs.length c3) (by simp)
           have xz0 := xz 0
           have xz1 := xz 1
           have xz2 := xz 2
           have xz3 := xz 3
           clear xz
           obtain ⟨xa0, xa1, xa2, xa3, xaz⟩ := Mem.fourA h1 W.heap.size 59 (.bool b) (.int .i64 v) (.slice A2 ks.length c2) (.slice A3 rs.length c3) (by simp)
           have H1 := Aside0.mk h1
           clear h1)
        | (go_at_call 32; refine (awake_go H1.out).mono ?_; rintro e1 w9 ⟨rfl, h1⟩
           have H9 := Aside0.mk h1
           clear h1))
    exact bodyPost_ret (v := .bool true) (by simp [results, Try.results7, go_sem]) rfl ⟨rfl, H9.out.st.bel⟩
  · by_cases hk : (key.size : Int) > 500
    · have hk1 : decide (500 < (key.size : Int)) = true := decide_eq_true hk
      have hk2 : decide (500 < key.size) = true := decide_eq_true (by omega)
      clear hk
      go_enter Try.func7, Try.ntmps7
      go_wp2_with (first
          | (go_at_call 31; refine (few_go HM.out (by simp) (by simp) _ 100 HT.out).mono ?_; rintro e1 w1 ⟨rfl, h1⟩
             obtain ⟨⟨x0, x1, x2, x3⟩, xz, xn⟩ := Mem.four h1 W.heap.size 59 (.bool b) (.int .i64 v) (.slice A2 ks.length c2) (.slice A3 rs.length c3) (by simp)
             have xz0 := xz 0
             have xz1 := xz 1
             have xz2 := xz 2
             have xz3 := xz 3
             clear xz
             obtain ⟨xa0, xa1, xa2, xa3, xaz⟩ := Mem.fourA h1 W.heap.size 59 (.bool b) (.int .i64 v) (.slice A2 ks.length c2) (.slice A3 rs.length c3) (by simp)
             have H1 := Aside0.mk h1
             clear h1)
          | (go_at_call 32; refine (awake_go H1.out).mono ?_; rintro e1 w9 ⟨rfl, h1⟩
             have H9 := Aside0.mk h1
             clear h1))
      exact bodyPost_ret (v := .bool true) (by simp [results, Try.results7, go_sem]) rfl ⟨rfl, H9.out.st.bel⟩
    · have hk1 : decide (500 < (key.size : Int)) = false := decide_eq_false hk
      have hk2 : decide (500 < key.size) = false := decide_eq_false (by omega)
      clear hk
      have HR := Aside0.mk (rises_f b v ks rs hn 100 (by omega))
      by_cases hR : RiseB ks 1
      · have HR := Aside0.mk (show transomlaw17_rises.f 100 b v ks rs = some true by rw [HR.out, decide_eq_true hR])
        by_cases hv : v > 1152921504606846976
        · have hv1 : decide (1152921504606846976 < v) = true := decide_eq_true hv
          clear hR hv
          go_enter Try.func7, Try.ntmps7
          go_wp2_with (first
              | (go_at_call 31; refine (few_go HM.out (by simp) (by simp) _ 100 HT.out).mono ?_; rintro e1 w1 ⟨rfl, h1⟩
                 obtain ⟨⟨x0, x1, x2, x3⟩, xz, xn⟩ := Mem.four h1 W.heap.size 59 (.bool b) (.int .i64 v) (.slice A2 ks.length c2) (.slice A3 rs.length c3) (by simp)
                 have xz0 := xz 0
                 have xz1 := xz 1
                 have xz2 := xz 2
                 have xz3 := xz 3
                 clear xz
                 obtain ⟨xa0, xa1, xa2, xa3, xaz⟩ := Mem.fourA h1 W.heap.size 59 (.bool b) (.int .i64 v) (.slice A2 ks.length c2) (.slice A3 rs.length c3) (by simp)
                 have H1 := Aside0.mk h1
                 clear h1)
              | (go_at_call 37; refine (rises_go H1.out (by simp) (by simp) _ 100 HR.out).mono ?_; rintro e1 w2 ⟨rfl, h1⟩
                 obtain ⟨⟨y0, y1, y2, y3⟩, yz, yn⟩ := Mem.four h1 W.heap.size 59 (.bool b) (.int .i64 v) (.slice A2 ks.length c2) (.slice A3 rs.length c3) (by simp)
                 have yz0 := yz 0
                 have yz1 := yz 1
                 have yz2 := yz 2
                 have yz3 := yz 3
                 clear yz
                 obtain ⟨ya0, ya1, ya2, ya3, yaz⟩ := Mem.fourA h1 W.heap.size 59 (.bool b) (.int .i64 v) (.slice A2 ks.length c2) (.slice A3 rs.length c3) (by simp)
                 have H2 := Aside0.mk h1
                 clear h1)
              | (go_at_call 32; refine (awake_go H2.out).mono ?_; rintro e1 w9 ⟨rfl, h1⟩
                 have H9 := Aside0.mk h1
                 clear h1))
          exact bodyPost_ret (v := .bool true) (by simp [results, Try.results7, go_sem]) rfl ⟨rfl, H9.out.st.bel⟩
        · have hv1 : decide (1152921504606846976 < v) = false := decide_eq_false hv
          obtain ⟨b1, v1, ks1, rs1, f1, P1, P2, P3, P4⟩ := put_both b v ks rs key 7 8 hn hr hR
          obtain ⟨b2, v2, ks2, rs2, dx, dy, f2, D1, D2, D3, D4⟩ := delete_both b v ks rs key hn hr hR
          obtain ⟨b3, v3, ks3, rs3, I1, I2, I3, I4⟩ := insert_both b v ks rs p key 7 8 hn hr
          obtain ⟨b4, v4, ks4, rs4, R1, R2, R3, R4⟩ := remove_both b v ks rs p hn hr
          have HP := Aside0.mk (And.intro P1 (And.intro P2 (And.intro P3 P4)))
          have HD := Aside0.mk (And.intro D1 (And.intro D2 (And.intro D3 D4)))
          have HI := Aside0.mk (And.intro I1 (And.intro I2 (And.intro I3 I4)))
          have HE := Aside0.mk (And.intro R1 (And.intro R2 (And.intro R3 R4)))
          clear P1 P2 P3 P4 D1 D2 D3 D4 I1 I2 I3 I4 R1 R2 R3 R4 hR hv hn hr
          go_enter Try.func7, Try.ntmps7
          go_upto_region 4 with (first
              | (go_at_call 31; refine (few_go HM.out (by simp) (by simp) _ 100 HT.out).mono ?_; rintro e1 w1 ⟨rfl, h1⟩
                 obtain ⟨⟨x0, x1, x2, x3⟩, xz, xn⟩ := Mem.four h1 W.heap.size 59 (.bool b) (.int .i64 v) (.slice A2 ks.length c2) (.slice A3 rs.length c3) (by simp)
                 have xz0 := xz 0
                 have xz1 := xz 1
                 have xz2 := xz 2
                 have xz3 := xz 3
                 clear xz
                 obtain ⟨xa0, xa1, xa2, xa3, xaz⟩ := Mem.fourA h1 W.heap.size 59 (.bool b) (.int .i64 v) (.slice A2 ks.length c2) (.slice A3 rs.length c3) (by simp)
                 have H1 := Aside0.mk h1
                 clear h1)
              | (go_at_call 37; refine (rises_go H1.out (by simp) (by simp) _ 100 HR.out).mono ?_; rintro e1 w2 ⟨rfl, h1⟩
                 obtain ⟨⟨y0, y1, y2, y3⟩, yz, yn⟩ := Mem.four h1 W.heap.size 59 (.bool b) (.int .i64 v) (.slice A2 ks.length c2) (.slice A3 rs.length c3) (by simp)
                 have yz0 := yz 0
                 have yz1 := yz 1
                 have yz2 := yz 2
                 have yz3 := yz 3
                 clear yz
                 obtain ⟨ya0, ya1, ya2, ya3, yaz⟩ := Mem.fourA h1 W.heap.size 59 (.bool b) (.int .i64 v) (.slice A2 ks.length c2) (.slice A3 rs.length c3) (by simp)
                 have H2 := Aside0.mk h1
                 clear h1))
          obtain ⟨u, hu, HV⟩ : ∃ u, u = _ ∧ Mem W u [(w2.heap.size, 33, #[.int .i64 7, .int .i64 8]), (W.heap.size, 59, #[.bool b, .int .i64 v, .slice A2 ks.length c2, .slice A3 rs.length c3])] _ _ := ⟨_, rfl, H2.out.alloc #[.int .i64 7, .int .i64 8] 33⟩
          rw [← hu]
          clear hu
          generalize w2.heap.size = gr at HV ⊢
          clear H1 H2 HM x0 x1 x2 x3 xn xz0 xz1 xz2 xz3 xa0 xa1 xa2 xa3 xaz y0 y1 y2 y3 yn yz0 yz1 yz2 yz3 ya0 ya1 ya2 ya3 yaz
          have HM := Aside0.mk HV
          clear HV
          obtain ⟨⟨y0, y1, y2, y3⟩, yz, yn⟩ := Mem.four HM.out W.heap.size 59 (.bool b) (.int .i64 v) (.slice A2 ks.length c2) (.slice A3 rs.length c3) (by simp)
          have yz0 := yz 0
          have yz1 := yz 1
          have yz2 := yz 2
          have yz3 := yz 3
          clear yz
          obtain ⟨ya0, ya1, ya2, ya3, yaz⟩ := Mem.fourA HM.out W.heap.size 59 (.bool b) (.int .i64 v) (.slice A2 ks.length c2) (.slice A3 rs.length c3) (by simp)
          have yr0 := Mem.cell HM.out gr 33 #[.int .i64 7, .int .i64 8] (by simp) 0 rfl
          have yr1 := Mem.cell HM.out gr 33 #[.int .i64 7, .int .i64 8] (by simp) 1 rfl
          go_upto_region 5 with (first
              | (go_at_call 42; refine (put_go HM.out (by simp) (by simp) key 7 8 f1 ks1.length rs1.length 100 HP.out.1 rfl rfl).mono ?_; rintro e1 w3 ⟨B2, d2, B3, d3, rfl, h1⟩
                 have H1 := Aside0.mk h1
                 clear h1))
          obtain ⟨u, hu, HV⟩ : ∃ u, u = _ ∧ Mem W u ((w3.heap.size, 59, #[.bool b1, .int .i64 v1, .slice B2 ks1.length d2, .slice B3 rs1.length d3]) :: _) _ _ := ⟨_, rfl, H1.out.alloc #[.bool b1, .int .i64 v1, .slice B2 ks1.length d2, .slice B3 rs1.length d3] 59⟩
          rw [← hu]
          clear hu
          generalize w3.heap.size = g8 at HV ⊢
          clear H1 HM y0 y1 y2 y3 yn yz0 yz1 yz2 yz3 ya0 ya1 ya2 ya3 yaz yr0 yr1
          have HM := Aside0.mk HV
          clear HV
          obtain ⟨⟨y0, y1, y2, y3⟩, yz, yn⟩ := Mem.four HM.out W.heap.size 59 (.bool b) (.int .i64 v) (.slice A2 ks.length c2) (.slice A3 rs.length c3) (by simp)
          have yz0 := yz 0
          have yz1 := yz 1
          have yz2 := yz 2
          have yz3 := yz 3
          clear yz
          obtain ⟨ya0, ya1, ya2, ya3, yaz⟩ := Mem.fourA HM.out W.heap.size 59 (.bool b) (.int .i64 v) (.slice A2 ks.length c2) (.slice A3 rs.length c3) (by simp)
          have yr0 := Mem.cell HM.out gr 33 #[.int .i64 7, .int .i64 8] (by simp) 0 rfl
          have yr1 := Mem.cell HM.out gr 33 #[.int .i64 7, .int .i64 8] (by simp) 1 rfl
          go_upto_region 6 with (first
              | (go_at_call 43; refine (rput_go HM.out (by simp) (by simp) key 7 8 f1 ks1.length rs1.length 100 HP.out.2.1 rfl rfl).mono ?_; rintro e1 w3 ⟨C2, e2, C3, e3, rfl, h1⟩
                 have H1 := Aside0.mk h1
                 clear h1))
          obtain ⟨u, hu, HV⟩ : ∃ u, u = _ ∧ Mem W u ((w3.heap.size, 59, #[.bool b1, .int .i64 v1, .slice C2 ks1.length e2, .slice C3 rs1.length e3]) :: _) _ _ := ⟨_, rfl, H1.out.alloc #[.bool b1, .int .i64 v1, .slice C2 ks1.length e2, .slice C3 rs1.length e3] 59⟩
          rw [← hu]
          clear hu
          generalize w3.heap.size = g10 at HV ⊢
          clear H1 HM y0 y1 y2 y3 yn yz0 yz1 yz2 yz3 ya0 ya1 ya2 ya3 yaz yr0 yr1
          have HM := Aside0.mk HV
          clear HV
          obtain ⟨⟨y0, y1, y2, y3⟩, yz, yn⟩ := Mem.four HM.out W.heap.size 59 (.bool b) (.int .i64 v) (.slice A2 ks.length c2) (.slice A3 rs.length c3) (by simp)
          have yz0 := yz 0
          have yz1 := yz 1
          have yz2 := yz 2
          have yz3 := yz 3
          clear yz
          obtain ⟨ya0, ya1, ya2, ya3, yaz⟩ := Mem.fourA HM.out W.heap.size 59 (.bool b) (.int .i64 v) (.slice A2 ks.length c2) (.slice A3 rs.length c3) (by simp)
          have yr0 := Mem.cell HM.out gr 33 #[.int .i64 7, .int .i64 8] (by simp) 0 rfl
          have yr1 := Mem.cell HM.out gr 33 #[.int .i64 7, .int .i64 8] (by simp) 1 rfl
          go_upto_region 7 with (first
              | (go_at_call 44; refine (delete_go HM.out (by simp) (by simp) key dx dy f2 ks2.length rs2.length 100 HD.out.1 rfl rfl).mono ?_; rintro e1 w3 ⟨D2, k2, D3, k3, rfl, h1⟩
                 have H1 := Aside0.mk h1
                 clear h1))
          obtain ⟨u, hu, HV⟩ : ∃ u, u = _ ∧ Mem W u ((w3.heap.size + 1, 33, #[.int .i64 dx, .int .i64 dy]) :: (w3.heap.size, 59, #[.bool b2, .int .i64 v2, .slice D2 ks2.length k2, .slice D3 rs2.length k3]) :: _) _ _ := ⟨_, rfl, H1.out.alloc2 #[.bool b2, .int .i64 v2, .slice D2 ks2.length k2, .slice D3 rs2.length k3] #[.int .i64 dx, .int .i64 dy] 59 33⟩
          rw [← hu]
          clear hu
          generalize w3.heap.size = g12 at HV ⊢
          clear H1 HM y0 y1 y2 y3 yn yz0 yz1 yz2 yz3 ya0 ya1 ya2 ya3 yaz yr0 yr1
          have HM := Aside0.mk HV
          clear HV
          obtain ⟨⟨y0, y1, y2, y3⟩, yz, yn⟩ := Mem.four HM.out W.heap.size 59 (.bool b) (.int .i64 v) (.slice A2 ks.length c2) (.slice A3 rs.length c3) (by simp)
          have yz0 := yz 0
          have yz1 := yz 1
          have yz2 := yz 2
          have yz3 := yz 3
          clear yz
          obtain ⟨ya0, ya1, ya2, ya3, yaz⟩ := Mem.fourA HM.out W.heap.size 59 (.bool b) (.int .i64 v) (.slice A2 ks.length c2) (.slice A3 rs.length c3) (by simp)
          have yr0 := Mem.cell HM.out gr 33 #[.int .i64 7, .int .i64 8] (by simp) 0 rfl
          have yr1 := Mem.cell HM.out gr 33 #[.int .i64 7, .int .i64 8] (by simp) 1 rfl
          go_upto_region 8 with (first
              | (go_at_call 45; refine (rdelete_go HM.out (by simp) (by simp) key dx dy f2 ks2.length rs2.length 100 HD.out.2.1 rfl rfl).mono ?_; rintro e1 w3 ⟨E2, m2, E3, m3, rfl, h1⟩
                 have H1 := Aside0.mk h1
                 clear h1))
          obtain ⟨u, hu, HV⟩ : ∃ u, u = _ ∧ Mem W u ((w3.heap.size + 1, 33, #[.int .i64 dx, .int .i64 dy]) :: (w3.heap.size, 59, #[.bool b2, .int .i64 v2, .slice E2 ks2.length m2, .slice E3 rs2.length m3]) :: _) _ _ := ⟨_, rfl, H1.out.alloc2 #[.bool b2, .int .i64 v2, .slice E2 ks2.length m2, .slice E3 rs2.length m3] #[.int .i64 dx, .int .i64 dy] 59 33⟩
          rw [← hu]
          clear hu
          generalize w3.heap.size = g15 at HV ⊢
          clear H1 HM y0 y1 y2 y3 yn yz0 yz1 yz2 yz3 ya0 ya1 ya2 ya3 yaz yr0 yr1
          have HM := Aside0.mk HV
          clear HV
          have t0 := TH.of HM.out
          have hee := eq33 dx dy
          go_region_held3 (fun w' => w'.cell? ⟨W.heap.size, 0, none⟩ = some (.bool b) ∧ w'.cell? ⟨W.heap.size, 1, none⟩ = some (.int .i64 v) ∧ w'.cell? ⟨W.heap.size, 2, none⟩ = some (.slice A2 ks.length c2) ∧ w'.cell? ⟨W.heap.size, 3, none⟩ = some (.slice A3 rs.length c3) ∧ w'.cell? ⟨g8, 0, none⟩ = some (.bool b1) ∧ w'.cell? ⟨g8, 1, none⟩ = some (.int .i64 v1) ∧ w'.cell? ⟨g8, 2, none⟩ = some (.slice B2 ks1.length d2) ∧ w'.cell? ⟨g8, 3, none⟩ = some (.slice B3 rs1.length d3) ∧ w'.cell? ⟨g10, 0, none⟩ = some (.bool b1) ∧ w'.cell? ⟨g10, 1, none⟩ = some (.int .i64 v1) ∧ w'.cell? ⟨g10, 2, none⟩ = some (.slice C2 ks1.length e2) ∧ w'.cell? ⟨g10, 3, none⟩ = some (.slice C3 rs1.length e3) ∧ w'.cell? ⟨g12, 0, none⟩ = some (.bool b2) ∧ w'.cell? ⟨g12, 1, none⟩ = some (.int .i64 v2) ∧ w'.cell? ⟨g12, 2, none⟩ = some (.slice D2 ks2.length k2) ∧ w'.cell? ⟨g12, 3, none⟩ = some (.slice D3 rs2.length k3) ∧ w'.cell? ⟨g15, 0, none⟩ = some (.bool b2) ∧ w'.cell? ⟨g15, 1, none⟩ = some (.int .i64 v2) ∧ w'.cell? ⟨g15, 2, none⟩ = some (.slice E2 ks2.length m2) ∧ w'.cell? ⟨g15, 3, none⟩ = some (.slice E3 rs2.length m3) ∧ w'.cell? ⟨gr, 0, none⟩ = some (.int .i64 7) ∧ w'.cell? ⟨gr, 1, none⟩ = some (.int .i64 8) ∧ w'.cell? ⟨(g12 + 1), 0, none⟩ = some (.int .i64 dx) ∧ w'.cell? ⟨(g12 + 1), 1, none⟩ = some (.int .i64 dy) ∧ w'.cell? ⟨(g15 + 1), 0, none⟩ = some (.int .i64 dx) ∧ w'.cell? ⟨(g15 + 1), 1, none⟩ = some (.int .i64 dy) ∧ Mem W w' [(g15 + 1, 33, #[.int .i64 dx, .int .i64 dy]), (g15, 59, #[.bool b2, .int .i64 v2, .slice E2 ks2.length m2, .slice E3 rs2.length m3]), (g12 + 1, 33, #[.int .i64 dx, .int .i64 dy]), (g12, 59, #[.bool b2, .int .i64 v2, .slice D2 ks2.length k2, .slice D3 rs2.length k3]), (g10, 59, #[.bool b1, .int .i64 v1, .slice C2 ks1.length e2, .slice C3 rs1.length e3]), (g8, 59, #[.bool b1, .int .i64 v1, .slice B2 ks1.length d2, .slice B3 rs1.length d3]), (gr, 33, #[.int .i64 7, .int .i64 8]), (W.heap.size, 59, #[.bool b, .int .i64 v, .slice A2 ks.length c2, .slice A3 rs.length c3])] [(.slice E2 ks2.length m2, ks2), (.slice D2 ks2.length k2, ks2), (.slice C2 ks1.length e2, ks1), (.slice B2 ks1.length d2, ks1), (.slice A2 ks.length c2, ks)] [(.slice E3 rs2.length m3, rs2), (.slice D3 rs2.length k3, rs2), (.slice C3 rs1.length e3, rs1), (.slice B3 rs1.length d3, rs1), (.slice A3 rs.length c3, rs)])
            (first | (show TH W gr g8 g10 g12 g15 b b1 b2 v v1 v2 dx dy A2 A3 B2 B3 C2 C3 D2 D3 E2 E3 c2 c3 d2 d3 e2 e3 k2 k3 m2 m3 ks ks1 ks2 rs rs1 rs2 _; first | with_reducible exact t12 | with_reducible exact t12.drewN _ | with_reducible exact t12.drew | with_reducible exact t11 | with_reducible exact t11.drewN _ | with_reducible exact t11.drew | with_reducible exact t10 | with_reducible exact t10.drewN _ | with_reducible exact t10.drew | with_reducible exact t9 | with_reducible exact t9.drewN _ | with_reducible exact t9.drew | with_reducible exact t8 | with_reducible exact t8.drewN _ | with_reducible exact t8.drew | with_reducible exact t7 | with_reducible exact t7.drewN _ | with_reducible exact t7.drew | with_reducible exact t6 | with_reducible exact t6.drewN _ | with_reducible exact t6.drew | with_reducible exact t5 | with_reducible exact t5.drewN _ | with_reducible exact t5.drew | with_reducible exact t4 | with_reducible exact t4.drewN _ | with_reducible exact t4.drew | with_reducible exact t0 | with_reducible exact t0.drewN _ | with_reducible exact t0.drew))
            (first
              | (go_at_call 46; (with_reducible show Calls Try.prog 46 #[.agg #[.bool b1, .int .i64 v1, .slice B2 _ _, _], _] _ _); refine (same_go (b := b1) (n := v1) (ks := ks1) (rs := rs1) (by first | with_reducible exact t11.mem | with_reducible exact t11.mem.drewN _ | with_reducible exact t11.mem.drew | with_reducible exact t10.mem | with_reducible exact t10.mem.drewN _ | with_reducible exact t10.mem.drew | with_reducible exact t9.mem | with_reducible exact t9.mem.drewN _ | with_reducible exact t9.mem.drew | with_reducible exact t8.mem | with_reducible exact t8.mem.drewN _ | with_reducible exact t8.mem.drew | with_reducible exact t7.mem | with_reducible exact t7.mem.drewN _ | with_reducible exact t7.mem.drew | with_reducible exact t6.mem | with_reducible exact t6.mem.drewN _ | with_reducible exact t6.mem.drew | with_reducible exact t5.mem | with_reducible exact t5.mem.drewN _ | with_reducible exact t5.mem.drew | with_reducible exact t4.mem | with_reducible exact t4.mem.drewN _ | with_reducible exact t4.mem.drew | with_reducible exact t0.mem | with_reducible exact t0.mem.drewN _ | with_reducible exact t0.mem.drew) (by simp) (by simp) (by simp) (by simp) HP.out.2.2.1 HP.out.2.2.2).mono ?_; rintro e4 w4 ⟨rfl, h4⟩
                 have t4 := TH.of h4)
              | (go_at_call 46; (with_reducible show Calls Try.prog 46 #[.agg #[.bool b2, .int .i64 v2, .slice D2 _ _, _], _] _ _); refine (same_go (b := b2) (n := v2) (ks := ks2) (rs := rs2) (by first | with_reducible exact t11.mem | with_reducible exact t11.mem.drewN _ | with_reducible exact t11.mem.drew | with_reducible exact t10.mem | with_reducible exact t10.mem.drewN _ | with_reducible exact t10.mem.drew | with_reducible exact t9.mem | with_reducible exact t9.mem.drewN _ | with_reducible exact t9.mem.drew | with_reducible exact t8.mem | with_reducible exact t8.mem.drewN _ | with_reducible exact t8.mem.drew | with_reducible exact t7.mem | with_reducible exact t7.mem.drewN _ | with_reducible exact t7.mem.drew | with_reducible exact t6.mem | with_reducible exact t6.mem.drewN _ | with_reducible exact t6.mem.drew | with_reducible exact t5.mem | with_reducible exact t5.mem.drewN _ | with_reducible exact t5.mem.drew | with_reducible exact t4.mem | with_reducible exact t4.mem.drewN _ | with_reducible exact t4.mem.drew | with_reducible exact t0.mem | with_reducible exact t0.mem.drewN _ | with_reducible exact t0.mem.drew) (by simp) (by simp) (by simp) (by simp) HD.out.2.2.1 HD.out.2.2.2).mono ?_; rintro e5 w5 ⟨rfl, h5⟩
                 have t5 := TH.of h5)
              | (go_at_call 47; refine (insert_go (ks := ks) (rs := rs) (by first | with_reducible exact t11.mem | with_reducible exact t11.mem.drewN _ | with_reducible exact t11.mem.drew | with_reducible exact t10.mem | with_reducible exact t10.mem.drewN _ | with_reducible exact t10.mem.drew | with_reducible exact t9.mem | with_reducible exact t9.mem.drewN _ | with_reducible exact t9.mem.drew | with_reducible exact t8.mem | with_reducible exact t8.mem.drewN _ | with_reducible exact t8.mem.drew | with_reducible exact t7.mem | with_reducible exact t7.mem.drewN _ | with_reducible exact t7.mem.drew | with_reducible exact t6.mem | with_reducible exact t6.mem.drewN _ | with_reducible exact t6.mem.drew | with_reducible exact t5.mem | with_reducible exact t5.mem.drewN _ | with_reducible exact t5.mem.drew | with_reducible exact t4.mem | with_reducible exact t4.mem.drewN _ | with_reducible exact t4.mem.drew | with_reducible exact t0.mem | with_reducible exact t0.mem.drewN _ | with_reducible exact t0.mem.drew) (by simp) (by simp) p key 7 8 ks3.length rs3.length HI.out.1 rfl rfl).mono ?_; rintro e6 w6 ⟨X2, q2, X3, q3, rfl, h6⟩
                 have t6 := TH.of (h6.drop (List.Sublist.refl _) (by simp) (by simp))
                 have HX := Aside0.mk h6
                 clear h6)
              | (go_at_call 48; refine (rinsert_go (ks := ks) (rs := rs) (by first | with_reducible exact HX.out | with_reducible exact HX.out.drew | with_reducible exact HX.out.drewN _) (by simp) (by simp) p key 7 8 ks3.length rs3.length HI.out.2.1 rfl rfl).mono ?_; rintro e7 w7 ⟨Y2, r2, Y3, r3, rfl, h7⟩
                 have t7 := TH.of (h7.drop (List.Sublist.refl _) (by simp) (by simp))
                 have HY := Aside0.mk h7
                 clear h7)
              | (go_at_call 46; (with_reducible show Calls Try.prog 46 #[.agg #[.bool b3, .int .i64 v3, .slice X2 _ _, _], _] _ _); refine (same_go (b := b3) (n := v3) (ks := ks3) (rs := rs3) (by first | with_reducible exact HY.out | with_reducible exact HY.out.drew | with_reducible exact HY.out.drewN _) (by simp) (by simp) (by simp) (by simp) HI.out.2.2.1 HI.out.2.2.2).mono ?_; rintro e8 w8 ⟨rfl, h8⟩
                 have t8 := TH.of (h8.drop (List.Sublist.refl _) (by simp) (by simp))
                 clear h8)
              | (go_at_call 49; refine (remove_go (ks := ks) (rs := rs) (by first | with_reducible exact t11.mem | with_reducible exact t11.mem.drewN _ | with_reducible exact t11.mem.drew | with_reducible exact t10.mem | with_reducible exact t10.mem.drewN _ | with_reducible exact t10.mem.drew | with_reducible exact t9.mem | with_reducible exact t9.mem.drewN _ | with_reducible exact t9.mem.drew | with_reducible exact t8.mem | with_reducible exact t8.mem.drewN _ | with_reducible exact t8.mem.drew | with_reducible exact t7.mem | with_reducible exact t7.mem.drewN _ | with_reducible exact t7.mem.drew | with_reducible exact t6.mem | with_reducible exact t6.mem.drewN _ | with_reducible exact t6.mem.drew | with_reducible exact t5.mem | with_reducible exact t5.mem.drewN _ | with_reducible exact t5.mem.drew | with_reducible exact t4.mem | with_reducible exact t4.mem.drewN _ | with_reducible exact t4.mem.drew | with_reducible exact t0.mem | with_reducible exact t0.mem.drewN _ | with_reducible exact t0.mem.drew) (by simp) (by simp) p ks4.length rs4.length HE.out.1 rfl rfl).mono ?_; rintro e9 w9 ⟨U2, s2, U3, s3, rfl, h9⟩
                 have t9 := TH.of (h9.drop (List.Sublist.refl _) (by simp) (by simp))
                 have HU := Aside0.mk h9
                 clear h9)
              | (go_at_call 50; refine (rremove_go (ks := ks) (rs := rs) (by first | with_reducible exact HU.out | with_reducible exact HU.out.drew | with_reducible exact HU.out.drewN _) (by simp) (by simp) p ks4.length rs4.length HE.out.2.1 rfl rfl).mono ?_; rintro e10 w10 ⟨V2, z2, V3, z3, rfl, h10⟩
                 have t10 := TH.of (h10.drop (List.Sublist.refl _) (by simp) (by simp))
                 have HZ := Aside0.mk h10
                 clear h10)
              | (go_at_call 46; (with_reducible show Calls Try.prog 46 #[.agg #[.bool b4, .int .i64 v4, .slice U2 _ _, _], _] _ _); refine (same_go (b := b4) (n := v4) (ks := ks4) (rs := rs4) (by first | with_reducible exact HZ.out | with_reducible exact HZ.out.drew | with_reducible exact HZ.out.drewN _) (by simp) (by simp) (by simp) (by simp) HE.out.2.2.1 HE.out.2.2.2).mono ?_; rintro e11 w11 ⟨rfl, h11⟩
                 have t11 := TH.of (h11.drop (List.Sublist.refl _) (by simp) (by simp))
                 clear h11)
              | (go_at_call 32; refine (awake_go (by first | with_reducible exact t11.mem | with_reducible exact t11.mem.drewN _ | with_reducible exact t11.mem.drew | with_reducible exact t10.mem | with_reducible exact t10.mem.drewN _ | with_reducible exact t10.mem.drew | with_reducible exact t9.mem | with_reducible exact t9.mem.drewN _ | with_reducible exact t9.mem.drew | with_reducible exact t8.mem | with_reducible exact t8.mem.drewN _ | with_reducible exact t8.mem.drew | with_reducible exact t7.mem | with_reducible exact t7.mem.drewN _ | with_reducible exact t7.mem.drew | with_reducible exact t6.mem | with_reducible exact t6.mem.drewN _ | with_reducible exact t6.mem.drew | with_reducible exact t5.mem | with_reducible exact t5.mem.drewN _ | with_reducible exact t5.mem.drew | with_reducible exact t4.mem | with_reducible exact t4.mem.drewN _ | with_reducible exact t4.mem.drew | with_reducible exact t0.mem | with_reducible exact t0.mem.drewN _ | with_reducible exact t0.mem.drew)).mono ?_; rintro e12 w12 ⟨rfl, h12⟩
                 have t12 := TH.of h12))
          go_wp2_with fail
          exact bodyPost_ret (v := .bool true) (by simp [results, Try.results7, go_sem]) rfl ⟨rfl, (by first | exact t12.mem.st.bel | exact (t12.mem.drewN _).st.bel | exact t12.mem.drew.st.bel)⟩
      · have HR := Aside0.mk (show transomlaw17_rises.f 100 b v ks rs = some false by rw [HR.out, decide_eq_false hR])
        clear hR
        go_enter Try.func7, Try.ntmps7
        go_wp2_with (first
            | (go_at_call 31; refine (few_go HM.out (by simp) (by simp) _ 100 HT.out).mono ?_; rintro e1 w1 ⟨rfl, h1⟩
               obtain ⟨⟨x0, x1, x2, x3⟩, xz, xn⟩ := Mem.four h1 W.heap.size 59 (.bool b) (.int .i64 v) (.slice A2 ks.length c2) (.slice A3 rs.length c3) (by simp)
               have xz0 := xz 0
               have xz1 := xz 1
               have xz2 := xz 2
               have xz3 := xz 3
               clear xz
               obtain ⟨xa0, xa1, xa2, xa3, xaz⟩ := Mem.fourA h1 W.heap.size 59 (.bool b) (.int .i64 v) (.slice A2 ks.length c2) (.slice A3 rs.length c3) (by simp)
               have H1 := Aside0.mk h1
               clear h1)
            | (go_at_call 37; refine (rises_go H1.out (by simp) (by simp) _ 100 HR.out).mono ?_; rintro e1 w2 ⟨rfl, h1⟩
               obtain ⟨⟨y0, y1, y2, y3⟩, yz, yn⟩ := Mem.four h1 W.heap.size 59 (.bool b) (.int .i64 v) (.slice A2 ks.length c2) (.slice A3 rs.length c3) (by simp)
               have yz0 := yz 0
               have yz1 := yz 1
               have yz2 := yz 2
               have yz3 := yz 3
               clear yz
               obtain ⟨ya0, ya1, ya2, ya3, yaz⟩ := Mem.fourA h1 W.heap.size 59 (.bool b) (.int .i64 v) (.slice A2 ks.length c2) (.slice A3 rs.length c3) (by simp)
               have H2 := Aside0.mk h1
               clear h1)
            | (go_at_call 32; refine (awake_go H2.out).mono ?_; rintro e1 w9 ⟨rfl, h1⟩
               have H9 := Aside0.mk h1
               clear h1))
        exact bodyPost_ret (v := .bool true) (by simp [results, Try.results7, go_sem]) rfl ⟨rfl, H9.out.st.bel⟩

end Go.Proofs.Ytglbcfkmaamhaaa.PNode
