/- A text of this claim; no condition. -/
-- WALKS of Node: by print.py over stand-ins for what it does not take, and my own blocks (mp.py). Lean checks them.
import Derived.Test.YtglbcfkmaamhaaaBQNodex7
import Derived.Test.YtglbcfkmaamhaaaBQNodex6
import Derived.Test.YtglbcfkmaamhaaaBQNodex8a
import Derived.Test.YtglbcfkmaamhaaaBQNodex5
import Derived.Test.YtglbcfkmaamhaaaBQNodex0
import Derived.Test.YtglbcfkmaamhaaaBQNodex2
import Derived.Test.YtglbcfkmaamhaaaBQNodex3
import Derived.Test.YtglbcfkmaamhaaaBQNodex9Ja
namespace Go.Proofs.Ytglbcfkmaamhaaa.PNode
open Go.RowKit Go.Proofs.YtglbcfkmaamhaaaW.PrintWords Go.Proofs.YtglbcfkmaamhaaaW.PrintLast Go.Proofs.YtglbcfkmaamhaaaW.PrintMore
attribute [local go_sem] max2_int min2_int max_two min_two max_three min_three max_four min_four Less.str_leq Less.str_gtr Less.str_geq   -- for this text's walks alone
set_option linter.unusedVariables false
set_option linter.unusedSimpArgs false

/-! ### transomlaw17_awake: function 32 -/
open Go Go.Proofs.Ytglbcfkmaamhaaa.Stk

structure Mem (w0 w : World) (L : List Bx) (S : List (Value × List ByteArray)) (R : List (Value × List S33)) : Prop where
 st : St w0 w L
 s : ∀ p ∈ S, Sl Kd.string 9 w L p.1 p.2
 r : ∀ p ∈ R, Sl k33 33 w L p.1 p.2
namespace Mem
variable {w0 w w1 : World} {L L' : List Bx} {S S' : List (Value × List ByteArray)} {R R' : List (Value × List S33)} {g t : Nat} {cs : Array Value}
theorem start (w : World) : Mem w w [] [] [] := ⟨St.start w, by simp, by simp⟩
theorem alloc (h : Mem w0 w L S R) (cs : Array Value) (t : Nat) : Mem w0 (w.alloc (.cells cs t)) ((w.heap.size, t, cs) :: L) S R := ⟨h.st.alloc cs t, fun p hp => (h.s p hp).alloc cs t, fun p hp => (h.r p hp).alloc cs t⟩
theorem put (h : Mem w0 w ((g, t, cs) :: L) S R) (i : Nat) (u : Value) : Mem w0 (w.setCell ⟨g, i, none⟩ u) ((g, t, cs.setIfInBounds i u) :: L) S R := ⟨h.st.put i u, fun p hp => (h.s p hp).put i u, fun p hp => (h.r p hp).put i u⟩
theorem perm (h : Mem w0 w L S R) (hp : L'.Perm L) : Mem w0 w L' S R := ⟨h.st.perm hp, fun p hm => (h.s p hm).perm hp, fun p hm => (h.r p hm).perm hp⟩
theorem drop (h : Mem w0 w L S R) (hp : L'.Sublist L) (hS : ∀ p ∈ S', p ∈ S) (hR : ∀ p ∈ R', p ∈ R) : Mem w0 w L' S' R' := ⟨h.st.drop hp, fun p hm => (h.s p (hS p hm)).drop hp, fun p hm => (h.r p (hR p hm)).drop hp⟩
theorem call (h : Mem w0 w L S R) (hb : Below w.heap.size w w1) : Mem w0 w1 L S R := ⟨h.st.call hb, fun p hm => (h.s p hm).call hb, fun p hm => (h.r p hm).call hb⟩
theorem drew (h : Mem w0 w L S R) : Mem w0 w.drew L S R := ⟨h.st.drew, fun p hm => (h.s p hm).drew, fun p hm => (h.r p hm).drew⟩
theorem drewN (h : Mem w0 w L S R) (n : Nat) : Mem w0 (w.drewN n) L S R := ⟨h.st.drewN n, fun p hm => (h.s p hm).drewN n, fun p hm => (h.r p hm).drewN n⟩
theorem addS (h : Mem w0 w L S R) {v : Value} {xs : List ByteArray} (hv : Sl Kd.string 9 w L v xs) : Mem w0 w L ((v, xs) :: S) R := ⟨h.st, fun p hm => by rcases List.mem_cons.1 hm with rfl | hm; exact hv; exact h.s p hm, h.r⟩
theorem addR (h : Mem w0 w L S R) {v : Value} {xs : List S33} (hv : Sl k33 33 w L v xs) : Mem w0 w L S ((v, xs) :: R) := ⟨h.st, h.s, fun p hm => by rcases List.mem_cons.1 hm with rfl | hm; exact hv; exact h.r p hm⟩
theorem addNil (h : Mem w0 w L S R) : Mem w0 w L ((.slice none 0 0, []) :: S) ((.slice none 0 0, []) :: R) := (h.addS (Sl.nil _ _ _ _)).addR (Sl.nil _ _ _ _)
theorem set4 (h : Mem w0 w ((g, t, cs) :: L) S R) (hz : cs.size = 4) (a b c d : Value) : Mem w0 ((((w.setCell ⟨g, 0, none⟩ a).setCell ⟨g, 1, none⟩ b).setCell ⟨g, 2, none⟩ c).setCell ⟨g, 3, none⟩ d) ((g, t, #[a, b, c, d]) :: L) S R := by
 have h1 := (((h.put 0 a).put 1 b).put 2 c).put 3 d
 have e : (((cs.setIfInBounds 0 a).setIfInBounds 1 b).setIfInBounds 2 c).setIfInBounds 3 d = #[a, b, c, d] := by
  apply Array.ext
  ·simp [hz]
  ·intro i h1 h2
   have h3 : i < 4 := by simpa using h2
   have : i = 0 ∨ i = 1 ∨ i = 2 ∨ i = 3 := by omega
   rcases this with rfl | rfl | rfl | rfl <;> simp [Array.getElem_setIfInBounds, hz]
 rw [e] at h1
 exact h1
theorem cell (h : Mem w0 w L S R) (g t : Nat) (cs : Array Value) (hm : (g, t, cs) ∈ L) (i : Nat) {v : Value} (hv : cs[i]? = some v) : w.cell? ⟨g, i, none⟩ = some v := h.st.cell hm i hv
theorem frozen (h : Mem w0 w L S R) (g t : Nat) (cs : Array Value) (hm : (g, t, cs) ∈ L) (i : Nat) : w.frozen? ⟨g, i, none⟩ = false := h.st.frozen hm i
theorem four (h : Mem w0 w L S R) (g t : Nat) (a b c d : Value) (hm : (g, t, #[a, b, c, d]) ∈ L) : (w.cell? ⟨g, 0, none⟩ = some a ∧ w.cell? ⟨g, 1, none⟩ = some b ∧ w.cell? ⟨g, 2, none⟩ = some c ∧ w.cell? ⟨g, 3, none⟩ = some d) ∧ (∀ i, w.frozen? ⟨g, i, none⟩ = false) ∧ ¬ g = w.heap.size :=
 ⟨⟨h.cell g t _ hm 0 rfl, h.cell g t _ hm 1 rfl, h.cell g t _ hm 2 rfl, h.cell g t _ hm 3 rfl⟩, h.frozen g t _ hm, h.st.ne hm⟩
theorem fourA (h : Mem w0 w L S R) (g t : Nat) (a b c d : Value) (hm : (g, t, #[a, b, c, d]) ∈ L) : (∀ o, (w.alloc o).cell? ⟨g, 0, none⟩ = some a) ∧ (∀ o, (w.alloc o).cell? ⟨g, 1, none⟩ = some b) ∧ (∀ o, (w.alloc o).cell? ⟨g, 2, none⟩ = some c) ∧ (∀ o, (w.alloc o).cell? ⟨g, 3, none⟩ = some d) ∧ (∀ i o, (w.alloc o).frozen? ⟨g, i, none⟩ = false) :=
 ⟨fun o => (blk_cell (blk_alloc (h.st.box _ hm) o) 0).trans rfl, fun o => (blk_cell (blk_alloc (h.st.box _ hm) o) 1).trans rfl, fun o => (blk_cell (blk_alloc (h.st.box _ hm) o) 2).trans rfl, fun o => (blk_cell (blk_alloc (h.st.box _ hm) o) 3).trans rfl, fun i o => blk_frozen (blk_alloc (h.st.box _ hm) o) i⟩
theorem alloc2 (h : Mem w0 w L S R) (A B : Array Value) (t u : Nat) : Mem w0 ((w.alloc (.cells A t)).alloc (.cells B u)) ((w.heap.size + 1, u, B) :: (w.heap.size, t, A) :: L) S R := by
 have h1 := (h.alloc A t).alloc B u
 rw [show (w.alloc (.cells A t)).heap.size = w.heap.size + 1 by simp] at h1
 exact h1
theorem lit1 (h : Mem w0 w L S R) (x y : Int) : Mem w0 (w.alloc (.cells #[.int .i64 x, .int .i64 y] 33)) L S ((.slice (some ⟨w.heap.size, 0, none⟩) 1 1, [⟨x, y⟩]) :: R) := by
 have hb : Below w.heap.size w (w.alloc (.cells #[.int .i64 x, .int .i64 y] 33)) := below_alloc (Below.refl _ _) _
 have hr : k33.R 33 (w.alloc (.cells #[.int .i64 x, .int .i64 y] 33)) w.heap.size (fun _ => True) (.slice (some ⟨w.heap.size, 0, none⟩) 1 1) [⟨x, y⟩] :=
  ⟨fun _ _ => trivial, [.int .i64 x, .int .i64 y], ⟨rfl, .inr ⟨w.heap.size, 1, _, rfl, Nat.le_refl _, blk_new w _, Nat.le_refl _, by simp [maxLen], rfl, rfl⟩⟩, rfl, fun j p hj => by
   cases j with
   | zero =>
    obtain rfl : (⟨x, y⟩ : S33) = p := by simpa using hj
    exact k33_mkM _ _ _ ⟨x, y⟩
   | succ j => simp at hj⟩
 exact (h.call hb).addR (Sl.ofR h.st hr)
/-- A string of a row that is read. -/
theorem str (h : Mem w0 w L S R) {A : Option Addr} {n c : Nat} {xs : List ByteArray} (hm : (.slice A n c, xs) ∈ S) (i : Nat) (hi : i < n) (x : ByteArray) (hx : xs[i]? = some x) : ∃ ad, A = some ad ∧ w.cell? (ad.add i) = some (.string x) ∧ ∀ o, (w.alloc o).cell? (ad.add i) = some (.string x) := by
 have hs : Sl Kd.string 9 w L (.slice A n c) xs := h.s _ hm
 obtain ⟨hl, _, hC⟩ := hs.reads
 obtain ⟨ad, ea, hc⟩ := hC.2.2 (by omega)
 obtain ⟨cs, h1, h2, h3⟩ := hc i x hx
 have e : cs = [.string x] := h2
 subst e
 have h4 : w.cell? (ad.add i) = some (.string x) := by
  have := h3 0 (.string x) rfl
  simpa [Kd.string, Kd.scalar] using this
 exact ⟨ad, ea, h4, fun o => (pw_cell_below (below_alloc (Below.refl w.heap.size w) o) h4)⟩
theorem ne (h : Mem w0 w L S R) (g t : Nat) (cs : Array Value) (hm : (g, t, cs) ∈ L) : ¬ g = w.heap.size := h.st.ne hm
end Mem
theorem put_go {w0 w : World} {L : List Bx} {S : List (Value × List ByteArray)} {R : List (Value × List S33)} (hm : Mem w0 w L S R) {b b1 : Bool} {n n1 : Int} {A2 A3 : Option Addr} {n2 c2 n3 c3 : Nat} {ks ks1 : List ByteArray} {rs rs1 : List S33} (h2 : (.slice A2 n2 c2, ks) ∈ S) (h3 : (.slice A3 n3 c3, rs) ∈ R) (key : ByteArray) (x y : Int) (fl : Bool) (m2 m3 : Nat) (k : Nat) (hf : node_Put.f k b n ks rs key x y = some (b1, n1, ks1, rs1, fl)) (e2 : ks1.length = m2) (e3 : rs1.length = m3) :
  Calls Try.prog 42 #[.agg #[.bool b, .int .i64 n, .slice A2 n2 c2, .slice A3 n3 c3], .string key, .agg #[.int .i64 x, .int .i64 y]] w fun e w' => ∃ (B2 : Option Addr) (d2 : Nat) (B3 : Option Addr) (d3 : Nat), e = .returned (.tuple #[.agg #[.bool b1, .int .i64 n1, .slice B2 m2 d2, .slice B3 m3 d3], .bool fl]) ∧ Mem w0 w' L ((.slice B2 m2 d2, ks1) :: S) ((.slice B3 m3 d3, rs1) :: R) := by
 have H2 : Sl Kd.string 9 w L (.slice A2 n2 c2) ks := hm.s _ h2
 have H3 : Sl k33 33 w L (.slice A3 n3 c3) rs := hm.r _ h3
 obtain rfl := H2.reads.1
 obtain rfl := H3.reads.1
 refine (node_Put.calls k b n (Far L) A2 c2 ks (Far L) A3 c3 rs key x y b1 n1 ks1 rs1 fl w H2 H3 hf).mono ?_
 rintro e w' ⟨v2, v3, rfl, g2, g3, hb⟩
 have G2 := Sl.ofV2 hm.st g2
 have G3 := Sl.ofV2 hm.st g3
 obtain ⟨B2, d2, rfl⟩ := G2.form
 obtain ⟨B3, d3, rfl⟩ := G3.form
 subst e2 e3
 exact ⟨B2, d2, B3, d3, rfl, ((hm.call hb).addR G3).addS G2⟩
theorem delete_go {w0 w : World} {L : List Bx} {S : List (Value × List ByteArray)} {R : List (Value × List S33)} (hm : Mem w0 w L S R) {b b1 : Bool} {n n1 : Int} {A2 A3 : Option Addr} {n2 c2 n3 c3 : Nat} {ks ks1 : List ByteArray} {rs rs1 : List S33} (h2 : (.slice A2 n2 c2, ks) ∈ S) (h3 : (.slice A3 n3 c3, rs) ∈ R) (key : ByteArray) (x y : Int) (fl : Bool) (m2 m3 : Nat) (k : Nat) (hf : node_Delete.f k b n ks rs key = some (b1, n1, ks1, rs1, x, y, fl)) (e2 : ks1.length = m2) (e3 : rs1.length = m3) :
  Calls Try.prog 44 #[.agg #[.bool b, .int .i64 n, .slice A2 n2 c2, .slice A3 n3 c3], .string key] w fun e w' => ∃ (B2 : Option Addr) (d2 : Nat) (B3 : Option Addr) (d3 : Nat), e = .returned (.tuple #[.agg #[.bool b1, .int .i64 n1, .slice B2 m2 d2, .slice B3 m3 d3], .agg #[.int .i64 x, .int .i64 y], .bool fl]) ∧ Mem w0 w' L ((.slice B2 m2 d2, ks1) :: S) ((.slice B3 m3 d3, rs1) :: R) := by
 have H2 : Sl Kd.string 9 w L (.slice A2 n2 c2) ks := hm.s _ h2
 have H3 : Sl k33 33 w L (.slice A3 n3 c3) rs := hm.r _ h3
 obtain rfl := H2.reads.1
 obtain rfl := H3.reads.1
 refine (node_Delete.calls k b n (Far L) A2 c2 ks (Far L) A3 c3 rs key b1 n1 ks1 rs1 x y fl w H2 H3 hf).mono ?_
 rintro e w' ⟨v2, v3, rfl, g2, g3, hb⟩
 have G2 := Sl.ofV2 hm.st g2
 have G3 := Sl.ofV2 hm.st g3
 obtain ⟨B2, d2, rfl⟩ := G2.form
 obtain ⟨B3, d3, rfl⟩ := G3.form
 subst e2 e3
 exact ⟨B2, d2, B3, d3, rfl, ((hm.call hb).addR G3).addS G2⟩
theorem insert_go {w0 w : World} {L : List Bx} {S : List (Value × List ByteArray)} {R : List (Value × List S33)} (hm : Mem w0 w L S R) {b b1 : Bool} {n n1 : Int} {A2 A3 : Option Addr} {n2 c2 n3 c3 : Nat} {ks ks1 : List ByteArray} {rs rs1 : List S33} (h2 : (.slice A2 n2 c2, ks) ∈ S) (h3 : (.slice A3 n3 c3, rs) ∈ R) (p : Int) (key : ByteArray) (x y : Int) (m2 m3 : Nat) (hf : node_Insert.f b n ks rs p key x y = some (b1, n1, ks1, rs1)) (e2 : ks1.length = m2) (e3 : rs1.length = m3) :
  Calls Try.prog 47 #[.agg #[.bool b, .int .i64 n, .slice A2 n2 c2, .slice A3 n3 c3], .int .i64 p, .string key, .agg #[.int .i64 x, .int .i64 y]] w fun e w' => ∃ (B2 : Option Addr) (d2 : Nat) (B3 : Option Addr) (d3 : Nat), e = .returned (.agg #[.bool b1, .int .i64 n1, .slice B2 m2 d2, .slice B3 m3 d3]) ∧ Mem w0 w' L ((.slice B2 m2 d2, ks1) :: S) ((.slice B3 m3 d3, rs1) :: R) := by
 have H2 : Sl Kd.string 9 w L (.slice A2 n2 c2) ks := hm.s _ h2
 have H3 : Sl k33 33 w L (.slice A3 n3 c3) rs := hm.r _ h3
 obtain rfl := H2.reads.1
 obtain rfl := H3.reads.1
 refine (node_Insert.calls b n (Far L) A2 c2 ks (Far L) A3 c3 rs p key x y b1 n1 ks1 rs1 w H2 H3 hf).mono ?_
 rintro e w' ⟨v2, v3, rfl, g2, g3, hb⟩
 have G2 := Sl.ofV2 hm.st g2
 have G3 := Sl.ofV2 hm.st g3
 obtain ⟨B2, d2, rfl⟩ := G2.form
 obtain ⟨B3, d3, rfl⟩ := G3.form
 subst e2 e3
 exact ⟨B2, d2, B3, d3, rfl, ((hm.call hb).addR G3).addS G2⟩
theorem remove_go {w0 w : World} {L : List Bx} {S : List (Value × List ByteArray)} {R : List (Value × List S33)} (hm : Mem w0 w L S R) {b b1 : Bool} {n n1 : Int} {A2 A3 : Option Addr} {n2 c2 n3 c3 : Nat} {ks ks1 : List ByteArray} {rs rs1 : List S33} (h2 : (.slice A2 n2 c2, ks) ∈ S) (h3 : (.slice A3 n3 c3, rs) ∈ R) (p : Int) (m2 m3 : Nat) (hf : node_Remove.f b n ks rs p = some (b1, n1, ks1, rs1)) (e2 : ks1.length = m2) (e3 : rs1.length = m3) :
  Calls Try.prog 49 #[.agg #[.bool b, .int .i64 n, .slice A2 n2 c2, .slice A3 n3 c3], .int .i64 p] w fun e w' => ∃ (B2 : Option Addr) (d2 : Nat) (B3 : Option Addr) (d3 : Nat), e = .returned (.agg #[.bool b1, .int .i64 n1, .slice B2 m2 d2, .slice B3 m3 d3]) ∧ Mem w0 w' L ((.slice B2 m2 d2, ks1) :: S) ((.slice B3 m3 d3, rs1) :: R) := by
 have H2 : Sl Kd.string 9 w L (.slice A2 n2 c2) ks := hm.s _ h2
 have H3 : Sl k33 33 w L (.slice A3 n3 c3) rs := hm.r _ h3
 obtain rfl := H2.reads.1
 obtain rfl := H3.reads.1
 refine (node_Remove.calls b n (Far L) A2 c2 ks (Far L) A3 c3 rs p b1 n1 ks1 rs1 w H2 H3 hf).mono ?_
 rintro e w' ⟨v2, v3, rfl, g2, g3, hb⟩
 have G2 := Sl.ofV2 hm.st g2
 have G3 := Sl.ofV2 hm.st g3
 obtain ⟨B2, d2, rfl⟩ := G2.form
 obtain ⟨B3, d3, rfl⟩ := G3.form
 subst e2 e3
 exact ⟨B2, d2, B3, d3, rfl, ((hm.call hb).addR G3).addS G2⟩
theorem join_go {w0 w : World} {L : List Bx} {S : List (Value × List ByteArray)} {R : List (Value × List S33)} (hm : Mem w0 w L S R) {b b1 : Bool} {n n1 : Int} {A2 A3 : Option Addr} {n2 c2 n3 c3 : Nat} {ks ks1 : List ByteArray} {rs rs1 : List S33} (h2 : (.slice A2 n2 c2, ks) ∈ S) (h3 : (.slice A3 n3 c3, rs) ∈ R) (hb : b = true) (key : ByteArray) {bb : Bool} {nn : Int} {A4 A5 : Option Addr} {n4 c4 n5 c5 : Nat} {ks2 : List ByteArray} {rs2 : List S33} (h4 : (.slice A4 n4 c4, ks2) ∈ S) (h5 : (.slice A5 n5 c5, rs2) ∈ R) (m2 m3 : Nat) (k : Nat) (hf : node_Join.f k b n ks rs key bb nn ks2 rs2 = some (b1, n1, ks1, rs1)) (e2 : ks1.length = m2) (e3 : rs1.length = m3) :
  Calls Try.prog 53 #[.agg #[.bool b, .int .i64 n, .slice A2 n2 c2, .slice A3 n3 c3], .string key, .agg #[.bool bb, .int .i64 nn, .slice A4 n4 c4, .slice A5 n5 c5]] w fun e w' => ∃ (B2 : Option Addr) (d2 : Nat) (B3 : Option Addr) (d3 : Nat), e = .returned (.agg #[.bool b1, .int .i64 n1, .slice B2 m2 d2, .slice B3 m3 d3]) ∧ Mem w0 w' L ((.slice B2 m2 d2, ks1) :: S) ((.slice B3 m3 d3, rs1) :: R) := by
 have H2 : Sl Kd.string 9 w L (.slice A2 n2 c2) ks := hm.s _ h2
 have H3 : Sl k33 33 w L (.slice A3 n3 c3) rs := hm.r _ h3
 obtain rfl := H2.reads.1
 obtain rfl := H3.reads.1
 have H4 : Sl Kd.string 9 w L (.slice A4 n4 c4) ks2 := hm.s _ h4
 have H5 : Sl k33 33 w L (.slice A5 n5 c5) rs2 := hm.r _ h5
 obtain rfl := H4.reads.1
 obtain rfl := H5.reads.1
 refine (node_Join.callsL k b n (Far L) A2 c2 ks (Far L) A3 c3 rs key bb nn A4 c4 ks2 A5 c5 rs2 b1 n1 ks1 rs1 w H2 H3 H4.C H4.le H5.C H5.le hf ⟨hb⟩).mono ?_
 rintro e w' ⟨v2, v3, rfl, g2, g3, hb⟩
 have G2 := Sl.ofV2 hm.st g2
 have G3 := Sl.ofV2 hm.st g3
 obtain ⟨B2, d2, rfl⟩ := G2.form
 obtain ⟨B3, d3, rfl⟩ := G3.form
 subst e2 e3
 exact ⟨B2, d2, B3, d3, rfl, ((hm.call hb).addR G3).addS G2⟩
theorem split_go {w0 w : World} {L : List Bx} {S : List (Value × List ByteArray)} {R : List (Value × List S33)} (hm : Mem w0 w L S R) {b b1 b2 : Bool} (hb : b = true) {n n1 nn : Int} {A2 A3 : Option Addr} {n2 c2 n3 c3 : Nat} {ks ks1 ks2 : List ByteArray} {rs rs1 rs2 : List S33} (h2 : (.slice A2 n2 c2, ks) ∈ S) (h3 : (.slice A3 n3 c3, rs) ∈ R) (key : ByteArray) (m2 m3 m4 m5 : Nat) (k : Nat) (hf : node_Split.f k b n ks rs = some (b1, n1, ks1, rs1, key, b2, nn, ks2, rs2)) (e2 : ks1.length = m2) (e3 : rs1.length = m3) (e4 : ks2.length = m4) (e5 : rs2.length = m5) :
  Calls Try.prog 51 #[.agg #[.bool b, .int .i64 n, .slice A2 n2 c2, .slice A3 n3 c3]] w fun e w' => ∃ (B2 : Option Addr) (d2 : Nat) (B3 : Option Addr) (d3 : Nat) (B4 : Option Addr) (d4 : Nat) (B5 : Option Addr) (d5 : Nat), e = .returned (.tuple #[.agg #[.bool b1, .int .i64 n1, .slice B2 m2 d2, .slice B3 m3 d3], .string key, .agg #[.bool b2, .int .i64 nn, .slice B4 m4 d4, .slice B5 m5 d5]]) ∧ Mem w0 w' L ((.slice B2 m2 d2, ks1) :: (.slice B4 m4 d4, ks2) :: S) ((.slice B3 m3 d3, rs1) :: (.slice B5 m5 d5, rs2) :: R) := by
 have H2 : Sl Kd.string 9 w L (.slice A2 n2 c2) ks := hm.s _ h2
 have H3 : Sl k33 33 w L (.slice A3 n3 c3) rs := hm.r _ h3
 obtain rfl := H2.reads.1
 obtain rfl := H3.reads.1
 refine (node_Split.callsL k b n (Far L) A2 c2 ks (Far L) A3 c3 rs b1 n1 ks1 rs1 key b2 nn ks2 rs2 w H2 H3 hf ⟨hb⟩).mono ?_
 rintro e w' ⟨v2, v3, v4, v5, rfl, g2, g3, g4, g5, hb⟩
 have G2 := Sl.ofV2 hm.st (Kd.V_mono g2 (fun k hk => hk.1))
 have G3 := Sl.ofV2 hm.st (Kd.V_mono g3 (fun k hk => hk.1))
 have G4 := Sl.ofR hm.st g4
 have G5 := Sl.ofR hm.st g5
 obtain ⟨B2, d2, rfl⟩ := G2.form
 obtain ⟨B3, d3, rfl⟩ := G3.form
 obtain ⟨B4, d4, rfl⟩ := G4.form
 obtain ⟨B5, d5, rfl⟩ := G5.form
 subst e2 e3 e4 e5
 exact ⟨B2, d2, B3, d3, B4, d4, B5, d5, rfl, ((((hm.call hb).addR G5).addR G3).addS G4).addS G2⟩
theorem find_go {w0 w : World} {L : List Bx} {S : List (Value × List ByteArray)} {R : List (Value × List S33)} (hm : Mem w0 w L S R) {b : Bool} {n : Int} {A2 A3 : Option Addr} {n2 c2 n3 c3 : Nat} {ks : List ByteArray} {rs : List S33} (h2 : (.slice A2 n2 c2, ks) ∈ S) (h3 : (.slice A3 n3 c3, rs) ∈ R) (key : ByteArray) (i : Int) (q : Bool) (k : Nat) (hf : node_Find.f k b n ks rs key = some (i, q)) :
  Calls Try.prog 38 #[.agg #[.bool b, .int .i64 n, .slice A2 n2 c2, .slice A3 n3 c3], .string key] w fun e w' => e = .returned (.tuple #[.int .i64 i, .bool q]) ∧ Mem w0 w' L S R := by
 have H2 : Sl Kd.string 9 w L (.slice A2 n2 c2) ks := hm.s _ h2
 have H3 : Sl k33 33 w L (.slice A3 n3 c3) rs := hm.r _ h3
 obtain rfl := H2.reads.1
 obtain rfl := H3.reads.1
 refine (node_Find.calls k b n A2 c2 ks A3 c3 rs key i q w H2.C H2.le H3.C H3.le hf).mono ?_
 rintro e w' ⟨rfl, hb⟩
 exact ⟨rfl, hm.call hb⟩
theorem size_go {w0 w : World} {L : List Bx} {S : List (Value × List ByteArray)} {R : List (Value × List S33)} (hm : Mem w0 w L S R) {b : Bool} {n : Int} {A2 A3 : Option Addr} {n2 c2 n3 c3 : Nat} {ks : List ByteArray} {rs : List S33} (h2 : (.slice A2 n2 c2, ks) ∈ S) (h3 : (.slice A3 n3 c3, rs) ∈ R)  (i : Int) (hf : node_Size.f b n ks rs = some i) :
  Calls Try.prog 35 #[.agg #[.bool b, .int .i64 n, .slice A2 n2 c2, .slice A3 n3 c3]] w fun e w' => e = .returned (.int .i64 i) ∧ Mem w0 w' L S R := by
 have H2 : Sl Kd.string 9 w L (.slice A2 n2 c2) ks := hm.s _ h2
 have H3 : Sl k33 33 w L (.slice A3 n3 c3) rs := hm.r _ h3
 obtain rfl := H2.reads.1
 obtain rfl := H3.reads.1
 refine (node_Size.calls b n A2 c2 ks A3 c3 rs  i w H2.C H2.le H3.C H3.le hf).mono ?_
 rintro e w' ⟨rfl, hb⟩
 exact ⟨rfl, hm.call hb⟩
theorem child_go {w0 w : World} {L : List Bx} {S : List (Value × List ByteArray)} {R : List (Value × List S33)} (hm : Mem w0 w L S R) {b : Bool} {n : Int} {A2 A3 : Option Addr} {n2 c2 n3 c3 : Nat} {ks : List ByteArray} {rs : List S33} (h2 : (.slice A2 n2 c2, ks) ∈ S) (h3 : (.slice A3 n3 c3, rs) ∈ R) (key : ByteArray) (i : Int) (k : Nat) (hf : node_Child.f k b n ks rs key = some i) :
  Calls Try.prog 40 #[.agg #[.bool b, .int .i64 n, .slice A2 n2 c2, .slice A3 n3 c3], .string key] w fun e w' => e = .returned (.int .i64 i) ∧ Mem w0 w' L S R := by
 have H2 : Sl Kd.string 9 w L (.slice A2 n2 c2) ks := hm.s _ h2
 have H3 : Sl k33 33 w L (.slice A3 n3 c3) rs := hm.r _ h3
 obtain rfl := H2.reads.1
 obtain rfl := H3.reads.1
 refine (node_Child.calls k b n A2 c2 ks A3 c3 rs key i w H2.C H2.le H3.C H3.le hf).mono ?_
 rintro e w' ⟨rfl, hb⟩
 exact ⟨rfl, hm.call hb⟩
theorem check_go {w0 w : World} {L : List Bx} {S : List (Value × List ByteArray)} {R : List (Value × List S33)} (hm : Mem w0 w L S R) {b : Bool} {n : Int} {A2 A3 : Option Addr} {n2 c2 n3 c3 : Nat} {ks : List ByteArray} {rs : List S33} (h2 : (.slice A2 n2 c2, ks) ∈ S) (h3 : (.slice A3 n3 c3, rs) ∈ R)  (q : Bool) (k : Nat) (hf : node_Check.f k b n ks rs = some q) :
  Calls Try.prog 33 #[.agg #[.bool b, .int .i64 n, .slice A2 n2 c2, .slice A3 n3 c3]] w fun e w' => e = .returned (.bool q) ∧ Mem w0 w' L S R := by
 have H2 : Sl Kd.string 9 w L (.slice A2 n2 c2) ks := hm.s _ h2
 have H3 : Sl k33 33 w L (.slice A3 n3 c3) rs := hm.r _ h3
 obtain rfl := H2.reads.1
 obtain rfl := H3.reads.1
 refine (node_Check.calls k b n A2 c2 ks A3 c3 rs  q w H2.C H2.le H3.C H3.le hf).mono ?_
 rintro e w' ⟨rfl, hb⟩
 exact ⟨rfl, hm.call hb⟩
theorem aw_put0 : node_Put.f 50 true 0 [] [] ⟨#[99]⟩ 0 0 = some (true, 1, [⟨#[99]⟩], [⟨0, 0⟩], true) := by kernel_rfl
theorem aw_put1 : node_Put.f 50 true 1 [⟨#[99]⟩] [⟨0, 0⟩] ⟨#[97]⟩ 1 0 = some (true, 2, [⟨#[97]⟩, ⟨#[99]⟩], [⟨1, 0⟩, ⟨0, 0⟩], true) := by kernel_rfl
theorem aw_put2 : node_Put.f 50 true 2 [⟨#[97]⟩, ⟨#[99]⟩] [⟨1, 0⟩, ⟨0, 0⟩] ⟨#[101]⟩ 2 0 = some (true, 3, [⟨#[97]⟩, ⟨#[99]⟩, ⟨#[101]⟩], [⟨1, 0⟩, ⟨0, 0⟩, ⟨2, 0⟩], true) := by kernel_rfl
theorem aw_put3 : node_Put.f 50 true 3 [⟨#[97]⟩, ⟨#[99]⟩, ⟨#[101]⟩] [⟨1, 0⟩, ⟨0, 0⟩, ⟨2, 0⟩] ⟨#[98]⟩ 3 0 = some (true, 4, [⟨#[97]⟩, ⟨#[98]⟩, ⟨#[99]⟩, ⟨#[101]⟩], [⟨1, 0⟩, ⟨3, 0⟩, ⟨0, 0⟩, ⟨2, 0⟩], true) := by kernel_rfl
theorem aw_put4 : node_Put.f 50 true 4 [⟨#[97]⟩, ⟨#[98]⟩, ⟨#[99]⟩, ⟨#[101]⟩] [⟨1, 0⟩, ⟨3, 0⟩, ⟨0, 0⟩, ⟨2, 0⟩] ⟨#[100]⟩ 4 0 = some (true, 5, [⟨#[97]⟩, ⟨#[98]⟩, ⟨#[99]⟩, ⟨#[100]⟩, ⟨#[101]⟩], [⟨1, 0⟩, ⟨3, 0⟩, ⟨0, 0⟩, ⟨4, 0⟩, ⟨2, 0⟩], true) := by kernel_rfl
theorem aw_split : node_Split.f 50 true 5 [⟨#[97]⟩, ⟨#[98]⟩, ⟨#[99]⟩, ⟨#[100]⟩, ⟨#[101]⟩] [⟨1, 0⟩, ⟨3, 0⟩, ⟨0, 0⟩, ⟨4, 0⟩, ⟨2, 0⟩] = some (true, 6, [⟨#[97]⟩, ⟨#[98]⟩, ⟨#[99]⟩], [⟨1, 0⟩, ⟨3, 0⟩, ⟨0, 0⟩], ⟨#[100]⟩, true, 1, [⟨#[100]⟩, ⟨#[101]⟩], [⟨4, 0⟩, ⟨2, 0⟩]) := by kernel_rfl
theorem aw_find : node_Find.f 50 true 5 [⟨#[97]⟩, ⟨#[98]⟩, ⟨#[99]⟩, ⟨#[100]⟩, ⟨#[101]⟩] [⟨1, 0⟩, ⟨3, 0⟩, ⟨0, 0⟩, ⟨4, 0⟩, ⟨2, 0⟩] ⟨#[100]⟩ = some (3, true) := by kernel_rfl
theorem aw_join : node_Join.f 50 true 6 [⟨#[97]⟩, ⟨#[98]⟩, ⟨#[99]⟩] [⟨1, 0⟩, ⟨3, 0⟩, ⟨0, 0⟩] ⟨#[100]⟩ true 1 [⟨#[100]⟩, ⟨#[101]⟩] [⟨4, 0⟩, ⟨2, 0⟩] = some (true, 7, [⟨#[97]⟩, ⟨#[98]⟩, ⟨#[99]⟩, ⟨#[100]⟩, ⟨#[101]⟩], [⟨1, 0⟩, ⟨3, 0⟩, ⟨0, 0⟩, ⟨4, 0⟩, ⟨2, 0⟩]) := by kernel_rfl
theorem aw_delete : node_Delete.f 50 true 7 [⟨#[97]⟩, ⟨#[98]⟩, ⟨#[99]⟩, ⟨#[100]⟩, ⟨#[101]⟩] [⟨1, 0⟩, ⟨3, 0⟩, ⟨0, 0⟩, ⟨4, 0⟩, ⟨2, 0⟩] ⟨#[97]⟩ = some (true, 8, [⟨#[98]⟩, ⟨#[99]⟩, ⟨#[100]⟩, ⟨#[101]⟩], [⟨3, 0⟩, ⟨0, 0⟩, ⟨4, 0⟩, ⟨2, 0⟩], 1, 0, true) := by kernel_rfl
theorem aw_insert : node_Insert.f false 0 [] [⟨1, 0⟩] 0 ⟨#[109]⟩ 2 0 = some (false, 1, [⟨#[109]⟩], [⟨1, 0⟩, ⟨2, 0⟩]) := by kernel_rfl
theorem aw_child1 : node_Child.f 50 false 1 [⟨#[109]⟩] [⟨1, 0⟩, ⟨2, 0⟩] ⟨#[109]⟩ = some 1 := by kernel_rfl
theorem aw_child2 : node_Child.f 50 false 1 [⟨#[109]⟩] [⟨1, 0⟩, ⟨2, 0⟩] ⟨#[97]⟩ = some 0 := by kernel_rfl
theorem aw_remove : node_Remove.f false 1 [⟨#[109]⟩] [⟨1, 0⟩, ⟨2, 0⟩] 0 = some (false, 2, [], [⟨2, 0⟩]) := by kernel_rfl
theorem aw_size : node_Size.f false 2 [] [⟨2, 0⟩] = some 1 := by kernel_rfl
theorem aw_check1 : node_Check.f 50 true 8 [⟨#[98]⟩, ⟨#[99]⟩, ⟨#[100]⟩, ⟨#[101]⟩] [⟨3, 0⟩, ⟨0, 0⟩, ⟨4, 0⟩, ⟨2, 0⟩] = some true := by kernel_rfl
theorem aw_check2 : node_Check.f 50 true 5 [⟨#[97]⟩, ⟨#[98]⟩, ⟨#[99]⟩, ⟨#[100]⟩, ⟨#[101]⟩] [⟨1, 0⟩, ⟨3, 0⟩, ⟨0, 0⟩, ⟨4, 0⟩, ⟨2, 0⟩] = some false := by kernel_rfl
theorem aw_idx0 (w : World) : (Instr.index 144 (.agg #[.string ⟨#[99]⟩, .string ⟨#[97]⟩, .string ⟨#[101]⟩, .string ⟨#[98]⟩, .string ⟨#[100]⟩]) (.int .i64 0)).run Try.prog w = .ok (.string ⟨#[99]⟩) w := by kernel_rfl
theorem aw_idx1 (w : World) : (Instr.index 144 (.agg #[.string ⟨#[99]⟩, .string ⟨#[97]⟩, .string ⟨#[101]⟩, .string ⟨#[98]⟩, .string ⟨#[100]⟩]) (.int .i64 1)).run Try.prog w = .ok (.string ⟨#[97]⟩) w := by kernel_rfl
theorem aw_idx2 (w : World) : (Instr.index 144 (.agg #[.string ⟨#[99]⟩, .string ⟨#[97]⟩, .string ⟨#[101]⟩, .string ⟨#[98]⟩, .string ⟨#[100]⟩]) (.int .i64 2)).run Try.prog w = .ok (.string ⟨#[101]⟩) w := by kernel_rfl
theorem aw_idx3 (w : World) : (Instr.index 144 (.agg #[.string ⟨#[99]⟩, .string ⟨#[97]⟩, .string ⟨#[101]⟩, .string ⟨#[98]⟩, .string ⟨#[100]⟩]) (.int .i64 3)).run Try.prog w = .ok (.string ⟨#[98]⟩) w := by kernel_rfl
theorem aw_idx4 (w : World) : (Instr.index 144 (.agg #[.string ⟨#[99]⟩, .string ⟨#[97]⟩, .string ⟨#[101]⟩, .string ⟨#[98]⟩, .string ⟨#[100]⟩]) (.int .i64 4)).run Try.prog w = .ok (.string ⟨#[100]⟩) w := by kernel_rfl
def transomlaw17_awake.f  : Option (Bool) := some true
set_option maxHeartbeats 8000000 in
set_option maxRecDepth 100000 in
theorem transomlaw17_awake.calls  (r : Bool) (w : World) (h : transomlaw17_awake.f  = some r) :
    Calls Try.prog 32 #[] w fun e w' => e = .returned (.bool r) ∧ Below w.heap.size w w' := by
  obtain rfl := Option.some.inj h
  clear h
  have hu59 := Try.underlying59
  have hu33 := Try.underlying33
  have hu57 := Try.underlying57
  have hu31 := Try.underlying31
  have hu144 := Try.underlying144
  have hi0 := aw_idx0
  have hi1 := aw_idx1
  have hi2 := aw_idx2
  have hi3 := aw_idx3
  have hi4 := aw_idx4
  have HM := Aside0.mk (((Mem.start w).alloc #[.bool true, .int .i64 0, .slice none 0 0, .slice none 0 0] 59).addNil)
  go_enter Try.func32, Try.ntmps32
  go_wp2_with fail
  refine wp_loop_rounds 6 ?_
  rw [rounds_succ]
  go_wp2_with (first
    | (go_at_call 42; refine (put_go HM.out (by simp) (by simp) ⟨#[99]⟩ 0 0 true 1 1 50 aw_put0 rfl rfl).mono ?_; rintro e1 w1 ⟨B20, d20, B30, d30, rfl, h1⟩
       obtain ⟨⟨x0, x1, x2, x3⟩, xz, xn⟩ := Mem.four h1 w.heap.size 59 (.bool true) (.int .i64 0) (.slice none 0 0) (.slice none 0 0) (by simp)
       have xz0 := xz 0
       have xz1 := xz 1
       have xz2 := xz 2
       have xz3 := xz 3
       clear xz
       obtain ⟨xa0, xa1, xa2, xa3, xaz⟩ := Mem.fourA h1 w.heap.size 59 (.bool true) (.int .i64 0) (.slice none 0 0) (.slice none 0 0) (by simp)
       have H1 := Aside0.mk h1
       clear h1))
  obtain ⟨v, hv, HV⟩ : ∃ v, v = _ ∧ Mem w v [(w.heap.size, 59, #[.bool true, .int .i64 1, .slice B20 1 d20, .slice B30 1 d30])] [(.slice B20 1 d20, [⟨#[99]⟩])] [(.slice B30 1 d30, [⟨0, 0⟩])] := ⟨_, rfl, (((H1.out.alloc #[.bool true, .int .i64 1, .slice B20 1 d20, .slice B30 1 d30] 59).perm (List.Perm.swap _ _ _)).set4 rfl (.bool true) (.int .i64 1) (.slice B20 1 d20) (.slice B30 1 d30)).drop (List.Sublist.cons_cons _ (List.nil_sublist _)) (by simp) (by simp)⟩
  rw [← hv]
  clear hv H1 HM x0 x1 x2 x3 xn xz0 xz1 xz2 xz3 xa0 xa1 xa2 xa3 xaz
  have HM := Aside0.mk HV
  clear HV
  rw [rounds_succ]
  obtain ⟨⟨y0, y1, y2, y3⟩, yz, yn⟩ := Mem.four HM.out w.heap.size 59 (.bool true) (.int .i64 1) (.slice B20 1 d20) (.slice B30 1 d30) (by simp)
  have yz0 := yz 0
  have yz1 := yz 1
  have yz2 := yz 2
  have yz3 := yz 3
  clear yz
  obtain ⟨ya0, ya1, ya2, ya3, yaz⟩ := Mem.fourA HM.out w.heap.size 59 (.bool true) (.int .i64 1) (.slice B20 1 d20) (.slice B30 1 d30) (by simp)
  go_wp2_with (first
    | (go_at_call 42; refine (put_go HM.out (by simp) (by simp) ⟨#[97]⟩ 1 0 true 2 2 50 aw_put1 rfl rfl).mono ?_; rintro e1 w1 ⟨B21, d21, B31, d31, rfl, h1⟩
       obtain ⟨⟨x0, x1, x2, x3⟩, xz, xn⟩ := Mem.four h1 w.heap.size 59 (.bool true) (.int .i64 1) (.slice B20 1 d20) (.slice B30 1 d30) (by simp)
       have xz0 := xz 0
       have xz1 := xz 1
       have xz2 := xz 2
       have xz3 := xz 3
       clear xz
       obtain ⟨xa0, xa1, xa2, xa3, xaz⟩ := Mem.fourA h1 w.heap.size 59 (.bool true) (.int .i64 1) (.slice B20 1 d20) (.slice B30 1 d30) (by simp)
       have H1 := Aside0.mk h1
       clear h1))
  obtain ⟨v, hv, HV⟩ : ∃ v, v = _ ∧ Mem w v [(w.heap.size, 59, #[.bool true, .int .i64 2, .slice B21 2 d21, .slice B31 2 d31])] [(.slice B21 2 d21, [⟨#[97]⟩, ⟨#[99]⟩])] [(.slice B31 2 d31, [⟨1, 0⟩, ⟨0, 0⟩])] := ⟨_, rfl, (((H1.out.alloc #[.bool true, .int .i64 2, .slice B21 2 d21, .slice B31 2 d31] 59).perm (List.Perm.swap _ _ _)).set4 rfl (.bool true) (.int .i64 2) (.slice B21 2 d21) (.slice B31 2 d31)).drop (List.Sublist.cons_cons _ (List.nil_sublist _)) (by simp) (by simp)⟩
  rw [← hv]
  clear hv H1 HM x0 x1 x2 x3 xn xz0 xz1 xz2 xz3 xa0 xa1 xa2 xa3 xaz y0 y1 y2 y3 yn yz0 yz1 yz2 yz3 ya0 ya1 ya2 ya3 yaz
  have HM := Aside0.mk HV
  clear HV
  rw [rounds_succ]
  obtain ⟨⟨y0, y1, y2, y3⟩, yz, yn⟩ := Mem.four HM.out w.heap.size 59 (.bool true) (.int .i64 2) (.slice B21 2 d21) (.slice B31 2 d31) (by simp)
  have yz0 := yz 0
  have yz1 := yz 1
  have yz2 := yz 2
  have yz3 := yz 3
  clear yz
  obtain ⟨ya0, ya1, ya2, ya3, yaz⟩ := Mem.fourA HM.out w.heap.size 59 (.bool true) (.int .i64 2) (.slice B21 2 d21) (.slice B31 2 d31) (by simp)
  go_wp2_with (first
    | (go_at_call 42; refine (put_go HM.out (by simp) (by simp) ⟨#[101]⟩ 2 0 true 3 3 50 aw_put2 rfl rfl).mono ?_; rintro e1 w1 ⟨B22, d22, B32, d32, rfl, h1⟩
       obtain ⟨⟨x0, x1, x2, x3⟩, xz, xn⟩ := Mem.four h1 w.heap.size 59 (.bool true) (.int .i64 2) (.slice B21 2 d21) (.slice B31 2 d31) (by simp)
       have xz0 := xz 0
       have xz1 := xz 1
       have xz2 := xz 2
       have xz3 := xz 3
       clear xz
       obtain ⟨xa0, xa1, xa2, xa3, xaz⟩ := Mem.fourA h1 w.heap.size 59 (.bool true) (.int .i64 2) (.slice B21 2 d21) (.slice B31 2 d31) (by simp)
       have H1 := Aside0.mk h1
       clear h1))
  obtain ⟨v, hv, HV⟩ : ∃ v, v = _ ∧ Mem w v [(w.heap.size, 59, #[.bool true, .int .i64 3, .slice B22 3 d22, .slice B32 3 d32])] [(.slice B22 3 d22, [⟨#[97]⟩, ⟨#[99]⟩, ⟨#[101]⟩])] [(.slice B32 3 d32, [⟨1, 0⟩, ⟨0, 0⟩, ⟨2, 0⟩])] := ⟨_, rfl, (((H1.out.alloc #[.bool true, .int .i64 3, .slice B22 3 d22, .slice B32 3 d32] 59).perm (List.Perm.swap _ _ _)).set4 rfl (.bool true) (.int .i64 3) (.slice B22 3 d22) (.slice B32 3 d32)).drop (List.Sublist.cons_cons _ (List.nil_sublist _)) (by simp) (by simp)⟩
  rw [← hv]
  clear hv H1 HM x0 x1 x2 x3 xn xz0 xz1 xz2 xz3 xa0 xa1 xa2 xa3 xaz y0 y1 y2 y3 yn yz0 yz1 yz2 yz3 ya0 ya1 ya2 ya3 yaz
  have HM := Aside0.mk HV
  clear HV
  rw [rounds_succ]
  obtain ⟨⟨y0, y1, y2, y3⟩, yz, yn⟩ := Mem.four HM.out w.heap.size 59 (.bool true) (.int .i64 3) (.slice B22 3 d22) (.slice B32 3 d32) (by simp)
  have yz0 := yz 0
  have yz1 := yz 1
  have yz2 := yz 2
  have yz3 := yz 3
  clear yz
  obtain ⟨ya0, ya1, ya2, ya3, yaz⟩ := Mem.fourA HM.out w.heap.size 59 (.bool true) (.int .i64 3) (.slice B22 3 d22) (.slice B32 3 d32) (by simp)
  go_wp2_with (first
    | (go_at_call 42; refine (put_go HM.out (by simp) (by simp) ⟨#[98]⟩ 3 0 true 4 4 50 aw_put3 rfl rfl).mono ?_; rintro e1 w1 ⟨B23, d23, B33, d33, rfl, h1⟩
       obtain ⟨⟨x0, x1, x2, x3⟩, xz, xn⟩ := Mem.four h1 w.heap.size 59 (.bool true) (.int .i64 3) (.slice B22 3 d22) (.slice B32 3 d32) (by simp)
       have xz0 := xz 0
       have xz1 := xz 1
       have xz2 := xz 2
       have xz3 := xz 3
       clear xz
       obtain ⟨xa0, xa1, xa2, xa3, xaz⟩ := Mem.fourA h1 w.heap.size 59 (.bool true) (.int .i64 3) (.slice B22 3 d22) (.slice B32 3 d32) (by simp)
       have H1 := Aside0.mk h1
       clear h1))
  obtain ⟨v, hv, HV⟩ : ∃ v, v = _ ∧ Mem w v [(w.heap.size, 59, #[.bool true, .int .i64 4, .slice B23 4 d23, .slice B33 4 d33])] [(.slice B23 4 d23, [⟨#[97]⟩, ⟨#[98]⟩, ⟨#[99]⟩, ⟨#[101]⟩])] [(.slice B33 4 d33, [⟨1, 0⟩, ⟨3, 0⟩, ⟨0, 0⟩, ⟨2, 0⟩])] := ⟨_, rfl, (((H1.out.alloc #[.bool true, .int .i64 4, .slice B23 4 d23, .slice B33 4 d33] 59).perm (List.Perm.swap _ _ _)).set4 rfl (.bool true) (.int .i64 4) (.slice B23 4 d23) (.slice B33 4 d33)).drop (List.Sublist.cons_cons _ (List.nil_sublist _)) (by simp) (by simp)⟩
  rw [← hv]
  clear hv H1 HM x0 x1 x2 x3 xn xz0 xz1 xz2 xz3 xa0 xa1 xa2 xa3 xaz y0 y1 y2 y3 yn yz0 yz1 yz2 yz3 ya0 ya1 ya2 ya3 yaz
  have HM := Aside0.mk HV
  clear HV
  rw [rounds_succ]
  obtain ⟨⟨y0, y1, y2, y3⟩, yz, yn⟩ := Mem.four HM.out w.heap.size 59 (.bool true) (.int .i64 4) (.slice B23 4 d23) (.slice B33 4 d33) (by simp)
  have yz0 := yz 0
  have yz1 := yz 1
  have yz2 := yz 2
  have yz3 := yz 3
  clear yz
  obtain ⟨ya0, ya1, ya2, ya3, yaz⟩ := Mem.fourA HM.out w.heap.size 59 (.bool true) (.int .i64 4) (.slice B23 4 d23) (.slice B33 4 d33) (by simp)
  go_wp2_with (first
    | (go_at_call 42; refine (put_go HM.out (by simp) (by simp) ⟨#[100]⟩ 4 0 true 5 5 50 aw_put4 rfl rfl).mono ?_; rintro e1 w1 ⟨B24, d24, B34, d34, rfl, h1⟩
       obtain ⟨⟨x0, x1, x2, x3⟩, xz, xn⟩ := Mem.four h1 w.heap.size 59 (.bool true) (.int .i64 4) (.slice B23 4 d23) (.slice B33 4 d33) (by simp)
       have xz0 := xz 0
       have xz1 := xz 1
       have xz2 := xz 2
       have xz3 := xz 3
       clear xz
       obtain ⟨xa0, xa1, xa2, xa3, xaz⟩ := Mem.fourA h1 w.heap.size 59 (.bool true) (.int .i64 4) (.slice B23 4 d23) (.slice B33 4 d33) (by simp)
       have H1 := Aside0.mk h1
       clear h1))
  obtain ⟨v, hv, HV⟩ : ∃ v, v = _ ∧ Mem w v [(w.heap.size, 59, #[.bool true, .int .i64 5, .slice B24 5 d24, .slice B34 5 d34])] [(.slice B24 5 d24, [⟨#[97]⟩, ⟨#[98]⟩, ⟨#[99]⟩, ⟨#[100]⟩, ⟨#[101]⟩])] [(.slice B34 5 d34, [⟨1, 0⟩, ⟨3, 0⟩, ⟨0, 0⟩, ⟨4, 0⟩, ⟨2, 0⟩])] := ⟨_, rfl, (((H1.out.alloc #[.bool true, .int .i64 5, .slice B24 5 d24, .slice B34 5 d34] 59).perm (List.Perm.swap _ _ _)).set4 rfl (.bool true) (.int .i64 5) (.slice B24 5 d24) (.slice B34 5 d34)).drop (List.Sublist.cons_cons _ (List.nil_sublist _)) (by simp) (by simp)⟩
  rw [← hv]
  clear hv H1 HM x0 x1 x2 x3 xn xz0 xz1 xz2 xz3 xa0 xa1 xa2 xa3 xaz y0 y1 y2 y3 yn yz0 yz1 yz2 yz3 ya0 ya1 ya2 ya3 yaz
  have HM := Aside0.mk HV
  clear HV
  rw [rounds_succ]
  obtain ⟨⟨y0, y1, y2, y3⟩, yz, yn⟩ := Mem.four HM.out w.heap.size 59 (.bool true) (.int .i64 5) (.slice B24 5 d24) (.slice B34 5 d34) (by simp)
  have yz0 := yz 0
  have yz1 := yz 1
  have yz2 := yz 2
  have yz3 := yz 3
  clear yz
  obtain ⟨ya0, ya1, ya2, ya3, yaz⟩ := Mem.fourA HM.out w.heap.size 59 (.bool true) (.int .i64 5) (.slice B24 5 d24) (.slice B34 5 d34) (by simp)
  go_upto_region 12 with (first
    | (go_at_call 51; refine (split_go HM.out rfl (by simp) (by simp) ⟨#[100]⟩ 3 3 2 2 50 aw_split rfl rfl rfl rfl).mono ?_; rintro e1 w1 ⟨P2, p2, P3, p3, Q2, q2, Q3, q3, rfl, h1⟩
       have H1 := Aside0.mk h1
       clear h1))
  obtain ⟨v, hv, HV⟩ : ∃ v, v = _ ∧ Mem w v [(w1.heap.size + 1, 59, #[.bool true, .int .i64 1, .slice Q2 2 q2, .slice Q3 2 q3]), (w1.heap.size, 59, #[.bool true, .int .i64 6, .slice P2 3 p2, .slice P3 3 p3]), (w.heap.size, 59, #[.bool true, .int .i64 5, .slice B24 5 d24, .slice B34 5 d34])] _ _ := ⟨_, rfl, H1.out.alloc2 #[.bool true, .int .i64 6, .slice P2 3 p2, .slice P3 3 p3] #[.bool true, .int .i64 1, .slice Q2 2 q2, .slice Q3 2 q3] 59 59⟩
  rw [← hv]
  clear hv
  generalize w1.heap.size = ga at HV ⊢
  obtain ⟨gb, hgb⟩ : ∃ gb, gb = ga + 1 := ⟨_, rfl⟩
  rw [← hgb] at HV ⊢
  clear hgb H1 HM y0 y1 y2 y3 yn yz0 yz1 yz2 yz3 ya0 ya1 ya2 ya3 yaz
  have HM := Aside0.mk HV
  clear HV
  obtain ⟨⟨y0, y1, y2, y3⟩, yz, yn⟩ := Mem.four HM.out w.heap.size 59 (.bool true) (.int .i64 5) (.slice B24 5 d24) (.slice B34 5 d34) (by simp)
  have yz0 := yz 0
  have yz1 := yz 1
  have yz2 := yz 2
  have yz3 := yz 3
  clear yz
  obtain ⟨ya0, ya1, ya2, ya3, yaz⟩ := Mem.fourA HM.out w.heap.size 59 (.bool true) (.int .i64 5) (.slice B24 5 d24) (.slice B34 5 d34) (by simp)
  go_upto_region 13 with (first
    | (go_at_call 38; refine (find_go HM.out (by simp) (by simp) ⟨#[100]⟩ 3 true 50 aw_find).mono ?_; rintro e1 w2 ⟨rfl, h1⟩
       have H1 := Aside0.mk h1
       clear h1))
  clear HM y0 y1 y2 y3 yn yz0 yz1 yz2 yz3 ya0 ya1 ya2 ya3 yaz
  obtain ⟨⟨y00, y01, y02, y03⟩, y0z, y0n⟩ := Mem.four H1.out ga 59 (.bool true) (.int .i64 6) (.slice P2 3 p2) (.slice P3 3 p3) (by simp)
  have y0z0 := y0z 0
  have y0z1 := y0z 1
  have y0z2 := y0z 2
  have y0z3 := y0z 3
  clear y0z
  obtain ⟨y0a0, y0a1, y0a2, y0a3, y0az⟩ := Mem.fourA H1.out ga 59 (.bool true) (.int .i64 6) (.slice P2 3 p2) (.slice P3 3 p3) (by simp)
  obtain ⟨⟨y10, y11, y12, y13⟩, y1z, y1n⟩ := Mem.four H1.out gb 59 (.bool true) (.int .i64 1) (.slice Q2 2 q2) (.slice Q3 2 q3) (by simp)
  have y1z0 := y1z 0
  have y1z1 := y1z 1
  have y1z2 := y1z 2
  have y1z3 := y1z 3
  clear y1z
  obtain ⟨y1a0, y1a1, y1a2, y1a3, y1az⟩ := Mem.fourA H1.out gb 59 (.bool true) (.int .i64 1) (.slice Q2 2 q2) (.slice Q3 2 q3) (by simp)
  go_upto_region 14 with (first
    | (go_at_call 53; refine (join_go H1.out (by simp) (by simp) rfl ⟨#[100]⟩ (by simp) (by simp) 5 5 50 aw_join rfl rfl).mono ?_; rintro e1 w3 ⟨C2, k2, C3, k3, rfl, h1⟩
       have H2 := Aside0.mk h1
       clear h1))
  clear H1 y00 y01 y02 y03 y0n y0z0 y0z1 y0z2 y0z3 y0a0 y0a1 y0a2 y0a3 y0az y10 y11 y12 y13 y1n y1z0 y1z1 y1z2 y1z3 y1a0 y1a1 y1a2 y1a3 y1az
  obtain ⟨v, hv, HV⟩ : ∃ v, v = _ ∧ Mem w v [(w3.heap.size, 59, #[.bool true, .int .i64 7, .slice C2 5 k2, .slice C3 5 k3]), (gb, 59, #[.bool true, .int .i64 1, .slice Q2 2 q2, .slice Q3 2 q3]), (ga, 59, #[.bool true, .int .i64 6, .slice P2 3 p2, .slice P3 3 p3]), (w.heap.size, 59, #[.bool true, .int .i64 5, .slice B24 5 d24, .slice B34 5 d34])] _ _ := ⟨_, rfl, H2.out.alloc #[.bool true, .int .i64 7, .slice C2 5 k2, .slice C3 5 k3] 59⟩
  rw [← hv]
  clear hv
  generalize w3.heap.size = gc at HV ⊢
  clear H2
  have HM := Aside0.mk HV
  clear HV
  obtain ⟨⟨y0, y1, y2, y3⟩, yz, yn⟩ := Mem.four HM.out gc 59 (.bool true) (.int .i64 7) (.slice C2 5 k2) (.slice C3 5 k3) (by simp)
  have yz0 := yz 0
  have yz1 := yz 1
  have yz2 := yz 2
  have yz3 := yz 3
  clear yz
  obtain ⟨ya0, ya1, ya2, ya3, yaz⟩ := Mem.fourA HM.out gc 59 (.bool true) (.int .i64 7) (.slice C2 5 k2) (.slice C3 5 k3) (by simp)
  go_upto_region 15 with (first
    | (go_at_call 44; refine (delete_go HM.out (by simp) (by simp) ⟨#[97]⟩ 1 0 true 4 4 50 aw_delete rfl rfl).mono ?_; rintro e1 w4 ⟨D2, k5, D3, k6, rfl, h1⟩
       have H1 := Aside0.mk h1
       clear h1))
  clear HM y0 y1 y2 y3 yn yz0 yz1 yz2 yz3 ya0 ya1 ya2 ya3 yaz
  obtain ⟨v, hv, HV⟩ : ∃ v, v = _ ∧ Mem w v [(w4.heap.size + 1, 33, #[.int .i64 1, .int .i64 0]), (w4.heap.size, 59, #[.bool true, .int .i64 8, .slice D2 4 k5, .slice D3 4 k6]), (gc, 59, #[.bool true, .int .i64 7, .slice C2 5 k2, .slice C3 5 k3]), (gb, 59, #[.bool true, .int .i64 1, .slice Q2 2 q2, .slice Q3 2 q3]), (ga, 59, #[.bool true, .int .i64 6, .slice P2 3 p2, .slice P3 3 p3]), (w.heap.size, 59, #[.bool true, .int .i64 5, .slice B24 5 d24, .slice B34 5 d34])] _ _ := ⟨_, rfl, H1.out.alloc2 #[.bool true, .int .i64 8, .slice D2 4 k5, .slice D3 4 k6] #[.int .i64 1, .int .i64 0] 59 33⟩
  rw [← hv]
  clear hv
  generalize w4.heap.size = gd at HV ⊢
  clear H1
  have HM := Aside0.mk HV
  clear HV
  obtain ⟨⟨y0, y1, y2, y3⟩, yz, yn⟩ := Mem.four HM.out gb 59 (.bool true) (.int .i64 1) (.slice Q2 2 q2) (.slice Q3 2 q3) (by simp)
  have yz0 := yz 0
  have yz1 := yz 1
  have yz2 := yz 2
  have yz3 := yz 3
  clear yz
  obtain ⟨ya0, ya1, ya2, ya3, yaz⟩ := Mem.fourA HM.out gb 59 (.bool true) (.int .i64 1) (.slice Q2 2 q2) (.slice Q3 2 q3) (by simp)
  go_upto_region 17 with fail
  clear y0 y1 y2 y3 yn yz0 yz1 yz2 yz3 ya0 ya1 ya2 ya3 yaz
  go_wp2_with (first
    | (go_at_call 47; refine (insert_go ((HM.out.lit1 1 0).addNil) (by simp) (by simp) 0 ⟨#[109]⟩ 2 0 1 2 aw_insert rfl rfl).mono ?_; rintro e1 w5 ⟨I2, i2, I3, i3, rfl, h1⟩
       obtain ⟨ad, eq, hd0, hd1⟩ := Mem.str h1 (A := Q2) (n := 2) (c := q2) (xs := [⟨#[100]⟩, ⟨#[101]⟩]) (by simp) 0 (by decide) ⟨#[100]⟩ rfl
       subst eq
       simp only [Addr.add_zero'] at hd0 hd1
       obtain ⟨⟨x00, x01, x02, x03⟩, x0z, x0n⟩ := Mem.four h1 w.heap.size 59 (.bool true) (.int .i64 5) (.slice B24 5 d24) (.slice B34 5 d34) (by simp)
       have x0z0 := x0z 0
       have x0z1 := x0z 1
       have x0z2 := x0z 2
       have x0z3 := x0z 3
       clear x0z
       obtain ⟨x0a0, x0a1, x0a2, x0a3, x0az⟩ := Mem.fourA h1 w.heap.size 59 (.bool true) (.int .i64 5) (.slice B24 5 d24) (.slice B34 5 d34) (by simp)
       obtain ⟨⟨x10, x11, x12, x13⟩, x1z, x1n⟩ := Mem.four h1 ga 59 (.bool true) (.int .i64 6) (.slice P2 3 p2) (.slice P3 3 p3) (by simp)
       have x1z0 := x1z 0
       have x1z1 := x1z 1
       have x1z2 := x1z 2
       have x1z3 := x1z 3
       clear x1z
       obtain ⟨x1a0, x1a1, x1a2, x1a3, x1az⟩ := Mem.fourA h1 ga 59 (.bool true) (.int .i64 6) (.slice P2 3 p2) (.slice P3 3 p3) (by simp)
       obtain ⟨⟨x20, x21, x22, x23⟩, x2z, x2n⟩ := Mem.four h1 gb 59 (.bool true) (.int .i64 1) (.slice (some ad) 2 q2) (.slice Q3 2 q3) (by simp)
       have x2z0 := x2z 0
       have x2z1 := x2z 1
       have x2z2 := x2z 2
       have x2z3 := x2z 3
       clear x2z
       obtain ⟨x2a0, x2a1, x2a2, x2a3, x2az⟩ := Mem.fourA h1 gb 59 (.bool true) (.int .i64 1) (.slice (some ad) 2 q2) (.slice Q3 2 q3) (by simp)
       obtain ⟨⟨x30, x31, x32, x33⟩, x3z, x3n⟩ := Mem.four h1 gc 59 (.bool true) (.int .i64 7) (.slice C2 5 k2) (.slice C3 5 k3) (by simp)
       have x3z0 := x3z 0
       have x3z1 := x3z 1
       have x3z2 := x3z 2
       have x3z3 := x3z 3
       clear x3z
       obtain ⟨x3a0, x3a1, x3a2, x3a3, x3az⟩ := Mem.fourA h1 gc 59 (.bool true) (.int .i64 7) (.slice C2 5 k2) (.slice C3 5 k3) (by simp)
       obtain ⟨⟨x40, x41, x42, x43⟩, x4z, x4n⟩ := Mem.four h1 gd 59 (.bool true) (.int .i64 8) (.slice D2 4 k5) (.slice D3 4 k6) (by simp)
       have x4z0 := x4z 0
       have x4z1 := x4z 1
       have x4z2 := x4z 2
       have x4z3 := x4z 3
       clear x4z
       obtain ⟨x4a0, x4a1, x4a2, x4a3, x4az⟩ := Mem.fourA h1 gd 59 (.bool true) (.int .i64 8) (.slice D2 4 k5) (.slice D3 4 k6) (by simp)
       have H5 := Aside0.mk (h1.alloc #[.bool false, .int .i64 1, .slice I2 1 i2, .slice I3 2 i3] 59)
       have HM5 := Aside0.mk h1
       clear h1)
    | (go_at_call 40; refine (child_go H5.out (by simp) (by simp) ⟨#[109]⟩ 1 50 aw_child1).mono ?_; rintro e1 w6 ⟨rfl, h1⟩
       obtain ⟨⟨y0, y1, y2, y3⟩, yz, yn⟩ := Mem.four h1 w5.heap.size 59 (.bool false) (.int .i64 1) (.slice I2 1 i2) (.slice I3 2 i3) (by simp)
       have yz0 := yz 0
       have yz1 := yz 1
       have yz2 := yz 2
       have yz3 := yz 3
       clear yz
       obtain ⟨ya0, ya1, ya2, ya3, yaz⟩ := Mem.fourA h1 w5.heap.size 59 (.bool false) (.int .i64 1) (.slice I2 1 i2) (.slice I3 2 i3) (by simp)
       have H6 := Aside0.mk h1
       clear h1 H5)
    | (go_at_call 40; refine (child_go H6.out (by simp) (by simp) ⟨#[97]⟩ 0 50 aw_child2).mono ?_; rintro e1 w7 ⟨rfl, h1⟩
       obtain ⟨⟨y0, y1, y2, y3⟩, yz, yn⟩ := Mem.four h1 w5.heap.size 59 (.bool false) (.int .i64 1) (.slice I2 1 i2) (.slice I3 2 i3) (by simp)
       have yz0 := yz 0
       have yz1 := yz 1
       have yz2 := yz 2
       have yz3 := yz 3
       clear yz
       obtain ⟨ya0, ya1, ya2, ya3, yaz⟩ := Mem.fourA h1 w5.heap.size 59 (.bool false) (.int .i64 1) (.slice I2 1 i2) (.slice I3 2 i3) (by simp)
       have H7 := Aside0.mk h1
       clear h1 H6)
    | (go_at_call 49; refine (remove_go H7.out (by simp) (by simp) 0 0 1 aw_remove rfl rfl).mono ?_; rintro e1 w8 ⟨R2, r2, R3, r3, rfl, h1⟩
       have H8 := Aside0.mk h1
       clear h1 H7)
    | (go_at_call 35; refine (size_go H8.out (by simp) (by simp) 1 aw_size).mono ?_; rintro e1 w9 ⟨rfl, h1⟩
       obtain ⟨⟨z0, z1, z2, z3⟩, zz, zn⟩ := Mem.four h1 gd 59 (.bool true) (.int .i64 8) (.slice D2 4 k5) (.slice D3 4 k6) (by simp)
       have zz0 := zz 0
       have zz1 := zz 1
       have zz2 := zz 2
       have zz3 := zz 3
       clear zz
       obtain ⟨za0, za1, za2, za3, zaz⟩ := Mem.fourA h1 gd 59 (.bool true) (.int .i64 8) (.slice D2 4 k5) (.slice D3 4 k6) (by simp)
       have H9 := Aside0.mk h1
       clear h1 H8)
    | (go_at_call 33; refine (check_go H9.out (by simp) (by simp) true 50 aw_check1).mono ?_; rintro e1 w10 ⟨rfl, h1⟩
       obtain ⟨⟨u0, u1, u2, u3⟩, uz, un⟩ := Mem.four h1 w.heap.size 59 (.bool true) (.int .i64 5) (.slice B24 5 d24) (.slice B34 5 d34) (by simp)
       have uz0 := uz 0
       have uz1 := uz 1
       have uz2 := uz 2
       have uz3 := uz 3
       clear uz
       obtain ⟨ua0, ua1, ua2, ua3, uaz⟩ := Mem.fourA h1 w.heap.size 59 (.bool true) (.int .i64 5) (.slice B24 5 d24) (.slice B34 5 d34) (by simp)
       have H10 := Aside0.mk h1
       clear h1 H9)
    | (go_at_call 33; refine (check_go H10.out (by simp) (by simp) false 50 aw_check2).mono ?_; rintro e1 w11 ⟨rfl, h1⟩
       have H11 := Aside0.mk h1
       clear h1 H10))
  exact bodyPost_ret (v := .bool true) (by simp [results, Try.results32, go_sem]) rfl ⟨rfl, H11.out.st.bel⟩

end Go.Proofs.Ytglbcfkmaamhaaa.PNode

