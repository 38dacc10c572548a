/- node: a node as plain data; lists copied and spliced. No condition. -/
import Derived.Test.YtglbcfkmaamhaaaProg
import Derived.Test.YtglbcfkmaamhaaaHv
import Derived.Test.YtglbcfkmaamhaaaLess
import Derived.Test.YtglbcfkmaamhaaaCopy
import Derived.Below
import Derived.Deep.Draws
import Derived.Deep.AppendLies
import Derived.Maps.AppendAt
import Derived.OwnWalk
import Derived.Laws.BytesArg
import Derived.Laws.MakeOwn
import Derived.Laws.OwnMore
import Derived.Deep.OwnRows
import Derived.Tactics
import Derived.Lib.ConvBytes
import Derived.Laws.Slices
import Derived.WalkKit
import Derived.KernelRfl
import Derived.RowKit3
import Derived.Deep.LoopGhost
import Derived.Deep.QuietTactic
import Derived.BigQuiet
import Derived.WideLaws
import Derived.Deep.DeepCutAuto
import Derived.Deep.CutBlock
import Derived.Deep.RegionHeld3
import Derived.Laws.Rows
import Derived.Lib.AppendStr
import Derived.ArgAppend
import Derived.Laws.IdiomCopy
import Derived.OrdersHeld
import Derived.Laws.BitsLemmas
import Derived.RowKit
import Derived.WalkLawsBesides
import Derived.BigQuiet
import Derived.Deep.QuietTactic
import Derived.RegionTactic
import Derived.Deep.RegionLaw
import Derived.Deep.RegionHeld3
set_option linter.unusedVariables false
set_option linter.unusedSimpArgs false
namespace Go.Proofs.Ytglbcfkmaamhaaa.Nd
open Go Go.RowKit Go.Proofs.YtglbcfkmaamhaaaW.PrintWords Go.Proofs.YtglbcfkmaamhaaaW.PrintLast Go.Proofs.YtglbcfkmaamhaaaW.PrintMore Go.Proofs.Ytglbcfkmaamhaaa.Hv
variable {w0 w w1 : World} {g : Nat} {L L' : List Ob}
section
variable {P : Program} {ops : Array Oper} {rest : List Oper} {o : Oper} {a : Act} {Q : Exit → Act → World → Prop}
/-- copy onto a row of the walk's own. -/
theorem copy_own (hgd : o.guard = none) (s x : Operand) (t e k : Nat) (ho : o.op = .call { callee := .builtin .copy, args := #[s, x], argTypes := #[t, t] })
    (ht : P.underlying t = some (.slice e)) (hsz : (P.info? e).map (·.size) = some k) {cur : Array Value} {n c c2 : Nat} {A : Option Addr} {xs : List Value} (hs : a.eval s = .slice (some ⟨g, 0, none⟩) n c) (hx : a.eval x = .slice A n c2)
    (hv : Hv w0 w (cb g e cur :: L)) (hfit : n * k ≤ cur.size) (hr : Rd k w A n xs) (h1 : ∀ u ∈ xs, u.oneCell' = true)
    (h : ∀ w1 cur', cur'.size = cur.size → cur'.toList.take (n * k) = xs → Hv w0 w1 (cb g e cur' :: L) → wpList P ops Q rest (a.put o.dst (goInt n)) w1) : wpList P ops Q (o :: rest) a w := by
  have hg := hv.box (cb g e cur) List.mem_cons_self
  have hrun : ∃ w1 cur', (Builtin.copy_ #[t, t] o.type #[.slice (some ⟨g, 0, none⟩) n c, .slice A n c2]).run P w = .ok (goInt n) w1 ∧ cur'.size = cur.size ∧ cur'.toList.take (n * k) = xs ∧ Hv w0 w1 (cb g e cur' :: L) := by
    rcases Nat.eq_zero_or_pos n with h0 | h0
    · subst h0
      refine ⟨w, cur, Copy.run_copy_empty w t t o.type e g c c2 k A ht hsz, rfl, ?_, hv⟩
      have := hr.1
      rw [Nat.zero_mul] at this
      rw [Nat.zero_mul, List.take_zero, List.eq_nil_of_length_eq_zero this]
    · obtain ⟨ad, rfl, hc⟩ := hr.2 h0
      have hrun := Copy.run_copy_sz (P := P) w t t o.type e g n c c2 k ad cur e xs ht hsz hg hr.1 hc (by rw [hr.1]; exact hfit) h1
      have hl := hr.1
      refine ⟨_, _, hrun, ?_, ?_, hv.setAt 0 rfl ⟨hv.bel.os, hv.bel.tape, hv.bel.output, by simpa [World.setRow] using hv.bel.size, fun i hi => ?_⟩ (setRow_heap w g cur _ e _ hg) (fun i _ hi => setRow_other w g i _ hi)⟩
      · simp only [List.size_toArray, List.length_append, List.length_drop, Array.length_toList]
        omega
      · rw [← hl]
        simp
      · have := hv.new (cb g e cur) List.mem_cons_self
        rw [setRow_other w g i _ (by have h9 : w0.heap.size ≤ g := this; omega)]
        exact hv.bel.block i hi
  obtain ⟨w1, cur', hrun, q1, q2, q3⟩ := hrun
  refine wpList_plain hgd fun K hK => ?_
  unfold Oper.wp
  simp [execOp, ho, resolve, invoke, builtin, hs, hx, hrun, Result.andThen]
  exact hK _ _ (h w1 cur' q1 q2 q3)
end
/-- A row that reads so as long as the blocks of L are there. -/
def Rdy (size : Nat) (w0 : World) (L : List Ob) (ad : Option Addr) (n : Nat) (xs : List Value) : Prop := ∀ W L', Hv w0 W L' → (∀ p ∈ L, p ∈ L') → Rd size W ad n xs
namespace Rdy
variable {size n c : Nat} {ad : Option Addr} {xs : List Value}
theorem of_rd (h : Rd size w0 ad n xs) (L : List Ob) : Rdy size w0 L ad n xs := fun W L' hv _ => h.below hv.bel
theorem of_rw {e : Nat} (h : Rw e size L ad n c xs) : Rdy size w0 L ad n xs := fun W L' hv hL => (h.mono hL).rd hv
theorem mono (h : Rdy size w0 L ad n xs) (hL : ∀ p ∈ L, p ∈ L') : Rdy size w0 L' ad n xs := fun W L2 hv h2 => h W L2 hv (fun p hp => h2 p (hL p hp))
theorem now (h : Rdy size w0 L ad n xs) (hv : Hv w0 w L) : Rd size w ad n xs := h w L hv (fun _ hp => hp)
theorem nil (size : Nat) (ad : Option Addr) : Rdy size w0 L ad 0 [] := fun W L' _ _ => Rd.nil size W ad
theorem take (h : Rdy size w0 L ad n xs) (k : Nat) (hk : k ≤ n) : Rdy size w0 L ad k (xs.take (k * size)) := fun W L' hv hL => by
  obtain ⟨h1, h2⟩ := h W L' hv hL
  have hl : k * size ≤ n * size := Nat.mul_le_mul_right _ hk
  refine ⟨by rw [List.length_take, h1]; omega, fun h0 => ?_⟩
  obtain ⟨a, e, h3⟩ := h2 (by omega)
  refine ⟨a, e, fun i u hu => h3 i u ?_⟩
  rw [List.getElem?_take] at hu
  split at hu
  · exact hu
  · cases hu
theorem drop (h : Rdy size w0 L ad n xs) (k : Nat) (hk : k ≤ n) (hc : n ≤ c) : Rdy size w0 L (if c = k then ad else ad.map (·.add (k * size))) (n - k) (xs.drop (k * size)) := fun W L' hv hL => by
  obtain ⟨h1, h2⟩ := h W L' hv hL
  refine ⟨by rw [List.length_drop, h1, Nat.sub_mul], fun h0 => ?_⟩
  obtain ⟨a, e, h3⟩ := h2 (by omega)
  rw [if_neg (by omega), e]
  refine ⟨_, rfl, fun i u hu => ?_⟩
  rw [List.getElem?_drop] at hu
  have h4 := h3 _ _ hu
  have e2 : (a.add (k * size)).add i = a.add (k * size + i) := by
    unfold Addr.add
    by_cases ha : k * size = 0 <;> by_cases hb : i = 0 <;> simp [ha, hb, Nat.add_assoc]
  rw [e2]
  exact h4
end Rdy
/-- What a call that makes a row answers. -/
def RowP (w0 : World) (L : List Ob) (e k : Nat) (n : Nat) (xs : List Value) (en : Ending) (w' : World) : Prop := ∃ ad c A, en = .returned (.slice ad n c) ∧ Gr e k (.slice ad n c) n xs A ∧ Hv w0 w' (A ++ L)
theorem copS.info : (Try.prog.info? 9).map (fun i => (i.zero, i.size, i.bytes)) = some (some (.string ⟨#[]⟩), 1, 16) := by kernel_rfl
theorem copS.size : (Try.prog.info? 9).map (·.size) = some 1 := by kernel_rfl
theorem copS.make (a b : Nat) (h : a + b < 8796093022208) : ∃ Z : Array Value, Z.size = (a + b) * 1 ∧ ∀ w : World, (Instr.makeSlice 57 (.int .i64 (a : Int)) (.int .i64 ((a : Int) + (b : Int)))).run Try.prog w = .ok (.slice (some ⟨w.heap.size, 0, none⟩) a (a + b)) (w.alloc (.cells Z 9)) := by
  cases hi : Try.prog.info? 9 with
  | none => have := copS.info; rw [hi] at this; simp at this
  | some i =>
    have := copS.info
    rw [hi] at this
    simp at this
    obtain ⟨h2, h3, h4⟩ := this
    refine ⟨_, size_madeCells (.string ⟨#[]⟩ : Value).cells _, fun w => ?_⟩
    rw [run_make (P := Try.prog) w 57 9 i _ Try.underlying57 hi h2 .i64 .i64 a ((a : Int) + (b : Int)) (by omega) (by omega) (by rw [h4]; omega) (by omega)]
    have e1 : ((a : Int) + (b : Int)).toNat = a + b := by omega
    have e2 : (a : Int).toNat = a := by omega
    rw [e1, e2, h3]
set_option maxHeartbeats 8000000 in
set_option maxRecDepth 100000 in
theorem copS.calls {a0 a1 : Option Addr} {n0 c0 n1 c1 : Nat} {xs ys : List Value} (hv : Hv w0 w L) (h0 : Rdy 1 w0 L a0 n0 xs) (h1 : Rdy 1 w0 L a1 n1 ys) (hx : ∀ u ∈ xs, u.oneCell' = true) (hy : ∀ u ∈ ys, u.oneCell' = true) (hn : n0 + n1 < 8796093022208) :
    Calls Try.prog 105 #[.slice a0 n0 c0, .slice a1 n1 c1] w (RowP w0 L 9 1 (n0 + n1) (xs ++ ys)) := by
  obtain ⟨Z, hZ, hmk⟩ := copS.make n0 n1 hn
  have ew : IntKind.i64.wrap ((n0 : Int) + (n1 : Int)) = (n0 : Int) + (n1 : Int) := by rw [IntKind.wrap_i64]; omega
  have ew' : wrap64 ((n0 : Int) + (n1 : Int)) = (n0 : Int) + (n1 : Int) := by unfold wrap64; omega
  have hv1 := hv.alloc (.cells Z 9)
  have HV := Aside0.mk hv1
  have H0 := Aside0.mk (h0 _ _ hv1 (fun p hp => List.mem_cons_of_mem _ hp))
  have H1 := Aside0.mk h1
  have HX := Aside0.mk (And.intro hx hy)
  have HZ := Aside0.mk hZ
  have HS := Aside0.mk (show n0 * 1 ≤ Z.size by rw [hZ]; exact Nat.mul_le_mul_right _ (Nat.le_add_right _ _))
  have HM := Aside0.mk (show n0 + n1 ≤ maxLen by simp only [maxLen]; omega)
  have HB := Aside0.mk (show (n0 + n1) * 16 ≤ 140737488355328 by omega)
  have HL := Aside0.mk (And.intro (h0.now hv).1 (Nat.le_add_right n0 n1))
  clear hv hv1 h0 h1 hx hy hZ
  have hu := Try.underlying57
  go_enter Try.func105, Try.ntmps105
  go_wp2_with (first
    | ((with_reducible show wpList _ _ _ _ _ _); refine copy_own (w0 := w0) (L := L) rfl (.tmp 14) (.tmp 15) 57 9 1 rfl Try.underlying57 copS.size rfl rfl HV.out HS.out H0.out HX.out.1 ?_
       intro w1 cur hc1 hc2 hv2
       have HC := Aside0.mk (And.intro hc1 (And.intro hc2 hv2))
       clear hc1 hc2 hv2)
    | ((with_reducible refine gate_builtin (b := .append) (xs := #[.tmp 17, .tmp 18]) rfl ?_); at_builtin; refine append_rows (w0 := w0) (A := [cb w.heap.size 9 cur]) (L := L) rfl (.tmp 17) (.tmp 18) 57 9 (.string ⟨#[]⟩) 1 16 rfl Try.underlying57 copS.info rfl (by decide) (by decide) (.slice (some ⟨w.heap.size, 0, none⟩) n0 (n0 + n1)) n0 xs rfl a1 n1 c1 ys rfl HX.out.2 ⟨HL.out.1, .inr ⟨w.heap.size, n0 + n1, cur, rfl, rfl, HL.out.2, HM.out, by rw [HC.out.1]; exact HZ.out, HC.out.2.1⟩⟩ HC.out.2.2 (H1.out _ _ HC.out.2.2 (fun p hp => List.mem_cons_of_mem _ hp)) HB.out ?_
       intro v2 w2 A2 hG2 hv3
       obtain ⟨ad, c, rfl, -⟩ := hG2.form
       have HG := Aside0.mk (And.intro hG2 hv3)
       clear hG2 hv3))
  go_ret
  exact ⟨ad, c, A2, rfl, HG.out.1, HG.out.2⟩
theorem copR.info : (Try.prog.info? 33).map (fun i => (i.zero, i.size, i.bytes)) = some (some (.agg #[.int .i64 0, .int .i64 0]), 2, 16) := by kernel_rfl
theorem copR.size : (Try.prog.info? 33).map (·.size) = some 2 := by kernel_rfl
theorem copR.make (a b : Nat) (h : a + b < 8796093022208) : ∃ Z : Array Value, Z.size = (a + b) * 2 ∧ ∀ w : World, (Instr.makeSlice 31 (.int .i64 (a : Int)) (.int .i64 ((a : Int) + (b : Int)))).run Try.prog w = .ok (.slice (some ⟨w.heap.size, 0, none⟩) a (a + b)) (w.alloc (.cells Z 33)) := by
  cases hi : Try.prog.info? 33 with
  | none => have := copR.info; rw [hi] at this; simp at this
  | some i =>
    have := copR.info
    rw [hi] at this
    simp at this
    obtain ⟨h2, h3, h4⟩ := this
    refine ⟨_, size_madeCells (.agg #[.int .i64 0, .int .i64 0] : Value).cells _, fun w => ?_⟩
    rw [run_make (P := Try.prog) w 31 33 i _ Try.underlying31 hi h2 .i64 .i64 a ((a : Int) + (b : Int)) (by omega) (by omega) (by rw [h4]; omega) (by omega)]
    have e1 : ((a : Int) + (b : Int)).toNat = a + b := by omega
    have e2 : (a : Int).toNat = a := by omega
    rw [e1, e2, h3]
set_option maxHeartbeats 8000000 in
set_option maxRecDepth 100000 in
theorem copR.calls {a0 a1 : Option Addr} {n0 c0 n1 c1 : Nat} {xs ys : List Value} (hv : Hv w0 w L) (h0 : Rdy 2 w0 L a0 n0 xs) (h1 : Rdy 2 w0 L a1 n1 ys) (hx : ∀ u ∈ xs, u.oneCell' = true) (hy : ∀ u ∈ ys, u.oneCell' = true) (hn : n0 + n1 < 8796093022208) :
    Calls Try.prog 106 #[.slice a0 n0 c0, .slice a1 n1 c1] w (RowP w0 L 33 2 (n0 + n1) (xs ++ ys)) := by
  obtain ⟨Z, hZ, hmk⟩ := copR.make n0 n1 hn
  have ew : IntKind.i64.wrap ((n0 : Int) + (n1 : Int)) = (n0 : Int) + (n1 : Int) := by rw [IntKind.wrap_i64]; omega
  have ew' : wrap64 ((n0 : Int) + (n1 : Int)) = (n0 : Int) + (n1 : Int) := by unfold wrap64; omega
  have hv1 := hv.alloc (.cells Z 33)
  have HV := Aside0.mk hv1
  have H0 := Aside0.mk (h0 _ _ hv1 (fun p hp => List.mem_cons_of_mem _ hp))
  have H1 := Aside0.mk h1
  have HX := Aside0.mk (And.intro hx hy)
  have HZ := Aside0.mk hZ
  have HS := Aside0.mk (show n0 * 2 ≤ Z.size by rw [hZ]; exact Nat.mul_le_mul_right _ (Nat.le_add_right _ _))
  have HM := Aside0.mk (show n0 + n1 ≤ maxLen by simp only [maxLen]; omega)
  have HB := Aside0.mk (show (n0 + n1) * 16 ≤ 140737488355328 by omega)
  have HL := Aside0.mk (And.intro (h0.now hv).1 (Nat.le_add_right n0 n1))
  clear hv hv1 h0 h1 hx hy hZ
  have hu := Try.underlying31
  go_enter Try.func106, Try.ntmps106
  go_wp2_with (first
    | ((with_reducible show wpList _ _ _ _ _ _); refine copy_own (w0 := w0) (L := L) rfl (.tmp 14) (.tmp 15) 31 33 2 rfl Try.underlying31 copR.size rfl rfl HV.out HS.out H0.out HX.out.1 ?_
       intro w1 cur hc1 hc2 hv2
       have HC := Aside0.mk (And.intro hc1 (And.intro hc2 hv2))
       clear hc1 hc2 hv2)
    | ((with_reducible refine gate_builtin (b := .append) (xs := #[.tmp 17, .tmp 18]) rfl ?_); at_builtin; refine append_rows (w0 := w0) (A := [cb w.heap.size 33 cur]) (L := L) rfl (.tmp 17) (.tmp 18) 31 33 (.agg #[.int .i64 0, .int .i64 0]) 2 16 rfl Try.underlying31 copR.info rfl (by decide) (by decide) (.slice (some ⟨w.heap.size, 0, none⟩) n0 (n0 + n1)) n0 xs rfl a1 n1 c1 ys rfl HX.out.2 ⟨HL.out.1, .inr ⟨w.heap.size, n0 + n1, cur, rfl, rfl, HL.out.2, HM.out, by rw [HC.out.1]; exact HZ.out, HC.out.2.1⟩⟩ HC.out.2.2 (H1.out _ _ HC.out.2.2 (fun p hp => List.mem_cons_of_mem _ hp)) HB.out ?_
       intro v2 w2 A2 hG2 hv3
       obtain ⟨ad, c, rfl, -⟩ := hG2.form
       have HG := Aside0.mk (And.intro hG2 hv3)
       clear hG2 hv3))
  go_ret
  exact ⟨ad, c, A2, rfl, HG.out.1, HG.out.2⟩
end Go.Proofs.Ytglbcfkmaamhaaa.Nd
