/- A text of this claim: parts NdA NdB NdC NdD NdE. No condition. -/
import Derived.Test.YtglbcfkmaamhaaaProg
import Derived.Test.YtglbcfkmaamhaaaJG1
import Derived.Test.YtglbcfkmaamhaaaJG2
import Derived.Below
import Derived.Deep.Draws
import Derived.Deep.AppendLies
import Derived.Maps.AppendAt
import Derived.OwnWalk
import Derived.Laws.BytesArg
import Derived.Laws.MakeOwn
import Derived.Laws.OwnMore
import Derived.Deep.OwnRows
import Derived.Tactics
import Derived.Lib.ConvBytes
import Derived.Laws.Slices
import Derived.WalkKit
import Derived.KernelRfl
import Derived.RowKit3
import Derived.Deep.LoopGhost
import Derived.Deep.QuietTactic
import Derived.BigQuiet
import Derived.WideLaws
import Derived.Deep.DeepCutAuto
import Derived.Deep.CutBlock
import Derived.Deep.RegionHeld3
import Derived.Laws.Rows
import Derived.Lib.AppendStr
import Derived.ArgAppend
import Derived.Laws.IdiomCopy
import Derived.OrdersHeld
import Derived.Laws.BitsLemmas
import Derived.RowKit
import Derived.WalkLawsBesides
import Derived.RegionTactic
import Derived.Deep.RegionLaw
import Derived.Test.YtglbcfkmaamhaaaJG0
set_option linter.unusedVariables false
set_option linter.unusedSimpArgs false
set_option maxHeartbeats 16000000
set_option maxRecDepth 100000
section
namespace Go.Proofs.Ytglbcfkmaamhaaa.Nd
open Go Go.RowKit Go.Proofs.YtglbcfkmaamhaaaW.PrintWords Go.Proofs.YtglbcfkmaamhaaaW.PrintLast Go.Proofs.YtglbcfkmaamhaaaW.PrintMore Go.Proofs.Ytglbcfkmaamhaaa.Hv
variable {w0 w w1 : World} {g : Nat} {L L' : List Ob}
section
variable {P : Program} {ops : Array Oper} {rest : List Oper} {o : Oper} {a : Act} {Q : Exit → Act → World → Prop}
theorem copy_own (hgd : o.guard = none) (s x : Operand) (t e k : Nat) (ho : o.op = .call { callee := .builtin .copy, args := #[s, x], argTypes := #[t, t] })
  (ht : P.underlying t = some (.slice e)) (hsz : (P.info? e).map (·.size) = some k) {cur : Array Value} {n c c2 : Nat} {A : Option Addr} {xs : List Value} (hs : a.eval s = .slice (some ⟨g, 0, none⟩) n c) (hx : a.eval x = .slice A n c2)
  (hv : Hv w0 w (cb g e cur :: L)) (hfit : n * k ≤ cur.size) (hr : Rd k w A n xs) (h1 : ∀ u ∈ xs, u.oneCell' = true)
  (h : ∀ w1 cur', cur'.size = cur.size → cur'.toList.take (n * k) = xs → Hv w0 w1 (cb g e cur' :: L) → wpList P ops Q rest (a.put o.dst (goInt n)) w1) : wpList P ops Q (o :: rest) a w := by
 have hg := hv.box (cb g e cur) List.mem_cons_self
 have hrun : ∃ w1 cur', (Builtin.copy_ #[t, t] o.type #[.slice (some ⟨g, 0, none⟩) n c, .slice A n c2]).run P w = .ok (goInt n) w1 ∧ cur'.size = cur.size ∧ cur'.toList.take (n * k) = xs ∧ Hv w0 w1 (cb g e cur' :: L) := by
  rcases Nat.eq_zero_or_pos n with h0 | h0
  ·subst h0
   refine ⟨w, cur, Copy.run_copy_empty w t t o.type e g c c2 k A ht hsz, rfl, ?_, hv⟩
   have := hr.1
   rw [Nat.zero_mul] at this
   rw [Nat.zero_mul, List.take_zero, List.eq_nil_of_length_eq_zero this]
  ·obtain ⟨ad, rfl, hc⟩ := hr.2 h0
   have hrun := Copy.run_copy_sz (P := P) w t t o.type e g n c c2 k ad cur e xs ht hsz hg hr.1 hc (by rw [hr.1]; exact hfit) h1
   have hl := hr.1
   refine ⟨_, _, hrun, ?_, ?_, hv.setAt 0 rfl ⟨hv.bel.os, hv.bel.tape, hv.bel.output, by simpa [World.setRow] using hv.bel.size, fun i hi => ?_⟩ (setRow_heap w g cur _ e _ hg) (fun i _ hi => setRow_other w g i _ hi)⟩
   ·simp only [List.size_toArray, List.length_append, List.length_drop, Array.length_toList]
    omega
   ·rw [← hl]
    simp
   ·have := hv.new (cb g e cur) List.mem_cons_self
    rw [setRow_other w g i _ (by have h9 : w0.heap.size ≤ g := this; omega)]
    exact hv.bel.block i hi
 obtain ⟨w1, cur', hrun, q1, q2, q3⟩ := hrun
 refine wpList_plain hgd fun K hK => ?_
 unfold Oper.wp
 simp [execOp, ho, resolve, invoke, builtin, hs, hx, hrun, Result.andThen]
 exact hK _ _ (h w1 cur' q1 q2 q3)
end
def Rdy (size : Nat) (w0 : World) (L : List Ob) (ad : Option Addr) (n : Nat) (xs : List Value) : Prop := ∀ W L', Hv w0 W L' → (∀ p ∈ L, p ∈ L') → Rd size W ad n xs
namespace Rdy
variable {size n c : Nat} {ad : Option Addr} {xs : List Value}
theorem of_rw {e : Nat} (h : Rw e size L ad n c xs) : Rdy size w0 L ad n xs := fun W L' hv hL => (h.mono hL).rd hv
theorem mono (h : Rdy size w0 L ad n xs) (hL : ∀ p ∈ L, p ∈ L') : Rdy size w0 L' ad n xs := fun W L2 hv h2 => h W L2 hv (fun p hp => h2 p (hL p hp))
theorem now (h : Rdy size w0 L ad n xs) (hv : Hv w0 w L) : Rd size w ad n xs := h w L hv (fun _ hp => hp)
theorem nil (size : Nat) (ad : Option Addr) : Rdy size w0 L ad 0 [] := fun W L' _ _ => Rd.nil size W ad
theorem take (h : Rdy size w0 L ad n xs) (k : Nat) (hk : k ≤ n) : Rdy size w0 L ad k (xs.take (k * size)) := fun W L' hv hL => by
 obtain ⟨h1, h2⟩ := h W L' hv hL
 have hl : k * size ≤ n * size := Nat.mul_le_mul_right _ hk
 refine ⟨by rw [List.length_take, h1]; omega, fun h0 => ?_⟩
 obtain ⟨a, e, h3⟩ := h2 (by omega)
 refine ⟨a, e, fun i u hu => h3 i u ?_⟩
 rw [List.getElem?_take] at hu
 split at hu
 ·exact hu
 ·cases hu
theorem drop (h : Rdy size w0 L ad n xs) (k : Nat) (hk : k ≤ n) (hc : n ≤ c) : Rdy size w0 L (if c = k then ad else ad.map (·.add (k * size))) (n - k) (xs.drop (k * size)) := fun W L' hv hL => by
 obtain ⟨h1, h2⟩ := h W L' hv hL
 refine ⟨by rw [List.length_drop, h1, Nat.sub_mul], fun h0 => ?_⟩
 obtain ⟨a, e, h3⟩ := h2 (by omega)
 rw [if_neg (by omega), e]
 refine ⟨_, rfl, fun i u hu => ?_⟩
 rw [List.getElem?_drop] at hu
 have h4 := h3 _ _ hu
 have e2 : (a.add (k * size)).add i = a.add (k * size + i) := by
  unfold Addr.add
  by_cases ha : k * size = 0 <;> by_cases hb : i = 0 <;> simp [ha, hb, Nat.add_assoc]
 rw [e2]
 exact h4
end Rdy
def RowP (w0 : World) (L : List Ob) (e k : Nat) (n : Nat) (xs : List Value) (en : Ending) (w' : World) : Prop := ∃ ad c A, en = .returned (.slice ad n c) ∧ Gr e k (.slice ad n c) n xs A ∧ Hv w0 w' (A ++ L)
theorem copS.info : (Try.prog.info? 9).map (fun i => (i.zero, i.size, i.bytes)) = some (some (.string ⟨#[]⟩), 1, 16) := by kernel_rfl
theorem copS.size : (Try.prog.info? 9).map (·.size) = some 1 := by kernel_rfl
theorem copS.make (a b : Nat) (h : a + b < 8796093022208) : ∃ Z : Array Value, Z.size = (a + b) * 1 ∧ ∀ w : World, (Instr.makeSlice 57 (.int .i64 (a : Int)) (.int .i64 ((a : Int) + (b : Int)))).run Try.prog w = .ok (.slice (some ⟨w.heap.size, 0, none⟩) a (a + b)) (w.alloc (.cells Z 9)) := by
 cases hi : Try.prog.info? 9 with
 | none => have := copS.info; rw [hi] at this; simp at this
 | some i =>
  have := copS.info
  rw [hi] at this
  simp at this
  obtain ⟨h2, h3, h4⟩ := this
  refine ⟨_, size_madeCells (.string ⟨#[]⟩ : Value).cells _, fun w => ?_⟩
  rw [run_make (P := Try.prog) w 57 9 i _ Try.underlying57 hi h2 .i64 .i64 a ((a : Int) + (b : Int)) (by omega) (by omega) (by rw [h4]; omega) (by omega)]
  have e1 : ((a : Int) + (b : Int)).toNat = a + b := by omega
  have e2 : (a : Int).toNat = a := by omega
  rw [e1, e2, h3]
theorem copS.calls {a0 a1 : Option Addr} {n0 c0 n1 c1 : Nat} {xs ys : List Value} (hv : Hv w0 w L) (h0 : Rdy 1 w0 L a0 n0 xs) (h1 : Rdy 1 w0 L a1 n1 ys) (hx : ∀ u ∈ xs, u.oneCell' = true) (hy : ∀ u ∈ ys, u.oneCell' = true) (hn : n0 + n1 < 8796093022208) :
    Calls Try.prog 105 #[.slice a0 n0 c0, .slice a1 n1 c1] w (RowP w0 L 9 1 (n0 + n1) (xs ++ ys)) := by
  obtain ⟨Z, hZ, hmk⟩ := copS.make n0 n1 hn
  have ew : IntKind.i64.wrap ((n0 : Int) + (n1 : Int)) = (n0 : Int) + (n1 : Int) := by rw [IntKind.wrap_i64]; omega
  have ew' : wrap64 ((n0 : Int) + (n1 : Int)) = (n0 : Int) + (n1 : Int) := by unfold wrap64; omega
  have hv1 := hv.alloc (.cells Z 9)
  have HV := As hv1
  have H0 := As (h0 _ _ hv1 (fun p hp => List.mem_cons_of_mem _ hp))
  have H1 := As h1
  have HX := As (And.intro hx hy)
  have HZ := As hZ
  have HS := As (show n0 * 1 ≤ Z.size by rw [hZ]; exact Nat.mul_le_mul_right _ (Nat.le_add_right _ _))
  have HM := As (show n0 + n1 ≤ maxLen by simp only [maxLen]; omega)
  have HB := As (show (n0 + n1) * 16 ≤ 140737488355328 by omega)
  have HL := As (And.intro (h0.now hv).1 (Nat.le_add_right n0 n1))
  clear hv hv1 h0 h1 hx hy hZ
  have hu := Try.underlying57
  go_enter Try.func105, Try.ntmps105
  go_wp2_with (first
    | ((with_reducible show wpList _ _ _ _ _ _); refine copy_own (w0 := w0) (L := L) rfl (.tmp 14) (.tmp 15) 57 9 1 rfl Try.underlying57 copS.size rfl rfl HV.out HS.out H0.out HX.out.1 ?_
       intro w1 cur hc1 hc2 hv2
       have HC := As (And.intro hc1 (And.intro hc2 hv2))
       clear hc1 hc2 hv2)
    | ((with_reducible refine gate_builtin (b := .append) (xs := #[.tmp 17, .tmp 18]) rfl ?_); at_builtin; refine append_rows (w0 := w0) (A := [cb w.heap.size 9 cur]) (L := L) rfl (.tmp 17) (.tmp 18) 57 9 (.string ⟨#[]⟩) 1 16 rfl Try.underlying57 copS.info rfl (by decide) (by decide) (.slice (some ⟨w.heap.size, 0, none⟩) n0 (n0 + n1)) n0 xs rfl a1 n1 c1 ys rfl HX.out.2 ⟨HL.out.1, .inr ⟨w.heap.size, n0 + n1, cur, rfl, rfl, HL.out.2, HM.out, by rw [HC.out.1]; exact HZ.out, HC.out.2.1⟩⟩ HC.out.2.2 (H1.out _ _ HC.out.2.2 (fun p hp => List.mem_cons_of_mem _ hp)) HB.out ?_
       intro v2 w2 A2 hG2 hv3
       obtain ⟨ad, c, rfl, -⟩ := hG2.form
       have HG := As (And.intro hG2 hv3)
       clear hG2 hv3))
  go_ret
  exact ⟨ad, c, A2, rfl, HG.out.1, HG.out.2⟩
theorem copR.info : (Try.prog.info? 33).map (fun i => (i.zero, i.size, i.bytes)) = some (some (.agg #[.int .i64 0, .int .i64 0]), 2, 16) := by kernel_rfl
theorem copR.size : (Try.prog.info? 33).map (·.size) = some 2 := by kernel_rfl
theorem copR.make (a b : Nat) (h : a + b < 8796093022208) : ∃ Z : Array Value, Z.size = (a + b) * 2 ∧ ∀ w : World, (Instr.makeSlice 31 (.int .i64 (a : Int)) (.int .i64 ((a : Int) + (b : Int)))).run Try.prog w = .ok (.slice (some ⟨w.heap.size, 0, none⟩) a (a + b)) (w.alloc (.cells Z 33)) := by
 cases hi : Try.prog.info? 33 with
 | none => have := copR.info; rw [hi] at this; simp at this
 | some i =>
  have := copR.info
  rw [hi] at this
  simp at this
  obtain ⟨h2, h3, h4⟩ := this
  refine ⟨_, size_madeCells (.agg #[.int .i64 0, .int .i64 0] : Value).cells _, fun w => ?_⟩
  rw [run_make (P := Try.prog) w 31 33 i _ Try.underlying31 hi h2 .i64 .i64 a ((a : Int) + (b : Int)) (by omega) (by omega) (by rw [h4]; omega) (by omega)]
  have e1 : ((a : Int) + (b : Int)).toNat = a + b := by omega
  have e2 : (a : Int).toNat = a := by omega
  rw [e1, e2, h3]
theorem copR.calls {a0 a1 : Option Addr} {n0 c0 n1 c1 : Nat} {xs ys : List Value} (hv : Hv w0 w L) (h0 : Rdy 2 w0 L a0 n0 xs) (h1 : Rdy 2 w0 L a1 n1 ys) (hx : ∀ u ∈ xs, u.oneCell' = true) (hy : ∀ u ∈ ys, u.oneCell' = true) (hn : n0 + n1 < 8796093022208) :
    Calls Try.prog 106 #[.slice a0 n0 c0, .slice a1 n1 c1] w (RowP w0 L 33 2 (n0 + n1) (xs ++ ys)) := by
  obtain ⟨Z, hZ, hmk⟩ := copR.make n0 n1 hn
  have ew : IntKind.i64.wrap ((n0 : Int) + (n1 : Int)) = (n0 : Int) + (n1 : Int) := by rw [IntKind.wrap_i64]; omega
  have ew' : wrap64 ((n0 : Int) + (n1 : Int)) = (n0 : Int) + (n1 : Int) := by unfold wrap64; omega
  have hv1 := hv.alloc (.cells Z 33)
  have HV := As hv1
  have H0 := As (h0 _ _ hv1 (fun p hp => List.mem_cons_of_mem _ hp))
  have H1 := As h1
  have HX := As (And.intro hx hy)
  have HZ := As hZ
  have HS := As (show n0 * 2 ≤ Z.size by rw [hZ]; exact Nat.mul_le_mul_right _ (Nat.le_add_right _ _))
  have HM := As (show n0 + n1 ≤ maxLen by simp only [maxLen]; omega)
  have HB := As (show (n0 + n1) * 16 ≤ 140737488355328 by omega)
  have HL := As (And.intro (h0.now hv).1 (Nat.le_add_right n0 n1))
  clear hv hv1 h0 h1 hx hy hZ
  have hu := Try.underlying31
  go_enter Try.func106, Try.ntmps106
  go_wp2_with (first
    | ((with_reducible show wpList _ _ _ _ _ _); refine copy_own (w0 := w0) (L := L) rfl (.tmp 14) (.tmp 15) 31 33 2 rfl Try.underlying31 copR.size rfl rfl HV.out HS.out H0.out HX.out.1 ?_
       intro w1 cur hc1 hc2 hv2
       have HC := As (And.intro hc1 (And.intro hc2 hv2))
       clear hc1 hc2 hv2)
    | ((with_reducible refine gate_builtin (b := .append) (xs := #[.tmp 17, .tmp 18]) rfl ?_); at_builtin; refine append_rows (w0 := w0) (A := [cb w.heap.size 33 cur]) (L := L) rfl (.tmp 17) (.tmp 18) 31 33 (.agg #[.int .i64 0, .int .i64 0]) 2 16 rfl Try.underlying31 copR.info rfl (by decide) (by decide) (.slice (some ⟨w.heap.size, 0, none⟩) n0 (n0 + n1)) n0 xs rfl a1 n1 c1 ys rfl HX.out.2 ⟨HL.out.1, .inr ⟨w.heap.size, n0 + n1, cur, rfl, rfl, HL.out.2, HM.out, by rw [HC.out.1]; exact HZ.out, HC.out.2.1⟩⟩ HC.out.2.2 (H1.out _ _ HC.out.2.2 (fun p hp => List.mem_cons_of_mem _ hp)) HB.out ?_
       intro v2 w2 A2 hG2 hv3
       obtain ⟨ad, c, rfl, -⟩ := hG2.form
       have HG := As (And.intro hG2 hv3)
       clear hG2 hv3))
  go_ret
  exact ⟨ad, c, A2, rfl, HG.out.1, HG.out.2⟩
end Go.Proofs.Ytglbcfkmaamhaaa.Nd
end
namespace Go.Proofs.Ytglbcfkmaamhaaa.Nd
open Go Go.RowKit Go.Proofs.YtglbcfkmaamhaaaW.PrintWords Go.Proofs.YtglbcfkmaamhaaaW.PrintLast Go.Proofs.YtglbcfkmaamhaaaW.PrintMore Go.Proofs.Ytglbcfkmaamhaaa.Hv
section
variable {w0 w w1 : World} {g : Nat} {L L' : List Ob}
theorem splS.calls {a0 a1 : Option Addr} {n0 c0 n1 c1 : Nat} {xs ys : List Value} (hv : Hv w0 w L) (h0 : Rdy 1 w0 L a0 n0 xs) (h1 : Rdy 1 w0 L a1 n1 ys) (hx : ∀ u ∈ xs, u.oneCell' = true) (hy : ∀ u ∈ ys, u.oneCell' = true) (hc0 : n0 ≤ c0) (hn : n0 + n1 < 4000000000000) (at_ gone : Nat) (hag : at_ + gone ≤ n0) :
  Calls Try.prog 97 #[.slice a0 n0 c0, .int .i64 (at_ : Int), .int .i64 (gone : Int), .slice a1 n1 c1] w (RowP w0 L 9 1 (at_ + n1 + (n0 - (at_ + gone))) (xs.take (at_ * 1) ++ ys ++ xs.drop ((at_ + gone) * 1))) := by
 obtain ⟨i0, hi0, hsz⟩ : ∃ i, Try.prog.info? 9 = some i ∧ i.size = 1 := by
  have := copS.size
  cases hi : Try.prog.info? 9 with
  | none => rw [hi] at this; cases this
  | some i => rw [hi] at this; exact ⟨i, rfl, by simpa using this⟩
 have hu := Try.underlying57
 have ew : IntKind.i64.wrap ((at_ : Int) + (gone : Int)) = ((at_ + gone : Nat) : Int) := by rw [IntKind.wrap_i64]; omega
 have ew' : wrap64 ((at_ : Int) + (gone : Int)) = ((at_ + gone : Nat) : Int) := by unfold wrap64; omega
 have q1 : (at_ : Int) ≤ (c0 : Int) := by omega
 have q2 : (at_ : Int) + (gone : Int) ≤ (n0 : Int) := by omega
 have q3 : (0 : Int) ≤ (at_ : Int) := by omega
 have q4 : (0 : Int) ≤ (at_ : Int) + (gone : Int) := by omega
 have q5 : ((at_ : Int) + (gone : Int)).toNat = at_ + gone := by omega
 have HV := As hv
 have HT := As (h0.take at_ (by omega))
 have HD := As (h0.drop (at_ + gone) hag hc0)
 have H1 := As h1
 have HX := As (show (∀ u ∈ xs.take (at_ * 1), u.oneCell' = true) ∧ (∀ u ∈ xs.drop ((at_ + gone) * 1), u.oneCell' = true) from ⟨fun u hu => hx u (List.mem_of_mem_take hu), fun u hu => hx u (List.mem_of_mem_drop hu)⟩)
 have HY := As hy
 have HN := As (show at_ + n1 < 8796093022208 by omega)
 have HB := As (show (at_ + n1 + (n0 - (at_ + gone))) * 16 ≤ 140737488355328 by omega)
 clear hv h0 h1 hx hy hn
 go_enter Try.func97, Try.ntmps97
 go_wp2_with fail
 go_region_law (first
  | (rw [if_pos (by rfl)]; unfold Oper.wp; go_simp; go_at_call 105; go_loud (refine (copS.calls (w0 := w0) (L := L) (by first | exact HV.out.drew | exact HV.out | exact HV.out.drewN _) HT.out H1.out HX.out.1 HY.out HN.out).mono ?_); rintro e2 w2 hq; obtain ⟨ad, c, A, rfl, hG, hv2⟩ := hq; have HG := As (And.intro hG hv2); clear hG hv2)
  | (refine append_rows_step (w0 := w0) (A := A) (L := L) (by rfl) (.tmp 13) (.tmp 18) 57 9 (.string ⟨#[]⟩) 1 16 rfl Try.underlying57 copS.info rfl (by decide) (by decide) (.slice ad (at_ + n1) c) (at_ + n1) (xs.take (at_ * 1) ++ ys) (by simp [Act.eval, Act.put]) (if c0 = at_ + gone then a0 else a0.map (·.add ((at_ + gone) * 1))) (n0 - (at_ + gone)) (c0 - (at_ + gone)) (xs.drop ((at_ + gone) * 1)) (by simp [Act.eval, Act.put]) HX.out.2 HG.out.1 HG.out.2 (HD.out _ _ HG.out.2 (fun p hp => List.mem_append_right _ hp)) HB.out ?_; intro v5 w5 A5 hG5 hv5; obtain ⟨ad5, c5, rfl, -⟩ := hG5.form; have HG5 := As (And.intro hG5 hv5); clear hG5 hv5))
 all_goals go_wp2_with fail
 all_goals
  go_ret
  exact ⟨ad5, c5, A5, rfl, by simpa [List.append_assoc] using HG5.out.1, HG5.out.2⟩
theorem splR.calls {a0 a1 : Option Addr} {n0 c0 n1 c1 : Nat} {xs ys : List Value} (hv : Hv w0 w L) (h0 : Rdy 2 w0 L a0 n0 xs) (h1 : Rdy 2 w0 L a1 n1 ys) (hx : ∀ u ∈ xs, u.oneCell' = true) (hy : ∀ u ∈ ys, u.oneCell' = true) (hc0 : n0 ≤ c0) (hn : n0 + n1 < 4000000000000) (at_ gone : Nat) (hag : at_ + gone ≤ n0) :
  Calls Try.prog 96 #[.slice a0 n0 c0, .int .i64 (at_ : Int), .int .i64 (gone : Int), .slice a1 n1 c1] w (RowP w0 L 33 2 (at_ + n1 + (n0 - (at_ + gone))) (xs.take (at_ * 2) ++ ys ++ xs.drop ((at_ + gone) * 2))) := by
 obtain ⟨i0, hi0, hsz⟩ : ∃ i, Try.prog.info? 33 = some i ∧ i.size = 2 := by
  have := copR.size
  cases hi : Try.prog.info? 33 with
  | none => rw [hi] at this; cases this
  | some i => rw [hi] at this; exact ⟨i, rfl, by simpa using this⟩
 have hu := Try.underlying31
 have ew : IntKind.i64.wrap ((at_ : Int) + (gone : Int)) = ((at_ + gone : Nat) : Int) := by rw [IntKind.wrap_i64]; omega
 have ew' : wrap64 ((at_ : Int) + (gone : Int)) = ((at_ + gone : Nat) : Int) := by unfold wrap64; omega
 have q1 : (at_ : Int) ≤ (c0 : Int) := by omega
 have q2 : (at_ : Int) + (gone : Int) ≤ (n0 : Int) := by omega
 have q3 : (0 : Int) ≤ (at_ : Int) := by omega
 have q4 : (0 : Int) ≤ (at_ : Int) + (gone : Int) := by omega
 have q5 : ((at_ : Int) + (gone : Int)).toNat = at_ + gone := by omega
 have HV := As hv
 have HT := As (h0.take at_ (by omega))
 have HD := As (h0.drop (at_ + gone) hag hc0)
 have H1 := As h1
 have HX := As (show (∀ u ∈ xs.take (at_ * 2), u.oneCell' = true) ∧ (∀ u ∈ xs.drop ((at_ + gone) * 2), u.oneCell' = true) from ⟨fun u hu => hx u (List.mem_of_mem_take hu), fun u hu => hx u (List.mem_of_mem_drop hu)⟩)
 have HY := As hy
 have HN := As (show at_ + n1 < 8796093022208 by omega)
 have HB := As (show (at_ + n1 + (n0 - (at_ + gone))) * 16 ≤ 140737488355328 by omega)
 clear hv h0 h1 hx hy hn
 go_enter Try.func96, Try.ntmps96
 go_wp2_with fail
 go_region_law (first
  | (rw [if_pos (by rfl)]; unfold Oper.wp; go_simp; go_at_call 106; go_loud (refine (copR.calls (w0 := w0) (L := L) (by first | exact HV.out.drew | exact HV.out | exact HV.out.drewN _) HT.out H1.out HX.out.1 HY.out HN.out).mono ?_); rintro e2 w2 hq; obtain ⟨ad, c, A, rfl, hG, hv2⟩ := hq; have HG := As (And.intro hG hv2); clear hG hv2)
  | (refine append_rows_step (w0 := w0) (A := A) (L := L) (by rfl) (.tmp 13) (.tmp 18) 31 33 (.agg #[.int .i64 0, .int .i64 0]) 2 16 rfl Try.underlying31 copR.info rfl (by decide) (by decide) (.slice ad (at_ + n1) c) (at_ + n1) (xs.take (at_ * 2) ++ ys) (by simp [Act.eval, Act.put]) (if c0 = at_ + gone then a0 else a0.map (·.add ((at_ + gone) * 2))) (n0 - (at_ + gone)) (c0 - (at_ + gone)) (xs.drop ((at_ + gone) * 2)) (by simp [Act.eval, Act.put]) HX.out.2 HG.out.1 HG.out.2 (HD.out _ _ HG.out.2 (fun p hp => List.mem_append_right _ hp)) HB.out ?_; intro v5 w5 A5 hG5 hv5; obtain ⟨ad5, c5, rfl, -⟩ := hG5.form; have HG5 := As (And.intro hG5 hv5); clear hG5 hv5))
 all_goals go_wp2_with fail
 all_goals
  go_ret
  exact ⟨ad5, c5, A5, rfl, by simpa [List.append_assoc] using HG5.out.1, HG5.out.2⟩
end
section
variable {w0 w w1 : World} {g : Nat} {L L' : List Ob}
abbrev Rf := Int × Int
structure Nd where
 leaf : Bool
 ver : Int
 keys : List ByteArray
 refs : List Rf
def rcel (r : Rf) : List Value := [.int .i64 r.1, .int .i64 r.2]
def nval (n : Nd) (ka : Option Addr) (kc : Nat) (ra : Option Addr) (rc : Nat) : Value := .agg #[.bool n.leaf, .int .i64 n.ver, .slice ka n.keys.length kc, .slice ra n.refs.length rc]
structure NR (w0 : World) (L : List Ob) (n : Nd) (ka : Option Addr) (kc : Nat) (ra : Option Addr) (rc : Nat) : Prop where
 k : Rdy 1 w0 L ka n.keys.length (n.keys.map Value.string)
 r : Rdy 2 w0 L ra n.refs.length (n.refs.flatMap rcel)
 kc : n.keys.length ≤ kc
 rc : n.refs.length ≤ rc
theorem NR.mono {n : Nd} {ka ra : Option Addr} {kc rc : Nat} (h : NR w0 L n ka kc ra rc) (hL : ∀ p ∈ L, p ∈ L') : NR w0 L' n ka kc ra rc := ⟨h.k.mono hL, h.r.mono hL, h.kc, h.rc⟩
def NV (w0 : World) (L : List Ob) (n : Nd) (v : Value) : Prop := ∃ ka kc ra rc, v = nval n ka kc ra rc ∧ NR w0 L n ka kc ra rc
theorem NV.mono {n : Nd} {v : Value} (h : NV w0 L n v) (hL : ∀ p ∈ L, p ∈ L') : NV w0 L' n v := by
 obtain ⟨ka, kc, ra, rc, e, h1⟩ := h
 exact ⟨ka, kc, ra, rc, e, h1.mono hL⟩
def shp (lf : Bool) (kl rl : Nat) : Bool := if lf then kl == rl else decide (0 < rl) && kl + 1 == rl
def Nd.shape (n : Nd) : Bool := shp n.leaf n.keys.length n.refs.length
theorem shape.calls (hv : Hv w0 w L) (lf : Bool) (vr : Int) (ka ra : Option Addr) (kl kc rl rc : Nat) (hr : rl < 4611686018427387904) :
  Calls Try.prog 93 #[.agg #[.bool lf, .int .i64 vr, .slice ka kl kc, .slice ra rl rc]] w fun e w' => e = .returned (.bool (shp lf kl rl)) ∧ Hv w0 w' L := by
 have hu59 := Try.underlying59
 have hu57 := Try.underlying57
 have hu31 := Try.underlying31
 have HV := As (hv.alloc (.cells #[.bool lf, .int .i64 vr, .slice ka kl kc, .slice ra rl rc] 59))
 obtain ⟨y0, y1, y2, y3, -, -, -, -⟩ := HV.out.c4 w.heap.size 59 (.bool lf) (.int .i64 vr) (.slice ka kl kc) (.slice ra rl rc) List.mem_cons_self
 clear hv
 cases lf
 ·by_cases h0 : 0 < rl
  ·have h0' : ((rl : Int) > 0) := by omega
   have ew : IntKind.i64.wrap ((rl : Int) - 1) = (rl : Int) - 1 := by rw [IntKind.wrap_i64]; omega
   have ew' : wrap64 ((rl : Int) - 1) = (rl : Int) - 1 := by unfold wrap64; omega
   by_cases h1 : kl + 1 = rl
   ·have h1' : ((kl : Int) == (rl : Int) - 1) = true := by rw [beq_iff_eq]; omega
    have HS := As (show shp false kl rl = true by simp [shp, h0, h1])
    clear hr h1
    go_enter Try.func93, Try.ntmps93
    go_wp2_with fail
    exact bodyPost_ret (v := .bool true) (by simp [results, Try.results93, go_sem]) rfl ⟨by rw [HS.out], HV.out.tail⟩
   ·have h1' : ((kl : Int) == (rl : Int) - 1) = false := by rw [beq_eq_false_iff_ne]; omega
    have HS := As (show shp false kl rl = false by simp [shp, h1])
    clear hr h1
    go_enter Try.func93, Try.ntmps93
    go_wp2_with fail
    exact bodyPost_ret (v := .bool false) (by simp [results, Try.results93, go_sem]) rfl ⟨by rw [HS.out], HV.out.tail⟩
  ·have h0' : ¬ ((rl : Int) > 0) := by omega
   have HS := As (show shp false kl rl = false by simp [shp, h0])
   go_enter Try.func93, Try.ntmps93
   go_wp2_with fail
   exact bodyPost_ret (v := .bool false) (by simp [results, Try.results93, go_sem]) rfl ⟨by rw [HS.out], HV.out.tail⟩
 ·by_cases h1 : kl = rl
  ·have HS := As (show shp true kl rl = true by simp [shp, h1])
   subst h1
   go_enter Try.func93, Try.ntmps93
   go_wp2_with fail
   exact bodyPost_ret (v := .bool true) (by simp [results, Try.results93, go_sem]) rfl ⟨by rw [HS.out], HV.out.tail⟩
  ·have h1' : ((kl : Int) == (rl : Int)) = false := by rw [beq_eq_false_iff_ne]; omega
   have HS := As (show shp true kl rl = false by simp [shp, h1])
   go_enter Try.func93, Try.ntmps93
   go_wp2_with fail
   exact bodyPost_ret (v := .bool false) (by simp [results, Try.results93, go_sem]) rfl ⟨by rw [HS.out], HV.out.tail⟩
theorem leaf.calls (hv : Hv w0 w L) (lf : Bool) (vr : Int) (ka ra : Option Addr) (kl kc rl rc : Nat) (hr : rl < 4611686018427387904) :
  Calls Try.prog 94 #[.agg #[.bool lf, .int .i64 vr, .slice ka kl kc, .slice ra rl rc]] w fun e w' => e = .returned (.bool (lf && (kl == rl))) ∧ Hv w0 w' L := by
 have hu59 := Try.underlying59
 have HV := As (hv.alloc (.cells #[.bool lf, .int .i64 vr, .slice ka kl kc, .slice ra rl rc] 59))
 obtain ⟨y0, y1, y2, y3, -, -, -, -⟩ := HV.out.c4 w.heap.size 59 (.bool lf) (.int .i64 vr) (.slice ka kl kc) (.slice ra rl rc) List.mem_cons_self
 have HR := As hr
 clear hv hr
 cases lf
 ·go_enter Try.func94, Try.ntmps94
  go_wp2_with fail
  exact bodyPost_ret (v := .bool false) (by simp [results, Try.results94, go_sem]) rfl ⟨by simp, HV.out.tail⟩
 ·go_enter Try.func94, Try.ntmps94
  go_wp2_with (go_at_call 93; go_loud (refine (shape.calls HV.out true vr ka ra kl kc rl rc HR.out).mono ?_); rintro e2 w2 ⟨rfl, h2⟩; have H2 := As h2; clear h2)
  exact bodyPost_ret (v := .bool (shp true kl rl)) (by simp [results, Try.results94, go_sem]) rfl ⟨by simp [shp], H2.out.tail⟩
theorem size.calls (hv : Hv w0 w L) (lf : Bool) (vr : Int) (ka ra : Option Addr) (kl kc rl rc : Nat) :
  Calls Try.prog 35 #[.agg #[.bool lf, .int .i64 vr, .slice ka kl kc, .slice ra rl rc]] w fun e w' => e = .returned (.int .i64 (rl : Int)) ∧ Hv w0 w' L := by
 have hu59 := Try.underlying59
 have hu31 := Try.underlying31
 have HV := As (hv.alloc (.cells #[.bool lf, .int .i64 vr, .slice ka kl kc, .slice ra rl rc] 59))
 obtain ⟨y0, y1, y2, y3, -, -, -, -⟩ := HV.out.c4 w.heap.size 59 (.bool lf) (.int .i64 vr) (.slice ka kl kc) (.slice ra rl rc) List.mem_cons_self
 clear hv
 go_enter Try.func35, Try.ntmps35
 go_wp2_with fail
 exact bodyPost_ret (v := .int .i64 (rl : Int)) (by simp [results, Try.results35, go_sem]) rfl ⟨rfl, HV.out.tail⟩
end
section
variable {w0 w w1 : World} {g : Nat} {L L' : List Ob}
theorem nanC.calls (a : ByteArray) (w : World) : Calls Try.prog 150 #[.string a] w fun e w' => e = .returned (.bool false) ∧ w' = w := by
 go_enter Try.func150, Try.ntmps150
 go_wp2_with fail
 exact bodyPost_ret (v := .bool false) (by simp [results, Try.results150, go_sem]) rfl ⟨rfl, rfl⟩
theorem nanS.calls (a : ByteArray) (w : World) : Calls Try.prog 143 #[.string a] w fun e w' => e = .returned (.bool false) ∧ w' = w := by
 go_enter Try.func143, Try.ntmps143
 go_wp2_with fail
 exact bodyPost_ret (v := .bool false) (by simp [results, Try.results143, go_sem]) rfl ⟨rfl, rfl⟩
def bl (a b : ByteArray) : Bool := Op.bytesLess a.toList b.toList
theorem less.calls (a b : ByteArray) (w : World) : Calls Try.prog 142 #[.string a, .string b] w fun e w' => e = .returned (.bool (bl a b)) ∧ w' = w := by
 go_enter Try.func142, Try.ntmps142
 go_wp2_with (go_at_call 150; refine (nanC.calls _ _).mono ?_; rintro e w' ⟨rfl, rfl⟩)
 exact bodyPost_ret (v := .bool (bl a b)) (by simp [results, Try.results142, go_sem, bl]) rfl ⟨rfl, rfl⟩
theorem less_trans : ∀ a b c : List UInt8, Op.bytesLess a b = true → Op.bytesLess b c = true → Op.bytesLess a c = true
 | [], [], _, h, _ => by simp [Op.bytesLess] at h
 | [], _ :: _, [], _, h => by simp [Op.bytesLess] at h
 | [], _ :: _, _ :: _, _, _ => by simp [Op.bytesLess]
 | _ :: _, [], _, h, _ => by simp [Op.bytesLess] at h
 | _ :: _, _ :: _, [], _, h => by simp [Op.bytesLess] at h
 | x :: a, y :: b, z :: c, h1, h2 => by
  have ih := less_trans a b c
  simp only [Op.bytesLess, Bool.or_eq_true, decide_eq_true_eq, Bool.and_eq_true, beq_iff_eq] at h1 h2 ⊢
  rcases h1 with h1 | ⟨rfl, h1⟩
  ·rcases h2 with h2 | ⟨rfl, h2⟩
   ·exact .inl (UInt8.lt_trans h1 h2)
   ·exact .inl h1
  ·rcases h2 with h2 | ⟨rfl, h2⟩
   ·exact .inl h2
   ·exact .inr ⟨rfl, ih h1 h2⟩
def plc (k : ByteArray) : List ByteArray → Nat
 | [] => 0
 | x :: l => if bl x k then plc k l + 1 else 0
def Asc (l : List ByteArray) : Prop := l.Pairwise fun x y => bl x y = true
theorem bl_irr (a : ByteArray) : bl a a = false := Less.less_irr _
theorem plc_le (k : ByteArray) : ∀ l : List ByteArray, plc k l ≤ l.length
 | [] => Nat.le_refl _
 | x :: l => by
  have := plc_le k l
  unfold plc
  split
  ·simp only [List.length_cons]; omega
  ·exact Nat.zero_le _
theorem plc_uniq {k : ByteArray} : ∀ {l : List ByteArray} {i : Nat}, i ≤ l.length → (∀ j x, j < i → l[j]? = some x → bl x k = true) → (∀ x, l[i]? = some x → bl x k = false) → i = plc k l
 | [], i, h, _, _ => by
  simp only [List.length_nil] at h
  unfold plc
  omega
 | x :: l, 0, _, _, h2 => by
  unfold plc
  rw [h2 x rfl]
  rfl
 | x :: l, i + 1, h, h1, h2 => by
  unfold plc
  rw [h1 0 x (Nat.succ_pos _) rfl, if_pos rfl]
  rw [← plc_uniq (l := l) (i := i) (by simpa using h) (fun j y hj hy => h1 (j + 1) y (by omega) (by simpa using hy)) (fun y hy => h2 y (by simpa using hy))]
theorem skey (l : List ByteArray) (k : Nat) (x : ByteArray) (h : l[k]? = some x) : (l.map Value.string)[k]? = some (.string x) := by simp [h]
def fnd (k : ByteArray) (l : List ByteArray) : Bool := match l[plc k l]? with | some x => x.toList == k.toList | none => false
theorem bs.calls (hv : Hv w0 w L) {a0 : Option Addr} {c0 : Nat} (l : List ByteArray) (hR : Rdy 1 w0 L a0 l.length (l.map Value.string)) (hl : l.length ≤ 1000000) (hs : Asc l) (k : ByteArray) :
  Calls Try.prog 95 #[.slice a0 l.length c0, .string k] w fun e w' => e = .returned (.tuple #[.int .i64 (plc k l : Int), .bool (fnd k l)]) ∧ Hv w0 w' L := by
 have hu57 := Try.underlying57
 have hu195 := Try.underlying195
 have hu3 := Try.underlying3
 have HR := As (hR.now hv)
 have HV := As hv
 have HL := As hl
 have HS := As hs
 clear hR hv hl hs
 go_enter Try.func95, Try.ntmps95
 go_wp2_with fail
 go_loopg [7, 8] l.length (fun kq v7 v8 wr => ∃ (i j : Nat), v7 = .int .i64 (i : Int) ∧ v8 = .int .i64 (j : Int) ∧ kq = j - i ∧ i ≤ j ∧ j ≤ l.length ∧ wr = w ∧ Aside0 ((∀ m x, m < i → l[m]? = some x → bl x k = true) ∧ (∀ m x, j ≤ m → l[m]? = some x → bl x k = false)))
 case atStart =>
  refine ⟨0, l.length, rfl, rfl, by omega, Nat.zero_le _, Nat.le_refl _, rfl, ⟨fun m x h => absurd h (Nat.not_lt_zero _), fun m x h hx => ?_⟩⟩
  have := (List.getElem?_eq_some_iff.1 hx).1
  omega
 case round =>
  obtain ⟨i, j, rfl, rfl, rfl, hij, hj, rfl, HI⟩ := hrel
  have hj7 : j ≤ 1000000 := by have := HL.out; omega
  by_cases hlt : i < j
  ·have hlt' : (i : Int) < (j : Int) := by omega
   go_upto_region 5 with (fail)
   obtain ⟨m, hmn⟩ : ∃ m : Nat, m = (i + j) / 2 := ⟨_, rfl⟩
   have hm : ((i : Int) + (j : Int)) / 2 = (m : Int) := by omega
   have hm1 : m < l.length := by omega
   have hm2 : i ≤ m ∧ m < j := by omega
   have hm' : (m : Int) < (l.length : Int) := by omega
   rw [hm]
   clear hm
   obtain ⟨ad, ea, hcl⟩ := HR.out.2 (by omega)
   cases ea
   obtain ⟨x, hx⟩ : ∃ x, l[m]? = some x := ⟨_, List.getElem?_eq_getElem hm1⟩
   have z0 := hcl m _ (skey l m x hx)
   have HX := As hx
   have HM := As (And.intro hm2 hmn)
   clear hcl hx hmn
   cases hb : bl x k
   ·go_wp2_with (go_at_call 142; go_loud (refine (less.calls x k _).mono ?_); rw [hb]; rintro e w' ⟨rfl, rfl⟩)
    go_roundg (m - i)
    case measure => omega
    case rel =>
     refine ⟨i, m, rfl, rfl, rfl, by omega, by omega, rfl, ⟨HI.out.1, fun q y hq hy => ?_⟩⟩
     by_cases hqm : q = m
     ·subst hqm
      rw [HX.out] at hy
      cases hy
      exact hb
     ·cases e : bl y k with
      | false => rfl
      | true =>
       have h1 := (List.getElem?_eq_some_iff.1 HX.out)
       have h2 := (List.getElem?_eq_some_iff.1 hy)
       obtain ⟨p1, e1⟩ := h1
       obtain ⟨p2, e2⟩ := h2
       have h3 := (List.pairwise_iff_getElem.1 HS.out) m q p1 p2 (by omega)
       rw [e1, e2] at h3
       have := less_trans _ _ _ h3 e
       unfold bl at hb
       rw [hb] at this
       cases this
   ·go_wp2_with (go_at_call 142; go_loud (refine (less.calls x k _).mono ?_); rw [hb]; rintro e w' ⟨rfl, rfl⟩)
    go_roundg (j - (m + 1))
    case measure => omega
    case rel =>
     refine ⟨m + 1, j, by go_num, rfl, rfl, by omega, by omega, rfl, ⟨fun q y hq hy => ?_, HI.out.2⟩⟩
     by_cases hqm : q = m
     ·subst hqm
      rw [HX.out] at hy
      cases hy
      exact hb
     ·have h1 := (List.getElem?_eq_some_iff.1 HX.out)
      have h2 := (List.getElem?_eq_some_iff.1 hy)
      obtain ⟨p1, e1⟩ := h1
      obtain ⟨p2, e2⟩ := h2
      have h3 := (List.pairwise_iff_getElem.1 HS.out) q m p2 p1 (by omega)
      rw [e1, e2] at h3
      exact less_trans _ _ _ h3 hb
  ·have hge : ¬ (i : Int) < (j : Int) := by omega
   have hij' : i = j := by omega
   subst hij'
   have hpl : i = plc k l := plc_uniq hj (fun q x hq hx => HI.out.1 q x hq hx) (fun x hx => HI.out.2 i x (Nat.le_refl _) hx)
   have HP := As hpl
   clear hpl hge hij
   by_cases hin : i < l.length
   ·have hin' : (i : Int) < (l.length : Int) := by omega
    obtain ⟨ad, ea, hcl⟩ := HR.out.2 (by omega)
    cases ea
    obtain ⟨x, hx⟩ : ∃ x, l[i]? = some x := ⟨_, List.getElem?_eq_getElem hin⟩
    have z0 := hcl i _ (skey l i x hx)
    have HF := As (show fnd k l = (x.toList == k.toList) by unfold fnd; rw [← HP.out, hx])
    clear hcl hx
    cases hb : (x.toList == k.toList)
    ·go_wp2_with (go_at_call 143; refine (nanS.calls _ _).mono ?_; rintro e w' ⟨rfl, rfl⟩)
     exact bodyPost_ret (v := .tuple #[.int .i64 (i : Int), .bool false]) (by simp [results, Try.results95, go_sem]) rfl ⟨by rw [HF.out, hb, ← HP.out], HV.out⟩
    ·go_wp2_with (go_at_call 143; refine (nanS.calls _ _).mono ?_; rintro e w' ⟨rfl, rfl⟩)
     exact bodyPost_ret (v := .tuple #[.int .i64 (i : Int), .bool true]) (by simp [results, Try.results95, go_sem]) rfl ⟨by rw [HF.out, hb, ← HP.out], HV.out⟩
   ·have hin' : ¬ (i : Int) < (l.length : Int) := by omega
    have HF := As (show fnd k l = false by unfold fnd; rw [← HP.out, List.getElem?_eq_none (by omega)])
    go_wp2_with fail
    exact bodyPost_ret (v := .tuple #[.int .i64 (i : Int), .bool false]) (by simp [results, Try.results95, go_sem]) rfl ⟨by rw [HF.out, ← HP.out], HV.out⟩
end
section
variable {w0 w w1 : World} {g : Nat} {L L' : List Ob}
structure Ok (n : Nd) : Prop where
 k : n.keys.length ≤ 1000000
 r : n.refs.length ≤ 1000000
 a : Asc n.keys
def Nd.find (n : Nd) (k : ByteArray) : Nat × Bool := if n.leaf && (n.keys.length == n.refs.length) then (plc k n.keys, fnd k n.keys) else (0, false)
def Nd.child (n : Nd) (k : ByteArray) : Nat := if !n.leaf && n.shape then plc k n.keys + (if fnd k n.keys then 1 else 0) else 0
def Nd.kid (n : Nd) (i : Int) : Bool := !n.leaf && n.shape && decide (0 ≤ i) && decide (i < n.refs.length)
theorem find.calls (hv : Hv w0 w L) {n : Nd} {v : Value} (hn : NV w0 L n v) (ho : Ok n) (k : ByteArray) :
  Calls Try.prog 38 #[v, .string k] w fun e w' => e = .returned (.tuple #[.int .i64 ((n.find k).1 : Int), .bool (n.find k).2]) ∧ Hv w0 w' L := by
 have hu59 := Try.underlying59
 have hu57 := Try.underlying57
 obtain ⟨ka, kc, ra, rc, rfl, hr⟩ := hn
 have HV := As (hv.alloc (.cells #[.bool n.leaf, .int .i64 n.ver, .slice ka n.keys.length kc, .slice ra n.refs.length rc] 59))
 obtain ⟨y0, y1, y2, y3, -, -, -, -⟩ := HV.out.c4 w.heap.size 59 (.bool n.leaf) (.int .i64 n.ver) (.slice ka n.keys.length kc) (.slice ra n.refs.length rc) List.mem_cons_self
 have HR := As (hr.mono (L' := (w.heap.size, Obj.cells #[.bool n.leaf, .int .i64 n.ver, .slice ka n.keys.length kc, .slice ra n.refs.length rc] 59) :: L) (fun p hp => List.mem_cons_of_mem _ hp))
 have HO := As ho
 have HB := As (show n.refs.length < 4611686018427387904 by have := ho.r; omega)
 clear hv hr ho
 unfold nval
 cases hb : (n.leaf && (n.keys.length == n.refs.length))
 ·have HF := As (show n.find k = (0, false) by unfold Nd.find; rw [hb]; rfl)
  go_enter Try.func38, Try.ntmps38
  go_wp2_with (go_at_call 94; go_loud (refine (leaf.calls HV.out n.leaf n.ver ka ra n.keys.length kc n.refs.length rc HB.out).mono ?_); rw [hb]; rintro e2 w2 ⟨rfl, h2⟩; have H2 := As h2; clear h2)
  exact bodyPost_ret (v := .tuple #[.int .i64 0, .bool false]) (by simp [results, Try.results38, go_sem]) rfl ⟨by rw [HF.out]; rfl, H2.out.tail⟩
 ·have HF := As (show n.find k = (plc k n.keys, fnd k n.keys) by unfold Nd.find; rw [hb]; rfl)
  go_enter Try.func38, Try.ntmps38
  go_wp2_with (first | (go_at_call 94; go_loud (refine (leaf.calls HV.out n.leaf n.ver ka ra n.keys.length kc n.refs.length rc HB.out).mono ?_); rw [hb]; rintro e2 w2 ⟨rfl, h2⟩; have H2 := As h2; clear y0 y1 y2 y3; obtain ⟨y0, y1, y2, y3, -, -, -, -⟩ := h2.c4 w.heap.size 59 (.bool n.leaf) (.int .i64 n.ver) (.slice ka n.keys.length kc) (.slice ra n.refs.length rc) List.mem_cons_self; clear h2) | (go_at_call 95; go_loud (refine (bs.calls H2.out n.keys HR.out.k HO.out.k HO.out.a k).mono ?_); rintro e3 w3 ⟨rfl, h3⟩; have H3 := As h3; clear h3))
  exact bodyPost_ret (v := .tuple #[.int .i64 (plc k n.keys : Int), .bool (fnd k n.keys)]) (by simp [results, Try.results38, go_sem]) rfl ⟨by rw [HF.out], H3.out.tail⟩
theorem child.calls (hv : Hv w0 w L) {n : Nd} {v : Value} (hn : NV w0 L n v) (ho : Ok n) (k : ByteArray) :
  Calls Try.prog 40 #[v, .string k] w fun e w' => e = .returned (.int .i64 (n.child k : Int)) ∧ Hv w0 w' L := by
 have hu59 := Try.underlying59
 have hu57 := Try.underlying57
 obtain ⟨ka, kc, ra, rc, rfl, hr⟩ := hn
 have HV := As (hv.alloc (.cells #[.bool n.leaf, .int .i64 n.ver, .slice ka n.keys.length kc, .slice ra n.refs.length rc] 59))
 obtain ⟨y0, y1, y2, y3, -, -, -, -⟩ := HV.out.c4 w.heap.size 59 (.bool n.leaf) (.int .i64 n.ver) (.slice ka n.keys.length kc) (.slice ra n.refs.length rc) List.mem_cons_self
 have HR := As (hr.mono (L' := (w.heap.size, Obj.cells #[.bool n.leaf, .int .i64 n.ver, .slice ka n.keys.length kc, .slice ra n.refs.length rc] 59) :: L) (fun p hp => List.mem_cons_of_mem _ hp))
 have HO := As ho
 have HB := As (show n.refs.length < 4611686018427387904 by have := ho.r; omega)
 have hpl : plc k n.keys ≤ 1000000 := Nat.le_trans (plc_le k n.keys) ho.k
 clear hv hr ho
 unfold nval
 cases hf : n.leaf
 ·cases hb : n.shape
  ·have HF := As (show n.child k = 0 by unfold Nd.child; rw [hb, hf]; rfl)
   have hb' : shp false n.keys.length n.refs.length = false := by unfold Nd.shape at hb; rw [hf] at hb; exact hb
   rw [hf] at HV y0
   clear hb
   go_enter Try.func40, Try.ntmps40
   go_wp2_with (go_at_call 93; go_loud (refine (shape.calls HV.out false n.ver ka ra n.keys.length kc n.refs.length rc HB.out).mono ?_); rw [hb']; rintro e2 w2 ⟨rfl, h2⟩; have H2 := As h2; clear h2)
   exact bodyPost_ret (v := .int .i64 0) (by simp [results, Try.results40, go_sem]) rfl ⟨by rw [HF.out]; rfl, H2.out.tail⟩
  ·have HF := As (show n.child k = plc k n.keys + (if fnd k n.keys then 1 else 0) by unfold Nd.child; rw [hb, hf]; rfl)
   have hb' : shp false n.keys.length n.refs.length = true := by unfold Nd.shape at hb; rw [hf] at hb; exact hb
   rw [hf] at HV y0 HR
   clear hb
   cases hq : fnd k n.keys
   ·go_enter Try.func40, Try.ntmps40
    go_wp2_with (first | (go_at_call 93; go_loud (refine (shape.calls HV.out false n.ver ka ra n.keys.length kc n.refs.length rc HB.out).mono ?_); rw [hb']; rintro e2 w2 ⟨rfl, h2⟩; have H2 := As h2; clear y0 y1 y2 y3; obtain ⟨y0, y1, y2, y3, -, -, -, -⟩ := h2.c4 w.heap.size 59 (.bool false) (.int .i64 n.ver) (.slice ka n.keys.length kc) (.slice ra n.refs.length rc) List.mem_cons_self; clear h2) | (go_at_call 95; go_loud (refine (bs.calls H2.out n.keys HR.out.k HO.out.k HO.out.a k).mono ?_); rw [hq]; rintro e3 w3 ⟨rfl, h3⟩; have H3 := As h3; clear h3))
    exact bodyPost_ret (v := .int .i64 (plc k n.keys : Int)) (by simp [results, Try.results40, go_sem]) rfl ⟨by rw [HF.out, hq]; rfl, H3.out.tail⟩
   ·have ew : IntKind.i64.wrap ((plc k n.keys : Int) + 1) = (plc k n.keys : Int) + 1 := by rw [IntKind.wrap_i64]; omega
    have ew' : wrap64 ((plc k n.keys : Int) + 1) = (plc k n.keys : Int) + 1 := by unfold wrap64; omega
    go_enter Try.func40, Try.ntmps40
    go_wp2_with (first | (go_at_call 93; go_loud (refine (shape.calls HV.out false n.ver ka ra n.keys.length kc n.refs.length rc HB.out).mono ?_); rw [hb']; rintro e2 w2 ⟨rfl, h2⟩; have H2 := As h2; clear y0 y1 y2 y3; obtain ⟨y0, y1, y2, y3, -, -, -, -⟩ := h2.c4 w.heap.size 59 (.bool false) (.int .i64 n.ver) (.slice ka n.keys.length kc) (.slice ra n.refs.length rc) List.mem_cons_self; clear h2) | (go_at_call 95; go_loud (refine (bs.calls H2.out n.keys HR.out.k HO.out.k HO.out.a k).mono ?_); rw [hq]; rintro e3 w3 ⟨rfl, h3⟩; have H3 := As h3; clear h3))
    exact bodyPost_ret (v := .int .i64 ((plc k n.keys : Int) + 1)) (by simp [results, Try.results40, go_sem]) rfl ⟨by rw [HF.out, hq]; simp, H3.out.tail⟩
 ·have HF := As (show n.child k = 0 by unfold Nd.child; rw [hf]; rfl)
  rw [hf] at HV y0
  go_enter Try.func40, Try.ntmps40
  go_wp2_with fail
  exact bodyPost_ret (v := .int .i64 0) (by simp [results, Try.results40, go_sem]) rfl ⟨by rw [HF.out]; rfl, HV.out.tail⟩
theorem kid.calls (hv : Hv w0 w L) (n : Nd) (ka ra : Option Addr) (kc rc : Nat) (i : Int) (hr : n.refs.length < 4611686018427387904) :
  Calls Try.prog 103 #[nval n ka kc ra rc, .int .i64 i] w fun e w' => e = .returned (.bool (n.kid i)) ∧ Hv w0 w' L := by
 have hu59 := Try.underlying59
 have hu31 := Try.underlying31
 have HV := As (hv.alloc (.cells #[.bool n.leaf, .int .i64 n.ver, .slice ka n.keys.length kc, .slice ra n.refs.length rc] 59))
 obtain ⟨y0, y1, y2, y3, -, -, -, -⟩ := HV.out.c4 w.heap.size 59 (.bool n.leaf) (.int .i64 n.ver) (.slice ka n.keys.length kc) (.slice ra n.refs.length rc) List.mem_cons_self
 have HB := As hr
 clear hv hr
 unfold nval
 cases hf : n.leaf
 ·rw [hf] at HV y0
  cases hb : n.shape
  ·have hb' : shp false n.keys.length n.refs.length = false := by unfold Nd.shape at hb; rw [hf] at hb; exact hb
   have HF := As (show n.kid i = false by unfold Nd.kid; rw [hb]; simp)
   clear hb
   go_enter Try.func103, Try.ntmps103
   go_wp2_with (go_at_call 93; go_loud (refine (shape.calls HV.out false n.ver ka ra n.keys.length kc n.refs.length rc HB.out).mono ?_); rw [hb']; rintro e2 w2 ⟨rfl, h2⟩; have H2 := As h2; clear h2)
   exact bodyPost_ret (v := .bool false) (by simp [results, Try.results103, go_sem]) rfl ⟨by rw [HF.out], H2.out.tail⟩
  ·have hb' : shp false n.keys.length n.refs.length = true := by unfold Nd.shape at hb; rw [hf] at hb; exact hb
   by_cases h0 : 0 ≤ i
   ·have h0' : decide (i ≥ 0) = true := decide_eq_true h0
    by_cases h1 : i < (n.refs.length : Int)
    ·have h1' : decide (i < (n.refs.length : Int)) = true := decide_eq_true h1
     have HF := As (show n.kid i = true by unfold Nd.kid; rw [hb, hf]; simp [h0, h1])
     clear hb h0 h1
     go_enter Try.func103, Try.ntmps103
     go_wp2_with (go_at_call 93; go_loud (refine (shape.calls HV.out false n.ver ka ra n.keys.length kc n.refs.length rc HB.out).mono ?_); rw [hb']; rintro e2 w2 ⟨rfl, h2⟩; have H2 := As h2; clear y0 y1 y2 y3; obtain ⟨y0, y1, y2, y3, -, -, -, -⟩ := h2.c4 w.heap.size 59 (.bool false) (.int .i64 n.ver) (.slice ka n.keys.length kc) (.slice ra n.refs.length rc) List.mem_cons_self; clear h2)
     exact bodyPost_ret (v := .bool true) (by simp [results, Try.results103, go_sem]) rfl ⟨by rw [HF.out], H2.out.tail⟩
    ·have h1' : decide (i < (n.refs.length : Int)) = false := decide_eq_false h1
     have HF := As (show n.kid i = false by unfold Nd.kid; rw [hb, hf]; simp [h1])
     clear hb h0 h1
     go_enter Try.func103, Try.ntmps103
     go_wp2_with (go_at_call 93; go_loud (refine (shape.calls HV.out false n.ver ka ra n.keys.length kc n.refs.length rc HB.out).mono ?_); rw [hb']; rintro e2 w2 ⟨rfl, h2⟩; have H2 := As h2; clear y0 y1 y2 y3; obtain ⟨y0, y1, y2, y3, -, -, -, -⟩ := h2.c4 w.heap.size 59 (.bool false) (.int .i64 n.ver) (.slice ka n.keys.length kc) (.slice ra n.refs.length rc) List.mem_cons_self; clear h2)
     exact bodyPost_ret (v := .bool false) (by simp [results, Try.results103, go_sem]) rfl ⟨by rw [HF.out], H2.out.tail⟩
   ·have h0' : decide (i ≥ 0) = false := decide_eq_false h0
    have HF := As (show n.kid i = false by unfold Nd.kid; simp [h0])
    clear hb h0
    go_enter Try.func103, Try.ntmps103
    go_wp2_with (go_at_call 93; go_loud (refine (shape.calls HV.out false n.ver ka ra n.keys.length kc n.refs.length rc HB.out).mono ?_); rw [hb']; rintro e2 w2 ⟨rfl, h2⟩; have H2 := As h2; clear h2)
    exact bodyPost_ret (v := .bool false) (by simp [results, Try.results103, go_sem]) rfl ⟨by rw [HF.out], H2.out.tail⟩
 ·have HF := As (show n.kid i = false by unfold Nd.kid; rw [hf]; rfl)
  rw [hf] at HV y0
  go_enter Try.func103, Try.ntmps103
  go_wp2_with fail
  exact bodyPost_ret (v := .bool false) (by simp [results, Try.results103, go_sem]) rfl ⟨by rw [HF.out], HV.out.tail⟩
end
end Go.Proofs.Ytglbcfkmaamhaaa.Nd
