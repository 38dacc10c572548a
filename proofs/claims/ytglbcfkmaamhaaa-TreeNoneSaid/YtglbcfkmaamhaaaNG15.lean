/- A text of this claim: parts TsB TsC TsD TsE. No condition. -/
import Derived.Test.YtglbcfkmaamhaaaNG1
import Derived.RangeFuncCalls
import Derived.RangeFuncNested
import Derived.OrdersIn
import Derived.Test.YtglbcfkmaamhaaaNG14
import Derived.Test.YtglbcfkmaamhaaaNG13
import Derived.Test.YtglbcfkmaamhaaaNG10
section
set_option linter.unusedVariables false
set_option linter.unusedSimpArgs false
namespace Go.Proofs.Ytglbcfkmaamhaaa.Tr
open Go Go.Proofs.YtglbcfkmaamhaaaW.PrintLast
section
variable {P : Program} {ops : Array Oper} {Q : Exit → Act → World → Prop} {md : Region.Mode} {S : World → Prop} {ds : List Nat} {l n : Nat}
theorem upon_in {o : Oper} {a : Act} {next next' : Act → World → Prop} (hn : ∀ a w, next a w → next' a w) (r : Result Next) (h : o.upon P a next Q r) : o.uponIn (Fence.wide.inRound l) n P a next' Q r := by
 cases r with
 | ok x w' =>
  cases x <;> simp only [Oper.upon] at h <;> simp only [Oper.uponIn]
  case value => exact hn _ _ h
  case skip => exact hn _ _ h
  case defer => exact hn _ _ h
  case enter =>
   refine ⟨fun e => (by cases e), CallsIn.inRound l (callsIn_wide.2 (Calls.mono h (fun e w'' he => ?_)))⟩
   cases e <;> first | exact hn _ _ he | exact he
  case row =>
   refine ⟨fun e => (by cases e), fun c cs _ => ?_⟩
   obtain ⟨v, w'', r, s⟩ := h c cs
   exact ⟨v, w'', hn _ _ r, stepsIn_wide.2 s⟩
 | halt x w' => cases x <;> simp only [Oper.upon] at h <;> simp only [Oper.uponIn] <;> exact h
theorem wpOp_in {i : Nat} {a : Act} {w : World} {K K' : Act → World → Prop} (hno : ¬ LetsOut Q) (hd : ∀ (j : Nat) (o : Oper) c, ops[j]? = some o → o.op ≠ .defer c) (hK : ∀ a w, K a w → K' a w) (h : wpOp P ops Q i K a w) : wpOpIn (Fence.wide.inRound l) n P ops Q i K' a w := by
 unfold wpOp at h
 unfold wpOpIn
 cases ho : ops[i]? with
 | none => rw [ho] at h; exact hK _ _ h
 | some o =>
  rw [ho] at h
  simp only [] at h ⊢
  by_cases hw : Region.wanted o (yielded ops a.tmps) = true
  ·rw [if_pos hw] at h ⊢
   rcases h with h | ⟨_, h⟩
   ·refine ⟨fun _ _ => trivial, ?_⟩
    rw [Oper.semAt_eq _ _ _ (fun c => hd i o c ho)]
    exact upon_in hK _ h
   ·exact absurd h hno
  ·rw [if_neg hw] at h ⊢
   exact ⟨fun _ _ => trivial, hK _ _ h⟩
theorem wpAny_in (hno : ¬ LetsOut Q) (hd : ∀ (j : Nat) (o : Oper) c, ops[j]? = some o → o.op ≠ .defer c) : ∀ (fuel : Nat) (listed : Array Bool) (a : Act) (w : World), wpAny P md ops Q fuel listed a w → wpAnyIn (Fence.wide.inRound l) n P md ops Q fuel listed a w
 | 0, _, _, _, h => h
 | fuel + 1, listed, a, w, h => ⟨h.1, fun i hi => wpOp_in hno hd (fun a w h => wpAny_in hno hd fuel _ a w h) (h.2 i hi)⟩
def plainB (ops : Array Oper) : Bool := ops.toList.all fun o => match o.op with | .defer _ => false | _ => true
theorem plainB_spec (h : plainB ops = true) : ∀ (j : Nat) (o : Oper) c, ops[j]? = some o → o.op ≠ .defer c := fun j o c ho e => by
 have := List.all_eq_true.1 h o (List.mem_of_getElem? (by rw [Array.getElem?_toList]; exact ho))
 rw [e] at this
 cases this
/-- The start of a region's steps, inside a round. -/
theorem startIn_ {id m : Nat} {a : Act} {w : World} (ls : Array Bool) (hno : ¬ LetsOut Q) (hd : plainB ops = true) (hm : P.follows .mixedOrders = true) (hn : ops.size = m) (hl : Array.replicate m false = ls) (hS : S w.drew)
  (h : S w.drew → wpAnyLast P .any ops Q S ds m ls a w.drew) : (Code.region id ops true).wpIn (Fence.wide.inRound l) n P Q a w := by
 subst hn
 subst hl
 exact wpIn_region_any hm (wpAny_in hno (plainB_spec hd) _ _ _ _ (wpAny_of_last _ _ _ _ (h hS)))
end
end Go.Proofs.Ytglbcfkmaamhaaa.Tr
end
section
set_option linter.unusedVariables false
set_option linter.unusedSimpArgs false
namespace Go.Proofs.Ytglbcfkmaamhaaa.Tr
open Go Go.RowKit Go.Shelf Go.Proofs.YtglbcfkmaamhaaaW.PrintWords Go.Proofs.Ytglbcfkmaamhaaa.Hv Go.Proofs.Ytglbcfkmaamhaaa.Arm Go.Proofs.Ytglbcfkmaamhaaa.Nd Go.Proofs.Ytglbcfkmaamhaaa.ArN
variable {w0 w0' w w1 : World} {L L' R R' : List Ob} {K : Nat × Nat × Nat} {t t' : Tm} {on on' : Value} {B : Nat}
theorem Rd.det {size n : Nat} {ad : Option Addr} {xs ys : List Value} (h : Rd size w ad n xs) (k : Rd size w ad n ys) : xs = ys := by
  apply List.ext_getElem?
  intro i
  by_cases hi : i < n * size
  · have hn : 0 < n := by rcases Nat.eq_zero_or_pos n with rfl | h; · rw [Nat.zero_mul] at hi; omega
                          · exact h
    obtain ⟨a, e1, h1⟩ := h.2 hn
    obtain ⟨b, e2, h2⟩ := k.2 hn
    rw [e1] at e2
    cases e2
    have l1 := h.1
    have l2 := k.1
    obtain ⟨u, hu⟩ : ∃ u, xs[i]? = some u := ⟨_, List.getElem?_eq_getElem (by omega)⟩
    obtain ⟨v, hv⟩ : ∃ v, ys[i]? = some v := ⟨_, List.getElem?_eq_getElem (by omega)⟩
    have g1 := h1 i u hu
    rw [h2 i v hv] at g1
    rw [hu, hv]
    exact g1.symm
  · rw [List.getElem?_eq_none (by rw [h.1]; omega), List.getElem?_eq_none (by rw [k.1]; omega)]
theorem Gr.det {e size n n' : Nat} {v : Value} {xs ys : List Value} {A A' : List Ob} (h : Gr e size v n xs A) (k : Gr e size v n' ys A') (hA : ∀ p ∈ A, w.heap[p.1]? = some p.2) (hA' : ∀ p ∈ A', w.heap[p.1]? = some p.2) : n = n' ∧ xs = ys := by
 obtain ⟨h1, h2⟩ := h
 obtain ⟨k1, k2⟩ := k
 rcases h2 with ⟨rfl, rfl, rfl⟩ | ⟨g, cap, cur, rfl, rfl, h3, h4, h5, h6⟩
 ·rcases k2 with ⟨_, rfl, rfl⟩ | ⟨g', cap', cur', e1, _⟩
  ·exact ⟨rfl, (List.eq_nil_of_length_eq_zero (by simpa using h1)).trans (List.eq_nil_of_length_eq_zero (by simpa using k1)).symm⟩
  ·cases e1
 ·rcases k2 with ⟨e1, _⟩ | ⟨g', cap', cur', e1, rfl, k3, k4, k5, k6⟩
  ·cases e1
  ·cases e1
   have a1 := hA _ (List.mem_singleton.2 rfl)
   have a2 := hA' _ (List.mem_singleton.2 rfl)
   simp only [] at a1 a2
   rw [a1] at a2
   simp only [Option.some.injEq, Obj.cells.injEq] at a2
   exact ⟨rfl, by rw [← h6, ← k6, a2.1]⟩
theorem flatMap_inj {α : Type} {f : α → List Value} {m : Nat} (hm : 0 < m) (hl : ∀ x, (f x).length = m) (hf : ∀ x y, f x = f y → x = y) : ∀ {l l' : List α}, l.flatMap f = l'.flatMap f → l = l'
 | [], [], _ => rfl
 | [], y :: l', h => by
  have := congrArg List.length h
  simp only [List.flatMap_nil, List.flatMap_cons, List.length_append, List.length_nil, hl] at this
  omega
 | x :: l, [], h => by
  have := congrArg List.length h
  simp only [List.flatMap_nil, List.flatMap_cons, List.length_append, List.length_nil, hl] at this
  omega
 | x :: l, y :: l', h => by
  rw [List.flatMap_cons, List.flatMap_cons] at h
  obtain ⟨h1, h2⟩ := List.append_inj h (by rw [hl, hl])
  rw [hf _ _ h1, flatMap_inj hm hl hf h2]
theorem rcel_inj (x y : Rf) (h : rcel x = rcel y) : x = y := by
 simp only [rcel, List.cons.injEq, Value.int.injEq, true_and, and_true] at h
 exact Prod.ext h.1 h.2
theorem map_str_inj {l l' : List ByteArray} (h : l.map Value.string = l'.map Value.string) : l = l' := by
 have : Function.Injective Value.string := fun a b e => by cases e; rfl
 exact (List.map_inj_right (fun a b e => this e)).1 h
theorem flat_inj {l l' : List Sl} {m : Nat} (h : ∀ q ∈ l, q.x.length = m) (h' : ∀ q ∈ l', q.x.length = m) (hl : l.length = l'.length) (e : flat l = flat l') : l = l' := by
 have e1 : (l.map Sl.cells).flatten = (l'.map Sl.cells).flatten := by
  have := congrArg Array.toList e
  simpa [flat] using this
 have hc : ∀ (l : List Sl), (∀ q ∈ l, q.x.length = m) → ∀ r ∈ l.map Sl.cells, r.length = m + 2 := fun l h r hr => by
  obtain ⟨q, hq, rfl⟩ := List.mem_map.1 hr
  simp [Sl.cells, h q hq]
 apply List.ext_getElem?
 intro i
 by_cases hi : i < l.length
 ·obtain ⟨q, hq⟩ : ∃ q, l[i]? = some q := ⟨_, List.getElem?_eq_getElem hi⟩
  obtain ⟨q', hq'⟩ : ∃ q', l'[i]? = some q' := ⟨_, List.getElem?_eq_getElem (by omega)⟩
  have ec : q.cells = q'.cells := by
   apply List.ext_getElem?
   intro j
   by_cases hj : j < m + 2
   ·have g1 := flat_get _ (hc l h) i j q.cells (by rw [List.getElem?_map, hq]; rfl) hj
    have g2 := flat_get _ (hc l' h') i j q'.cells (by rw [List.getElem?_map, hq']; rfl) hj
    rw [e1] at g1
    exact g1.symm.trans g2
   ·have a1 : q.cells.length = m + 2 := hc l h _ (List.mem_map.2 ⟨q, List.mem_of_getElem? hq, rfl⟩)
    have a2 : q'.cells.length = m + 2 := hc l' h' _ (List.mem_map.2 ⟨q', List.mem_of_getElem? hq', rfl⟩)
    rw [List.getElem?_eq_none (by omega), List.getElem?_eq_none (by omega)]
  have l1 := h q (List.mem_of_getElem? hq)
  have l2 := h' q' (List.mem_of_getElem? hq')
  obtain ⟨b1, b2⟩ := List.append_inj ec (by rw [l1, l2])
  simp only [List.cons.injEq, Value.int.injEq, Value.bool.injEq, true_and, and_true] at b2
  rw [hq, hq']
  cases q; cases q'
  simp only [Option.some.injEq, Sl.mk.injEq] at *
  exact ⟨b1, b2.1, b2.2⟩
 ·rw [List.getElem?_eq_none (by omega), List.getElem?_eq_none (by omega)]
theorem nums_inj : ∀ {l l' : List Int}, nums .i64 l = nums .i64 l' → l = l' := by
 intro l l' h
 have : l.map (Value.int .i64) = l'.map (Value.int .i64) := h
 exact (List.map_inj_right (fun a b e => by cases e; rfl)).1 this
/-- A memory holds one tree alone. -/
theorem Mt.det (h : Mt w0 w K t on R L) (k : Mt w0' w K t' on' R' L') : t = t' := by
 obtain ⟨s, gv, G, e, ⟨bv, B, h1, h1', h1''⟩, h2, h3⟩ := h
 obtain ⟨s', gv', G', e', ⟨bv', B', k1, k1', k1''⟩, k2, k3⟩ := k
 have b0 := h1.box _ (List.mem_append_left _ (List.mem_cons_self))
 have b0' := k1.box _ (List.mem_append_left _ (List.mem_cons_self))
 simp only [] at b0 b0'
 rw [b0] at b0'
 simp only [Option.some.injEq, Obj.cells.injEq, Array.mk.injEq, List.cons.injEq, Value.slice.injEq, Value.int.injEq, true_and, and_true] at b0'
 obtain ⟨⟨hn, -⟩, rfl, hev, -⟩ := b0'
 have b1 := h1.box _ (List.mem_append_left _ (List.mem_cons_of_mem _ (List.mem_cons_self)))
 have b1' := k1.box _ (List.mem_append_left _ (List.mem_cons_of_mem _ (List.mem_cons_self)))
 simp only [] at b1 b1'
 rw [b1] at b1'
 simp only [Option.some.injEq, Obj.cells.injEq, true_and, and_true] at b1'
 have hsl : s.slots = s'.slots := flat_inj h1''.len k1''.len hn b1'
 obtain ⟨hbl, hbk⟩ := Gr.det (w := w) h1' k1' (fun p hp => h1.box p (by simp [AL, hp])) (fun p hp => k1.box p (by simp [AL, hp]))
 have hback := nums_inj hbk
 have hs : s = s' := by
  cases s; cases s'
  simp only [Ar.mk.injEq]
  exact ⟨hsl, hback, hev⟩
 subst hs
 have b2 := h1.box (tb K t gv on) (by simp)
 have b2' := k1.box (tb K t' gv' on') (by simp)
 simp only [] at b2 b2'
 rw [b2] at b2'
 simp only [Option.some.injEq, Obj.cells.injEq, Array.mk.injEq, List.cons.injEq, Value.int.injEq, true_and, and_true] at b2'
 obtain ⟨hr1, hr2, rfl, -⟩ := b2'
 obtain ⟨_, hg⟩ := Gr.det (w := w) h2 k2 (fun p hp => h1.box p (by simp [hp])) (fun p hp => k1.box p (by simp [hp]))
 have hgone := flatMap_inj (m := 2) (by decide) (fun _ => rfl) rcel_inj hg
 have hvR : Hv w0 w R := by
  have := h1.drop (L' := R) (by
   refine List.Sublist.trans ?_ (List.sublist_append_right _ _)
   refine List.Sublist.trans ?_ (List.sublist_cons_self _ _)
   exact (List.sublist_append_left R L).trans (List.sublist_append_right _ _))
  exact this
 have hvR' : Hv w0' w R' := by
  have := k1.drop (L' := R') (by
   refine List.Sublist.trans ?_ (List.sublist_append_right _ _)
   refine List.Sublist.trans ?_ (List.sublist_cons_self _ _)
   exact (List.sublist_append_left R' L').trans (List.sublist_append_right _ _))
  exact this
 have hns : t.ns = t'.ns := by
  apply List.ext_getElem?
  intro i
  by_cases hi : i < s.n
  ·obtain ⟨n, hn1⟩ : ∃ n, t.ns[i]? = some n := ⟨_, List.getElem?_eq_getElem (by rw [h3.len]; exact hi)⟩
   obtain ⟨m, hm1⟩ : ∃ m, t'.ns[i]? = some m := ⟨_, List.getElem?_eq_getElem (by rw [k3.len]; exact hi)⟩
   obtain ⟨ka, kc, ra, rc, e1, r1⟩ := h3.row i n hn1
   obtain ⟨ka', kc', ra', rc', e2, r2⟩ := k3.row i m hm1
   rw [e1] at e2
   simp only [slv, List.cons.injEq, Value.bool.injEq, Value.int.injEq, Value.slice.injEq, true_and, and_true] at e2
   obtain ⟨q1, q2, ⟨rfl, q3, rfl⟩, rfl, q4, rfl⟩ := e2
   have g1 := r1.k.now hvR
   have g2 := r2.k.now hvR'
   have g3 := r1.r.now hvR
   have g4 := r2.r.now hvR'
   rw [← q3] at g2
   rw [← q4] at g4
   have hk := map_str_inj (Rd.det g1 g2)
   have hrf := flatMap_inj (m := 2) (by decide) (fun _ => rfl) rcel_inj (Rd.det g3 g4)
   rw [hn1, hm1]
   cases n; cases m
   simp only [Option.some.injEq, Nd.mk.injEq] at *
   exact ⟨q1, q2, hk, hrf⟩
  ·rw [List.getElem?_eq_none (by rw [h3.len]; omega), List.getElem?_eq_none (by rw [k3.len]; omega)]
 cases t; cases t'
 simp only [Tm.mk.injEq] at *
 exact ⟨by rw [← e, ← e'], hns, Prod.ext hr1 hr2, hgone⟩
/-- One element of a row of refs. -/
theorem Rdy.elem {s : List Rf} {a : Addr} {j : Nat} (h : Rdy 2 w0 L (some a) s.length (s.flatMap rcel)) (hj : j < s.length) : Rdy 2 w0 L (some (a.add (j * 2))) 1 (rcel (s.getD j (0, 0))) := fun W L' hv hL => by
 obtain ⟨h1, h2⟩ := h W L' hv hL
 refine ⟨rfl, fun _ => ?_⟩
 obtain ⟨b, e, h3⟩ := h2 (by omega)
 cases e
 refine ⟨_, rfl, fun i u hu => ?_⟩
 obtain ⟨q, hq⟩ : ∃ q, s[j]? = some q := ⟨_, List.getElem?_eq_getElem hj⟩
 have hd : s.getD j (0, 0) = q := by rw [List.getD_eq_getElem?_getD, hq]; rfl
 rw [hd] at hu
 obtain ⟨r0, r1⟩ := rcel_get s j q hq
 have hi : i = 0 ∨ i = 1 := by
  have := (List.getElem?_eq_some_iff.1 hu).1
  simp [rcel] at this
  omega
 rcases hi with rfl | rfl
 ·have hu' : Value.int .i64 q.1 = u := by simpa [rcel] using hu
  rw [← hu', Addr.add_add, Nat.add_zero]
  exact h3 _ _ r0
 ·have hu' : Value.int .i64 q.2 = u := by simpa [rcel] using hu
  rw [← hu', Addr.add_add]
  exact h3 _ _ r1
/-- As Mt.keepsB, for whatever list holds what lay behind B. -/
theorem Mt.keepsX (h : Mt w0 w K t on R L) (hb : Below w.heap.size w w1) (hlt : w.heap.size < w1.heap.size) (hB : w0.heap.size ≤ B) (hBw : B ≤ w.heap.size) (hR : ∀ p ∈ R, p.1 < B ∨ p.2.isCells = true) (hL : ∀ p ∈ L, p.1 < B ∨ p.2.isCells = true) :
  ∃ X, Mt w0 w1 K t on R (L ++ X) ∧ ∀ (w2 : World), (∀ p ∈ X, w2.heap[p.1]? = some p.2) → KeepsFrom B w1 w2 := by
 obtain ⟨s, gv, G, e, ⟨bv, Bb, h1, h1', h1''⟩, h2, h3⟩ := h
 have hc := h1.call hb
 refine ⟨restB w1 B ((AL K.2.1 K.2.2 bv Bb s ++ (tb K t gv on :: (G ++ (R ++ L))))), ⟨s, gv, G, e, ⟨bv, Bb, ?_, h1', h1''⟩, h2, h3⟩, fun w2 hrest => ?_⟩
 ·have := Hv.withR hc hB
  refine this.perm ?_
  have key : ∀ X : List Ob, (AL K.2.1 K.2.2 bv Bb s ++ (tb K t gv on :: (G ++ (R ++ (L ++ X))))).Perm ((AL K.2.1 K.2.2 bv Bb s ++ (tb K t gv on :: (G ++ (R ++ L)))) ++ X) := fun X => by
   simp only [List.append_assoc, List.cons_append]
   exact List.Perm.refl _
  exact key _
 ·have hlow : ∀ q ∈ (AL K.2.1 K.2.2 bv Bb s ++ (tb K t gv on :: (G ++ (R ++ L)))), q.1 < w.heap.size := fun q hq => h1.lt q hq
  refine ⟨?_, fun k o hk ho1 hco => ?_⟩
  ·have hlast : (w1.heap.size - 1, w1.heap[w1.heap.size - 1]) ∈ restB w1 B ((AL K.2.1 K.2.2 bv Bb s ++ (tb K t gv on :: (G ++ (R ++ L))))) := by
    refine restB_mem.2 ⟨by simp only []; omega, fun hm => ?_, by simp⟩
    obtain ⟨q, hq, e1⟩ := List.mem_map.1 hm
    have e2 : q.1 = w1.heap.size - 1 := e1
    have := hlow q hq
    omega
   have := blk_lt (hrest _ hlast)
   simp only [] at this
   omega
  ·by_cases hm : k ∈ (AL K.2.1 K.2.2 bv Bb s ++ (tb K t gv on :: (G ++ (R ++ L)))).map (·.1)
   ·obtain ⟨q, hq, rfl⟩ := List.mem_map.1 hm
    have hqo := hc.box q hq
    rw [ho1] at hqo
    have e3 : o = q.2 := Option.some.inj hqo
    exfalso
    simp only [AL, List.cons_append, List.mem_cons, List.mem_append] at hq
    rcases hq with rfl | rfl | hq | rfl | hq | hq | hq
    ·rw [e3] at hco; cases hco
    ·rw [e3] at hco; cases hco
    ·rw [e3, gr_cells h1' q hq] at hco; cases hco
    ·rw [e3] at hco; cases hco
    ·rw [e3, gr_cells h2 q hq] at hco; cases hco
    ·rcases hR q hq with h5 | h5
     ·omega
     ·rw [e3, h5] at hco; cases hco
    ·rcases hL q hq with h5 | h5
     ·omega
     ·rw [e3, h5] at hco; cases hco
   ·exact hrest (k, o) (restB_mem.2 ⟨hk, hm, ho1⟩)
end Go.Proofs.Ytglbcfkmaamhaaa.Tr
end
section
set_option linter.unusedVariables false
set_option linter.unusedSimpArgs false
namespace Go.Proofs.Ytglbcfkmaamhaaa.Tr
open Go Go.RowKit Go.Shelf Go.Proofs.YtglbcfkmaamhaaaW.PrintWords Go.Proofs.Ytglbcfkmaamhaaa.Hv Go.Proofs.Ytglbcfkmaamhaaa.Arm Go.Proofs.Ytglbcfkmaamhaaa.Nd Go.Proofs.Ytglbcfkmaamhaaa.ArN
/-- A turn. -/
structure Trn where
 node : Rf
 src : Rf
 old : Int
 new : Int
 fresh : Bool
def tcel (x : Trn) : List Value := [.int .i64 x.node.1, .int .i64 x.node.2, .int .i64 x.src.1, .int .i64 x.src.2, .int .i64 x.old, .int .i64 x.new, .bool x.fresh]
theorem tcel_inj (x y : Trn) (h : tcel x = tcel y) : x = y := by
 simp only [tcel, List.cons.injEq, Value.int.injEq, Value.bool.injEq, true_and, and_true] at h
 obtain ⟨h1, h2, h3, h4, h5, h6, h7⟩ := h
 cases x; cases y
 simp only [Trn.mk.injEq] at *
 exact ⟨Prod.ext h1 h2, Prod.ext h3 h4, h5, h6, h7⟩
theorem infoT : (Try.prog.info? 173).map (fun i => (i.zero, i.size, i.bytes)) = some (some (.agg #[.int .i64 0, .int .i64 0, .int .i64 0, .int .i64 0, .int .i64 0, .int .i64 0, .bool false]), 7, 56) := by kernel_rfl
def stp (leaf : Rf) (s : Tm × List Trn) (x : Rf) (up : Option Rf) : Tm × List Trn :=
 ((s.1.split x up).1, if x = leaf then s.2 ++ [⟨(s.1.split x up).2, leaf, 0, ((s.1.split x up).1.at (s.1.split x up).2).ver, true⟩] else s.2)
def atI (s : List Rf) (x : Ix s.length) : Rf := s.getD x.1 (0, 0)
def upI (s : List Rf) (x : Ix s.length) : Option Rf := if x.1 = 0 then none else some (s.getD (x.1 - 1) (0, 0))
def stpI (s : List Rf) (leaf : Rf) (p : Tm × List Trn) (x : Ix s.length) : Tm × List Trn := stp leaf p (atI s x) (upI s x)
def foldI (s : List Rf) (leaf : Rf) (p : Tm × List Trn) (xs : List (Ix s.length)) : Tm × List Trn := xs.foldl (stpI s leaf) p
theorem foldI_snoc (s : List Rf) (leaf : Rf) (p : Tm × List Trn) (xs : List (Ix s.length)) (x : Ix s.length) : foldI s leaf p (xs ++ [x]) = stpI s leaf (foldI s leaf p xs) x := by simp [foldI]
def smallI (s : List Rf) (p : Tm × List Trn) (x : Ix s.length) : Bool := decide ((p.1.at (atI s x)).refs.length ≤ 4)
def runsI (s : List Rf) (leaf : Rf) : List (Ix s.length) → Tm × List Trn → Tm × List Trn
 | [], p => p
 | x :: xs, p => if smallI s p x then p else runsI s leaf xs (stpI s leaf p x)
def Along (s : List Rf) (leaf : Rf) : Tm × List Trn → List (Ix s.length) → Prop
 | _, [] => True
 | p, x :: xs => smallI s p x = false ∧ Along s leaf (stpI s leaf p x) xs
theorem Along.snoc {s : List Rf} {leaf : Rf} : ∀ {xs : List (Ix s.length)} {p : Tm × List Trn} {x : Ix s.length}, Along s leaf p xs → smallI s (foldI s leaf p xs) x = false → Along s leaf p (xs ++ [x])
 | [], p, x, _, h => ⟨h, trivial⟩
 | y :: xs, p, x, ⟨h1, h2⟩, h => ⟨h1, Along.snoc h2 h⟩
theorem runsI_app {s : List Rf} {leaf : Rf} : ∀ {xs ys : List (Ix s.length)} {p : Tm × List Trn}, Along s leaf p xs → runsI s leaf (xs ++ ys) p = runsI s leaf ys (foldI s leaf p xs)
 | [], ys, p, _ => rfl
 | x :: xs, ys, p, ⟨h1, h2⟩ => by
  rw [List.cons_append, runsI, h1, if_neg (by simp), runsI_app h2]
  rfl
theorem ixL_rest (n : Nat) : ∀ (k : Nat) (hk : k ≤ n) (m : Nat) (hm : m ≤ n), k ≤ m → ∃ rest, ixL n m hm = ixL n k hk ++ rest
  | k, hk, m, hm, h => by
    induction m with
    | zero => have e : k = 0 := by omega
              subst e
              exact ⟨[], by simp⟩
    | succ m ih =>
      by_cases e : k = m + 1
      · subst e
        exact ⟨[], by simp⟩
      · obtain ⟨rest, hr⟩ := ih (by omega) (by omega)
        exact ⟨rest ++ [ixf n m (by omega)], by rw [ixL, hr, List.append_assoc]⟩
/-- All were parted. -/
theorem runs_done {s : List Rf} {leaf : Rf} {p : Tm × List Trn} (h : Along s leaf p (ixL s.length s.length (Nat.le_refl _))) : runsI s leaf (ixL s.length s.length (Nat.le_refl _)) p = foldI s leaf p (ixL s.length s.length (Nat.le_refl _)) := by
 have := runsI_app (ys := []) h
 rw [List.append_nil] at this
 exact this
/-- Some were parted, and the next one is small enough. -/
theorem runs_stop {s : List Rf} {leaf : Rf} {p : Tm × List Trn} {pre : List (Ix s.length)} {x : Ix s.length} {k : Nat} (hk : k ≤ s.length) (e : ixL s.length k hk = pre ++ [x]) (h : Along s leaf p pre) (hx : smallI s (foldI s leaf p pre) x = true) : runsI s leaf (ixL s.length s.length (Nat.le_refl _)) p = foldI s leaf p pre := by
 obtain ⟨rest, hr⟩ := ixL_rest s.length k hk s.length (Nat.le_refl _) hk
 rw [hr, e, List.append_assoc, runsI_app h, List.singleton_append, runsI, hx, if_pos rfl]
/-! ### How great nodes grow -/
def Bd (t : Tm) (m : Nat) : Prop := ∀ n ∈ t.ns, n.keys.length ≤ m ∧ n.refs.length ≤ m
theorem Bd.at {t : Tm} {m : Nat} (h : Bd t m) (r : Rf) : (t.at r).keys.length ≤ m ∧ (t.at r).refs.length ≤ m := by
 unfold Tm.at
 split
 ·rw [List.getD_eq_getElem?_getD]
  cases e : t.ns[r.1.toNat]? with
  | none => exact ⟨Nat.zero_le _, Nat.zero_le _⟩
  | some n => exact h n (List.mem_of_getElem? e)
 ·exact ⟨Nat.zero_le _, Nat.zero_le _⟩
theorem Bd.mono {t : Tm} {m k : Nat} (h : Bd t m) (hk : m ≤ k) : Bd t k := fun n hn => ⟨Nat.le_trans (h n hn).1 hk, Nat.le_trans (h n hn).2 hk⟩
theorem Bd.sm {t : Tm} {m : Nat} (h : Bd t m) (hm : m ≤ 1000000) (r : Rf) : Nd.Sm (t.at r) := ⟨Nat.le_trans (h.at r).1 hm, Nat.le_trans (h.at r).2 hm⟩
theorem Bd.set {t : Tm} {m : Nat} (h : Bd t m) (r : Rf) {n : Nd.Nd} (hn : n.keys.length ≤ m ∧ n.refs.length ≤ m) : Bd (t.set r n) m := by
 unfold Tm.set
 split
 ·intro x hx
  rcases List.mem_or_eq_of_mem_set hx with hx | rfl
  ·exact h x hx
  ·exact hn
 ·exact h
theorem Bd.take {t : Tm} {m : Nat} (h : Bd t m) {n : Nd.Nd} (hn : n.keys.length ≤ m ∧ n.refs.length ≤ m) : Bd (t.take n) m := by
 unfold Tm.take
 split
 ·exact h
 ·intro x hx
  rcases List.mem_or_eq_of_mem_set hx with hx | rfl
  ·exact h x hx
  ·exact hn
theorem split_bd {n : Nd.Nd} {m : Nat} (h : n.keys.length ≤ m ∧ n.refs.length ≤ m) : (n.split.1.keys.length ≤ m ∧ n.split.1.refs.length ≤ m) ∧ n.split.2.2.keys.length ≤ m ∧ n.split.2.2.refs.length ≤ m := by
 unfold Nd.Nd.split
 split
 ·simp only [List.length_take, List.length_drop]
  omega
 ·exact ⟨h, by simp⟩
theorem insert_bd {n : Nd.Nd} {m : Nat} (h : n.keys.length ≤ m ∧ n.refs.length ≤ m) (i : Int) (k : ByteArray) (r : Rf) : (n.insert i k r).keys.length ≤ m + 1 ∧ (n.insert i k r).refs.length ≤ m + 1 := by
 unfold Nd.Nd.insert
 split
 ·simp only [List.length_append, List.length_take, List.length_drop, List.length_singleton]
  omega
 ·omega
theorem put_bd {n : Nd.Nd} {m : Nat} (h : n.keys.length ≤ m ∧ n.refs.length ≤ m) (k : ByteArray) (r : Rf) : (n.put k r).1.keys.length ≤ m + 1 ∧ (n.put k r).1.refs.length ≤ m + 1 := by
 have hle := plc_le k n.keys
 unfold Nd.Nd.put
 split
 ·split
  ·simp only [List.length_append, List.length_take, List.length_drop, List.length_singleton]
   omega
  ·simp only [List.length_append, List.length_take, List.length_drop, List.length_singleton]
   omega
 ·simp only []
  omega
theorem Bd.split {t : Tm} {m : Nat} (h : Bd t m) (hm : 2 ≤ m) (r : Rf) (up : Option Rf) : Bd (t.split r up).1 (m + 1) := by
 obtain ⟨h1, h2⟩ := split_bd (h.at r)
 have h3 : Bd (((t.set r (t.at r).split.1).take (t.at r).split.2.2)) m := (h.set r h1).take h2
 unfold Tm.split
 cases up with
 | none =>
  have := h3.take (n := ⟨false, 1, [(t.at r).split.2.1], [r, (t.set r (t.at r).split.1).tk]⟩) (by simp; omega)
  exact fun n hn => ⟨Nat.le_succ_of_le (this n hn).1, Nat.le_succ_of_le (this n hn).2⟩
 | some u => exact (h3.mono (Nat.le_succ m)).set u (insert_bd (h3.at u) _ _ _)
theorem Bd.fold {s : List Rf} {leaf : Rf} : ∀ {xs : List (Ix s.length)} {p : Tm × List Trn} {m : Nat}, Bd p.1 m → 2 ≤ m → Bd (foldI s leaf p xs).1 (m + xs.length)
 | [], p, m, h, _ => h
 | x :: xs, p, m, h, hm => by
  have := Bd.fold (leaf := leaf) (xs := xs) (p := stpI s leaf p x) (Bd.split h hm _ _) (by omega)
  rw [List.length_cons, show m + (xs.length + 1) = m + 1 + xs.length by omega]
  exact this
theorem fold_len {s : List Rf} {leaf : Rf} : ∀ {xs : List (Ix s.length)} {p : Tm × List Trn}, (foldI s leaf p xs).2.length ≤ p.2.length + xs.length
 | [], p => Nat.le_refl _
 | x :: xs, p => by
  have := fold_len (s := s) (leaf := leaf) (xs := xs) (p := stpI s leaf p x)
  have h2 : (stpI s leaf p x).2.length ≤ p.2.length + 1 := by
   unfold stpI stp
   simp only []
   split <;> simp
  show (foldI s leaf (stpI s leaf p x) xs).2.length ≤ _
  rw [List.length_cons]
  omega
theorem stpI_leaf {s : List Rf} {leaf : Rf} {p : Tm × List Trn} {x : Ix s.length} (h : atI s x = leaf) : stpI s leaf p x = ((p.1.split (atI s x) (upI s x)).1, p.2 ++ [⟨(p.1.split (atI s x) (upI s x)).2, leaf, 0, ((p.1.split (atI s x) (upI s x)).1.at (p.1.split (atI s x) (upI s x)).2).ver, true⟩]) := by
 unfold stpI stp
 rw [if_pos h]
theorem stpI_else {s : List Rf} {leaf : Rf} {p : Tm × List Trn} {x : Ix s.length} (h : atI s x ≠ leaf) : stpI s leaf p x = ((p.1.split (atI s x) (upI s x)).1, p.2) := by
 unfold stpI stp
 rw [if_neg h]
/-- What Put answers and leaves: the tree, the turns, the error. -/
def Tm.putW (t : Tm) (key : ByteArray) (r : Rf) (l : List (Rf × Nat)) (q : Rf) : Tm × List Trn × Int :=
 if (t.find key q).2 then (t, [], 13)
 else if t.roomFor (wayL l q) then
  let s := runsI (wayL l q) q (ixL (wayL l q).length (wayL l q).length (Nat.le_refl _)) (t.set q ((t.at q).put key r).1, [])
  (s.1, ⟨q, (0, 0), (t.at q).ver, (s.1.at q).ver, false⟩ :: s.2, 0)
 else (t, [], 20)
def TPutP (w0 : World) (K : Nat × Nat × Nat) (L : List Ob) (p : Tm × List Trn × Int) (e : Ending) (w' : World) : Prop :=
 ∃ ad c A R, e = .returned (.tuple #[.slice ad p.2.1.length c, .int .i64 p.2.2]) ∧ Gr 173 7 (.slice ad p.2.1.length c) p.2.1.length (p.2.1.flatMap tcel) A ∧ Mt w0 w' K p.1 .nilFunc R (A ++ L)
end Go.Proofs.Ytglbcfkmaamhaaa.Tr
end
section
set_option linter.unusedVariables false
set_option linter.unusedSimpArgs false
namespace Go.Proofs.Ytglbcfkmaamhaaa.Tr
open Go Go.RowKit Go.Proofs.YtglbcfkmaamhaaaW.PrintWords Go.Proofs.YtglbcfkmaamhaaaW.PrintLast Go.Proofs.YtglbcfkmaamhaaaW.PrintMore Go.Proofs.Ytglbcfkmaamhaaa.Hv Go.Proofs.Ytglbcfkmaamhaaa.Arm Go.Proofs.Ytglbcfkmaamhaaa.Nd Go.Proofs.Ytglbcfkmaamhaaa.ArN
variable {w0 w w1 : World} {L L' R : List Ob} {K : Nat × Nat × Nat} {t : Tm} {on : Value}
set_option maxHeartbeats 16000000 in
set_option maxRecDepth 100000 in
theorem putT.dup (h : Mt w0 w K t on R L) (key : ByteArray) (r : Rf) {l : List (Rf × Nat)} {q : Rf} (hd : Dn t key t.root l q) (ho : Nd.Ok (t.at q)) (hm : l.length < 1000000) (hf : (t.find key q).2 = true) : Calls Try.prog 66 #[.pointer (some ⟨K.1, 0, none⟩), .string key, .agg #[.int .i64 r.1, .int .i64 r.2]] w (TPutP w0 K L (t, [], 13)) := by
 have hu59 := Try.underlying59
 have hu33 := Try.underlying33
 have hu31 := Try.underlying31
 have hu85 := Try.underlying85
 have hu80 := Try.underlying80
 have hu173 := Try.underlying173
 have HM := Aside0.mk (show Mt w0 _ K t on R (cb (w.heap.size + 1) 33 #[.int .i64 r.1, .int .i64 r.2] :: cb w.heap.size 80 #[.pointer (some ⟨K.1, 0, none⟩)] :: L) by
  have := (h.alloc (.cells #[.pointer (some ⟨K.1, 0, none⟩)] 80)).alloc (.cells #[.int .i64 r.1, .int .i64 r.2] 33)
  simpa [cb] using this)
 obtain ⟨fr, hfr⟩ : ∃ fr, t.find key q = (fr, true) := ⟨_, Prod.ext rfl hf⟩
 have HD := Aside0.mk (And.intro hd (And.intro ho hfr))
 clear h hd ho hm hf hfr
 obtain ⟨y0, yf⟩ := HM.out.other.c1 w.heap.size 80 (.pointer (some ⟨K.1, 0, none⟩)) (by simp)
 go_enter Try.func66, Try.ntmps66
 go_wp2_with (go_at_call 71; go_loud (refine (find.calls HM.out key HD.out.1 HD.out.2.1).mono ?_); rw [HD.out.2.2]; rintro e2 w2 ⟨rfl, hh⟩; have H2 := Aside0.mk hh; clear hh)
 exact bodyPost_ret (v := .tuple #[.slice none 0 0, .int .i64 13]) (by simp [results, Try.results66, go_sem]) rfl ⟨none, 0, [], R, rfl, Gr.nil 173 7, ((H2.out.alloc _).alloc _).tail.tail.tail.tail⟩
set_option maxHeartbeats 16000000 in
set_option maxRecDepth 100000 in
theorem putT.full (h : Mt w0 w K t on R L) (key : ByteArray) (r : Rf) {l : List (Rf × Nat)} {q : Rf} (hd : Dn t key t.root l q) (ho : Nd.Ok (t.at q)) (hm : l.length < 1000000) (hf : (t.find key q).2 = false) (hr : t.roomFor (wayL l q) = false) : Calls Try.prog 66 #[.pointer (some ⟨K.1, 0, none⟩), .string key, .agg #[.int .i64 r.1, .int .i64 r.2]] w (TPutP w0 K L (t, [], 20)) := by
 have hu59 := Try.underlying59
 have hu33 := Try.underlying33
 have hu31 := Try.underlying31
 have hu85 := Try.underlying85
 have hu80 := Try.underlying80
 have hu173 := Try.underlying173
 have HM := Aside0.mk (show Mt w0 _ K t on R (cb (w.heap.size + 1) 33 #[.int .i64 r.1, .int .i64 r.2] :: cb w.heap.size 80 #[.pointer (some ⟨K.1, 0, none⟩)] :: L) by
  have := (h.alloc (.cells #[.pointer (some ⟨K.1, 0, none⟩)] 80)).alloc (.cells #[.int .i64 r.1, .int .i64 r.2] 33)
  simpa [cb] using this)
 obtain ⟨fr, hfr⟩ : ∃ fr, t.find key q = (fr, false) := ⟨_, Prod.ext rfl hf⟩
 have HD := Aside0.mk (And.intro hd (And.intro ho hfr))
 have HL := Aside0.mk (And.intro hm hr)
 have hwl : (wayL l q).length = l.length + 1 := by simp [wayL]
 have HWL := Aside0.mk hwl
 clear h hd ho hm hf hfr hr hwl
 obtain ⟨y0, yf⟩ := HM.out.other.c1 w.heap.size 80 (.pointer (some ⟨K.1, 0, none⟩)) (by simp)
 go_enter Try.func66, Try.ntmps66
 go_upto_region 6 with (go_at_call 71; go_loud (refine (find.calls HM.out key HD.out.1 HD.out.2.1).mono ?_); rw [HD.out.2.2]; rintro e2 w2 ⟨rfl, hh⟩; have H2 := Aside0.mk hh; clear hh)
 obtain ⟨W3, hW, hM⟩ : ∃ W, W = _ ∧ Mt w0 W K t .nilFunc R (cb (w.heap.size + 1) 33 #[.int .i64 r.1, .int .i64 r.2] :: cb w.heap.size 80 #[.pointer (some ⟨K.1, 0, none⟩)] :: L) := ⟨_, rfl, ((H2.out.alloc _).alloc _).tail.tail⟩
 rw [← hW]
 have H3 := Aside0.mk hM
 clear hW hM y0 yf
 obtain ⟨y0, yf⟩ := H3.out.other.c1 w.heap.size 80 (.pointer (some ⟨K.1, 0, none⟩)) (by simp)
 go_upto_region 7 with (go_at_call 110; go_loud (refine (way.calls H3.out key HD.out.1 HL.out.1).mono ?_); rintro e4 w4 ⟨ad, c, A, rfl, hG, hh⟩; have H4 := Aside0.mk hh; have HG := Aside0.mk hG; clear hh hG)
 obtain ⟨W5, hW, hM⟩ : ∃ W, W = _ ∧ Mt w0 W K t .nilFunc R (cb w4.heap.size 31 #[.slice ad (wayL l q).length c] :: (A ++ (cb (w.heap.size + 1) 33 #[.int .i64 r.1, .int .i64 r.2] :: cb w.heap.size 80 #[.pointer (some ⟨K.1, 0, none⟩)] :: L))) := ⟨_, rfl, H4.out.alloc _⟩
 rw [← hW]
 have H5 := Aside0.mk hM
 clear hW hM y0 yf
 generalize w4.heap.size = g11 at H5 ⊢
 obtain ⟨y0, yf⟩ := H5.out.other.c1 w.heap.size 80 (.pointer (some ⟨K.1, 0, none⟩)) (by simp)
 obtain ⟨z0, zf⟩ := H5.out.other.c1 g11 31 (.slice ad (wayL l q).length c) (by simp)
 go_wp2_with (go_at_call 118; go_loud (refine (room.calls H5.out (wayL l q) (by rw [HWL.out]; have := HL.out.1; omega) ((Rdy.of_rw (Rw.of_gr HG.out)).mono (fun p hp => by simp [hp]))).mono ?_); rw [HL.out.2]; rintro e6 w6 ⟨rfl, hh⟩; have H6 := Aside0.mk hh; clear hh)
 exact bodyPost_ret (v := .tuple #[.slice none 0 0, .int .i64 20]) (by simp [results, Try.results66, go_sem]) rfl ⟨none, 0, [], R, rfl, Gr.nil 173 7, (H6.out.drop (L' := L) (by
  refine List.Sublist.trans ?_ (List.sublist_cons_self _ _)
  refine List.Sublist.trans ?_ (List.sublist_append_right _ _)
  exact (List.sublist_cons_self _ _).trans (List.sublist_cons_self _ _)))⟩
end Go.Proofs.Ytglbcfkmaamhaaa.Tr
end
