/- A text of this claim: parts TrU TrV TrX TrY TsA TsB TsC. No condition. -/
import Derived.Test.YtglbcfkmaamhaaaJG12
import Derived.Test.YtglbcfkmaamhaaaJG2
import Derived.Test.YtglbcfkmaamhaaaJG0
import Derived.Defers
import Derived.RangeFuncCalls
import Derived.RangeFuncNested
import Derived.OrdersIn
set_option linter.unusedVariables false
set_option linter.unusedSimpArgs false
set_option maxHeartbeats 16000000
set_option maxRecDepth 100000
namespace Go.Proofs.Ytglbcfkmaamhaaa.Tr
open Go Go.RowKit Go.Shelf Go.Proofs.YtglbcfkmaamhaaaW.PrintWords Go.Proofs.Ytglbcfkmaamhaaa.Hv Go.Proofs.Ytglbcfkmaamhaaa.Arm Go.Proofs.Ytglbcfkmaamhaaa.Nd Go.Proofs.Ytglbcfkmaamhaaa.ArN
section
variable {w0 w w1 : World} {L L' R : List Ob} {K : Nat × Nat × Nat} {t : Tm} {on : Value} {B : Nat}
theorem gr_cells {e size n : Nat} {v : Value} {xs : List Value} {A : List Ob} (h : Gr e size v n xs A) : ∀ p ∈ A, p.2.isCells = true := by
 intro p hp
 rcases h.2 with ⟨-, -, rfl⟩ | ⟨g, cap, cur, -, rfl, -⟩
 ·cases hp
 ·rw [List.mem_singleton.1 hp]
  rfl
theorem Mt.cellsOk {w0 w : World} {K : Nat × Nat × Nat} {t : Tm} {on : Value} {R L : List Ob} (h : Mt w0 w K t on R L) (hR : ∀ p ∈ R, p.1 < B ∨ p.2.isCells = true) (hL : ∀ p ∈ L, p.1 < B ∨ p.2.isCells = true) :
  ∃ Q, Hv w0 w Q ∧ (∀ p ∈ Q, p.1 < B ∨ p.2.isCells = true) ∧ ∀ w', Hv w0 w' Q → Mt w0 w' K t on R L := by
 obtain ⟨s, gv, G, e, ⟨bv, Bb, h1, h1', h1''⟩, h2, h3⟩ := h
 refine ⟨_, h1, fun p hp => ?_, fun w' h' => ⟨s, gv, G, e, ⟨bv, Bb, h', h1', h1''⟩, h2, h3⟩⟩
 simp only [AL, List.cons_append, List.mem_cons, List.mem_append] at hp
 rcases hp with rfl | rfl | hp | rfl | hp | hp | hp
 ·exact .inr rfl
 ·exact .inr rfl
 ·exact .inr (gr_cells h1' p hp)
 ·exact .inr rfl
 ·exact .inr (gr_cells h2 p hp)
 ·exact hR p hp
 ·exact hL p hp
theorem Mt.abide (h : Mt w0 w K t on R L) {row : Option Nat} (hg : w.grownBy w1 row) (hB : w0.heap.size ≤ B) (hr : ∀ r, row = some r → B ≤ r ∧ ∃ o : Obj, w.heap[r]? = some o ∧ o.isCells = false) (hR : ∀ p ∈ R, p.1 < B ∨ p.2.isCells = true) (hL : ∀ p ∈ L, p.1 < B ∨ p.2.isCells = true) : Mt w0 w1 K t on R L := by
 obtain ⟨Q, h1, h2, h3⟩ := h.cellsOk hR hL
 exact h3 _ (Hv.abide h1 hg hB hr h2)
theorem back.calls (w : World) (ad : Option Addr) (n c : Nat) : Calls Try.prog 119 #[.slice ad n c] w fun e w' => e = .returned (.func (.func 147) #[] #[.pointer (some ⟨w.heap.size, 0, none⟩)]) ∧ w' = w.alloc (.cells #[.slice ad n c] 31) := by
 have hmf : ∀ (fn : Fn) (first cap : Array Value) (w : World), (Instr.makeFunc fn first cap).run Try.prog w = .ok (.func fn first cap) w := fun _ _ _ _ => rfl
 go_enter Try.func119, Try.ntmps119
 go_wp2_with fail
 go_ret
 exact ⟨rfl, rfl⟩
def LKp (w0 : World) (LK : List Ob) (A B : World) : Prop := Hv w0 A LK → Hv w0 B LK
theorem LKp.trans {LK : List Ob} {A B C : World} (h : LKp w0 LK A B) (k : LKp w0 LK B C) : LKp w0 LK A C := fun x => k (h x)
theorem LKp.turn {LK : List Ob} (hw0 : w0.heap.size ≤ w.heap.size) (hK : ∀ p ∈ LK, p.1 < w.heap.size) (W : World) (l : Nat) (o o' : Obj) (hl : w.heap.size ≤ l) (h : W.heap[l]? = some o) (hc : o.isCells = false) (_ : o.isWalk = false) : LKp w0 LK W (W.putObj l o') := fun x =>
 Hv.abide (B := w.heap.size) x (grownBy_putObj' W l o') hw0 (fun r e => by cases e; exact ⟨hl, o, h, hc⟩) (fun p hp => .inl (hK p hp))
theorem back_stops (F : Fence) (n : Nat) (h147 : F.fn 147) (hro : F.round = none) (hn : 1 ≤ n) (Bs : Nat) (s : List Rf) (hl : s.length ≤ 1000000) {ad : Option Addr} {c : Nat} {LK : List Ob}
  (hb : cb Bs 31 #[.slice ad s.length c] ∈ LK) (hr : Rdy 2 w0 LK ad s.length (s.flatMap rcel)) (h : Hv w0 w LK) :
  SeqStopsK F n Try.prog 147 #[.pointer (some ⟨Bs, 0, none⟩)] bkE (LKp w0 LK) (fun ys => ys = bkL s s.length) (fun pre => ∃ k, k ≤ s.length ∧ pre = bkL s k) s.length w := fun l J Jx W hW hJ hJx hY h0 =>
 back1_in F n h147 hro hn l Bs s hl (Rk := fun W => Hv w0 W LK) (Kp := LKp w0 LK) (fun W h => (h.c1 _ _ _ hb).1) (fun W h => hr W LK h (fun _ hp => hp)) (fun A B hk ha => hk ha) J Jx hY W (h.call hW) h0
end
section
attribute [local go_sem] Oper.semAt_some
variable {w0 w w1 : World} {L L' R : List Ob} {K : Nat × Nat × Nat} {t : Tm} {on : Value} {B : Nat}
def big (t : Tm) (x : Rf) : Bool := decide (4 ≤ (t.at x).refs.length)
def cntB (t : Tm) (l : List Rf) : Nat := (l.reverse.takeWhile (big t)).length
def Tm.need (t : Tm) (l : List Rf) : Nat := if cntB t l = l.length then l.length + 1 else cntB t l
def Tm.roomFor (t : Tm) (l : List Rf) : Bool := decide ((t.need l : Int) ≤ t.p.room)
theorem tw_len {α : Type} (p : α → Bool) : ∀ (m : List α) (k : Nat), (∀ j x, j < k → m[j]? = some x → p x = true) → (k = m.length ∨ ∃ y, m[k]? = some y ∧ p y = false) → (m.takeWhile p).length = k
 | [], k, _, h => by
  rcases h with h | ⟨y, h, _⟩
  ·simpa using h.symm
  ·simp at h
 | a :: m, 0, _, h => by
  rcases h with h | ⟨y, h, h2⟩
  ·simp at h
  ·simp at h
   subst h
   simp [List.takeWhile_cons, h2]
 | a :: m, k + 1, hp, h => by
  have h1 := hp 0 a (by omega) rfl
  rw [List.takeWhile_cons, if_pos h1, List.length_cons, tw_len p m k (fun j x hj hx => hp (j + 1) x (by omega) (by simpa using hx)) (by
   rcases h with h | ⟨y, h, h2⟩
   ·exact .inl (by simpa using h)
   ·exact .inr ⟨y, by simpa using h, h2⟩)]
theorem bkf_rev (l : List Rf) (k : Nat) (hk : k < l.length) : l.reverse[k]? = some (bkf l k).2 := by
 rw [List.getElem?_reverse hk]
 unfold bkf
 simp only []
 rw [List.getD_eq_getElem?_getD, List.getElem?_eq_getElem (by omega)]
 rfl
def AllB (t : Tm) (pre : List Bk) : Prop := ∀ y ∈ pre, big t y.2 = true
theorem cntB_of (t : Tm) (l : List Rf) (k : Nat) (hk : k ≤ l.length) (ha : AllB t (bkL l k)) (hs : k = l.length ∨ big t (bkf l k).2 = false) : cntB t l = k := by
 refine tw_len _ _ k (fun j x hj hx => ?_) ?_
 ·rw [bkf_rev l j (by omega)] at hx
  cases hx
  exact ha _ (List.mem_map.2 ⟨j, List.mem_range.2 hj, rfl⟩)
 ·rcases hs with h | h
  ·exact .inl (by simpa using h)
  ·by_cases e : k = l.length
   ·exact .inl (by simpa using e)
   ·exact .inr ⟨_, bkf_rev l k (by omega), h⟩
def restB (w : World) (B : Nat) (Q : List Ob) : List Ob := (List.range w.heap.size).filterMap (fun j => if B ≤ j ∧ j ∉ Q.map (·.1) then (w.heap[j]?).map (fun o => ((j, o) : Ob)) else none)
theorem restB_mem {w : World} {B : Nat} {Q : List Ob} {p : Ob} : p ∈ restB w B Q ↔ B ≤ p.1 ∧ p.1 ∉ Q.map (·.1) ∧ w.heap[p.1]? = some p.2 := by
 unfold restB
 rw [List.mem_filterMap]
 constructor
 ·rintro ⟨j, hj, h⟩
  split at h
  ·rename_i hB
   obtain ⟨o, ho, rfl⟩ := Option.map_eq_some_iff.1 h
   exact ⟨hB.1, hB.2, ho⟩
  ·cases h
 ·rintro ⟨hB, hn, ho⟩
  exact ⟨p.1, List.mem_range.2 (blk_lt ho), by rw [if_pos ⟨hB, hn⟩, ho]; rfl⟩
theorem fm_nod {f : Nat → Option Ob} (hf : ∀ j p, f j = some p → p.1 = j) : ∀ l : List Nat, l.Nodup → ((l.filterMap f).map (·.1)).Nodup
 | [], _ => by simp
 | a :: l, h => by
  obtain ⟨h1, h2⟩ := List.nodup_cons.1 h
  have ih := fm_nod hf l h2
  rw [List.filterMap_cons]
  split
  ·exact ih
  ·rename_i b hb
   refine List.nodup_cons.2 ⟨fun hm => ?_, ih⟩
   obtain ⟨p, hp, e⟩ := List.mem_map.1 hm
   obtain ⟨j, hj, hjp⟩ := List.mem_filterMap.1 hp
   have e1 := hf j p hjp
   have e2 := hf a b hb
   have e3 : p.1 = b.1 := e
   rw [e1, e2] at e3
   exact h1 (e3 ▸ hj)
theorem restB_nod (w : World) (B : Nat) (Q : List Ob) : ((restB w B Q).map (·.1)).Nodup := fm_nod (fun j p h => by
 split at h
 ·obtain ⟨o, ho, rfl⟩ := Option.map_eq_some_iff.1 h
  rfl
 ·cases h) _ List.nodup_range
theorem Hv.withR {Q : List Ob} (h : Hv w0 w Q) (hB : w0.heap.size ≤ B) : Hv w0 w (Q ++ restB w B Q) := by
 refine ⟨h.bel, fun p hp => ?_, fun p hp => ?_, ?_⟩
 ·rcases List.mem_append.1 hp with hp | hp
  ·exact h.box p hp
  ·exact (restB_mem.1 hp).2.2
 ·rcases List.mem_append.1 hp with hp | hp
  ·exact h.new p hp
  ·exact Nat.le_trans hB (restB_mem.1 hp).1
 ·rw [List.map_append]
  refine List.nodup_append.2 ⟨h.nod, restB_nod w B Q, fun a ha b hb e => ?_⟩
  obtain ⟨q, hq, rfl⟩ := List.mem_map.1 hb
  exact (restB_mem.1 hq).2.1 (e ▸ ha)
end
end Go.Proofs.Ytglbcfkmaamhaaa.Tr
namespace Go.Proofs.Ytglbcfkmaamhaaa.Tr
open Go Go.RowKit Go.Proofs.YtglbcfkmaamhaaaW.PrintWords Go.Proofs.YtglbcfkmaamhaaaW.PrintLast Go.Proofs.YtglbcfkmaamhaaaW.PrintMore Go.Proofs.Ytglbcfkmaamhaaa.Hv Go.Proofs.Ytglbcfkmaamhaaa.Arm Go.Proofs.Ytglbcfkmaamhaaa.Nd Go.Proofs.Ytglbcfkmaamhaaa.ArN
section
variable {w0 w w1 : World} {L L' R : List Ob} {K : Nat × Nat × Nat} {t : Tm} {on : Value}
theorem Mt.getB (h : Mt w0 w K t on R L) (r : Rf) : Calls Try.prog 109 #[.pointer (some ⟨K.2.1, 0, none⟩), .agg #[.int .i64 r.1, .int .i64 r.2]] w fun e w' => ∃ v, e = .returned (.tuple #[v, .bool (t.has r)]) ∧ NV w0 R (t.at r) v ∧ Below w.heap.size w w' := by
 obtain ⟨s, gv, G, e, h1, h2, h3⟩ := h
 have hh : s.has r.1 r.2 = t.has r := by unfold Tm.has; rw [← e, bare_has]
 cases hb : t.has r
 ·rw [hb] at hh
  refine (ArN.getNo.calls h1 r.1 r.2 hh).mono ?_
  rintro e1 w1 ⟨rfl, h4⟩
  refine ⟨_, rfl, ?_, h4⟩
  unfold Tm.at
  rw [hb]
  exact ⟨none, 0, none, 0, rfl, Rdy.nil _ _, Rdy.nil _ _, Nat.le_refl _, Nat.le_refl _⟩
 ·rw [hb] at hh
  obtain ⟨ka, kc, ra, rc, hx, hn⟩ := Mt.row h3 e hb
  refine (ArN.get.calls h1 r.1 r.2 hh _ _ _ _ _ _ _ _ hx).mono ?_
  rintro e1 w1 ⟨rfl, h4⟩
  exact ⟨_, rfl, ⟨ka, kc, ra, rc, rfl, hn⟩, h4⟩
theorem atB.calls (h : Mt w0 w K t on R L) (r : Rf) : Calls Try.prog 111 #[.pointer (some ⟨K.1, 0, none⟩), .agg #[.int .i64 r.1, .int .i64 r.2]] w fun e w' => ∃ v, e = .returned v ∧ NV w0 R (t.at r) v ∧ Below w.heap.size w w' ∧ w.heap.size < w'.heap.size := by
 have hu59 := Try.underlying59
 have hu33 := Try.underlying33
 have hu160 := Try.underlying160
 have HM := As (show Mt w0 _ K t on R (cb (w.heap.size + 1) 59 #[.bool false, .int .i64 0, .slice none 0 0, .slice none 0 0] :: cb w.heap.size 33 #[.int .i64 r.1, .int .i64 r.2] :: L) by
  have := (h.alloc (.cells #[.int .i64 r.1, .int .i64 r.2] 33)).alloc (.cells #[.bool false, .int .i64 0, .slice none 0 0, .slice none 0 0] 59)
  simpa [cb] using this)
 have HB0 := As (show Hv w ((w.alloc (.cells #[.int .i64 r.1, .int .i64 r.2] 33)).alloc (.cells #[.bool false, .int .i64 0, .slice none 0 0, .slice none 0 0] 59)) (cb (w.heap.size + 1) 59 #[.bool false, .int .i64 0, .slice none 0 0, .slice none 0 0] :: cb w.heap.size 33 #[.int .i64 r.1, .int .i64 r.2] :: []) by
  have := ((Hv.start w).alloc (.cells #[.int .i64 r.1, .int .i64 r.2] 33)).alloc (.cells #[.bool false, .int .i64 0, .slice none 0 0, .slice none 0 0] 59)
  simpa [cb] using this)
 obtain ⟨n, hn⟩ : ∃ n, t.at r = n := ⟨_, rfl⟩
 have HE := As hn
 clear h
 have SP := As (show ∀ (w' : World) (L' : List Ob), Mt w0 w' K t on R L' → cb w.heap.size 33 #[.int .i64 r.1, .int .i64 r.2] ∈ L' → (w'.cell? ⟨K.1, 0, none⟩ = some (.pointer (some ⟨K.2.1, 0, none⟩)) ∧ w'.cell? ⟨w.heap.size, 0, none⟩ = some (.int .i64 r.1) ∧ w'.cell? ⟨w.heap.size, 1, none⟩ = some (.int .i64 r.2)) from fun w' L' h m => by
  obtain ⟨c0, -, -, -, -, -, -⟩ := h.cells
  obtain ⟨p0, p1, -, -⟩ := h.other.c2 _ _ _ _ m
  exact ⟨c0, p0, p1⟩)
 go_enter Try.func111, Try.ntmps111
 go_upto_region 1 with (fail)
 obtain ⟨W0, hW, hM, hB⟩ : ∃ W, W = _ ∧ Mt w0 W K t on R (cb (w.heap.size + 1) 59 #[.bool false, .int .i64 0, .slice none 0 0, .slice none 0 0] :: cb w.heap.size 33 #[.int .i64 r.1, .int .i64 r.2] :: L) ∧ Hv w W (cb (w.heap.size + 1) 59 #[.bool false, .int .i64 0, .slice none 0 0, .slice none 0 0] :: cb w.heap.size 33 #[.int .i64 r.1, .int .i64 r.2] :: []) := ⟨_, rfl, HM.out, HB0.out⟩
 rw [← hW]
 have HD := As hM.drew
 have HBD := As hB.drew
 clear hW hM HM hB HB0
 refine start_ (n := 12) (S := fun w' => w'.cell? ⟨K.1, 0, none⟩ = some (.pointer (some ⟨K.2.1, 0, none⟩)) ∧ w'.cell? ⟨w.heap.size, 0, none⟩ = some (.int .i64 r.1) ∧ w'.cell? ⟨w.heap.size, 1, none⟩ = some (.int .i64 r.2)) (ds := [10]) #[false, false, false, false, false, false, false, false, false, false, false, false] (by kernel_rfl) rfl rfl (SP.out _ _ HD.out (by simp)) (fun hHeld => ?_)
 generalize W0.drew = wr0 at HD HBD hHeld ⊢
 refine pu_ 0 (some 8) ?_
 refine pu_ 1 (some 9) ?_
 refine pu_ 2 (some 10) ?_
 refine ta_ 3 (some 11) hHeld ?_ (hy := Or.inl ⟨by rfl, by rintro w' ⟨s0, s1, s2⟩; go_simp; with_reducible rfl⟩)
 refine ta_ 4 (some 12) hHeld ?_ (hy := Or.inl ⟨by rfl, by rintro w' ⟨s0, s1, s2⟩; go_simp; with_reducible rfl⟩)
 refine two_ (i := 5) (j := 9) (Ni := some 13) (Nj := some 5) #[true, true, true, true, true, true, false, false, false, false, false, false] #[true, true, true, true, true, false, false, false, false, true, false, false] rfl rfl rfl rfl (by kernel_rfl) (by decide) (by decide) (fun K_ hK => ?_) (fun K_ hK => ?_)
 ·refine gs_ Try.func109 #[.pointer (some ⟨K.2.1, 0, none⟩), .agg #[.int .i64 r.1, .int .i64 r.2]] ?_
  refine (Mt.getB HD.out r).mono ?_
  rintro e9 wr1 ⟨v, rfl, hnv, hh⟩
  refine ⟨_, rfl, ?_⟩
  rw [hn] at hnv
  obtain ⟨ka, kc, ra, rc, ev, hr⟩ := hnv
  have ev' : v = .agg #[.bool n.leaf, .int .i64 n.ver, .slice ka n.keys.length kc, .slice ra n.refs.length rc] := ev
  subst ev'
  clear ev
  have HN := As hr
  have HR1 := As (show Mt w0 wr1 K t on R (cb (w.heap.size + 1) 59 #[.bool false, .int .i64 0, .slice none 0 0, .slice none 0 0] :: cb w.heap.size 33 #[.int .i64 r.1, .int .i64 r.2] :: L) from HD.out.call hh)
  have HB1 := As (show Hv w wr1 (cb (w.heap.size + 1) 59 #[.bool false, .int .i64 0, .slice none 0 0, .slice none 0 0] :: cb w.heap.size 33 #[.int .i64 r.1, .int .i64 r.2] :: []) from HBD.out.call hh)
  clear hh hr
  refine hK.out _ _ (SP.out _ _ HR1.out (by simp)) (fun hHeld => ?_)
  clear hK K_
  refine nm_ ?_
  refine pu_ 6 (some 7) ?_
  refine pu_ 7 (some 14) ?_
  refine pu_ 8 (some 15) ?_
  refine on_ 9 (some 5) fun K_ hK => ?_
  refine value_ (v := .pointer (some ⟨wr1.heap.size, 0, none⟩)) (w1 := wr1.alloc (.cells #[.bool false, .int .i64 0, .slice none 0 0, .slice none 0 0] 59)) (by rfl) rfl ?_ ?_
  ·go_simp
  obtain ⟨wr2, hW, hvv⟩ : ∃ wr2, wr2 = wr1.alloc (.cells #[.bool false, .int .i64 0, .slice none 0 0, .slice none 0 0] 59) ∧ Mt w0 wr2 K t on R (cb wr1.heap.size 59 #[.bool false, .int .i64 0, .slice none 0 0, .slice none 0 0] :: cb (w.heap.size + 1) 59 #[.bool false, .int .i64 0, .slice none 0 0, .slice none 0 0] :: cb w.heap.size 33 #[.int .i64 r.1, .int .i64 r.2] :: L) := ⟨_, rfl, HR1.out.alloc _⟩
  have HB2 := As (show Hv w wr2 (cb wr1.heap.size 59 #[.bool false, .int .i64 0, .slice none 0 0, .slice none 0 0] :: cb (w.heap.size + 1) 59 #[.bool false, .int .i64 0, .slice none 0 0, .slice none 0 0] :: cb w.heap.size 33 #[.int .i64 r.1, .int .i64 r.2] :: []) by rw [hW]; exact HB1.out.alloc _)
  rw [← hW]
  have HR2 := As hvv
  clear hW hvv
  refine hK.out _ _ (SP.out _ _ HR2.out (by simp)) (fun hHeld => ?_)
  clear hK K_
  refine nm_ ?_
  refine la_ 10 none fun K_ hK => ?_
  obtain ⟨b0, b1, b2, b3, d0, d1, d2, d3⟩ := HR2.out.other.c4 wr1.heap.size 59 (.bool false) (.int .i64 0) (.slice none 0 0) (.slice none 0 0) List.mem_cons_self
  refine sk_ (hK.out _ _ ?_)
  clear hK K_ b0 b1 b2 b3 d0 d1 d2 d3
  obtain ⟨wr3, hW, hvv⟩ : ∃ wr3, wr3 = _ ∧ Mt w0 wr3 K t on R (cb wr1.heap.size 59 #[.bool n.leaf, .int .i64 n.ver, .slice ka n.keys.length kc, .slice ra n.refs.length rc] :: cb (w.heap.size + 1) 59 #[.bool false, .int .i64 0, .slice none 0 0, .slice none 0 0] :: cb w.heap.size 33 #[.int .i64 r.1, .int .i64 r.2] :: L) := ⟨_, rfl, (Mt.putB0 (Mt.putB0 (Mt.putB0 (Mt.putB0 HR2.out 0 (.bool n.leaf) rfl) 1 (.int .i64 n.ver) rfl) 2 (.slice ka n.keys.length kc) rfl) 3 (.slice ra n.refs.length rc) rfl)⟩
  have HB3 := As (show Hv w wr3 (cb wr1.heap.size 59 #[.bool n.leaf, .int .i64 n.ver, .slice ka n.keys.length kc, .slice ra n.refs.length rc] :: cb (w.heap.size + 1) 59 #[.bool false, .int .i64 0, .slice none 0 0, .slice none 0 0] :: cb w.heap.size 33 #[.int .i64 r.1, .int .i64 r.2] :: []) by rw [hW]; exact (Hv.put0 (Hv.put0 (Hv.put0 (Hv.put0 HB2.out 0 (.bool n.leaf) rfl) 1 (.int .i64 n.ver) rfl) 2 (.slice ka n.keys.length kc) rfl) 3 (.slice ra n.refs.length rc) rfl))
  rw [← hW]
  have HR3 := As hvv
  clear hW hvv
  refine pu_ 11 (some 6) ?_
  refine done_ (by kernel_rfl) ?_
  obtain ⟨b0, b1, b2, b3, -, -, -, -⟩ := HB3.out.c4 wr1.heap.size 59 (.bool n.leaf) (.int .i64 n.ver) (.slice ka n.keys.length kc) (.slice ra n.refs.length rc) List.mem_cons_self
  obtain ⟨y0, y1, y2, y3, f0, f1, f2, f3⟩ := HB3.out.c4 (w.heap.size + 1) 59 (.bool false) (.int .i64 0) (.slice none 0 0) (.slice none 0 0) (by simp)
  go_wp2_with fail
  obtain ⟨wg, hw, hg⟩ : ∃ wg, wg = _ ∧ Hv w wg (cb wr1.heap.size 59 #[.bool n.leaf, .int .i64 n.ver, .slice ka n.keys.length kc, .slice ra n.refs.length rc] :: cb (w.heap.size + 1) 59 #[.bool n.leaf, .int .i64 n.ver, .slice ka n.keys.length kc, .slice ra n.refs.length rc] :: cb w.heap.size 33 #[.int .i64 r.1, .int .i64 r.2] :: []) := ⟨_, rfl, (Hv.put1 (Hv.put1 (Hv.put1 (Hv.put1 HB3.out 0 (.bool n.leaf) rfl) 1 (.int .i64 n.ver) rfl) 2 (.slice ka n.keys.length kc) rfl) 3 (.slice ra n.refs.length rc) rfl)⟩
  rw [← hw]
  obtain ⟨e0, e1, e2, e3, -, -, -, -⟩ := hg.c4 (w.heap.size + 1) 59 (.bool n.leaf) (.int .i64 n.ver) (.slice ka n.keys.length kc) (.slice ra n.refs.length rc) (by simp)
  exact bodyPost_ret (v := .agg #[.bool n.leaf, .int .i64 n.ver, .slice ka n.keys.length kc, .slice ra n.refs.length rc]) (by simp [results, Try.results111, go_sem, e0, e1, e2, e3, hu59]) rfl ⟨_, rfl, by rw [HE.out]; exact ⟨ka, kc, ra, rc, rfl, HN.out⟩, hg.bel, hg.lt (cb w.heap.size 33 #[.int .i64 r.1, .int .i64 r.2]) (by simp)⟩
 ·refine value_ (v := .pointer (some ⟨wr0.heap.size, 0, none⟩)) (w1 := wr0.alloc (.cells #[.bool false, .int .i64 0, .slice none 0 0, .slice none 0 0] 59)) (by rfl) rfl ?_ ?_
  ·go_simp
  obtain ⟨wr1, hW, hvv⟩ : ∃ wr1, wr1 = wr0.alloc (.cells #[.bool false, .int .i64 0, .slice none 0 0, .slice none 0 0] 59) ∧ Mt w0 wr1 K t on R (cb wr0.heap.size 59 #[.bool false, .int .i64 0, .slice none 0 0, .slice none 0 0] :: cb (w.heap.size + 1) 59 #[.bool false, .int .i64 0, .slice none 0 0, .slice none 0 0] :: cb w.heap.size 33 #[.int .i64 r.1, .int .i64 r.2] :: L) := ⟨_, rfl, HD.out.alloc _⟩
  have HB1 := As (show Hv w wr1 (cb wr0.heap.size 59 #[.bool false, .int .i64 0, .slice none 0 0, .slice none 0 0] :: cb (w.heap.size + 1) 59 #[.bool false, .int .i64 0, .slice none 0 0, .slice none 0 0] :: cb w.heap.size 33 #[.int .i64 r.1, .int .i64 r.2] :: []) by rw [hW]; exact HBD.out.alloc _)
  rw [← hW]
  have HR1 := As hvv
  clear hW hvv
  refine hK.out _ _ (SP.out _ _ HR1.out (by simp)) (fun hHeld => ?_)
  clear hK K_
  refine nm_ ?_
  refine on_ 5 (some 13) fun K_ hK => ?_
  refine gs_ Try.func109 #[.pointer (some ⟨K.2.1, 0, none⟩), .agg #[.int .i64 r.1, .int .i64 r.2]] ?_
  refine (Mt.getB HR1.out r).mono ?_
  rintro e9 wr2 ⟨v, rfl, hnv, hh⟩
  refine ⟨_, rfl, ?_⟩
  rw [hn] at hnv
  obtain ⟨ka, kc, ra, rc, ev, hr⟩ := hnv
  have ev' : v = .agg #[.bool n.leaf, .int .i64 n.ver, .slice ka n.keys.length kc, .slice ra n.refs.length rc] := ev
  subst ev'
  clear ev
  have HN := As hr
  have HR2 := As (show Mt w0 wr2 K t on R (cb wr0.heap.size 59 #[.bool false, .int .i64 0, .slice none 0 0, .slice none 0 0] :: cb (w.heap.size + 1) 59 #[.bool false, .int .i64 0, .slice none 0 0, .slice none 0 0] :: cb w.heap.size 33 #[.int .i64 r.1, .int .i64 r.2] :: L) from HR1.out.call hh)
  have HB2 := As (show Hv w wr2 (cb wr0.heap.size 59 #[.bool false, .int .i64 0, .slice none 0 0, .slice none 0 0] :: cb (w.heap.size + 1) 59 #[.bool false, .int .i64 0, .slice none 0 0, .slice none 0 0] :: cb w.heap.size 33 #[.int .i64 r.1, .int .i64 r.2] :: []) from HB1.out.call hh)
  clear hh hr
  refine hK.out _ _ (SP.out _ _ HR2.out (by simp)) (fun hHeld => ?_)
  clear hK K_
  refine nm_ ?_
  refine pu_ 6 (some 7) ?_
  refine pu_ 7 (some 14) ?_
  refine pu_ 8 (some 15) ?_
  refine la_ 10 none fun K_ hK => ?_
  obtain ⟨b0, b1, b2, b3, d0, d1, d2, d3⟩ := HR2.out.other.c4 wr0.heap.size 59 (.bool false) (.int .i64 0) (.slice none 0 0) (.slice none 0 0) List.mem_cons_self
  refine sk_ (hK.out _ _ ?_)
  clear hK K_ b0 b1 b2 b3 d0 d1 d2 d3
  obtain ⟨wr3, hW, hvv⟩ : ∃ wr3, wr3 = _ ∧ Mt w0 wr3 K t on R (cb wr0.heap.size 59 #[.bool n.leaf, .int .i64 n.ver, .slice ka n.keys.length kc, .slice ra n.refs.length rc] :: cb (w.heap.size + 1) 59 #[.bool false, .int .i64 0, .slice none 0 0, .slice none 0 0] :: cb w.heap.size 33 #[.int .i64 r.1, .int .i64 r.2] :: L) := ⟨_, rfl, (Mt.putB0 (Mt.putB0 (Mt.putB0 (Mt.putB0 HR2.out 0 (.bool n.leaf) rfl) 1 (.int .i64 n.ver) rfl) 2 (.slice ka n.keys.length kc) rfl) 3 (.slice ra n.refs.length rc) rfl)⟩
  have HB3 := As (show Hv w wr3 (cb wr0.heap.size 59 #[.bool n.leaf, .int .i64 n.ver, .slice ka n.keys.length kc, .slice ra n.refs.length rc] :: cb (w.heap.size + 1) 59 #[.bool false, .int .i64 0, .slice none 0 0, .slice none 0 0] :: cb w.heap.size 33 #[.int .i64 r.1, .int .i64 r.2] :: []) by rw [hW]; exact (Hv.put0 (Hv.put0 (Hv.put0 (Hv.put0 HB2.out 0 (.bool n.leaf) rfl) 1 (.int .i64 n.ver) rfl) 2 (.slice ka n.keys.length kc) rfl) 3 (.slice ra n.refs.length rc) rfl))
  rw [← hW]
  have HR3 := As hvv
  clear hW hvv
  refine pu_ 11 (some 6) ?_
  refine done_ (by kernel_rfl) ?_
  obtain ⟨b0, b1, b2, b3, -, -, -, -⟩ := HB3.out.c4 wr0.heap.size 59 (.bool n.leaf) (.int .i64 n.ver) (.slice ka n.keys.length kc) (.slice ra n.refs.length rc) List.mem_cons_self
  obtain ⟨y0, y1, y2, y3, f0, f1, f2, f3⟩ := HB3.out.c4 (w.heap.size + 1) 59 (.bool false) (.int .i64 0) (.slice none 0 0) (.slice none 0 0) (by simp)
  go_wp2_with fail
  obtain ⟨wg, hw, hg⟩ : ∃ wg, wg = _ ∧ Hv w wg (cb wr0.heap.size 59 #[.bool n.leaf, .int .i64 n.ver, .slice ka n.keys.length kc, .slice ra n.refs.length rc] :: cb (w.heap.size + 1) 59 #[.bool n.leaf, .int .i64 n.ver, .slice ka n.keys.length kc, .slice ra n.refs.length rc] :: cb w.heap.size 33 #[.int .i64 r.1, .int .i64 r.2] :: []) := ⟨_, rfl, (Hv.put1 (Hv.put1 (Hv.put1 (Hv.put1 HB3.out 0 (.bool n.leaf) rfl) 1 (.int .i64 n.ver) rfl) 2 (.slice ka n.keys.length kc) rfl) 3 (.slice ra n.refs.length rc) rfl)⟩
  rw [← hw]
  obtain ⟨e0, e1, e2, e3, -, -, -, -⟩ := hg.c4 (w.heap.size + 1) 59 (.bool n.leaf) (.int .i64 n.ver) (.slice ka n.keys.length kc) (.slice ra n.refs.length rc) (by simp)
  exact bodyPost_ret (v := .agg #[.bool n.leaf, .int .i64 n.ver, .slice ka n.keys.length kc, .slice ra n.refs.length rc]) (by simp [results, Try.results111, go_sem, e0, e1, e2, e3, hu59]) rfl ⟨_, rfl, by rw [HE.out]; exact ⟨ka, kc, ra, rc, rfl, HN.out⟩, hg.bel, hg.lt (cb w.heap.size 33 #[.int .i64 r.1, .int .i64 r.2]) (by simp)⟩
end
end Go.Proofs.Ytglbcfkmaamhaaa.Tr
namespace Go.Proofs.Ytglbcfkmaamhaaa.Tr
open Go Go.RowKit Go.Shelf Go.Proofs.YtglbcfkmaamhaaaW.PrintWords Go.Proofs.YtglbcfkmaamhaaaW.PrintLast Go.Proofs.YtglbcfkmaamhaaaW.PrintMore Go.Proofs.Ytglbcfkmaamhaaa.Hv Go.Proofs.Ytglbcfkmaamhaaa.Arm Go.Proofs.Ytglbcfkmaamhaaa.Nd Go.Proofs.Ytglbcfkmaamhaaa.ArN
section
attribute [local go_sem] Oper.semAt_some
variable {w0 w w1 : World} {L L' R : List Ob} {K : Nat × Nat × Nat} {t : Tm} {on : Value} {B : Nat}
theorem Mt.RoomB (h : Mt w0 w K t on R L) : Calls Try.prog 144 #[.pointer (some ⟨K.2.1, 0, none⟩)] w fun e w' => e = .returned (.int .i64 t.p.room) ∧ Below w.heap.size w w' := by
 obtain ⟨s, gv, G, e, h1, h2, h3⟩ := h
 refine (ArN.room.calls h1).mono ?_
 rintro e1 w1 ⟨rfl, h4⟩
 exact ⟨by rw [← e, bare_room], h4.below⟩
theorem room.calls (h : Mt w0 w K t on R L) (l : List Rf) (hl : l.length ≤ 1000000) {ad : Option Addr} {c : Nat} (hrow : Rdy 2 w0 L ad l.length (l.flatMap rcel)) :
  Calls Try.prog 118 #[.pointer (some ⟨K.1, 0, none⟩), .slice ad l.length c] w fun e w' => e = .returned (.bool (t.roomFor l)) ∧ Mt w0 w' K t on R L := by
 have hu80 := Try.underlying80
 have hu33 := Try.underlying33
 have hu160 := Try.underlying160
 have HM := As (show Mt w0 (((w.alloc (.cells #[.pointer (some ⟨K.1, 0, none⟩)] 80)).alloc (.cells #[.int .i64 0] 3)).alloc (.cells #[.slice ad l.length c] 31)) K t on R (cb (w.heap.size + 1 + 1) 31 #[.slice ad l.length c] :: cb (w.heap.size + 1) 3 #[.int .i64 0] :: cb w.heap.size 80 #[.pointer (some ⟨K.1, 0, none⟩)] :: L) by
  have := ((h.alloc (.cells #[.pointer (some ⟨K.1, 0, none⟩)] 80)).alloc (.cells #[.int .i64 0] 3)).alloc (.cells #[.slice ad l.length c] 31)
  simpa [cb] using this)
 have HW := As h
 refine (callsIn_wide (n := 5)).1 ?_
 refine callsIn_of_wp_marks Try.func118 rfl trivial ?_ rfl
 simp only [Try.ntmps118, List.size_toArray, List.length_cons, List.length_nil, Nat.reduceAdd, Nat.reduceSub, Array.replicate_succ, Array.replicate_zero, List.push_toArray, List.append_toArray, List.nil_append, List.cons_append]
 gi_wp2_with (first | (refine ⟨trivial, ?_⟩; gi_at_call 119; refine (callsIn_wide.2 (back.calls _ _ _ _)).mono ?_; rintro e1 w1 ⟨rfl, rfl⟩) | (gi_at_call 119; refine (callsIn_wide.2 (back.calls _ _ _ _)).mono ?_; rintro e1 w1 ⟨rfl, rfl⟩))
 obtain ⟨WL, hW, hM⟩ : ∃ W, W = _ ∧ Mt w0 W K t on R (cb (w.heap.size + 1 + 1) 31 #[.slice ad l.length c] :: cb (w.heap.size + 1) 3 #[.int .i64 ((0 : Nat) : Int)] :: cb w.heap.size 80 #[.pointer (some ⟨K.1, 0, none⟩)] :: L) := ⟨_, rfl, HM.out⟩
 rw [← hW]
 have hw0 : w0.heap.size ≤ WL.heap.size := hM.bel.size
 obtain ⟨Lf, hLf, hRf, hLLf, -⟩ := hM.lens
 have hR : ∀ p ∈ R, p.1 < WL.heap.size ∨ p.2.isCells = true := fun p hp => .inl (hLf.lt p (hRf p hp))
 have hLall : ∀ p ∈ L, p.1 < WL.heap.size := fun p hp => hM.other.lt p (by simp [hp])
 have hLI : ∀ (n : Nat), ∀ p ∈ (cb (w.heap.size + 1 + 1) 31 #[.slice ad l.length c] :: cb (w.heap.size + 1) 3 #[.int .i64 (n : Int)] :: cb w.heap.size 80 #[.pointer (some ⟨K.1, 0, none⟩)] :: L), p.1 < WL.heap.size ∨ p.2.isCells = true := by
  intro n p hp
  simp only [List.mem_cons] at hp
  rcases hp with rfl | rfl | rfl | hp
  ·exact .inr rfl
  ·exact .inr rfl
  ·exact .inr rfl
  ·exact .inl (hLall p hp)
 have hsub : ∀ n : Int, List.Sublist (cb (w.heap.size + 1 + 1) 31 #[.slice ad l.length c] :: L) (cb (w.heap.size + 1 + 1) 31 #[.slice ad l.length c] :: cb (w.heap.size + 1) 3 #[.int .i64 n] :: cb w.heap.size 80 #[.pointer (some ⟨K.1, 0, none⟩)] :: L) := fun n => List.Sublist.cons_cons _ (List.Sublist.cons _ (List.Sublist.cons _ (List.Sublist.refl _)))
 have hLK : Hv w0 WL (cb (w.heap.size + 1 + 1) 31 #[.slice ad l.length c] :: L) := hM.other.drop (hsub 0)
 have hLKlt : ∀ p ∈ (cb (w.heap.size + 1 + 1) 31 #[.slice ad l.length c] :: L), p.1 < WL.heap.size := fun p hp => hLK.lt p hp
 have hrowK : Rdy 2 w0 (cb (w.heap.size + 1 + 1) 31 #[.slice ad l.length c] :: L) ad l.length (l.flatMap rcel) := hrow.mono (fun p hp => List.mem_cons_of_mem _ hp)
 clear hLf hRf hLLf hW
 rename_i QQ KK hKK
 have SP := As (show ∀ (m : Int) (w' : World), Mt w0 w' K t on R (cb (w.heap.size + 1 + 1) 31 #[.slice ad l.length c] :: cb (w.heap.size + 1) 3 #[.int .i64 (m : Int)] :: cb w.heap.size 80 #[.pointer (some ⟨K.1, 0, none⟩)] :: L) → (w'.cell? ⟨w.heap.size, 0, none⟩ = some (.pointer (some ⟨K.1, 0, none⟩)) ∧ w'.cell? ⟨w.heap.size + 1, 0, none⟩ = some (.int .i64 m) ∧ w'.cell? ⟨K.1, 0, none⟩ = some (.pointer (some ⟨K.2.1, 0, none⟩))) from fun m w' h => by
  obtain ⟨c0, -, -, -, -, -, -⟩ := h.cells
  obtain ⟨p0, -⟩ := h.other.c1 w.heap.size 80 (.pointer (some ⟨K.1, 0, none⟩)) (by simp)
  obtain ⟨q0, -⟩ := h.other.c1 (w.heap.size + 1) 3 (.int .i64 m) (by simp)
  exact ⟨p0, q0, c0⟩)
 have REST : ∀ (D k : Nat) (W : World), WL.heap.size ≤ D → k ≤ l.length → cntB t l = k → Mt w0 W K t on R (cb (w.heap.size + 1 + 1) 31 #[.slice ad l.length c] :: cb (w.heap.size + 1) 3 #[.int .i64 (k : Int)] :: cb w.heap.size 80 #[.pointer (some ⟨K.1, 0, none⟩)] :: L) → W.heap[D]? = some (.deferred (some [])) → KK { tmps := #[.pointer (some ⟨K.1, 0, none⟩), .slice ad l.length c, .pointer (some ⟨w.heap.size, 0, none⟩), undef, .bool false, .pointer (some ⟨w.heap.size + 1, 0, none⟩), undef, undef, .slice ad l.length c, .func (.func 147) #[] #[.pointer (some ⟨w.heap.size + 1 + 1, 0, none⟩)], undef, undef, undef, undef, undef, undef, undef, undef, undef, undef, undef, undef, undef, undef, undef, undef, undef, undef, undef, undef, undef, undef], defers := [{ target := .collected D, args := #[] }] } W := by
  intro D k W hD hk hc hM hK
  have HMt := As hM
  obtain ⟨p0, -⟩ := hM.other.c1 w.heap.size 80 (.pointer (some ⟨K.1, 0, none⟩)) (by simp)
  obtain ⟨q0, qf⟩ := hM.other.c1 (w.heap.size + 1) 3 (.int .i64 (k : Int)) (by simp)
  obtain ⟨c0, -, -, -, -, -, -⟩ := hM.cells
  have ew' : IntKind.i64.wrap ((k : Int) + 1) = (k : Int) + 1 := by rw [IntKind.wrap_i64]; omega
  have hD2 : W.heap[D]? = some (.deferred (some [])) := hK
  have hLIo : ∀ (n : Int), ∀ p ∈ (cb (w.heap.size + 1 + 1) 31 #[.slice ad l.length c] :: cb (w.heap.size + 1) 3 #[.int .i64 (n)] :: cb w.heap.size 80 #[.pointer (some ⟨K.1, 0, none⟩)] :: L), p.1 < WL.heap.size ∨ p.2.isCells = true := by
   intro n p hp
   simp only [List.mem_cons] at hp
   rcases hp with rfl | rfl | rfl | hp
   ·exact .inr rfl
   ·exact .inr rfl
   ·exact .inr rfl
   ·exact .inl (hLall p hp)
  refine hKK _ _ ?_
  refine wpIn_wide.2 ?_
  by_cases hkl : k = l.length
  ·subst hkl
   have hne : t.need l = l.length + 1 := by unfold Tm.need; rw [hc, if_pos rfl]
   go_upto_region 8 with (fail)
   have HM1 := As (show Mt w0 (W.setCell ⟨w.heap.size + 1, 0, none⟩ (.int .i64 ((l.length : Int) + 1))) K t on R (cb (w.heap.size + 1 + 1) 31 #[.slice ad l.length c] :: cb (w.heap.size + 1) 3 #[.int .i64 (((l.length : Int) + 1) : Int)] :: cb w.heap.size 80 #[.pointer (some ⟨K.1, 0, none⟩)] :: L) from HMt.out.putB1 0 _ rfl)
   have hD1 : (W.setCell ⟨w.heap.size + 1, 0, none⟩ (.int .i64 ((l.length : Int) + 1))).heap[D]? = some (.deferred (some [])) := (KeepsOthers.setCell _ _ _).same D _ hD2 rfl
   generalize W.setCell ⟨w.heap.size + 1, 0, none⟩ (.int .i64 ((l.length : Int) + 1)) = W1 at HM1 hD1 ⊢
   have HB1 := As (show t.need l = l.length + 1 ∧ W1.heap[D]? = some (.deferred (some [])) from ⟨hne, hD1⟩)
   clear hD1 hD2 hK hM HMt p0 q0 qf c0 hc
   have HD := As HM1.out.drew
   refine wp_region_noPanic ?_
   have HB2 := As (show W1.drew.heap[D]? = some (.deferred (some [])) from HB1.out.2)
   refine start_ (n := 8) (S := fun w' => w'.cell? ⟨w.heap.size, 0, none⟩ = some (.pointer (some ⟨K.1, 0, none⟩)) ∧ w'.cell? ⟨w.heap.size + 1, 0, none⟩ = some (.int .i64 ((l.length : Int) + 1)) ∧ w'.cell? ⟨K.1, 0, none⟩ = some (.pointer (some ⟨K.2.1, 0, none⟩))) (ds := []) #[false, false, false, false, false, false, false, false] (by kernel_rfl) rfl rfl (SP.out _ _ HD.out) (fun hHeld => ?_)
   generalize W1.drew = wr0 at HD HB2 hHeld ⊢
   refine ta_ 0 (some 25) hHeld ?_ (hy := Or.inl ⟨by rfl, by rintro w' ⟨s0, s1, s2⟩; go_simp; with_reducible rfl⟩)
   refine pu_ 1 (some 26) ?_
   refine pu_ 2 (some 27) ?_
   refine ta_ 3 (some 28) hHeld ?_ (hy := Or.inl ⟨by rfl, by rintro w' ⟨s0, s1, s2⟩; go_simp; with_reducible rfl⟩)
   refine ta_ 5 (some 30) hHeld ?_ (hy := Or.inl ⟨by rfl, by rintro w' ⟨s0, s1, s2⟩; go_simp; with_reducible rfl⟩)
   refine on_ 4 (some 29) fun K_ hK => ?_
   refine gs_ Try.func144 #[.pointer (some ⟨K.2.1, 0, none⟩)] ?_
   refine (Mt.RoomB HD.out).mono ?_
   rintro e9 w9 ⟨rfl, hh⟩
   refine ⟨_, rfl, ?_⟩
   have H9 := As (HD.out.call hh)
   have hD9 := (hh.block D (blk_lt HB2.out)).trans HB2.out
   clear hh
   refine hK.out _ _ (SP.out _ _ H9.out) (fun hHeld => ?_)
   clear hK K_
   refine nm_ ?_
   refine pu_ 6 (some 31) ?_
   refine pu_ 7 (some 4) ?_
   refine done_ (by kernel_rfl) ?_
   refine NoPanic.normal ?_
   go_wp2_with fail
   refine ⟨by simp, .inl ⟨_, _, rfl, run_takeDeferred hD9, ?_⟩⟩
   refine ⟨_, results_tmp rfl _ _ _, ?_, ?_⟩
   ·have := HB1.out.1
    unfold Tm.roomFor
    rw [this]
    rfl
   ·exact (H9.out.abide (grownBy_putObj' _ D (.deferred none)) hw0 (fun r e => by cases e; exact ⟨hD, _, hD9, rfl⟩) hR (hLIo _)).tail.tail.tail
  ·have hne : t.need l = k := by unfold Tm.need; rw [hc, if_neg hkl]
   have hx : ((k : Int) == (l.length : Int)) = false := by simp; omega
   go_upto_region 8 with (fail)
   have HB1 := As (show t.need l = k ∧ W.heap[D]? = some (.deferred (some [])) from ⟨hne, hD2⟩)
   clear hD2 hK hM p0 q0 qf c0 hx hc
   have HD := As HMt.out.drew
   refine wp_region_noPanic ?_
   have HB2 := As (show W.drew.heap[D]? = some (.deferred (some [])) from HB1.out.2)
   refine start_ (n := 8) (S := fun w' => w'.cell? ⟨w.heap.size, 0, none⟩ = some (.pointer (some ⟨K.1, 0, none⟩)) ∧ w'.cell? ⟨w.heap.size + 1, 0, none⟩ = some (.int .i64 (k : Int)) ∧ w'.cell? ⟨K.1, 0, none⟩ = some (.pointer (some ⟨K.2.1, 0, none⟩))) (ds := []) #[false, false, false, false, false, false, false, false] (by kernel_rfl) rfl rfl (SP.out _ _ HD.out) (fun hHeld => ?_)
   generalize W.drew = wr0 at HD HB2 hHeld ⊢
   refine ta_ 0 (some 25) hHeld ?_ (hy := Or.inl ⟨by rfl, by rintro w' ⟨s0, s1, s2⟩; go_simp; with_reducible rfl⟩)
   refine pu_ 1 (some 26) ?_
   refine pu_ 2 (some 27) ?_
   refine ta_ 3 (some 28) hHeld ?_ (hy := Or.inl ⟨by rfl, by rintro w' ⟨s0, s1, s2⟩; go_simp; with_reducible rfl⟩)
   refine ta_ 5 (some 30) hHeld ?_ (hy := Or.inl ⟨by rfl, by rintro w' ⟨s0, s1, s2⟩; go_simp; with_reducible rfl⟩)
   refine on_ 4 (some 29) fun K_ hK => ?_
   refine gs_ Try.func144 #[.pointer (some ⟨K.2.1, 0, none⟩)] ?_
   refine (Mt.RoomB HD.out).mono ?_
   rintro e9 w9 ⟨rfl, hh⟩
   refine ⟨_, rfl, ?_⟩
   have H9 := As (HD.out.call hh)
   have hD9 := (hh.block D (blk_lt HB2.out)).trans HB2.out
   clear hh
   refine hK.out _ _ (SP.out _ _ H9.out) (fun hHeld => ?_)
   clear hK K_
   refine nm_ ?_
   refine pu_ 6 (some 31) ?_
   refine pu_ 7 (some 4) ?_
   refine done_ (by kernel_rfl) ?_
   refine NoPanic.normal ?_
   go_wp2_with fail
   refine ⟨by simp, .inl ⟨_, _, rfl, run_takeDeferred hD9, ?_⟩⟩
   refine ⟨_, results_tmp rfl _ _ _, ?_, ?_⟩
   ·have := HB1.out.1
    unfold Tm.roomFor
    rw [this]
    rfl
   ·exact (H9.out.abide (grownBy_putObj' _ D (.deferred none)) hw0 (fun r e => by cases e; exact ⟨hD, _, hD9, rfl⟩) hR (hLIo _)).tail.tail.tail
 refine wpIn_rangeFunc_ownH (α := Bk) rfl (by omega) (gf := 147) (lb := #[.pointer (some ⟨w.heap.size + 1 + 1, 0, none⟩)]) rfl trivial (enters_of Try.func147 (by kernel_rfl) rfl)
  (back_stops (w0 := w0) Fence.wide 4 trivial rfl (by omega) (w.heap.size + 1 + 1) l hl (LK := (cb (w.heap.size + 1 + 1) 31 #[.slice ad l.length c] :: L)) List.mem_cons_self hrowK hLK) (fun h k => LKp.trans h k) (fun W l o o' => LKp.turn hw0 hLKlt W l o o') (Below.refl _ _) (fun x => rfl)
  (fun pre W => AllB t pre ∧ WL.heap.size ≤ W.heap.size ∧ Mt w0 W K t on R (cb (w.heap.size + 1 + 1) 31 #[.slice ad l.length c] :: cb (w.heap.size + 1) 3 #[.int .i64 (pre.length : Int)] :: cb w.heap.size 80 #[.pointer (some ⟨K.1, 0, none⟩)] :: L))
  (fun cd pre W => cd = .exit 0 ∧ ∃ (pre' : List Bk) (x : Bk), pre = pre' ++ [x] ∧ AllB t pre' ∧ big t x.2 = false ∧ WL.heap.size ≤ W.heap.size ∧ Mt w0 W K t on R (cb (w.heap.size + 1 + 1) 31 #[.slice ad l.length c] :: cb (w.heap.size + 1) 3 #[.int .i64 (pre'.length : Int)] :: cb w.heap.size 80 #[.pointer (some ⟨K.1, 0, none⟩)] :: L))
  (fun s W W' row ⟨h1, h2, h3⟩ hg hr => ⟨h1, Nat.le_trans h2 hg.size, h3.abide hg hw0 hr hR (hLI _)⟩)
  (fun cd s W W' row ⟨h0, p, x, h1, h2, h4, h5, h6⟩ hg hr => ⟨h0, p, x, h1, h2, h4, Nat.le_trans h5 hg.size, h6.abide hg hw0 hr hR (hLI _)⟩)
  ⟨fun y hy => (by cases hy), Nat.le_refl _, hM⟩
  (fun x a' W => ∃ Bx, WL.heap.size ≤ Bx ∧ W.heap[Bx]? = some (.cells #[.int .i64 x.2.1, .int .i64 x.2.2] 33 (0, 0)) ∧ a' = { tmps := #[.pointer (some ⟨K.1, 0, none⟩), .slice ad l.length c, .pointer (some ⟨w.heap.size, 0, none⟩), undef, .bool false, .pointer (some ⟨w.heap.size + 1, 0, none⟩), undef, .pointer (some ⟨Bx, 0, none⟩), .slice ad l.length c, .func (.func 147) #[] #[.pointer (some ⟨w.heap.size + 1 + 1, 0, none⟩)], .int .i64 (x.1 : Int), .agg #[.int .i64 x.2.1, .int .i64 x.2.2], undef, undef, undef, undef, undef, undef, undef, undef, undef, undef, undef, undef, undef, undef, undef, undef, undef, undef, undef, undef], defers := [] })
  (fun x a' s W W' row ⟨Bx, h1, h2, h3⟩ hg hr => ⟨Bx, h1, blk_grown h2 hg (fun e => by obtain ⟨_, o, ho, hc⟩ := hr Bx e.symm; rw [h2] at ho; cases ho; cases hc), h3⟩)
  ?assign ?body ?done ?stop
 case assign =>
  rintro l' pre x W Kk ⟨h1, h2, h3⟩ hK
  rw [show ∀ T : Array Value, (#[10, 11].zip (bkE x)).foldl (fun t (p, v) => t.setIfInBounds p v) T = (T.setIfInBounds 10 (.int .i64 (x.1 : Int))).setIfInBounds 11 (.agg #[.int .i64 x.2.1, .int .i64 x.2.2]) from fun T => by rw [← Array.foldl_toList, Array.toList_zip]; rfl]
  gi_wp2
  exact hK _ _ ((KeepsOthers.alloc _ _).from _) (fun hx => hx.skip _) ⟨h1, by simp; omega, (h3.alloc _).tail⟩ ⟨W.heap.size, h2, blk_new W _, rfl⟩
 case body =>
  rintro l' pre x a' W hl' ⟨r0, hr0⟩ ⟨hall, hsz2, hMt⟩ ⟨Bx, hBx, hBc, rfl⟩ hlen
  have y0 : W.cell? ⟨Bx, 0, none⟩ = some (.int .i64 x.2.1) := (blk_cell hBc 0).trans rfl
  have y1 : W.cell? ⟨Bx, 1, none⟩ = some (.int .i64 x.2.2) := (blk_cell hBc 1).trans rfl
  obtain ⟨p0, -⟩ := hMt.other.c1 w.heap.size 80 (.pointer (some ⟨K.1, 0, none⟩)) (by simp)
  obtain ⟨n, hn⟩ : ∃ n, t.at x.2 = n := ⟨_, rfl⟩
  have ew : wrap64 ((pre.length : Int) + 1) = (pre.length : Int) + 1 := by unfold wrap64; omega
  have ew' : IntKind.i64.wrap ((pre.length : Int) + 1) = (pre.length : Int) + 1 := by rw [IntKind.wrap_i64]; omega
  have HMt := As hMt
  have HX := As (And.intro hall (And.intro hsz2 hn))
  clear hall hsz2 hr0 hl' hBc
  by_cases hbig : 4 ≤ n.refs.length
  ·have hlt : ¬ ((n.refs.length : Int) < 4) := by omega
   gi_wp2_with (first
    | (refine ⟨trivial, ?_⟩; gi_at_call 35; have hx2 := HB2.out; clear hx2; refine (CallsIn.inRound l' (callsIn_wide.2 (size.calls (Hv.start w2) n.leaf n.ver ka ra n.keys.length kc n.refs.length rc))).mono ?_; rintro e3 w3 ⟨rfl, hh⟩; have HM3 := As ((HMt.out.call HB2.out).call hh.bel); have HB3 := As (HB2.out.trans (hh.bel.mono HB2.out.size)); clear hh; obtain ⟨g0, gf⟩ := HM3.out.other.c1 (w.heap.size + 1) 3 (.int .i64 (pre.length : Int)) (by simp))
    | (refine ⟨trivial, ?_⟩; gi_at_call 111; refine (CallsIn.inRound l' (callsIn_wide.2 (atB.calls HMt.out x.2))).mono ?_; rintro e2 w2 ⟨v, rfl, hnv, hb2, -⟩; rw [HX.out.2.2] at hnv; obtain ⟨ka, kc, ra, rc, ev, hr⟩ := hnv; have ev' : v = .agg #[.bool n.leaf, .int .i64 n.ver, .slice ka n.keys.length kc, .slice ra n.refs.length rc] := ev; subst ev'; clear ev hr; have HB2 := As hb2; clear hb2))
   exact ⟨(⟨HB3.out.size, fun k o _ hk _ => (HB3.out.block k (blk_lt hk)).trans hk⟩ : KeepsFrom WL.heap.size W w3).trans ((KeepsOthers.setCell _ _ _).from _), fun _ => (HM3.out.putB1 0 _ rfl).other.drop (hsub _), by
    refine ⟨fun y hy => ?_, ?_, ?_⟩
    ·rcases List.mem_append.1 hy with hy | hy
     ·exact HX.out.1 y hy
     ·rw [List.mem_singleton.1 hy]
      unfold big
      rw [HX.out.2.2]
      exact decide_eq_true hbig
    ·have := HX.out.2.1
     have := HB3.out.size
     simp
     omega
    ·rw [List.length_append]
     exact HM3.out.putB1 0 _ rfl⟩
  ·have hlt : ((n.refs.length : Int) < 4) := by omega
   gi_wp2_with (first
    | (refine ⟨trivial, ?_⟩; gi_at_call 35; have hx2 := HB2.out; clear hx2; refine (CallsIn.inRound l' (callsIn_wide.2 (size.calls (Hv.start w2) n.leaf n.ver ka ra n.keys.length kc n.refs.length rc))).mono ?_; rintro e3 w3 ⟨rfl, hh⟩; have HM3 := As ((HMt.out.call HB2.out).call hh.bel); have HB3 := As (HB2.out.trans (hh.bel.mono HB2.out.size)); clear hh; obtain ⟨g0, gf⟩ := HM3.out.other.c1 (w.heap.size + 1) 3 (.int .i64 (pre.length : Int)) (by simp))
    | (refine ⟨trivial, ?_⟩; gi_at_call 111; refine (CallsIn.inRound l' (callsIn_wide.2 (atB.calls HMt.out x.2))).mono ?_; rintro e2 w2 ⟨v, rfl, hnv, hb2, -⟩; rw [HX.out.2.2] at hnv; obtain ⟨ka, kc, ra, rc, ev, hr⟩ := hnv; have ev' : v = .agg #[.bool n.leaf, .int .i64 n.ver, .slice ka n.keys.length kc, .slice ra n.refs.length rc] := ev; subst ev'; clear ev hr; have HB2 := As hb2; clear hb2))
   exact ⟨⟨HB3.out.size, fun k o _ hk _ => (HB3.out.block k (blk_lt hk)).trans hk⟩, rfl, pre, x, rfl, HX.out.1, by unfold big; rw [HX.out.2.2]; exact decide_eq_false hbig, Nat.le_trans HX.out.2.1 HB3.out.size, HM3.out⟩
 case done =>
  rintro D xs W hD rfl ⟨hall, hsz, hM⟩ hK
  rw [bkL_length] at hM
  exact REST D l.length W hD (Nat.le_refl _) (cntB_of t l _ (Nat.le_refl _) hall (.inl rfl)) hM hK
 case stop =>
  rintro D cd pre W hD ⟨k, hk, rfl⟩ ⟨rfl, pre', x, hp, hall, hx, hsz, hM⟩ hK
  cases k with
  | zero => cases pre' <;> cases hp
  | succ k =>
   rw [bkL_succ] at hp
   obtain ⟨rfl, hxe⟩ := List.append_inj' hp rfl
   have hxe' : bkf l k = x := by simpa using hxe
   subst hxe'
   rw [bkL_length] at hM
   refine wpIn_exit ?_
   exact REST D k W hD (by omega) (cntB_of t l _ (by omega) hall (.inr hx)) hM hK
end
end Go.Proofs.Ytglbcfkmaamhaaa.Tr
namespace Go.Proofs.Ytglbcfkmaamhaaa.Tr
open Go Go.RowKit Go.Shelf Go.Proofs.YtglbcfkmaamhaaaW.PrintWords Go.Proofs.Ytglbcfkmaamhaaa.Hv Go.Proofs.Ytglbcfkmaamhaaa.Arm Go.Proofs.Ytglbcfkmaamhaaa.Nd Go.Proofs.Ytglbcfkmaamhaaa.ArN
section
attribute [local go_sem] Oper.semAt_some
variable {w0 w w1 : World} {L L' R : List Ob} {K : Nat × Nat × Nat} {t : Tm} {on : Value} {B : Nat}
theorem cell_non {w : World} {a : Addr} {o : Obj} (h : w.heap[a.block]? = some o) (hc : o.isCells = false) : w.cell? a = none := by
 unfold World.cell?
 rw [h]
 cases o <;> first | rfl | cases hc
theorem Rdy.strip {k : Nat} {o : Obj} {size n : Nat} {ad : Option Addr} {xs : List Value} (hk : w0.heap.size ≤ k) (hc : o.isCells = false) (hn : k ∉ R.map (·.1)) (hd : (R.map (·.1)).Nodup) (h : Rdy size w0 ((k, o) :: R) ad n xs) : Rdy size w0 R ad n xs := by
 intro W L' hv hL
 obtain ⟨W1, hW1⟩ : ∃ W1 : World, W1 = { W with heap := Array.ofFn (n := max W.heap.size (k + 1)) fun j => if j.1 = k then o else W.heap.getD j.1 (.deferred none) } := ⟨_, rfl⟩
 have hs : W1.heap.size = max W.heap.size (k + 1) := by rw [hW1]; simp
 have hg : ∀ j, j < max W.heap.size (k + 1) → W1.heap[j]? = some (if j = k then o else W.heap.getD j (.deferred none)) := fun j hj => by
  rw [hW1]
  simp only [Array.getElem?_ofFn]
  rw [dif_pos hj]
 have hlow : ∀ j, j ≠ k → j < W.heap.size → W1.heap[j]? = W.heap[j]? := fun j h1 h2 => by
  rw [hg j (by omega), if_neg h1, Array.getD_eq_getD_getElem?, Array.getElem?_eq_getElem h2]
  rfl
 have hb := hv.bel
 have hv1 : Hv w0 W1 ((k, o) :: R) := by
  refine ⟨⟨?_, ?_, ?_, ?_, fun j hj => ?_⟩, fun p hp => ?_, fun p hp => ?_, ?_⟩
  ·rw [hW1]; exact hb.os
  ·rw [hW1]; exact hb.tape
  ·rw [hW1]; exact hb.output
  ·rw [hs]; have := hb.size; omega
  ·rw [hlow j (by omega) (by have := hb.size; omega)]; exact hb.block j hj
  ·rcases List.mem_cons.1 hp with rfl | hp
   ·rw [hg k (by omega), if_pos rfl]
   ·have h1 := hv.box p (hL p hp)
    rw [hlow p.1 (fun e => hn (e ▸ List.mem_map.2 ⟨p, hp, rfl⟩)) (blk_lt h1)]
    exact h1
  ·rcases List.mem_cons.1 hp with rfl | hp
   ·exact hk
   ·exact hv.new p (hL p hp)
  ·exact List.nodup_cons.2 ⟨hn, hd⟩
 obtain ⟨h1, h2⟩ := h W1 _ hv1 (fun _ hp => hp)
 refine ⟨h1, fun hpos => ?_⟩
 obtain ⟨a, ha, hcell⟩ := h2 hpos
 refine ⟨a, ha, fun i u hu => ?_⟩
 have h3 := hcell i u hu
 have key : ∀ a : Addr, W1.cell? a = some u → W.cell? a = some u := fun a h3 => by
  by_cases e : a.block = k
  ·rw [cell_non (o := o) (by rw [e, hg k (by omega), if_pos rfl]) hc] at h3
   cases h3
  ·by_cases hlt : a.block < W.heap.size
   ·rw [World.cell?_of_block (w := W) (hlow a.block e hlt)] at h3
    exact h3
   ·by_cases hl2 : a.block < max W.heap.size (k + 1)
    ·rw [cell_non (o := .deferred none) (by rw [hg _ hl2, if_neg e, Array.getD_eq_getD_getElem?, Array.getElem?_eq_none (by omega)]; rfl) rfl] at h3
     cases h3
    ·have h4 : W1.heap[a.block]? = none := Array.getElem?_eq_none (by rw [hs]; omega)
     unfold World.cell? at h3
     rw [h4] at h3
     cases h3
 exact key _ h3
theorem Rdy.strips {size n : Nat} {ad : Option Addr} {xs : List Value} : ∀ P : List Ob, (∀ p ∈ P, w0.heap.size ≤ p.1 ∧ p.2.isCells = false) → ((P ++ R).map (·.1)).Nodup → Rdy size w0 (P ++ R) ad n xs → Rdy size w0 R ad n xs
 | [], _, _, h => h
 | p :: P, hp, hd, h => by
  have hd' : (p.1 :: (P ++ R).map (·.1)).Nodup := hd
  obtain ⟨h1, h2⟩ := List.nodup_cons.1 hd'
  obtain ⟨h3, h4⟩ := hp p List.mem_cons_self
  exact Rdy.strips P (fun q hq => hp q (List.mem_cons_of_mem _ hq)) h2 (Rdy.strip h3 h4 h1 h2 h)
theorem Rdy.cells {size n : Nat} {ad : Option Addr} {xs : List Value} (hv : Hv w0 w R) (h : Rdy size w0 R ad n xs) : Rdy size w0 (R.filter (fun p => p.2.isCells)) ad n xs := by
 refine Rdy.strips (R.filter (fun p => !p.2.isCells)) (fun p hp => ⟨hv.new p (List.mem_filter.1 hp).1, by simpa using (List.mem_filter.1 hp).2⟩) ?_ (h.mono (fun p hp => ?_))
 ·refine ((List.Perm.map _ ?_).nodup_iff).2 hv.nod
  exact List.perm_append_comm.trans (List.filter_append_perm (fun p : Ob => p.2.isCells) R)
 ·cases hc : p.2.isCells
  ·exact List.mem_append_left _ (List.mem_filter.2 ⟨hp, by simp [hc]⟩)
  ·exact List.mem_append_right _ (List.mem_filter.2 ⟨hp, hc⟩)
theorem Mt.pure (h : Mt w0 w K t on R L) : ∃ R', (∀ p ∈ R', p.2.isCells = true) ∧ (∀ p ∈ R', p ∈ R) ∧ Mt w0 w K t on R' L := by
 obtain ⟨s, gv, G, e, h1, h2, h3⟩ := h
 have hv : Hv w0 w R := h1.other.tail.right.left
 refine ⟨R.filter (fun p => p.2.isCells), fun p hp => (List.mem_filter.1 hp).2, fun p hp => (List.mem_filter.1 hp).1, s, gv, G, e, ?_, h2, h3.len, fun i n hn => ?_⟩
 ·obtain ⟨bv, B, a1, a2, a3⟩ := h1
  exact ⟨bv, B, a1.drop (List.Sublist.append_left (List.Sublist.cons_cons _ (List.Sublist.append_left (List.Sublist.append_right List.filter_sublist L) G)) _), a2, a3⟩
 ·obtain ⟨ka, kc, ra, rc, hx, hr⟩ := h3.row i n hn
  exact ⟨ka, kc, ra, rc, hx, Rdy.cells hv hr.k, Rdy.cells hv hr.r, hr.kc, hr.rc⟩
abbrev Ix (n : Nat) := { i : Nat // i < n }
def ixE (s : List Rf) (x : Ix s.length) : Array Value := bkE (x.1, s.getD x.1 (0, 0))
def ixf (n k : Nat) (h : k < n) : Ix n := ⟨n - 1 - k, by omega⟩
def ixL (n : Nat) : (k : Nat) → k ≤ n → List (Ix n)
 | 0, _ => []
 | k + 1, h => ixL n k (by omega) ++ [ixf n k (by omega)]
theorem ixL_length (n : Nat) : ∀ (k : Nat) (h : k ≤ n), (ixL n k h).length = k
 | 0, _ => rfl
 | k + 1, h => by rw [ixL, List.length_append, ixL_length n k]; rfl
theorem back2_in (F : Fence) (n : Nat) (h147 : F.fn 147) (hro : F.round = none) (hn : 1 ≤ n) (l Bs : Nat) (s : List Rf) (hl : s.length ≤ 1000000) {ad : Option Addr} {c : Nat} {Rk : World → Prop} {Kp : World → World → Prop}
  (hR1 : ∀ W, Rk W → W.cell? ⟨Bs, 0, none⟩ = some (.slice ad s.length c)) (hR2 : ∀ W, Rk W → Rd 2 W ad s.length (s.flatMap rcel)) (hKR : ∀ A B, Kp A B → Rk A → Rk B) (J Jx : List (Ix s.length) → World → Prop)
  (hY : ∀ pre x W, J pre W → pre.length < s.length → YieldAt F (n - 1) Try.prog l (ixE s x) W fun e W' =>
   (e = .returned (.bool true) ∧ J (pre ++ [x]) W' ∧ Kp W W') ∨ (e = .returned (.bool false) ∧ Jx (pre ++ [x]) W'))
  (W : World) (hW : Rk W) (h0 : J [] W) :
  CallsIn F n Try.prog 147 #[.func (.yield l) #[] #[], .pointer (some ⟨Bs, 0, none⟩)] W fun e W' => (∃ v, e = .returned v) ∧
   ((∃ ys, ys = ixL s.length s.length (Nat.le_refl _) ∧ J ys W') ∨ (∃ pre, (∃ (k : Nat) (hk : k ≤ s.length), pre = ixL s.length k hk) ∧ Jx pre W')) := by
 have hu31 := Try.underlying31
 have hu33 := Try.underlying33
 have hb0 := hR1 W hW
 have ew0 : wrap64 ((s.length : Int) - 1) = (s.length : Int) - 1 := by unfold wrap64; omega
 refine callsIn_of_wp Try.func147 rfl h147 ?_ hro
 simp only [Try.ntmps147, List.size_toArray, List.length_cons, List.length_nil, Nat.reduceAdd, Nat.reduceSub, Array.replicate_succ, Array.replicate_zero, List.push_toArray, List.append_toArray, List.nil_append, List.cons_append]
 gi_wp2
 clear hb0
 gi_loopw [3] (fun i wr => ∃ (k : Nat) (hk : k ≤ s.length), i = .int .i64 ((s.length : Int) - 1 - (k : Int)) ∧ J (ixL s.length k hk) wr ∧ Rk wr)
  (fun i _ => (intOf i + 1).toNat)
 case atStart => exact ⟨0, Nat.zero_le _, by simp [ew0], h0, hW⟩
 case round =>
  obtain ⟨k, hk, rfl, hJs, hRk⟩ := hrel
  have hb1 := hR1 wr hRk
  by_cases hlt : k < s.length
  ·obtain ⟨j, hj⟩ : ∃ j, j = s.length - 1 - k := ⟨_, rfl⟩
   have ej : (s.length : Int) - 1 - (k : Int) = (j : Int) := by omega
   obtain ⟨g1, ea, hc⟩ := (hR2 wr hRk).2 (by omega)
   subst ea
   obtain ⟨q, hq⟩ : ∃ q, s[j]? = some q := ⟨_, List.getElem?_eq_getElem (by omega)⟩
   have hbk : ixE s (ixf s.length k hlt) = bkE (j, q) := by unfold ixE ixf; simp only []; rw [← hj, List.getD_eq_getElem?_getD, hq]; rfl
   obtain ⟨r0, r1⟩ := rcel_get s j q hq
   have z0 := hc (j * 2) _ r0
   have z1' := hc (j * 2 + 1) _ r1
   rw [← Addr.add_add] at z1'
   have z1 : wr.cell? { block := (g1.add (j * 2)).block, off := (g1.add (j * 2)).off + 1 } = some (.int .i64 q.2) := z1'
   have hjl : (j : Int) < (s.length : Int) := by omega
   have hjn : j < s.length := by omega
   have ew : wrap64 ((j : Int) - 1) = (j : Int) - 1 := by unfold wrap64; omega
   obtain ⟨fn, tmps, assign, body, hy, hR⟩ := hY _ (ixf s.length k hlt) wr hJs (by rw [ixL_length]; exact hlt)
   rw [hbk] at hy
   dsimp only [bkE] at hy
   rw [ej]
   have HJ := As (And.intro hj ej)
   clear hc r0 r1 z1' hj ej hbk
   gi_wp2
   refine hR.mono ?_
   rintro e W3 (⟨rfl, hJ3, hk3⟩ | ⟨rfl, hJx3⟩)
   ·gi_wp2
    go_roundw
    case rel => exact ⟨k + 1, by omega, by have := HJ.out.2; simp [ew]; omega, hJ3, hKR _ _ hk3 hRk⟩
    case measure =>
     have := HJ.out.2
     simp [intOf, ew]
   ·gi_wp2
    refine bodyPost_ret (results_none rfl _ _ _) rfl ?_
    exact ⟨⟨_, rfl⟩, .inr ⟨_, ⟨k + 1, by omega, rfl⟩, hJx3⟩⟩
  ·have hkl : k = s.length := by omega
   subst hkl
   have en : (s.length : Int) - 1 - (s.length : Int) = -1 := by omega
   rw [en]
   gi_wp2
   go_end0
   exact ⟨⟨_, rfl⟩, .inl ⟨_, rfl, hJs⟩⟩
theorem back_stopsI (F : Fence) (n : Nat) (h147 : F.fn 147) (hro : F.round = none) (hn : 1 ≤ n) (Bs : Nat) (s : List Rf) (hl : s.length ≤ 1000000) {ad : Option Addr} {c : Nat} {LK : List Ob}
  (hb : cb Bs 31 #[.slice ad s.length c] ∈ LK) (hr : Rdy 2 w0 LK ad s.length (s.flatMap rcel)) (h : Hv w0 w LK) :
  SeqStopsK F n Try.prog 147 #[.pointer (some ⟨Bs, 0, none⟩)] (ixE s) (LKp w0 LK) (fun ys => ys = ixL s.length s.length (Nat.le_refl _)) (fun pre => ∃ (k : Nat) (hk : k ≤ s.length), pre = ixL s.length k hk) s.length w := fun l J Jx W hW hJ hJx hY h0 =>
 back2_in F n h147 hro hn l Bs s hl (Rk := fun W => Hv w0 W LK) (Kp := LKp w0 LK) (fun W h => (h.c1 _ _ _ hb).1) (fun W h => hr W LK h (fun _ hp => hp)) (fun A B hk ha => hk ha) J Jx hY W (h.call hW) h0
end
end Go.Proofs.Ytglbcfkmaamhaaa.Tr
namespace Go.Proofs.Ytglbcfkmaamhaaa.Tr
open Go Go.Proofs.YtglbcfkmaamhaaaW.PrintLast
section
section
variable {P : Program} {ops : Array Oper} {Q : Exit → Act → World → Prop} {md : Region.Mode} {S : World → Prop} {ds : List Nat} {l n : Nat}
theorem upon_in {o : Oper} {a : Act} {next next' : Act → World → Prop} (hn : ∀ a w, next a w → next' a w) (r : Result Next) (h : o.upon P a next Q r) : o.uponIn (Fence.wide.inRound l) n P a next' Q r := by
 cases r with
 | ok x w' =>
  cases x <;> simp only [Oper.upon] at h <;> simp only [Oper.uponIn]
  case value => exact hn _ _ h
  case skip => exact hn _ _ h
  case defer => exact hn _ _ h
  case enter =>
   refine ⟨fun e => (by cases e), CallsIn.inRound l (callsIn_wide.2 (Calls.mono h (fun e w'' he => ?_)))⟩
   cases e <;> first | exact hn _ _ he | exact he
  case row =>
   refine ⟨fun e => (by cases e), fun c cs _ => ?_⟩
   obtain ⟨v, w'', r, s⟩ := h c cs
   exact ⟨v, w'', hn _ _ r, stepsIn_wide.2 s⟩
 | halt x w' => cases x <;> simp only [Oper.upon] at h <;> simp only [Oper.uponIn] <;> exact h
theorem wpOp_in {i : Nat} {a : Act} {w : World} {K K' : Act → World → Prop} (hno : ¬ LetsOut Q) (hd : ∀ (j : Nat) (o : Oper) c, ops[j]? = some o → o.op ≠ .defer c) (hK : ∀ a w, K a w → K' a w) (h : wpOp P ops Q i K a w) : wpOpIn (Fence.wide.inRound l) n P ops Q i K' a w := by
 unfold wpOp at h
 unfold wpOpIn
 cases ho : ops[i]? with
 | none => rw [ho] at h; exact hK _ _ h
 | some o =>
  rw [ho] at h
  simp only [] at h ⊢
  by_cases hw : Region.wanted o (yielded ops a.tmps) = true
  ·rw [if_pos hw] at h ⊢
   rcases h with h | ⟨_, h⟩
   ·refine ⟨fun _ _ => trivial, ?_⟩
    rw [Oper.semAt_eq _ _ _ (fun c => hd i o c ho)]
    exact upon_in hK _ h
   ·exact absurd h hno
  ·rw [if_neg hw] at h ⊢
   exact ⟨fun _ _ => trivial, hK _ _ h⟩
theorem wpAny_in (hno : ¬ LetsOut Q) (hd : ∀ (j : Nat) (o : Oper) c, ops[j]? = some o → o.op ≠ .defer c) : ∀ (fuel : Nat) (listed : Array Bool) (a : Act) (w : World), wpAny P md ops Q fuel listed a w → wpAnyIn (Fence.wide.inRound l) n P md ops Q fuel listed a w
 | 0, _, _, _, h => h
 | fuel + 1, listed, a, w, h => ⟨h.1, fun i hi => wpOp_in hno hd (fun a w h => wpAny_in hno hd fuel _ a w h) (h.2 i hi)⟩
def plainB (ops : Array Oper) : Bool := ops.toList.all fun o => match o.op with | .defer _ => false | _ => true
theorem plainB_spec (h : plainB ops = true) : ∀ (j : Nat) (o : Oper) c, ops[j]? = some o → o.op ≠ .defer c := fun j o c ho e => by
 have := List.all_eq_true.1 h o (List.mem_of_getElem? (by rw [Array.getElem?_toList]; exact ho))
 rw [e] at this
 cases this
theorem startIn_ {id m : Nat} {a : Act} {w : World} (ls : Array Bool) (hno : ¬ LetsOut Q) (hd : plainB ops = true) (hm : P.follows .mixedOrders = true) (hn : ops.size = m) (hl : Array.replicate m false = ls) (hS : S w.drew)
  (h : S w.drew → wpAnyLast P .any ops Q S ds m ls a w.drew) : (Code.region id ops true).wpIn (Fence.wide.inRound l) n P Q a w := by
 subst hn
 subst hl
 exact wpIn_region_any hm (wpAny_in hno (plainB_spec hd) _ _ _ _ (wpAny_of_last _ _ _ _ (h hS)))
end
end
end Go.Proofs.Ytglbcfkmaamhaaa.Tr
namespace Go.Proofs.Ytglbcfkmaamhaaa.Tr
open Go Go.RowKit Go.Shelf Go.Proofs.YtglbcfkmaamhaaaW.PrintWords Go.Proofs.Ytglbcfkmaamhaaa.Hv Go.Proofs.Ytglbcfkmaamhaaa.Arm Go.Proofs.Ytglbcfkmaamhaaa.Nd Go.Proofs.Ytglbcfkmaamhaaa.ArN
section
variable {w0 w0' w w1 : World} {L L' R R' : List Ob} {K : Nat × Nat × Nat} {t t' : Tm} {on on' : Value} {B : Nat}
theorem Rd.det {size n : Nat} {ad : Option Addr} {xs ys : List Value} (h : Rd size w ad n xs) (k : Rd size w ad n ys) : xs = ys := by
  apply List.ext_getElem?
  intro i
  by_cases hi : i < n * size
  · have hn : 0 < n := by rcases Nat.eq_zero_or_pos n with rfl | h; · rw [Nat.zero_mul] at hi; omega
                          · exact h
    obtain ⟨a, e1, h1⟩ := h.2 hn
    obtain ⟨b, e2, h2⟩ := k.2 hn
    rw [e1] at e2
    cases e2
    have l1 := h.1
    have l2 := k.1
    obtain ⟨u, hu⟩ : ∃ u, xs[i]? = some u := ⟨_, List.getElem?_eq_getElem (by omega)⟩
    obtain ⟨v, hv⟩ : ∃ v, ys[i]? = some v := ⟨_, List.getElem?_eq_getElem (by omega)⟩
    have g1 := h1 i u hu
    rw [h2 i v hv] at g1
    rw [hu, hv]
    exact g1.symm
  · rw [List.getElem?_eq_none (by rw [h.1]; omega), List.getElem?_eq_none (by rw [k.1]; omega)]
theorem Gr.det {e size n n' : Nat} {v : Value} {xs ys : List Value} {A A' : List Ob} (h : Gr e size v n xs A) (k : Gr e size v n' ys A') (hA : ∀ p ∈ A, w.heap[p.1]? = some p.2) (hA' : ∀ p ∈ A', w.heap[p.1]? = some p.2) : n = n' ∧ xs = ys := by
 obtain ⟨h1, h2⟩ := h
 obtain ⟨k1, k2⟩ := k
 rcases h2 with ⟨rfl, rfl, rfl⟩ | ⟨g, cap, cur, rfl, rfl, h3, h4, h5, h6⟩
 ·rcases k2 with ⟨_, rfl, rfl⟩ | ⟨g', cap', cur', e1, _⟩
  ·exact ⟨rfl, (List.eq_nil_of_length_eq_zero (by simpa using h1)).trans (List.eq_nil_of_length_eq_zero (by simpa using k1)).symm⟩
  ·cases e1
 ·rcases k2 with ⟨e1, _⟩ | ⟨g', cap', cur', e1, rfl, k3, k4, k5, k6⟩
  ·cases e1
  ·cases e1
   have a1 := hA _ (List.mem_singleton.2 rfl)
   have a2 := hA' _ (List.mem_singleton.2 rfl)
   simp only [] at a1 a2
   rw [a1] at a2
   simp only [Option.some.injEq, Obj.cells.injEq] at a2
   exact ⟨rfl, by rw [← h6, ← k6, a2.1]⟩
theorem flatMap_inj {α : Type} {f : α → List Value} {m : Nat} (hm : 0 < m) (hl : ∀ x, (f x).length = m) (hf : ∀ x y, f x = f y → x = y) : ∀ {l l' : List α}, l.flatMap f = l'.flatMap f → l = l'
 | [], [], _ => rfl
 | [], y :: l', h => by
  have := congrArg List.length h
  simp only [List.flatMap_nil, List.flatMap_cons, List.length_append, List.length_nil, hl] at this
  omega
 | x :: l, [], h => by
  have := congrArg List.length h
  simp only [List.flatMap_nil, List.flatMap_cons, List.length_append, List.length_nil, hl] at this
  omega
 | x :: l, y :: l', h => by
  rw [List.flatMap_cons, List.flatMap_cons] at h
  obtain ⟨h1, h2⟩ := List.append_inj h (by rw [hl, hl])
  rw [hf _ _ h1, flatMap_inj hm hl hf h2]
theorem rcel_inj (x y : Rf) (h : rcel x = rcel y) : x = y := by
 simp only [rcel, List.cons.injEq, Value.int.injEq, true_and, and_true] at h
 exact Prod.ext h.1 h.2
theorem map_str_inj {l l' : List ByteArray} (h : l.map Value.string = l'.map Value.string) : l = l' := by
 have : Function.Injective Value.string := fun a b e => by cases e; rfl
 exact (List.map_inj_right (fun a b e => this e)).1 h
theorem flat_inj {l l' : List Sl} {m : Nat} (h : ∀ q ∈ l, q.x.length = m) (h' : ∀ q ∈ l', q.x.length = m) (hl : l.length = l'.length) (e : flat l = flat l') : l = l' := by
 have e1 : (l.map Sl.cells).flatten = (l'.map Sl.cells).flatten := by
  have := congrArg Array.toList e
  simpa [flat] using this
 have hc : ∀ (l : List Sl), (∀ q ∈ l, q.x.length = m) → ∀ r ∈ l.map Sl.cells, r.length = m + 2 := fun l h r hr => by
  obtain ⟨q, hq, rfl⟩ := List.mem_map.1 hr
  simp [Sl.cells, h q hq]
 apply List.ext_getElem?
 intro i
 by_cases hi : i < l.length
 ·obtain ⟨q, hq⟩ : ∃ q, l[i]? = some q := ⟨_, List.getElem?_eq_getElem hi⟩
  obtain ⟨q', hq'⟩ : ∃ q', l'[i]? = some q' := ⟨_, List.getElem?_eq_getElem (by omega)⟩
  have ec : q.cells = q'.cells := by
   apply List.ext_getElem?
   intro j
   by_cases hj : j < m + 2
   ·have g1 := flat_get _ (hc l h) i j q.cells (by rw [List.getElem?_map, hq]; rfl) hj
    have g2 := flat_get _ (hc l' h') i j q'.cells (by rw [List.getElem?_map, hq']; rfl) hj
    rw [e1] at g1
    exact g1.symm.trans g2
   ·have a1 : q.cells.length = m + 2 := hc l h _ (List.mem_map.2 ⟨q, List.mem_of_getElem? hq, rfl⟩)
    have a2 : q'.cells.length = m + 2 := hc l' h' _ (List.mem_map.2 ⟨q', List.mem_of_getElem? hq', rfl⟩)
    rw [List.getElem?_eq_none (by omega), List.getElem?_eq_none (by omega)]
  have l1 := h q (List.mem_of_getElem? hq)
  have l2 := h' q' (List.mem_of_getElem? hq')
  obtain ⟨b1, b2⟩ := List.append_inj ec (by rw [l1, l2])
  simp only [List.cons.injEq, Value.int.injEq, Value.bool.injEq, true_and, and_true] at b2
  rw [hq, hq']
  cases q; cases q'
  simp only [Option.some.injEq, Sl.mk.injEq] at *
  exact ⟨b1, b2.1, b2.2⟩
 ·rw [List.getElem?_eq_none (by omega), List.getElem?_eq_none (by omega)]
theorem nums_inj : ∀ {l l' : List Int}, nums .i64 l = nums .i64 l' → l = l' := by
 intro l l' h
 have : l.map (Value.int .i64) = l'.map (Value.int .i64) := h
 exact (List.map_inj_right (fun a b e => by cases e; rfl)).1 this
theorem Mt.det (h : Mt w0 w K t on R L) (k : Mt w0' w K t' on' R' L') : t = t' := by
 obtain ⟨s, gv, G, e, ⟨bv, B, h1, h1', h1''⟩, h2, h3⟩ := h
 obtain ⟨s', gv', G', e', ⟨bv', B', k1, k1', k1''⟩, k2, k3⟩ := k
 have b0 := h1.box _ (List.mem_append_left _ (List.mem_cons_self))
 have b0' := k1.box _ (List.mem_append_left _ (List.mem_cons_self))
 simp only [] at b0 b0'
 rw [b0] at b0'
 simp only [Option.some.injEq, Obj.cells.injEq, Array.mk.injEq, List.cons.injEq, Value.slice.injEq, Value.int.injEq, true_and, and_true] at b0'
 obtain ⟨⟨hn, -⟩, rfl, hev, -⟩ := b0'
 have b1 := h1.box _ (List.mem_append_left _ (List.mem_cons_of_mem _ (List.mem_cons_self)))
 have b1' := k1.box _ (List.mem_append_left _ (List.mem_cons_of_mem _ (List.mem_cons_self)))
 simp only [] at b1 b1'
 rw [b1] at b1'
 simp only [Option.some.injEq, Obj.cells.injEq, true_and, and_true] at b1'
 have hsl : s.slots = s'.slots := flat_inj h1''.len k1''.len hn b1'
 obtain ⟨hbl, hbk⟩ := Gr.det (w := w) h1' k1' (fun p hp => h1.box p (by simp [AL, hp])) (fun p hp => k1.box p (by simp [AL, hp]))
 have hback := nums_inj hbk
 have hs : s = s' := by
  cases s; cases s'
  simp only [Ar.mk.injEq]
  exact ⟨hsl, hback, hev⟩
 subst hs
 have b2 := h1.box (tb K t gv on) (by simp)
 have b2' := k1.box (tb K t' gv' on') (by simp)
 simp only [] at b2 b2'
 rw [b2] at b2'
 simp only [Option.some.injEq, Obj.cells.injEq, Array.mk.injEq, List.cons.injEq, Value.int.injEq, true_and, and_true] at b2'
 obtain ⟨hr1, hr2, rfl, -⟩ := b2'
 obtain ⟨_, hg⟩ := Gr.det (w := w) h2 k2 (fun p hp => h1.box p (by simp [hp])) (fun p hp => k1.box p (by simp [hp]))
 have hgone := flatMap_inj (m := 2) (by decide) (fun _ => rfl) rcel_inj hg
 have hvR : Hv w0 w R := by
  have := h1.drop (L' := R) (by
   refine List.Sublist.trans ?_ (List.sublist_append_right _ _)
   refine List.Sublist.trans ?_ (List.sublist_cons_self _ _)
   exact (List.sublist_append_left R L).trans (List.sublist_append_right _ _))
  exact this
 have hvR' : Hv w0' w R' := by
  have := k1.drop (L' := R') (by
   refine List.Sublist.trans ?_ (List.sublist_append_right _ _)
   refine List.Sublist.trans ?_ (List.sublist_cons_self _ _)
   exact (List.sublist_append_left R' L').trans (List.sublist_append_right _ _))
  exact this
 have hns : t.ns = t'.ns := by
  apply List.ext_getElem?
  intro i
  by_cases hi : i < s.n
  ·obtain ⟨n, hn1⟩ : ∃ n, t.ns[i]? = some n := ⟨_, List.getElem?_eq_getElem (by rw [h3.len]; exact hi)⟩
   obtain ⟨m, hm1⟩ : ∃ m, t'.ns[i]? = some m := ⟨_, List.getElem?_eq_getElem (by rw [k3.len]; exact hi)⟩
   obtain ⟨ka, kc, ra, rc, e1, r1⟩ := h3.row i n hn1
   obtain ⟨ka', kc', ra', rc', e2, r2⟩ := k3.row i m hm1
   rw [e1] at e2
   simp only [slv, List.cons.injEq, Value.bool.injEq, Value.int.injEq, Value.slice.injEq, true_and, and_true] at e2
   obtain ⟨q1, q2, ⟨rfl, q3, rfl⟩, rfl, q4, rfl⟩ := e2
   have g1 := r1.k.now hvR
   have g2 := r2.k.now hvR'
   have g3 := r1.r.now hvR
   have g4 := r2.r.now hvR'
   rw [← q3] at g2
   rw [← q4] at g4
   have hk := map_str_inj (Rd.det g1 g2)
   have hrf := flatMap_inj (m := 2) (by decide) (fun _ => rfl) rcel_inj (Rd.det g3 g4)
   rw [hn1, hm1]
   cases n; cases m
   simp only [Option.some.injEq, Nd.mk.injEq] at *
   exact ⟨q1, q2, hk, hrf⟩
  ·rw [List.getElem?_eq_none (by rw [h3.len]; omega), List.getElem?_eq_none (by rw [k3.len]; omega)]
 cases t; cases t'
 simp only [Tm.mk.injEq] at *
 exact ⟨by rw [← e, ← e'], hns, Prod.ext hr1 hr2, hgone⟩
theorem Rdy.elem {s : List Rf} {a : Addr} {j : Nat} (h : Rdy 2 w0 L (some a) s.length (s.flatMap rcel)) (hj : j < s.length) : Rdy 2 w0 L (some (a.add (j * 2))) 1 (rcel (s.getD j (0, 0))) := fun W L' hv hL => by
 obtain ⟨h1, h2⟩ := h W L' hv hL
 refine ⟨rfl, fun _ => ?_⟩
 obtain ⟨b, e, h3⟩ := h2 (by omega)
 cases e
 refine ⟨_, rfl, fun i u hu => ?_⟩
 obtain ⟨q, hq⟩ : ∃ q, s[j]? = some q := ⟨_, List.getElem?_eq_getElem hj⟩
 have hd : s.getD j (0, 0) = q := by rw [List.getD_eq_getElem?_getD, hq]; rfl
 rw [hd] at hu
 obtain ⟨r0, r1⟩ := rcel_get s j q hq
 have hi : i = 0 ∨ i = 1 := by
  have := (List.getElem?_eq_some_iff.1 hu).1
  simp [rcel] at this
  omega
 rcases hi with rfl | rfl
 ·have hu' : Value.int .i64 q.1 = u := by simpa [rcel] using hu
  rw [← hu', Addr.add_add, Nat.add_zero]
  exact h3 _ _ r0
 ·have hu' : Value.int .i64 q.2 = u := by simpa [rcel] using hu
  rw [← hu', Addr.add_add]
  exact h3 _ _ r1
theorem Mt.keepsX (h : Mt w0 w K t on R L) (hb : Below w.heap.size w w1) (hlt : w.heap.size < w1.heap.size) (hB : w0.heap.size ≤ B) (hBw : B ≤ w.heap.size) (hR : ∀ p ∈ R, p.1 < B ∨ p.2.isCells = true) (hL : ∀ p ∈ L, p.1 < B ∨ p.2.isCells = true) :
  ∃ X, Mt w0 w1 K t on R (L ++ X) ∧ ∀ (w2 : World), (∀ p ∈ X, w2.heap[p.1]? = some p.2) → KeepsFrom B w1 w2 := by
 obtain ⟨s, gv, G, e, ⟨bv, Bb, h1, h1', h1''⟩, h2, h3⟩ := h
 have hc := h1.call hb
 refine ⟨restB w1 B ((AL K.2.1 K.2.2 bv Bb s ++ (tb K t gv on :: (G ++ (R ++ L))))), ⟨s, gv, G, e, ⟨bv, Bb, ?_, h1', h1''⟩, h2, h3⟩, fun w2 hrest => ?_⟩
 ·have := Hv.withR hc hB
  refine this.perm ?_
  have key : ∀ X : List Ob, (AL K.2.1 K.2.2 bv Bb s ++ (tb K t gv on :: (G ++ (R ++ (L ++ X))))).Perm ((AL K.2.1 K.2.2 bv Bb s ++ (tb K t gv on :: (G ++ (R ++ L)))) ++ X) := fun X => by
   simp only [List.append_assoc, List.cons_append]
   exact List.Perm.refl _
  exact key _
 ·have hlow : ∀ q ∈ (AL K.2.1 K.2.2 bv Bb s ++ (tb K t gv on :: (G ++ (R ++ L)))), q.1 < w.heap.size := fun q hq => h1.lt q hq
  refine ⟨?_, fun k o hk ho1 hco => ?_⟩
  ·have hlast : (w1.heap.size - 1, w1.heap[w1.heap.size - 1]) ∈ restB w1 B ((AL K.2.1 K.2.2 bv Bb s ++ (tb K t gv on :: (G ++ (R ++ L))))) := by
    refine restB_mem.2 ⟨by simp only []; omega, fun hm => ?_, by simp⟩
    obtain ⟨q, hq, e1⟩ := List.mem_map.1 hm
    have e2 : q.1 = w1.heap.size - 1 := e1
    have := hlow q hq
    omega
   have := blk_lt (hrest _ hlast)
   simp only [] at this
   omega
  ·by_cases hm : k ∈ (AL K.2.1 K.2.2 bv Bb s ++ (tb K t gv on :: (G ++ (R ++ L)))).map (·.1)
   ·obtain ⟨q, hq, rfl⟩ := List.mem_map.1 hm
    have hqo := hc.box q hq
    rw [ho1] at hqo
    have e3 : o = q.2 := Option.some.inj hqo
    exfalso
    simp only [AL, List.cons_append, List.mem_cons, List.mem_append] at hq
    rcases hq with rfl | rfl | hq | rfl | hq | hq | hq
    ·rw [e3] at hco; cases hco
    ·rw [e3] at hco; cases hco
    ·rw [e3, gr_cells h1' q hq] at hco; cases hco
    ·rw [e3] at hco; cases hco
    ·rw [e3, gr_cells h2 q hq] at hco; cases hco
    ·rcases hR q hq with h5 | h5
     ·omega
     ·rw [e3, h5] at hco; cases hco
    ·rcases hL q hq with h5 | h5
     ·omega
     ·rw [e3, h5] at hco; cases hco
   ·exact hrest (k, o) (restB_mem.2 ⟨hk, hm, ho1⟩)
end
end Go.Proofs.Ytglbcfkmaamhaaa.Tr
