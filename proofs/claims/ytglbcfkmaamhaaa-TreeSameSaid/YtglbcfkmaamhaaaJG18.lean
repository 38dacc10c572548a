/- A text of this claim: parts TsI TsJL TsK TsL TsM TsN. No condition. -/
import Derived.Test.YtglbcfkmaamhaaaJG17
import Derived.Laws.OwnMore
import Derived.Test.YtglbcfkmaamhaaaJG2
import Derived.Test.YtglbcfkmaamhaaaJG0
import Derived.Laws.EntriesVeiled
import Derived.Test.YtglbcfkmaamhaaaJG12
set_option linter.unusedVariables false
set_option linter.unusedSimpArgs false
set_option maxHeartbeats 16000000
set_option maxRecDepth 100000
namespace Go.Proofs.Ytglbcfkmaamhaaa.Tr
open Go Go.RowKit Go.Proofs.YtglbcfkmaamhaaaW.PrintWords Go.Proofs.Ytglbcfkmaamhaaa.Hv Go.Proofs.Ytglbcfkmaamhaaa.Arm Go.Proofs.Ytglbcfkmaamhaaa.Nd Go.Proofs.Ytglbcfkmaamhaaa.ArN
section
variable {w0 w w1 : World} {L L' R : List Ob} {K : Nat × Nat × Nat} {t : Tm} {on : Value}
structure JOk (t : Tm) (up : Rf) : Prop where
 ok : Nd.Ok (t.at up)
 sh : (t.at up).keys.length + 1 = (t.at up).refs.length
 bd : Bd t 1000000
 gone : t.gone.length < 1000000
theorem tjoin.calls (h : Mt w0 w K t on R L) (up : Rf) (i : Int) (hi : i ≤ 1000000) (ho : JOk t up) : Calls Try.prog 114 #[.pointer (some ⟨K.1, 0, none⟩), .agg #[.int .i64 up.1, .int .i64 up.2], .int .i64 i] w (JoinP w0 K on L (t.join up i)) := by
 by_cases h0 : i < 0
 ·rw [show t.join up i = (t, (0, 0), false) from by unfold Tm.join; rw [if_pos (.inl h0)]]
  exact joinT.neg h up i h0
 ·by_cases h1 : ((t.at up).refs.length : Int) ≤ i + 1
  ·rw [show t.join up i = (t, (0, 0), false) from by unfold Tm.join; rw [if_pos (.inr h1)]]
   exact joinT.end h up i (by omega) hi h1
  ·obtain ⟨k, rfl⟩ : ∃ k : Nat, i = (k : Int) := ⟨i.toNat, by omega⟩
   exact joinT.in h up k (by omega) ho.ok ho.sh ho.bd ho.gone
def Tm.merge (t : Tm) (up x : Rf) : Tm × Rf × Bool :=
 let j := t.join up (idx x (t.at up).refs - 1)
 if j.2.2 then j else t.join up (idx x (t.at up).refs)
theorem join_no {t : Tm} {up : Rf} {i : Int} (h : (t.join up i).2.2 = false) : t.join up i = (t, (0, 0), false) := by
 unfold Tm.join at h ⊢
 split
 ·rfl
 ·rename_i h1
  rw [if_neg h1] at h
  split
  ·rfl
  ·rename_i h2
   rw [if_neg h2] at h
   cases h
inductive Up1 (s : List Rf) : Nat → Tm × List Rf → Tm × List Rf → Prop
 | top (p : Tm × List Rf) : Up1 s 0 p p
 | big (i : Nat) (p : Tm × List Rf) (h : ¬ (p.1.at (s.getD (i + 1) (0, 0))).refs.length < 2) : Up1 s (i + 1) p p
 | no (i : Nat) (p : Tm × List Rf) (h : (p.1.at (s.getD (i + 1) (0, 0))).refs.length < 2) (ho : JOk p.1 (s.getD i (0, 0))) (hm : (p.1.merge (s.getD i (0, 0)) (s.getD (i + 1) (0, 0))).2.2 = false) : Up1 s (i + 1) p p
 | yes (i : Nat) (p p' : Tm × List Rf) (h : (p.1.at (s.getD (i + 1) (0, 0))).refs.length < 2) (ho : JOk p.1 (s.getD i (0, 0))) (hm : (p.1.merge (s.getD i (0, 0)) (s.getD (i + 1) (0, 0))).2.2 = true)
   (hd : Up1 s i ((p.1.merge (s.getD i (0, 0)) (s.getD (i + 1) (0, 0))).1, p.2 ++ [(p.1.merge (s.getD i (0, 0)) (s.getD (i + 1) (0, 0))).2.1]) p') : Up1 s (i + 1) p p'
theorem Up1.inv {s : List Rf} {i : Nat} {p p' : Tm × List Rf} : Up1 s i p p' → (i = 0 ∧ p' = p) ∨ (∃ k, i = k + 1 ∧ ((¬ (p.1.at (s.getD (k + 1) (0, 0))).refs.length < 2 ∧ p' = p) ∨
  ((p.1.at (s.getD (k + 1) (0, 0))).refs.length < 2 ∧ JOk p.1 (s.getD k (0, 0)) ∧ (((p.1.merge (s.getD k (0, 0)) (s.getD (k + 1) (0, 0))).2.2 = false ∧ p' = p) ∨
   ((p.1.merge (s.getD k (0, 0)) (s.getD (k + 1) (0, 0))).2.2 = true ∧ Up1 s k ((p.1.merge (s.getD k (0, 0)) (s.getD (k + 1) (0, 0))).1, p.2 ++ [(p.1.merge (s.getD k (0, 0)) (s.getD (k + 1) (0, 0))).2.1]) p')))))
 | .top _ => .inl ⟨rfl, rfl⟩
 | .big k _ h => .inr ⟨k, rfl, .inl ⟨h, rfl⟩⟩
 | .no k _ h ho hm => .inr ⟨k, rfl, .inr ⟨h, ho, .inl ⟨hm, rfl⟩⟩⟩
 | .yes k _ _ h ho hm hd => .inr ⟨k, rfl, .inr ⟨h, ho, .inr ⟨hm, hd⟩⟩⟩
def Tm.sink (t : Tm) : Tm := { t.leave t.root with root := refI (t.at t.root) 0 }
inductive Up2 : Nat → Tm × List Rf → Tm × List Rf → Prop
 | stop (k : Nat) (p : Tm × List Rf) (h : (p.1.at p.1.root).leaf = true ∨ (p.1.at p.1.root).refs.length ≠ 1) : Up2 k p p
 | step (k : Nat) (p p' : Tm × List Rf) (h1 : (p.1.at p.1.root).leaf = false) (h2 : (p.1.at p.1.root).refs.length = 1) (hg : p.1.gone.length < 1000000) (hd : Up2 k (p.1.sink, p.2 ++ [p.1.root]) p') : Up2 (k + 1) p p'
theorem Up2.inv {k : Nat} {p p' : Tm × List Rf} : Up2 k p p' → (((p.1.at p.1.root).leaf = true ∨ (p.1.at p.1.root).refs.length ≠ 1) ∧ p' = p) ∨ (∃ j, k = j + 1 ∧ (p.1.at p.1.root).leaf = false ∧ (p.1.at p.1.root).refs.length = 1 ∧ p.1.gone.length < 1000000 ∧ Up2 j (p.1.sink, p.2 ++ [p.1.root]) p')
 | .stop _ _ h => .inl ⟨h, rfl⟩
 | .step j _ _ h1 h2 hg hd => .inr ⟨j, rfl, h1, h2, hg, hd⟩
def TDelP (w0 : World) (K : Nat × Nat × Nat) (L : List Ob) (t : Tm) (r : Rf) (g : List Rf) (b : Bool) (e : Ending) (w' : World) : Prop :=
 ∃ ad c A R, e = .returned (.tuple #[.agg #[.int .i64 r.1, .int .i64 r.2], .slice ad g.length c, .bool b]) ∧ Gr 33 2 (.slice ad g.length c) g.length (g.flatMap rcel) A ∧ Mt w0 w' K t .nilFunc R (A ++ L)
end
end Go.Proofs.Ytglbcfkmaamhaaa.Tr
namespace Go.Proofs.Ytglbcfkmaamhaaa.Tr
open Go Go.RowKit Go.Proofs.YtglbcfkmaamhaaaW.PrintWords Go.Proofs.YtglbcfkmaamhaaaW.PrintLast Go.Proofs.YtglbcfkmaamhaaaW.PrintMore Go.Proofs.Ytglbcfkmaamhaaa.Hv Go.Proofs.Ytglbcfkmaamhaaa.Arm Go.Proofs.Ytglbcfkmaamhaaa.Nd Go.Proofs.Ytglbcfkmaamhaaa.ArN
section
variable {w0 w w1 : World} {L L' R : List Ob} {K : Nat × Nat × Nat} {t : Tm} {on : Value}
theorem fld3 (a b c : Value) (ad : Option Addr) (n k : Nat) (w : World) : (Instr.field 59 (.agg #[a, b, c, .slice ad n k]) 3).run Try.prog w = .ok (.slice ad n k) w := by kernel_rfl
theorem Up1.len {s : List Rf} {i : Nat} {p p' : Tm × List Rf} (h : Up1 s i p p') : p.2.length ≤ p'.2.length := by
 induction h with
 | top _ => exact Nat.le_refl _
 | big _ _ _ => exact Nat.le_refl _
 | no _ _ _ _ _ => exact Nat.le_refl _
 | yes _ _ _ _ _ _ _ ih => simp only [List.length_append, List.length_singleton] at ih; omega
theorem Up2.len {k : Nat} {p p' : Tm × List Rf} (h : Up2 k p p') : p.2.length ≤ p'.2.length := by
 induction h with
 | stop _ _ _ => exact Nat.le_refl _
 | step _ _ _ _ _ _ _ ih => simp only [List.length_append, List.length_singleton] at ih; omega
end
section
variable {w0 w w1 : World} {L L' R : List Ob} {K : Nat × Nat × Nat} {t : Tm} {on : Value}
section
variable {P : Program} {ops : Array Oper} {rest : List Oper} {o : Oper} {a : Act} {Q : Exit → Act → World → Prop} {K : Act → World → Prop} {A : List Ob}
theorem append_fits_step (hw : Region.wanted o (yielded ops a.tmps) = true) (s x : Operand) (t e : TypeId) (z : Value) (size bytes : Nat)
  (ho : o.op = .call { callee := .builtin .append, args := #[s, x], argTypes := #[t, t] })
  (ht : P.underlying t = some (.slice e)) (hinfo : (P.info? e).map (fun i => (i.zero, i.size, i.bytes)) = some (some z, size, bytes))
  (g n cap : Nat) (xs : List Value) (hs : a.eval s = .slice (some ⟨g, 0, none⟩) n cap) (ad : Addr) (m c : Nat) (news : List Value) (hx : a.eval x = .slice (some ad) m c) (hl : news.length = m * size) (hnews : ∀ j u, news[j]? = some u → w.cell? (ad.add j) = some u) (h1 : ∀ u ∈ news, u.oneCell' = true) (hroom : n + m ≤ cap)
  (hg : Gr e size (.slice (some ⟨g, 0, none⟩) n cap) n xs A) (hv : Hv w0 w (A ++ L))
  (h : ∀ w1 A1, Gr e size (.slice (some ⟨g, 0, none⟩) (n + m) cap) (n + m) (xs ++ news) A1 → Hv w0 w1 (A1 ++ L) → K (a.put o.dst (.slice (some ⟨g, 0, none⟩) (n + m) cap)) w1) : if Region.wanted o (yielded ops a.tmps) = true then Oper.wp P o a w K Q else K (a.put o.dst undef) w := by
 obtain ⟨i0, hi, hzz⟩ := Option.map_eq_some_iff.1 hinfo
 simp only [Prod.mk.injEq] at hzz
 obtain ⟨hz0, hz1, hz2⟩ := hzz
 rw [if_pos hw]
 obtain ⟨w1, hr, hown, hgr⟩ := run_append_fits (P := P) w w0.heap.size t o.type e i0 size ht hi hz1 g n cap xs (hg.owns hv) ad m c news hl hnews h1 hroom
 obtain ⟨A1, hG, hH⟩ := hg.step hv hown hgr (.inl rfl)
 unfold Oper.wp execOp
 simp only [ho, resolve, invoke, builtin, Sem.run_bind, Sem.run_pure, Result.andThen_ok, List.map_toArray, List.map_cons, List.map_nil, hs, hx, hr]
 exact h w1 A1 hG hH
end
theorem Gr.front {e size n k g cap : Nat} {xs : List Value} {A : List Ob} (h : Gr e size (.slice (some ⟨g, 0, none⟩) n cap) n xs A) (hk : k ≤ n) : Gr e size (.slice (some ⟨g, 0, none⟩) k cap) k (xs.take (k * size)) A := by
 have hl : k * size ≤ n * size := Nat.mul_le_mul_right _ hk
 refine ⟨by rw [List.length_take, h.1]; omega, ?_⟩
 rcases h.2 with ⟨h1, _⟩ | ⟨g', cap', cur, h1, rfl, h3, h4, h5, h6⟩
 ·cases h1
 ·cases h1
  exact .inr ⟨_, _, cur, rfl, rfl, by omega, h4, h5, by rw [← h6, List.take_take, Nat.min_eq_left hl]⟩
theorem run_clear33 (ty : TypeId) (g o c : Nat) (u0 u1 : Value) (w : World) (h0 : w.cell? ⟨g, o, none⟩ = some u0) (h1 : w.cell? ⟨g, o + 1, none⟩ = some u1) (f0 : w.frozen? ⟨g, o, none⟩ = false) (f1 : w.frozen? ⟨g, o + 1, none⟩ = false) :
  (Builtin.clear_ #[31] ty #[.slice (some ⟨g, o, none⟩) 1 c]).run Try.prog w = .ok (.tuple #[]) ((w.setCell ⟨g, o, none⟩ (.int .i64 0)).setCell ⟨g, o + 1, none⟩ (.int .i64 0)) := by
 have hz : ∀ w : World, (zeroValue 33).run Try.prog w = .ok (.agg #[.int .i64 0, .int .i64 0]) w := fun w => by kernel_rfl
 have hst := run_storeCells_cells (P := Try.prog) g o [.int .i64 0, .int .i64 0] 0 w (fun j hj => by
  have : j = 0 ∨ j = 1 := by simp at hj; omega
  rcases this with rfl | rfl
  ·simp only [Nat.add_zero]; rw [h0]; rfl
  ·simp only [Nat.add_zero]; rw [h1]; rfl) (fun j hj => by
  have : j = 0 ∨ j = 1 := by simp at hj; omega
  rcases this with rfl | rfl
  ·exact f0
  ·exact f1) (by intro v hv; simp at hv; rcases hv with rfl | rfl <;> rfl)
 simp only [Nat.add_zero] at hst
 have hzc : (Builtin.zeroCells (Value.agg #[.int .i64 0, .int .i64 0]).cells 1).toList = [.int .i64 0, .int .i64 0] := by first | kernel_rfl | decide | (simp [Builtin.zeroCells, Value.cells]; done) | (simp [Builtin.zeroCells, Value.cells]; rfl)
 simp [Builtin.clear_, run_underlying Try.underlying31, hz, hzc, hst]
 rfl
def SDelP (w0 : World) (L : List Ob) (l : List Rf) (i : Nat) (e : Ending) (w' : World) : Prop :=
 ∃ ad c A, e = .returned (.slice ad (l.length - 1) c) ∧ Gr 33 2 (.slice ad (l.length - 1) c) (l.length - 1) ((l.eraseIdx i).flatMap rcel) A ∧ Hv w0 w' (A ++ L)
theorem flat_len (l : List Rf) : (l.flatMap rcel).length = l.length * 2 := by
 induction l with
 | nil => rfl
 | cons x l ih => rw [List.flatMap_cons, List.length_append, ih, List.length_cons]; simp [rcel]; omega
theorem take_flat : ∀ (l : List Rf) (i : Nat), (l.flatMap rcel).take (i * 2) = (l.take i).flatMap rcel
 | l, 0 => by simp
 | [], i + 1 => by simp
 | x :: l, i + 1 => by
  rw [List.take_succ_cons, List.flatMap_cons, List.flatMap_cons, ← take_flat l i, show (i + 1) * 2 = i * 2 + 1 + 1 by omega]
  rfl
theorem drop_flat : ∀ (l : List Rf) (i : Nat), (l.flatMap rcel).drop (i * 2) = (l.drop i).flatMap rcel
 | l, 0 => by simp
 | [], i + 1 => by simp
 | x :: l, i + 1 => by
  rw [List.drop_succ_cons, List.flatMap_cons, ← drop_flat l i, show (i + 1) * 2 = i * 2 + 1 + 1 by omega]
  rfl
theorem rcel_one (l : List Rf) : ∀ u ∈ l.flatMap rcel, u.oneCell' = true := by
 intro u hu
 obtain ⟨x, _, hx⟩ := List.mem_flatMap.1 hu
 simp only [rcel, List.mem_cons, List.not_mem_nil, or_false] at hx
 rcases hx with rfl | rfl <;> rfl
theorem sdel.calls {A : List Ob} {v : Value} (l : List Rf) (hl : l.length ≤ 1000000) (hg : Gr 33 2 v l.length (l.flatMap rcel) A) (hv : Hv w0 w (A ++ L)) (i : Nat) (hi : i < l.length) : Calls Try.prog 116 #[v, .int .i64 (i : Int), .int .i64 ((i : Int) + 1)] w (SDelP w0 L l i) := by
 have hu31 := Try.underlying31
 have hu33 := Try.underlying33
 obtain ⟨g, cap, cur, rfl, rfl, h3, h4, h5, h6⟩ : ∃ g cap cur, v = .slice (some ⟨g, 0, none⟩) l.length cap ∧ A = [cb g 33 cur] ∧ l.length ≤ cap ∧ cap ≤ maxLen ∧ cur.size = cap * 2 ∧ cur.toList.take (l.length * 2) = l.flatMap rcel := by
  rcases hg.2 with ⟨_, h, _⟩ | h
  ·omega
  ·exact h
 have HG := As hg
 have HV := As hv
 have HC := As (And.intro h3 (And.intro h4 (And.intro h5 (And.intro h6 (And.intro hl hi)))))
 have a1 : (i : Int) ≤ (i : Int) + 1 := by omega
 have a2 : (i : Int) + 1 ≤ (l.length : Int) := by omega
 have a3 : (0 : Int) ≤ (i : Int) := by omega
 have a4 : (0 : Int) ≤ (i : Int) + 1 := by omega
 have a5 : (l.length : Int) ≤ (cap : Int) := by omega
 have a6 : (i : Int) ≤ (l.length : Int) := by omega
 have a7 : (i : Int) ≤ (cap : Int) := by omega
 have a8 : (i : Int) + 1 ≤ (cap : Int) := by omega
 have a9 : ¬ (i : Int) = (i : Int) + 1 := by omega
 clear h3 h4 h5 h6 hl hg hv hi
 go_enter Try.func116, Try.ntmps116
 go_upto_region 5 with (fail)
 obtain ⟨m1, hm1⟩ : ∃ m1, l.length = m1 + 1 := ⟨l.length - 1, by have := HC.out.2.2.2.2.2; omega⟩
 have HM := As (And.intro hm1 (show i + (l.length - (i + 1)) = m1 by have := HC.out.2.2.2.2.2; omega))
 clear hm1
 have HE : ∃ ad2 : Addr, Aside0 ((if cap = i + 1 then some (⟨g, 0, none⟩ : Addr) else some ⟨g, (i + 1) * 2, none⟩) = some ad2 ∧ ((l.drop (i + 1)).flatMap rcel).length = (l.length - (i + 1)) * 2 ∧ (∀ j u, ((l.drop (i + 1)).flatMap rcel)[j]? = some u → w.drew.cell? (ad2.add j) = some u)) := by
  have hlen : ((l.drop (i + 1)).flatMap rcel).length = (l.length - (i + 1)) * 2 := by rw [flat_len, List.length_drop]
  by_cases hce : cap = i + 1
  ·rw [if_pos hce]
   refine ⟨_, ⟨rfl, hlen, fun j u hu => ?_⟩⟩
   have := (List.getElem?_eq_some_iff.1 hu).1
   rw [hlen] at this
   have := HC.out.1
   omega
  ·rw [if_neg hce]
   refine ⟨_, ⟨rfl, hlen, fun j u hu => ?_⟩⟩
   have h1 : (l.flatMap rcel)[(i + 1) * 2 + j]? = some u := by
    rw [← hu, ← drop_flat, List.getElem?_drop]
   have h2 := (List.getElem?_eq_some_iff.1 h1).1
   rw [flat_len] at h2
   have h3 : cur[(i + 1) * 2 + j]? = some u := by
    rw [← h1, ← HC.out.2.2.2.1, List.getElem?_take, if_pos h2]
    simp
   have h4 := HV.out.drew.cell (List.mem_cons_self) _ h3
   rw [show (⟨g, (i + 1) * 2, none⟩ : Addr).add j = ⟨g, (i + 1) * 2 + j, none⟩ from by unfold Addr.add; split <;> simp_all]
   exact h4
 obtain ⟨ad2, HE⟩ := HE
 refine start_ (n := 8) (S := fun w' => True) (ds := []) #[false, false, false, false, false, false, false, false] (by kernel_rfl) rfl rfl trivial (fun hHeld => ?_)
 refine pu_ 0 (some 20) ?_
 refine pu_ 1 (some 21) ?_
 refine pu_ 2 (some 22) ?_
 refine pu_ 3 (some 23) ?_
 refine pu_ 4 (some 24) ?_
 refine pu_ 5 (some 25) ?_
 refine on_ 6 (some 26) fun K_ hK => ?_
 refine append_fits_step (w0 := w0) (A := [cb g 33 cur]) (L := L) (by rfl) (.tmp 22) (.tmp 25) 31 33 (.agg #[.int .i64 0, .int .i64 0]) 2 16 rfl Try.underlying31 infoR g i cap ((l.flatMap rcel).take (i * 2)) (by first | rfl | (go_simp; done) | (go_simp; rfl)) ad2 (l.length - (i + 1)) (cap - (i + 1)) ((l.drop (i + 1)).flatMap rcel) (by show Value.slice (if _ then _ else _) _ _ = _; rw [HE.out.1]) HE.out.2.1 HE.out.2.2 (rcel_one _) (by have := HC.out; omega) (Tr.Gr.front HG.out (by have := HC.out; omega)) HV.out.drew ?_
 intro w2 A2 hG2 hv2
 rw [HM.out.2] at hG2 ⊢
 have HG2 := As hG2
 have HV2 := As hv2
 clear hG2 hv2
 refine hK.out _ _ trivial (fun hHeld => ?_)
 clear hK K_
 refine nm_ ?_
 refine pu_ 7 (some 0) ?_
 refine done_ (by kernel_rfl) ?_
 obtain ⟨cur2, rfl, k3, k4, k5, k6⟩ : ∃ cur2, A2 = [cb g 33 cur2] ∧ m1 ≤ cap ∧ cap ≤ maxLen ∧ cur2.size = cap * 2 ∧ cur2.toList.take (m1 * 2) = (l.flatMap rcel).take (i * 2) ++ (l.drop (i + 1)).flatMap rcel := by
  rcases HG2.out.2 with ⟨h, _⟩ | ⟨g1, cap1, cur1, h, rfl, h3, h4, h5, h6⟩
  ·cases h
  ·cases h
   exact ⟨cur1, rfl, h3, h4, h5, h6⟩
 obtain ⟨u0, hu0⟩ : ∃ u, cur2[m1 * 2]? = some u := ⟨_, Array.getElem?_eq_getElem (by have := HC.out.1; have := HM.out.1; omega)⟩
 obtain ⟨u1, hu1⟩ : ∃ u, cur2[m1 * 2 + 1]? = some u := ⟨_, Array.getElem?_eq_getElem (by have := HC.out.1; have := HM.out.1; omega)⟩
 have hv2 : Hv w0 w2 (cb g 33 cur2 :: L) := HV2.out
 have hcl : ∀ ty, (Builtin.clear_ #[31] ty #[.slice (some ⟨g, m1 * 2, none⟩) 1 (cap - m1)]).run Try.prog w2 = .ok (.tuple #[]) ((w2.setCell ⟨g, m1 * 2, none⟩ (.int .i64 0)).setCell ⟨g, m1 * 2 + 1, none⟩ (.int .i64 0)) := fun ty => run_clear33 ty g (m1 * 2) (cap - m1) u0 u1 w2 (hv2.cell List.mem_cons_self _ hu0) (hv2.cell List.mem_cons_self _ hu1) (hv2.frozen List.mem_cons_self _) (hv2.frozen List.mem_cons_self _)
 have HV3 := As (Hv.put0 (hv2.put0 (m1 * 2) (.int .i64 0) rfl) (m1 * 2 + 1) (.int .i64 0) rfl)
 have HF := As (And.intro k3 (And.intro k4 (And.intro k5 k6)))
 have b1 : (m1 : Int) ≤ (l.length : Int) := by have := HM.out.1; omega
 have b2 : l.length - m1 = 1 := by have := HM.out.1; omega
 have b3 : ¬ cap = m1 := by have := HM.out.1; have := HC.out.1; omega
 have b4 : (0 : Int) ≤ (m1 : Int) := by omega
 have b5 : m1 ≤ l.length := by omega
 clear k3 k4 k5 k6 hu0 hu1 hv2
 rw [HE.out.1]
 go_wp2_with fail
 refine bodyPost_ret (v := .slice (some ⟨g, 0, none⟩) m1 cap) (by simp [results, Try.results116, go_sem]) rfl ⟨some ⟨g, 0, none⟩, cap, [cb g 33 ((cur2.setIfInBounds (m1 * 2) (.int .i64 0)).setIfInBounds (m1 * 2 + 1) (.int .i64 0))], by rw [show l.length - 1 = m1 from by have := HM.out.1; omega], ?_, HV3.out⟩
 rw [show l.length - 1 = m1 from by have := HM.out.1; omega]
 have hx : (l.eraseIdx i).flatMap rcel = (l.flatMap rcel).take (i * 2) ++ (l.drop (i + 1)).flatMap rcel := by
  rw [List.eraseIdx_eq_take_drop_succ, List.flatMap_append, take_flat]
 refine ⟨?_, .inr ⟨g, cap, _, rfl, rfl, HF.out.1, HF.out.2.1, by simp only [Array.size_setIfInBounds]; exact HF.out.2.2.1, ?_⟩⟩
 ·have := HG2.out.1
  rw [hx]
  exact this
 ·rw [hx, ← HF.out.2.2.2]
  simp only [Array.toList_setIfInBounds]
  rw [List.take_set_of_le (by omega), List.take_set_of_le (by omega)]
end
section
variable {w0 w w1 : World} {L L' R : List Ob} {K : Nat × Nat × Nat} {t : Tm} {on : Value}
def Tm.freeN (t : Tm) (r : Rf) : Tm := if t.has r then { t with p := t.p.drop r.1 [], ns := t.ns.set r.1.toNat nd0 } else t
def Tm.free (t : Tm) (r : Rf) : Tm × Bool :=
 if idxF r t.gone < t.gone.length then (({ t with gone := t.gone.eraseIdx (idxF r t.gone) } : Tm).freeN r, t.has r) else (t, false)
theorem Mt.Free (h : Mt w0 w K t on R L) (r : Rf) : Calls Try.prog 117 #[.pointer (some ⟨K.2.1, 0, none⟩), .agg #[.int .i64 r.1, .int .i64 r.2]] w fun e w' => e = .returned (.bool (t.has r)) ∧ Mt w0 w' K (t.freeN r) on R L := by
 obtain ⟨s, gv, G, e, h1, h2, h3⟩ := h
 have hh : s.has r.1 r.2 = t.has r := by unfold Tm.has; rw [← e, bare_has]
 refine (h1.Free r.1 r.2 hh rfl).mono ?_
 rintro e1 w1 ⟨rfl, h4⟩
 refine ⟨rfl, ?_⟩
 unfold Ar.free at h4
 unfold Tm.freeN
 rw [hh] at h4
 cases hb : t.has r
 ·rw [hb] at h4
  exact ⟨s, gv, G, e, h4, h2, h3⟩
 ·rw [hb] at h4 hh
  rw [if_pos rfl] at h4
  obtain ⟨b0, b1, -, -⟩ := Ar.has_lt hh
  refine ⟨_, gv, G, ?_, h4, h2, ?_⟩
  ·simp only [if_true]
   rw [bare_drop, e]
  ·refine Mt.rows_set h3 (n := nd0) (ka := none) (kc := 0) (ra := none) (rc := 0) (by omega) ⟨Rdy.nil _ _, Rdy.nil _ _, Nat.le_refl _, Nat.le_refl _⟩ (fun j => ?_) (by simp [Ar.drop, Ar.n])
   simp only [Ar.drop]
   rw [slot_set _ _ _ _ _ _ (by omega)]
   simp only [Int.toNat_natCast]
   split <;> rfl
theorem tfree.calls (h : Mt w0 w K t on R L) (r : Rf) (hg : t.gone.length ≤ 1000000) : Calls Try.prog 65 #[.pointer (some ⟨K.1, 0, none⟩), .agg #[.int .i64 r.1, .int .i64 r.2]] w fun e w' => e = .returned (.bool (t.free r).2) ∧ Mt w0 w' K (t.free r).1 on R L := by
 have hu33 := Try.underlying33
 have hu31 := Try.underlying31
 have hu160 := Try.underlying160
 have h0 : Mt w0 (w.alloc (.cells #[.int .i64 r.1, .int .i64 r.2] 33)) K t on R (cb w.heap.size 33 #[.int .i64 r.1, .int .i64 r.2] :: L) := h.alloc (.cells #[.int .i64 r.1, .int .i64 r.2] 33)
 have HGl := As hg
 obtain ⟨gv, G, Q, hG, hq, hLQ, back⟩ := h0.lensG
 obtain ⟨ad, c, rfl, hnc⟩ := hG.form
 have HG := As hG
 have HQ := As hq
 have HB := As (And.intro (hLQ _ (List.mem_cons_self)) back)
 have hwr := (Rdy.of_rw (w0 := w0) (Rw.of_gr hG))
 have HRd := As hwr
 clear h h0 hg hG hq hLQ back hwr
 have SP := As (show ∀ (w' : World) (L' : List Ob), Hv w0 w' L' → tb K t (.slice ad t.gone.length c) on ∈ L' → cb w.heap.size 33 #[.int .i64 r.1, .int .i64 r.2] ∈ L' → (w'.cell? ⟨K.1, 0, none⟩ = some (.pointer (some ⟨K.2.1, 0, none⟩)) ∧ w'.cell? ⟨K.1, 3, none⟩ = some (.slice ad t.gone.length c) ∧ w'.cell? ⟨w.heap.size, 0, none⟩ = some (.int .i64 r.1) ∧ w'.cell? ⟨w.heap.size, 1, none⟩ = some (.int .i64 r.2)) from fun w' L' h m1 m2 => by
  obtain ⟨c0, -, -, c3, -, -, -, -, -, -⟩ := h.c5 _ _ _ _ _ _ _ m1
  obtain ⟨p0, p1, -, -⟩ := h.c2 _ _ _ _ m2
  exact ⟨c0, c3, p0, p1⟩)
 have HD := As HQ.out.drew
 go_enter Try.func65, Try.ntmps65
 go_upto_region 3 with (fail)
 generalize hW1 : w.alloc (.cells #[.int .i64 r.1, .int .i64 r.2] 33) = W1 at HD HQ ⊢
 clear hW1
 refine start_ (n := 7) (S := fun w' => w'.cell? ⟨K.1, 0, none⟩ = some (.pointer (some ⟨K.2.1, 0, none⟩)) ∧ w'.cell? ⟨K.1, 3, none⟩ = some (.slice ad t.gone.length c) ∧ w'.cell? ⟨w.heap.size, 0, none⟩ = some (.int .i64 r.1) ∧ w'.cell? ⟨w.heap.size, 1, none⟩ = some (.int .i64 r.2)) (ds := []) #[false, false, false, false, false, false, false] (by kernel_rfl) rfl rfl (SP.out _ _ HD.out (by simp) (by simp [HB.out.1])) (fun hHeld => ?_)
 generalize W1.drew = wr0 at HD hHeld ⊢
 refine pu_ 0 (some 8) ?_
 refine pu_ 1 (some 9) ?_
 refine pu_ 2 (some 10) ?_
 refine ta_ 3 (some 11) hHeld ?_ (hy := Or.inl ⟨by rfl, by rintro w' ⟨s0, s1, s2, s3⟩; go_simp; with_reducible rfl⟩)
 refine ta_ 4 (some 12) hHeld ?_ (hy := Or.inl ⟨by rfl, by rintro w' ⟨s0, s1, s2, s3⟩; go_simp; with_reducible rfl⟩)
 refine on_ 5 (some 13) fun K_ hK => ?_
 refine gs_ Try.func113 #[.slice ad t.gone.length c, .agg #[.int .i64 r.1, .int .i64 r.2]] ?_
 refine (index.calls (w0 := w0) HD.out t.gone HGl.out (HRd.out.mono (fun z hz => by simp [hz])) r).mono ?_
 rintro e2 w2 ⟨rfl, hh⟩
 refine ⟨_, rfl, ?_⟩
 have H2 := As hh
 clear hh
 refine hK.out _ _ (SP.out _ _ H2.out (by simp) (by simp [HB.out.1])) (fun hHeld => ?_)
 clear hK K_
 refine nm_ ?_
 refine pu_ 6 (some 5) ?_
 refine done_ (by kernel_rfl) ?_
 clear SP hHeld
 by_cases hlt : idxF r t.gone < t.gone.length
 ·obtain ⟨k, hk⟩ : ∃ k, idxF r t.gone = k := ⟨_, rfl⟩
  rw [show idx r t.gone = (k : Int) from by unfold idx; rw [if_pos hlt, hk]]
  have hfr : t.free r = (({ t with gone := t.gone.eraseIdx k } : Tm).freeN r, t.has r) := by unfold Tm.free; rw [if_pos hlt, hk]
  rw [hk] at hlt
  have HK1 := As hlt
  have hn : ¬ (k : Int) < 0 := by omega
  have ew : wrap64 ((k : Int) + 1) = (k : Int) + 1 := by have := HGl.out; unfold wrap64; omega
  have ew' : IntKind.i64.wrap ((k : Int) + 1) = (k : Int) + 1 := by rw [IntKind.wrap_i64]; have := HGl.out; omega
  clear hk hlt
  obtain ⟨c0, -, -, c3, -, f0, -, -, cf3, -⟩ := H2.out.c5 K.1 160 _ _ _ _ _ (by simp : tb K t (.slice ad t.gone.length c) on ∈ _)
  go_upto_region 7 with (go_at_call 116; go_loud (refine (sdel.calls (w0 := w0) (L := tb K t (.slice ad t.gone.length c) on :: Q) t.gone HGl.out HG.out H2.out k HK1.out).mono ?_; rintro e3 w3 ⟨ad3, cc3, A3, rfl, hG3, hv3⟩; have HG3 := As hG3; have H3 := As hv3; clear hG3 hv3; clear c0 c3 f0 cf3; obtain ⟨c0, -, -, c3, -, f0, -, -, cf3, -⟩ := H3.out.c5 K.1 160 _ _ _ _ _ (by simp : tb K t (.slice ad t.gone.length c) on ∈ _)))
  have hel : (t.gone.eraseIdx k).length = t.gone.length - 1 := by rw [List.length_eraseIdx, if_pos HK1.out]
  have h4 := HB.out.2 _ (.slice ad3 (t.gone.length - 1) cc3) A3 (t.gone.eraseIdx k) (by rw [hel]; exact HG3.out) (H3.out.putA0 3 (.slice ad3 (t.gone.length - 1) cc3) rfl)
  obtain ⟨W4, hW, hM⟩ : ∃ W, W = w3.setCell ⟨K.1, 3, none⟩ (.slice ad3 (t.gone.length - 1) cc3) ∧ Mt w0 W K { t with gone := t.gone.eraseIdx k } on R (cb w.heap.size 33 #[.int .i64 r.1, .int .i64 r.2] :: L) := ⟨_, rfl, h4⟩
  rw [← hW]
  have HD4 := As hM.drew
  clear hW hM h4 hel c0 c3 f0 cf3
  obtain ⟨T1, hT1⟩ : ∃ T1, ({ t with gone := t.gone.eraseIdx k } : Tm) = T1 := ⟨_, rfl⟩
  have hhas : T1.has r = t.has r := by rw [← hT1]; rfl
  rw [hT1] at HD4 hfr
  rw [← hhas] at hfr
  have HFr := As hfr
  clear hT1 hhas hfr
  have SP := As (show ∀ (w' : World) (t' : Tm), Mt w0 w' K t' on R (cb w.heap.size 33 #[.int .i64 r.1, .int .i64 r.2] :: L) → (w'.cell? ⟨K.1, 0, none⟩ = some (.pointer (some ⟨K.2.1, 0, none⟩)) ∧ w'.cell? ⟨w.heap.size, 0, none⟩ = some (.int .i64 r.1) ∧ w'.cell? ⟨w.heap.size, 1, none⟩ = some (.int .i64 r.2)) from fun w' t' h => by
   obtain ⟨c0, -, -, -, -, -, -⟩ := h.cells
   obtain ⟨p0, p1, -, -⟩ := h.other.c2 w.heap.size 33 (.int .i64 r.1) (.int .i64 r.2) (by simp)
   exact ⟨c0, p0, p1⟩)
  refine start_ (n := 7) (S := fun w' => w'.cell? ⟨K.1, 0, none⟩ = some (.pointer (some ⟨K.2.1, 0, none⟩)) ∧ w'.cell? ⟨w.heap.size, 0, none⟩ = some (.int .i64 r.1) ∧ w'.cell? ⟨w.heap.size, 1, none⟩ = some (.int .i64 r.2)) (ds := []) #[false, false, false, false, false, false, false] (by kernel_rfl) rfl rfl (SP.out _ _ HD4.out) (fun hHeld => ?_)
  generalize W4.drew = wx4 at HD4 hHeld ⊢
  refine pu_ 0 (some 27) ?_
  refine pu_ 1 (some 28) ?_
  refine pu_ 2 (some 29) ?_
  refine ta_ 3 (some 30) hHeld ?_ (hy := Or.inl ⟨by rfl, by rintro w' ⟨s0, s1, s2⟩; go_simp; with_reducible rfl⟩)
  refine ta_ 4 (some 31) hHeld ?_ (hy := Or.inl ⟨by rfl, by rintro w' ⟨s0, s1, s2⟩; go_simp; with_reducible rfl⟩)
  refine on_ 5 (some 32) fun K_ hK => ?_
  refine gs_ Try.func117 #[.pointer (some ⟨K.2.1, 0, none⟩), .agg #[.int .i64 r.1, .int .i64 r.2]] ?_
  refine (Mt.Free HD4.out r).mono ?_
  rintro e5 w5 ⟨rfl, hh⟩
  refine ⟨_, rfl, ?_⟩
  have H5 := As hh
  clear hh
  refine hK.out _ _ (SP.out _ _ H5.out) (fun hHeld => ?_)
  clear hK K_
  refine nm_ ?_
  refine pu_ 6 (some 4) ?_
  refine done_ (by kernel_rfl) ?_
  go_wp2_with fail
  exact bodyPost_ret (v := .bool (T1.has r)) (by simp [results, Try.results65, go_sem]) rfl ⟨by rw [HFr.out], by rw [HFr.out]; exact H5.out.tail⟩
 ·rw [show idx r t.gone = -1 from by unfold idx; rw [if_neg hlt]]
  have HFr := As (show t.free r = (t, false) from by unfold Tm.free; rw [if_neg hlt])
  clear hlt
  go_wp2_with fail
  exact bodyPost_ret (v := .bool false) (by simp [results, Try.results65, go_sem]) rfl ⟨by rw [HFr.out], by rw [HFr.out]; exact (HB.out.2 _ _ _ _ HG.out H2.out).tail⟩
end
section
variable {w0 w w1 : World} {L L' R : List Ob} {K : Nat × Nat × Nat} {t : Tm} {on : Value}
section
variable {P : Program} {ops : Array Oper} {Q : Exit → Act → World → Prop} {rest : List Oper} {o : Oper} {a : Act}
theorem gate_clo {x : Tmp} {xs : Array Operand} {ts : Array TypeId} (_ho : o.op = .call { callee := .value (.tmp x), args := xs, argTypes := ts }) (h : wpList P ops Q (o :: rest) a w) : wpList P ops Q (o :: rest) a w := h
theorem list_clo (hgd : o.guard = none) {x : Operand} {ars : Array Operand} {ts : Array TypeId} (hop : o.op = .call { callee := .value x, args := ars, argTypes := ts }) {f : FuncId} {fn : Func} (hf : P.funcs[f]? = some fn) (hname : (fn.name == "runtime.NumGoroutine") = false) (hb : fn.body.isSome = true) (cap : Array Value) (hx : a.eval x = .func (.func f) #[] cap)
  (args : Array Value) (hargs : ars.map a.eval ++ cap = args) (h : Calls P f args w fun e w' => ∃ v, e = .returned v ∧ wpList P ops Q rest (a.put o.dst v) w') : wpList P ops Q (o :: rest) a w := by
 refine wpList_plain hgd fun K hK => ?_
 have hw : Region.wanted o (yielded ops a.tmps) = true := by simp [Region.wanted, hgd]
 have := goesF_ (oi := o) (N := o.dst) (ops := ops) (Q := Q) (K := K) hf hname hb args hw rfl hop hx hargs (h.mono fun e w' ⟨v, e1, h1⟩ => ⟨v, e1, hK _ _ h1⟩)
 rw [if_pos hw] at this
 exact this
end
structure Vis where
 n : Nd.Nd
 d : Int
 lo : ByteArray
 hi : ByteArray
def loI (n : Nd.Nd) (lo : ByteArray) (i : Nat) : ByteArray := if 0 < i then n.keys.getD (i - 1) ⟨#[]⟩ else lo
def hiI (n : Nd.Nd) (hi : ByteArray) (i : Nat) : ByteArray := if i < n.keys.length then n.keys.getD i ⟨#[]⟩ else hi
def visits (t : Tm) : Nat → Rf → Int → ByteArray → ByteArray → List Vis
 | 0, r, d, lo, hi => [⟨t.at r, d, lo, hi⟩]
 | h + 1, r, d, lo, hi => ⟨t.at r, d, lo, hi⟩ :: (if (t.at r).leaf then [] else (List.range (t.at r).refs.length).flatMap fun i => visits t h (refI (t.at r) i) (d + 1) (loI (t.at r) lo i) (hiI (t.at r) hi i))
def WOk (t : Tm) (C : Nd.Nd → Prop) : Nat → Rf → Prop
 | 0, r => (t.at r).leaf = true ∧ C (t.at r)
 | h + 1, r => C (t.at r) ∧ ((t.at r).leaf = true ∨ ((t.at r).refs.length ≤ (t.at r).keys.length + 1 ∧ (t.at r).refs.length ≤ 1000000 ∧ ∀ x ∈ (t.at r).refs, WOk t C h x))
theorem walkC.calls {g3 g4 g5 : Nat} {J : List Vis → List Ob → Prop} {C : Nd.Nd → Prop} {m : Nat} (hCB : ∀ (W : World) (B X : List Ob) (p : List Vis) (n : Nd.Nd) (d : Int) (lo hi : ByteArray) (ka : Option Addr) (kc : Nat) (ra : Option Addr) (rc : Nat), Mt w0 W K t on R (B ++ (X ++ L)) → J p X → C n → p.length < m → NR w0 R n ka kc ra rc → Calls Try.prog 125 #[.agg #[.bool n.leaf, .int .i64 n.ver, .slice ka n.keys.length kc, .slice ra n.refs.length rc], .int .i64 d, .string lo, .string hi, .pointer (some ⟨g5, 0, none⟩), .pointer (some ⟨g3, 0, none⟩), .pointer (some ⟨g4, 0, none⟩)] W fun e w' => e = .returned (.tuple #[]) ∧ ∃ X', J (p ++ [⟨n, d, lo, hi⟩]) X' ∧ Mt w0 w' K t on R (B ++ (X' ++ L))) : ∀ (h : Nat) (r : Rf) (d : Int) (lo hi : ByteArray) (p : List Vis) (X B : List Ob) (w : World), WOk t C h r → Mt w0 w K t on R (B ++ (X ++ L)) → J p X → (p ++ visits t h r d lo hi).length ≤ m → 0 ≤ d → d + h ≤ 1000000 →
  Calls Try.prog 122 #[.pointer (some ⟨K.1, 0, none⟩), .agg #[.int .i64 r.1, .int .i64 r.2], .int .i64 d, .string lo, .string hi, (.func (.func 125) #[] #[.pointer (some ⟨g5, 0, none⟩), .pointer (some ⟨g3, 0, none⟩), .pointer (some ⟨g4, 0, none⟩)])] w fun e w' => e = .returned (.tuple #[]) ∧ ∃ X', J (p ++ visits t h r d lo hi) X' ∧ Mt w0 w' K t on R (B ++ (X' ++ L)) := by
 intro h
 have HCB := As hCB
 clear hCB
 induction h with
 | zero =>
  intro r d lo hi p X B w hok hM hJ hlen hd0 hdm
  have hu59 := Try.underlying59
  have hu33 := Try.underlying33
  have hu31 := Try.underlying31
  have hu57 := Try.underlying57
  obtain ⟨n, hn⟩ : ∃ n, t.at r = n := ⟨_, rfl⟩
  have HM := As (show Mt w0 (w.alloc (.cells #[.int .i64 r.1, .int .i64 r.2] 33)) K t on R ((cb w.heap.size 33 #[.int .i64 r.1, .int .i64 r.2] :: B) ++ (X ++ L)) from hM.alloc (.cells #[.int .i64 r.1, .int .i64 r.2] 33))
  obtain ⟨hlf, hc⟩ := hok
  rw [hn] at hlf hc
  have HN := As hn
  have HC := As hc
  have HJ := As hJ
  have HLf := As hlf
  have HP := As (show p.length < m by rw [List.length_append] at hlen; have : (visits t 0 r d lo hi).length = 1 := rfl; omega)
  clear hM hn hc hJ hlen hd0 hdm hlf
  obtain ⟨y0, y1, -, -⟩ := HM.out.other.c2 w.heap.size 33 (.int .i64 r.1) (.int .i64 r.2) (by simp)
  go_enter Try.func122, Try.ntmps122
  go_upto_region 2 with (go_at_call 111; go_loud (refine (at.calls HM.out r).mono ?_; rintro e2 w2 ⟨v, rfl, hnv, hh⟩; rw [HN.out] at hnv; obtain ⟨ka, kc, ra, rc, ev, hr⟩ := hnv; have ev' : v = .agg #[.bool n.leaf, .int .i64 n.ver, .slice ka n.keys.length kc, .slice ra n.refs.length rc] := ev; subst ev'; clear ev; have HR := As hr; have H2 := As hh; clear hh hr))
  obtain ⟨W3, hW, hM⟩ : ∃ W, W = _ ∧ Mt w0 W K t on R ((cb w2.heap.size 59 #[.bool n.leaf, .int .i64 n.ver, .slice ka n.keys.length kc, .slice ra n.refs.length rc] :: cb w.heap.size 33 #[.int .i64 r.1, .int .i64 r.2] :: B) ++ (X ++ L)) := ⟨_, rfl, H2.out.alloc _⟩
  rw [← hW]
  have H3 := As hM
  clear hW hM y0 y1
  generalize w2.heap.size = g12 at H3 ⊢
  obtain ⟨n0, n1, n2, n3, -, -, -, -⟩ := H3.out.other.c4 g12 59 (.bool n.leaf) (.int .i64 n.ver) (.slice ka n.keys.length kc) (.slice ra n.refs.length rc) (by simp)
  go_wp2_with ((with_reducible refine gate_clo (x := 20) (xs := #[.tmp 21, .tmp 22, .tmp 23, .tmp 24]) rfl ?_); go_loud (refine list_clo rfl (x := .tmp 20) rfl Try.func125 (by kernel_rfl) rfl #[.pointer (some ⟨g5, 0, none⟩), .pointer (some ⟨g3, 0, none⟩), .pointer (some ⟨g4, 0, none⟩)] rfl #[.agg #[.bool n.leaf, .int .i64 n.ver, .slice ka n.keys.length kc, .slice ra n.refs.length rc], .int .i64 d, .string lo, .string hi, .pointer (some ⟨g5, 0, none⟩), .pointer (some ⟨g3, 0, none⟩), .pointer (some ⟨g4, 0, none⟩)] (by simp only [List.map_toArray, List.map_cons, List.map_nil]; first | rfl | (go_simp; done) | (go_simp; rfl)) ?_; refine (HCB.out _ (cb g12 59 #[.bool n.leaf, .int .i64 n.ver, .slice ka n.keys.length kc, .slice ra n.refs.length rc] :: cb w.heap.size 33 #[.int .i64 r.1, .int .i64 r.2] :: B) X p n d lo hi ka kc ra rc H3.out HJ.out HC.out HP.out HR.out).mono ?_; rintro e4 w4 ⟨rfl, X4, hj4, hh⟩; refine ⟨_, rfl, ?_⟩; have HJ4 := As hj4; have H4 := As hh; clear hj4 hh; clear n0 n1 n2 n3; obtain ⟨n0, n1, n2, n3, -, -, -, -⟩ := H4.out.other.c4 g12 59 (.bool n.leaf) (.int .i64 n.ver) (.slice ka n.keys.length kc) (.slice ra n.refs.length rc) (by simp); rw [HLf.out] at n0))
  refine bodyPost_ret (results_none rfl _ _ _) rfl ?_
  exact ⟨rfl, X4, by unfold visits; rw [HN.out]; exact HJ4.out, H4.out.drop (by rw [List.cons_append, List.cons_append]; exact (List.sublist_cons_self _ _).trans (List.sublist_cons_self _ _))⟩
 | succ h ih =>
  intro r d lo hi p X B w hok hM hJ hlen hd0 hdm
  have hu59 := Try.underlying59
  have hu33 := Try.underlying33
  have hu31 := Try.underlying31
  have hu57 := Try.underlying57
  obtain ⟨n, hn⟩ : ∃ n, t.at r = n := ⟨_, rfl⟩
  have HM := As (show Mt w0 (w.alloc (.cells #[.int .i64 r.1, .int .i64 r.2] 33)) K t on R ((cb w.heap.size 33 #[.int .i64 r.1, .int .i64 r.2] :: B) ++ (X ++ L)) from hM.alloc (.cells #[.int .i64 r.1, .int .i64 r.2] 33))
  obtain ⟨hc, hcase⟩ := hok
  rw [hn] at hc hcase
  have HN := As hn
  have HC := As hc
  have HJ := As hJ
  have HIH := As ih
  have HP := As (show p.length < m by rw [List.length_append] at hlen; unfold visits at hlen; rw [List.length_cons] at hlen; omega)
  have HLen := As (And.intro hlen (And.intro hd0 hdm))
  clear hM hc hJ hlen hn ih
  obtain ⟨y0, y1, -, -⟩ := HM.out.other.c2 w.heap.size 33 (.int .i64 r.1) (.int .i64 r.2) (by simp)
  go_enter Try.func122, Try.ntmps122
  go_upto_region 2 with (go_at_call 111; go_loud (refine (at.calls HM.out r).mono ?_; rintro e2 w2 ⟨v, rfl, hnv, hh⟩; rw [HN.out] at hnv; obtain ⟨ka, kc, ra, rc, ev, hr⟩ := hnv; have ev' : v = .agg #[.bool n.leaf, .int .i64 n.ver, .slice ka n.keys.length kc, .slice ra n.refs.length rc] := ev; subst ev'; clear ev; have HR := As hr; have H2 := As hh; clear hh hr))
  obtain ⟨W3, hW, hM⟩ : ∃ W, W = _ ∧ Mt w0 W K t on R ((cb w2.heap.size 59 #[.bool n.leaf, .int .i64 n.ver, .slice ka n.keys.length kc, .slice ra n.refs.length rc] :: cb w.heap.size 33 #[.int .i64 r.1, .int .i64 r.2] :: B) ++ (X ++ L)) := ⟨_, rfl, H2.out.alloc _⟩
  rw [← hW]
  have H3 := As hM
  clear hW hM y0 y1
  generalize w2.heap.size = g12 at H3 ⊢
  obtain ⟨n0, n1, n2, n3, -, -, -, -⟩ := H3.out.other.c4 g12 59 (.bool n.leaf) (.int .i64 n.ver) (.slice ka n.keys.length kc) (.slice ra n.refs.length rc) (by simp)
  rcases (Bool.eq_false_or_eq_true n.leaf).symm with hlf | hlf
  ·have hcase2 : n.refs.length ≤ n.keys.length + 1 ∧ n.refs.length ≤ 1000000 ∧ ∀ x ∈ n.refs, WOk t C h x := hcase.elim (fun e => by rw [hlf] at e; cases e) id
   have HK := As hcase2
   clear hcase hcase2
   obtain ⟨f, hf⟩ : ∃ f : Nat → List Vis, f = fun i => visits t h (refI n i) (d + 1) (loI n lo i) (hiI n hi i) := ⟨_, rfl⟩
   have hvis : visits t (h + 1) r d lo hi = ⟨n, d, lo, hi⟩ :: (List.range n.refs.length).flatMap f := by rw [visits, HN.out, hlf, hf]; rfl
   have ewd : wrap64 (d + 1) = d + 1 := by unfold wrap64; omega
   have HV := As (And.intro hvis (And.intro hf hlf))
   clear hvis hf hd0 hdm hlf
   go_wp2_with ((with_reducible refine gate_clo (x := 20) (xs := #[.tmp 21, .tmp 22, .tmp 23, .tmp 24]) rfl ?_); go_loud (refine list_clo rfl (x := .tmp 20) rfl Try.func125 (by kernel_rfl) rfl #[.pointer (some ⟨g5, 0, none⟩), .pointer (some ⟨g3, 0, none⟩), .pointer (some ⟨g4, 0, none⟩)] rfl #[.agg #[.bool n.leaf, .int .i64 n.ver, .slice ka n.keys.length kc, .slice ra n.refs.length rc], .int .i64 d, .string lo, .string hi, .pointer (some ⟨g5, 0, none⟩), .pointer (some ⟨g3, 0, none⟩), .pointer (some ⟨g4, 0, none⟩)] (by simp only [List.map_toArray, List.map_cons, List.map_nil]; first | rfl | (go_simp; done) | (go_simp; rfl)) ?_; refine (HCB.out _ (cb g12 59 #[.bool n.leaf, .int .i64 n.ver, .slice ka n.keys.length kc, .slice ra n.refs.length rc] :: cb w.heap.size 33 #[.int .i64 r.1, .int .i64 r.2] :: B) X p n d lo hi ka kc ra rc H3.out HJ.out HC.out HP.out HR.out).mono ?_; rintro e4 w4 ⟨rfl, X4, hj4, hh⟩; refine ⟨_, rfl, ?_⟩; have HJ4 := As hj4; have H4 := As hh; clear hj4 hh; clear n0 n1 n2 n3; obtain ⟨n0, n1, n2, n3, -, -, -, -⟩ := H4.out.other.c4 g12 59 (.bool n.leaf) (.int .i64 n.ver) (.slice ka n.keys.length kc) (.slice ra n.refs.length rc) (by simp); rw [HV.out.2.2] at n0))
   clear n0 n1 n2 n3
   go_loopg [31] n.refs.length (fun kq v31 wr => ∃ (k : Nat) (X' : List Ob), v31 = .int .i64 (k : Int) ∧ kq = n.refs.length - k ∧ k ≤ n.refs.length ∧ Aside0 (J ((p ++ [⟨n, d, lo, hi⟩]) ++ (List.range k).flatMap f) X') ∧ Aside0 (Mt w0 wr K t on R ((cb g12 59 #[.bool n.leaf, .int .i64 n.ver, .slice ka n.keys.length kc, .slice ra n.refs.length rc] :: cb w.heap.size 33 #[.int .i64 r.1, .int .i64 r.2] :: B) ++ (X' ++ L))))
   case atStart => exact ⟨0, X4, rfl, rfl, Nat.zero_le _, ⟨by simpa using HJ4.out⟩, H4⟩
   case round =>
    clear HM HJ4 H4 H3 H2
    obtain ⟨k, X', rfl, rfl, hk, HJ5, HW⟩ := hrel
    by_cases hlt : k < n.refs.length
    ·have hlt2 : (k : Int) < (n.refs.length : Int) := by omega
     have hk7 : k < 1000000 := by have := HK.out.2.1; omega
     have ew : IntKind.i64.wrap ((k : Int) + 1) = ((k + 1 : Nat) : Int) := by rw [IntKind.wrap_i64]; omega
     have ew' : wrap64 ((k : Int) + 1) = ((k + 1 : Nat) : Int) := by unfold wrap64; omega
     obtain ⟨q, hq⟩ : ∃ q, n.refs[k]? = some q := ⟨_, List.getElem?_eq_getElem hlt⟩
     have hqi : refI n k = q := by unfold refI; rw [List.getD_eq_getElem?_getD, hq]; rfl
     obtain ⟨n0, n1, n2, n3, -, -, -, -⟩ := HW.out.other.c4 g12 59 (.bool n.leaf) (.int .i64 n.ver) (.slice ka n.keys.length kc) (.slice ra n.refs.length rc) (by simp)
     rw [HV.out.2.2] at n0
     obtain ⟨ar, ear, hcr⟩ := (HW.out.rd HR.out.r).2 (by omega)
     subst ear
     obtain ⟨s0, s1⟩ := rcel_get n.refs k q hq
     have v0 := hcr _ _ s0
     have v1' := hcr _ _ s1
     rw [← Addr.add_add] at v1'
     have v1 : wr.cell? { block := (ar.add (k * 2)).block, off := (ar.add (k * 2)).off + 1 } = some (.int .i64 q.2) := v1'
     obtain ⟨lo2, hlo2⟩ : ∃ z, loI n lo k = z := ⟨_, rfl⟩
     obtain ⟨hi2, hhi2⟩ : ∃ z, hiI n hi k = z := ⟨_, rfl⟩
     have hfk : f k = visits t h q (d + 1) lo2 hi2 := by rw [HV.out.2.1, ← hqi, ← hlo2, ← hhi2]
     have hrk : (List.range (k + 1)).flatMap f = (List.range k).flatMap f ++ visits t h q (d + 1) lo2 hi2 := by rw [List.range_succ, List.flatMap_append, ← hfk]; simp
     have hlen2 : (((p ++ [(⟨n, d, lo, hi⟩ : Vis)]) ++ (List.range k).flatMap f) ++ visits t h q (d + 1) lo2 hi2).length ≤ m := by
      have h1 := HLen.out.1
      rw [HV.out.1] at h1
      have h2 : ((List.range (k + 1)).flatMap f).length ≤ ((List.range n.refs.length).flatMap f).length := by
       obtain ⟨j, hj⟩ : ∃ j, n.refs.length = k + 1 + j := ⟨n.refs.length - (k + 1), by omega⟩
       rw [hj, show List.range (k + 1 + j) = _ from List.range_add, List.flatMap_append, List.length_append]
       omega
      rw [hrk] at h2
      simp only [List.length_append, List.length_cons, List.length_nil] at h1 h2 ⊢
      omega
     have HX := As (And.intro (HK.out.2.2 q (List.mem_of_getElem? hq)) (And.intro hrk (And.intro hlen2 hlt)))
     have HLK := As (And.intro hlo2 hhi2)
     have HA := As (HW.out.alloc (.cells #[.int .i64 q.1, .int .i64 q.2] 33))
     obtain ⟨-, -, m2, -, -, -, -, -⟩ := HA.out.other.c4 g12 59 (.bool n.leaf) (.int .i64 n.ver) (.slice ka n.keys.length kc) (.slice (some ar) n.refs.length rc) (by simp)
     have hm2 := m2.trans n2.symm
     clear m2
     clear hq hqi hcr s0 s1 v1' hfk hrk hlen2 hlo2 hhi2
     by_cases ha : 0 < k
     ·by_cases hb : k < n.keys.length
      ·have hg0 : (0 : Int) < (k : Int) := by omega
       obtain ⟨k1, hk1⟩ : ∃ x, n.keys[k - 1]? = some x := ⟨_, List.getElem?_eq_getElem (by have := HK.out.1; omega)⟩
       have hkl : ((k - 1 : Nat) : Int) < (n.keys.length : Int) := by have := HK.out.1; omega
       have ewk : wrap64 ((k : Int) - 1) = ((k - 1 : Nat) : Int) := by unfold wrap64; omega
       have hlo3 : lo2 = k1 := by rw [← HLK.out.1]; unfold loI; rw [if_pos ha, List.getD_eq_getElem?_getD, hk1]; rfl
       obtain ⟨ak, eak, hck⟩ := (HW.out.rd HR.out.k).2 (by have := HK.out.1; omega)
       obtain ⟨ak2, eak2, hck2⟩ := (HA.out.rd HR.out.k).2 (by have := HK.out.1; omega)
       subst eak
       cases eak2
       have u0 := hck (k - 1) _ (by rw [List.getElem?_map, hk1]; rfl : (n.keys.map Value.string)[k - 1]? = some (.string k1))
       have hu0 := (hck2 (k - 1) _ (by rw [List.getElem?_map, hk1]; rfl : (n.keys.map Value.string)[k - 1]? = some (.string k1))).trans u0.symm
       subst hlo3
       clear hk1 ha
       have hkb : (k : Int) < (n.keys.length : Int) := by omega
       obtain ⟨k2, hk2⟩ : ∃ x, n.keys[k]? = some x := ⟨_, List.getElem?_eq_getElem hb⟩
       have hhi3 : hi2 = k2 := by rw [← HLK.out.2]; unfold hiI; rw [if_pos hb, List.getD_eq_getElem?_getD, hk2]; rfl
       have u1 := hck k _ (by rw [List.getElem?_map, hk2]; rfl : (n.keys.map Value.string)[k]? = some (.string k2))
       have hu1 := (hck2 k _ (by rw [List.getElem?_map, hk2]; rfl : (n.keys.map Value.string)[k]? = some (.string k2))).trans u1.symm
       subst hhi3
       clear hk2 hb
       clear hck hck2
       go_wp2_with (go_at_call 122; go_loud (refine (HIH.out q (d + 1) lo2 hi2 ((p ++ [⟨n, d, lo, hi⟩]) ++ (List.range k).flatMap f) X' (cb wr.heap.size 33 #[.int .i64 q.1, .int .i64 q.2] :: cb g12 59 #[.bool n.leaf, .int .i64 n.ver, .slice (some ak) n.keys.length kc, .slice (some ar) n.refs.length rc] :: cb w.heap.size 33 #[.int .i64 r.1, .int .i64 r.2] :: B) _ HX.out.1 HA.out HJ5.out HX.out.2.2.1 (by have := HLen.out.2.1; omega) (by have := HLen.out.2.2; omega)).mono ?_; rintro e7 w7 ⟨rfl, X7, hj7, hh⟩; have HJ7 := As hj7; have H7 := As hh; clear hj7 hh))
       go_roundg (n.refs.length - (k + 1))
       case measure => have := HX.out.2.2.2; omega
       case rel => exact ⟨k + 1, X7, by first | rfl | go_num, rfl, HX.out.2.2.2, ⟨by rw [HX.out.2.1, ← List.append_assoc]; exact HJ7.out⟩, ⟨H7.out.drop (by rw [List.cons_append]; exact List.sublist_cons_self _ _)⟩⟩
      ·have hg0 : (0 : Int) < (k : Int) := by omega
       obtain ⟨k1, hk1⟩ : ∃ x, n.keys[k - 1]? = some x := ⟨_, List.getElem?_eq_getElem (by have := HK.out.1; omega)⟩
       have hkl : ((k - 1 : Nat) : Int) < (n.keys.length : Int) := by have := HK.out.1; omega
       have ewk : wrap64 ((k : Int) - 1) = ((k - 1 : Nat) : Int) := by unfold wrap64; omega
       have hlo3 : lo2 = k1 := by rw [← HLK.out.1]; unfold loI; rw [if_pos ha, List.getD_eq_getElem?_getD, hk1]; rfl
       obtain ⟨ak, eak, hck⟩ := (HW.out.rd HR.out.k).2 (by have := HK.out.1; omega)
       obtain ⟨ak2, eak2, hck2⟩ := (HA.out.rd HR.out.k).2 (by have := HK.out.1; omega)
       subst eak
       cases eak2
       have u0 := hck (k - 1) _ (by rw [List.getElem?_map, hk1]; rfl : (n.keys.map Value.string)[k - 1]? = some (.string k1))
       have hu0 := (hck2 (k - 1) _ (by rw [List.getElem?_map, hk1]; rfl : (n.keys.map Value.string)[k - 1]? = some (.string k1))).trans u0.symm
       subst hlo3
       clear hk1 ha
       have hkb : ¬ (k : Int) < (n.keys.length : Int) := by omega
       have hhi3 : hi = hi2 := by rw [← HLK.out.2]; unfold hiI; rw [if_neg hb]
       subst hhi3
       clear hb
       clear hck hck2
       go_wp2_with (go_at_call 122; go_loud (refine (HIH.out q (d + 1) lo2 hi ((p ++ [⟨n, d, lo, hi⟩]) ++ (List.range k).flatMap f) X' (cb wr.heap.size 33 #[.int .i64 q.1, .int .i64 q.2] :: cb g12 59 #[.bool n.leaf, .int .i64 n.ver, .slice (some ak) n.keys.length kc, .slice (some ar) n.refs.length rc] :: cb w.heap.size 33 #[.int .i64 r.1, .int .i64 r.2] :: B) _ HX.out.1 HA.out HJ5.out HX.out.2.2.1 (by have := HLen.out.2.1; omega) (by have := HLen.out.2.2; omega)).mono ?_; rintro e7 w7 ⟨rfl, X7, hj7, hh⟩; have HJ7 := As hj7; have H7 := As hh; clear hj7 hh))
       go_roundg (n.refs.length - (k + 1))
       case measure => have := HX.out.2.2.2; omega
       case rel => exact ⟨k + 1, X7, by first | rfl | go_num, rfl, HX.out.2.2.2, ⟨by rw [HX.out.2.1, ← List.append_assoc]; exact HJ7.out⟩, ⟨H7.out.drop (by rw [List.cons_append]; exact List.sublist_cons_self _ _)⟩⟩
     ·by_cases hb : k < n.keys.length
      ·have hg0 : ¬ (0 : Int) < (k : Int) := by omega
       have hlo3 : lo = lo2 := by rw [← HLK.out.1]; unfold loI; rw [if_neg ha]
       subst hlo3
       clear ha
       have hkb : (k : Int) < (n.keys.length : Int) := by omega
       obtain ⟨k2, hk2⟩ : ∃ x, n.keys[k]? = some x := ⟨_, List.getElem?_eq_getElem hb⟩
       have hhi3 : hi2 = k2 := by rw [← HLK.out.2]; unfold hiI; rw [if_pos hb, List.getD_eq_getElem?_getD, hk2]; rfl
       obtain ⟨ak, eak, hck⟩ := (HW.out.rd HR.out.k).2 (by omega)
       obtain ⟨ak2, eak2, hck2⟩ := (HA.out.rd HR.out.k).2 (by omega)
       subst eak
       cases eak2
       have u1 := hck k _ (by rw [List.getElem?_map, hk2]; rfl : (n.keys.map Value.string)[k]? = some (.string k2))
       have hu1 := (hck2 k _ (by rw [List.getElem?_map, hk2]; rfl : (n.keys.map Value.string)[k]? = some (.string k2))).trans u1.symm
       subst hhi3
       clear hk2 hb
       clear hck hck2
       go_wp2_with (go_at_call 122; go_loud (refine (HIH.out q (d + 1) lo hi2 ((p ++ [⟨n, d, lo, hi⟩]) ++ (List.range k).flatMap f) X' (cb wr.heap.size 33 #[.int .i64 q.1, .int .i64 q.2] :: cb g12 59 #[.bool n.leaf, .int .i64 n.ver, .slice (some ak) n.keys.length kc, .slice (some ar) n.refs.length rc] :: cb w.heap.size 33 #[.int .i64 r.1, .int .i64 r.2] :: B) _ HX.out.1 HA.out HJ5.out HX.out.2.2.1 (by have := HLen.out.2.1; omega) (by have := HLen.out.2.2; omega)).mono ?_; rintro e7 w7 ⟨rfl, X7, hj7, hh⟩; have HJ7 := As hj7; have H7 := As hh; clear hj7 hh))
       go_roundg (n.refs.length - (k + 1))
       case measure => have := HX.out.2.2.2; omega
       case rel => exact ⟨k + 1, X7, by first | rfl | go_num, rfl, HX.out.2.2.2, ⟨by rw [HX.out.2.1, ← List.append_assoc]; exact HJ7.out⟩, ⟨H7.out.drop (by rw [List.cons_append]; exact List.sublist_cons_self _ _)⟩⟩
      ·have hg0 : ¬ (0 : Int) < (k : Int) := by omega
       have hlo3 : lo = lo2 := by rw [← HLK.out.1]; unfold loI; rw [if_neg ha]
       subst hlo3
       clear ha
       have hkb : ¬ (k : Int) < (n.keys.length : Int) := by omega
       have hhi3 : hi = hi2 := by rw [← HLK.out.2]; unfold hiI; rw [if_neg hb]
       subst hhi3
       clear hb
       go_wp2_with (go_at_call 122; go_loud (refine (HIH.out q (d + 1) lo hi ((p ++ [⟨n, d, lo, hi⟩]) ++ (List.range k).flatMap f) X' (cb wr.heap.size 33 #[.int .i64 q.1, .int .i64 q.2] :: cb g12 59 #[.bool n.leaf, .int .i64 n.ver, .slice ka n.keys.length kc, .slice (some ar) n.refs.length rc] :: cb w.heap.size 33 #[.int .i64 r.1, .int .i64 r.2] :: B) _ HX.out.1 HA.out HJ5.out HX.out.2.2.1 (by have := HLen.out.2.1; omega) (by have := HLen.out.2.2; omega)).mono ?_; rintro e7 w7 ⟨rfl, X7, hj7, hh⟩; have HJ7 := As hj7; have H7 := As hh; clear hj7 hh))
       go_roundg (n.refs.length - (k + 1))
       case measure => have := HX.out.2.2.2; omega
       case rel => exact ⟨k + 1, X7, by first | rfl | go_num, rfl, HX.out.2.2.2, ⟨by rw [HX.out.2.1, ← List.append_assoc]; exact HJ7.out⟩, ⟨H7.out.drop (by rw [List.cons_append]; exact List.sublist_cons_self _ _)⟩⟩
    ·have hge : ¬ (k : Int) < (n.refs.length : Int) := by omega
     have hkk : k = n.refs.length := by omega
     have HKK := As hkk
     clear hkk hlt hk
     go_wp2_with fail
     go_end0
     exact ⟨rfl, X', by rw [HV.out.1]; have := HJ5.out; rw [HKK.out] at this; simpa [List.append_assoc] using this, HW.out.drop (by rw [List.cons_append, List.cons_append]; exact (List.sublist_cons_self _ _).trans (List.sublist_cons_self _ _))⟩
  ·clear hcase hd0 hdm
   have HLf := As hlf
   clear hlf
   go_wp2_with ((with_reducible refine gate_clo (x := 20) (xs := #[.tmp 21, .tmp 22, .tmp 23, .tmp 24]) rfl ?_); go_loud (refine list_clo rfl (x := .tmp 20) rfl Try.func125 (by kernel_rfl) rfl #[.pointer (some ⟨g5, 0, none⟩), .pointer (some ⟨g3, 0, none⟩), .pointer (some ⟨g4, 0, none⟩)] rfl #[.agg #[.bool n.leaf, .int .i64 n.ver, .slice ka n.keys.length kc, .slice ra n.refs.length rc], .int .i64 d, .string lo, .string hi, .pointer (some ⟨g5, 0, none⟩), .pointer (some ⟨g3, 0, none⟩), .pointer (some ⟨g4, 0, none⟩)] (by simp only [List.map_toArray, List.map_cons, List.map_nil]; first | rfl | (go_simp; done) | (go_simp; rfl)) ?_; refine (HCB.out _ (cb g12 59 #[.bool n.leaf, .int .i64 n.ver, .slice ka n.keys.length kc, .slice ra n.refs.length rc] :: cb w.heap.size 33 #[.int .i64 r.1, .int .i64 r.2] :: B) X p n d lo hi ka kc ra rc H3.out HJ.out HC.out HP.out HR.out).mono ?_; rintro e4 w4 ⟨rfl, X4, hj4, hh⟩; refine ⟨_, rfl, ?_⟩; have HJ4 := As hj4; have H4 := As hh; clear hj4 hh; clear n0 n1 n2 n3; obtain ⟨n0, n1, n2, n3, -, -, -, -⟩ := H4.out.other.c4 g12 59 (.bool n.leaf) (.int .i64 n.ver) (.slice ka n.keys.length kc) (.slice ra n.refs.length rc) (by simp); rw [HLf.out] at n0))
   refine bodyPost_ret (results_none rfl _ _ _) rfl ?_
   exact ⟨rfl, X4, by rw [visits, HN.out, HLf.out, if_pos rfl]; exact HJ4.out, H4.out.drop (by rw [List.cons_append, List.cons_append]; exact (List.sublist_cons_self _ _).trans (List.sublist_cons_self _ _))⟩
end
section
variable {w0 w w1 : World} {L L' R : List Ob} {K : Nat × Nat × Nat} {t : Tm} {on : Value}
def visN (n : Nd.Nd) : List It := if n.leaf then itemsOf n else []
def visI (v : Vis) : List It := visN v.n
end
end Go.Proofs.Ytglbcfkmaamhaaa.Tr
