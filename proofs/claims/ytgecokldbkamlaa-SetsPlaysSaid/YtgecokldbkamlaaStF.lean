/- sets.Sets: the sort of a row of writes. No condition. -/
import Derived.Test.YtgecokldbkamlaaStE
import Derived.Sort.OwnSorted
set_option linter.unusedVariables false
set_option linter.unusedSimpArgs false
namespace Go.Proofs.Ytgecokldbkamlaa.St
open Go Go.RowKit Go.MapKept Go.Sort Go.Shelf Go.Proofs.YtgecokldbkamlaaW.PrintWords Go.Proofs.YtgecokldbkamlaaW.PrintLast Go.Proofs.YtgecokldbkamlaaW.PrintMore Go.Proofs.Ytgecokldbkamlaa.Hv Go.Proofs.Ytgecokldbkamlaa.Mk Go.Proofs.Ytgecokldbkamlaa.Ka
variable {w0 w w1 : World} {g : Nat} {s : St} {L L' : List Ob}

theorem wcel_len (l : List Wr) : (l.flatMap wcel).length = l.length * 5 := by
  induction l with
  | nil => rfl
  | cons a l ih => rw [List.flatMap_cons, List.length_append, ih]; simp [wcel]; omega
theorem wcel_at : ∀ (l : List Wr) (k j : Nat) (d : Wr) (u : Value), l[k]? = some d → (wcel d)[j]? = some u → (l.flatMap wcel)[k * 5 + j]? = some u
  | [], k, j, d, u, h, _ => by simp at h
  | a :: l, 0, j, d, u, h, hu => by
    have e : a = d := by simpa using h
    subst e
    have hj := (List.getElem?_eq_some_iff.1 hu).1
    rw [List.flatMap_cons, Nat.zero_mul, Nat.zero_add, List.getElem?_append_left hj]
    exact hu
  | a :: l, k + 1, j, d, u, h, hu => by
    have h1 := wcel_at l k j d u (by simpa using h) hu
    rw [List.flatMap_cons, List.getElem?_append_right (by simp [wcel]; omega), show (k + 1) * 5 + j - (wcel a).length = k * 5 + j by simp [wcel]; omega]
    exact h1
theorem wcel_one (l : List Wr) : ∀ u ∈ l.flatMap wcel, u.oneCell' = true := by
  intro u hu
  obtain ⟨x, _, hx⟩ := List.mem_flatMap.1 hu
  simp [wcel] at hx
  rcases hx with rfl | rfl | rfl | rfl | rfl <;> rfl
theorem flat_eq (ws : List Wr) : flatK wcel 5 ws.toArray = (ws.flatMap wcel).toArray := by
  apply ext_get!
  · rw [size_flatK, List.size_toArray, List.size_toArray, wcel_len]
  · intro t ht
    have ht' : t < ws.length * 5 := by simpa using ht
    have hk : t / 5 < ws.length := by omega
    rw [get_flatK _ _ _ _ (by simpa using ht')]
    have hj : t % 5 < (wcel ws[t / 5]).length := by simp [wcel]; omega
    have h := wcel_at ws (t / 5) (t % 5) ws[t / 5] _ (List.getElem?_eq_getElem hk) (List.getElem?_eq_getElem hj)
    rw [show t / 5 * 5 + t % 5 = t by omega] at h
    have e1 : ws.toArray[t / 5]! = ws[t / 5] := by simp [hk]
    rw [e1]
    have e2 : (wcel ws[t / 5])[t % 5]! = (wcel ws[t / 5])[t % 5] := by simp [hj]
    rw [e2]
    simp [h]
theorem less_trans : ∀ a b c : List UInt8, Op.bytesLess a b = true → Op.bytesLess b c = true → Op.bytesLess a c = true
  | [], [], _, h, _ => by simp [Op.bytesLess] at h
  | [], _ :: _, [], _, h => by simp [Op.bytesLess] at h
  | [], _ :: _, _ :: _, _, _ => by simp [Op.bytesLess]
  | _ :: _, [], _, h, _ => by simp [Op.bytesLess] at h
  | _ :: _, _ :: _, [], _, h => by simp [Op.bytesLess] at h
  | x :: a, y :: b, z :: c, h1, h2 => by
    have ih := less_trans a b c
    simp only [Op.bytesLess, Bool.or_eq_true, decide_eq_true_eq, Bool.and_eq_true, beq_iff_eq] at h1 h2 ⊢
    rcases h1 with h1 | ⟨rfl, h1⟩
    · rcases h2 with h2 | ⟨rfl, h2⟩
      · exact .inl (UInt8.lt_trans h1 h2)
      · exact .inl h1
    · rcases h2 with h2 | ⟨rfl, h2⟩
      · exact .inl h2
      · exact .inr ⟨rfl, ih h1 h2⟩
theorem less_ntrans (a b c : List UInt8) (h1 : Op.bytesLess a b = false) (h2 : Op.bytesLess b c = false) : Op.bytesLess a c = false := by
  by_cases hac : Op.bytesLess a c = true
  · have f := Less.less_flip b a
    rw [h1] at f
    simp only [Bool.not_false, Bool.or_eq_true, beq_iff_eq] at f
    rcases f with f | rfl
    · have := less_trans b a c f hac
      rw [h2] at this
      cases this
    · rw [h2] at hac
      cases hac
  · simpa using hac
theorem ltOf_cmp (x y : Wr) : ltOf (fun x y : Wr => cmpB x.1 y.1) x y = bl x.1 y.1 := by
  unfold ltOf cmpB
  cases h1 : bl x.1 y.1
  · cases h2 : bl y.1 x.1 <;> simp [h1, h2]
  · simp [h1]
theorem swo : SWO (ltOf fun x y : Wr => cmpB x.1 y.1) where
  irrefl x := by rw [ltOf_cmp]; exact Less.less_irr _
  trans x y z h1 h2 := by
    rw [ltOf_cmp] at *
    exact less_trans _ _ _ h1 h2
  ntrans x y z h1 h2 := by
    rw [ltOf_cmp] at *
    exact less_ntrans _ _ _ h1 h2
theorem heap_sortW {b n : Nat} {os : Array Obj} {cur : Array Value} {e : TypeId} {fr : Nat × Nat} (F : Array Value) (hb : w.heap[b]? = some (.cells cur e fr)) :
    (grow (putRow id (Sort.ahead w n) b 0 F) os).heap[b]? = some (.cells (putCells id 0 F cur) e fr) := by
  have hg : b < w.heap.size := (Array.getElem?_eq_some_iff.1 hb).1
  rw [heap_grow_old _ _ (by simpa using hg)]
  simp [putRow, mapBlock, Sort.ahead, Array.getElem?_modify, hb, onCells]
theorem grownBy_sortW {b n : Nat} {os : Array Obj} (F : Array Value) : w.grownBy (grow (putRow id (Sort.ahead w n) b 0 F) os) (some b) := by
  refine ⟨rfl, rfl, rfl, by simp, fun k hk hne => ?_⟩
  rw [heap_grow_old _ _ (by simpa using hk)]
  have : b ≠ k := fun e => hne (by rw [e])
  simp [putRow, mapBlock, Sort.ahead, Array.getElem?_modify, this]
theorem take_putCellsW (cur : Array Value) (ts : List Value) (h : ts.length ≤ cur.size) : (putCells id 0 ts.toArray cur).toList.take ts.length = ts := by
  apply List.ext_getElem?
  intro j
  by_cases hj : j < ts.length
  · rw [List.getElem?_take_of_lt hj]
    simp [putCells, hj, show j < cur.size by omega]
  · rw [List.getElem?_eq_none (by rw [List.length_take]; omega), List.getElem?_eq_none (by omega)]
theorem sortW.calls {v : Value} {n : Nat} {ws : List Wr} {A : List Ob} (hn : ws.length = n) (hk : ws.length ≤ 1000000) (hG : Gr 40 5 v n (ws.flatMap wcel) A) (hv : Hv w0 w (A ++ L)) :
    Calls Try.prog 27 #[v, .func (.func 28) #[] #[]] w fun e w' => e = .returned (.tuple #[]) ∧ ∃ (ws' : List Wr) (A' : List Ob), ws'.Perm ws ∧ ws'.Pairwise (fun x y => bl y.1 x.1 = false) ∧ Gr 40 5 v n (ws'.flatMap wcel) A' ∧ Hv w0 w' (A' ++ L) := by
  obtain ⟨ad, c, rfl, hnc⟩ := hG.form
  by_cases h0 : n = 0
  · subst h0
    have : ws = [] := List.length_eq_zero_iff.1 hn
    subst this
    have hc := AnyF.slices_SortFunc_none Try.sortW ad c (.func (.func 28) #[] #[]) w
    change Calls Try.prog 27 _ _ _ at hc
    refine hc.mono ?_
    rintro e w' ⟨rfl, rfl⟩
    exact ⟨rfl, [], A, List.Perm.refl _, List.Pairwise.nil, hG, hv⟩
  · obtain ⟨g1, cur, rfl, rfl, h1, h2, h3, h4⟩ := hG.addr (by omega)
    have hb := hv.box (cb g1 40 cur) (by simp)
    have hlt := hv.lt (cb g1 40 cur) (by simp)
    subst hn
    have hH : HoldsK wcel 5 w g1 0 ws.toArray := by
      unfold HoldsK
      rw [flat_eq]
      intro i hi
      have hi' : i < ws.length * 5 := by rw [← wcel_len]; simpa using hi
      refine ⟨?_, hv.frozen (g := g1) (t := 40) (cs := cur) (by simp) _⟩
      have h7 := h4 i hi'
      have hx : (ws.flatMap wcel)[i]? = some ((ws.flatMap wcel).toArray[i]!) := by
        have : i < (ws.flatMap wcel).length := by simpa using hi
        have e9 := List.getElem?_eq_getElem this
        simp [e9]
      rw [Nat.zero_add]
      exact hv.cell (g := g1) (t := 40) (cs := cur) (by simp) i (h7.trans hx)
    have eg : ∀ args w, (callFunc 28 args).run Try.prog w = .ok (.enter 28 args) w := enters_of Try.func28 (by kernel_rfl) rfl
    have hcm : CmpLays Try.prog 28 #[] wcel 5 (fun x y : Wr => cmpB x.1 y.1) g1 0 ws.toArray.size w := fun m os dk _ x y => clo.calls x y _
    have hc := AnyQ.slices_SortFunc Try.sortW 5 Try.isAgg40 Try.sizeOf40 wcel (fun _ => rfl) (fun x => by have := wcel_one [x]; simpa using this) (fun x y : Wr => cmpB x.1 y.1) swo 28 #[] g1 0 c ws.toArray w eg hcm hH hlt (by simp; omega)
    change Calls Try.prog 27 _ _ _ at hc
    rw [List.size_toArray] at hc
    refine hc.mono ?_
    rintro e w' ⟨rfl, d', n1, os, hp, hs, rfl⟩
    refine ⟨rfl, d'.toList, ?_⟩
    have hsz : d'.size = ws.length := by simpa using hp.1
    have hperm : d'.toList.Perm ws := by
      have h9 := hp.2.2
      have e1 : d'.extract 0 ws.length = d' := by rw [← hsz]; simp
      have e2 : ws.toArray.extract 0 ws.length = ws.toArray := by simp
      rw [e1, e2] at h9
      simpa using h9
    have hsort : d'.toList.Pairwise (fun x y => bl y.1 x.1 = false) := by
      rw [List.pairwise_iff_getElem]
      intro i j hi hj hij
      have hi' : i < d'.size := by simpa using hi
      have hj' : j < d'.size := by simpa using hj
      have := hs i j (Nat.zero_le _) hij (by omega)
      rw [ltOf_cmp] at this
      simpa [hi', hj'] using this
    have hf : flatK wcel 5 d' = (d'.toList.flatMap wcel).toArray := by
      have := flat_eq d'.toList
      simpa using this
    have hl : (d'.toList.flatMap wcel).length = ws.length * 5 := by rw [wcel_len]; simp [hsz]
    have he : sortWorldK wcel 5 w g1 0 n1 d' os = grow (putRow id (Sort.ahead w n1) g1 0 (d'.toList.flatMap wcel).toArray) os := by
      unfold sortWorldK putRowK
      rw [hf]
    rw [he]
    have ho : (grow (putRow id (Sort.ahead w n1) g1 0 (d'.toList.flatMap wcel).toArray) os).ownsRow w0.heap.size 40 5 (.slice (some ⟨g1, 0, none⟩) ws.length c) ws.length (d'.toList.flatMap wcel) :=
      ⟨hl, .inr ⟨g1, c, _, rfl, hv.new (cb g1 40 cur) (by simp), heap_sortW _ hb, h2, h3, by simp [putCells, h1], by rw [← hl]; exact take_putCellsW cur _ (by omega)⟩⟩
    obtain ⟨A', hG', hH'⟩ := hG.step hv ho (grownBy_sortW _) (.inl rfl)
    exact ⟨A', hperm, hsort, hG', hH'⟩
end Go.Proofs.Ytgecokldbkamlaa.St
