/- Maps of a walk's own, their entries as plain data, keys of any kind that has a law (structs too). No condition. -/
import Derived.Test.YtgecokldbkamlaaHv
import Derived.MapKept
import Derived.Maps.RangeRun
import Derived.Maps.RangeWalk
import Derived.DeepKeys4
import Derived.Maps.Keyed
namespace Go.Proofs.Ytgecokldbkamlaa.Mk
open Go Go.RowKit Go.MapKept Go.Proofs.YtgecokldbkamlaaW.PrintWords Go.Proofs.Ytgecokldbkamlaa.Hv
open Go.ChangeMaps (setBlock)
set_option linter.unusedVariables false
set_option linter.unusedSimpArgs false

abbrev Pr := Value × Value
/-- The entries, in the order in which they were laid. -/
def prs (es : Array MapEntry) : List Pr := es.toList.map (fun e => (e.key, e.val))
/-- What a walk needs of a key's type: K: what its keys look like. -/
structure KL (P : Program) (kt : TypeId) (K : Value → Prop) : Prop where
  check : ∀ (w : World) (em : Bool) {v : Value}, K v → (Instr.checkKey em 10000 kt v).run P w = .ok () w
  find : ∀ (w : World) {x : Value}, K x → ∀ es : List MapEntry, (∀ e ∈ es, K e.key) → ((Instr.findKey kt x es).run P w = .ok none w ∧ ∀ e ∈ es, e.key ≠ x) ∨ ∃ j e, (Instr.findKey kt x es).run P w = .ok (some (j, e.val)) w ∧ es[j]? = some e ∧ e.key = x
  stays : ∀ (w : World) {v : Value}, K v → (Instr.keyThatStays v v).run P w = .ok v w
theorem KL.of_law {P : Program} {kt : TypeId} (h : WideMaps.KeyLaw P kt) : KL P kt (fun v => ∃ l, keyOf P kt v = some l) where
  check w em v hv := by obtain ⟨l, hl⟩ := hv; exact h.check w em hl
  find w x hx es hes := by obtain ⟨l, hl⟩ := hx; exact h.find w hl es hes
  stays w v hv := by obtain ⟨l, hl⟩ := hv; exact h.stays w hl
theorem KL.plain {P : Program} {kt : TypeId} {d : TypeDesc} (hd : P.underlying kt = some d) : KL P kt (IsKey d) where
  check w em v hv := MapKept.run_checkKey hd hv em 9999
  find w x hx es hes := by
    rcases findNow_spec hx es 0 hes with ⟨h3, h4⟩ | ⟨j, e, h3, h4, h5⟩
    · exact .inl ⟨MapKept.run_findKey hd h3, h4⟩
    · exact .inr ⟨j, e, MapKept.run_findKey hd (by rw [Nat.zero_add] at h3; exact h3), h4, h5⟩
  stays w v hv := run_keyThatStays hv
/-- A map's object: keys of one kind, no key twice. -/
def IsM (K : Value → Prop) (o : Obj) (ps : List Pr) : Prop := ∃ es clock, o = .map es clock ∧ Stamped es clock ∧ (∀ x ∈ es.toList, K x.key) ∧ prs es = ps
theorem IsM.empty (K : Value → Prop) : IsM K (.map #[] 0) [] := ⟨#[], 0, rfl, stamped_empty 0, by simp, rfl⟩
theorem IsM.nodup {K : Value → Prop} {o : Obj} {ps : List Pr} (h : IsM K o ps) : (ps.map (·.1)).Nodup := by
  obtain ⟨es, clock, rfl, h1, h2, rfl⟩ := h
  have := h1.2.2
  simpa [prs, Function.comp_def] using this
theorem at_split {es : Array MapEntry} {clock : Nat} (h1 : Stamped es clock) {l1 l2 : List Pr} {key v0 : Value} (e0 : prs es = l1 ++ (key, v0) :: l2) {j : Nat} {e : MapEntry} (h4 : es.toList[j]? = some e) (h5 : e.key = key) : j = l1.length := by
  have hn : ((prs es).map (·.1)).Nodup := by
    have := h1.2.2
    simpa [prs, Function.comp_def] using this
  have a1 : ((prs es).map (·.1))[j]? = some key := by
    simp only [prs, List.getElem?_map, h4, Option.map_some, h5]
  have a2 : ((prs es).map (·.1))[l1.length]? = some key := by
    rw [e0]
    simp
  have h8 : j < ((prs es).map (·.1)).length := (List.getElem?_eq_some_iff.1 a1).1
  exact (List.getElem?_inj h8 hn).1 (a1.trans a2.symm)
section
variable {P : Program} {mty kt et : TypeId} {K : Value → Prop} {o : Obj} {ps : List Pr} {key : Value}
theorem find_no (kl : KL P kt K) {es : Array MapEntry} (h2 : ∀ x ∈ es.toList, K x.key) (hk : K key) (hn : ∀ p ∈ prs es, p.1 ≠ key) (W : World) : (Instr.findKey kt key es.toList).run P W = .ok none W := by
  rcases kl.find W hk es.toList h2 with ⟨h3, _⟩ | ⟨j, e, h3, h4, h5⟩
  · exact h3
  · exact absurd h5 (hn (e.key, e.val) (List.mem_map.2 ⟨e, List.mem_of_getElem? h4, rfl⟩))
theorem find_has (kl : KL P kt K) {es : Array MapEntry} {clock : Nat} (h1 : Stamped es clock) (h2 : ∀ x ∈ es.toList, K x.key) (hk : K key) {l1 l2 : List Pr} {v0 : Value} (e0 : prs es = l1 ++ (key, v0) :: l2) :
    ∃ e, es.toList[l1.length]? = some e ∧ e.key = key ∧ e.val = v0 ∧ ∀ W : World, (Instr.findKey kt key es.toList).run P W = .ok (some (l1.length, v0)) W := by
  have hp : (prs es)[l1.length]? = some (key, v0) := by rw [e0]; simp
  simp only [prs, List.getElem?_map, Option.map_eq_some_iff] at hp
  obtain ⟨e, he, ee⟩ := hp
  simp only [Prod.mk.injEq] at ee
  refine ⟨e, he, ee.1, ee.2, fun W => ?_⟩
  rcases kl.find W hk es.toList h2 with ⟨_, h4⟩ | ⟨j, e', h3, h4, h5⟩
  · exact absurd ee.1 (h4 e (List.mem_of_getElem? he))
  · have hj := at_split h1 e0 h4 h5
    subst hj
    rw [he] at h4
    cases h4
    rw [ee.2] at h3
    exact h3
/-- A store at a new key. -/
theorem upd_newW (hm : P.underlying mty = some (.map kt et)) (kl : KL P kt K) (h : IsM K o ps) (hk : K key) (hn : ∀ p ∈ ps, p.1 ≠ key) (v : Value) (r : Nat) :
    ∃ o', (∀ W : World, W.heap[r]? = some o → (Instr.mapUpdate mty (.map (some r)) key v).run P W = .ok () (setBlock W r o')) ∧ IsM K o' (ps ++ [(key, v)]) := by
  obtain ⟨es, clock, rfl, h1, h2, rfl⟩ := h
  have h4 : ∀ x ∈ es.toList, x.key ≠ key := fun x hx => hn (x.key, x.val) (List.mem_map.2 ⟨x, hx, rfl⟩)
  refine ⟨.map (es.push { key, val := v, born := clock }) (clock + 1), ?_, es.push { key, val := v, born := clock }, clock + 1, rfl, stamped_push h1 h4, ?_, by simp [prs]⟩
  · intro W hb
    simp [Instr.mapUpdate, run_underlying hm, MapKept.run_getObj_map hb, kl.check _ _ hk, find_no kl h2 hk hn, MapKept.run_setObj_map _ hb, Result.andThen, setBlock]
  · intro x hx
    simp only [Array.toList_push, List.mem_append, List.mem_singleton] at hx
    rcases hx with hx | rfl
    · exact h2 x hx
    · exact hk
/-- A store at a key that is there: in its place. -/
theorem upd_oldW (hm : P.underlying mty = some (.map kt et)) (kl : KL P kt K) {l1 l2 : List Pr} {v0 : Value} (h : IsM K o (l1 ++ (key, v0) :: l2)) (hk : K key) (v : Value) (r : Nat) :
    ∃ o', (∀ W : World, W.heap[r]? = some o → (Instr.mapUpdate mty (.map (some r)) key v).run P W = .ok () (setBlock W r o')) ∧ IsM K o' (l1 ++ (key, v) :: l2) := by
  obtain ⟨es, clock, rfl, h1, h2, e0⟩ := h
  obtain ⟨e, h4, h5, h6, h3⟩ := find_has kl h1 h2 hk e0
  have hj : es[l1.length]? = some e := by simpa using h4
  have hkey : ∀ e', es[l1.length]? = some e' → ({ e' with key := key, val := v } : MapEntry).key = e'.key := fun e' he' => by rw [hj] at he'; cases he'; exact h5.symm
  refine ⟨.map (es.modify l1.length fun e => { e with key, val := v }) clock, ?_, _, clock, rfl, stamped_modify h1 _ _ (fun _ _ => rfl) (fun e' _ he' => hkey e' he'), ?_, ?_⟩
  · intro W hb
    simp [Instr.mapUpdate, run_underlying hm, MapKept.run_getObj_map hb, kl.check _ _ hk, h3, hj, h5, kl.stays _ hk, MapKept.run_setObj_map _ hb, Result.andThen, setBlock]
  · intro x hx
    obtain ⟨i, hi, rfl⟩ := List.getElem_of_mem hx
    simp only [Array.getElem_toList, Array.getElem_modify]
    split
    · exact hk
    · exact h2 _ (by simp)
  · have e1 : prs (es.modify l1.length fun e => { e with key, val := v }) = (prs es).set l1.length (key, v) := by
      unfold prs
      apply List.ext_getElem?
      intro i
      simp only [List.getElem?_map, Array.getElem?_toList, Array.getElem?_modify, List.getElem?_set, List.length_map, Array.length_toList]
      by_cases hi : l1.length = i
      · subst hi
        have hlt : l1.length < es.size := (Array.getElem?_eq_some_iff.1 hj).1
        rw [if_pos rfl, if_pos rfl, if_pos hlt, hj]
        rfl
      · rw [if_neg hi, if_neg hi]
    rw [e1, e0]
    simp
theorem look_hasW (hm : P.underlying mty = some (.map kt et)) (kl : KL P kt K) {l1 l2 : List Pr} {v : Value} (h : IsM K o (l1 ++ (key, v) :: l2)) (hk : K key) (ok : Bool) (r : Nat) (W : World) (hb : W.heap[r]? = some o) :
    (Instr.lookup mty (.map (some r)) key ok).run P W = .ok (if ok then .tuple #[v, .bool true] else v) W := by
  obtain ⟨es, clock, rfl, h1, h2, e0⟩ := h
  obtain ⟨e, h4, h5, h6, h3⟩ := find_has kl h1 h2 hk e0
  cases ok <;> simp [Instr.lookup, run_underlying hm, MapKept.run_getObj_map hb, kl.check _ _ hk, h3, Result.andThen]
theorem look_noW (hm : P.underlying mty = some (.map kt et)) (kl : KL P kt K) (h : IsM K o ps) (hk : K key) (hn : ∀ p ∈ ps, p.1 ≠ key) (z : Value) (ok : Bool) (r : Nat) (W : World) (hz : (zeroValue et).run P W = .ok z W) (hb : W.heap[r]? = some o) :
    (Instr.lookup mty (.map (some r)) key ok).run P W = .ok (if ok then .tuple #[z, .bool false] else z) W := by
  obtain ⟨es, clock, rfl, h1, h2, rfl⟩ := h
  cases ok <;> simp [Instr.lookup, run_underlying hm, MapKept.run_getObj_map hb, kl.check _ _ hk, find_no kl h2 hk hn, Result.andThen, hz]
theorem len_map {w : World} {r : Nat} (hb : w.heap[r]? = some o) (h : IsM K o ps) (ty t : TypeId) (hm : P.underlying t = some (.map kt et)) : (Builtin.len_ #[t] ty #[.map (some r)]).run P w = .ok (.int .i64 (ps.length : Int)) w := by
  obtain ⟨es, clock, rfl, h1, h2, rfl⟩ := h
  simp [Builtin.len_, run_underlying hm, MapKept.run_getObj_map hb, Result.andThen, goInt, prs]
end

/-- An iterator over the map in block b: what is left. -/
def IsI (K : Value → Prop) (om oi : Obj) (b : Nat) (ps left : List Pr) : Prop :=
  ∃ es clock since seen c0, om = .map es clock ∧ Stamped es clock ∧ (∀ x ∈ es.toList, K x.key) ∧ prs es = ps ∧ oi = .mapIter (some b) since seen c0 ∧ (∀ x ∈ es.toList, x.born < since) ∧ since ≤ c0 ∧ since ≤ clock ∧ left.Perm ((leftOf es seen).toList.map (fun e => (e.key, e.val)))
theorem IsI.m {K : Value → Prop} {om oi : Obj} {b : Nat} {ps left : List Pr} (h : IsI K om oi b ps left) : IsM K om ps := by
  obtain ⟨es, clock, since, seen, c0, h1, h2, h3, h4, _⟩ := h
  exact ⟨es, clock, h1, h2, h3, h4⟩
section
variable {P : Program} {w0 w : World} {L : List Ob} {mty kt et : TypeId} {K : Value → Prop} {b r : Nat} {om oi : Obj} {ps left : List Pr}
/-- 'range m'. -/
theorem range_run (hv : Hv w0 w L) (hb : (b, om) ∈ L) (hm : P.underlying mty = some (.map kt et)) (h : IsM K om ps) :
    ∃ oi, (Instr.range mty (.map (some b))).run P w = .ok (.pointer (some ⟨w.heap.size, 0, none⟩)) (w.alloc oi) ∧ IsI K om oi b ps ps := by
  obtain ⟨es, clock, rfl, h1, h2, rfl⟩ := h
  refine ⟨.mapIter (some b) clock #[] clock, run_range_map w mty kt et b es clock hm (hv.box _ hb), es, clock, clock, #[], clock, rfl, h1, h2, rfl, rfl, h1.1, Nat.le_refl _, Nat.le_refl _, ?_⟩
  have e0 : leftOf es #[] = es := by
    unfold leftOf
    exact Array.filter_eq_self.2 (fun x _ => by simp)
  rw [e0]
  exact List.Perm.refl _
/-- The step. -/
theorem next_run (hv : Hv w0 w L) (hb : (b, om) ∈ L) {k : Nat} (hk : L[k]? = some (r, oi)) (h : IsI K om oi b ps left) (ty : TypeId) :
    (left = [] ∧ (Instr.next (.pointer (some ⟨r, 0, none⟩)) false ty).run P w = .ok (.tuple #[.bool false]) w) ∨
    ∃ p left' oi' w', left.Perm (p :: left') ∧ (Instr.next (.pointer (some ⟨r, 0, none⟩)) false ty).run P w = .ok (.tuple #[.bool true, p.1, p.2]) w' ∧ IsI K om oi' b ps left' ∧ Hv w0 w' (L.set k (r, oi')) ∧ (Instr.entry (.pointer (some ⟨r, 0, none⟩))).run P w' = .ok (.tuple #[p.1, p.2]) w' := by
  obtain ⟨es, clock, since, seen, c0, rfl, h1, h2, rfl, rfl, h5, h6, h2', hlp⟩ := h
  have hbr := hv.box _ hb
  have hrr := hv.box _ (List.mem_of_getElem? hk)
  rcases run_next_at (P := P) w ty r b since c0 seen es clock hrr hbr h5 h6 with ⟨h0, hrun⟩ | ⟨e, he, w1, hal, hrun⟩
  · refine .inl ⟨?_, hrun⟩
    have : leftOf es seen = #[] := Array.eq_empty_of_size_eq_zero h0
    rw [this] at hlp
    exact List.Perm.eq_nil hlp
  · obtain ⟨hem, hes⟩ := mem_left he
    have hv1 : Hv w0 w1 L := by
      rcases hal with rfl | rfl
      · exact hv
      · exact hv.drew
    have hv2 := hv1.turn k hk (.mapIter (some b) since (seen.push e.born) clock)
    have hbr1 : (setBlock w1 r (.mapIter (some b) since (seen.push e.born) clock)).heap[b]? = some (.map es clock) := by
      have hne : b ≠ r := by
        rintro rfl
        rw [hbr] at hrr
        cases hrr
      have h7 := hv1.box _ hb
      simp only [setBlock, Array.getElem?_setIfInBounds]
      rw [if_neg (fun e1 => hne e1.symm)]
      exact h7
    have hrr1 : (setBlock w1 r (.mapIter (some b) since (seen.push e.born) clock)).heap[r]? = some (.mapIter (some b) since (seen.push e.born) clock) :=
      hv2.box (r, .mapIter (some b) since (seen.push e.born) clock) (List.mem_set (List.getElem?_eq_some_iff.1 hk).1 _)
    refine .inr ⟨(e.key, e.val), (leftOf es (seen.push e.born)).toList.map (fun e => (e.key, e.val)), _, _, ?_, hrun, ⟨es, clock, since, seen.push e.born, clock, rfl, h1, h2, rfl, rfl, h5, h2', h2', List.Perm.refl _⟩, hv2, run_entry_at _ r b since seen es clock e hrr1 hbr1 hem ((stamped_iff es clock).1 h1).2.1⟩
    · have hp : (leftOf es seen).toList.Perm (e :: (leftOf es (seen.push e.born)).toList) := by
        unfold leftOf at he ⊢
        simp only [Array.toList_filter] at he ⊢
        have hnd := ((stamped_iff es clock).1 h1).2.1
        have key : ∀ l : List MapEntry, (l.map (·.born)).Nodup → e ∈ l → seen.contains e.born = false → (l.filter (fun x => !seen.contains x.born)).Perm (e :: l.filter (fun x => !(seen.push e.born).contains x.born)) := by
          intro l
          induction l with
          | nil => intro _ hm; simp at hm
          | cons a l ih =>
            intro hn hm hs
            obtain ⟨n1, n2⟩ := List.nodup_cons.1 hn
            rcases List.mem_cons.1 hm with rfl | hm
            · have e1 : l.filter (fun x => !(seen.push e.born).contains x.born) = l.filter (fun x => !seen.contains x.born) := by
                apply List.filter_congr
                intro x hx
                have hne : x.born ≠ e.born := fun e2 => n1 (List.mem_map.2 ⟨x, hx, e2⟩)
                rw [contains_push]
                simp [hne]
              rw [List.filter_cons, List.filter_cons, e1]
              have hs' : e.born ∉ seen := by simpa using hs
              simp [hs', contains_push]
            · have hne : a.born ≠ e.born := fun e2 => n1 (List.mem_map.2 ⟨e, hm, e2.symm⟩)
              have e3 : (!(seen.push e.born).contains a.born) = !seen.contains a.born := by rw [contains_push]; simp [hne]
              rw [List.filter_cons, List.filter_cons, e3]
              split
              · exact ((ih n2 hm hs).cons a).trans (List.Perm.swap _ _ _)
              · exact ih n2 hm hs
        exact key es.toList hnd hem hes
      exact hlp.trans (hp.map _)
end
section
variable {P : Program} {ops : Array Oper} {rest : List Oper} {o : Oper} {a : Act} {Q : Exit → Act → World → Prop} {w0 w : World} {L : List Ob} {mty kt et : TypeId} {K : Value → Prop} {b r : Nat} {om oi : Obj} {ps left : List Pr}
theorem range_at (hg : o.guard = none) (m : Operand) (hop : o.op = Op.range mty m) (hm : P.underlying mty = some (.map kt et)) (hv : Hv w0 w L) (hb : (b, om) ∈ L) (h : IsM K om ps) (em : a.eval m = .map (some b))
    (hK : ∀ r oi w', IsI K om oi b ps ps → Hv w0 w' ((r, oi) :: L) → wpList P ops Q rest (a.put o.dst (.pointer (some ⟨r, 0, none⟩))) w') : wpList P ops Q (o :: rest) a w := by
  refine wpList_plain hg fun K' hK' => ?_
  obtain ⟨oi, hrun, h1⟩ := range_run hv hb hm h
  unfold Oper.wp
  simp [execOp, hop, em, hrun, Result.andThen]
  exact hK' _ _ (hK _ oi _ h1 (hv.alloc oi))
/-- The step; mk: how an entry looks. -/
theorem next_at {α : Type} (mkK mkV : α → Value) (hg : o.guard = none) (it : Operand) (hop : o.op = Op.next it false) (hv : Hv w0 w L) (hb : (b, om) ∈ L) (k : Nat) (hk : L[k]? = some (r, oi)) {lf : List α} (h : IsI K om oi b ps (lf.map (fun x => (mkK x, mkV x)))) (em : a.eval it = .pointer (some ⟨r, 0, none⟩))
    (hDone : lf = [] → wpList P ops Q rest (a.put o.dst (.tuple #[.bool false])) w)
    (hMore : ∀ x lf' oi' w', lf.Perm (x :: lf') → IsI K om oi' b ps (lf'.map (fun x => (mkK x, mkV x))) → Hv w0 w' (L.set k (r, oi')) → (Instr.entry (.pointer (some ⟨r, 0, none⟩))).run P w' = .ok (.tuple #[mkK x, mkV x]) w' → wpList P ops Q rest (a.put o.dst (.tuple #[.bool true, mkK x, mkV x])) w') : wpList P ops Q (o :: rest) a w := by
  refine wpList_plain hg fun K' hK' => ?_
  rcases next_run hv hb hk h o.type with ⟨h0, hrun⟩ | ⟨p, left', oi', w', hp, hrun, hi, hv', hen⟩
  · have h0' : lf = [] := by simpa using h0
    unfold Oper.wp
    simp [execOp, hop, em, Result.andThen]
    rw [hrun]
    exact hK' _ _ (hDone h0')
  · have hpm : p ∈ lf.map (fun x => (mkK x, mkV x)) := hp.mem_iff.2 List.mem_cons_self
    obtain ⟨x, hx, rfl⟩ := List.mem_map.1 hpm
    obtain ⟨l1, l2, rfl⟩ := List.append_of_mem hx
    have h2 : ((l1 ++ l2).map (fun x => (mkK x, mkV x))).Perm left' := by
      have h3 : ((l1 ++ x :: l2).map (fun x => (mkK x, mkV x))).Perm ((mkK x, mkV x) :: (l1 ++ l2).map (fun x => (mkK x, mkV x))) := (List.perm_middle.map _)
      exact (List.perm_cons _).1 (h3.symm.trans hp)
    have hi2 : IsI K om oi' b ps ((l1 ++ l2).map (fun x => (mkK x, mkV x))) := by
      obtain ⟨es, clock, since, seen, c0, g1, g2, g3, g4, g5, g6, g7, g9, g8⟩ := hi
      exact ⟨es, clock, since, seen, c0, g1, g2, g3, g4, g5, g6, g7, g9, h2.trans g8⟩
    unfold Oper.wp
    simp [execOp, hop, em, Result.andThen]
    rw [hrun]
    exact hK' _ _ (hMore x _ oi' w' List.perm_middle hi2 hv' hen)
theorem next_none (hg : o.guard = none) (it : Operand) (hop : o.op = Op.next it false) (hv : Hv w0 w L) (hb : (b, om) ∈ L) (k : Nat) (hk : L[k]? = some (r, oi)) (h : IsI K om oi b ps []) (em : a.eval it = .pointer (some ⟨r, 0, none⟩))
    (hDone : wpList P ops Q rest (a.put o.dst (.tuple #[.bool false])) w) : wpList P ops Q (o :: rest) a w :=
  next_at (α := Empty) (fun x => x.elim) (fun x => x.elim) hg it hop hv hb k hk (lf := []) h em (fun _ => hDone) (fun x => x.elim)
theorem next_some {α : Type} (mkK mkV : α → Value) (hg : o.guard = none) (it : Operand) (hop : o.op = Op.next it false) (hv : Hv w0 w L) (hb : (b, om) ∈ L) (k : Nat) (hk : L[k]? = some (r, oi)) {lf : List α} (hl : 0 < lf.length) (h : IsI K om oi b ps (lf.map (fun x => (mkK x, mkV x)))) (em : a.eval it = .pointer (some ⟨r, 0, none⟩))
    (hMore : ∀ x lf' oi' w', lf.Perm (x :: lf') → IsI K om oi' b ps (lf'.map (fun x => (mkK x, mkV x))) → Hv w0 w' (L.set k (r, oi')) → (Instr.entry (.pointer (some ⟨r, 0, none⟩))).run P w' = .ok (.tuple #[mkK x, mkV x]) w' → wpList P ops Q rest (a.put o.dst (.tuple #[.bool true, mkK x, mkV x])) w') : wpList P ops Q (o :: rest) a w :=
  next_at mkK mkV hg it hop hv hb k hk h em (fun e => by subst e; simp at hl) hMore
end
end Go.Proofs.Ytgecokldbkamlaa.Mk
