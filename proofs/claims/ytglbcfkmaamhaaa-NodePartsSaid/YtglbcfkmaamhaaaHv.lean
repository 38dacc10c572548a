/- Blocks of a walk's own, whatever they hold, in one fact. No condition. -/
import Derived.Test.YtglbcfkmaamhaaaWWords
import Derived.Test.YtglbcfkmaamhaaaWMore
import Derived.Test.YtglbcfkmaamhaaaWShare
import Derived.Test.YtglbcfkmaamhaaaWFoot
import Derived.Test.YtglbcfkmaamhaaaWKept
import Derived.ChangeMaps5
import Derived.Maps.AppendAt
import Derived.Deep.Slices
namespace Go.Proofs.Ytglbcfkmaamhaaa.Hv
open Go Go.RowKit Go.Proofs.YtglbcfkmaamhaaaW.PrintWords
set_option linter.unusedVariables false
set_option linter.unusedSimpArgs false

abbrev Ob := Nat × Obj
/-- A block of cells. -/
abbrev cb (g t : Nat) (cs : Array Value) : Ob := (g, .cells cs t (0, 0))
/-- The blocks of L hold what L says; all lie behind w0; no block is twice. -/
structure Hv (w0 w : World) (L : List Ob) : Prop where
  bel : Below w0.heap.size w0 w
  box : ∀ p ∈ L, w.heap[p.1]? = some p.2
  new : ∀ p ∈ L, w0.heap.size ≤ p.1
  nod : (L.map (·.1)).Nodup
namespace Hv
variable {w0 w w1 : World} {L L' A A' : List Ob} {g t : Nat} {cs : Array Value} {o : Obj}
theorem start (w : World) : Hv w w [] := ⟨Below.refl _ _, by simp, by simp, by simp⟩
theorem lt (h : Hv w0 w L) (p : Ob) (hp : p ∈ L) : p.1 < w.heap.size := blk_lt (h.box p hp)
theorem alloc (h : Hv w0 w L) (o : Obj) : Hv w0 (w.alloc o) ((w.heap.size, o) :: L) := by
  refine ⟨below_alloc h.bel _, fun p hp => ?_, fun p hp => ?_, ?_⟩
  · rcases List.mem_cons.1 hp with rfl | hp
    · exact blk_new w _
    · exact blk_alloc (h.box p hp) _
  · rcases List.mem_cons.1 hp with rfl | hp
    · exact h.bel.size
    · exact h.new p hp
  · refine List.nodup_cons.2 ⟨fun hm => ?_, h.nod⟩
    obtain ⟨p, hp, e⟩ := List.mem_map.1 hm
    have h1 := h.lt p hp
    have e' : p.1 = w.heap.size := e
    omega
/-- A block that is laid and not told. -/
theorem skip (h : Hv w0 w L) (o : Obj) : Hv w0 (w.alloc o) L := by
  have h1 := h.alloc o
  exact ⟨h1.bel, fun p hp => h1.box p (List.mem_cons_of_mem _ hp), fun p hp => h1.new p (List.mem_cons_of_mem _ hp), h.nod⟩
theorem perm (h : Hv w0 w L) (hp : L'.Perm L) : Hv w0 w L' :=
  ⟨h.bel, fun p hm => h.box p (hp.mem_iff.1 hm), fun p hm => h.new p (hp.mem_iff.1 hm), (hp.map _).nodup_iff.2 h.nod⟩
theorem drop (h : Hv w0 w L) (hs : L'.Sublist L) : Hv w0 w L' := ⟨h.bel, fun p hp => h.box p (hs.mem hp), fun p hp => h.new p (hs.mem hp), h.nod.sublist (hs.map _)⟩
theorem call (h : Hv w0 w L) (hb : Below w.heap.size w w1) : Hv w0 w1 L :=
  ⟨h.bel.trans (hb.mono h.bel.size), fun p hp => blk_below (h.box p hp) hb, h.new, h.nod⟩
theorem drew (h : Hv w0 w L) : Hv w0 w.drew L := ⟨below_drew1 h.bel, fun p hp => blk_drew (h.box p hp), h.new, h.nod⟩
theorem drewN (h : Hv w0 w L) (n : Nat) : Hv w0 (w.drewN n) L := ⟨pw_below_drewN h.bel n, fun p hp => blk_drewN (h.box p hp) n, h.new, h.nod⟩
theorem cell (h : Hv w0 w L) (hm : cb g t cs ∈ L) (i : Nat) {v : Value} (hv : cs[i]? = some v) : w.cell? ⟨g, i, none⟩ = some v := (blk_cell (h.box _ hm) i).trans hv
theorem frozen (h : Hv w0 w L) (hm : cb g t cs ∈ L) (i : Nat) : w.frozen? ⟨g, i, none⟩ = false := blk_frozen (h.box _ hm) i
theorem ne (h : Hv w0 w L) (hm : (g, o) ∈ L) : ¬ g = w.heap.size := by have := h.lt _ hm; exact Nat.ne_of_lt this
theorem ge (h : Hv w0 w L) (hm : (g, o) ∈ L) : w0.heap.size ≤ g := h.new _ hm
/-- Two blocks of the list are two. -/
theorem apart (h : Hv w0 w L) {i j : Nat} {p q : Ob} (hi : L[i]? = some p) (hj : L[j]? = some q) (hne : i ≠ j) : ¬ p.1 = q.1 := by
  intro e
  have h1 : (L.map (·.1))[i]? = some p.1 := by simp [hi]
  have h2 : (L.map (·.1))[j]? = some p.1 := by simp [hj, e]
  exact hne ((List.getElem?_inj (List.getElem?_eq_some_iff.1 h1).1 h.nod).1 (h1.trans h2.symm))
/-- The block at place k has turned. -/
theorem setAt (h : Hv w0 w L) (k : Nat) {g : Nat} {o o' : Obj} (hk : L[k]? = some (g, o)) (hb : Below w0.heap.size w0 w1) (h1 : w1.heap[g]? = some o') (h2 : ∀ i, i < w.heap.size → i ≠ g → w1.heap[i]? = w.heap[i]?) : Hv w0 w1 (L.set k (g, o')) := by
  have hkl := (List.getElem?_eq_some_iff.1 hk).1
  refine ⟨hb, fun p hp => ?_, fun p hp => ?_, ?_⟩
  · obtain ⟨j, hj⟩ := List.getElem?_of_mem hp
    by_cases e : k = j
    · subst e
      rw [List.getElem?_set_self hkl] at hj
      cases hj
      exact h1
    · rw [List.getElem?_set_ne e] at hj
      have hm := List.mem_of_getElem? hj
      exact (h2 p.1 (h.lt p hm) (h.apart hj hk (fun e1 => e e1.symm))).trans (h.box p hm)
  · rcases List.mem_or_eq_of_mem_set hp with hp | rfl
    · exact h.new p hp
    · exact h.new (g, o) (List.mem_of_getElem? hk)
  · rw [List.map_set]
    have : (L.map (·.1)).set k g = L.map (·.1) := by
      apply List.ext_getElem?
      intro j
      by_cases e : k = j
      · subst e
        rw [List.getElem?_set_self (by simpa using hkl)]
        simp [hk]
      · rw [List.getElem?_set_ne e]
    show ((L.map (·.1)).set k g).Nodup
    rw [this]
    exact h.nod
/-- A store into the block at place k. -/
theorem put (h : Hv w0 w L) (k : Nat) {g t : Nat} {cs : Array Value} (hk : L[k]? = some (cb g t cs)) (i : Nat) (u : Value) : Hv w0 (w.setCell ⟨g, i, none⟩ u) (L.set k (cb g t (cs.setIfInBounds i u))) :=
  h.setAt k hk (h.bel.setCell (h.new _ (List.mem_of_getElem? hk)) u) (blk_put (h.box _ (List.mem_of_getElem? hk)) i u rfl) (fun j _ hj => Below.heap_setCell w _ u j hj)
theorem put0 (h : Hv w0 w (cb g t cs :: L)) (i : Nat) (u : Value) {cs' : Array Value} (e : cs.setIfInBounds i u = cs') : Hv w0 (w.setCell ⟨g, i, none⟩ u) (cb g t cs' :: L) := e ▸ h.put 0 rfl i u
theorem put1 {a : Ob} (h : Hv w0 w (a :: cb g t cs :: L)) (i : Nat) (u : Value) {cs' : Array Value} (e : cs.setIfInBounds i u = cs') : Hv w0 (w.setCell ⟨g, i, none⟩ u) (a :: cb g t cs' :: L) := e ▸ h.put 1 rfl i u
theorem put2 {a b : Ob} (h : Hv w0 w (a :: b :: cb g t cs :: L)) (i : Nat) (u : Value) {cs' : Array Value} (e : cs.setIfInBounds i u = cs') : Hv w0 (w.setCell ⟨g, i, none⟩ u) (a :: b :: cb g t cs' :: L) := e ▸ h.put 2 rfl i u
theorem put3 {a b c : Ob} (h : Hv w0 w (a :: b :: c :: cb g t cs :: L)) (i : Nat) (u : Value) {cs' : Array Value} (e : cs.setIfInBounds i u = cs') : Hv w0 (w.setCell ⟨g, i, none⟩ u) (a :: b :: c :: cb g t cs' :: L) := e ▸ h.put 3 rfl i u
/-- A store into a block behind some others. -/
theorem putA0 {A : List Ob} (h : Hv w0 w (A ++ (cb g t cs :: L))) (i : Nat) (u : Value) {cs' : Array Value} (e : cs.setIfInBounds i u = cs') : Hv w0 (w.setCell ⟨g, i, none⟩ u) (A ++ (cb g t cs' :: L)) := by
  have h1 := h.put A.length (g := g) (t := t) (cs := cs) (by simp) i u
  rw [List.set_append_right _ _ (Nat.le_refl _), Nat.sub_self] at h1
  exact e ▸ h1
theorem putA1 {a : Ob} {A : List Ob} (h : Hv w0 w (A ++ (a :: cb g t cs :: L))) (i : Nat) (u : Value) {cs' : Array Value} (e : cs.setIfInBounds i u = cs') : Hv w0 (w.setCell ⟨g, i, none⟩ u) (A ++ (a :: cb g t cs' :: L)) := by
  have h1 := h.put (A.length + 1) (g := g) (t := t) (cs := cs) (by simp [List.getElem?_append_right]) i u
  rw [List.set_append_right _ _ (by omega), Nat.add_sub_cancel_left] at h1
  exact e ▸ h1
/-- Another object in a block (a map, an iterator). -/
theorem turn (h : Hv w0 w L) (k : Nat) {g : Nat} {o : Obj} (hk : L[k]? = some (g, o)) (o' : Obj) : Hv w0 (Go.ChangeMaps.setBlock w g o') (L.set k (g, o')) := by
  have hm := List.mem_of_getElem? hk
  have hlt : g < w.heap.size := h.lt _ hm
  refine h.setAt k hk ?_ ?_ ?_
  · refine ⟨h.bel.os, h.bel.tape, h.bel.output, ?_, fun i hi => ?_⟩
    · simpa [Go.ChangeMaps.setBlock] using h.bel.size
    · have := h.new _ hm
      have hne : g ≠ i := by
        have h1 : w0.heap.size ≤ g := this
        omega
      simp only [Go.ChangeMaps.setBlock, Array.getElem?_setIfInBounds]
      rw [if_neg hne]
      exact h.bel.block i hi
  · simp [Go.ChangeMaps.setBlock, Array.getElem?_setIfInBounds, hlt]
  · intro i _ hne
    simp only [Go.ChangeMaps.setBlock, Array.getElem?_setIfInBounds]
    rw [if_neg (fun e => hne e.symm)]
/-- Head and tail. -/
theorem tail {a : Ob} (h : Hv w0 w (a :: L)) : Hv w0 w L := h.drop (List.sublist_cons_self a L)
theorem swap {a b : Ob} (h : Hv w0 w (a :: b :: L)) : Hv w0 w (b :: a :: L) := h.perm (List.Perm.swap a b L)
theorem left (h : Hv w0 w (A ++ L)) : Hv w0 w A := h.drop (List.sublist_append_left A L)
theorem right (h : Hv w0 w (A ++ L)) : Hv w0 w L := h.drop (List.sublist_append_right A L)
theorem comm (h : Hv w0 w (A ++ L)) : Hv w0 w (L ++ A) := h.perm List.perm_append_comm
end Hv

/-- A slice that the walk appends to: nil, or at the head of a block of its own. -/
def Gr (e size : Nat) (v : Value) (n : Nat) (xs : List Value) (A : List Ob) : Prop :=
  xs.length = n * size ∧ ((v = .slice none 0 0 ∧ n = 0 ∧ A = []) ∨
   ∃ g cap cur, v = .slice (some ⟨g, 0, none⟩) n cap ∧ A = [cb g e cur] ∧ n ≤ cap ∧ cap ≤ maxLen ∧ cur.size = cap * size ∧ cur.toList.take (n * size) = xs)
namespace Gr
variable {w0 w w1 : World} {L A : List Ob} {e size n m : Nat} {v v1 : Value} {xs ys : List Value}
theorem nil (e size : Nat) : Gr e size (.slice none 0 0) 0 [] [] := ⟨by simp, .inl ⟨rfl, rfl, rfl⟩⟩
theorem owns (h : Gr e size v n xs A) (hv : Hv w0 w (A ++ L)) : w.ownsRow w0.heap.size e size v n xs := by
  refine ⟨h.1, ?_⟩
  rcases h.2 with ⟨h1, h2, _⟩ | ⟨g, cap, cur, rfl, rfl, h3, h4, h5, h6⟩
  · exact .inl ⟨h1, h2⟩
  · exact .inr ⟨g, cap, cur, rfl, hv.new (cb g e cur) (by simp), hv.box (cb g e cur) (by simp), h3, h4, h5, h6⟩
theorem block (h : Gr e size v n xs A) (k : Nat) : v.ownBlock = some k ↔ ∃ o, (k, o) ∈ A := by
  rcases h.2 with ⟨rfl, h2, rfl⟩ | ⟨g, cap, cur, rfl, rfl, _⟩
  · simp [Value.ownBlock]
  · simp only [Value.ownBlock, Option.some.injEq, List.mem_singleton, Prod.mk.injEq]
    exact ⟨fun e => ⟨_, e.symm, rfl⟩, fun ⟨_, e, _⟩ => e.symm⟩
/-- An append: the old row's block has turned, or a new one has been laid. -/
theorem step (h : Gr e size v n xs A) (hv : Hv w0 w (A ++ L)) (ho : w1.ownsRow w0.heap.size e size v1 m ys) (hg : w.grownBy w1 v.ownBlock) (hat : v1.ownBlock = v.ownBlock ∨ ∃ b, v1.ownBlock = some b ∧ w.heap.size ≤ b) :
    ∃ A', Gr e size v1 m ys A' ∧ Hv w0 w1 (A' ++ L) := by
  have hb : Below w0.heap.size w0 w1 := hv.bel.grown hg hv.bel.size (fun k hk => by
    obtain ⟨o, ho⟩ := (h.block k).1 hk
    exact hv.new (k, o) (by simp [ho]))
  have hL : ∀ p ∈ L, w1.heap[p.1]? = some p.2 := fun p hp => by
    refine blk_grown (hv.box p (by simp [hp])) hg (fun e1 => ?_)
    obtain ⟨o, ho⟩ := (h.block p.1).1 e1.symm
    have h2 := (List.nodup_append.1 (by simpa using hv.nod)).2.2 p.1 (List.mem_map.2 ⟨(p.1, o), ho, rfl⟩) p.1 (List.mem_map.2 ⟨p, hp, rfl⟩)
    exact h2 rfl
  have nL : ∀ p ∈ L, w0.heap.size ≤ p.1 := fun p hp => hv.new p (by simp [hp])
  have dL : (L.map (·.1)).Nodup := hv.right.nod
  obtain ⟨h1, h2⟩ := ho
  rcases h2 with ⟨rfl, h2⟩ | ⟨g, cap, cur, rfl, hge, hh, h3, h4, h5, h6⟩
  · exact ⟨[], ⟨h1, .inl ⟨rfl, h2, rfl⟩⟩, hb, by simpa using hL, by simpa using nL, by simpa using dL⟩
  · refine ⟨[cb g e cur], ⟨h1, .inr ⟨g, cap, cur, rfl, rfl, h3, h4, h5, h6⟩⟩, hb, ?_, ?_, ?_⟩
    · intro p hp
      rcases List.mem_cons.1 hp with rfl | hp
      · exact hh
      · exact hL p hp
    · intro p hp
      rcases List.mem_cons.1 hp with rfl | hp
      · exact hge
      · exact nL p hp
    · refine List.nodup_cons.2 ⟨fun hm => ?_, dL⟩
      obtain ⟨p, hp, e1⟩ := List.mem_map.1 hm
      have e2 : p.1 = g := e1
      rcases hat with hat | ⟨b, hat, hlt⟩
      · obtain ⟨o, ho⟩ := (h.block g).1 (by rw [← hat]; rfl)
        have h2 := (List.nodup_append.1 (by simpa using hv.nod)).2.2 g (List.mem_map.2 ⟨(g, o), ho, rfl⟩) g (List.mem_map.2 ⟨p, hp, e1⟩)
        exact h2 rfl
      · have h7 := hv.lt p (List.mem_append_right A (by simpa using hp))
        have h8 : g = b := by simpa [Value.ownBlock] using hat
        omega
theorem form (h : Gr e size v n xs A) : ∃ ad c, v = .slice ad n c ∧ n ≤ c := by
  rcases h.2 with ⟨rfl, rfl, _⟩ | ⟨g, cap, cur, rfl, _, h3, _⟩
  · exact ⟨none, 0, rfl, Nat.le_refl _⟩
  · exact ⟨_, _, rfl, h3⟩
/-- Some are left off at the end. -/
theorem take {ad : Option Addr} {c : Nat} (h : Gr e size (.slice ad n c) n xs A) (k : Nat) (hk : k ≤ n) : Gr e size (.slice ad k c) k (xs.take (k * size)) A := by
  have hl : k * size ≤ n * size := Nat.mul_le_mul_right _ hk
  refine ⟨by rw [List.length_take, h.1]; omega, ?_⟩
  rcases h.2 with ⟨h1, rfl, rfl⟩ | ⟨g, cap, cur, h1, rfl, h3, h4, h5, h6⟩
  · obtain rfl : k = 0 := by omega
    simp only [Value.slice.injEq] at h1
    exact .inl ⟨by rw [h1.1, h1.2.2], rfl, rfl⟩
  · simp only [Value.slice.injEq] at h1
    refine .inr ⟨g, cap, cur, by rw [h1.1, h1.2.2], rfl, by omega, h4, h5, ?_⟩
    rw [← h6, List.take_take, Nat.min_eq_left hl]
theorem addr {ad : Option Addr} {c : Nat} (h : Gr e size (.slice ad n c) n xs A) (hn : 0 < n) : ∃ g cur, ad = some ⟨g, 0, none⟩ ∧ A = [cb g e cur] ∧ c * size = cur.size ∧ n ≤ c ∧ c ≤ maxLen ∧ ∀ i, i < n * size → cur[i]? = xs[i]? := by
  rcases h.2 with ⟨h1, rfl, rfl⟩ | ⟨g, cap, cur, h1, rfl, h3, h4, h5, h6⟩
  · omega
  · simp only [Value.slice.injEq] at h1
    obtain ⟨rfl, _, rfl⟩ := h1
    refine ⟨g, cur, rfl, rfl, h5.symm, h3, h4, fun i hi => ?_⟩
    rw [← h6, List.getElem?_take, if_pos hi]
    simp
end Gr

section
variable {P : Program} {ops : Array Oper} {rest : List Oper} {o : Oper} {a : Act} {Q : Exit → Act → World → Prop} {K : Act → World → Prop} {w0 w : World} {L A : List Ob}
/-- An append to a slice of the walk's own, at the operation. -/
theorem append_list (hgd : o.guard = none) (s x : Operand) (t e : TypeId) (z : Value) (size bytes : Nat)
    (ho : o.op = .call { callee := .builtin .append, args := #[s, x], argTypes := #[t, t] })
    (ht : P.underlying t = some (.slice e)) (hinfo : (P.info? e).map (fun i => (i.zero, i.size, i.bytes)) = some (some z, size, bytes)) (hz : z.cells.size = size) (hs0 : 0 < size) (hb0 : 0 < bytes)
    (v : Value) (n : Nat) (xs : List Value) (hs : a.eval s = v) (ad : Addr) (m c : Nat) (news : List Value) (hx : a.eval x = .slice (some ad) m c) (hl : news.length = m * size) (hnews : ∀ j u, news[j]? = some u → w.cell? (ad.add j) = some u) (h1 : ∀ u ∈ news, u.oneCell' = true)
    (hg : Gr e size v n xs A) (hv : Hv w0 w (A ++ L)) (hb : (n + m) * bytes ≤ 140737488355328)
    (h : ∀ v1 w1 A1, Gr e size v1 (n + m) (xs ++ news) A1 → Hv w0 w1 (A1 ++ L) → wpList P ops Q rest (a.put o.dst v1) w1) : wpList P ops Q (o :: rest) a w := by
  obtain ⟨i0, hi, hzz⟩ := Option.map_eq_some_iff.1 hinfo
  simp only [Prod.mk.injEq] at hzz
  obtain ⟨hz0, hz1, hz2⟩ := hzz
  have hlen : n + m ≤ 140737488355328 := Nat.le_trans (Nat.le_mul_of_pos_right _ hb0) hb
  refine wpList_append_own_at w hgd s x t ho w0.heap.size e i0 z size bytes ht hi hz0 hz1 hz2 hz hs0 v n xs hs (hg.owns hv) ad m c news hx hl hnews h1 (by simp only [maxLen]; omega) hb hv.bel.size ?_
  intro v1 w1 hown hgr _ hat
  obtain ⟨A1, hG, hH⟩ := hg.step hv hown hgr (hat.imp id (fun e => ⟨_, e, Nat.le_refl _⟩))
  exact h v1 w1 A1 hG hH
/-- .. in a region that draws its order. -/
theorem append_step (hw : Region.wanted o (yielded ops a.tmps) = true) (s x : Operand) (t e : TypeId) (z : Value) (size bytes : Nat)
    (ho : o.op = .call { callee := .builtin .append, args := #[s, x], argTypes := #[t, t] })
    (ht : P.underlying t = some (.slice e)) (hinfo : (P.info? e).map (fun i => (i.zero, i.size, i.bytes)) = some (some z, size, bytes)) (hz : z.cells.size = size) (hs0 : 0 < size) (hb0 : 0 < bytes)
    (v : Value) (n : Nat) (xs : List Value) (hs : a.eval s = v) (ad : Addr) (m c : Nat) (news : List Value) (hx : a.eval x = .slice (some ad) m c) (hl : news.length = m * size) (hnews : ∀ j u, news[j]? = some u → w.cell? (ad.add j) = some u) (h1 : ∀ u ∈ news, u.oneCell' = true)
    (hg : Gr e size v n xs A) (hv : Hv w0 w (A ++ L)) (hb : (n + m) * bytes ≤ 140737488355328)
    (h : ∀ v1 w1 A1, Gr e size v1 (n + m) (xs ++ news) A1 → Hv w0 w1 (A1 ++ L) → K (a.put o.dst v1) w1) : if Region.wanted o (yielded ops a.tmps) = true then Oper.wp P o a w K Q else K (a.put o.dst undef) w := by
  obtain ⟨i0, hi, hzz⟩ := Option.map_eq_some_iff.1 hinfo
  simp only [Prod.mk.injEq] at hzz
  obtain ⟨hz0, hz1, hz2⟩ := hzz
  have hlen : n + m ≤ 140737488355328 := Nat.le_trans (Nat.le_mul_of_pos_right _ hb0) hb
  rw [if_pos hw]
  obtain ⟨v1, w1, hr, hown, hgr, _, hat⟩ := run_append_own_at (P := P) w w0.heap.size t o.type e i0 z size bytes ht hi hz0 hz1 hz2 hz hs0 v n xs (hg.owns hv) ad m c news hl hnews h1 (by simp only [maxLen]; omega) hb hv.bel.size
  obtain ⟨A1, hG, hH⟩ := hg.step hv hown hgr (hat.imp id (fun e => ⟨_, e, Nat.le_refl _⟩))
  unfold Oper.wp execOp
  simp only [ho, resolve, invoke, builtin, Sem.run_bind, Sem.run_pure, Result.andThen_ok, List.map_toArray, List.map_cons, List.map_nil, hs, hx, hr]
  exact h v1 w1 A1 hG hH
end
/-- A row that is read: its cells lie in one of the blocks. -/
def Rw (e size : Nat) (L : List Ob) (ad : Option Addr) (n c : Nat) (xs : List Value) : Prop :=
  xs.length = n * size ∧ n ≤ c ∧ (0 < n → ∃ g off cur, ad = some ⟨g, off, none⟩ ∧ cb g e cur ∈ L ∧ ∀ i, i < n * size → cur[off + i]? = xs[i]?)
namespace Rw
variable {e size n c : Nat} {L L' : List Ob} {ad : Option Addr} {xs : List Value} {w0 w : World}
theorem nil (e size : Nat) (L : List Ob) : Rw e size L none 0 0 [] := ⟨by simp, Nat.le_refl _, fun h => absurd h (Nat.lt_irrefl 0)⟩
theorem mono (h : Rw e size L ad n c xs) (hL : ∀ p ∈ L, p ∈ L') : Rw e size L' ad n c xs :=
  ⟨h.1, h.2.1, fun hn => by obtain ⟨g, off, cur, h1, h2, h3⟩ := h.2.2 hn; exact ⟨g, off, cur, h1, hL _ h2, h3⟩⟩
theorem left (h : Rw e size L ad n c xs) (R : List Ob) : Rw e size (L ++ R) ad n c xs := h.mono fun p hp => List.mem_append_left R hp
theorem right (h : Rw e size L ad n c xs) (R : List Ob) : Rw e size (R ++ L) ad n c xs := h.mono fun p hp => List.mem_append_right R hp
theorem of_gr {A : List Ob} (h : Gr e size (.slice ad n c) n xs A) : Rw e size A ad n c xs := by
  obtain ⟨ad', c', e1, hc⟩ := h.form
  simp only [Value.slice.injEq] at e1
  obtain ⟨rfl, _, rfl⟩ := e1
  refine ⟨h.1, hc, fun hn => ?_⟩
  obtain ⟨g, cur, rfl, rfl, _, _, _, h4⟩ := h.addr hn
  exact ⟨g, 0, cur, rfl, by simp, fun i hi => by rw [Nat.zero_add]; exact h4 i hi⟩
theorem cells (h : Rw e size L ad n c xs) (hv : Hv w0 w L) (hn : 0 < n) : ∃ a, ad = some a ∧ ∀ i u, xs[i]? = some u → w.cell? (a.add i) = some u := by
  obtain ⟨g, off, cur, rfl, h2, h3⟩ := h.2.2 hn
  refine ⟨_, rfl, fun i u hu => ?_⟩
  have hi : i < n * size := by rw [← h.1]; exact (List.getElem?_eq_some_iff.1 hu).1
  rw [add_at]
  exact hv.cell h2 (off + i) ((h3 i hi).trans hu)
/-- .. as cells by number. -/
theorem at_ (h : Rw e size L ad n c xs) (hv : Hv w0 w L) (hn : 0 < n) : ∃ g off, ad = some ⟨g, off, none⟩ ∧ (∀ i u, xs[i]? = some u → w.cell? ⟨g, off + i, none⟩ = some u) ∧ g < w.heap.size ∧ w0.heap.size ≤ g := by
  obtain ⟨g, off, cur, rfl, h2, h3⟩ := h.2.2 hn
  refine ⟨g, off, rfl, fun i u hu => ?_, hv.lt _ h2, hv.new _ h2⟩
  have hi : i < n * size := by rw [← h.1]; exact (List.getElem?_eq_some_iff.1 hu).1
  exact hv.cell h2 (off + i) ((h3 i hi).trans hu)
theorem take (h : Rw e size L ad n c xs) (k : Nat) (hk : k ≤ n) : Rw e size L ad k c (xs.take (k * size)) := by
  have hl : k * size ≤ n * size := Nat.mul_le_mul_right _ hk
  refine ⟨by rw [List.length_take, h.1]; omega, by have := h.2.1; omega, fun hn => ?_⟩
  obtain ⟨g, off, cur, h1, h2, h3⟩ := h.2.2 (by omega)
  exact ⟨g, off, cur, h1, h2, fun i hi => by rw [h3 i (by omega), List.getElem?_take, if_pos hi]⟩
theorem drop (h : Rw e size L ad n c xs) (k : Nat) (hk : k ≤ n) : Rw e size L (if c = k then ad else ad.map (·.add (k * size))) (n - k) (c - k) (xs.drop (k * size)) := by
  have hl : k * size ≤ n * size := Nat.mul_le_mul_right _ hk
  refine ⟨by rw [List.length_drop, h.1, Nat.sub_mul], by have := h.2.1; omega, fun hn => ?_⟩
  obtain ⟨g, off, cur, rfl, h2, h3⟩ := h.2.2 (by omega)
  have := h.2.1
  rw [if_neg (by omega)]
  refine ⟨g, off + k * size, cur, by rw [Option.map_some, add_at], h2, fun i hi => ?_⟩
  rw [Nat.sub_mul] at hi
  rw [List.getElem?_drop, ← h3 (k * size + i) (by omega), Nat.add_assoc]
end Rw
/-- A row that reads so now, wherever it lies. -/
def Rd (size : Nat) (w : World) (ad : Option Addr) (n : Nat) (xs : List Value) : Prop :=
  xs.length = n * size ∧ (0 < n → ∃ a, ad = some a ∧ ∀ i u, xs[i]? = some u → w.cell? (a.add i) = some u)
theorem Rw.rd {e size n c : Nat} {L : List Ob} {ad : Option Addr} {xs : List Value} {w0 w : World} (h : Rw e size L ad n c xs) (hv : Hv w0 w L) : Rd size w ad n xs := ⟨h.1, fun hn => h.cells hv hn⟩
theorem Rd.below {size n : Nat} {ad : Option Addr} {xs : List Value} {w w1 : World} (h : Rd size w ad n xs) (hb : Below w.heap.size w w1) : Rd size w1 ad n xs :=
  ⟨h.1, fun hn => by obtain ⟨a, h1, h2⟩ := h.2 hn; exact ⟨a, h1, fun i u hu => pw_cell_below hb (h2 i u hu)⟩⟩
theorem Rd.of_C {α : Type} {d : Kd α} {w : World} {A : Option Addr} {n : Nat} {xs : List α} (en : α → List Value) (hen : ∀ w x cs, d.K w x cs → cs = en x) (hl : ∀ x, (en x).length = d.sz) (h : d.C w A n xs) : Rd d.sz w A n (xs.flatMap en) := by
  have key : ∀ (l : List α), (l.flatMap en).length = l.length * d.sz := fun l => by
    induction l with
    | nil => simp
    | cons a l ih => rw [List.flatMap_cons, List.length_append, hl, ih, List.length_cons, Nat.succ_mul, Nat.add_comm]
  have get : ∀ (l : List α) (j : Nat) (i : Nat) (u : Value), (l.flatMap en)[i]? = some u → ∃ p, l[i / d.sz]? = some p ∧ (en p)[i % d.sz]? = some u := fun l => by
    induction l with
    | nil => intro j i u hu; simp at hu
    | cons a l ih =>
      intro j i u hu
      rw [List.flatMap_cons] at hu
      have hp : 0 < d.sz ∨ d.sz = 0 := by omega
      rcases Nat.lt_or_ge i (en a).length with hlt | hge
      · rw [List.getElem?_append_left hlt] at hu
        rw [hl] at hlt
        exact ⟨a, by rw [Nat.div_eq_of_lt hlt]; rfl, by rw [Nat.mod_eq_of_lt hlt]; exact hu⟩
      · rw [List.getElem?_append_right hge, hl] at hu
        rw [hl] at hge
        obtain ⟨p, h1, h2⟩ := ih j (i - d.sz) u hu
        have hp : 0 < d.sz := by
          rcases Nat.eq_zero_or_pos d.sz with h0 | h0
          · have := (List.getElem?_eq_some_iff.1 h2).1
            rw [hl, h0] at this
            omega
          · exact h0
        refine ⟨p, ?_, ?_⟩
        · rw [Nat.div_eq_sub_div hp hge]
          exact h1
        · rw [Nat.mod_eq_sub_mod hge]
          exact h2
  refine ⟨by rw [key, h.1], fun hn => ?_⟩
  obtain ⟨ad, e, hc⟩ := h.2.2 hn
  refine ⟨ad, e, fun i u hu => ?_⟩
  obtain ⟨p, h1, h2⟩ := get xs 0 i u hu
  obtain ⟨cs, _, h3, h4⟩ := hc _ p h1
  have h5 : cs = en p := hen _ _ _ h3
  subst h5
  have := h4 _ u h2
  rwa [show i / d.sz * d.sz + i % d.sz = i by rw [Nat.mul_comm]; exact Nat.div_add_mod i d.sz] at this
/-- The cell behind another one of an element, as the walk spells it. -/
theorem add_next (a : Addr) (m j : Nat) (hj : 0 < j) : a.add (m + j) = ⟨(a.add m).block, (a.add m).off + j, none⟩ := by
  rw [← Go.Deep.add_add]
  unfold Addr.add
  rw [if_neg (by omega : ¬ j = 0)]
theorem Rd.nil (size : Nat) (w : World) (ad : Option Addr) : Rd size w ad 0 [] := ⟨by simp, fun h => absurd h (Nat.lt_irrefl 0)⟩
section
variable {P : Program} {ops : Array Oper} {rest : List Oper} {o : Oper} {a : Act} {Q : Exit → Act → World → Prop} {K : Act → World → Prop} {w0 w : World} {L A : List Ob}
/-- append(v, news...), the new ones read somewhere (or none). -/
theorem append_run (t ty e : TypeId) (z : Value) (size bytes : Nat) (ht : P.underlying t = some (.slice e)) (hinfo : (P.info? e).map (fun i => (i.zero, i.size, i.bytes)) = some (some z, size, bytes)) (hz : z.cells.size = size) (hs0 : 0 < size) (hb0 : 0 < bytes)
    (v : Value) (n : Nat) (xs : List Value) (ad : Option Addr) (m c : Nat) (news : List Value) (h1 : ∀ u ∈ news, u.oneCell' = true)
    (hg : Gr e size v n xs A) (hv : Hv w0 w (A ++ L)) (hr : Rd size w ad m news) (hb : (n + m) * bytes ≤ 140737488355328) :
    ∃ v1 w1 A1, (Builtin.append_ #[t, t] ty #[v, .slice ad m c]).run P w = .ok v1 w1 ∧ Gr e size v1 (n + m) (xs ++ news) A1 ∧ Hv w0 w1 (A1 ++ L) := by
  obtain ⟨i0, hi, hzz⟩ := Option.map_eq_some_iff.1 hinfo
  simp only [Prod.mk.injEq] at hzz
  obtain ⟨hz0, hz1, hz2⟩ := hzz
  have hlen : n + m ≤ 140737488355328 := Nat.le_trans (Nat.le_mul_of_pos_right _ hb0) hb
  cases ad with
  | none =>
    have h0 : m = 0 := by
      rcases Nat.eq_zero_or_pos m with h0 | h0
      · exact h0
      · obtain ⟨a, h, _⟩ := hr.2 h0
        cases h
    subst h0
    obtain rfl : news = [] := List.eq_nil_of_length_eq_zero (by rw [hr.1, Nat.zero_mul])
    refine ⟨v, w, A, ?_, by rw [List.append_nil]; exact hg, hv⟩
    rcases hg.2 with ⟨rfl, rfl, _⟩ | ⟨g, cap, cur, rfl, _, hnc, _⟩
    · simp [Builtin.append_, run_underlying ht, sizeOf, typeInfo, hi, Builtin.lenOf, Builtin.firstCells]
    · simp [Builtin.append_, run_underlying ht, sizeOf, typeInfo, hi, Builtin.lenOf, Builtin.firstCells, hnc, storeCells]
  | some a =>
    have hnews : ∀ j u, news[j]? = some u → w.cell? (a.add j) = some u := fun j u hu => by
      have hlt := (List.getElem?_eq_some_iff.1 hu).1
      rw [hr.1] at hlt
      obtain ⟨a', e1, h2⟩ := hr.2 (Nat.pos_of_ne_zero (fun h0 => by rw [h0, Nat.zero_mul] at hlt; exact absurd hlt (Nat.not_lt_zero _)))
      cases e1
      exact h2 j u hu
    obtain ⟨v1, w1, hrun, hown, hgr, _, hat⟩ := run_append_own_at (P := P) w w0.heap.size t ty e i0 z size bytes ht hi hz0 hz1 hz2 hz hs0 v n xs (hg.owns hv) a m c news hr.1 hnews h1 (by simp only [maxLen]; omega) hb hv.bel.size
    obtain ⟨A1, hG, hH⟩ := hg.step hv hown hgr (hat.imp id (fun e => ⟨_, e, Nat.le_refl _⟩))
    exact ⟨v1, w1, A1, hrun, hG, hH⟩
theorem append_rows (hgd : o.guard = none) (s x : Operand) (t e : TypeId) (z : Value) (size bytes : Nat)
    (ho : o.op = .call { callee := .builtin .append, args := #[s, x], argTypes := #[t, t] })
    (ht : P.underlying t = some (.slice e)) (hinfo : (P.info? e).map (fun i => (i.zero, i.size, i.bytes)) = some (some z, size, bytes)) (hz : z.cells.size = size) (hs0 : 0 < size) (hb0 : 0 < bytes)
    (v : Value) (n : Nat) (xs : List Value) (hs : a.eval s = v) (ad : Option Addr) (m c : Nat) (news : List Value) (hx : a.eval x = .slice ad m c) (h1 : ∀ u ∈ news, u.oneCell' = true)
    (hg : Gr e size v n xs A) (hv : Hv w0 w (A ++ L)) (hr : Rd size w ad m news) (hb : (n + m) * bytes ≤ 140737488355328)
    (h : ∀ v1 w1 A1, Gr e size v1 (n + m) (xs ++ news) A1 → Hv w0 w1 (A1 ++ L) → wpList P ops Q rest (a.put o.dst v1) w1) : wpList P ops Q (o :: rest) a w := by
  obtain ⟨v1, w1, A1, hrun, hG, hH⟩ := append_run (P := P) t o.type e z size bytes ht hinfo hz hs0 hb0 v n xs ad m c news h1 hg hv hr hb
  refine wpList_plain hgd fun K hK => ?_
  unfold Oper.wp execOp
  simp only [ho, resolve, invoke, builtin, Sem.run_bind, Sem.run_pure, Result.andThen_ok, List.map_toArray, List.map_cons, List.map_nil, hs, hx, hrun]
  exact hK _ _ (h v1 w1 A1 hG hH)
theorem append_rows_step (hw : Region.wanted o (yielded ops a.tmps) = true) (s x : Operand) (t e : TypeId) (z : Value) (size bytes : Nat)
    (ho : o.op = .call { callee := .builtin .append, args := #[s, x], argTypes := #[t, t] })
    (ht : P.underlying t = some (.slice e)) (hinfo : (P.info? e).map (fun i => (i.zero, i.size, i.bytes)) = some (some z, size, bytes)) (hz : z.cells.size = size) (hs0 : 0 < size) (hb0 : 0 < bytes)
    (v : Value) (n : Nat) (xs : List Value) (hs : a.eval s = v) (ad : Option Addr) (m c : Nat) (news : List Value) (hx : a.eval x = .slice ad m c) (h1 : ∀ u ∈ news, u.oneCell' = true)
    (hg : Gr e size v n xs A) (hv : Hv w0 w (A ++ L)) (hr : Rd size w ad m news) (hb : (n + m) * bytes ≤ 140737488355328)
    (h : ∀ v1 w1 A1, Gr e size v1 (n + m) (xs ++ news) A1 → Hv w0 w1 (A1 ++ L) → K (a.put o.dst v1) w1) : if Region.wanted o (yielded ops a.tmps) = true then Oper.wp P o a w K Q else K (a.put o.dst undef) w := by
  obtain ⟨v1, w1, A1, hrun, hG, hH⟩ := append_run (P := P) t o.type e z size bytes ht hinfo hz hs0 hb0 v n xs ad m c news h1 hg hv hr hb
  rw [if_pos hw]
  unfold Oper.wp execOp
  simp only [ho, resolve, invoke, builtin, Sem.run_bind, Sem.run_pure, Result.andThen_ok, List.map_toArray, List.map_cons, List.map_nil, hs, hx, hrun]
  exact h v1 w1 A1 hG hH
end
theorem Hv.rot2 {w0 w : World} {a b : Ob} {B L : List Ob} (h : Hv w0 w (a :: b :: (B ++ L))) : Hv w0 w (B ++ (a :: b :: L)) :=
  h.perm ((List.perm_middle.trans (List.Perm.cons _ List.perm_middle)))
theorem Hv.unrot2 {w0 w : World} {a b : Ob} {B L : List Ob} (h : Hv w0 w (B ++ (a :: b :: L))) : Hv w0 w (a :: b :: (B ++ L)) :=
  h.perm ((List.perm_middle.trans (List.Perm.cons _ List.perm_middle))).symm
theorem Hv.cellM {w0 w : World} {A L : List Ob} {g t : Nat} {cs : Array Value} (h : Hv w0 w (A ++ (cb g t cs :: L))) (i : Nat) {v : Value} (hv : cs[i]? = some v) : w.cell? ⟨g, i, none⟩ = some v := h.cell (List.mem_append_right A List.mem_cons_self) i hv
theorem Hv.frozenM {w0 w : World} {A L : List Ob} {g t : Nat} {cs : Array Value} (h : Hv w0 w (A ++ (cb g t cs :: L))) (i : Nat) : w.frozen? ⟨g, i, none⟩ = false := h.frozen (List.mem_append_right A List.mem_cons_self) i
/-- What a call laid, beside what was there. -/
theorem Hv.join {w0 w w1 : World} {L A : List Ob} (h : Hv w0 w L) (k : Hv w w1 A) : Hv w0 w1 (A ++ L) := by
  have h1 := h.call k.bel
  refine ⟨h1.bel, fun p hp => ?_, fun p hp => ?_, ?_⟩
  · rcases List.mem_append.1 hp with hp | hp
    · exact k.box p hp
    · exact h1.box p hp
  · rcases List.mem_append.1 hp with hp | hp
    · exact Nat.le_trans h.bel.size (k.new p hp)
    · exact h1.new p hp
  · rw [List.map_append]
    refine List.nodup_append.2 ⟨k.nod, h1.nod, fun a ha b hb => ?_⟩
    obtain ⟨p, hp, rfl⟩ := List.mem_map.1 ha
    obtain ⟨q, hq, rfl⟩ := List.mem_map.1 hb
    have h2 := k.new p hp
    have h3 := h.lt q hq
    omega
/-- A slice that the walk appends to and cuts at its head (a queue). -/
def Gq (e size : Nat) (v : Value) (n : Nat) (xs : List Value) (A : List Ob) : Prop :=
  xs.length = n * size ∧ ((n = 0 ∧ ∃ ad, v = .slice ad 0 0 ∧ ((ad = none ∧ A = []) ∨ ∃ a cur, ad = some a ∧ A = [cb a.block e cur])) ∨
   ∃ g off cap cur, v = .slice (some ⟨g, off * size, none⟩) n cap ∧ A = [cb g e cur] ∧ n ≤ cap ∧ off + cap ≤ maxLen ∧ cur.size = (off + cap) * size ∧ (cur.toList.drop (off * size)).take (n * size) = xs)
namespace Gq
variable {w0 w w1 : World} {L A : List Ob} {e size n m : Nat} {v v1 : Value} {xs ys : List Value}
theorem nil (e size : Nat) : Gq e size (.slice none 0 0) 0 [] [] := ⟨by simp, .inl ⟨rfl, none, rfl, .inl ⟨rfl, rfl⟩⟩⟩
theorem owns (h : Gq e size v n xs A) (hv : Hv w0 w (A ++ L)) : QRow w w0.heap.size e size v n xs := by
  refine ⟨h.1, ?_⟩
  rcases h.2 with ⟨h1, ad, h2, h3⟩ | ⟨g, off, cap, cur, rfl, rfl, h3, h4, h5, h6⟩
  · refine .inl ⟨h1, ad, h2, fun a ha => ?_⟩
    rcases h3 with ⟨h3, _⟩ | ⟨a', cur, h3, rfl⟩
    · rw [h3] at ha; cases ha
    · rw [h3] at ha
      cases ha
      exact ⟨hv.new (cb a.block e cur) (by simp), cur, hv.box (cb a.block e cur) (by simp)⟩
  · exact .inr ⟨g, off, cap, cur, rfl, hv.new (cb g e cur) (by simp), hv.box (cb g e cur) (by simp), h3, h4, h5, h6⟩
theorem block (h : Gq e size v n xs A) (k : Nat) : v.ownBlock = some k ↔ ∃ o, (k, o) ∈ A := by
  rcases h.2 with ⟨h1, ad, rfl, h3⟩ | ⟨g, off, cap, cur, rfl, rfl, _⟩
  · rcases h3 with ⟨rfl, rfl⟩ | ⟨a', cur, rfl, rfl⟩
    · simp [Value.ownBlock]
    · simp only [Value.ownBlock, Option.some.injEq, List.mem_singleton, Prod.mk.injEq]
      exact ⟨fun e => ⟨_, e.symm, rfl⟩, fun ⟨_, e, _⟩ => e.symm⟩
  · simp only [Value.ownBlock, Option.some.injEq, List.mem_singleton, Prod.mk.injEq]
    exact ⟨fun e => ⟨_, e.symm, rfl⟩, fun ⟨_, e, _⟩ => e.symm⟩
theorem step (h : Gq e size v n xs A) (hv : Hv w0 w (A ++ L)) (ho : QRow w1 w0.heap.size e size v1 m ys) (hg : w.grownBy w1 v.ownBlock) (hat : v1.ownBlock = v.ownBlock ∨ ∃ b, v1.ownBlock = some b ∧ w.heap.size ≤ b) :
    ∃ A', Gq e size v1 m ys A' ∧ Hv w0 w1 (A' ++ L) := by
  have hb : Below w0.heap.size w0 w1 := hv.bel.grown hg hv.bel.size (fun k hk => by
    obtain ⟨o, ho⟩ := (h.block k).1 hk
    exact hv.new (k, o) (by simp [ho]))
  have hL : ∀ p ∈ L, w1.heap[p.1]? = some p.2 := fun p hp => by
    refine blk_grown (hv.box p (by simp [hp])) hg (fun e1 => ?_)
    obtain ⟨o, ho⟩ := (h.block p.1).1 e1.symm
    have h2 := (List.nodup_append.1 (by simpa using hv.nod)).2.2 p.1 (List.mem_map.2 ⟨(p.1, o), ho, rfl⟩) p.1 (List.mem_map.2 ⟨p, hp, rfl⟩)
    exact h2 rfl
  have nL : ∀ p ∈ L, w0.heap.size ≤ p.1 := fun p hp => hv.new p (by simp [hp])
  have dL : (L.map (·.1)).Nodup := hv.right.nod
  have fin : ∀ (g : Nat) (cur : Array Value), v1.ownBlock = some g → w1.heap[g]? = some (.cells cur e (0, 0)) → w0.heap.size ≤ g → Hv w0 w1 ([cb g e cur] ++ L) := fun g cur hvo hh hge => by
    refine ⟨hb, ?_, ?_, ?_⟩
    · intro p hp
      rcases List.mem_cons.1 hp with rfl | hp
      · exact hh
      · exact hL p hp
    · intro p hp
      rcases List.mem_cons.1 hp with rfl | hp
      · exact hge
      · exact nL p hp
    · refine List.nodup_cons.2 ⟨fun hm => ?_, dL⟩
      obtain ⟨p, hp, e1⟩ := List.mem_map.1 hm
      have e2 : p.1 = g := e1
      rcases hat with hat | ⟨b, hat, hlt⟩
      · obtain ⟨o, ho⟩ := (h.block g).1 (by rw [← hat]; exact hvo)
        have h2 := (List.nodup_append.1 (by simpa using hv.nod)).2.2 g (List.mem_map.2 ⟨(g, o), ho, rfl⟩) g (List.mem_map.2 ⟨p, hp, e1⟩)
        exact h2 rfl
      · have h7 := hv.lt p (List.mem_append_right A (by simpa using hp))
        rw [hvo] at hat
        have h8 : g = b := by simpa using hat
        omega
  obtain ⟨h1, h2⟩ := ho
  rcases h2 with ⟨h2, ad, rfl, h3⟩ | ⟨g, off, cap, cur, rfl, hge, hh, h3, h4, h5, h6⟩
  · cases ad with
    | none => exact ⟨[], ⟨h1, .inl ⟨h2, none, rfl, .inl ⟨rfl, rfl⟩⟩⟩, hb, by simpa using hL, by simpa using nL, by simpa using dL⟩
    | some a =>
      obtain ⟨h4, cur, h5⟩ := h3 a rfl
      exact ⟨[cb a.block e cur], ⟨h1, .inl ⟨h2, some a, rfl, .inr ⟨a, cur, rfl, rfl⟩⟩⟩, fin _ _ rfl h5 h4⟩
  · exact ⟨[cb g e cur], ⟨h1, .inr ⟨g, off, cap, cur, rfl, rfl, h3, h4, h5, h6⟩⟩, fin _ _ rfl hh hge⟩
theorem form (h : Gq e size v n xs A) : ∃ ad c, v = .slice ad n c ∧ n ≤ c := by
  rcases h.2 with ⟨h1, ad, rfl, _⟩ | ⟨g, off, cap, cur, rfl, _, h3, _⟩
  · exact ⟨ad, 0, by rw [h1], by omega⟩
  · exact ⟨_, _, rfl, h3⟩
/-- The first ones are left off. -/
theorem drop {ad : Option Addr} {c : Nat} (h : Gq e size (.slice ad n c) n xs A) (k : Nat) (hk : k ≤ n) : Gq e size (.slice (if c = k then ad else ad.map (·.add (k * size))) (n - k) (c - k)) (n - k) (xs.drop (k * size)) A := by
  refine ⟨by rw [List.length_drop, h.1, Nat.sub_mul], ?_⟩
  rcases h.2 with ⟨h1, ad', h2, h3⟩ | ⟨g, off, cap, cur, h2, rfl, h3, h4, h5, h6⟩
  · simp only [Value.slice.injEq] at h2
    obtain ⟨rfl, _, rfl⟩ := h2
    have hk0 : k = 0 := by omega
    subst hk0
    exact .inl ⟨by omega, ad, by simp [h1], h3⟩
  · simp only [Value.slice.injEq] at h2
    obtain ⟨rfl, _, rfl⟩ := h2
    by_cases hck : c = k
    · have : n = k := by omega
      subst this
      rw [if_pos hck]
      refine .inl ⟨by omega, some ⟨g, off * size, none⟩, by simp [hck], .inr ⟨_, cur, rfl, rfl⟩⟩
    · rw [if_neg hck]
      refine .inr ⟨g, off + k, c - k, cur, ?_, rfl, by omega, by omega, by rw [h5]; congr 1; omega, ?_⟩
      · rw [Option.map_some, add_at, Nat.add_mul]
      · rw [← h6, List.drop_take, List.drop_drop, Nat.add_mul, Nat.sub_mul]
/-- Where the elements stand. -/
theorem addr {ad : Option Addr} {c : Nat} (h : Gq e size (.slice ad n c) n xs A) (hn : 0 < n) : ∃ g off cur, ad = some ⟨g, off * size, none⟩ ∧ A = [cb g e cur] ∧ n ≤ c ∧ ∀ i, i < n * size → cur[off * size + i]? = xs[i]? := by
  rcases h.2 with ⟨h1, _⟩ | ⟨g, off, cap, cur, h2, rfl, h3, h4, h5, h6⟩
  · omega
  · simp only [Value.slice.injEq] at h2
    obtain ⟨rfl, _, rfl⟩ := h2
    refine ⟨g, off, cur, rfl, rfl, h3, fun i hi => ?_⟩
    rw [← h6, List.getElem?_take, if_pos hi, List.getElem?_drop]
    simp
end Gq
theorem Gr.queue {e size n : Nat} {v : Value} {xs : List Value} {A : List Ob} (h : Gr e size v n xs A) : Gq e size v n xs A := by
  refine ⟨h.1, ?_⟩
  rcases h.2 with ⟨rfl, rfl, rfl⟩ | ⟨g, cap, cur, rfl, rfl, h3, h4, h5, h6⟩
  · exact .inl ⟨rfl, none, rfl, .inl ⟨rfl, rfl⟩⟩
  · exact .inr ⟨g, 0, cap, cur, by rw [Nat.zero_mul], rfl, h3, by omega, by rw [Nat.zero_add]; exact h5, by rw [Nat.zero_mul, List.drop_zero]; exact h6⟩
section
variable {P : Program} {ops : Array Oper} {rest : List Oper} {o : Oper} {a : Act} {Q : Exit → Act → World → Prop} {K : Act → World → Prop} {w0 w : World} {L A : List Ob}
/-- An append to a queue, at the operation. -/
theorem append_queue (hgd : o.guard = none) (s x : Operand) (t e : TypeId) (z : Value) (size bytes : Nat)
    (ho : o.op = .call { callee := .builtin .append, args := #[s, x], argTypes := #[t, t] })
    (ht : P.underlying t = some (.slice e)) (hinfo : (P.info? e).map (fun i => (i.zero, i.size, i.bytes)) = some (some z, size, bytes)) (hz : z.cells.size = size) (hs0 : 0 < size) (hb0 : 0 < bytes)
    (v : Value) (n : Nat) (xs : List Value) (hs : a.eval s = v) (ad : Addr) (m c : Nat) (news : List Value) (hx : a.eval x = .slice (some ad) m c) (hm : 0 < m) (hl : news.length = m * size) (hnews : ∀ j u, news[j]? = some u → w.cell? (ad.add j) = some u) (h1 : ∀ u ∈ news, u.oneCell' = true)
    (hg : Gq e size v n xs A) (hv : Hv w0 w (A ++ L)) (hb : (n + m) * bytes ≤ 140737488355328)
    (h : ∀ v1 w1 A1, Gq e size v1 (n + m) (xs ++ news) A1 → Hv w0 w1 (A1 ++ L) → wpList P ops Q rest (a.put o.dst v1) w1) : wpList P ops Q (o :: rest) a w := by
  obtain ⟨i0, hi, hzz⟩ := Option.map_eq_some_iff.1 hinfo
  simp only [Prod.mk.injEq] at hzz
  obtain ⟨hz0, hz1, hz2⟩ := hzz
  have hlen : n + m ≤ 140737488355328 := Nat.le_trans (Nat.le_mul_of_pos_right _ hb0) hb
  obtain ⟨v1, w1, hr, hown, hgr, hat⟩ := q_append (P := P) w w0.heap.size t o.type e i0 z size bytes ht hi hz0 hz1 hz2 hz hs0 v n xs (hg.owns hv) ad m c news hl hnews h1 hm (by simp only [maxLen]; omega) hb hv.bel.size
  obtain ⟨A1, hG, hH⟩ := hg.step hv hown hgr hat
  refine wpList_plain hgd fun K hK => ?_
  unfold Oper.wp execOp
  simp only [ho, resolve, invoke, builtin, Sem.run_bind, Sem.run_pure, Result.andThen_ok, List.map_toArray, List.map_cons, List.map_nil, hs, hx, hr]
  exact hK _ _ (h v1 w1 A1 hG hH)
end
/-- A block of few cells. -/
theorem Hv.c1 {w0 w : World} {L : List Ob} (h : Hv w0 w L) (g t : Nat) (a : Value) (hm : cb g t #[a] ∈ L) : w.cell? ⟨g, 0, none⟩ = some a ∧ w.frozen? ⟨g, 0, none⟩ = false :=
  ⟨h.cell hm 0 rfl, h.frozen hm 0⟩
theorem Hv.c2 {w0 w : World} {L : List Ob} (h : Hv w0 w L) (g t : Nat) (a b : Value) (hm : cb g t #[a, b] ∈ L) : w.cell? ⟨g, 0, none⟩ = some a ∧ w.cell? ⟨g, 1, none⟩ = some b ∧ w.frozen? ⟨g, 0, none⟩ = false ∧ w.frozen? ⟨g, 1, none⟩ = false :=
  ⟨h.cell hm 0 rfl, h.cell hm 1 rfl, h.frozen hm 0, h.frozen hm 1⟩
theorem Hv.c3 {w0 w : World} {L : List Ob} (h : Hv w0 w L) (g t : Nat) (a b c : Value) (hm : cb g t #[a, b, c] ∈ L) : w.cell? ⟨g, 0, none⟩ = some a ∧ w.cell? ⟨g, 1, none⟩ = some b ∧ w.cell? ⟨g, 2, none⟩ = some c ∧ w.frozen? ⟨g, 0, none⟩ = false ∧ w.frozen? ⟨g, 1, none⟩ = false ∧ w.frozen? ⟨g, 2, none⟩ = false :=
  ⟨h.cell hm 0 rfl, h.cell hm 1 rfl, h.cell hm 2 rfl, h.frozen hm 0, h.frozen hm 1, h.frozen hm 2⟩
theorem Hv.c4 {w0 w : World} {L : List Ob} (h : Hv w0 w L) (g t : Nat) (a b c d : Value) (hm : cb g t #[a, b, c, d] ∈ L) : w.cell? ⟨g, 0, none⟩ = some a ∧ w.cell? ⟨g, 1, none⟩ = some b ∧ w.cell? ⟨g, 2, none⟩ = some c ∧ w.cell? ⟨g, 3, none⟩ = some d ∧ w.frozen? ⟨g, 0, none⟩ = false ∧ w.frozen? ⟨g, 1, none⟩ = false ∧ w.frozen? ⟨g, 2, none⟩ = false ∧ w.frozen? ⟨g, 3, none⟩ = false :=
  ⟨h.cell hm 0 rfl, h.cell hm 1 rfl, h.cell hm 2 rfl, h.cell hm 3 rfl, h.frozen hm 0, h.frozen hm 1, h.frozen hm 2, h.frozen hm 3⟩
theorem Hv.c5 {w0 w : World} {L : List Ob} (h : Hv w0 w L) (g t : Nat) (a b c d e : Value) (hm : cb g t #[a, b, c, d, e] ∈ L) : w.cell? ⟨g, 0, none⟩ = some a ∧ w.cell? ⟨g, 1, none⟩ = some b ∧ w.cell? ⟨g, 2, none⟩ = some c ∧ w.cell? ⟨g, 3, none⟩ = some d ∧ w.cell? ⟨g, 4, none⟩ = some e ∧ w.frozen? ⟨g, 0, none⟩ = false ∧ w.frozen? ⟨g, 1, none⟩ = false ∧ w.frozen? ⟨g, 2, none⟩ = false ∧ w.frozen? ⟨g, 3, none⟩ = false ∧ w.frozen? ⟨g, 4, none⟩ = false :=
  ⟨h.cell hm 0 rfl, h.cell hm 1 rfl, h.cell hm 2 rfl, h.cell hm 3 rfl, h.cell hm 4 rfl, h.frozen hm 0, h.frozen hm 1, h.frozen hm 2, h.frozen hm 3, h.frozen hm 4⟩
/-- Blocks of one list are apart. -/
theorem Hv.neq3 {w0 w : World} {a b c : Ob} {L : List Ob} (h : Hv w0 w (a :: b :: c :: L)) : ¬ a.1 = b.1 ∧ ¬ a.1 = c.1 ∧ ¬ b.1 = a.1 ∧ ¬ b.1 = c.1 ∧ ¬ c.1 = a.1 ∧ ¬ c.1 = b.1 :=
  ⟨h.apart (i := 0) (j := 1) rfl rfl (by decide), h.apart (i := 0) (j := 2) rfl rfl (by decide), h.apart (i := 1) (j := 0) rfl rfl (by decide), h.apart (i := 1) (j := 2) rfl rfl (by decide), h.apart (i := 2) (j := 0) rfl rfl (by decide), h.apart (i := 2) (j := 1) rfl rfl (by decide)⟩
theorem Hv.neq4 {w0 w : World} {a b c d : Ob} {L : List Ob} (h : Hv w0 w (a :: b :: c :: d :: L)) : ¬ a.1 = b.1 ∧ ¬ a.1 = c.1 ∧ ¬ a.1 = d.1 ∧ ¬ b.1 = a.1 ∧ ¬ b.1 = c.1 ∧ ¬ b.1 = d.1 ∧ ¬ c.1 = a.1 ∧ ¬ c.1 = b.1 ∧ ¬ c.1 = d.1 ∧ ¬ d.1 = a.1 ∧ ¬ d.1 = b.1 ∧ ¬ d.1 = c.1 :=
  ⟨h.apart (i := 0) (j := 1) rfl rfl (by decide), h.apart (i := 0) (j := 2) rfl rfl (by decide), h.apart (i := 0) (j := 3) rfl rfl (by decide), h.apart (i := 1) (j := 0) rfl rfl (by decide), h.apart (i := 1) (j := 2) rfl rfl (by decide), h.apart (i := 1) (j := 3) rfl rfl (by decide), h.apart (i := 2) (j := 0) rfl rfl (by decide), h.apart (i := 2) (j := 1) rfl rfl (by decide), h.apart (i := 2) (j := 3) rfl rfl (by decide), h.apart (i := 3) (j := 0) rfl rfl (by decide), h.apart (i := 3) (j := 1) rfl rfl (by decide), h.apart (i := 3) (j := 2) rfl rfl (by decide)⟩
theorem Hv.neq5 {w0 w : World} {a b c d e : Ob} {L : List Ob} (h : Hv w0 w (a :: b :: c :: d :: e :: L)) : ¬ a.1 = b.1 ∧ ¬ a.1 = c.1 ∧ ¬ a.1 = d.1 ∧ ¬ a.1 = e.1 ∧ ¬ b.1 = a.1 ∧ ¬ b.1 = c.1 ∧ ¬ b.1 = d.1 ∧ ¬ b.1 = e.1 ∧ ¬ c.1 = a.1 ∧ ¬ c.1 = b.1 ∧ ¬ c.1 = d.1 ∧ ¬ c.1 = e.1 ∧ ¬ d.1 = a.1 ∧ ¬ d.1 = b.1 ∧ ¬ d.1 = c.1 ∧ ¬ d.1 = e.1 ∧ ¬ e.1 = a.1 ∧ ¬ e.1 = b.1 ∧ ¬ e.1 = c.1 ∧ ¬ e.1 = d.1 :=
  ⟨h.apart (i := 0) (j := 1) rfl rfl (by decide), h.apart (i := 0) (j := 2) rfl rfl (by decide), h.apart (i := 0) (j := 3) rfl rfl (by decide), h.apart (i := 0) (j := 4) rfl rfl (by decide), h.apart (i := 1) (j := 0) rfl rfl (by decide), h.apart (i := 1) (j := 2) rfl rfl (by decide), h.apart (i := 1) (j := 3) rfl rfl (by decide), h.apart (i := 1) (j := 4) rfl rfl (by decide), h.apart (i := 2) (j := 0) rfl rfl (by decide), h.apart (i := 2) (j := 1) rfl rfl (by decide), h.apart (i := 2) (j := 3) rfl rfl (by decide), h.apart (i := 2) (j := 4) rfl rfl (by decide), h.apart (i := 3) (j := 0) rfl rfl (by decide), h.apart (i := 3) (j := 1) rfl rfl (by decide), h.apart (i := 3) (j := 2) rfl rfl (by decide), h.apart (i := 3) (j := 4) rfl rfl (by decide), h.apart (i := 4) (j := 0) rfl rfl (by decide), h.apart (i := 4) (j := 1) rfl rfl (by decide), h.apart (i := 4) (j := 2) rfl rfl (by decide), h.apart (i := 4) (j := 3) rfl rfl (by decide)⟩
theorem Hv.neq6 {w0 w : World} {a b c d e f : Ob} {L : List Ob} (h : Hv w0 w (a :: b :: c :: d :: e :: f :: L)) : ¬ a.1 = b.1 ∧ ¬ a.1 = c.1 ∧ ¬ a.1 = d.1 ∧ ¬ a.1 = e.1 ∧ ¬ a.1 = f.1 ∧ ¬ b.1 = a.1 ∧ ¬ b.1 = c.1 ∧ ¬ b.1 = d.1 ∧ ¬ b.1 = e.1 ∧ ¬ b.1 = f.1 ∧ ¬ c.1 = a.1 ∧ ¬ c.1 = b.1 ∧ ¬ c.1 = d.1 ∧ ¬ c.1 = e.1 ∧ ¬ c.1 = f.1 ∧ ¬ d.1 = a.1 ∧ ¬ d.1 = b.1 ∧ ¬ d.1 = c.1 ∧ ¬ d.1 = e.1 ∧ ¬ d.1 = f.1 ∧ ¬ e.1 = a.1 ∧ ¬ e.1 = b.1 ∧ ¬ e.1 = c.1 ∧ ¬ e.1 = d.1 ∧ ¬ e.1 = f.1 ∧ ¬ f.1 = a.1 ∧ ¬ f.1 = b.1 ∧ ¬ f.1 = c.1 ∧ ¬ f.1 = d.1 ∧ ¬ f.1 = e.1 :=
  ⟨h.apart (i := 0) (j := 1) rfl rfl (by decide), h.apart (i := 0) (j := 2) rfl rfl (by decide), h.apart (i := 0) (j := 3) rfl rfl (by decide), h.apart (i := 0) (j := 4) rfl rfl (by decide), h.apart (i := 0) (j := 5) rfl rfl (by decide), h.apart (i := 1) (j := 0) rfl rfl (by decide), h.apart (i := 1) (j := 2) rfl rfl (by decide), h.apart (i := 1) (j := 3) rfl rfl (by decide), h.apart (i := 1) (j := 4) rfl rfl (by decide), h.apart (i := 1) (j := 5) rfl rfl (by decide), h.apart (i := 2) (j := 0) rfl rfl (by decide), h.apart (i := 2) (j := 1) rfl rfl (by decide), h.apart (i := 2) (j := 3) rfl rfl (by decide), h.apart (i := 2) (j := 4) rfl rfl (by decide), h.apart (i := 2) (j := 5) rfl rfl (by decide), h.apart (i := 3) (j := 0) rfl rfl (by decide), h.apart (i := 3) (j := 1) rfl rfl (by decide), h.apart (i := 3) (j := 2) rfl rfl (by decide), h.apart (i := 3) (j := 4) rfl rfl (by decide), h.apart (i := 3) (j := 5) rfl rfl (by decide), h.apart (i := 4) (j := 0) rfl rfl (by decide), h.apart (i := 4) (j := 1) rfl rfl (by decide), h.apart (i := 4) (j := 2) rfl rfl (by decide), h.apart (i := 4) (j := 3) rfl rfl (by decide), h.apart (i := 4) (j := 5) rfl rfl (by decide), h.apart (i := 5) (j := 0) rfl rfl (by decide), h.apart (i := 5) (j := 1) rfl rfl (by decide), h.apart (i := 5) (j := 2) rfl rfl (by decide), h.apart (i := 5) (j := 3) rfl rfl (by decide), h.apart (i := 5) (j := 4) rfl rfl (by decide)⟩
theorem Hv.nilR {w0 w : World} {A : List Ob} (h : Hv w0 w A) : Hv w0 w (A ++ []) := by rw [List.append_nil]; exact h
/-- What a block that was just laid holds. -/
theorem news_new (W : World) (cs : List Value) (t n : Nat) (hn : W.heap.size = n) : ∀ j u, cs[j]? = some u → (W.alloc (.cells cs.toArray t)).cell? ((⟨n, 0, none⟩ : Addr).add j) = some u := by
  subst hn
  simpa using World.news_of_block (cs := cs.toArray) (t := t) (fr := (0, 0)) (heap_alloc_new W (.cells cs.toArray t))
end Go.Proofs.Ytglbcfkmaamhaaa.Hv
