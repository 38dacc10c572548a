/- Boxes of a walk's own, and rows that are read beside them. No condition. -/
import Derived.Test.YtglbcfkmaamhaaaBWWords
import Derived.Test.YtglbcfkmaamhaaaBWMore
import Derived.Test.YtglbcfkmaamhaaaBWShare
import Derived.Test.YtglbcfkmaamhaaaBWFoot
namespace Go.Proofs.Ytglbcfkmaamhaaa.Stk
open Go Go.RowKit Go.Proofs.YtglbcfkmaamhaaaW.PrintWords
set_option linter.unusedVariables false
set_option linter.unusedSimpArgs false

abbrev Bx := Nat × Nat × Array Value
def Far (L : List Bx) (k : Nat) : Prop := ∀ p ∈ L, k ≠ p.1
/-- The boxes of L hold what L says; all lie behind w0; no box is twice. -/
structure St (w0 w : World) (L : List Bx) : Prop where
  bel : Below w0.heap.size w0 w
  box : ∀ p ∈ L, w.heap[p.1]? = some (.cells p.2.2 p.2.1 (0, 0))
  new : ∀ p ∈ L, w0.heap.size ≤ p.1
  nod : (L.map (·.1)).Nodup
namespace St
variable {w0 w w1 : World} {L L' : List Bx} {g t : Nat} {cs : Array Value}
theorem start (w : World) : St w w [] := ⟨Below.refl _ _, by simp, by simp, by simp⟩
theorem lt (h : St w0 w L) (p : Bx) (hp : p ∈ L) : p.1 < w.heap.size := blk_lt (h.box p hp)
theorem alloc (h : St w0 w L) (cs : Array Value) (t : Nat) : St w0 (w.alloc (.cells cs t)) ((w.heap.size, t, cs) :: L) := by
  refine ⟨below_alloc h.bel _, fun p hp => ?_, fun p hp => ?_, ?_⟩
  · rcases List.mem_cons.1 hp with rfl | hp
    · exact blk_new w _
    · exact blk_alloc (h.box p hp) _
  · rcases List.mem_cons.1 hp with rfl | hp
    · exact h.bel.size
    · exact h.new p hp
  · refine List.nodup_cons.2 ⟨fun hm => ?_, h.nod⟩
    obtain ⟨p, hp, e⟩ := List.mem_map.1 hm
    have h1 := h.lt p hp
    have e' : p.1 = w.heap.size := e
    omega
theorem put (h : St w0 w ((g, t, cs) :: L)) (i : Nat) (u : Value) : St w0 (w.setCell ⟨g, i, none⟩ u) ((g, t, cs.setIfInBounds i u) :: L) := by
  have hn := List.nodup_cons.1 h.nod
  refine ⟨h.bel.setCell (h.new (g, t, cs) (by simp)) _, fun p hp => ?_, fun p hp => ?_, h.nod⟩
  · rcases List.mem_cons.1 hp with rfl | hp
    · exact blk_put (h.box (g, t, cs) (by simp)) i u rfl
    · exact blk_far (h.box p (List.mem_cons_of_mem _ hp)) (fun e => hn.1 (List.mem_map.2 ⟨p, hp, show p.1 = g from e⟩)) u
  · rcases List.mem_cons.1 hp with rfl | hp
    · exact h.new (g, t, cs) (by simp)
    · exact h.new p (List.mem_cons_of_mem _ hp)
theorem perm (h : St w0 w L) (hp : L'.Perm L) : St w0 w L' :=
  ⟨h.bel, fun p hm => h.box p (hp.mem_iff.1 hm), fun p hm => h.new p (hp.mem_iff.1 hm), (hp.map _).nodup_iff.2 h.nod⟩
theorem call (h : St w0 w L) (hb : Below w.heap.size w w1) : St w0 w1 L :=
  ⟨h.bel.trans (hb.mono h.bel.size), fun p hp => blk_below (h.box p hp) hb, h.new, h.nod⟩
theorem drew (h : St w0 w L) : St w0 w.drew L := ⟨below_drew1 h.bel, fun p hp => blk_drew (h.box p hp), h.new, h.nod⟩
theorem drewN (h : St w0 w L) (n : Nat) : St w0 (w.drewN n) L := ⟨pw_below_drewN h.bel n, fun p hp => blk_drewN (h.box p hp) n, h.new, h.nod⟩
theorem drop (h : St w0 w L) (hs : L'.Sublist L) : St w0 w L' := ⟨h.bel, fun p hp => h.box p (hs.mem hp), fun p hp => h.new p (hs.mem hp), h.nod.sublist (hs.map _)⟩
theorem cell (h : St w0 w L) (hm : (g, t, cs) ∈ L) (i : Nat) {v : Value} (hv : cs[i]? = some v) : w.cell? ⟨g, i, none⟩ = some v := (blk_cell (h.box _ hm) i).trans hv
theorem frozen (h : St w0 w L) (hm : (g, t, cs) ∈ L) (i : Nat) : w.frozen? ⟨g, i, none⟩ = false := blk_frozen (h.box _ hm) i
theorem ne (h : St w0 w L) (hm : (g, t, cs) ∈ L) : ¬ g = w.heap.size := by have := h.lt _ hm; exact Nat.ne_of_lt this
theorem far (h : St w0 w L) (k : Nat) (hk : w.heap.size ≤ k) : Far L k := fun p hp e => by have := h.lt p hp; omega
end St
/-- A row that is read; it lies in none of the boxes. -/
def Sl {α : Type} (d : Kd α) (e : Nat) (w : World) (L : List Bx) (v : Value) (xs : List α) : Prop := Kd.V d e w 0 (Far L) v xs
namespace Sl
variable {α : Type} {d : Kd α} {e base : Nat} {w0 w w1 : World} {L L' : List Bx} {v : Value} {xs : List α} {g t : Nat} {cs : Array Value} {ok : Nat → Prop}
theorem nil (d : Kd α) (e : Nat) (w : World) (L : List Bx) : Sl d e w L (.slice none 0 0) [] := Kd.V_nil _ _ _ _ _
theorem came (hd : Kd.Heap d) {A : Option Addr} {c : Nat} (hC : d.C w A xs.length xs) (hc : xs.length ≤ c) : Sl d e w [] (.slice A xs.length c) xs := Kd.V_mk hc (Kd.F_mono (Kd.C_F hd hC) (fun _ _ => by intro p hp; simp at hp))
theorem ofV (h : d.V e w base ok v xs) (hok : ∀ k, ok k → Far L k) : Sl d e w L v xs := Kd.V_lower (Kd.V_mono h hok) (Nat.zero_le _)
/-- What a call hands back: what it was given, or new. -/
theorem ofV2 (hs : St w0 w L) (h : d.V e w1 base (fun k => (Far L k ∨ Far L k) ∨ w.heap.size ≤ k) v xs) : Sl d e w1 L v xs := ofV h (fun k hk => hk.elim (fun h => h.elim id id) (hs.far k))
theorem ofR (hs : St w0 w L) (h : d.R e w1 w.heap.size ok v xs) : Sl d e w1 L v xs := by
  have h1 := Kd.R_mono (Kd.R_bound h) (fun k hk => hk.2.1)
  exact ofV (Kd.R_V (base' := 0) h1) (hs.far)
theorem call (h : Sl d e w L v xs) (hb : Below w.heap.size w w1) : Sl d e w1 L v xs := Kd.V_below h hb
theorem alloc (h : Sl d e w L v xs) (cs : Array Value) (t : Nat) : Sl d e (w.alloc (.cells cs t)) ((w.heap.size, t, cs) :: L) v xs :=
  Kd.V_alloc (Kd.V_mono (Kd.V_bound h) (fun k hk p hp => by
    rcases List.mem_cons.1 hp with rfl | hp
    · exact Nat.ne_of_lt hk.2
    · exact hk.1 p hp)) _
theorem put (h : Sl d e w ((g, t, cs) :: L) v xs) (i : Nat) (u : Value) : Sl d e (w.setCell ⟨g, i, none⟩ u) ((g, t, cs.setIfInBounds i u) :: L) v xs := by
  have h1 := Kd.V_far (p := ⟨g, i, none⟩) h (fun k hk => hk (g, t, cs) (by simp)) u
  exact Kd.V_mono h1 (fun k hk p hp => by
    rcases List.mem_cons.1 hp with rfl | hp
    · exact hk (g, t, cs) (by simp)
    · exact hk p (List.mem_cons_of_mem _ hp))
theorem perm (h : Sl d e w L v xs) (hp : L'.Perm L) : Sl d e w L' v xs := Kd.V_mono h (fun k hk p hm => hk p (hp.mem_iff.1 hm))
theorem drop (h : Sl d e w L v xs) (hs : L'.Sublist L) : Sl d e w L' v xs := Kd.V_mono h (fun k hk p hm => hk p (hs.mem hm))
theorem drew (h : Sl d e w L v xs) : Sl d e w.drew L v xs := Kd.V_drew h
theorem drewN (h : Sl d e w L v xs) (n : Nat) : Sl d e (w.drewN n) L v xs := Kd.V_drewN h n
theorem form (h : Sl d e w L v xs) : ∃ A c, v = .slice A xs.length c := Kd.V_slice h
theorem reads {A : Option Addr} {n c : Nat} (h : Sl d e w L (.slice A n c) xs) : n = xs.length ∧ n ≤ c ∧ d.C w A xs.length xs := Kd.V_reads' h
theorem C {A : Option Addr} {n c : Nat} (h : Sl d e w L (.slice A n c) xs) : d.C w A xs.length xs := (Kd.V_reads' h).2.2
theorem le {A : Option Addr} {n c : Nat} (h : Sl d e w L (.slice A n c) xs) : n ≤ c := (Kd.V_reads' h).2.1
end Sl
end Go.Proofs.Ytglbcfkmaamhaaa.Stk

