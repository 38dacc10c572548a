/- A text of this claim: parts WApart WArr WZeros WFoot WKept WShare WN WNEv WMore Hv Arm. No condition. -/
import Derived.Test.YtglbcfkmaamhaaaJG0
import Derived.ChangeMaps5
import Derived.Maps.AppendAt
import Derived.Deep.Slices
import Derived.Laws.MakeOwn
set_option linter.unusedVariables false
set_option linter.unusedSimpArgs false
set_option maxHeartbeats 16000000
set_option maxRecDepth 100000
section
namespace Go.Proofs.YtglbcfkmaamhaaaW.PrintWords
open Go.RowKit
namespace Kd
def tag {α : Type} (f : Nat → Nat) (d : Kd α) : Kd (α × Nat) where
 sz := d.sz
 E := d.E
 K := fun w x cs => d.K w x.1 cs
 M := fun w base ok x cs => d.M w base (fun k => ok k ∧ f k = x.2) x.1 cs
 K_len := fun h => d.K_len h
 K_one := fun h => d.K_one h
 K_below := fun hb h => d.K_below hb h
 K_of_M := fun h => d.K_of_M h
 M_mono := fun hok h => d.M_mono (fun k hk => ⟨hok k hk.1, hk.2⟩) h
 M_bound := fun h => d.M_mono (fun _ hk => ⟨⟨hk.1.1, hk.2⟩, hk.1.2⟩) (d.M_bound h)
 M_move := fun hm h => d.M_move (fun k hk => hm k hk.1) h
 M_lower := fun hb h => d.M_lower hb h
def bare {α : Type} (d : Kd α) : Kd α where
 sz := d.sz
 E := d.E
 K := d.K
 M := fun w base _ x cs => d.M w base (fun _ => False) x cs
 K_len := fun h => d.K_len h
 K_one := fun h => d.K_one h
 K_below := fun hb h => d.K_below hb h
 K_of_M := fun h => d.K_of_M h
 M_mono := fun _ h => h
 M_bound := fun h => h
 M_move := fun _ h => d.M_move (fun _ hk => hk.elim) h
 M_lower := fun hb h => d.M_lower hb h
def raw (sz : Nat) : Kd (List Value) where
 sz := sz
 E := []
 K := fun _ x cs => cs = x ∧ cs.length = sz ∧ ∀ u ∈ cs, u.oneCell' = true
 M := fun _ _ _ x cs => cs = x ∧ cs.length = sz ∧ ∀ u ∈ cs, u.oneCell' = true
 K_len := fun h => h.2.1
 K_one := fun h => h.2.2
 K_below := fun _ h => h
 K_of_M := fun h => h
 M_mono := fun _ h => h
 M_bound := fun h => h
 M_move := fun _ h => h
 M_lower := fun _ h => h
def S {α : Type} (d : Kd α) (e : Nat) (w : World) (base : Nat) (ok : Nat → Prop) (v : Value) (xs : List α) : Prop := ∃ f, (tag f d).R e w base ok v xs.zipIdx
section
variable {α β : Type} {d : Kd α} {d' : Kd β} {e e' : Nat} {w w1 W : World} {base b : Nat} {ok ok' okv oku : Nat → Prop} {u v : Value} {xs : List α} {ys : List β}
end
section
variable {α β : Type} {d : Kd α} {d' : Kd β} {e e' g : Nat} {w w1 W : World} {base b : Nat} {ok ok' okv oku : Nat → Prop} {u v : Value} {xs : List α} {ys : List β}
end
section
variable {P : Program} {ops : Array Oper} {rest : List Oper} {o : Oper} {a : Act} {Q : Exit → Act → World → Prop} {Kc : Act → World → Prop} {α : Type}
end
def gap {α : Type} (f : Nat → Nat) (d : Kd α) (i : Nat) (c : List Value) : Kd (α × Nat) where
 sz := d.sz
 E := d.E
 K := fun w x cs => (x.2 = i → cs = c ∧ cs.length = d.sz ∧ ∀ u ∈ cs, u.oneCell' = true) ∧ (x.2 ≠ i → d.K w x.1 cs)
 M := fun w base ok x cs => (x.2 = i → cs = c ∧ cs.length = d.sz ∧ ∀ u ∈ cs, u.oneCell' = true) ∧ (x.2 ≠ i → d.M w base (fun k => ok k ∧ f k = x.2) x.1 cs)
 K_len := fun {w x cs} h => by
  by_cases hx : x.2 = i
  ·exact (h.1 hx).2.1
  ·exact d.K_len (h.2 hx)
 K_one := fun {w x cs} h => by
  by_cases hx : x.2 = i
  ·exact (h.1 hx).2.2
  ·exact d.K_one (h.2 hx)
 K_below := fun hb h => ⟨h.1, fun hx => d.K_below hb (h.2 hx)⟩
 K_of_M := fun h => ⟨h.1, fun hx => d.K_of_M (h.2 hx)⟩
 M_mono := fun hok h => ⟨h.1, fun hx => d.M_mono (fun k hk => ⟨hok k hk.1, hk.2⟩) (h.2 hx)⟩
 M_bound := fun h => ⟨h.1, fun hx => d.M_mono (fun _ hk => ⟨⟨hk.1.1, hk.2⟩, hk.1.2⟩) (d.M_bound (h.2 hx))⟩
 M_move := fun hm h => ⟨h.1, fun hx => d.M_move (fun k hk => hm k hk.1) (h.2 hx)⟩
 M_lower := fun hb h => ⟨h.1, fun hx => d.M_lower hb (h.2 hx)⟩
def H {α : Type} (d : Kd α) (e : Nat) (w : World) (base : Nat) (ok : Nat → Prop) (v : Value) (xs : List α) (i : Int) (oki : Nat → Prop) (c : List Value) : Prop :=
 (∀ k, oki k → ok k) ∧ ∃ f, (gap f d i.toNat c).R e w base (fun k => ok k ∧ ¬ oki k) v xs.zipIdx
section
variable {α β : Type} {d : Kd α} {e e' g n cap : Nat} {w w1 W : World} {base : Nat} {ok ok' oki okp : Nat → Prop} {u v : Value} {xs : List α} {i : Int} {c : List Value}
end
section
variable {P : Program} {ops : Array Oper} {rest : List Oper} {o : Oper} {a : Act} {Q : Exit → Act → World → Prop} {α : Type}
end
end Kd
end Go.Proofs.YtglbcfkmaamhaaaW.PrintWords
end
section
namespace Go.Proofs.YtglbcfkmaamhaaaW.PrintWords
open Go.RowKit
namespace Kd
section
variable {α : Type} {n : Nat} {d : Kd α} {hs : 0 < d.sz} {w : World} {base : Nat} {ok : Nat → Prop} {xs : List α} {cs : List Value}
end
section
variable {α : Type} {n : Nat} {enc : α → Value} {h1 : ∀ x, (enc x).oneCell' = true} {hs : 0 < (scalar enc h1).sz} {w : World} {base : Nat} {ok : Nat → Prop} {xs : List α} {cs : List Value}
end
end Kd
end Go.Proofs.YtglbcfkmaamhaaaW.PrintWords
end
section
namespace Go.Proofs.YtglbcfkmaamhaaaW.PrintWords
open Go.RowKit
section
variable {P : Program}
end
namespace Kd
section
variable {P : Program} {ops : Array Oper} {rest : List Oper} {o : Oper} {a : Act} {Q : Exit → Act → World → Prop} {Kc : Act → World → Prop} {α : Type}
end
section
variable {α : Type} {d : Kd α} {e : Nat} {w : World} {base : Nat} {ok : Nat → Prop} {v : Value} {xs : List α}
end
section
variable {P : Program} {ops : Array Oper} {rest : List Oper} {o : Oper} {a : Act} {Q : Exit → Act → World → Prop} {Kc : Act → World → Prop} {α : Type}
end
end Kd
end Go.Proofs.YtglbcfkmaamhaaaW.PrintWords
end
section
namespace Go.Proofs.YtglbcfkmaamhaaaW.PrintWords
open Go.RowKit
namespace Kd
structure Heap {α : Type} (d : Kd α) : Prop where
 K : ∀ {w w1 : World} {x : α} {cs : List Value}, (∀ k, k < w.heap.size → w1.heap[k]? = w.heap[k]?) → d.K w x cs → d.K w1 x cs
theorem cell_heap {w w1 : World} (hb : ∀ k, k < w.heap.size → w1.heap[k]? = w.heap[k]?) {a : Addr} {v : Value} (h : w.cell? a = some v) : w1.cell? a = some v := by
 have := hb a.block (World.block_lt_of_cell? w a h)
 simpa [World.cell?, this] using h
theorem Heap.C {α : Type} {d : Kd α} (hd : Heap d) {w w1 : World} {A : Option Addr} {n : Nat} {xs : List α} (hb : ∀ k, k < w.heap.size → w1.heap[k]? = w.heap[k]?) (h : d.C w A n xs) : d.C w1 A n xs :=
 ⟨h.1, h.2.1, fun hn => by
  obtain ⟨ad, e, hc⟩ := h.2.2 hn
  refine ⟨ad, e, fun j p hj => ?_⟩
  obtain ⟨c, hs, hr, hcell⟩ := hc j p hj
  exact ⟨c, hs, hd.K hb hr, fun i u hu => cell_heap hb (hcell i u hu)⟩⟩
section
variable {α : Type} {d : Kd α} {e base g n c : Nat} {ok : Nat → Prop} {w w0 W : World} {A : Option Addr} {xs : List α}
end
end Kd
end Go.Proofs.YtglbcfkmaamhaaaW.PrintWords
end
section
namespace Go.Proofs.YtglbcfkmaamhaaaW.PrintWords
open Go.RowKit
def Kept (w W : World) (S : Nat → Prop) : Prop := w.heap.size ≤ W.heap.size ∧ ∀ i, i < w.heap.size → ¬ S i → W.heap[i]? = w.heap[i]?
section
variable {w W W2 : World} {S S2 S' : Nat → Prop}
theorem Kept.refl (w : World) (S : Nat → Prop) : Kept w w S := ⟨Nat.le_refl _, fun _ _ _ => rfl⟩
theorem Kept.of_below (h : Below w.heap.size w W) (S : Nat → Prop) : Kept w W S := ⟨h.size, fun i hi _ => h.block i hi⟩
theorem Kept.mono (h : Kept w W S) (hs : ∀ k, S k → S' k) : Kept w W S' := ⟨h.1, fun i hi hn => h.2 i hi (fun hk => hn (hs i hk))⟩
theorem Kept.then_ (h : Kept w W S) (k : Kept W W2 S2) (hs : ∀ k, S2 k → S k ∨ w.heap.size ≤ k) : Kept w W2 S :=
 ⟨Nat.le_trans h.1 k.1, fun i hi hn => (k.2 i (Nat.lt_of_lt_of_le hi h.1) (fun h2 => (hs i h2).elim hn (fun h3 => by omega))).trans (h.2 i hi hn)⟩
theorem Kept.below (h : Kept w W S) (hb : Below W.heap.size W W2) : Kept w W2 S := h.then_ (Kept.of_below hb (fun _ => False)) (fun _ hk => hk.elim)
theorem Kept.alloc (h : Kept w W S) (o : Obj) : Kept w (W.alloc o) S := h.below (below_alloc (Below.refl _ _) o)
theorem Kept.drew (h : Kept w W S) : Kept w W.drew S := h
theorem Kept.drewN (h : Kept w W S) (m : Nat) : Kept w (W.drewN m) S := h
theorem Kept.setCell (h : Kept w W S) {p : Addr} (hp : S p.block ∨ w.heap.size ≤ p.block) (u : Value) : Kept w (W.setCell p u) S :=
 h.then_ (S2 := fun k => k = p.block) ⟨by simp [World.setCell], fun i _ hn => Below.heap_setCell W p u i hn⟩ (fun k hk => by rw [hk]; exact hp)
theorem Kept.keep {g : Nat} (h : KeepBut w W g none) (k : Kept W W2 S2) (hs : ∀ k, S2 k → w.heap.size ≤ k) : KeepBut w W2 g none :=
 ⟨Nat.le_trans h.1 k.1, fun i hi hg hr => (k.2 i (Nat.lt_of_lt_of_le hi h.1) (fun h2 => by have := hs i h2; omega)).trans (h.2 i hi hg hr)⟩
end
namespace Kd
section
variable {α : Type} {d : Kd α} {e base n c : Nat} {ok oki S S2 : Nat → Prop} {w w0 W W1 W2 : World} {v : Value} {A : Option Addr} {xs : List α} {i : Int} {cs : List Value}
end
end Kd
end Go.Proofs.YtglbcfkmaamhaaaW.PrintWords
end
section
namespace Go.Proofs.YtglbcfkmaamhaaaW.PrintWords
open Go.RowKit
def Foot (P : World → Prop) (W : World) (ok : Nat → Prop) : Prop := ∀ W' : World, (∀ k, ok k → k < W.heap.size → W'.heap[k]? = W.heap[k]?) → P W'
theorem heap_lt {W W1 : World} {k : Nat} (h : W1.heap[k]? = W.heap[k]?) (hlt : k < W.heap.size) : k < W1.heap.size := by
 rw [Array.getElem?_eq_getElem hlt] at h
 exact (Array.getElem?_eq_some_iff.1 h).1
namespace Foot
variable {P Q : World → Prop} {W W1 : World} {ok ok' : Nat → Prop}
theorem now (h : Foot P W ok) : P W := h W (fun _ _ _ => rfl)
theorem mono (h : Foot P W ok) (hok : ∀ k, ok k → ok' k) : Foot P W ok' := fun W' hW => h W' (fun k hk hlt => hW k (hok k hk) hlt)
theorem bound (h : Foot P W ok) : Foot P W (fun k => ok k ∧ k < W.heap.size) := fun W' hW => h W' (fun k hk hlt => hW k ⟨hk, hlt⟩ hlt)
theorem step (h : Foot P W ok) (hm : ∀ k, ok k → k < W.heap.size → W1.heap[k]? = W.heap[k]?) : Foot P W1 ok := fun W' hW => h W' (fun k hk hlt => (hW k hk (heap_lt (hm k hk hlt) hlt)).trans (hm k hk hlt))
theorem imp (h : Foot P W ok) (hi : ∀ W', P W' → Q W') : Foot Q W ok := fun W' hW => hi W' (h W' hW)
theorem old (h : Foot P W ok) (hb : Below W.heap.size W W1) : Foot P W1 (fun k => ok k ∧ k < W.heap.size) := (h.bound).step (fun k _ hlt => hb.block k hlt)
end Foot
namespace Kd
def F {α : Type} (d : Kd α) (W : World) (ok : Nat → Prop) (A : Option Addr) (n : Nat) (xs : List α) : Prop := Foot (fun W => d.C W A n xs) W ok
def FK {α : Type} (d : Kd α) (W : World) (ok : Nat → Prop) (x : α) (c : List Value) : Prop := Foot (fun W => d.K W x c) W ok
section
variable {α β : Type} {d : Kd α} {e base n n' cc g N : Nat} {ok ok' okp S : Nat → Prop} {w w0 w1 W W1 : World} {A A' : Option Addr} {u v v1 : Value} {xs : List α} {xs' : List β} {d' : Kd β} {x : α} {c : List Value}
end
end Kd
end Go.Proofs.YtglbcfkmaamhaaaW.PrintWords
end
section
namespace Go.Proofs.YtglbcfkmaamhaaaW.PrintWords
open Go.RowKit
namespace Kd
section
variable {α : Type} {d : Kd α} {e base n cc g : Nat} {ok ok' okp S : Nat → Prop} {w w1 W W1 : World} {A : Option Addr} {u v v1 : Value} {xs : List α} {x : α} {c : List Value}
def N {α : Type} (d : Kd α) (e : Nat) (w : World) (base : Nat) (ok : Nat → Prop) (v : Value) (xs : List α) : Prop :=
 (∀ k, v.ownBlock = some k → ok k) ∧ ∃ rows : List (List Value), rows.length = xs.length ∧ (raw d.sz).R e w base (fun k => some k = v.ownBlock) v rows ∧ ∀ (j : Nat) (x : α) (c : List Value), xs[j]? = some x → rows[j]? = some c → FK d w (fun k => ok k ∧ some k ≠ v.ownBlock) x c
end
end Kd
end Go.Proofs.YtglbcfkmaamhaaaW.PrintWords
end
section
namespace Go.Proofs.YtglbcfkmaamhaaaW.PrintWords
open Go.RowKit
namespace Kd
section
variable {α : Type} {d : Kd α} {e base n cap g : Nat} {ok ok' okp : Nat → Prop} {w w1 W : World} {v v1 : Value} {xs ys : List α}
end
section
variable {P : Program} {ops : Array Oper} {rest : List Oper} {o : Oper} {a : Act} {Q : Exit → Act → World → Prop} {Kc : Act → World → Prop} {α : Type}
end
end Kd
end Go.Proofs.YtglbcfkmaamhaaaW.PrintWords
end
section
namespace Go.Proofs.YtglbcfkmaamhaaaW.PrintMore
open Go.RowKit Go.Proofs.YtglbcfkmaamhaaaW.PrintWords
namespace Kd
open Go.Proofs.YtglbcfkmaamhaaaW.PrintWords.Kd
end Kd
namespace Kd
open Go.Proofs.YtglbcfkmaamhaaaW.PrintWords.Kd
section
variable {α : Type} {d : Kd α} {e base g N : Nat} {ok : Nat → Prop} {W w1 : World} {u v : Value} {xs : List α}
end
end Kd
end Go.Proofs.YtglbcfkmaamhaaaW.PrintMore
namespace Go.Proofs.YtglbcfkmaamhaaaW.PrintWords
open Go.RowKit
section
variable {P : Program} {ops : Array Oper} {rest : List Oper} {o : Oper} {a : Act} {Q : Exit → Act → World → Prop} {W : World}
theorem gate_builtin {b : Builtin} {xs : Array Operand} {ts : Array TypeId} (_ho : o.op = .call { callee := .builtin b, args := xs, argTypes := ts }) (h : wpList P ops Q (o :: rest) a W) : wpList P ops Q (o :: rest) a W := h
end
namespace Kd
section
variable {α : Type} {d : Kd α} {e base : Nat} {ok : Nat → Prop} {W w1 : World} {v : Value} {xs : List α}
end
section
variable {α : Type} {d : Kd α} {e base g n cap : Nat} {ok oki okp : Nat → Prop} {W : World} {xs : List α} {i : Int} {c : List Value}
end
section
variable {α : Type} {d : Kd α} {e base b b' g N : Nat} {ok ok1 : Nat → Prop} {W W2 w1 : World} {u v : Value} {xs ys : List α} {S : Nat → Prop}
end
end Kd
end Go.Proofs.YtglbcfkmaamhaaaW.PrintWords
namespace Go.Proofs.YtglbcfkmaamhaaaW.PrintWords
open Go.RowKit
namespace Kd
def V {α : Type} (d : Kd α) (_e : Nat) (W : World) (_base : Nat) (ok : Nat → Prop) (v : Value) (xs : List α) : Prop := ∃ A c, v = .slice A xs.length c ∧ xs.length ≤ c ∧ F d W ok A xs.length xs
section
variable {α β : Type} {d : Kd α} {e base base' n m c g N' lo hi : Nat} {ok ok' S : Nat → Prop} {w W w1 : World} {A : Option Addr} {ad : Addr} {u v v1 : Value} {xs : List α}
end
end Kd
end Go.Proofs.YtglbcfkmaamhaaaW.PrintWords
end
section
namespace Go.Proofs.Ytglbcfkmaamhaaa.Hv
open Go Go.RowKit Go.Proofs.YtglbcfkmaamhaaaW.PrintWords
abbrev Ob := Nat × Obj
abbrev cb (g t : Nat) (cs : Array Value) : Ob := (g, .cells cs t (0, 0))
structure Hv (w0 w : World) (L : List Ob) : Prop where
 bel : Below w0.heap.size w0 w
 box : ∀ p ∈ L, w.heap[p.1]? = some p.2
 new : ∀ p ∈ L, w0.heap.size ≤ p.1
 nod : (L.map (·.1)).Nodup
namespace Hv
variable {w0 w w1 : World} {L L' A A' : List Ob} {g t : Nat} {cs : Array Value} {o : Obj}
theorem start (w : World) : Hv w w [] := ⟨Below.refl _ _, by simp, by simp, by simp⟩
theorem lt (h : Hv w0 w L) (p : Ob) (hp : p ∈ L) : p.1 < w.heap.size := blk_lt (h.box p hp)
theorem alloc (h : Hv w0 w L) (o : Obj) : Hv w0 (w.alloc o) ((w.heap.size, o) :: L) := by
 refine ⟨below_alloc h.bel _, fun p hp => ?_, fun p hp => ?_, ?_⟩
 ·rcases List.mem_cons.1 hp with rfl | hp
  ·exact blk_new w _
  ·exact blk_alloc (h.box p hp) _
 ·rcases List.mem_cons.1 hp with rfl | hp
  ·exact h.bel.size
  ·exact h.new p hp
 ·refine List.nodup_cons.2 ⟨fun hm => ?_, h.nod⟩
  obtain ⟨p, hp, e⟩ := List.mem_map.1 hm
  have h1 := h.lt p hp
  have e' : p.1 = w.heap.size := e
  omega
theorem skip (h : Hv w0 w L) (o : Obj) : Hv w0 (w.alloc o) L := by
 have h1 := h.alloc o
 exact ⟨h1.bel, fun p hp => h1.box p (List.mem_cons_of_mem _ hp), fun p hp => h1.new p (List.mem_cons_of_mem _ hp), h.nod⟩
theorem perm (h : Hv w0 w L) (hp : L'.Perm L) : Hv w0 w L' :=
 ⟨h.bel, fun p hm => h.box p (hp.mem_iff.1 hm), fun p hm => h.new p (hp.mem_iff.1 hm), (hp.map _).nodup_iff.2 h.nod⟩
theorem drop (h : Hv w0 w L) (hs : L'.Sublist L) : Hv w0 w L' := ⟨h.bel, fun p hp => h.box p (hs.mem hp), fun p hp => h.new p (hs.mem hp), h.nod.sublist (hs.map _)⟩
theorem call (h : Hv w0 w L) (hb : Below w.heap.size w w1) : Hv w0 w1 L :=
 ⟨h.bel.trans (hb.mono h.bel.size), fun p hp => blk_below (h.box p hp) hb, h.new, h.nod⟩
theorem drew (h : Hv w0 w L) : Hv w0 w.drew L := ⟨below_drew1 h.bel, fun p hp => blk_drew (h.box p hp), h.new, h.nod⟩
theorem drewN (h : Hv w0 w L) (n : Nat) : Hv w0 (w.drewN n) L := ⟨pw_below_drewN h.bel n, fun p hp => blk_drewN (h.box p hp) n, h.new, h.nod⟩
theorem cell (h : Hv w0 w L) (hm : cb g t cs ∈ L) (i : Nat) {v : Value} (hv : cs[i]? = some v) : w.cell? ⟨g, i, none⟩ = some v := (blk_cell (h.box _ hm) i).trans hv
theorem frozen (h : Hv w0 w L) (hm : cb g t cs ∈ L) (i : Nat) : w.frozen? ⟨g, i, none⟩ = false := blk_frozen (h.box _ hm) i
theorem ne (h : Hv w0 w L) (hm : (g, o) ∈ L) : ¬ g = w.heap.size := by have := h.lt _ hm; exact Nat.ne_of_lt this
theorem ge (h : Hv w0 w L) (hm : (g, o) ∈ L) : w0.heap.size ≤ g := h.new _ hm
theorem apart (h : Hv w0 w L) {i j : Nat} {p q : Ob} (hi : L[i]? = some p) (hj : L[j]? = some q) (hne : i ≠ j) : ¬ p.1 = q.1 := by
 intro e
 have h1 : (L.map (·.1))[i]? = some p.1 := by simp [hi]
 have h2 : (L.map (·.1))[j]? = some p.1 := by simp [hj, e]
 exact hne ((List.getElem?_inj (List.getElem?_eq_some_iff.1 h1).1 h.nod).1 (h1.trans h2.symm))
theorem setAt (h : Hv w0 w L) (k : Nat) {g : Nat} {o o' : Obj} (hk : L[k]? = some (g, o)) (hb : Below w0.heap.size w0 w1) (h1 : w1.heap[g]? = some o') (h2 : ∀ i, i < w.heap.size → i ≠ g → w1.heap[i]? = w.heap[i]?) : Hv w0 w1 (L.set k (g, o')) := by
 have hkl := (List.getElem?_eq_some_iff.1 hk).1
 refine ⟨hb, fun p hp => ?_, fun p hp => ?_, ?_⟩
 ·obtain ⟨j, hj⟩ := List.getElem?_of_mem hp
  by_cases e : k = j
  ·subst e
   rw [List.getElem?_set_self hkl] at hj
   cases hj
   exact h1
  ·rw [List.getElem?_set_ne e] at hj
   have hm := List.mem_of_getElem? hj
   exact (h2 p.1 (h.lt p hm) (h.apart hj hk (fun e1 => e e1.symm))).trans (h.box p hm)
 ·rcases List.mem_or_eq_of_mem_set hp with hp | rfl
  ·exact h.new p hp
  ·exact h.new (g, o) (List.mem_of_getElem? hk)
 ·rw [List.map_set]
  have : (L.map (·.1)).set k g = L.map (·.1) := by
   apply List.ext_getElem?
   intro j
   by_cases e : k = j
   ·subst e
    rw [List.getElem?_set_self (by simpa using hkl)]
    simp [hk]
   ·rw [List.getElem?_set_ne e]
  show ((L.map (·.1)).set k g).Nodup
  rw [this]
  exact h.nod
theorem put (h : Hv w0 w L) (k : Nat) {g t : Nat} {cs : Array Value} (hk : L[k]? = some (cb g t cs)) (i : Nat) (u : Value) : Hv w0 (w.setCell ⟨g, i, none⟩ u) (L.set k (cb g t (cs.setIfInBounds i u))) :=
 h.setAt k hk (h.bel.setCell (h.new _ (List.mem_of_getElem? hk)) u) (blk_put (h.box _ (List.mem_of_getElem? hk)) i u rfl) (fun j _ hj => Below.heap_setCell w _ u j hj)
theorem put0 (h : Hv w0 w (cb g t cs :: L)) (i : Nat) (u : Value) {cs' : Array Value} (e : cs.setIfInBounds i u = cs') : Hv w0 (w.setCell ⟨g, i, none⟩ u) (cb g t cs' :: L) := e ▸ h.put 0 rfl i u
theorem put1 {a : Ob} (h : Hv w0 w (a :: cb g t cs :: L)) (i : Nat) (u : Value) {cs' : Array Value} (e : cs.setIfInBounds i u = cs') : Hv w0 (w.setCell ⟨g, i, none⟩ u) (a :: cb g t cs' :: L) := e ▸ h.put 1 rfl i u
theorem put2 {a b : Ob} (h : Hv w0 w (a :: b :: cb g t cs :: L)) (i : Nat) (u : Value) {cs' : Array Value} (e : cs.setIfInBounds i u = cs') : Hv w0 (w.setCell ⟨g, i, none⟩ u) (a :: b :: cb g t cs' :: L) := e ▸ h.put 2 rfl i u
theorem put3 {a b c : Ob} (h : Hv w0 w (a :: b :: c :: cb g t cs :: L)) (i : Nat) (u : Value) {cs' : Array Value} (e : cs.setIfInBounds i u = cs') : Hv w0 (w.setCell ⟨g, i, none⟩ u) (a :: b :: c :: cb g t cs' :: L) := e ▸ h.put 3 rfl i u
theorem putA0 {A : List Ob} (h : Hv w0 w (A ++ (cb g t cs :: L))) (i : Nat) (u : Value) {cs' : Array Value} (e : cs.setIfInBounds i u = cs') : Hv w0 (w.setCell ⟨g, i, none⟩ u) (A ++ (cb g t cs' :: L)) := by
 have h1 := h.put A.length (g := g) (t := t) (cs := cs) (by simp) i u
 rw [List.set_append_right _ _ (Nat.le_refl _), Nat.sub_self] at h1
 exact e ▸ h1
theorem putA1 {a : Ob} {A : List Ob} (h : Hv w0 w (A ++ (a :: cb g t cs :: L))) (i : Nat) (u : Value) {cs' : Array Value} (e : cs.setIfInBounds i u = cs') : Hv w0 (w.setCell ⟨g, i, none⟩ u) (A ++ (a :: cb g t cs' :: L)) := by
 have h1 := h.put (A.length + 1) (g := g) (t := t) (cs := cs) (by simp [List.getElem?_append_right]) i u
 rw [List.set_append_right _ _ (by omega), Nat.add_sub_cancel_left] at h1
 exact e ▸ h1
theorem turn (h : Hv w0 w L) (k : Nat) {g : Nat} {o : Obj} (hk : L[k]? = some (g, o)) (o' : Obj) : Hv w0 (Go.ChangeMaps.setBlock w g o') (L.set k (g, o')) := by
 have hm := List.mem_of_getElem? hk
 have hlt : g < w.heap.size := h.lt _ hm
 refine h.setAt k hk ?_ ?_ ?_
 ·refine ⟨h.bel.os, h.bel.tape, h.bel.output, ?_, fun i hi => ?_⟩
  ·simpa [Go.ChangeMaps.setBlock] using h.bel.size
  ·have := h.new _ hm
   have hne : g ≠ i := by
    have h1 : w0.heap.size ≤ g := this
    omega
   simp only [Go.ChangeMaps.setBlock, Array.getElem?_setIfInBounds]
   rw [if_neg hne]
   exact h.bel.block i hi
 ·simp [Go.ChangeMaps.setBlock, Array.getElem?_setIfInBounds, hlt]
 ·intro i _ hne
  simp only [Go.ChangeMaps.setBlock, Array.getElem?_setIfInBounds]
  rw [if_neg (fun e => hne e.symm)]
theorem tail {a : Ob} (h : Hv w0 w (a :: L)) : Hv w0 w L := h.drop (List.sublist_cons_self a L)
theorem swap {a b : Ob} (h : Hv w0 w (a :: b :: L)) : Hv w0 w (b :: a :: L) := h.perm (List.Perm.swap a b L)
theorem left (h : Hv w0 w (A ++ L)) : Hv w0 w A := h.drop (List.sublist_append_left A L)
theorem right (h : Hv w0 w (A ++ L)) : Hv w0 w L := h.drop (List.sublist_append_right A L)
end Hv
def Gr (e size : Nat) (v : Value) (n : Nat) (xs : List Value) (A : List Ob) : Prop :=
  xs.length = n * size ∧ ((v = .slice none 0 0 ∧ n = 0 ∧ A = []) ∨
   ∃ g cap cur, v = .slice (some ⟨g, 0, none⟩) n cap ∧ A = [cb g e cur] ∧ n ≤ cap ∧ cap ≤ maxLen ∧ cur.size = cap * size ∧ cur.toList.take (n * size) = xs)
namespace Gr
variable {w0 w w1 : World} {L A : List Ob} {e size n m : Nat} {v v1 : Value} {xs ys : List Value}
theorem nil (e size : Nat) : Gr e size (.slice none 0 0) 0 [] [] := ⟨by simp, .inl ⟨rfl, rfl, rfl⟩⟩
theorem owns (h : Gr e size v n xs A) (hv : Hv w0 w (A ++ L)) : w.ownsRow w0.heap.size e size v n xs := by
 refine ⟨h.1, ?_⟩
 rcases h.2 with ⟨h1, h2, _⟩ | ⟨g, cap, cur, rfl, rfl, h3, h4, h5, h6⟩
 ·exact .inl ⟨h1, h2⟩
 ·exact .inr ⟨g, cap, cur, rfl, hv.new (cb g e cur) (by simp), hv.box (cb g e cur) (by simp), h3, h4, h5, h6⟩
theorem block (h : Gr e size v n xs A) (k : Nat) : v.ownBlock = some k ↔ ∃ o, (k, o) ∈ A := by
 rcases h.2 with ⟨rfl, h2, rfl⟩ | ⟨g, cap, cur, rfl, rfl, _⟩
 ·simp [Value.ownBlock]
 ·simp only [Value.ownBlock, Option.some.injEq, List.mem_singleton, Prod.mk.injEq]
  exact ⟨fun e => ⟨_, e.symm, rfl⟩, fun ⟨_, e, _⟩ => e.symm⟩
theorem step (h : Gr e size v n xs A) (hv : Hv w0 w (A ++ L)) (ho : w1.ownsRow w0.heap.size e size v1 m ys) (hg : w.grownBy w1 v.ownBlock) (hat : v1.ownBlock = v.ownBlock ∨ ∃ b, v1.ownBlock = some b ∧ w.heap.size ≤ b) :
  ∃ A', Gr e size v1 m ys A' ∧ Hv w0 w1 (A' ++ L) := by
 have hb : Below w0.heap.size w0 w1 := hv.bel.grown hg hv.bel.size (fun k hk => by
  obtain ⟨o, ho⟩ := (h.block k).1 hk
  exact hv.new (k, o) (by simp [ho]))
 have hL : ∀ p ∈ L, w1.heap[p.1]? = some p.2 := fun p hp => by
  refine blk_grown (hv.box p (by simp [hp])) hg (fun e1 => ?_)
  obtain ⟨o, ho⟩ := (h.block p.1).1 e1.symm
  have h2 := (List.nodup_append.1 (by simpa using hv.nod)).2.2 p.1 (List.mem_map.2 ⟨(p.1, o), ho, rfl⟩) p.1 (List.mem_map.2 ⟨p, hp, rfl⟩)
  exact h2 rfl
 have nL : ∀ p ∈ L, w0.heap.size ≤ p.1 := fun p hp => hv.new p (by simp [hp])
 have dL : (L.map (·.1)).Nodup := hv.right.nod
 obtain ⟨h1, h2⟩ := ho
 rcases h2 with ⟨rfl, h2⟩ | ⟨g, cap, cur, rfl, hge, hh, h3, h4, h5, h6⟩
 ·exact ⟨[], ⟨h1, .inl ⟨rfl, h2, rfl⟩⟩, hb, by simpa using hL, by simpa using nL, by simpa using dL⟩
 ·refine ⟨[cb g e cur], ⟨h1, .inr ⟨g, cap, cur, rfl, rfl, h3, h4, h5, h6⟩⟩, hb, ?_, ?_, ?_⟩
  ·intro p hp
   rcases List.mem_cons.1 hp with rfl | hp
   ·exact hh
   ·exact hL p hp
  ·intro p hp
   rcases List.mem_cons.1 hp with rfl | hp
   ·exact hge
   ·exact nL p hp
  ·refine List.nodup_cons.2 ⟨fun hm => ?_, dL⟩
   obtain ⟨p, hp, e1⟩ := List.mem_map.1 hm
   have e2 : p.1 = g := e1
   rcases hat with hat | ⟨b, hat, hlt⟩
   ·obtain ⟨o, ho⟩ := (h.block g).1 (by rw [← hat]; rfl)
    have h2 := (List.nodup_append.1 (by simpa using hv.nod)).2.2 g (List.mem_map.2 ⟨(g, o), ho, rfl⟩) g (List.mem_map.2 ⟨p, hp, e1⟩)
    exact h2 rfl
   ·have h7 := hv.lt p (List.mem_append_right A (by simpa using hp))
    have h8 : g = b := by simpa [Value.ownBlock] using hat
    omega
theorem form (h : Gr e size v n xs A) : ∃ ad c, v = .slice ad n c ∧ n ≤ c := by
 rcases h.2 with ⟨rfl, rfl, _⟩ | ⟨g, cap, cur, rfl, _, h3, _⟩
 ·exact ⟨none, 0, rfl, Nat.le_refl _⟩
 ·exact ⟨_, _, rfl, h3⟩
theorem take {ad : Option Addr} {c : Nat} (h : Gr e size (.slice ad n c) n xs A) (k : Nat) (hk : k ≤ n) : Gr e size (.slice ad k c) k (xs.take (k * size)) A := by
 have hl : k * size ≤ n * size := Nat.mul_le_mul_right _ hk
 refine ⟨by rw [List.length_take, h.1]; omega, ?_⟩
 rcases h.2 with ⟨h1, rfl, rfl⟩ | ⟨g, cap, cur, h1, rfl, h3, h4, h5, h6⟩
 ·obtain rfl : k = 0 := by omega
  simp only [Value.slice.injEq] at h1
  exact .inl ⟨by rw [h1.1, h1.2.2], rfl, rfl⟩
 ·simp only [Value.slice.injEq] at h1
  refine .inr ⟨g, cap, cur, by rw [h1.1, h1.2.2], rfl, by omega, h4, h5, ?_⟩
  rw [← h6, List.take_take, Nat.min_eq_left hl]
theorem addr {ad : Option Addr} {c : Nat} (h : Gr e size (.slice ad n c) n xs A) (hn : 0 < n) : ∃ g cur, ad = some ⟨g, 0, none⟩ ∧ A = [cb g e cur] ∧ c * size = cur.size ∧ n ≤ c ∧ c ≤ maxLen ∧ ∀ i, i < n * size → cur[i]? = xs[i]? := by
 rcases h.2 with ⟨h1, rfl, rfl⟩ | ⟨g, cap, cur, h1, rfl, h3, h4, h5, h6⟩
 ·omega
 ·simp only [Value.slice.injEq] at h1
  obtain ⟨rfl, _, rfl⟩ := h1
  refine ⟨g, cur, rfl, rfl, h5.symm, h3, h4, fun i hi => ?_⟩
  rw [← h6, List.getElem?_take, if_pos hi]
  simp
end Gr
section
variable {P : Program} {ops : Array Oper} {rest : List Oper} {o : Oper} {a : Act} {Q : Exit → Act → World → Prop} {K : Act → World → Prop} {w0 w : World} {L A : List Ob}
theorem append_list (hgd : o.guard = none) (s x : Operand) (t e : TypeId) (z : Value) (size bytes : Nat)
  (ho : o.op = .call { callee := .builtin .append, args := #[s, x], argTypes := #[t, t] })
  (ht : P.underlying t = some (.slice e)) (hinfo : (P.info? e).map (fun i => (i.zero, i.size, i.bytes)) = some (some z, size, bytes)) (hz : z.cells.size = size) (hs0 : 0 < size) (hb0 : 0 < bytes)
  (v : Value) (n : Nat) (xs : List Value) (hs : a.eval s = v) (ad : Addr) (m c : Nat) (news : List Value) (hx : a.eval x = .slice (some ad) m c) (hl : news.length = m * size) (hnews : ∀ j u, news[j]? = some u → w.cell? (ad.add j) = some u) (h1 : ∀ u ∈ news, u.oneCell' = true)
  (hg : Gr e size v n xs A) (hv : Hv w0 w (A ++ L)) (hb : (n + m) * bytes ≤ 140737488355328)
  (h : ∀ v1 w1 A1, Gr e size v1 (n + m) (xs ++ news) A1 → Hv w0 w1 (A1 ++ L) → wpList P ops Q rest (a.put o.dst v1) w1) : wpList P ops Q (o :: rest) a w := by
 obtain ⟨i0, hi, hzz⟩ := Option.map_eq_some_iff.1 hinfo
 simp only [Prod.mk.injEq] at hzz
 obtain ⟨hz0, hz1, hz2⟩ := hzz
 have hlen : n + m ≤ 140737488355328 := Nat.le_trans (Nat.le_mul_of_pos_right _ hb0) hb
 refine wpList_append_own_at w hgd s x t ho w0.heap.size e i0 z size bytes ht hi hz0 hz1 hz2 hz hs0 v n xs hs (hg.owns hv) ad m c news hx hl hnews h1 (by simp only [maxLen]; omega) hb hv.bel.size ?_
 intro v1 w1 hown hgr _ hat
 obtain ⟨A1, hG, hH⟩ := hg.step hv hown hgr (hat.imp id (fun e => ⟨_, e, Nat.le_refl _⟩))
 exact h v1 w1 A1 hG hH
theorem append_step (hw : Region.wanted o (yielded ops a.tmps) = true) (s x : Operand) (t e : TypeId) (z : Value) (size bytes : Nat)
  (ho : o.op = .call { callee := .builtin .append, args := #[s, x], argTypes := #[t, t] })
  (ht : P.underlying t = some (.slice e)) (hinfo : (P.info? e).map (fun i => (i.zero, i.size, i.bytes)) = some (some z, size, bytes)) (hz : z.cells.size = size) (hs0 : 0 < size) (hb0 : 0 < bytes)
  (v : Value) (n : Nat) (xs : List Value) (hs : a.eval s = v) (ad : Addr) (m c : Nat) (news : List Value) (hx : a.eval x = .slice (some ad) m c) (hl : news.length = m * size) (hnews : ∀ j u, news[j]? = some u → w.cell? (ad.add j) = some u) (h1 : ∀ u ∈ news, u.oneCell' = true)
  (hg : Gr e size v n xs A) (hv : Hv w0 w (A ++ L)) (hb : (n + m) * bytes ≤ 140737488355328)
  (h : ∀ v1 w1 A1, Gr e size v1 (n + m) (xs ++ news) A1 → Hv w0 w1 (A1 ++ L) → K (a.put o.dst v1) w1) : if Region.wanted o (yielded ops a.tmps) = true then Oper.wp P o a w K Q else K (a.put o.dst undef) w := by
 obtain ⟨i0, hi, hzz⟩ := Option.map_eq_some_iff.1 hinfo
 simp only [Prod.mk.injEq] at hzz
 obtain ⟨hz0, hz1, hz2⟩ := hzz
 have hlen : n + m ≤ 140737488355328 := Nat.le_trans (Nat.le_mul_of_pos_right _ hb0) hb
 rw [if_pos hw]
 obtain ⟨v1, w1, hr, hown, hgr, _, hat⟩ := run_append_own_at (P := P) w w0.heap.size t o.type e i0 z size bytes ht hi hz0 hz1 hz2 hz hs0 v n xs (hg.owns hv) ad m c news hl hnews h1 (by simp only [maxLen]; omega) hb hv.bel.size
 obtain ⟨A1, hG, hH⟩ := hg.step hv hown hgr (hat.imp id (fun e => ⟨_, e, Nat.le_refl _⟩))
 unfold Oper.wp execOp
 simp only [ho, resolve, invoke, builtin, Sem.run_bind, Sem.run_pure, Result.andThen_ok, List.map_toArray, List.map_cons, List.map_nil, hs, hx, hr]
 exact h v1 w1 A1 hG hH
end
def Rw (e size : Nat) (L : List Ob) (ad : Option Addr) (n c : Nat) (xs : List Value) : Prop :=
 xs.length = n * size ∧ n ≤ c ∧ (0 < n → ∃ g off cur, ad = some ⟨g, off, none⟩ ∧ cb g e cur ∈ L ∧ ∀ i, i < n * size → cur[off + i]? = xs[i]?)
namespace Rw
variable {e size n c : Nat} {L L' : List Ob} {ad : Option Addr} {xs : List Value} {w0 w : World}
theorem nil (e size : Nat) (L : List Ob) : Rw e size L none 0 0 [] := ⟨by simp, Nat.le_refl _, fun h => absurd h (Nat.lt_irrefl 0)⟩
theorem mono (h : Rw e size L ad n c xs) (hL : ∀ p ∈ L, p ∈ L') : Rw e size L' ad n c xs :=
 ⟨h.1, h.2.1, fun hn => by obtain ⟨g, off, cur, h1, h2, h3⟩ := h.2.2 hn; exact ⟨g, off, cur, h1, hL _ h2, h3⟩⟩
theorem left (h : Rw e size L ad n c xs) (R : List Ob) : Rw e size (L ++ R) ad n c xs := h.mono fun p hp => List.mem_append_left R hp
theorem right (h : Rw e size L ad n c xs) (R : List Ob) : Rw e size (R ++ L) ad n c xs := h.mono fun p hp => List.mem_append_right R hp
theorem of_gr {A : List Ob} (h : Gr e size (.slice ad n c) n xs A) : Rw e size A ad n c xs := by
 obtain ⟨ad', c', e1, hc⟩ := h.form
 simp only [Value.slice.injEq] at e1
 obtain ⟨rfl, _, rfl⟩ := e1
 refine ⟨h.1, hc, fun hn => ?_⟩
 obtain ⟨g, cur, rfl, rfl, _, _, _, h4⟩ := h.addr hn
 exact ⟨g, 0, cur, rfl, by simp, fun i hi => by rw [Nat.zero_add]; exact h4 i hi⟩
theorem cells (h : Rw e size L ad n c xs) (hv : Hv w0 w L) (hn : 0 < n) : ∃ a, ad = some a ∧ ∀ i u, xs[i]? = some u → w.cell? (a.add i) = some u := by
 obtain ⟨g, off, cur, rfl, h2, h3⟩ := h.2.2 hn
 refine ⟨_, rfl, fun i u hu => ?_⟩
 have hi : i < n * size := by rw [← h.1]; exact (List.getElem?_eq_some_iff.1 hu).1
 rw [add_at]
 exact hv.cell h2 (off + i) ((h3 i hi).trans hu)
theorem at_ (h : Rw e size L ad n c xs) (hv : Hv w0 w L) (hn : 0 < n) : ∃ g off, ad = some ⟨g, off, none⟩ ∧ (∀ i u, xs[i]? = some u → w.cell? ⟨g, off + i, none⟩ = some u) ∧ g < w.heap.size ∧ w0.heap.size ≤ g := by
 obtain ⟨g, off, cur, rfl, h2, h3⟩ := h.2.2 hn
 refine ⟨g, off, rfl, fun i u hu => ?_, hv.lt _ h2, hv.new _ h2⟩
 have hi : i < n * size := by rw [← h.1]; exact (List.getElem?_eq_some_iff.1 hu).1
 exact hv.cell h2 (off + i) ((h3 i hi).trans hu)
theorem take (h : Rw e size L ad n c xs) (k : Nat) (hk : k ≤ n) : Rw e size L ad k c (xs.take (k * size)) := by
 have hl : k * size ≤ n * size := Nat.mul_le_mul_right _ hk
 refine ⟨by rw [List.length_take, h.1]; omega, by have := h.2.1; omega, fun hn => ?_⟩
 obtain ⟨g, off, cur, h1, h2, h3⟩ := h.2.2 (by omega)
 exact ⟨g, off, cur, h1, h2, fun i hi => by rw [h3 i (by omega), List.getElem?_take, if_pos hi]⟩
theorem drop (h : Rw e size L ad n c xs) (k : Nat) (hk : k ≤ n) : Rw e size L (if c = k then ad else ad.map (·.add (k * size))) (n - k) (c - k) (xs.drop (k * size)) := by
 have hl : k * size ≤ n * size := Nat.mul_le_mul_right _ hk
 refine ⟨by rw [List.length_drop, h.1, Nat.sub_mul], by have := h.2.1; omega, fun hn => ?_⟩
 obtain ⟨g, off, cur, rfl, h2, h3⟩ := h.2.2 (by omega)
 have := h.2.1
 rw [if_neg (by omega)]
 refine ⟨g, off + k * size, cur, by rw [Option.map_some, add_at], h2, fun i hi => ?_⟩
 rw [Nat.sub_mul] at hi
 rw [List.getElem?_drop, ← h3 (k * size + i) (by omega), Nat.add_assoc]
end Rw
def Rd (size : Nat) (w : World) (ad : Option Addr) (n : Nat) (xs : List Value) : Prop :=
 xs.length = n * size ∧ (0 < n → ∃ a, ad = some a ∧ ∀ i u, xs[i]? = some u → w.cell? (a.add i) = some u)
theorem Rw.rd {e size n c : Nat} {L : List Ob} {ad : Option Addr} {xs : List Value} {w0 w : World} (h : Rw e size L ad n c xs) (hv : Hv w0 w L) : Rd size w ad n xs := ⟨h.1, fun hn => h.cells hv hn⟩
theorem Rd.below {size n : Nat} {ad : Option Addr} {xs : List Value} {w w1 : World} (h : Rd size w ad n xs) (hb : Below w.heap.size w w1) : Rd size w1 ad n xs :=
 ⟨h.1, fun hn => by obtain ⟨a, h1, h2⟩ := h.2 hn; exact ⟨a, h1, fun i u hu => pw_cell_below hb (h2 i u hu)⟩⟩
theorem add_next (a : Addr) (m j : Nat) (hj : 0 < j) : a.add (m + j) = ⟨(a.add m).block, (a.add m).off + j, none⟩ := by
 rw [← Go.Deep.add_add]
 unfold Addr.add
 rw [if_neg (by omega : ¬ j = 0)]
theorem Rd.nil (size : Nat) (w : World) (ad : Option Addr) : Rd size w ad 0 [] := ⟨by simp, fun h => absurd h (Nat.lt_irrefl 0)⟩
section
variable {P : Program} {ops : Array Oper} {rest : List Oper} {o : Oper} {a : Act} {Q : Exit → Act → World → Prop} {K : Act → World → Prop} {w0 w : World} {L A : List Ob}
theorem append_run (t ty e : TypeId) (z : Value) (size bytes : Nat) (ht : P.underlying t = some (.slice e)) (hinfo : (P.info? e).map (fun i => (i.zero, i.size, i.bytes)) = some (some z, size, bytes)) (hz : z.cells.size = size) (hs0 : 0 < size) (hb0 : 0 < bytes)
  (v : Value) (n : Nat) (xs : List Value) (ad : Option Addr) (m c : Nat) (news : List Value) (h1 : ∀ u ∈ news, u.oneCell' = true)
  (hg : Gr e size v n xs A) (hv : Hv w0 w (A ++ L)) (hr : Rd size w ad m news) (hb : (n + m) * bytes ≤ 140737488355328) :
  ∃ v1 w1 A1, (Builtin.append_ #[t, t] ty #[v, .slice ad m c]).run P w = .ok v1 w1 ∧ Gr e size v1 (n + m) (xs ++ news) A1 ∧ Hv w0 w1 (A1 ++ L) := by
 obtain ⟨i0, hi, hzz⟩ := Option.map_eq_some_iff.1 hinfo
 simp only [Prod.mk.injEq] at hzz
 obtain ⟨hz0, hz1, hz2⟩ := hzz
 have hlen : n + m ≤ 140737488355328 := Nat.le_trans (Nat.le_mul_of_pos_right _ hb0) hb
 cases ad with
 | none =>
  have h0 : m = 0 := by
   rcases Nat.eq_zero_or_pos m with h0 | h0
   ·exact h0
   ·obtain ⟨a, h, _⟩ := hr.2 h0
    cases h
  subst h0
  obtain rfl : news = [] := List.eq_nil_of_length_eq_zero (by rw [hr.1, Nat.zero_mul])
  refine ⟨v, w, A, ?_, by rw [List.append_nil]; exact hg, hv⟩
  rcases hg.2 with ⟨rfl, rfl, _⟩ | ⟨g, cap, cur, rfl, _, hnc, _⟩
  ·simp [Builtin.append_, run_underlying ht, sizeOf, typeInfo, hi, Builtin.lenOf, Builtin.firstCells]
  ·simp [Builtin.append_, run_underlying ht, sizeOf, typeInfo, hi, Builtin.lenOf, Builtin.firstCells, hnc, storeCells]
 | some a =>
  have hnews : ∀ j u, news[j]? = some u → w.cell? (a.add j) = some u := fun j u hu => by
   have hlt := (List.getElem?_eq_some_iff.1 hu).1
   rw [hr.1] at hlt
   obtain ⟨a', e1, h2⟩ := hr.2 (Nat.pos_of_ne_zero (fun h0 => by rw [h0, Nat.zero_mul] at hlt; exact absurd hlt (Nat.not_lt_zero _)))
   cases e1
   exact h2 j u hu
  obtain ⟨v1, w1, hrun, hown, hgr, _, hat⟩ := run_append_own_at (P := P) w w0.heap.size t ty e i0 z size bytes ht hi hz0 hz1 hz2 hz hs0 v n xs (hg.owns hv) a m c news hr.1 hnews h1 (by simp only [maxLen]; omega) hb hv.bel.size
  obtain ⟨A1, hG, hH⟩ := hg.step hv hown hgr (hat.imp id (fun e => ⟨_, e, Nat.le_refl _⟩))
  exact ⟨v1, w1, A1, hrun, hG, hH⟩
theorem append_rows (hgd : o.guard = none) (s x : Operand) (t e : TypeId) (z : Value) (size bytes : Nat)
  (ho : o.op = .call { callee := .builtin .append, args := #[s, x], argTypes := #[t, t] })
  (ht : P.underlying t = some (.slice e)) (hinfo : (P.info? e).map (fun i => (i.zero, i.size, i.bytes)) = some (some z, size, bytes)) (hz : z.cells.size = size) (hs0 : 0 < size) (hb0 : 0 < bytes)
  (v : Value) (n : Nat) (xs : List Value) (hs : a.eval s = v) (ad : Option Addr) (m c : Nat) (news : List Value) (hx : a.eval x = .slice ad m c) (h1 : ∀ u ∈ news, u.oneCell' = true)
  (hg : Gr e size v n xs A) (hv : Hv w0 w (A ++ L)) (hr : Rd size w ad m news) (hb : (n + m) * bytes ≤ 140737488355328)
  (h : ∀ v1 w1 A1, Gr e size v1 (n + m) (xs ++ news) A1 → Hv w0 w1 (A1 ++ L) → wpList P ops Q rest (a.put o.dst v1) w1) : wpList P ops Q (o :: rest) a w := by
 obtain ⟨v1, w1, A1, hrun, hG, hH⟩ := append_run (P := P) t o.type e z size bytes ht hinfo hz hs0 hb0 v n xs ad m c news h1 hg hv hr hb
 refine wpList_plain hgd fun K hK => ?_
 unfold Oper.wp execOp
 simp only [ho, resolve, invoke, builtin, Sem.run_bind, Sem.run_pure, Result.andThen_ok, List.map_toArray, List.map_cons, List.map_nil, hs, hx, hrun]
 exact hK _ _ (h v1 w1 A1 hG hH)
theorem append_rows_step (hw : Region.wanted o (yielded ops a.tmps) = true) (s x : Operand) (t e : TypeId) (z : Value) (size bytes : Nat)
  (ho : o.op = .call { callee := .builtin .append, args := #[s, x], argTypes := #[t, t] })
  (ht : P.underlying t = some (.slice e)) (hinfo : (P.info? e).map (fun i => (i.zero, i.size, i.bytes)) = some (some z, size, bytes)) (hz : z.cells.size = size) (hs0 : 0 < size) (hb0 : 0 < bytes)
  (v : Value) (n : Nat) (xs : List Value) (hs : a.eval s = v) (ad : Option Addr) (m c : Nat) (news : List Value) (hx : a.eval x = .slice ad m c) (h1 : ∀ u ∈ news, u.oneCell' = true)
  (hg : Gr e size v n xs A) (hv : Hv w0 w (A ++ L)) (hr : Rd size w ad m news) (hb : (n + m) * bytes ≤ 140737488355328)
  (h : ∀ v1 w1 A1, Gr e size v1 (n + m) (xs ++ news) A1 → Hv w0 w1 (A1 ++ L) → K (a.put o.dst v1) w1) : if Region.wanted o (yielded ops a.tmps) = true then Oper.wp P o a w K Q else K (a.put o.dst undef) w := by
 obtain ⟨v1, w1, A1, hrun, hG, hH⟩ := append_run (P := P) t o.type e z size bytes ht hinfo hz hs0 hb0 v n xs ad m c news h1 hg hv hr hb
 rw [if_pos hw]
 unfold Oper.wp execOp
 simp only [ho, resolve, invoke, builtin, Sem.run_bind, Sem.run_pure, Result.andThen_ok, List.map_toArray, List.map_cons, List.map_nil, hs, hx, hrun]
 exact h v1 w1 A1 hG hH
end
theorem Hv.rot2 {w0 w : World} {a b : Ob} {B L : List Ob} (h : Hv w0 w (a :: b :: (B ++ L))) : Hv w0 w (B ++ (a :: b :: L)) :=
 h.perm ((List.perm_middle.trans (List.Perm.cons _ List.perm_middle)))
theorem Hv.unrot2 {w0 w : World} {a b : Ob} {B L : List Ob} (h : Hv w0 w (B ++ (a :: b :: L))) : Hv w0 w (a :: b :: (B ++ L)) :=
 h.perm ((List.perm_middle.trans (List.Perm.cons _ List.perm_middle))).symm
theorem Hv.cellM {w0 w : World} {A L : List Ob} {g t : Nat} {cs : Array Value} (h : Hv w0 w (A ++ (cb g t cs :: L))) (i : Nat) {v : Value} (hv : cs[i]? = some v) : w.cell? ⟨g, i, none⟩ = some v := h.cell (List.mem_append_right A List.mem_cons_self) i hv
theorem Hv.frozenM {w0 w : World} {A L : List Ob} {g t : Nat} {cs : Array Value} (h : Hv w0 w (A ++ (cb g t cs :: L))) (i : Nat) : w.frozen? ⟨g, i, none⟩ = false := h.frozen (List.mem_append_right A List.mem_cons_self) i
theorem Hv.join {w0 w w1 : World} {L A : List Ob} (h : Hv w0 w L) (k : Hv w w1 A) : Hv w0 w1 (A ++ L) := by
 have h1 := h.call k.bel
 refine ⟨h1.bel, fun p hp => ?_, fun p hp => ?_, ?_⟩
 ·rcases List.mem_append.1 hp with hp | hp
  ·exact k.box p hp
  ·exact h1.box p hp
 ·rcases List.mem_append.1 hp with hp | hp
  ·exact Nat.le_trans h.bel.size (k.new p hp)
  ·exact h1.new p hp
 ·rw [List.map_append]
  refine List.nodup_append.2 ⟨k.nod, h1.nod, fun a ha b hb => ?_⟩
  obtain ⟨p, hp, rfl⟩ := List.mem_map.1 ha
  obtain ⟨q, hq, rfl⟩ := List.mem_map.1 hb
  have h2 := k.new p hp
  have h3 := h.lt q hq
  omega
def Gq (e size : Nat) (v : Value) (n : Nat) (xs : List Value) (A : List Ob) : Prop :=
  xs.length = n * size ∧ ((n = 0 ∧ ∃ ad, v = .slice ad 0 0 ∧ ((ad = none ∧ A = []) ∨ ∃ a cur, ad = some a ∧ A = [cb a.block e cur])) ∨
   ∃ g off cap cur, v = .slice (some ⟨g, off * size, none⟩) n cap ∧ A = [cb g e cur] ∧ n ≤ cap ∧ off + cap ≤ maxLen ∧ cur.size = (off + cap) * size ∧ (cur.toList.drop (off * size)).take (n * size) = xs)
namespace Gq
variable {w0 w w1 : World} {L A : List Ob} {e size n m : Nat} {v v1 : Value} {xs ys : List Value}
theorem nil (e size : Nat) : Gq e size (.slice none 0 0) 0 [] [] := ⟨by simp, .inl ⟨rfl, none, rfl, .inl ⟨rfl, rfl⟩⟩⟩
theorem owns (h : Gq e size v n xs A) (hv : Hv w0 w (A ++ L)) : QRow w w0.heap.size e size v n xs := by
 refine ⟨h.1, ?_⟩
 rcases h.2 with ⟨h1, ad, h2, h3⟩ | ⟨g, off, cap, cur, rfl, rfl, h3, h4, h5, h6⟩
 ·refine .inl ⟨h1, ad, h2, fun a ha => ?_⟩
  rcases h3 with ⟨h3, _⟩ | ⟨a', cur, h3, rfl⟩
  ·rw [h3] at ha; cases ha
  ·rw [h3] at ha
   cases ha
   exact ⟨hv.new (cb a.block e cur) (by simp), cur, hv.box (cb a.block e cur) (by simp)⟩
 ·exact .inr ⟨g, off, cap, cur, rfl, hv.new (cb g e cur) (by simp), hv.box (cb g e cur) (by simp), h3, h4, h5, h6⟩
theorem block (h : Gq e size v n xs A) (k : Nat) : v.ownBlock = some k ↔ ∃ o, (k, o) ∈ A := by
 rcases h.2 with ⟨h1, ad, rfl, h3⟩ | ⟨g, off, cap, cur, rfl, rfl, _⟩
 ·rcases h3 with ⟨rfl, rfl⟩ | ⟨a', cur, rfl, rfl⟩
  ·simp [Value.ownBlock]
  ·simp only [Value.ownBlock, Option.some.injEq, List.mem_singleton, Prod.mk.injEq]
   exact ⟨fun e => ⟨_, e.symm, rfl⟩, fun ⟨_, e, _⟩ => e.symm⟩
 ·simp only [Value.ownBlock, Option.some.injEq, List.mem_singleton, Prod.mk.injEq]
  exact ⟨fun e => ⟨_, e.symm, rfl⟩, fun ⟨_, e, _⟩ => e.symm⟩
theorem step (h : Gq e size v n xs A) (hv : Hv w0 w (A ++ L)) (ho : QRow w1 w0.heap.size e size v1 m ys) (hg : w.grownBy w1 v.ownBlock) (hat : v1.ownBlock = v.ownBlock ∨ ∃ b, v1.ownBlock = some b ∧ w.heap.size ≤ b) :
  ∃ A', Gq e size v1 m ys A' ∧ Hv w0 w1 (A' ++ L) := by
 have hb : Below w0.heap.size w0 w1 := hv.bel.grown hg hv.bel.size (fun k hk => by
  obtain ⟨o, ho⟩ := (h.block k).1 hk
  exact hv.new (k, o) (by simp [ho]))
 have hL : ∀ p ∈ L, w1.heap[p.1]? = some p.2 := fun p hp => by
  refine blk_grown (hv.box p (by simp [hp])) hg (fun e1 => ?_)
  obtain ⟨o, ho⟩ := (h.block p.1).1 e1.symm
  have h2 := (List.nodup_append.1 (by simpa using hv.nod)).2.2 p.1 (List.mem_map.2 ⟨(p.1, o), ho, rfl⟩) p.1 (List.mem_map.2 ⟨p, hp, rfl⟩)
  exact h2 rfl
 have nL : ∀ p ∈ L, w0.heap.size ≤ p.1 := fun p hp => hv.new p (by simp [hp])
 have dL : (L.map (·.1)).Nodup := hv.right.nod
 have fin : ∀ (g : Nat) (cur : Array Value), v1.ownBlock = some g → w1.heap[g]? = some (.cells cur e (0, 0)) → w0.heap.size ≤ g → Hv w0 w1 ([cb g e cur] ++ L) := fun g cur hvo hh hge => by
  refine ⟨hb, ?_, ?_, ?_⟩
  ·intro p hp
   rcases List.mem_cons.1 hp with rfl | hp
   ·exact hh
   ·exact hL p hp
  ·intro p hp
   rcases List.mem_cons.1 hp with rfl | hp
   ·exact hge
   ·exact nL p hp
  ·refine List.nodup_cons.2 ⟨fun hm => ?_, dL⟩
   obtain ⟨p, hp, e1⟩ := List.mem_map.1 hm
   have e2 : p.1 = g := e1
   rcases hat with hat | ⟨b, hat, hlt⟩
   ·obtain ⟨o, ho⟩ := (h.block g).1 (by rw [← hat]; exact hvo)
    have h2 := (List.nodup_append.1 (by simpa using hv.nod)).2.2 g (List.mem_map.2 ⟨(g, o), ho, rfl⟩) g (List.mem_map.2 ⟨p, hp, e1⟩)
    exact h2 rfl
   ·have h7 := hv.lt p (List.mem_append_right A (by simpa using hp))
    rw [hvo] at hat
    have h8 : g = b := by simpa using hat
    omega
 obtain ⟨h1, h2⟩ := ho
 rcases h2 with ⟨h2, ad, rfl, h3⟩ | ⟨g, off, cap, cur, rfl, hge, hh, h3, h4, h5, h6⟩
 ·cases ad with
  | none => exact ⟨[], ⟨h1, .inl ⟨h2, none, rfl, .inl ⟨rfl, rfl⟩⟩⟩, hb, by simpa using hL, by simpa using nL, by simpa using dL⟩
  | some a =>
   obtain ⟨h4, cur, h5⟩ := h3 a rfl
   exact ⟨[cb a.block e cur], ⟨h1, .inl ⟨h2, some a, rfl, .inr ⟨a, cur, rfl, rfl⟩⟩⟩, fin _ _ rfl h5 h4⟩
 ·exact ⟨[cb g e cur], ⟨h1, .inr ⟨g, off, cap, cur, rfl, rfl, h3, h4, h5, h6⟩⟩, fin _ _ rfl hh hge⟩
theorem form (h : Gq e size v n xs A) : ∃ ad c, v = .slice ad n c ∧ n ≤ c := by
 rcases h.2 with ⟨h1, ad, rfl, _⟩ | ⟨g, off, cap, cur, rfl, _, h3, _⟩
 ·exact ⟨ad, 0, by rw [h1], by omega⟩
 ·exact ⟨_, _, rfl, h3⟩
theorem drop {ad : Option Addr} {c : Nat} (h : Gq e size (.slice ad n c) n xs A) (k : Nat) (hk : k ≤ n) : Gq e size (.slice (if c = k then ad else ad.map (·.add (k * size))) (n - k) (c - k)) (n - k) (xs.drop (k * size)) A := by
 refine ⟨by rw [List.length_drop, h.1, Nat.sub_mul], ?_⟩
 rcases h.2 with ⟨h1, ad', h2, h3⟩ | ⟨g, off, cap, cur, h2, rfl, h3, h4, h5, h6⟩
 ·simp only [Value.slice.injEq] at h2
  obtain ⟨rfl, _, rfl⟩ := h2
  have hk0 : k = 0 := by omega
  subst hk0
  exact .inl ⟨by omega, ad, by simp [h1], h3⟩
 ·simp only [Value.slice.injEq] at h2
  obtain ⟨rfl, _, rfl⟩ := h2
  by_cases hck : c = k
  ·have : n = k := by omega
   subst this
   rw [if_pos hck]
   refine .inl ⟨by omega, some ⟨g, off * size, none⟩, by simp [hck], .inr ⟨_, cur, rfl, rfl⟩⟩
  ·rw [if_neg hck]
   refine .inr ⟨g, off + k, c - k, cur, ?_, rfl, by omega, by omega, by rw [h5]; congr 1; omega, ?_⟩
   ·rw [Option.map_some, add_at, Nat.add_mul]
   ·rw [← h6, List.drop_take, List.drop_drop, Nat.add_mul, Nat.sub_mul]
theorem addr {ad : Option Addr} {c : Nat} (h : Gq e size (.slice ad n c) n xs A) (hn : 0 < n) : ∃ g off cur, ad = some ⟨g, off * size, none⟩ ∧ A = [cb g e cur] ∧ n ≤ c ∧ ∀ i, i < n * size → cur[off * size + i]? = xs[i]? := by
 rcases h.2 with ⟨h1, _⟩ | ⟨g, off, cap, cur, h2, rfl, h3, h4, h5, h6⟩
 ·omega
 ·simp only [Value.slice.injEq] at h2
  obtain ⟨rfl, _, rfl⟩ := h2
  refine ⟨g, off, cur, rfl, rfl, h3, fun i hi => ?_⟩
  rw [← h6, List.getElem?_take, if_pos hi, List.getElem?_drop]
  simp
end Gq
section
variable {P : Program} {ops : Array Oper} {rest : List Oper} {o : Oper} {a : Act} {Q : Exit → Act → World → Prop} {K : Act → World → Prop} {w0 w : World} {L A : List Ob}
end
theorem Hv.c1 {w0 w : World} {L : List Ob} (h : Hv w0 w L) (g t : Nat) (a : Value) (hm : cb g t #[a] ∈ L) : w.cell? ⟨g, 0, none⟩ = some a ∧ w.frozen? ⟨g, 0, none⟩ = false :=
 ⟨h.cell hm 0 rfl, h.frozen hm 0⟩
theorem Hv.c2 {w0 w : World} {L : List Ob} (h : Hv w0 w L) (g t : Nat) (a b : Value) (hm : cb g t #[a, b] ∈ L) : w.cell? ⟨g, 0, none⟩ = some a ∧ w.cell? ⟨g, 1, none⟩ = some b ∧ w.frozen? ⟨g, 0, none⟩ = false ∧ w.frozen? ⟨g, 1, none⟩ = false :=
 ⟨h.cell hm 0 rfl, h.cell hm 1 rfl, h.frozen hm 0, h.frozen hm 1⟩
theorem Hv.c3 {w0 w : World} {L : List Ob} (h : Hv w0 w L) (g t : Nat) (a b c : Value) (hm : cb g t #[a, b, c] ∈ L) : w.cell? ⟨g, 0, none⟩ = some a ∧ w.cell? ⟨g, 1, none⟩ = some b ∧ w.cell? ⟨g, 2, none⟩ = some c ∧ w.frozen? ⟨g, 0, none⟩ = false ∧ w.frozen? ⟨g, 1, none⟩ = false ∧ w.frozen? ⟨g, 2, none⟩ = false :=
 ⟨h.cell hm 0 rfl, h.cell hm 1 rfl, h.cell hm 2 rfl, h.frozen hm 0, h.frozen hm 1, h.frozen hm 2⟩
theorem Hv.c4 {w0 w : World} {L : List Ob} (h : Hv w0 w L) (g t : Nat) (a b c d : Value) (hm : cb g t #[a, b, c, d] ∈ L) : w.cell? ⟨g, 0, none⟩ = some a ∧ w.cell? ⟨g, 1, none⟩ = some b ∧ w.cell? ⟨g, 2, none⟩ = some c ∧ w.cell? ⟨g, 3, none⟩ = some d ∧ w.frozen? ⟨g, 0, none⟩ = false ∧ w.frozen? ⟨g, 1, none⟩ = false ∧ w.frozen? ⟨g, 2, none⟩ = false ∧ w.frozen? ⟨g, 3, none⟩ = false :=
 ⟨h.cell hm 0 rfl, h.cell hm 1 rfl, h.cell hm 2 rfl, h.cell hm 3 rfl, h.frozen hm 0, h.frozen hm 1, h.frozen hm 2, h.frozen hm 3⟩
theorem Hv.c5 {w0 w : World} {L : List Ob} (h : Hv w0 w L) (g t : Nat) (a b c d e : Value) (hm : cb g t #[a, b, c, d, e] ∈ L) : w.cell? ⟨g, 0, none⟩ = some a ∧ w.cell? ⟨g, 1, none⟩ = some b ∧ w.cell? ⟨g, 2, none⟩ = some c ∧ w.cell? ⟨g, 3, none⟩ = some d ∧ w.cell? ⟨g, 4, none⟩ = some e ∧ w.frozen? ⟨g, 0, none⟩ = false ∧ w.frozen? ⟨g, 1, none⟩ = false ∧ w.frozen? ⟨g, 2, none⟩ = false ∧ w.frozen? ⟨g, 3, none⟩ = false ∧ w.frozen? ⟨g, 4, none⟩ = false :=
 ⟨h.cell hm 0 rfl, h.cell hm 1 rfl, h.cell hm 2 rfl, h.cell hm 3 rfl, h.cell hm 4 rfl, h.frozen hm 0, h.frozen hm 1, h.frozen hm 2, h.frozen hm 3, h.frozen hm 4⟩
theorem Hv.nilR {w0 w : World} {A : List Ob} (h : Hv w0 w A) : Hv w0 w (A ++ []) := by rw [List.append_nil]; exact h
theorem news_new (W : World) (cs : List Value) (t n : Nat) (hn : W.heap.size = n) : ∀ j u, cs[j]? = some u → (W.alloc (.cells cs.toArray t)).cell? ((⟨n, 0, none⟩ : Addr).add j) = some u := by
 subst hn
 simpa using World.news_of_block (cs := cs.toArray) (t := t) (fr := (0, 0)) (heap_alloc_new W (.cells cs.toArray t))
end Go.Proofs.Ytglbcfkmaamhaaa.Hv
end
namespace Go.Proofs.Ytglbcfkmaamhaaa.Arm
open Go Go.RowKit Go.Proofs.YtglbcfkmaamhaaaW.PrintWords Go.Proofs.Ytglbcfkmaamhaaa.Hv
section
theorem flat_length {k : Nat} : ∀ (l : List (List Value)), (∀ r ∈ l, r.length = k) → l.flatten.length = l.length * k
 | [], _ => by simp
 | r :: l, h => by
  have h1 := flat_length l (fun q hq => h q (by simp [hq]))
  have h2 := h r (by simp)
  rw [List.flatten_cons, List.length_append, h1, h2, List.length_cons, Nat.succ_mul, Nat.add_comm]
theorem flat_get {k : Nat} : ∀ (l : List (List Value)), (∀ r ∈ l, r.length = k) → ∀ (i j : Nat) (r : List Value), l[i]? = some r → j < k → l.flatten[i * k + j]? = r[j]?
 | [], _, i, j, r, hi, _ => by simp at hi
 | q :: l, h, i, j, r, hi, hj => by
  have h2 := h q (by simp)
  rw [List.flatten_cons]
  cases i with
  | zero =>
   have e : q = r := by simpa using hi
   subst e
   rw [Nat.zero_mul, Nat.zero_add, List.getElem?_append_left (by omega)]
  | succ i =>
   have hi' : l[i]? = some r := by simpa using hi
   have e : (i + 1) * k + j = k + (i * k + j) := by rw [Nat.succ_mul]; omega
   rw [e, List.getElem?_append_right (by omega), h2, Nat.add_sub_cancel_left]
   exact flat_get l (fun q hq => h q (by simp [hq])) i j r hi' hj
theorem flat_set {k : Nat} : ∀ (l : List (List Value)), (∀ r ∈ l, r.length = k) → ∀ (i j : Nat) (r : List Value) (v : Value), l[i]? = some r → j < k → l.flatten.set (i * k + j) v = (l.set i (r.set j v)).flatten
 | [], _, i, j, r, v, hi, _ => by simp at hi
 | q :: l, h, i, j, r, v, hi, hj => by
  have h2 := h q (by simp)
  rw [List.flatten_cons]
  cases i with
  | zero =>
   have e : q = r := by simpa using hi
   subst e
   rw [Nat.zero_mul, Nat.zero_add, List.set_append_left _ _ (by omega)]
   rfl
  | succ i =>
   have hi' : l[i]? = some r := by simpa using hi
   have e : (i + 1) * k + j = k + (i * k + j) := by rw [Nat.succ_mul]; omega
   rw [e, List.set_append_right _ _ (by omega), h2, Nat.add_sub_cancel_left, flat_set l (fun q hq => h q (by simp [hq])) i j r v hi' hj]
   rfl
structure Sl where
 x : List Value
 gen : Int
 taken : Bool
structure Ar where
 slots : List Sl
 back : List Int
 ever : Int
def Sl.cells (s : Sl) : List Value := s.x ++ [.int .i64 s.gen, .bool s.taken]
def Ar.n (s : Ar) : Nat := s.slots.length
def Ar.held (s : Ar) : Nat := s.slots.countP (·.taken)
def Ar.room (s : Ar) : Int := (s.n : Int) - s.held
def flat (l : List Sl) : Array Value := ((l.map Sl.cells).flatten).toArray
def Sl.z : Sl := ⟨[], 0, false⟩
def Ar.slot (s : Ar) (i : Int) : Sl := s.slots.getD i.toNat Sl.z
structure Ar.Ok (m : Nat) (X : List Value → Prop) (s : Ar) : Prop where
 len : ∀ q ∈ s.slots, q.x.length = m
 shp : ∀ q ∈ s.slots, X q.x
 most : s.n ≤ 4096
 sum : (s.held : Int) + s.back.length = s.ever
 ever : s.ever ≤ s.n
 back : ∀ b ∈ s.back, 0 ≤ b ∧ b < s.ever
 nod : s.back.Nodup
 bfree : ∀ b ∈ s.back, (s.slot b).taken = false
 efree : ∀ i : Int, s.ever ≤ i → (s.slot i).taken = false
def Ar.next (s : Ar) : Int := if s.back = [] then s.ever else s.back.getLastD 0
def Ar.gen (s : Ar) : Int := wrap64 ((s.slot s.next).gen + 1)
def Ar.take (s : Ar) (x : List Value) : Ar := ⟨s.slots.set s.next.toNat ⟨x, s.gen, true⟩, s.back.dropLast, if s.back = [] then s.ever + 1 else s.ever⟩
def tk (s : Ar) : Int × Int × Int := if s.room = 0 then (0, 0, 20) else (s.next, s.gen, 0)
def Ar.took (s : Ar) (x : List Value) : Ar := if s.room = 0 then s else s.take x
def Ar.has (s : Ar) (i g : Int) : Bool := decide (0 ≤ i ∧ i < s.n) && ((s.slot i).taken && decide ((s.slot i).gen = g))
def Ar.put (s : Ar) (i : Int) (x : List Value) : Ar := { s with slots := s.slots.set i.toNat ⟨x, (s.slot i).gen, true⟩ }
def Ar.set (s : Ar) (i g : Int) (x : List Value) : Ar := if s.has i g then s.put i x else s
def Ar.drop (s : Ar) (i : Int) (z : List Value) : Ar := { s with slots := s.slots.set i.toNat ⟨z, (s.slot i).gen, false⟩, back := s.back ++ [i] }
def Ar.free (s : Ar) (i g : Int) (z : List Value) : Ar := if s.has i g then s.drop i z else s
def liveFrom : Nat → List Sl → List (Int × Int)
 | _, [] => []
 | k, q :: l => if q.taken then ((k : Int), q.gen) :: liveFrom (k + 1) l else liveFrom (k + 1) l
def Ar.live (s : Ar) : List (Int × Int) := liveFrom 0 s.slots
def Ar.new (n : Nat) (z : List Value) : Ar := ⟨List.replicate n ⟨z, 0, false⟩, [], 0⟩
def many (n : Int) : Nat := if n < 0 ∨ n > 4096 then 0 else n.toNat
theorem live_len : ∀ (l : List Sl) (k : Nat), (liveFrom k l).length = l.countP (·.taken)
 | [], k => rfl
 | q :: l, k => by
  rw [liveFrom, List.countP_cons]
  cases h : q.taken <;> simp [live_len l (k + 1)]
theorem Ar.held_le (s : Ar) : s.held ≤ s.n := List.countP_le_length
theorem slot_eq {s : Ar} {i : Int} (h1 : i.toNat < s.n) : s.slots[i.toNat]? = some (s.slot i) := by
 have : i.toNat < s.slots.length := h1
 simp [Ar.slot, List.getD_eq_getElem?_getD, this]
theorem Ar.has_lt {s : Ar} {i g : Int} (h : s.has i g = true) : 0 ≤ i ∧ i < s.n ∧ (s.slot i).taken = true ∧ (s.slot i).gen = g := by
 simp only [Ar.has, Bool.and_eq_true, decide_eq_true_eq] at h
 exact ⟨h.1.1, h.1.2, h.2.1, h.2.2⟩
theorem count_set (l : List Sl) (i : Nat) (q r : Sl) (h : l[i]? = some q) : (l.set i r).countP (·.taken) + (if q.taken then 1 else 0) = l.countP (·.taken) + (if r.taken then 1 else 0) := by
 induction l generalizing i with
 | nil => simp at h
 | cons a l ih =>
  cases i with
  | zero =>
   have e : a = q := by simpa using h
   subst e
   rw [List.set_cons_zero, List.countP_cons, List.countP_cons]
   omega
  | succ i =>
   have := ih i (by simpa using h)
   rw [List.set_cons_succ, List.countP_cons, List.countP_cons]
   omega
section
variable {m : Nat} {X : List Value → Prop} {s : Ar}
theorem Ar.Ok.next (h : s.Ok m X) (hr : ¬ s.room = 0) : 0 ≤ s.next ∧ s.next < s.n := by
 have h1 := h.sum
 have h2 := h.ever
 have h3 := s.held_le
 unfold Ar.room at hr
 unfold Ar.next
 by_cases e : s.back = []
 ·rw [if_pos e]
  rw [e] at h1
  simp at h1
  omega
 ·rw [if_neg e]
  have := h.back (s.back.getLastD 0) (by rw [List.getLastD_eq_getLast?, List.getLast?_eq_some_getLast e]; simp)
  omega
theorem slot_mem {i : Int} (h1 : i.toNat < s.n) : s.slot i ∈ s.slots := List.mem_of_getElem? (slot_eq h1)
theorem Ar.Ok.cells (h : s.Ok m X) : ∀ r ∈ s.slots.map Sl.cells, r.length = m + 2 := by
 intro r hr
 obtain ⟨q, hq, rfl⟩ := List.mem_map.1 hr
 simp [Sl.cells, h.len q hq]
theorem Ar.Ok.size (h : s.Ok m X) : (flat s.slots).size = s.n * (m + 2) := by
 simp only [flat, List.size_toArray]
 rw [flat_length _ h.cells, List.length_map]
 rfl
theorem Ar.Ok.cell (h : s.Ok m X) {i : Int} (h1 : i.toNat < s.n) (j : Nat) (hj : j < m + 2) : (flat s.slots)[i.toNat * (m + 2) + j]? = (s.slot i).cells[j]? := by
 simp only [flat, List.getElem?_toArray]
 exact flat_get _ h.cells _ _ _ (by rw [List.getElem?_map, slot_eq h1]; rfl) hj
theorem slot_set (s : Ar) (l : List Int) (e : Int) (i : Nat) (q : Sl) (j : Int) (hi : i < s.n) : (⟨s.slots.set i q, l, e⟩ : Ar).slot j = if j.toNat = i then q else s.slot j := by
 have hi' : i < s.slots.length := hi
 simp only [Ar.slot, List.getD_eq_getElem?_getD]
 by_cases h : j.toNat = i
 ·rw [if_pos h, h, List.getElem?_set_self hi']
  rfl
 ·rw [if_neg h, List.getElem?_set_ne (fun e => h e.symm)]
theorem Ar.held_put {i q : Int} (hq : s.has i q = true) (x : List Value) : (s.put i x).held = s.held := by
 obtain ⟨h1, h2, h3, h4⟩ := Ar.has_lt hq
 have this := count_set s.slots i.toNat (s.slot i) ⟨x, (s.slot i).gen, true⟩ (slot_eq (s := s) (i := i) (by omega))
 rw [h3] at this
 simpa [Ar.held, Ar.put] using this
theorem Ar.held_drop {i q : Int} (hq : s.has i q = true) (z : List Value) : (s.drop i z).held + 1 = s.held := by
 obtain ⟨h1, h2, h3, h4⟩ := Ar.has_lt hq
 have this := count_set s.slots i.toNat (s.slot i) ⟨z, (s.slot i).gen, false⟩ (slot_eq (s := s) (i := i) (by omega))
 rw [h3] at this
 simpa [Ar.held, Ar.drop] using this
theorem Ar.Ok.put (h : s.Ok m X) {i q : Int} (hq : s.has i q = true) {x : List Value} (hx : x.length = m) (hX : X x) : (s.put i x).Ok m X := by
 obtain ⟨h1, h2, h3, h4⟩ := Ar.has_lt hq
 have hc := Ar.held_put hq x
 have hn : (s.put i x).n = s.n := by simp [Ar.n, Ar.put]
 have hs : ∀ j, ((s.put i x).slot j).taken = (s.slot j).taken := fun j => by
  rw [Ar.put, slot_set _ _ _ _ _ _ (by omega)]
  by_cases e : j.toNat = i.toNat
  ·rw [if_pos e]
   have : s.slot j = s.slot i := by simp only [Ar.slot, e]
   rw [this, h3]
  ·rw [if_neg e]
 refine ⟨fun q hq => ?_, fun q hq => ?_, by rw [hn]; exact h.most, by rw [hc]; exact h.sum, by rw [hn]; exact h.ever, h.back, h.nod, fun b hb => by rw [hs]; exact h.bfree b hb, fun b hb => by rw [hs]; exact h.efree b hb⟩
 ·rcases List.mem_or_eq_of_mem_set hq with hq | rfl
  ·exact h.len q hq
  ·exact hx
 ·rcases List.mem_or_eq_of_mem_set hq with hq | rfl
  ·exact h.shp q hq
  ·exact hX
theorem Ar.Ok.lt (h : s.Ok m X) {i q : Int} (hq : s.has i q = true) : i < s.ever := by
 obtain ⟨h1, h2, h3, h4⟩ := Ar.has_lt hq
 rcases Int.lt_or_le i s.ever with h5 | h5
 ·exact h5
 ·rw [h.efree i h5] at h3
  cases h3
theorem Ar.Ok.drop (h : s.Ok m X) {i q : Int} (hq : s.has i q = true) {z : List Value} (hz : z.length = m) (hX : X z) : (s.drop i z).Ok m X := by
 obtain ⟨h1, h2, h3, h4⟩ := Ar.has_lt hq
 have h5 := h.lt hq
 have hc := Ar.held_drop hq z
 have hn : (s.drop i z).n = s.n := by simp [Ar.n, Ar.drop]
 have hsum := h.sum
 have hs : ∀ j, j.toNat ≠ i.toNat → ((s.drop i z).slot j) = (s.slot j) := fun j hj => by
  rw [Ar.drop, slot_set _ _ _ _ _ _ (by omega), if_neg hj]
 have hsi : ∀ j : Int, j.toNat = i.toNat → ((s.drop i z).slot j).taken = false := fun j hj => by
  rw [Ar.drop, slot_set _ _ _ _ _ _ (by omega), if_pos hj]
 have hfree : ∀ j, (s.slot j).taken = false → ((s.drop i z).slot j).taken = false := fun j hj => by
  by_cases e : j.toNat = i.toNat
  ·exact hsi j e
  ·rw [hs j e]
   exact hj
 refine ⟨fun q hq => ?_, fun q hq => ?_, by rw [hn]; exact h.most, ?_, by rw [hn]; exact h.ever, fun b hb => ?_, ?_, fun b hb => ?_, fun b hb => hfree b (h.efree b hb)⟩
 ·rcases List.mem_or_eq_of_mem_set hq with hq | rfl
  ·exact h.len q hq
  ·exact hz
 ·rcases List.mem_or_eq_of_mem_set hq with hq | rfl
  ·exact h.shp q hq
  ·exact hX
 ·simp only [Ar.drop, List.length_append, List.length_singleton] at hc ⊢
  omega
 ·rcases List.mem_append.1 hb with hb | hb
  ·exact h.back b hb
  ·rw [List.mem_singleton.1 hb]
   exact ⟨h1, h5⟩
 ·refine List.nodup_append.2 ⟨h.nod, by simp, fun a ha b hb => ?_⟩
  rw [List.mem_singleton.1 hb]
  rintro rfl
  rw [h.bfree a ha] at h3
  cases h3
 ·rcases List.mem_append.1 hb with hb | hb
  ·exact hfree b (h.bfree b hb)
  ·rw [List.mem_singleton.1 hb]
   exact hsi i rfl
theorem Ar.Ok.free (h : s.Ok m X) : (s.slot s.next).taken = false := by
 unfold Ar.next
 by_cases e : s.back = []
 ·rw [if_pos e]
  exact h.efree _ (Int.le_refl _)
 ·rw [if_neg e]
  refine h.bfree _ ?_
  rw [List.getLastD_eq_getLast?, List.getLast?_eq_some_getLast e]
  simp
theorem Ar.Ok.held_take (h : s.Ok m X) (hr : ¬ s.room = 0) (x : List Value) : (s.take x).held = s.held + 1 := by
 obtain ⟨h1, h2⟩ := h.next hr
 have this := count_set s.slots s.next.toNat (s.slot s.next) ⟨x, s.gen, true⟩ (slot_eq (by omega))
 rw [h.free] at this
 simpa [Ar.held, Ar.take] using this
theorem Ar.Ok.take (h : s.Ok m X) (hr : ¬ s.room = 0) {x : List Value} (hx : x.length = m) (hX : X x) : (s.take x).Ok m X := by
 obtain ⟨h1, h2⟩ := h.next hr
 have hc := h.held_take hr x
 have hn : (s.take x).n = s.n := by simp [Ar.n, Ar.take]
 have hsum := h.sum
 have hev := h.ever
 have hs : ∀ j : Int, 0 ≤ j → j ≠ s.next → ((s.take x).slot j) = (s.slot j) := fun j h0 hj => by
  rw [Ar.take, slot_set _ _ _ _ _ _ (by omega), if_neg (by omega)]
 have hev0 : 0 ≤ s.ever := by omega
 refine ⟨fun q hq => ?_, fun q hq => ?_, by rw [hn]; exact h.most, ?_, ?_, fun b hb => ?_, h.nod.sublist (List.dropLast_sublist _), fun b hb => ?_, fun b hb => ?_⟩
 ·rcases List.mem_or_eq_of_mem_set hq with hq | rfl
  ·exact h.len q hq
  ·exact hx
 ·rcases List.mem_or_eq_of_mem_set hq with hq | rfl
  ·exact h.shp q hq
  ·exact hX
 ·rw [hc]
  by_cases e : s.back = []
  ·simp only [Ar.take, e, List.dropLast_nil, List.length_nil, if_pos]
   rw [e] at hsum
   simp at hsum
   simp
   omega
  ·have : 0 < s.back.length := List.length_pos_iff.2 e
   simp only [Ar.take, if_neg e, List.length_dropLast]
   omega
 ·rw [hn]
  by_cases e : s.back = []
  ·simp only [Ar.take, if_pos e]
   simp only [Ar.next, if_pos e] at h2
   omega
  ·simp only [Ar.take, if_neg e]
   exact hev
 ·have := h.back b ((List.dropLast_sublist _).mem hb)
  simp only [Ar.take]
  split <;> omega
 ·have hb' := (List.dropLast_sublist _).mem hb
  have e : s.back ≠ [] := fun e => by rw [e] at hb'; simp at hb'
  have hne : b ≠ s.next := by
   rintro rfl
   simp only [Ar.next, if_neg e, Ar.take] at hb
   rw [List.getLastD_eq_getLast?, List.getLast?_eq_some_getLast e] at hb
   have h5 := h.nod
   rw [← List.dropLast_concat_getLast e] at h5
   exact (List.nodup_append.1 h5).2.2 _ hb _ (by simp) rfl
  rw [hs b (h.back b hb').1 hne]
  exact h.bfree b hb'
 ·by_cases e : s.back = []
  ·simp only [Ar.take, if_pos e] at hb
   have hne : b ≠ s.next := by simp only [Ar.next, if_pos e]; omega
   rw [hs b (by omega) hne]
   exact h.efree b (by omega)
  ·simp only [Ar.take, if_neg e] at hb
   have hne : b ≠ s.next := by
    simp only [Ar.next, if_neg e]
    have := h.back (s.back.getLastD 0) (by rw [List.getLastD_eq_getLast?, List.getLast?_eq_some_getLast e]; simp)
    omega
   rw [hs b (by omega) hne]
   exact h.efree b hb
theorem new_ok (n : Nat) (hn : n ≤ 4096) (z : List Value) (hz : z.length = m) (hX : X z) : (Ar.new n z).Ok m X := by
 have hs : ∀ i, ((Ar.new n z).slot i).taken = false := fun i => by
  simp only [Ar.new, Ar.slot, List.getD_eq_getElem?_getD, List.getElem?_replicate]
  split <;> rfl
 refine ⟨fun q hq => ?_, fun q hq => ?_, by simp [Ar.new, Ar.n]; exact hn, ?_, ?_, by simp [Ar.new], by simp [Ar.new], by simp [Ar.new], fun i _ => hs i⟩
 ·simp only [Ar.new, List.mem_replicate] at hq
  rw [hq.2]
  exact hz
 ·simp only [Ar.new, List.mem_replicate] at hq
  rw [hq.2]
  exact hX
 ·simp [Ar.new, Ar.held, List.countP_replicate]
 ·simp [Ar.new, Ar.n]
theorem flat_put {l : List (List Value)} {k : Nat} (h : ∀ r ∈ l, r.length = k) (i j : Nat) (r : List Value) (v : Value) (hi : l[i]? = some r) (hj : j < k) :
  (l.flatten.toArray).setIfInBounds (i * k + j) v = (l.set i (r.set j v)).flatten.toArray := by
 rw [List.setIfInBounds_toArray, flat_set l h i j r v hi hj]
theorem len_set {l : List (List Value)} {k : Nat} (h : ∀ r ∈ l, r.length = k) (i : Nat) (r : List Value) (hr : r.length = k) : ∀ q ∈ l.set i r, q.length = k := by
 intro q hq
 rcases List.mem_or_eq_of_mem_set hq with hq | rfl
 ·exact h q hq
 ·exact hr
theorem set_same {α : Type} {l : List α} {i : Nat} {a : α} (h : l[i]? = some a) : l.set i a = l := by
 apply List.ext_getElem?
 intro j
 by_cases e : i = j
 ·subst e
  rw [List.getElem?_set_self (List.getElem?_eq_some_iff.1 h).1, h]
 ·rw [List.getElem?_set_ne e]
end
theorem made_flat (zc : List Value) (k n : Nat) (hz : zc.length = k) (hk : 0 < k) : madeCells zc.toArray (n * k) = ((List.replicate n zc).flatten).toArray := by
 have hall : ∀ r ∈ List.replicate n zc, r.length = k := fun r hr => by rw [(List.mem_replicate.1 hr).2, hz]
 have hlen := flat_length _ hall
 rw [List.length_replicate] at hlen
 apply Array.ext
 ·rw [size_madeCells, List.size_toArray, hlen]
 ·intro j h1 h2
  rw [size_madeCells] at h1
  have hj : j / k < n := Nat.div_lt_of_lt_mul (by rw [Nat.mul_comm]; exact h1)
  have hm : j % k < k := Nat.mod_lt _ hk
  have e := flat_get _ hall (j / k) (j % k) zc (by rw [List.getElem?_replicate, if_pos hj]) hm
  rw [show j / k * k + j % k = j by rw [Nat.mul_comm]; exact Nat.div_add_mod j k] at e
  have hm' : j % k < zc.length := by omega
  rw [List.getElem?_eq_getElem (by rw [hlen]; exact h1), List.getElem?_eq_getElem hm'] at e
  have e' := Option.some.inj e
  simp only [List.getElem_toArray]
  rw [e']
  simp only [madeCells, Array.getElem_map, Array.getElem_range, List.size_toArray, hz]
  rw [getElem!_pos _ _ (by simpa using hm')]
  simp
def refs (l : List (Int × Int)) : List Value := l.flatMap (fun p => [.int .i64 p.1, .int .i64 p.2])
theorem live_take (s : Ar) (k : Nat) (h : k < s.slots.length) : liveFrom 0 (s.slots.take (k + 1)) = liveFrom 0 (s.slots.take k) ++ (if (s.slot k).taken then [((k : Int), (s.slot k).gen)] else []) := by
 have key : ∀ (l : List Sl) (j : Nat) (q : Sl), liveFrom j (l ++ [q]) = liveFrom j l ++ (if q.taken then [(((j + l.length : Nat) : Int), q.gen)] else []) := by
  intro l
  induction l with
  | nil => intro j q; cases h : q.taken <;> simp [liveFrom, h]
  | cons a l ih =>
   intro j q
   rw [List.cons_append, liveFrom, liveFrom, ih (j + 1) q, List.length_cons, show j + 1 + l.length = j + (l.length + 1) by omega]
   cases a.taken <;> simp
 have e : s.slots[k]? = some (s.slot k) := slot_eq (i := (k : Int)) (by simpa [Ar.n] using h)
 rw [List.take_succ_eq_append_getElem h, key, List.length_take, Nat.min_eq_left (by omega), Nat.zero_add]
 rw [List.getElem?_eq_getElem h] at e
 rw [Option.some.inj e]
end
end Go.Proofs.Ytglbcfkmaamhaaa.Arm
