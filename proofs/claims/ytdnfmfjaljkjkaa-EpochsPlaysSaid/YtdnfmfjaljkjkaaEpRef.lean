/- The reference's epochs (printed functions) against the state: in plain Lean. -/
import Derived.Test.YtdnfmfjaljkjkaaEpC
import Derived.Test.YtdnfmfjaljkjkaaQEpochsPlaysx2
set_option linter.unusedVariables false
set_option linter.unusedSimpArgs false
namespace Go.Proofs.Ytdnfmfjaljkjkaa.Ep
open Go Go.RowKit Go.Proofs.YtdnfmfjaljkjkaaW.PrintWords Go.Proofs.YtdnfmfjaljkjkaaW.PrintLast Go.Proofs.YtdnfmfjaljkjkaaW.PrintMore Go.Proofs.Ytdnfmfjaljkjkaa.PEpochsPlays

theorem ref_new {n m : Int} (h : 1 ≤ n ∧ n ≤ 7 ∧ 1 ≤ m ∧ m ≤ 1048575) : transomref19_New.f n m = some (1, m, List.replicate n.toNat 0, 0) := by
  unfold transomref19_New.f
  rw [if_neg (by omega), if_neg (by omega), if_neg (by omega), if_neg (by omega), if_pos (by omega), if_pos (by omega)]
theorem ref_new_bad {n m : Int} (h : ¬ (1 ≤ n ∧ n ≤ 7 ∧ 1 ≤ m ∧ m ≤ 1048575)) : transomref19_New.f n m = some (0, 0, [], 1) := by
  unfold transomref19_New.f
  by_cases h1 : n < 1
  · rw [if_pos h1]
  · by_cases h2 : n > 7
    · rw [if_neg h1, if_pos h2]
    · by_cases h3 : m < 1
      · rw [if_neg h1, if_neg h2, if_pos h3]
      · rw [if_neg h1, if_neg h2, if_neg h3, if_pos (by omega)]
theorem ref_set (a m : Int) (l : List Int) (i v : Int) (h0 : 0 ≤ i) (h1 : i < l.length) (h2 : l.length ≤ 1000) : transomref19_set.f a m l i v = some (a, m, l.set i.toNat v) := by
  unfold transomref19_set.f
  rw [if_pos h0, if_pos h1, if_pos h2]
theorem ref_pin (s : St) (i : Int) (h : s.pins.length ≤ 7) : transomref19_Pin.f s.now s.most s.pins i = some ((s.pin i).now, (s.pin i).most, (s.pin i).pins, s.pinOk i) := by
  unfold transomref19_Pin.f
  by_cases h0 : i < 0
  · have e : s.pinOk i = false := by simp [St.pinOk, St.has]; omega
    rw [if_pos h0]; simp [St.pin, e]
  · by_cases h1 : i ≥ (s.pins.length : Int)
    · have e : s.pinOk i = false := by simp [St.pinOk, St.has]; omega
      rw [if_neg h0, if_pos h1]; simp [St.pin, e]
    · rw [if_neg h0, if_neg h1, if_pos (by omega), if_pos (by omega)]
      have hh : s.has i = true := by simp [St.has]; omega
      by_cases h2 : rd s.pins i = 0
      · have e : s.pinOk i = true := by simp [St.pinOk, hh, h2]
        rw [if_pos h2, ref_set _ _ _ _ _ (by omega) (by omega) (by omega)]; simp [St.pin, e]
      · have e : s.pinOk i = false := by simp [St.pinOk, hh, h2]
        rw [if_neg h2]; simp [St.pin, e]
theorem ref_pinned (s : St) (i : Int) (a m : Int) : transomref19_Pinned.f a m s.pins i = some (s.pinVal i, s.pinned i) := by
  unfold transomref19_Pinned.f
  by_cases h0 : i < 0
  · have e : s.pinned i = false := by simp [St.pinned, St.has]; omega
    rw [if_pos h0]; simp [St.pinVal, e]
  · by_cases h1 : i ≥ (s.pins.length : Int)
    · have e : s.pinned i = false := by simp [St.pinned, St.has]; omega
      rw [if_neg h0, if_pos h1]; simp [St.pinVal, e]
    · rw [if_neg h0, if_neg h1, if_pos (by omega), if_pos (by omega)]
      have hh : s.has i = true := by simp [St.has]; omega
      by_cases h2 : rd s.pins i = 0
      · have e : s.pinned i = false := by simp [St.pinned, hh, h2]
        rw [if_pos h2]; simp [St.pinVal, e]
      · have e : s.pinned i = true := by simp [St.pinned, hh, h2]
        rw [if_neg h2]; simp [St.pinVal, e]
theorem ref_unpin (s : St) (i : Int) (h : s.pins.length ≤ 7) : transomref19_Unpin.f s.now s.most s.pins i = some ((s.unpin i).now, (s.unpin i).most, (s.unpin i).pins, s.pinned i) := by
  unfold transomref19_Unpin.f
  rw [ref_pinned, Option.bind_some]
  cases e : s.pinned i with
  | false => rw [if_neg (by simp)]; simp [St.unpin, e]
  | true =>
    have hh : 0 ≤ i ∧ i < s.pins.length := by simp [St.pinned, St.has] at e; omega
    rw [if_pos rfl, ref_set _ _ _ _ _ hh.1 hh.2 (by omega)]
    simp [St.unpin, e]
theorem low_drop (l : List Int) (i : Nat) (h : i < l.length) : lowOf (l.drop i) = (if rd l i = 0 then [] else [rd l i]) ++ lowOf (l.drop (i + 1)) := by
  have e : rd l i = l[i] := by simp [rd, List.getD_eq_getElem?_getD, h]
  rw [List.drop_eq_getElem_cons h, e]
  unfold lowOf
  rw [List.filter_cons]
  by_cases hz : l[i] = 0 <;> simp [hz]
theorem ref_l0 (a m : Int) (l : List Int) (hl : l.length ≤ 1000) : ∀ (d i k : Nat) (n : Int), l.length - i = d → i ≤ l.length → d < k → transomref19_Least.l0 k n (i : Int) a m l = some ((lowOf (l.drop i)).foldl mn n) := by
  intro d
  induction d with
  | zero =>
    intro i k n hd hi hk
    obtain ⟨k, rfl⟩ : ∃ q, k = q + 1 := ⟨k - 1, by omega⟩
    simp only [transomref19_Least.l0]
    rw [if_neg (by omega), show i = l.length by omega, List.drop_length]
    rfl
  | succ d ih =>
    intro i k n hd hi hk
    obtain ⟨k, rfl⟩ : ∃ q, k = q + 1 := ⟨k - 1, by omega⟩
    simp only [transomref19_Least.l0]
    rw [if_pos (by omega), if_pos (by omega), show wrap64 ((i : Int) + 1) = ((i + 1 : Nat) : Int) by unfold wrap64; omega, low_drop l i (by omega)]
    by_cases hz : rd l (i : Int) = 0
    · rw [if_pos hz, if_pos hz, List.nil_append]
      exact ih (i + 1) k n (by omega) (by omega) (by omega)
    · rw [if_neg hz, if_neg hz]
      exact ih (i + 1) k _ (by omega) (by omega) (by omega)
theorem foldl_rev (l : List Int) (n : Int) : l.reverse.foldl mn n = l.foldl mn n := by
  obtain ⟨h1, h2, h3⟩ := foldl_mn l n
  obtain ⟨g1, g2, g3⟩ := foldl_mn l.reverse n
  have a : l.reverse.foldl mn n ≤ l.foldl mn n := by
    rcases h3 with h3 | h3
    · omega
    · exact g2 _ (List.mem_reverse.2 h3)
  have b : l.foldl mn n ≤ l.reverse.foldl mn n := by
    rcases g3 with g3 | g3
    · omega
    · exact h2 _ (List.mem_reverse.1 g3)
  omega
theorem ref_least (s : St) (m : Int) (h : s.pins.length ≤ 7) : transomref19_Least.f 9 s.now m s.pins = some s.least := by
  unfold transomref19_Least.f St.least
  have := ref_l0 s.now m s.pins (by omega) s.pins.length 0 9 s.now (by omega) (by omega) (by omega)
  rw [foldl_rev]
  exact this
theorem ref_tick (s : St) (h : s.pins.length ≤ 7) (hn : s.now ≤ 1048575) (h1 : 1 ≤ s.now) : transomref19_Tick.f 9 s.now s.most s.pins = some (s.tick.2.now, s.tick.2.most, s.tick.2.pins, s.tick.1) := by
  unfold transomref19_Tick.f
  rw [ref_least s _ h, Option.bind_some]
  unfold St.tick
  by_cases h2 : s.least < s.now
  · rw [if_pos h2, if_pos h2]
  · rw [if_neg h2, if_neg h2]
    by_cases h3 : s.now = s.most
    · rw [if_pos h3, if_pos h3]
    · rw [if_neg h3, if_neg h3, show wrap64 (s.now + 1) = s.now + 1 by unfold wrap64; omega]
theorem ref_safe (s : St) (m a : Int) (h : s.pins.length ≤ 7) : transomref19_Safe.f 9 s.now m s.pins a = some (decide (a < s.least)) := by
  unfold transomref19_Safe.f
  rw [ref_least s _ h, Option.bind_some]

/-! ### The reference's state: a struct at xb, its pins a row of the call's own -/
structure XS (W w : World) (xb : Nat) (u : Value) (s : St) (g b : Nat) : Prop where
  hx : w.heap[xb]? = some (.cells #[.int .i64 s.now, .int .i64 s.most, u] 32 (0, 0))
  row : (Kd.int .i64).R 3 w W.heap.size (fun k => u.ownBlock = some k) u s.pins
  ne : u.ownBlock ≠ some b
  nx : W.heap.size ≤ xb
theorem exactR {w : World} {base : Nat} {ok : Nat → Prop} {v : Value} {l : List Int} (h : (Kd.int .i64).R 3 w base ok v l) : (Kd.int .i64).R 3 w base (fun k => v.ownBlock = some k) v l :=
  Kd.R_of_own (Kd.own_of_R h) (fun k hk => hk)
/-- Both states. -/
structure Two (W w : World) (g b xb : Nat) (u : Value) (s : St) : Prop where
  o : Own W w g b s
  x : XS W w xb u s g b
theorem Two.below {W w w' : World} {g b xb : Nat} {u : Value} {s : St} (h : Two W w g b xb u s) (k : Below w.heap.size w w') : Two W w' g b xb u s :=
  ⟨h.o.below k, blk_below h.x.hx k, Kd.R_below h.x.row k, h.x.ne, h.x.nx⟩
theorem Two.drewN {W w : World} {g b xb : Nat} {u : Value} {s : St} (h : Two W w g b xb u s) (n : Nat) : Two W (w.drewN n) g b xb u s := h.below (pw_below_drewN (Below.refl _ _) n)
theorem Two.drew {W w : World} {g b xb : Nat} {u : Value} {s : St} (h : Two W w g b xb u s) : Two W w.drew g b xb u s := h.below (below_drew (Below.refl _ _))
theorem Own.far {W w : World} {g b : Nat} {s : St} (h : Own W w g b s) {p : Addr} (h1 : g ≠ p.block) (h2 : b ≠ p.block) (h3 : W.heap.size ≤ p.block) (v : Value) : Own W (w.setCell p v) g b s :=
  ⟨h.ep.far h1 h2 v, h.bel.setCell h3 v, h.ng, h.nb⟩
/-- Is one safe? -/
def St.safe (s : St) (i : Int) : Bool := decide (i < s.least)
section
variable {W w : World} {g b xb c : Nat} {A : Option Addr} {s : St} (h : Two W w g b xb (.slice A s.pins.length c) s)
include h
theorem Two.Pinned (i : Int) : Calls Try.prog 16 #[.pointer (some ⟨g, 0, none⟩), .int .i64 i] w fun e w' => e = .returned (.tuple #[.int .i64 (s.pinVal i), .bool (s.pinned i)]) ∧ Two W w' g b xb (.slice A s.pins.length c) s :=
  (pinned.calls w g b s h.o.ep i).mono fun e w' ⟨h1, h2⟩ => ⟨h1, h.below h2.below⟩
theorem Two.Now : Calls Try.prog 18 #[.pointer (some ⟨g, 0, none⟩)] w fun e w' => e = .returned (.int .i64 s.now) ∧ Two W w' g b xb (.slice A s.pins.length c) s :=
  (now.calls w g b s h.o.ep).mono fun e w' ⟨h1, h2⟩ => ⟨h1, h.below h2.below⟩
theorem Two.Safe (i : Int) : Calls Try.prog 19 #[.pointer (some ⟨g, 0, none⟩), .int .i64 i] w fun e w' => e = .returned (.bool (s.safe i)) ∧ Two W w' g b xb (.slice A s.pins.length c) s :=
  (safe.calls w g b s h.o.ep i).mono fun e w' ⟨h1, h2⟩ => ⟨h1, h.below h2⟩
theorem Two.read : (Kd.int .i64).C w A s.pins.length s.pins ∧ s.pins.length ≤ c := by
  obtain ⟨A', c', e, h1, h2⟩ := Kd.R_reads h.x.row
  injection e with e1 _ e3
  subst e1 e3
  exact ⟨h2, h1⟩
theorem Two.rPinned (i : Int) : Calls Try.prog 17 #[.agg #[.int .i64 s.now, .int .i64 s.most, .slice A s.pins.length c], .int .i64 i] w fun e w' => e = .returned (.tuple #[.int .i64 (s.pinVal i), .bool (s.pinned i)]) ∧ Two W w' g b xb (.slice A s.pins.length c) s :=
  (transomref19_Pinned.calls s.now s.most A c s.pins i _ _ w h.read.1 h.read.2 (ref_pinned s i _ _)).mono fun e w' ⟨h1, h2⟩ => ⟨h1, h.below h2⟩
theorem Two.rSafe (i : Int) : Calls Try.prog 20 #[.agg #[.int .i64 s.now, .int .i64 s.most, .slice A s.pins.length c], .int .i64 i] w fun e w' => e = .returned (.bool (s.safe i)) ∧ Two W w' g b xb (.slice A s.pins.length c) s :=
  (transomref19_Safe.calls 9 s.now s.most A c s.pins i _ w h.read.1 h.read.2 (ref_safe s _ i h.o.ep.len)).mono fun e w' ⟨h1, h2⟩ => ⟨h1, h.below h2⟩
end

/-- The reference's next state is made, in the y at yb; x stands as it did; the epochs have not been told yet, or have. -/
structure Mid (W w : World) (g b : Nat) (s : St) (xb yb : Nat) (x0 x1 x2 y0 y1 y2 : Value) (u : Value) (l : List Int) : Prop where
  o : Own W w g b s
  hx : w.heap[xb]? = some (.cells #[x0, x1, x2] 32 (0, 0))
  hy : w.heap[yb]? = some (.cells #[y0, y1, y2] 32 (0, 0))
  row : (Kd.int .i64).R 3 w W.heap.size (fun k => u.ownBlock = some k) u l
  ne : u.ownBlock ≠ some b
  nx : W.heap.size ≤ xb
  ny : W.heap.size ≤ yb
  xy : xb ≠ yb
section
variable {W w w' : World} {g b xb yb : Nat} {s s' : St} {x0 x1 x2 y0 y1 y2 u : Value} {l : List Int}
theorem Mid.start (h : Two W w g b xb u s) : Mid W (w.alloc (.cells #[.int .i64 s.now, .int .i64 s.most, u] 32)) g b s xb w.heap.size (.int .i64 s.now) (.int .i64 s.most) u (.int .i64 s.now) (.int .i64 s.most) u u s.pins :=
  have hb : Below w.heap.size w (w.alloc (.cells #[.int .i64 s.now, .int .i64 s.most, u] 32)) := below_alloc (Below.refl _ _) _
  ⟨h.o.below hb, blk_below h.x.hx hb, blk_new _ _, Kd.R_below h.x.row hb, h.x.ne, h.x.nx, h.o.bel.size, by have := blk_lt h.x.hx; omega⟩
/-- A call of the reference's: what it made is the row now. -/
theorem Mid.ref {v : Value} {l' : List Int} (h : Mid W w g b s xb yb x0 x1 x2 y0 y1 y2 u l) (hr : (Kd.int .i64).R 3 w' W.heap.size (fun k => (u.ownBlock = some k ∨ w.heap.size ≤ k)) v l') (hB : Below W.heap.size W w') (hK : Kept w w' (fun k => u.ownBlock = some k)) :
    Mid W w' g b s xb yb x0 x1 x2 y0 y1 y2 v l' := by
  have ty := Kd.R_typed h.row
  have far : ∀ {k : Nat} {t : TypeId} {cs : Array Value}, w.heap[k]? = some (.cells cs t (0, 0)) → t ≠ 3 → ¬ u.ownBlock = some k := fun hk ht he => by
    obtain ⟨cells, hc⟩ := ty _ he
    rw [hk] at hc
    injection hc with hc
    injection hc with _ hc
    exact ht hc
  refine ⟨⟨⟨blk_kept h.o.ep.hg hK (far h.o.ep.hg (by decide)), blk_kept h.o.ep.hb hK h.ne, h.o.ep.len, h.o.ep.num⟩, hB, h.o.ng, h.o.nb⟩, blk_kept h.hx hK (far h.hx (by decide)), blk_kept h.hy hK (far h.hy (by decide)), exactR hr, fun he => ?_, h.nx, h.ny, h.xy⟩
  rcases hr.1 b he with h1 | h1
  · exact h.ne h1
  · have := blk_lt h.o.ep.hb
    omega
/-- A store into y's or x's cells. -/
theorem Mid.putY {z0 z1 z2 : Value} (h : Mid W w g b s xb yb x0 x1 x2 y0 y1 y2 u l) : Mid W (((w.setCell ⟨yb, 0, none⟩ z0).setCell ⟨yb, 1, none⟩ z1).setCell ⟨yb, 2, none⟩ z2) g b s xb yb x0 x1 x2 z0 z1 z2 u l := by
  have n1 := blk_ne h.o.ep.hg h.hy (by decide)
  have n2 := blk_ne h.o.ep.hb h.hy (by decide)
  have ht : ∀ q, q ∈ 3 :: (Kd.int .i64).E → q ≠ 32 := by intro q hq; have : q = 3 := List.mem_singleton.1 hq; omega
  have e1 := blk_put h.hy 0 z0 rfl
  have e2 := blk_put e1 1 z1 rfl
  exact ⟨((h.o.far n1 n2 h.ny z0).far n1 n2 h.ny z1).far n1 n2 h.ny z2, blk_far (blk_far (blk_far h.hx h.xy z0) h.xy z1) h.xy z2, blk_put e2 2 z2 rfl,
    Kd.R_set (Kd.R_set (Kd.R_set h.row h.hy ht 0 z0) e1 ht 1 z1) e2 ht 2 z2, h.ne, h.nx, h.ny, h.xy⟩
theorem Mid.off (h : Mid W w g b s xb yb x0 x1 x2 y0 y1 y2 u l) (ho : Own W w' g b s') (k : Off w w' (At g b)) : Mid W w' g b s' xb yb x0 x1 x2 y0 y1 y2 u l := by
  have n1 := blk_ne h.o.ep.hg h.hy (by decide)
  have n2 := blk_ne h.o.ep.hb h.hy (by decide)
  have n3 := blk_ne h.o.ep.hg h.hx (by decide)
  have n4 := blk_ne h.o.ep.hb h.hx (by decide)
  have ty := Kd.R_typed h.row
  refine ⟨ho, blk_kept h.hx k.kept (by rintro (h | h); exact n3 h.symm; exact n4 h.symm), blk_kept h.hy k.kept (by rintro (h | h); exact n1 h.symm; exact n2 h.symm), Kd.R_kept h.row k.kept (fun q hq => ?_), h.ne, h.nx, h.ny, h.xy⟩
  rintro (he | he)
  · obtain ⟨cells, hc⟩ := ty _ hq
    rw [he, h.o.ep.hg] at hc
    injection hc with hc
    injection hc with _ hc
    exact absurd hc (by decide)
  · exact h.ne (he ▸ hq)
/-- x = y. -/
theorem Mid.copy {t : St} (h : Mid W w g b t xb yb x0 x1 x2 (.int .i64 t.now) (.int .i64 t.most) u u t.pins) :
    Two W (((w.setCell ⟨xb, 0, none⟩ (.int .i64 t.now)).setCell ⟨xb, 1, none⟩ (.int .i64 t.most)).setCell ⟨xb, 2, none⟩ u) g b xb u t := by
  have n1 := blk_ne h.o.ep.hg h.hx (by decide)
  have n2 := blk_ne h.o.ep.hb h.hx (by decide)
  have ht : ∀ q, q ∈ 3 :: (Kd.int .i64).E → q ≠ 32 := by intro q hq; have : q = 3 := List.mem_singleton.1 hq; omega
  have e1 := blk_put h.hx 0 (.int .i64 t.now) rfl
  have e2 := blk_put e1 1 (.int .i64 t.most) rfl
  exact ⟨((h.o.far n1 n2 h.nx _).far n1 n2 h.nx _).far n1 n2 h.nx _, blk_put e2 2 u rfl,
    Kd.R_set (Kd.R_set (Kd.R_set h.row h.hx ht 0 _) e1 ht 1 _) e2 ht 2 _, h.ne, h.nx⟩
end
end Go.Proofs.Ytdnfmfjaljkjkaa.Ep
