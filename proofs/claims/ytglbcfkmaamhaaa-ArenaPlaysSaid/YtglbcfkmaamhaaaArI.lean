/- The arena's methods at one element type: walks. No condition. -/
import Derived.Test.YtglbcfkmaamhaaaProg
import Derived.Test.YtglbcfkmaamhaaaArm
import Derived.Below
import Derived.Deep.Draws
import Derived.Deep.AppendLies
import Derived.Maps.AppendAt
import Derived.OwnWalk
import Derived.Laws.BytesArg
import Derived.Laws.MakeOwn
import Derived.Laws.OwnMore
import Derived.Deep.OwnRows
import Derived.Tactics
import Derived.Lib.ConvBytes
import Derived.Laws.Slices
import Derived.WalkKit
import Derived.KernelRfl
import Derived.RowKit3
import Derived.Deep.LoopGhost
import Derived.Deep.QuietTactic
import Derived.BigQuiet
import Derived.WideLaws
import Derived.Deep.DeepCutAuto
import Derived.Deep.CutBlock
import Derived.Deep.RegionHeld3
import Derived.Laws.Rows
import Derived.Lib.AppendStr
import Derived.ArgAppend
import Derived.Laws.IdiomCopy
import Derived.OrdersHeld
import Derived.Laws.BitsLemmas
import Derived.RowKit
import Derived.WalkLawsBesides
import Derived.BigQuiet
import Derived.Deep.QuietTactic
import Derived.RegionTactic
set_option linter.unusedVariables false
set_option linter.unusedSimpArgs false
namespace Go.Proofs.Ytglbcfkmaamhaaa.ArI
open Go Go.RowKit Go.Proofs.YtglbcfkmaamhaaaW.PrintWords Go.Proofs.YtglbcfkmaamhaaaW.PrintLast Go.Proofs.YtglbcfkmaamhaaaW.PrintMore Go.Proofs.Ytglbcfkmaamhaaa.Hv Go.Proofs.Ytglbcfkmaamhaaa.Arm

/-- What an element's cells are. -/
def XP (x : List Value) : Prop := ∃ (x0 : Int), x = [.int .i64 x0]
/-- The arena's blocks. -/
def AL (g sb : Nat) (bv : Value) (B : List Ob) (s : Ar) : List Ob :=
  cb g 138 #[.slice (some ⟨sb, 0, none⟩) s.n s.n, bv, .int .i64 s.ever, .int .i64 (s.held : Int)] :: cb sb 141 (flat s.slots) :: B
/-- An arena at g, its slots at sb; the other blocks: L. -/
def Arn (w0 w : World) (g sb : Nat) (s : Ar) (L : List Ob) : Prop :=
  ∃ bv B, Hv w0 w (AL g sb bv B s ++ L) ∧ Gr 3 1 bv s.back.length (nums .i64 s.back) B ∧ s.Ok 1 XP
namespace Arn
variable {w0 w w1 : World} {g sb : Nat} {s : Ar} {L L' : List Ob}
theorem call (h : Arn w0 w g sb s L) (hb : Below w.heap.size w w1) : Arn w0 w1 g sb s L := by
  obtain ⟨bv, B, h1, h2, h3⟩ := h
  exact ⟨bv, B, h1.call hb, h2, h3⟩
theorem drewN (h : Arn w0 w g sb s L) (n : Nat) : Arn w0 (w.drewN n) g sb s L := h.call (pw_below_drewN (Below.refl _ _) n)
theorem drew (h : Arn w0 w g sb s L) : Arn w0 w.drew g sb s L := h.call (below_drew1 (Below.refl _ _))
theorem bel (h : Arn w0 w g sb s L) : Below w0.heap.size w0 w := by
  obtain ⟨bv, B, h1, h2, h3⟩ := h
  exact h1.bel
theorem ok (h : Arn w0 w g sb s L) : s.Ok 1 XP := by
  obtain ⟨bv, B, h1, h2, h3⟩ := h
  exact h3
theorem perm (h : Arn w0 w g sb s L) (hp : L'.Perm L) : Arn w0 w g sb s L' := by
  obtain ⟨bv, B, h1, h2, h3⟩ := h
  exact ⟨bv, B, h1.perm (List.Perm.append_left _ hp), h2, h3⟩
theorem other (h : Arn w0 w g sb s L) : Hv w0 w L := by
  obtain ⟨bv, B, h1, h2, h3⟩ := h
  exact h1.right
theorem alloc (h : Arn w0 w g sb s L) (o : Obj) : Arn w0 (w.alloc o) g sb s ((w.heap.size, o) :: L) := by
  obtain ⟨bv, B, h1, h2, h3⟩ := h
  exact ⟨bv, B, (h1.alloc o).perm List.perm_middle, h2, h3⟩
theorem cells (h : Arn w0 w g sb s L) : ∃ bv, (∀ i v, #[.slice (some ⟨sb, 0, none⟩) s.n s.n, bv, .int .i64 s.ever, .int .i64 (s.held : Int)][i]? = some v → w.cell? ⟨g, i, none⟩ = some v) ∧
    (∀ i j : Nat, i < s.n → j < 3 → w.cell? ⟨sb, i * 3 + j, none⟩ = (s.slot i).cells[j]?) := by
  obtain ⟨bv, B, h1, h2, h3⟩ := h
  refine ⟨bv, fun i v hv => h1.cell (g := g) (t := 138) (by simp [AL]) i hv, fun i j hi hj => ?_⟩
  have := blk_cell (h1.box (cb sb 141 (flat s.slots)) (by simp [AL])) (i * 3 + j)
  rw [this]
  exact h3.cell (i := (i : Int)) (by simpa using hi) j hj
end Arn
variable {w0 w w1 : World} {g sb : Nat} {s : Ar} {L L' : List Ob}

set_option maxHeartbeats 4000000 in
set_option maxRecDepth 100000 in
theorem room.calls (h : Arn w0 w g sb s L) : Calls Try.prog 26 #[.pointer (some ⟨g, 0, none⟩)] w fun e w' => e = .returned (.int .i64 s.room) ∧ Drawn0 w w' := by
  obtain ⟨bv, hc, _⟩ := h.cells
  have c0 := hc 0 _ rfl
  have c3 := hc 3 _ rfl
  have hn := h.ok.most
  have hh := s.held_le
  have hu := Try.underlying138
  have e : IntKind.i64.wrap ((s.n : Int) - (s.held : Int)) = s.room := by unfold Ar.room; rw [IntKind.wrap_i64]; omega
  have e' : wrap64 ((s.n : Int) - (s.held : Int)) = s.room := by unfold Ar.room wrap64; omega
  clear hc h hn hh
  go_enter Try.func26, Try.ntmps26
  go_wp2
  go_quiet (fail)
  go_wp2
  go_ret
  exact ⟨by simp, ⟨⟨_, rfl⟩⟩⟩
theorem roomNil.calls (w : World) : Calls Try.prog 26 #[.pointer none] w fun e w' => e = .returned (.int .i64 0) ∧ Drawn0 w w' := by
  go_enter Try.func26, Try.ntmps26
  go_wp2
  go_ret
  exact ⟨by simp, Drawn0.refl _⟩

/-- Where a ref's slot stands. -/
def at_ (s : Ar) (sb : Nat) (i q : Int) : Option Addr := if s.has i q then some ⟨sb, i.toNat * 3, none⟩ else none

theorem apart (h : Arn w0 w g sb s L) : ¬ g = sb ∧ ¬ sb = g ∧ ¬ g = w.heap.size ∧ ¬ sb = w.heap.size := by
  obtain ⟨bv, B, h1, h2, h3⟩ := h
  have h4 := h1.apart (i := 0) (j := 1) (p := cb g 138 #[.slice (some ⟨sb, 0, none⟩) s.n s.n, bv, .int .i64 s.ever, .int .i64 (s.held : Int)]) (q := cb sb 141 (flat s.slots)) rfl rfl (by omega)
  exact ⟨h4, fun e => h4 e.symm, h1.ne (o := .cells #[.slice (some ⟨sb, 0, none⟩) s.n s.n, bv, .int .i64 s.ever, .int .i64 (s.held : Int)] 138) (by simp [AL]), h1.ne (o := .cells (flat s.slots) 141) (by simp [AL])⟩

set_option maxHeartbeats 4000000 in
set_option maxRecDepth 100000 in
theorem at.calls (h : Arn w0 w g sb s L) (i q : Int) : Calls Try.prog 92 #[.pointer (some ⟨g, 0, none⟩), .agg #[.int .i64 i, .int .i64 q]] w fun e w' => e = .returned (.pointer (at_ s sb i q)) ∧ Below w.heap.size w w' := by
  obtain ⟨bv, hc, hs⟩ := h.cells
  have c0 : ∀ o, (w.alloc o).cell? ⟨g, 0, none⟩ = some (.slice (some ⟨sb, 0, none⟩) s.n s.n) := fun o => pw_cell_below (below_alloc (Below.refl _ _) o) (hc 0 _ rfl)
  have hn := h.ok.most
  obtain ⟨n1, n2, n3, n4⟩ := apart h
  have hu := Try.underlying138
  have huE := Try.underlying141
  have huP := Try.underlying24
  have huR := Try.underlying33
  by_cases g0 : i < 0
  · have d0 : decide (i < 0) = true := decide_eq_true g0
    have e : at_ s sb i q = none := by simp [at_, Ar.has]; omega
    clear hc hs h g0
    go_enter Try.func92, Try.ntmps92
    go_wp2
    go_quiet (fail)
    go_wp2
    go_ret
    exact ⟨by simp [e], by (repeat apply pw_below_drewN); exact below_alloc (Below.refl _ _) _⟩
  · have d0 : decide (i < 0) = false := decide_eq_false g0
    by_cases g1 : (s.n : Int) ≤ i
    · have d1 : decide ((s.n : Int) ≤ i) = true := decide_eq_true g1
      have e : at_ s sb i q = none := by simp [at_, Ar.has]; omega
      clear hc hs h g0 g1
      go_enter Try.func92, Try.ntmps92
      go_wp2
      go_quiet (fail)
      go_wp2
      go_ret
      exact ⟨by simp [e], by (repeat apply pw_below_drewN); exact below_alloc (Below.refl _ _) _⟩
    · have d1 : decide ((s.n : Int) ≤ i) = false := decide_eq_false g1
      have b0 : 0 ≤ i := by omega
      have b1 : i < (s.n : Int) := by omega
      have b2 : i.toNat < s.n := by omega
      have cg : ∀ o, (w.alloc o).cell? _ = _ := fun o => pw_cell_below (below_alloc (Below.refl _ _) o) ((hs i.toNat (1) b2 (by omega)).trans (show _ = some (Value.int .i64 (s.slot i).gen) by simp only [Sl.cells, show s.slot (i.toNat : Int) = s.slot i from rfl]; rw [List.getElem?_append_right (by rw [h.ok.len _ (slot_mem b2)]; omega), h.ok.len _ (slot_mem b2)]; rfl))
      have ct : ∀ o, (w.alloc o).cell? _ = _ := fun o => pw_cell_below (below_alloc (Below.refl _ _) o) ((hs i.toNat (1 + 1) b2 (by omega)).trans (show _ = some (Value.bool (s.slot i).taken) by simp only [Sl.cells, show s.slot (i.toNat : Int) = s.slot i from rfl]; rw [List.getElem?_append_right (by rw [h.ok.len _ (slot_mem b2)]; omega), h.ok.len _ (slot_mem b2)]; rfl))
      by_cases g2 : (s.slot i).taken = true
      · have d2 : (!(s.slot i).taken) = false := by simp [g2]
        by_cases g3 : (s.slot i).gen = q
        · have e : at_ s sb i q = some ⟨sb, i.toNat * 3, none⟩ := by simp [at_, Ar.has, g2, g3, b0, b1]
          rw [g3] at cg
          rw [g2] at ct
          clear hc hs h g0 g1 b2 g2 g3 d2
          go_enter Try.func92, Try.ntmps92
          go_wp2
          go_quiet (fail)
          go_wp2
          go_quiet (fail)
          go_wp2
          go_quiet (fail)
          go_wp2
          go_ret
          exact ⟨by simp [e], by (repeat apply pw_below_drewN); exact below_alloc (Below.refl _ _) _⟩
        · have e : at_ s sb i q = none := by simp [at_, Ar.has, g3]
          have d3 : ((s.slot i).gen != q) = true := by simp [g3]
          rw [g2] at ct
          clear hc hs h g0 g1 b2 g2 g3 d2
          go_enter Try.func92, Try.ntmps92
          go_wp2
          go_quiet (fail)
          go_wp2
          go_quiet (fail)
          go_wp2
          go_quiet (fail)
          go_wp2
          go_ret
          exact ⟨by simp [e], by (repeat apply pw_below_drewN); exact below_alloc (Below.refl _ _) _⟩
      · have g2' : (s.slot i).taken = false := by simpa using g2
        have e : at_ s sb i q = none := by simp [at_, Ar.has, g2']
        rw [g2'] at ct
        clear hc hs h g0 g1 b2 g2 g2'
        go_enter Try.func92, Try.ntmps92
        go_wp2
        go_quiet (fail)
        go_wp2
        go_quiet (fail)
        go_wp2
        go_quiet (fail)
        go_wp2
        go_ret
        exact ⟨by simp [e], by (repeat apply pw_below_drewN); exact below_alloc (Below.refl _ _) _⟩

theorem atNil.calls (w : World) (i q : Int) : Calls Try.prog 92 #[.pointer none, .agg #[.int .i64 i, .int .i64 q]] w fun e w' => e = .returned (.pointer none) ∧ Below w.heap.size w w' := by
  have huP := Try.underlying24
  go_enter Try.func92, Try.ntmps92
  go_wp2
  go_quiet (fail)
  go_wp2
  go_ret
  exact ⟨rfl, by (repeat apply pw_below_drewN); exact below_alloc (Below.refl _ _) _⟩

/-- The cells of a slot, where its x is known. -/
theorem slot_cells (h : Arn w0 w g sb s L) {i : Int} (b0 : 0 ≤ i) (b1 : i < s.n) (x0 : Int) (hx : (s.slot i).x = [.int .i64 x0]) : w.cell? ⟨sb, i.toNat * 3, none⟩ = some (.int .i64 x0) ∧ w.cell? ⟨sb, i.toNat * 3 + 1, none⟩ = some (.int .i64 (s.slot i).gen) ∧ w.cell? ⟨sb, i.toNat * 3 + 2, none⟩ = some (.bool (s.slot i).taken) := by
  obtain ⟨bv, hc, hs⟩ := h.cells
  have b2 : i.toNat < s.n := by omega
  have e : s.slot (i.toNat : Int) = s.slot i := rfl
  have hj : ∀ j, j < 3 → w.cell? ⟨sb, i.toNat * 3 + j, none⟩ = (s.slot i).cells[j]? := fun j hj => by rw [hs i.toNat j b2 hj, e]
  simp only [Sl.cells, hx] at hj
  exact ⟨(hj 0 (by omega)).trans rfl, (hj 1 (by omega)).trans rfl, (hj 2 (by omega)).trans rfl⟩

set_option maxHeartbeats 4000000 in
set_option maxRecDepth 100000 in
theorem get.calls (h : Arn w0 w g sb s L) (i q : Int) (hq : s.has i q = true) (x0 : Int) (hx : (s.slot i).x = [.int .i64 x0]) : Calls Try.prog 22 #[.pointer (some ⟨g, 0, none⟩), .agg #[.int .i64 i, .int .i64 q]] w fun e w' => e = .returned (.tuple #[.int .i64 x0, .bool true]) ∧ Below w.heap.size w w' := by
  have ea : at_ s sb i q = some ⟨sb, i.toNat * 3, none⟩ := by simp [at_, hq]
  obtain ⟨b0, b1, _⟩ := Ar.has_lt hq
  have HH := Aside0.mk h
  have hn4 := (apart h).2.2.2
  have huE := Try.underlying141
  have huQ := Try.underlying139
  clear h
  go_enter Try.func22, Try.ntmps22
  go_wp2_with (go_at_call 92; refine (at.calls (HH.out.alloc _) i q).mono ?_; rintro e1 w1 ⟨rfl, hb⟩; have HB := Aside0.mk hb; obtain ⟨sc0, sc1, sc2⟩ := slot_cells ((HH.out.alloc _).call hb) b0 b1 (x0) hx; clear hb; simp only [ea])
  go_ret2
  exact ⟨rfl, below_then (below_alloc (Below.refl _ _) _) (by simp) HB.out⟩

set_option maxHeartbeats 4000000 in
set_option maxRecDepth 100000 in
theorem getNo.calls (h : Arn w0 w g sb s L) (i q : Int) (hq : s.has i q = false) : Calls Try.prog 22 #[.pointer (some ⟨g, 0, none⟩), .agg #[.int .i64 i, .int .i64 q]] w fun e w' => e = .returned (.tuple #[.int .i64 0, .bool false]) ∧ Below w.heap.size w w' := by
  have ea : at_ s sb i q = none := by simp [at_, hq]
  have HH := Aside0.mk h
  have huQ := Try.underlying139
  clear h
  go_enter Try.func22, Try.ntmps22
  go_wp2_with (go_at_call 92; refine (at.calls (HH.out.alloc _) i q).mono ?_; rintro e1 w1 ⟨rfl, hb⟩; have HB := Aside0.mk hb; clear hb; simp only [ea])
  go_ret2
  exact ⟨rfl, below_then (below_alloc (Below.refl _ _) _) (by simp) HB.out⟩
theorem getNil.calls (w : World) (i q : Int) : Calls Try.prog 22 #[.pointer none, .agg #[.int .i64 i, .int .i64 q]] w fun e w' => e = .returned (.tuple #[.int .i64 0, .bool false]) ∧ Below w.heap.size w w' := by
  have huQ := Try.underlying139
  go_enter Try.func22, Try.ntmps22
  go_wp2_with (go_at_call 92; refine (atNil.calls _ i q).mono ?_; rintro e1 w1 ⟨rfl, hb⟩; have HB := Aside0.mk hb; clear hb)
  go_ret2
  exact ⟨rfl, below_then (below_alloc (Below.refl _ _) _) (by simp) HB.out⟩

/-! ### Stores: the arena with one slot laid open -/
structure Opn (w0 w : World) (g sb : Nat) (hd : Array Value) (B : List Ob) (rows : List (List Value)) (i : Nat) (r : List Value) (L : List Ob) : Prop where
  hv : Hv w0 w (cb g 138 hd :: cb sb 141 (rows.set i r).flatten.toArray :: (B ++ L))
  all : ∀ q ∈ rows, q.length = 3
  len : r.length = 3
  lt : i < rows.length
namespace Opn
variable {hd : Array Value} {B : List Ob} {rows : List (List Value)} {i : Nat} {r : List Value}
theorem put (h : Opn w0 w g sb hd B rows i r L) {j : Nat} {v : Value} (hj : j < 3) : Opn w0 (w.setCell ⟨sb, i * 3 + j, none⟩ v) g sb hd B rows i (r.set j v) L := by
  refine ⟨h.hv.put1 _ _ ?_, h.all, by rw [List.length_set]; exact h.len, h.lt⟩
  rw [flat_put (len_set h.all _ _ h.len) i j r v (by rw [List.getElem?_set_self h.lt]) hj, List.set_set]
theorem header {a b c d : Value} (h : Opn w0 w g sb #[a, b, c, d] B rows i r L) : (w.cell? ⟨g, 0, none⟩ = some a ∧ w.cell? ⟨g, 1, none⟩ = some b ∧ w.cell? ⟨g, 2, none⟩ = some c ∧ w.cell? ⟨g, 3, none⟩ = some d) ∧ w.frozen? ⟨g, 1, none⟩ = false ∧ w.frozen? ⟨g, 2, none⟩ = false ∧ w.frozen? ⟨g, 3, none⟩ = false :=
  have hm : cb g 138 #[a, b, c, d] ∈ cb g 138 #[a, b, c, d] :: cb sb 141 (rows.set i r).flatten.toArray :: (B ++ L) := List.mem_cons_self
  ⟨⟨h.hv.cell hm 0 rfl, h.hv.cell hm 1 rfl, h.hv.cell hm 2 rfl, h.hv.cell hm 3 rfl⟩, h.hv.frozen hm 1, h.hv.frozen hm 2, h.hv.frozen hm 3⟩
theorem puth (h : Opn w0 w g sb hd B rows i r L) {j : Nat} {v : Value} : Opn w0 (w.setCell ⟨g, j, none⟩ v) g sb (hd.setIfInBounds j v) B rows i r L := ⟨h.hv.put0 _ _ rfl, h.all, h.len, h.lt⟩
/-- A store into another block. -/
theorem putL {b t : Nat} {cs : Array Value} (h : Opn w0 w g sb hd B rows i r (L' ++ cb b t cs :: L)) {j : Nat} {v : Value} : Opn w0 (w.setCell ⟨b, j, none⟩ v) g sb hd B rows i r (L' ++ cb b t (cs.setIfInBounds j v) :: L) := by
  refine ⟨?_, h.all, h.len, h.lt⟩
  have h1 := h.hv.put (B.length + L'.length + 2) (g := b) (t := t) (cs := cs) (by simp [List.getElem?_append_right]) j v
  simpa [List.set_append_right] using h1
theorem drew (h : Opn w0 w g sb hd B rows i r L) : Opn w0 w.drew g sb hd B rows i r L := ⟨h.hv.drew, h.all, h.len, h.lt⟩
theorem drewN (h : Opn w0 w g sb hd B rows i r L) (n : Nat) : Opn w0 (w.drewN n) g sb hd B rows i r L := ⟨h.hv.drewN n, h.all, h.len, h.lt⟩
theorem call (h : Opn w0 w g sb hd B rows i r L) (hb : Below w.heap.size w w1) : Opn w0 w1 g sb hd B rows i r L := ⟨h.hv.call hb, h.all, h.len, h.lt⟩
theorem close (h : Opn w0 w g sb hd B rows i r (L' ++ L)) {s : Ar} {bv : Value} (e1 : hd = #[.slice (some ⟨sb, 0, none⟩) s.n s.n, bv, .int .i64 s.ever, .int .i64 (s.held : Int)]) (e2 : rows.set i r = s.slots.map Sl.cells) (e3 : Gr 3 1 bv s.back.length (nums .i64 s.back) B) (e4 : s.Ok 1 XP) : Arn w0 w g sb s L := by
  refine ⟨bv, B, ?_, e3, e4⟩
  have h1 := h.hv
  rw [e1, e2] at h1
  refine h1.drop ?_
  show List.Sublist (_ :: _ :: (B ++ L)) _
  exact List.Sublist.cons_cons _ (List.Sublist.cons_cons _ (List.Sublist.append_left (List.sublist_append_right L' L) B))
end Opn
theorem Arn.opened (h : Arn w0 w g sb s L) (i : Int) (hi : i.toNat < s.n) : ∃ bv B, Opn w0 w g sb #[.slice (some ⟨sb, 0, none⟩) s.n s.n, bv, .int .i64 s.ever, .int .i64 (s.held : Int)] B (s.slots.map Sl.cells) i.toNat (s.slot i).cells L ∧ Gr 3 1 bv s.back.length (nums .i64 s.back) B := by
  obtain ⟨bv, B, h1, h2, h3⟩ := h
  refine ⟨bv, B, ⟨?_, h3.cells, by simp [Sl.cells, h3.len _ (slot_mem hi)], by simpa [Ar.n] using hi⟩, h2⟩
  have e : (s.slots.map Sl.cells).set i.toNat (s.slot i).cells = s.slots.map Sl.cells := by
    rw [← List.map_set, set_same (slot_eq hi)]
  rw [e]
  exact h1

/-- .. where it is not. -/
theorem slot_raw (h : Arn w0 w g sb s L) {i : Int} (b0 : 0 ≤ i) (b1 : i < s.n) (y0 : Int) (hx : (s.slot i).x = [.int .i64 y0]) : w.cell? ⟨sb, i.toNat * 3, none⟩ = some (.int .i64 y0) ∧ w.cell? ⟨sb, i.toNat * 3 + 1, none⟩ = some (.int .i64 (s.slot i).gen) ∧ w.cell? ⟨sb, i.toNat * 3 + 2, none⟩ = some (.bool (s.slot i).taken) ∧ w.frozen? ⟨sb, i.toNat * 3, none⟩ = false ∧ w.frozen? ⟨sb, i.toNat * 3 + 1, none⟩ = false ∧ w.frozen? ⟨sb, i.toNat * 3 + 2, none⟩ = false := by
  obtain ⟨bv, hc, hs⟩ := h.cells
  have b2 : i.toNat < s.n := by omega
  have e : s.slot (i.toNat : Int) = s.slot i := rfl
  have hj : ∀ j, j < 3 → w.cell? ⟨sb, i.toNat * 3 + j, none⟩ = (s.slot i).cells[j]? := fun j hj => by rw [hs i.toNat j b2 hj, e]
  obtain ⟨bv, B, h1, h2, h3⟩ := h
  have hf := fun j => h1.frozen (g := sb) (t := 141) (cs := flat s.slots) (by simp [AL]) j
  simp only [Sl.cells, hx] at hj
  exact ⟨(hj 0 (by omega)).trans rfl, (hj 1 (by omega)).trans rfl, (hj 2 (by omega)).trans rfl, hf _, hf _, hf _⟩
set_option maxHeartbeats 4000000 in
set_option maxRecDepth 100000 in
theorem set.calls (h : Arn w0 w g sb s L) (i q : Int) (hq : s.has i q = true) (x0 : Int) : Calls Try.prog 23 #[.pointer (some ⟨g, 0, none⟩), .agg #[.int .i64 i, .int .i64 q], .int .i64 x0] w fun e w' => e = .returned (.bool true) ∧ Arn w0 w' g sb (s.put i [.int .i64 x0]) L := by
  have ea : at_ s sb i q = some ⟨sb, i.toNat * 3, none⟩ := by simp [at_, hq]
  obtain ⟨b0, b1, b2, _⟩ := Ar.has_lt hq
  have hi : i.toNat < s.n := by omega
  obtain ⟨y0, hy⟩ := h.ok.shp _ (slot_mem hi)
  have HY := Aside0.mk hy
  have HH := Aside0.mk h
  have huE := Try.underlying141
  have huQ := Try.underlying139
  clear h hy
  go_enter Try.func23, Try.ntmps23
  go_wp2_with (go_at_call 92; refine (at.calls (HH.out.alloc _) i q).mono ?_; rintro e1 w1 ⟨rfl, hb⟩; have HA := Aside0.mk ((HH.out.alloc _).call hb); obtain ⟨sc0, sc1, sc2, sf0, sf1, sf2⟩ := slot_raw HA.out b0 b1 _ HY.out; clear hb; simp only [ea])
  obtain ⟨bv, B, H1, H2⟩ := HA.out.opened i hi
  go_ret
  refine ⟨rfl, ?_⟩
  refine Opn.close (L' := [_]) (rows := s.slots.map Sl.cells) (i := i.toNat) (bv := bv) (Opn.put (j := 0) (v := .int .i64 x0) H1 (by omega)) ?_ ?_ H2 (HH.out.ok.put hq rfl ⟨_, rfl⟩)
  · rw [Ar.held_put hq]
    simp [Ar.put, Ar.n]
  · simp only [Ar.put, List.map_set]
    congr 1
    simp [Sl.cells, HY.out, b2]


set_option maxHeartbeats 8000000 in
set_option maxRecDepth 100000 in
theorem take0.calls (h : Arn w0 w g sb s L) (hr : s.room = 0) (x0 : Int) : Calls Try.prog 20 #[.pointer (some ⟨g, 0, none⟩), .int .i64 x0] w fun e w' => e = .returned (.tuple #[.agg #[.int .i64 0, .int .i64 0], .int .i64 20]) ∧ Below w.heap.size w w' := by
  have HH := Aside0.mk h
  have hu33 := Try.underlying33
  clear h
  go_enter Try.func20, Try.ntmps20
  go_wp2_with (go_at_call 26; refine (room.calls (HH.out.alloc _)).mono ?_; rintro e1 w1 ⟨rfl, ⟨n1, rfl⟩⟩; simp only [hr])
  exact bodyPost_ret (v := .tuple #[.agg #[.int .i64 0, .int .i64 0], .int .i64 20]) (by simp [results, Try.results20, go_sem]) rfl ⟨rfl, by repeat (first | exact Below.refl _ _ | apply pw_below_drewN | apply below_alloc | (refine Below.setCell ?_ (by simp) _))⟩

set_option maxHeartbeats 8000000 in
set_option maxRecDepth 100000 in
theorem take1.calls (h : Arn w0 w g sb s L) (hr : ¬ s.room = 0) (hk : s.back = []) (x0 : Int) : Calls Try.prog 20 #[.pointer (some ⟨g, 0, none⟩), .int .i64 x0] w fun e w' => e = .returned (.tuple #[.agg #[.int .i64 s.next, .int .i64 s.gen], .int .i64 0]) ∧ Arn w0 w' g sb (s.take [.int .i64 x0]) L := by
  have en : s.next = s.ever := by simp [Ar.next, hk]
  obtain ⟨b0, b1⟩ := h.ok.next hr
  rw [en] at b0 b1
  have hi : s.ever.toNat < s.n := by omega
  have dr : (s.room == 0) = false := by simp [hr]
  obtain ⟨y0, hy⟩ := h.ok.shp _ (slot_mem hi)
  have HY := Aside0.mk hy
  have HH := Aside0.mk h
  have huE := Try.underlying141
  have huA := Try.underlying138
  have hu33 := Try.underlying33
  have hu26 := Try.underlying26
  have hmost := h.ok.most
  have hheld := s.held_le
  have HR := Aside0.mk hr
  have EN := Aside0.mk en
  clear h hy hr en
  go_enter Try.func20, Try.ntmps20
  go_wp2_with fail
  refine (room.calls (HH.out.alloc _)).mono ?_
  rintro e1 w1 ⟨rfl, ⟨n1, rfl⟩⟩
  have HA := Aside0.mk (HH.out.alloc (.cells #[.int .i64 0, .int .i64 0] 33))
  obtain ⟨bv, B, HO, HG⟩ := HA.out.opened s.ever hi
  obtain ⟨ad, c, rfl, hnc⟩ := HG.form
  have el : s.back.length = 0 := by simp [hk]
  rw [el] at HO
  obtain ⟨⟨h0, h1, h2, h3⟩, f1, f2, f3⟩ := HO.header
  obtain ⟨sc0, sc1, sc2, sf0, sf1, sf2⟩ := slot_raw HA.out b0 b1 _ HY.out
  obtain ⟨n1, n2, n3, n4⟩ := apart HH.out
  have n5 : ¬ _ = g := fun e => n3 e.symm
  have n6 : ¬ _ = sb := fun e => n4 e.symm
  have HP := Aside0.mk HO
  have HC := Aside0.mk hnc
  have HK := Aside0.mk hk
  have HE := Aside0.mk el
  clear HO hnc hk el
  go_wp2_with fail
  refine bodyPost_ret (v := .tuple #[.agg #[.int .i64 s.ever, .int .i64 (wrap64 ((s.slot s.ever).gen + 1))], .int .i64 0]) (by simp [results, Try.results20, go_sem]) rfl ⟨by simp only [Ar.gen, EN.out], ?_⟩
  refine Opn.close (L' := [_]) (s := s.take [.int .i64 x0]) (rows := s.slots.map Sl.cells) (i := s.ever.toNat) (B := B) (bv := .slice ad 0 c) (Opn.putL (L' := []) (Opn.putL (L' := []) (Opn.puth (Opn.put (j := 1) (Opn.put (j := 2) ((Opn.put (j := 0) (v := .int .i64 x0) (Opn.puth (HP.out.drewN _)) (by omega))) (by omega)) (by omega))))) ?_ ?_ ?_ ?_
  · have e1 := HH.out.ok.held_take HR.out [.int .i64 x0]
    simp [Ar.take, Ar.n, HK.out] at e1 ⊢
    omega
  · simp only [Ar.take, List.map_set, EN.out]
    congr 1
    simp [Sl.cells, HY.out, Ar.gen, EN.out]
  · have := HG
    simp only [HE.out] at this
    simpa [Ar.take, HK.out] using this
  · exact HH.out.ok.take HR.out rfl ⟨_, rfl⟩

set_option maxHeartbeats 8000000 in
set_option maxRecDepth 100000 in
theorem take2.calls (h : Arn w0 w g sb s L) (hr : ¬ s.room = 0) (hk : ¬ s.back = []) (x0 : Int) : Calls Try.prog 20 #[.pointer (some ⟨g, 0, none⟩), .int .i64 x0] w fun e w' => e = .returned (.tuple #[.agg #[.int .i64 s.next, .int .i64 s.gen], .int .i64 0]) ∧ Arn w0 w' g sb (s.take [.int .i64 x0]) L := by
  obtain ⟨b0, b1⟩ := h.ok.next hr
  obtain ⟨k, hl⟩ : ∃ k, s.back.length = k + 1 := ⟨s.back.length - 1, by have : 0 < s.back.length := List.length_pos_iff.2 hk; omega⟩
  have hlast : s.back[k]? = some s.next := by
    simp only [Ar.next, if_neg hk]
    rw [List.getLastD_eq_getLast?, List.getLast?_eq_getElem?, hl]
    simp [hl]
  have hi : s.next.toNat < s.n := by omega
  have dr : (s.room == 0) = false := by simp [hr]
  have hkm : k ≤ 4096 := by have := h.ok.sum; have := h.ok.ever; have := h.ok.most; omega
  obtain ⟨y0, hy⟩ := h.ok.shp _ (slot_mem hi)
  have HY := Aside0.mk hy
  have HH := Aside0.mk h
  have huE := Try.underlying141
  have huA := Try.underlying138
  have hu33 := Try.underlying33
  have hu26 := Try.underlying26
  have hmost := h.ok.most
  have hheld := s.held_le
  have HR := Aside0.mk hr
  have HK := Aside0.mk hk
  clear h hy hr hk
  go_enter Try.func20, Try.ntmps20
  go_wp2_with fail
  refine (room.calls (HH.out.alloc _)).mono ?_
  rintro e1 w1 ⟨rfl, ⟨n1, rfl⟩⟩
  have HA := Aside0.mk (HH.out.alloc (.cells #[.int .i64 0, .int .i64 0] 33))
  obtain ⟨bv, B, HO, HG⟩ := HA.out.opened s.next hi
  obtain ⟨ad, c, rfl, hnc⟩ := HG.form
  obtain ⟨gb, cur, rfl, rfl, hc1, hc2, hc3, hc4⟩ := HG.addr (by omega)
  have cb0 := (HO.hv.cell (g := gb) (t := 3) (cs := cur) (by simp) k ((hc4 k (by omega)).trans (show _ = some (Value.int .i64 s.next) by simp [nums, hlast])))
  have m1 := HO.hv.apart (i := 0) (j := 2) rfl rfl (by omega)
  have m2 := HO.hv.apart (i := 2) (j := 0) rfl rfl (by omega)
  rw [hl] at HO
  obtain ⟨⟨h0, h1, h2, h3⟩, f1, f2, f3⟩ := HO.header
  obtain ⟨sc0, sc1, sc2, sf0, sf1, sf2⟩ := slot_raw HA.out b0 b1 _ HY.out
  obtain ⟨n1, n2, n3, n4⟩ := apart HH.out
  have n5 : ¬ _ = g := fun e => n3 e.symm
  have n6 : ¬ _ = sb := fun e => n4 e.symm
  have HP := Aside0.mk HO
  have HC := Aside0.mk hnc
  have HE := Aside0.mk hl
  have HL := Aside0.mk hlast
  clear HO hnc hl hc1 hc2 hc3 hc4 hlast
  have k1 : ((k : Int) < (k : Int) + 1) = True := eq_true (by omega)
  have k2 : (k : Int) ≤ (c : Int) := by have := HC.out; have := HE.out; omega
  have k3 : k ≤ c := by omega
  have k4 : k < k + 1 := by omega
  go_upto_region 6 with (fail)
  go_region
  all_goals go_wp2_with fail
  refine bodyPost_ret (v := .tuple #[.agg #[.int .i64 s.next, .int .i64 s.gen], .int .i64 0]) (by simp [results, Try.results20, go_sem, Ar.gen]) rfl ⟨rfl, ?_⟩
  refine Opn.close (L' := [_]) (s := s.take [.int .i64 x0]) (rows := s.slots.map Sl.cells) (i := s.next.toNat) (B := _) (bv := .slice (some ⟨gb, 0, none⟩) k c) (Opn.putL (L' := []) (Opn.putL (L' := []) (Opn.puth (Opn.put (j := 1) (Opn.put (j := 2) ((Opn.put (j := 0) (v := .int .i64 x0) (Opn.puth (HP.out.drewN _)) (by omega))) (by omega)) (by omega))))) ?_ ?_ ?_ ?_
  · have e1 := HH.out.ok.held_take HR.out [.int .i64 x0]
    have hk := HK.out
    simp [Ar.take, Ar.n, hk] at e1 ⊢
    omega
  · simp only [Ar.take, List.map_set]
    congr 1
    simp [Sl.cells, HY.out, Ar.gen]
  · have hg := HG.take k (by have := HE.out; omega)
    have el : (s.take [.int .i64 x0]).back.length = k := by simp [Ar.take, HE.out]
    have ex : (nums .i64 s.back).take (k * 1) = nums .i64 (s.take [.int .i64 x0]).back := by
      simp [nums, Ar.take, List.dropLast_eq_take, HE.out]
    rw [el, ← ex]
    exact hg
  · exact HH.out.ok.take HR.out rfl ⟨_, rfl⟩
end Go.Proofs.Ytglbcfkmaamhaaa.ArI

