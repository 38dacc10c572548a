/- A text of this claim: parts ArN ArNB ArNC Less Rg Copy. No condition. -/
import Derived.Test.YtglbcfkmaamhaaaProg
import Derived.Test.YtglbcfkmaamhaaaJG1
import Derived.Below
import Derived.Deep.Draws
import Derived.Deep.AppendLies
import Derived.Maps.AppendAt
import Derived.OwnWalk
import Derived.Laws.BytesArg
import Derived.Laws.MakeOwn
import Derived.Laws.OwnMore
import Derived.Deep.OwnRows
import Derived.Tactics
import Derived.Lib.ConvBytes
import Derived.Laws.Slices
import Derived.WalkKit
import Derived.KernelRfl
import Derived.RowKit3
import Derived.Deep.LoopGhost
import Derived.Deep.QuietTactic
import Derived.BigQuiet
import Derived.WideLaws
import Derived.Deep.DeepCutAuto
import Derived.Deep.CutBlock
import Derived.Deep.RegionHeld3
import Derived.Laws.Rows
import Derived.Lib.AppendStr
import Derived.ArgAppend
import Derived.Laws.IdiomCopy
import Derived.OrdersHeld
import Derived.Laws.BitsLemmas
import Derived.RowKit
import Derived.WalkLawsBesides
import Derived.RegionTactic
import Derived.Test.YtglbcfkmaamhaaaJG0
import Derived.Deep.RegionLaw
import Derived.Laws.Strings
import Derived.Laws.CopyRow
set_option linter.unusedVariables false
set_option linter.unusedSimpArgs false
set_option maxHeartbeats 16000000
set_option maxRecDepth 100000
section
namespace Go.Proofs.Ytglbcfkmaamhaaa.ArN
open Go Go.RowKit Go.Proofs.YtglbcfkmaamhaaaW.PrintWords Go.Proofs.YtglbcfkmaamhaaaW.PrintLast Go.Proofs.YtglbcfkmaamhaaaW.PrintMore Go.Proofs.Ytglbcfkmaamhaaa.Hv Go.Proofs.Ytglbcfkmaamhaaa.Arm
def XP (x : List Value) : Prop := ∃ (x0 : Bool) (x1 : Int) (x2 : Option Addr) (x3 x4 : Nat) (x5 : Option Addr) (x6 x7 : Nat), x = [.bool x0, .int .i64 x1, .slice x2 x3 x4, .slice x5 x6 x7]
def AL (g sb : Nat) (bv : Value) (B : List Ob) (s : Ar) : List Ob :=
 cb g 200 #[.slice (some ⟨sb, 0, none⟩) s.n s.n, bv, .int .i64 s.ever, .int .i64 (s.held : Int)] :: cb sb 203 (flat s.slots) :: B
def Arn (w0 w : World) (g sb : Nat) (s : Ar) (L : List Ob) : Prop :=
 ∃ bv B, Hv w0 w (AL g sb bv B s ++ L) ∧ Gr 3 1 bv s.back.length (nums .i64 s.back) B ∧ s.Ok 4 XP
namespace Arn
variable {w0 w w1 : World} {g sb : Nat} {s : Ar} {L L' : List Ob}
theorem call (h : Arn w0 w g sb s L) (hb : Below w.heap.size w w1) : Arn w0 w1 g sb s L := by
 obtain ⟨bv, B, h1, h2, h3⟩ := h
 exact ⟨bv, B, h1.call hb, h2, h3⟩
theorem drewN (h : Arn w0 w g sb s L) (n : Nat) : Arn w0 (w.drewN n) g sb s L := h.call (pw_below_drewN (Below.refl _ _) n)
theorem drew (h : Arn w0 w g sb s L) : Arn w0 w.drew g sb s L := h.call (below_drew1 (Below.refl _ _))
theorem bel (h : Arn w0 w g sb s L) : Below w0.heap.size w0 w := by
 obtain ⟨bv, B, h1, h2, h3⟩ := h
 exact h1.bel
theorem ok (h : Arn w0 w g sb s L) : s.Ok 4 XP := by
 obtain ⟨bv, B, h1, h2, h3⟩ := h
 exact h3
theorem perm (h : Arn w0 w g sb s L) (hp : L'.Perm L) : Arn w0 w g sb s L' := by
 obtain ⟨bv, B, h1, h2, h3⟩ := h
 exact ⟨bv, B, h1.perm (List.Perm.append_left _ hp), h2, h3⟩
theorem other (h : Arn w0 w g sb s L) : Hv w0 w L := by
 obtain ⟨bv, B, h1, h2, h3⟩ := h
 exact h1.right
theorem alloc (h : Arn w0 w g sb s L) (o : Obj) : Arn w0 (w.alloc o) g sb s ((w.heap.size, o) :: L) := by
 obtain ⟨bv, B, h1, h2, h3⟩ := h
 exact ⟨bv, B, (h1.alloc o).perm List.perm_middle, h2, h3⟩
theorem cells (h : Arn w0 w g sb s L) : ∃ bv, (∀ i v, #[.slice (some ⟨sb, 0, none⟩) s.n s.n, bv, .int .i64 s.ever, .int .i64 (s.held : Int)][i]? = some v → w.cell? ⟨g, i, none⟩ = some v) ∧
  (∀ i j : Nat, i < s.n → j < 6 → w.cell? ⟨sb, i * 6 + j, none⟩ = (s.slot i).cells[j]?) := by
 obtain ⟨bv, B, h1, h2, h3⟩ := h
 refine ⟨bv, fun i v hv => h1.cell (g := g) (t := 200) (by simp [AL]) i hv, fun i j hi hj => ?_⟩
 have := blk_cell (h1.box (cb sb 203 (flat s.slots)) (by simp [AL])) (i * 6 + j)
 rw [this]
 exact h3.cell (i := (i : Int)) (by simpa using hi) j hj
end Arn
variable {w0 w w1 : World} {g sb : Nat} {s : Ar} {L L' : List Ob}
theorem room.calls (h : Arn w0 w g sb s L) : Calls Try.prog 144 #[.pointer (some ⟨g, 0, none⟩)] w fun e w' => e = .returned (.int .i64 s.room) ∧ Drawn0 w w' := by
 obtain ⟨bv, hc, _⟩ := h.cells
 have c0 := hc 0 _ rfl
 have c3 := hc 3 _ rfl
 have hn := h.ok.most
 have hh := s.held_le
 have hu := Try.underlying200
 have e : IntKind.i64.wrap ((s.n : Int) - (s.held : Int)) = s.room := by unfold Ar.room; rw [IntKind.wrap_i64]; omega
 have e' : wrap64 ((s.n : Int) - (s.held : Int)) = s.room := by unfold Ar.room wrap64; omega
 clear hc h hn hh
 go_enter Try.func144, Try.ntmps144
 go_wp2
 go_quiet (fail)
 go_wp2
 go_ret
 exact ⟨by simp, ⟨⟨_, rfl⟩⟩⟩
def at_ (s : Ar) (sb : Nat) (i q : Int) : Option Addr := if s.has i q then some ⟨sb, i.toNat * 6, none⟩ else none
theorem apart (h : Arn w0 w g sb s L) : ¬ g = sb ∧ ¬ sb = g ∧ ¬ g = w.heap.size ∧ ¬ sb = w.heap.size := by
 obtain ⟨bv, B, h1, h2, h3⟩ := h
 have h4 := h1.apart (i := 0) (j := 1) (p := cb g 200 #[.slice (some ⟨sb, 0, none⟩) s.n s.n, bv, .int .i64 s.ever, .int .i64 (s.held : Int)]) (q := cb sb 203 (flat s.slots)) rfl rfl (by omega)
 exact ⟨h4, fun e => h4 e.symm, h1.ne (o := .cells #[.slice (some ⟨sb, 0, none⟩) s.n s.n, bv, .int .i64 s.ever, .int .i64 (s.held : Int)] 200) (by simp [AL]), h1.ne (o := .cells (flat s.slots) 203) (by simp [AL])⟩
theorem at.calls (h : Arn w0 w g sb s L) (i q : Int) : Calls Try.prog 145 #[.pointer (some ⟨g, 0, none⟩), .agg #[.int .i64 i, .int .i64 q]] w fun e w' => e = .returned (.pointer (at_ s sb i q)) ∧ Below w.heap.size w w' := by
 obtain ⟨bv, hc, hs⟩ := h.cells
 have c0 : ∀ o, (w.alloc o).cell? ⟨g, 0, none⟩ = some (.slice (some ⟨sb, 0, none⟩) s.n s.n) := fun o => pw_cell_below (below_alloc (Below.refl _ _) o) (hc 0 _ rfl)
 have hn := h.ok.most
 obtain ⟨n1, n2, n3, n4⟩ := apart h
 have hu := Try.underlying200
 have huE := Try.underlying203
 have huP := Try.underlying156
 have huR := Try.underlying33
 by_cases g0 : i < 0
 ·have d0 : decide (i < 0) = true := decide_eq_true g0
  have e : at_ s sb i q = none := by simp [at_, Ar.has]; omega
  clear hc hs h g0
  go_enter Try.func145, Try.ntmps145
  go_wp2
  go_quiet (fail)
  go_wp2
  go_ret
  exact ⟨by simp [e], by (repeat apply pw_below_drewN); exact below_alloc (Below.refl _ _) _⟩
 ·have d0 : decide (i < 0) = false := decide_eq_false g0
  by_cases g1 : (s.n : Int) ≤ i
  ·have d1 : decide ((s.n : Int) ≤ i) = true := decide_eq_true g1
   have e : at_ s sb i q = none := by simp [at_, Ar.has]; omega
   clear hc hs h g0 g1
   go_enter Try.func145, Try.ntmps145
   go_wp2
   go_quiet (fail)
   go_wp2
   go_ret
   exact ⟨by simp [e], by (repeat apply pw_below_drewN); exact below_alloc (Below.refl _ _) _⟩
  ·have d1 : decide ((s.n : Int) ≤ i) = false := decide_eq_false g1
   have b0 : 0 ≤ i := by omega
   have b1 : i < (s.n : Int) := by omega
   have b2 : i.toNat < s.n := by omega
   have cg : ∀ o, (w.alloc o).cell? _ = _ := fun o => pw_cell_below (below_alloc (Below.refl _ _) o) ((hs i.toNat (4) b2 (by omega)).trans (show _ = some (Value.int .i64 (s.slot i).gen) by simp only [Sl.cells, show s.slot (i.toNat : Int) = s.slot i from rfl]; rw [List.getElem?_append_right (by rw [h.ok.len _ (slot_mem b2)]; omega), h.ok.len _ (slot_mem b2)]; rfl))
   have ct : ∀ o, (w.alloc o).cell? _ = _ := fun o => pw_cell_below (below_alloc (Below.refl _ _) o) ((hs i.toNat (4 + 1) b2 (by omega)).trans (show _ = some (Value.bool (s.slot i).taken) by simp only [Sl.cells, show s.slot (i.toNat : Int) = s.slot i from rfl]; rw [List.getElem?_append_right (by rw [h.ok.len _ (slot_mem b2)]; omega), h.ok.len _ (slot_mem b2)]; rfl))
   by_cases g2 : (s.slot i).taken = true
   ·have d2 : (!(s.slot i).taken) = false := by simp [g2]
    by_cases g3 : (s.slot i).gen = q
    ·have e : at_ s sb i q = some ⟨sb, i.toNat * 6, none⟩ := by simp [at_, Ar.has, g2, g3, b0, b1]
     rw [g3] at cg
     rw [g2] at ct
     clear hc hs h g0 g1 b2 g2 g3 d2
     go_enter Try.func145, Try.ntmps145
     go_wp2
     go_quiet (fail)
     go_wp2
     go_quiet (fail)
     go_wp2
     go_quiet (fail)
     go_wp2
     go_ret
     exact ⟨by simp [e], by (repeat apply pw_below_drewN); exact below_alloc (Below.refl _ _) _⟩
    ·have e : at_ s sb i q = none := by simp [at_, Ar.has, g3]
     have d3 : ((s.slot i).gen != q) = true := by simp [g3]
     rw [g2] at ct
     clear hc hs h g0 g1 b2 g2 g3 d2
     go_enter Try.func145, Try.ntmps145
     go_wp2
     go_quiet (fail)
     go_wp2
     go_quiet (fail)
     go_wp2
     go_quiet (fail)
     go_wp2
     go_ret
     exact ⟨by simp [e], by (repeat apply pw_below_drewN); exact below_alloc (Below.refl _ _) _⟩
   ·have g2' : (s.slot i).taken = false := by simpa using g2
    have e : at_ s sb i q = none := by simp [at_, Ar.has, g2']
    rw [g2'] at ct
    clear hc hs h g0 g1 b2 g2 g2'
    go_enter Try.func145, Try.ntmps145
    go_wp2
    go_quiet (fail)
    go_wp2
    go_quiet (fail)
    go_wp2
    go_quiet (fail)
    go_wp2
    go_ret
    exact ⟨by simp [e], by (repeat apply pw_below_drewN); exact below_alloc (Below.refl _ _) _⟩
theorem slot_cells (h : Arn w0 w g sb s L) {i : Int} (b0 : 0 ≤ i) (b1 : i < s.n) (x0 : Bool) (x1 : Int) (x2 : Option Addr) (x3 x4 : Nat) (x5 : Option Addr) (x6 x7 : Nat) (hx : (s.slot i).x = [.bool x0, .int .i64 x1, .slice x2 x3 x4, .slice x5 x6 x7]) : w.cell? ⟨sb, i.toNat * 6, none⟩ = some (.bool x0) ∧ w.cell? ⟨sb, i.toNat * 6 + 1, none⟩ = some (.int .i64 x1) ∧ w.cell? ⟨sb, i.toNat * 6 + 2, none⟩ = some (.slice x2 x3 x4) ∧ w.cell? ⟨sb, i.toNat * 6 + 3, none⟩ = some (.slice x5 x6 x7) ∧ w.cell? ⟨sb, i.toNat * 6 + 4, none⟩ = some (.int .i64 (s.slot i).gen) ∧ w.cell? ⟨sb, i.toNat * 6 + 5, none⟩ = some (.bool (s.slot i).taken) := by
 obtain ⟨bv, hc, hs⟩ := h.cells
 have b2 : i.toNat < s.n := by omega
 have e : s.slot (i.toNat : Int) = s.slot i := rfl
 have hj : ∀ j, j < 6 → w.cell? ⟨sb, i.toNat * 6 + j, none⟩ = (s.slot i).cells[j]? := fun j hj => by rw [hs i.toNat j b2 hj, e]
 simp only [Sl.cells, hx] at hj
 exact ⟨(hj 0 (by omega)).trans rfl, (hj 1 (by omega)).trans rfl, (hj 2 (by omega)).trans rfl, (hj 3 (by omega)).trans rfl, (hj 4 (by omega)).trans rfl, (hj 5 (by omega)).trans rfl⟩
theorem get.calls (h : Arn w0 w g sb s L) (i q : Int) (hq : s.has i q = true) (x0 : Bool) (x1 : Int) (x2 : Option Addr) (x3 x4 : Nat) (x5 : Option Addr) (x6 x7 : Nat) (hx : (s.slot i).x = [.bool x0, .int .i64 x1, .slice x2 x3 x4, .slice x5 x6 x7]) : Calls Try.prog 109 #[.pointer (some ⟨g, 0, none⟩), .agg #[.int .i64 i, .int .i64 q]] w fun e w' => e = .returned (.tuple #[.agg #[.bool x0, .int .i64 x1, .slice x2 x3 x4, .slice x5 x6 x7], .bool true]) ∧ Below w.heap.size w w' := by
 have ea : at_ s sb i q = some ⟨sb, i.toNat * 6, none⟩ := by simp [at_, hq]
 obtain ⟨b0, b1, _⟩ := Ar.has_lt hq
 have HH := As (show Arn w0 _ g sb s (cb (w.heap.size + 1) 59 #[.bool false, .int .i64 0, .slice none 0 0, .slice none 0 0] :: cb w.heap.size 33 #[.int .i64 i, .int .i64 q] :: L) by have := (h.alloc (.cells #[.int .i64 i, .int .i64 q] 33)).alloc (.cells #[.bool false, .int .i64 0, .slice none 0 0, .slice none 0 0] 59); simpa [cb] using this)
 have HX0 := As (show Hv w _ [cb (w.heap.size + 1) 59 #[.bool false, .int .i64 0, .slice none 0 0, .slice none 0 0], cb w.heap.size 33 #[.int .i64 i, .int .i64 q]] by have := ((Hv.start w).alloc (.cells #[.int .i64 i, .int .i64 q] 33)).alloc (.cells #[.bool false, .int .i64 0, .slice none 0 0, .slice none 0 0] 59); simpa [cb] using this)
 have huE := Try.underlying203
 have huQ := Try.underlying201
 have hu59 := Try.underlying59
 clear h
 go_enter Try.func109, Try.ntmps109
 go_wp2_with (go_at_call 145; go_loud (refine (at.calls HH.out i q).mono ?_); rintro e1 w1 ⟨rfl, hb⟩; have HX := As (HX0.out.call hb); obtain ⟨sc0, sc1, sc2, sc3, sc4, sc5⟩ := slot_cells (HH.out.call hb) b0 b1 x0 x1 x2 x3 x4 x5 x6 x7 hx; obtain ⟨q0, q1, q2, q3, g0, g1, g2, g3⟩ := HX.out.c4 (w.heap.size + 1) 59 (.bool false) (.int .i64 0) (.slice none 0 0) (.slice none 0 0) List.mem_cons_self; clear hb; simp only [ea])
 obtain ⟨wg, hw, hg⟩ : ∃ wg, wg = _ ∧ Hv w wg [cb (w.heap.size + 1) 59 #[.bool x0, .int .i64 x1, .slice x2 x3 x4, .slice x5 x6 x7], cb w.heap.size 33 #[.int .i64 i, .int .i64 q]] := ⟨_, rfl, (Hv.put0 (Hv.put0 (Hv.put0 (Hv.put0 HX.out 0 (.bool x0) rfl) 1 (.int .i64 x1) rfl) 2 (.slice x2 x3 x4) rfl) 3 (.slice x5 x6 x7) rfl)⟩
 rw [← hw]
 obtain ⟨e0, e1, e2, e3, -, -, -, -⟩ := hg.c4 (w.heap.size + 1) 59 (.bool x0) (.int .i64 x1) (.slice x2 x3 x4) (.slice x5 x6 x7) List.mem_cons_self
 exact bodyPost_ret (v := .tuple #[.agg #[.bool x0, .int .i64 x1, .slice x2 x3 x4, .slice x5 x6 x7], .bool true]) (by simp [results, Try.results109, go_sem, e0, e1, e2, e3, hu59]) rfl ⟨rfl, hg.bel⟩
theorem getNo.calls (h : Arn w0 w g sb s L) (i q : Int) (hq : s.has i q = false) : Calls Try.prog 109 #[.pointer (some ⟨g, 0, none⟩), .agg #[.int .i64 i, .int .i64 q]] w fun e w' => e = .returned (.tuple #[.agg #[.bool false, .int .i64 0, .slice none 0 0, .slice none 0 0], .bool false]) ∧ Below w.heap.size w w' := by
 have ea : at_ s sb i q = none := by simp [at_, hq]
 have HH := As (show Arn w0 _ g sb s (cb (w.heap.size + 1) 59 #[.bool false, .int .i64 0, .slice none 0 0, .slice none 0 0] :: cb w.heap.size 33 #[.int .i64 i, .int .i64 q] :: L) by have := (h.alloc (.cells #[.int .i64 i, .int .i64 q] 33)).alloc (.cells #[.bool false, .int .i64 0, .slice none 0 0, .slice none 0 0] 59); simpa [cb] using this)
 have HX0 := As (show Hv w _ [cb (w.heap.size + 1) 59 #[.bool false, .int .i64 0, .slice none 0 0, .slice none 0 0], cb w.heap.size 33 #[.int .i64 i, .int .i64 q]] by have := ((Hv.start w).alloc (.cells #[.int .i64 i, .int .i64 q] 33)).alloc (.cells #[.bool false, .int .i64 0, .slice none 0 0, .slice none 0 0] 59); simpa [cb] using this)
 have huQ := Try.underlying201
 have hu59 := Try.underlying59
 clear h
 go_enter Try.func109, Try.ntmps109
 go_upto_region 4 with (go_at_call 145; go_loud (refine (at.calls HH.out i q).mono ?_); rintro e1 w1 ⟨rfl, hb⟩; have HX := As (HX0.out.call hb); obtain ⟨q0, q1, q2, q3, g0, g1, g2, g3⟩ := HX.out.c4 (w.heap.size + 1) 59 (.bool false) (.int .i64 0) (.slice none 0 0) (.slice none 0 0) List.mem_cons_self; clear hb; simp only [ea])
 have hne := HX.out.ne (g := w.heap.size + 1) (o := .cells #[.bool false, .int .i64 0, .slice none 0 0, .slice none 0 0] 59) List.mem_cons_self
 have hne' : ¬ _ = w.heap.size + 1 := fun e => hne e.symm
 have HX := As (HX.out.skip (.cells #[.bool false, .int .i64 0, .slice none 0 0, .slice none 0 0] 59))
 clear q0 q1 q2 q3 g0 g1 g2 g3
 obtain ⟨q0, q1, q2, q3, g0, g1, g2, g3⟩ := HX.out.c4 (w.heap.size + 1) 59 (.bool false) (.int .i64 0) (.slice none 0 0) (.slice none 0 0) List.mem_cons_self
 go_wp2_with fail
 obtain ⟨wg, hw, hg⟩ : ∃ wg, wg = _ ∧ Hv w wg [cb (w.heap.size + 1) 59 #[.bool false, .int .i64 0, .slice none 0 0, .slice none 0 0], cb w.heap.size 33 #[.int .i64 i, .int .i64 q]] := ⟨_, rfl, (Hv.put0 (Hv.put0 (Hv.put0 (Hv.put0 HX.out 0 (.bool false) rfl) 1 (.int .i64 0) rfl) 2 (.slice none 0 0) rfl) 3 (.slice none 0 0) rfl)⟩
 rw [← hw]
 obtain ⟨e0, e1, e2, e3, -, -, -, -⟩ := hg.c4 (w.heap.size + 1) 59 (.bool false) (.int .i64 0) (.slice none 0 0) (.slice none 0 0) List.mem_cons_self
 exact bodyPost_ret (v := .tuple #[.agg #[.bool false, .int .i64 0, .slice none 0 0, .slice none 0 0], .bool false]) (by simp [results, Try.results109, go_sem, e0, e1, e2, e3, hu59]) rfl ⟨rfl, hg.bel⟩
structure Opn (w0 w : World) (g sb : Nat) (hd : Array Value) (B : List Ob) (rows : List (List Value)) (i : Nat) (r : List Value) (L : List Ob) : Prop where
 hv : Hv w0 w (cb g 200 hd :: cb sb 203 (rows.set i r).flatten.toArray :: (B ++ L))
 all : ∀ q ∈ rows, q.length = 6
 len : r.length = 6
 lt : i < rows.length
namespace Opn
variable {hd : Array Value} {B : List Ob} {rows : List (List Value)} {i : Nat} {r : List Value}
theorem put (h : Opn w0 w g sb hd B rows i r L) {j : Nat} {v : Value} (hj : j < 6) : Opn w0 (w.setCell ⟨sb, i * 6 + j, none⟩ v) g sb hd B rows i (r.set j v) L := by
 refine ⟨h.hv.put1 _ _ ?_, h.all, by rw [List.length_set]; exact h.len, h.lt⟩
 rw [flat_put (len_set h.all _ _ h.len) i j r v (by rw [List.getElem?_set_self h.lt]) hj, List.set_set]
theorem header {a b c d : Value} (h : Opn w0 w g sb #[a, b, c, d] B rows i r L) : (w.cell? ⟨g, 0, none⟩ = some a ∧ w.cell? ⟨g, 1, none⟩ = some b ∧ w.cell? ⟨g, 2, none⟩ = some c ∧ w.cell? ⟨g, 3, none⟩ = some d) ∧ w.frozen? ⟨g, 1, none⟩ = false ∧ w.frozen? ⟨g, 2, none⟩ = false ∧ w.frozen? ⟨g, 3, none⟩ = false :=
 have hm : cb g 200 #[a, b, c, d] ∈ cb g 200 #[a, b, c, d] :: cb sb 203 (rows.set i r).flatten.toArray :: (B ++ L) := List.mem_cons_self
 ⟨⟨h.hv.cell hm 0 rfl, h.hv.cell hm 1 rfl, h.hv.cell hm 2 rfl, h.hv.cell hm 3 rfl⟩, h.hv.frozen hm 1, h.hv.frozen hm 2, h.hv.frozen hm 3⟩
theorem puth (h : Opn w0 w g sb hd B rows i r L) {j : Nat} {v : Value} : Opn w0 (w.setCell ⟨g, j, none⟩ v) g sb (hd.setIfInBounds j v) B rows i r L := ⟨h.hv.put0 _ _ rfl, h.all, h.len, h.lt⟩
theorem putL {b t : Nat} {cs : Array Value} (h : Opn w0 w g sb hd B rows i r (L' ++ cb b t cs :: L)) {j : Nat} {v : Value} : Opn w0 (w.setCell ⟨b, j, none⟩ v) g sb hd B rows i r (L' ++ cb b t (cs.setIfInBounds j v) :: L) := by
 refine ⟨?_, h.all, h.len, h.lt⟩
 have h1 := h.hv.put (B.length + L'.length + 2) (g := b) (t := t) (cs := cs) (by simp [List.getElem?_append_right]) j v
 simpa [List.set_append_right] using h1
theorem drew (h : Opn w0 w g sb hd B rows i r L) : Opn w0 w.drew g sb hd B rows i r L := ⟨h.hv.drew, h.all, h.len, h.lt⟩
theorem drewN (h : Opn w0 w g sb hd B rows i r L) (n : Nat) : Opn w0 (w.drewN n) g sb hd B rows i r L := ⟨h.hv.drewN n, h.all, h.len, h.lt⟩
theorem call (h : Opn w0 w g sb hd B rows i r L) (hb : Below w.heap.size w w1) : Opn w0 w1 g sb hd B rows i r L := ⟨h.hv.call hb, h.all, h.len, h.lt⟩
theorem close (h : Opn w0 w g sb hd B rows i r (L' ++ L)) {s : Ar} {bv : Value} (e1 : hd = #[.slice (some ⟨sb, 0, none⟩) s.n s.n, bv, .int .i64 s.ever, .int .i64 (s.held : Int)]) (e2 : rows.set i r = s.slots.map Sl.cells) (e3 : Gr 3 1 bv s.back.length (nums .i64 s.back) B) (e4 : s.Ok 4 XP) : Arn w0 w g sb s L := by
 refine ⟨bv, B, ?_, e3, e4⟩
 have h1 := h.hv
 rw [e1, e2] at h1
 refine h1.drop ?_
 show List.Sublist (_ :: _ :: (B ++ L)) _
 exact List.Sublist.cons_cons _ (List.Sublist.cons_cons _ (List.Sublist.append_left (List.sublist_append_right L' L) B))
end Opn
theorem Arn.opened (h : Arn w0 w g sb s L) (i : Int) (hi : i.toNat < s.n) : ∃ bv B, Opn w0 w g sb #[.slice (some ⟨sb, 0, none⟩) s.n s.n, bv, .int .i64 s.ever, .int .i64 (s.held : Int)] B (s.slots.map Sl.cells) i.toNat (s.slot i).cells L ∧ Gr 3 1 bv s.back.length (nums .i64 s.back) B := by
 obtain ⟨bv, B, h1, h2, h3⟩ := h
 refine ⟨bv, B, ⟨?_, h3.cells, by simp [Sl.cells, h3.len _ (slot_mem hi)], by simpa [Ar.n] using hi⟩, h2⟩
 have e : (s.slots.map Sl.cells).set i.toNat (s.slot i).cells = s.slots.map Sl.cells := by
  rw [← List.map_set, set_same (slot_eq hi)]
 rw [e]
 exact h1
theorem slot_raw (h : Arn w0 w g sb s L) {i : Int} (b0 : 0 ≤ i) (b1 : i < s.n) (y0 : Bool) (y1 : Int) (y2 : Option Addr) (y3 y4 : Nat) (y5 : Option Addr) (y6 y7 : Nat) (hx : (s.slot i).x = [.bool y0, .int .i64 y1, .slice y2 y3 y4, .slice y5 y6 y7]) : w.cell? ⟨sb, i.toNat * 6, none⟩ = some (.bool y0) ∧ w.cell? ⟨sb, i.toNat * 6 + 1, none⟩ = some (.int .i64 y1) ∧ w.cell? ⟨sb, i.toNat * 6 + 2, none⟩ = some (.slice y2 y3 y4) ∧ w.cell? ⟨sb, i.toNat * 6 + 3, none⟩ = some (.slice y5 y6 y7) ∧ w.cell? ⟨sb, i.toNat * 6 + 4, none⟩ = some (.int .i64 (s.slot i).gen) ∧ w.cell? ⟨sb, i.toNat * 6 + 5, none⟩ = some (.bool (s.slot i).taken) ∧ w.frozen? ⟨sb, i.toNat * 6, none⟩ = false ∧ w.frozen? ⟨sb, i.toNat * 6 + 1, none⟩ = false ∧ w.frozen? ⟨sb, i.toNat * 6 + 2, none⟩ = false ∧ w.frozen? ⟨sb, i.toNat * 6 + 3, none⟩ = false ∧ w.frozen? ⟨sb, i.toNat * 6 + 4, none⟩ = false ∧ w.frozen? ⟨sb, i.toNat * 6 + 5, none⟩ = false := by
 obtain ⟨bv, hc, hs⟩ := h.cells
 have b2 : i.toNat < s.n := by omega
 have e : s.slot (i.toNat : Int) = s.slot i := rfl
 have hj : ∀ j, j < 6 → w.cell? ⟨sb, i.toNat * 6 + j, none⟩ = (s.slot i).cells[j]? := fun j hj => by rw [hs i.toNat j b2 hj, e]
 obtain ⟨bv, B, h1, h2, h3⟩ := h
 have hf := fun j => h1.frozen (g := sb) (t := 203) (cs := flat s.slots) (by simp [AL]) j
 simp only [Sl.cells, hx] at hj
 exact ⟨(hj 0 (by omega)).trans rfl, (hj 1 (by omega)).trans rfl, (hj 2 (by omega)).trans rfl, (hj 3 (by omega)).trans rfl, (hj 4 (by omega)).trans rfl, (hj 5 (by omega)).trans rfl, hf _, hf _, hf _, hf _, hf _, hf _⟩
theorem set.calls (h : Arn w0 w g sb s L) (i q : Int) (hq : s.has i q = true) (x0 : Bool) (x1 : Int) (x2 : Option Addr) (x3 x4 : Nat) (x5 : Option Addr) (x6 x7 : Nat) : Calls Try.prog 112 #[.pointer (some ⟨g, 0, none⟩), .agg #[.int .i64 i, .int .i64 q], .agg #[.bool x0, .int .i64 x1, .slice x2 x3 x4, .slice x5 x6 x7]] w fun e w' => e = .returned (.bool true) ∧ Arn w0 w' g sb (s.put i [.bool x0, .int .i64 x1, .slice x2 x3 x4, .slice x5 x6 x7]) L := by
 have ea : at_ s sb i q = some ⟨sb, i.toNat * 6, none⟩ := by simp [at_, hq]
 obtain ⟨b0, b1, b2, _⟩ := Ar.has_lt hq
 have hi : i.toNat < s.n := by omega
 obtain ⟨y0, y1, y2, y3, y4, y5, y6, y7, hy⟩ := h.ok.shp _ (slot_mem hi)
 have HY := As hy
 have HH := As h
 have huE := Try.underlying203
 have huQ := Try.underlying201
 clear h hy
 go_enter Try.func112, Try.ntmps112
 go_wp2_with (go_at_call 145; refine (at.calls ((HH.out.alloc (.cells #[.int .i64 i, .int .i64 q] 33)).alloc (.cells #[.bool x0, .int .i64 x1, .slice x2 x3 x4, .slice x5 x6 x7] 59)) i q).mono ?_; rintro e1 w1 ⟨rfl, hb⟩; have HA := As (((HH.out.alloc (.cells #[.int .i64 i, .int .i64 q] 33)).alloc (.cells #[.bool x0, .int .i64 x1, .slice x2 x3 x4, .slice x5 x6 x7] 59)).call hb); obtain ⟨q0, q1, q2, q3, g0, g1, g2, g3⟩ := HA.out.other.c4 (w.heap.size + 1) 59 (.bool x0) (.int .i64 x1) (.slice x2 x3 x4) (.slice x5 x6 x7) (by simp [cb]); obtain ⟨sc0, sc1, sc2, sc3, sc4, sc5, sf0, sf1, sf2, sf3, sf4, sf5⟩ := slot_raw HA.out b0 b1 _ _ _ _ _ _ _ _ HY.out; clear hb; simp only [ea])
 obtain ⟨bv, B, H1, H2⟩ := HA.out.opened i hi
 go_ret
 refine ⟨rfl, ?_⟩
 refine Opn.close (L' := [_, _]) (rows := s.slots.map Sl.cells) (i := i.toNat) (bv := bv) (Opn.put (j := 3) (v := .slice x5 x6 x7) (Opn.put (j := 2) (v := .slice x2 x3 x4) (Opn.put (j := 1) (v := .int .i64 x1) (Opn.put (j := 0) (v := .bool x0) H1 (by omega)) (by omega)) (by omega)) (by omega)) ?_ ?_ H2 (HH.out.ok.put hq rfl ⟨_, _, _, _, _, _, _, _, rfl⟩)
 ·rw [Ar.held_put hq]
  simp [Ar.put, Ar.n]
 ·simp only [Ar.put, List.map_set]
  congr 1
  simp [Sl.cells, HY.out, b2]
theorem take0.calls (h : Arn w0 w g sb s L) (hr : s.room = 0) (x0 : Bool) (x1 : Int) (x2 : Option Addr) (x3 x4 : Nat) (x5 : Option Addr) (x6 x7 : Nat) : Calls Try.prog 108 #[.pointer (some ⟨g, 0, none⟩), .agg #[.bool x0, .int .i64 x1, .slice x2 x3 x4, .slice x5 x6 x7]] w fun e w' => e = .returned (.tuple #[.agg #[.int .i64 0, .int .i64 0], .int .i64 20]) ∧ Below w.heap.size w w' := by
 have HH := As h
 have hu33 := Try.underlying33
 clear h
 go_enter Try.func108, Try.ntmps108
 go_wp2_with (go_at_call 144; refine (room.calls ((HH.out.alloc (.cells #[.bool x0, .int .i64 x1, .slice x2 x3 x4, .slice x5 x6 x7] 59)).alloc (.cells #[.int .i64 0, .int .i64 0] 33))).mono ?_; rintro e1 w1 ⟨rfl, ⟨n1, rfl⟩⟩; simp only [hr])
 exact bodyPost_ret (v := .tuple #[.agg #[.int .i64 0, .int .i64 0], .int .i64 20]) (by simp [results, Try.results108, go_sem]) rfl ⟨rfl, by repeat (first | exact Below.refl _ _ | apply pw_below_drewN | apply below_alloc | (refine Below.setCell ?_ (by simp) _))⟩
theorem take1.calls (h : Arn w0 w g sb s L) (hr : ¬ s.room = 0) (hk : s.back = []) (x0 : Bool) (x1 : Int) (x2 : Option Addr) (x3 x4 : Nat) (x5 : Option Addr) (x6 x7 : Nat) : Calls Try.prog 108 #[.pointer (some ⟨g, 0, none⟩), .agg #[.bool x0, .int .i64 x1, .slice x2 x3 x4, .slice x5 x6 x7]] w fun e w' => e = .returned (.tuple #[.agg #[.int .i64 s.next, .int .i64 s.gen], .int .i64 0]) ∧ Arn w0 w' g sb (s.take [.bool x0, .int .i64 x1, .slice x2 x3 x4, .slice x5 x6 x7]) L := by
 have en : s.next = s.ever := by simp [Ar.next, hk]
 obtain ⟨b0, b1⟩ := h.ok.next hr
 rw [en] at b0 b1
 have hi : s.ever.toNat < s.n := by omega
 have dr : (s.room == 0) = false := by simp [hr]
 obtain ⟨y0, y1, y2, y3, y4, y5, y6, y7, hy⟩ := h.ok.shp _ (slot_mem hi)
 have HY := As hy
 have HH := As h
 have huE := Try.underlying203
 have huA := Try.underlying200
 have hu33 := Try.underlying33
 have hu26 := Try.underlying26
 have hmost := h.ok.most
 have hheld := s.held_le
 have HR := As hr
 have EN := As en
 clear h hy hr en
 go_enter Try.func108, Try.ntmps108
 go_wp2_with fail
 refine (room.calls ((HH.out.alloc (.cells #[.bool x0, .int .i64 x1, .slice x2 x3 x4, .slice x5 x6 x7] 59)).alloc _)).mono ?_
 rintro e1 w1 ⟨rfl, ⟨n1, rfl⟩⟩
 have HA := As (show Arn w0 _ g sb s (cb (w.heap.size + 1) 33 #[.int .i64 0, .int .i64 0] :: cb w.heap.size 59 #[.bool x0, .int .i64 x1, .slice x2 x3 x4, .slice x5 x6 x7] :: L) by have := (HH.out.alloc (.cells #[.bool x0, .int .i64 x1, .slice x2 x3 x4, .slice x5 x6 x7] 59)).alloc (.cells #[.int .i64 0, .int .i64 0] 33); simpa [cb] using this)
 obtain ⟨bv, B, HO, HG⟩ := HA.out.opened s.ever hi
 obtain ⟨ad, c, rfl, hnc⟩ := HG.form
 have el : s.back.length = 0 := by simp [hk]
 rw [el] at HO
 obtain ⟨⟨h0, h1, h2, h3⟩, f1, f2, f3⟩ := HO.header
 obtain ⟨sc0, sc1, sc2, sc3, sc4, sc5, sf0, sf1, sf2, sf3, sf4, sf5⟩ := slot_raw HA.out b0 b1 _ _ _ _ _ _ _ _ HY.out
 obtain ⟨q0, q1, q2, q3, g0, g1, g2, g3⟩ := HA.out.other.c4 w.heap.size 59 (.bool x0) (.int .i64 x1) (.slice x2 x3 x4) (.slice x5 x6 x7) (by simp [cb])
 have n7 := (apart HH.out).2.2
 have n8 : ¬ _ = g := fun e => n7.1 e.symm
 have n9 : ¬ _ = sb := fun e => n7.2 e.symm
 have n10 := n7.1
 have n11 := n7.2
 clear n7
 obtain ⟨n1, n2, n3, n4⟩ := apart (HH.out.alloc (.cells #[.bool x0, .int .i64 x1, .slice x2 x3 x4, .slice x5 x6 x7] 59))
 simp only [show ∀ o, (w.alloc o).heap.size = w.heap.size + 1 from fun o => by simp] at n3 n4
 have n5 : ¬ _ = g := fun e => n3 e.symm
 have n6 : ¬ _ = sb := fun e => n4 e.symm
 have HP := As HO
 have HC := As hnc
 have HK := As hk
 have HE := As el
 clear HO hnc hk el
 go_wp2_with fail
 refine bodyPost_ret (v := .tuple #[.agg #[.int .i64 s.ever, .int .i64 (wrap64 ((s.slot s.ever).gen + 1))], .int .i64 0]) (by simp [results, Try.results108, go_sem]) rfl ⟨by simp only [Ar.gen, EN.out], ?_⟩
 refine Opn.close (L' := [_, _]) (s := s.take [.bool x0, .int .i64 x1, .slice x2 x3 x4, .slice x5 x6 x7]) (rows := s.slots.map Sl.cells) (i := s.ever.toNat) (B := B) (bv := .slice ad 0 c) (Opn.putL (L' := []) (Opn.putL (L' := []) (Opn.puth (Opn.put (j := 4) (Opn.put (j := 5) ((Opn.put (j := 3) (v := .slice x5 x6 x7) (Opn.put (j := 2) (v := .slice x2 x3 x4) (Opn.put (j := 1) (v := .int .i64 x1) (Opn.put (j := 0) (v := .bool x0) (Opn.puth (HP.out.drewN _)) (by omega)) (by omega)) (by omega)) (by omega))) (by omega)) (by omega))))) ?_ ?_ ?_ ?_
 ·have e1 := HH.out.ok.held_take HR.out [.bool x0, .int .i64 x1, .slice x2 x3 x4, .slice x5 x6 x7]
  simp [Ar.take, Ar.n, HK.out] at e1 ⊢
  omega
 ·simp only [Ar.take, List.map_set, EN.out]
  congr 1
  simp [Sl.cells, HY.out, Ar.gen, EN.out]
 ·have := HG
  simp only [HE.out] at this
  simpa [Ar.take, HK.out] using this
 ·exact HH.out.ok.take HR.out rfl ⟨_, _, _, _, _, _, _, _, rfl⟩
theorem take2.calls (h : Arn w0 w g sb s L) (hr : ¬ s.room = 0) (hk : ¬ s.back = []) (x0 : Bool) (x1 : Int) (x2 : Option Addr) (x3 x4 : Nat) (x5 : Option Addr) (x6 x7 : Nat) : Calls Try.prog 108 #[.pointer (some ⟨g, 0, none⟩), .agg #[.bool x0, .int .i64 x1, .slice x2 x3 x4, .slice x5 x6 x7]] w fun e w' => e = .returned (.tuple #[.agg #[.int .i64 s.next, .int .i64 s.gen], .int .i64 0]) ∧ Arn w0 w' g sb (s.take [.bool x0, .int .i64 x1, .slice x2 x3 x4, .slice x5 x6 x7]) L := by
 obtain ⟨b0, b1⟩ := h.ok.next hr
 obtain ⟨k, hl⟩ : ∃ k, s.back.length = k + 1 := ⟨s.back.length - 1, by have : 0 < s.back.length := List.length_pos_iff.2 hk; omega⟩
 have hlast : s.back[k]? = some s.next := by
  simp only [Ar.next, if_neg hk]
  rw [List.getLastD_eq_getLast?, List.getLast?_eq_getElem?, hl]
  simp [hl]
 have hi : s.next.toNat < s.n := by omega
 have dr : (s.room == 0) = false := by simp [hr]
 have hkm : k ≤ 4096 := by have := h.ok.sum; have := h.ok.ever; have := h.ok.most; omega
 obtain ⟨y0, y1, y2, y3, y4, y5, y6, y7, hy⟩ := h.ok.shp _ (slot_mem hi)
 have HY := As hy
 have HH := As h
 have huE := Try.underlying203
 have huA := Try.underlying200
 have hu33 := Try.underlying33
 have hu26 := Try.underlying26
 have hmost := h.ok.most
 have hheld := s.held_le
 have HR := As hr
 have HK := As hk
 clear h hy hr hk
 go_enter Try.func108, Try.ntmps108
 go_wp2_with fail
 refine (room.calls ((HH.out.alloc (.cells #[.bool x0, .int .i64 x1, .slice x2 x3 x4, .slice x5 x6 x7] 59)).alloc _)).mono ?_
 rintro e1 w1 ⟨rfl, ⟨n1, rfl⟩⟩
 have HA := As (show Arn w0 _ g sb s (cb (w.heap.size + 1) 33 #[.int .i64 0, .int .i64 0] :: cb w.heap.size 59 #[.bool x0, .int .i64 x1, .slice x2 x3 x4, .slice x5 x6 x7] :: L) by have := (HH.out.alloc (.cells #[.bool x0, .int .i64 x1, .slice x2 x3 x4, .slice x5 x6 x7] 59)).alloc (.cells #[.int .i64 0, .int .i64 0] 33); simpa [cb] using this)
 obtain ⟨bv, B, HO, HG⟩ := HA.out.opened s.next hi
 obtain ⟨ad, c, rfl, hnc⟩ := HG.form
 obtain ⟨gb, cur, rfl, rfl, hc1, hc2, hc3, hc4⟩ := HG.addr (by omega)
 have cb0 := (HO.hv.cell (g := gb) (t := 3) (cs := cur) (by simp) k ((hc4 k (by omega)).trans (show _ = some (Value.int .i64 s.next) by simp [nums, hlast])))
 have m1 := HO.hv.apart (i := 0) (j := 2) rfl rfl (by omega)
 have m2 := HO.hv.apart (i := 2) (j := 0) rfl rfl (by omega)
 rw [hl] at HO
 obtain ⟨⟨h0, h1, h2, h3⟩, f1, f2, f3⟩ := HO.header
 obtain ⟨sc0, sc1, sc2, sc3, sc4, sc5, sf0, sf1, sf2, sf3, sf4, sf5⟩ := slot_raw HA.out b0 b1 _ _ _ _ _ _ _ _ HY.out
 obtain ⟨q0, q1, q2, q3, g0, g1, g2, g3⟩ := HA.out.other.c4 w.heap.size 59 (.bool x0) (.int .i64 x1) (.slice x2 x3 x4) (.slice x5 x6 x7) (by simp [cb])
 have n7 := (apart HH.out).2.2
 have n8 : ¬ _ = g := fun e => n7.1 e.symm
 have n9 : ¬ _ = sb := fun e => n7.2 e.symm
 have n10 := n7.1
 have n11 := n7.2
 clear n7
 obtain ⟨n1, n2, n3, n4⟩ := apart (HH.out.alloc (.cells #[.bool x0, .int .i64 x1, .slice x2 x3 x4, .slice x5 x6 x7] 59))
 simp only [show ∀ o, (w.alloc o).heap.size = w.heap.size + 1 from fun o => by simp] at n3 n4
 have n5 : ¬ _ = g := fun e => n3 e.symm
 have n6 : ¬ _ = sb := fun e => n4 e.symm
 have HP := As HO
 have HC := As hnc
 have HE := As hl
 have HL := As hlast
 clear HO hnc hl hc1 hc2 hc3 hc4 hlast
 have k1 : ((k : Int) < (k : Int) + 1) = True := eq_true (by omega)
 have k2 : (k : Int) ≤ (c : Int) := by have := HC.out; have := HE.out; omega
 have k3 : k ≤ c := by omega
 have k4 : k < k + 1 := by omega
 go_upto_region 6 with (fail)
 go_region
 all_goals go_wp2_with fail
 refine bodyPost_ret (v := .tuple #[.agg #[.int .i64 s.next, .int .i64 s.gen], .int .i64 0]) (by simp [results, Try.results108, go_sem, Ar.gen]) rfl ⟨rfl, ?_⟩
 refine Opn.close (L' := [_, _]) (s := s.take [.bool x0, .int .i64 x1, .slice x2 x3 x4, .slice x5 x6 x7]) (rows := s.slots.map Sl.cells) (i := s.next.toNat) (B := _) (bv := .slice (some ⟨gb, 0, none⟩) k c) (Opn.putL (L' := []) (Opn.putL (L' := []) (Opn.puth (Opn.put (j := 4) (Opn.put (j := 5) ((Opn.put (j := 3) (v := .slice x5 x6 x7) (Opn.put (j := 2) (v := .slice x2 x3 x4) (Opn.put (j := 1) (v := .int .i64 x1) (Opn.put (j := 0) (v := .bool x0) (Opn.puth (HP.out.drewN _)) (by omega)) (by omega)) (by omega)) (by omega))) (by omega)) (by omega))))) ?_ ?_ ?_ ?_
 ·have e1 := HH.out.ok.held_take HR.out [.bool x0, .int .i64 x1, .slice x2 x3 x4, .slice x5 x6 x7]
  have hk := HK.out
  simp [Ar.take, Ar.n, hk] at e1 ⊢
  omega
 ·simp only [Ar.take, List.map_set]
  congr 1
  simp [Sl.cells, HY.out, Ar.gen]
 ·have hg := HG.take k (by have := HE.out; omega)
  have el : (s.take [.bool x0, .int .i64 x1, .slice x2 x3 x4, .slice x5 x6 x7]).back.length = k := by simp [Ar.take, HE.out]
  have ex : (nums .i64 s.back).take (k * 1) = nums .i64 (s.take [.bool x0, .int .i64 x1, .slice x2 x3 x4, .slice x5 x6 x7]).back := by
   simp [nums, Ar.take, List.dropLast_eq_take, HE.out]
  rw [el, ← ex]
  exact hg
 ·exact HH.out.ok.take HR.out rfl ⟨_, _, _, _, _, _, _, _, rfl⟩
end Go.Proofs.Ytglbcfkmaamhaaa.ArN
end
namespace Go.Proofs.Ytglbcfkmaamhaaa.ArN
open Go Go.RowKit Go.Proofs.YtglbcfkmaamhaaaW.PrintWords Go.Proofs.YtglbcfkmaamhaaaW.PrintLast Go.Proofs.YtglbcfkmaamhaaaW.PrintMore Go.Proofs.Ytglbcfkmaamhaaa.Hv Go.Proofs.Ytglbcfkmaamhaaa.Arm
section
variable {w0 w w1 : World} {g sb : Nat} {s : Ar} {L L' : List Ob}
theorem info3 : (Try.prog.info? 3).map (fun i => (i.zero, i.size, i.bytes)) = some (some (.int .i64 0), 1, 8) := by kernel_rfl
theorem freeNo.calls (h : Arn w0 w g sb s L) (i q : Int) (hq : s.has i q = false) : Calls Try.prog 117 #[.pointer (some ⟨g, 0, none⟩), .agg #[.int .i64 i, .int .i64 q]] w fun e w' => e = .returned (.bool false) ∧ Below w.heap.size w w' := by
 have ea : at_ s sb i q = none := by simp [at_, hq]
 have HH := As h
 have huQ := Try.underlying201
 clear h
 go_enter Try.func117, Try.ntmps117
 go_wp2_with (go_at_call 145; refine (at.calls (HH.out.alloc _) i q).mono ?_; rintro e1 w1 ⟨rfl, hb⟩; have HB := As hb; clear hb; simp only [ea])
 go_ret
 exact ⟨rfl, below_then (below_alloc (Below.refl _ _) _) (by simp) HB.out⟩
theorem setNo.calls (h : Arn w0 w g sb s L) (i q : Int) (hq : s.has i q = false) (x0 : Bool) (x1 : Int) (x2 : Option Addr) (x3 x4 : Nat) (x5 : Option Addr) (x6 x7 : Nat) : Calls Try.prog 112 #[.pointer (some ⟨g, 0, none⟩), .agg #[.int .i64 i, .int .i64 q], .agg #[.bool x0, .int .i64 x1, .slice x2 x3 x4, .slice x5 x6 x7]] w fun e w' => e = .returned (.bool false) ∧ Below w.heap.size w w' := by
 have ea : at_ s sb i q = none := by simp [at_, hq]
 have HH := As h
 have huQ := Try.underlying201
 clear h
 go_enter Try.func112, Try.ntmps112
 go_wp2_with (go_at_call 145; refine (at.calls ((HH.out.alloc (.cells #[.int .i64 i, .int .i64 q] 33)).alloc (.cells #[.bool x0, .int .i64 x1, .slice x2 x3 x4, .slice x5 x6 x7] 59)) i q).mono ?_; rintro e1 w1 ⟨rfl, hb⟩; have HB := As hb; clear hb; simp only [ea])
 go_ret
 exact ⟨rfl, below_then (below_alloc (below_alloc (Below.refl _ _) _) _) (by simp; omega) HB.out⟩
theorem free.calls (h : Arn w0 w g sb s L) (i q : Int) (hq : s.has i q = true) : Calls Try.prog 117 #[.pointer (some ⟨g, 0, none⟩), .agg #[.int .i64 i, .int .i64 q]] w fun e w' => e = .returned (.bool true) ∧ Arn w0 w' g sb (s.drop i [.bool false, .int .i64 0, .slice none 0 0, .slice none 0 0]) L := by
 have ea : at_ s sb i q = some ⟨sb, i.toNat * 6, none⟩ := by simp [at_, hq]
 obtain ⟨b0, b1, b2, _⟩ := Ar.has_lt hq
 have hi : i.toNat < s.n := by omega
 obtain ⟨y0, y1, y2, y3, y4, y5, y6, y7, hy⟩ := h.ok.shp _ (slot_mem hi)
 have HY := As hy
 have HH := As h
 have huE := Try.underlying203
 have huA := Try.underlying200
 have huQ := Try.underlying201
 have hu33 := Try.underlying33
 have hmost := h.ok.most
 have hh := s.held_le
 have hh1 : 1 ≤ s.held := by have := Ar.held_drop hq [.bool false, .int .i64 0, .slice none 0 0, .slice none 0 0]; omega
 have HQ := As hq
 clear h hy hq
 go_enter Try.func117, Try.ntmps117
 go_wp2_with fail
 refine (at.calls (HH.out.alloc _) i q).mono ?_
 rintro e1 w1 ⟨rfl, hb⟩
 have HA := As (show Arn w0 w1 g sb s (cb w.heap.size 33 #[.int .i64 i, .int .i64 q] :: L) from (HH.out.alloc (.cells #[.int .i64 i, .int .i64 q] 33)).call hb)
 have r0 : w1.cell? ⟨w.heap.size, 0, none⟩ = some (.int .i64 i) := pw_cell_below hb ((blk_cell (blk_new w (.cells #[.int .i64 i, .int .i64 q] 33)) 0).trans rfl)
 obtain ⟨m1, m2, m3, m4⟩ := apart HH.out
 have m5 : ¬ w.heap.size = g := fun e => m3 e.symm
 have m6 : ¬ w.heap.size = sb := fun e => m4 e.symm
 clear hb
 simp only [ea]
 go_upto_region 5 with (fail)
 obtain ⟨-, -, n3, n4⟩ := apart HA.out
 obtain ⟨w9, hW, hA⟩ : ∃ W, W = w1.alloc (.cells #[.bool false, .int .i64 0, .slice none 0 0, .slice none 0 0] 59) ∧ Arn w0 W g sb s (cb w1.heap.size 59 #[.bool false, .int .i64 0, .slice none 0 0, .slice none 0 0] :: cb w.heap.size 33 #[.int .i64 i, .int .i64 q] :: L) := ⟨_, rfl, HA.out.alloc _⟩
 rw [← hW]
 clear hW r0
 have HA := As hA
 clear hA
 generalize w1.heap.size = b9 at HA n3 n4 ⊢
 have n5 : ¬ b9 = g := fun e => n3 e.symm
 have n6 : ¬ b9 = sb := fun e => n4 e.symm
 obtain ⟨q0, q1, q2, q3, -, -, -, -⟩ := HA.out.other.c4 b9 59 (.bool false) (.int .i64 0) (.slice none 0 0) (.slice none 0 0) List.mem_cons_self
 obtain ⟨r0, -, -, -⟩ := HA.out.other.c2 w.heap.size 33 (.int .i64 i) (.int .i64 q) (by simp)
 have n7 := HA.out.other.apart (i := 0) (j := 1) rfl rfl (by decide)
 simp only [cb] at n7
 have n8 : ¬ w.heap.size = b9 := fun e => n7 e.symm
 obtain ⟨bv, B, HO, HG⟩ := HA.out.opened i hi
 obtain ⟨ad, c, rfl, hnc⟩ := HG.form
 obtain ⟨⟨h0, h1, h2, h3⟩, f1, f2, f3⟩ := HO.header
 obtain ⟨sc0, sc1, sc2, sc3, sc4, sc5, sf0, sf1, sf2, sf3, sf4, sf5⟩ := slot_raw HA.out b0 b1 _ _ _ _ _ _ _ _ HY.out
 obtain ⟨n1, n2, n3, n4⟩ := apart HA.out
 have HP := As HO
 have HN := As hnc
 clear HO hnc
 go_upto_region 6 with (fail)
 have HV := As (((Opn.put (j := 4 + 1) (v := .bool false) (Opn.put (j := 3) (v := .slice none 0 0) (Opn.put (j := 2) (v := .slice none 0 0) (Opn.put (j := 1) (v := .int .i64 0) (Opn.put (j := 0) (v := .bool false) HP.out (by omega)) (by omega)) (by omega)) (by omega)) (by omega)).hv.skip (.cells #[.int .i64 i] 3)).rot2.drew)
 have hv1 := (((Opn.put (j := 4 + 1) (v := .bool false) (Opn.put (j := 3) (v := .slice none 0 0) (Opn.put (j := 2) (v := .slice none 0 0) (Opn.put (j := 1) (v := .int .i64 0) (Opn.put (j := 0) (v := .bool false) HP.out (by omega)) (by omega)) (by omega)) (by omega)) (by omega)).hv.skip (.cells #[.int .i64 i] 3)).rot2).cellM (g := g) (v := .slice ad s.back.length c) 1 rfl
 simp only [Nat.add_zero, Nat.reduceAdd] at hv1
 have HO2 := As (Opn.put (j := 4 + 1) (v := .bool false) (Opn.put (j := 3) (v := .slice none 0 0) (Opn.put (j := 2) (v := .slice none 0 0) (Opn.put (j := 1) (v := .int .i64 0) (Opn.put (j := 0) (v := .bool false) HP.out (by omega)) (by omega)) (by omega)) (by omega)) (by omega))
 have cnew : ∀ W : World, W.heap.size = w9.heap.size → (W.alloc (.cells #[.int .i64 i] 3)).cell? ⟨w9.heap.size, 0, none⟩ = some (.int .i64 i) := fun W e => by rw [← e]; exact (blk_cell (blk_new W _) 0).trans rfl
 have hb8 : (s.back.length + 1) * 8 ≤ 140737488355328 := by have := HH.out.ok.sum; have := HH.out.ok.ever; have := HH.out.ok.most; omega
 go_region_law (refine append_step (w0 := w0) (by rfl) (.tmp 23) (.tmp 26) 26 3 (.int .i64 0) 1 8 rfl Try.underlying26 info3 rfl (by decide) (by decide) (.slice ad s.back.length c) s.back.length (nums .i64 s.back) (by simp [Act.eval, Act.put]) ⟨w9.heap.size, 0, none⟩ 1 1 [.int .i64 i] (by simp [Act.eval, Act.put]) rfl (by intro j u hj; match j, hj with | 0, hj => simp at hj; subst hj; simp [Addr.add]; exact cnew _ (by simp)) (by intro u hu; simp at hu; subst hu; rfl) HG HV.out hb8 ?_; intro v1 w2 A1 hG1 hH1; obtain ⟨ad1, c1, rfl, hn1⟩ := hG1.form; have HG1 := As hG1; have HH1 := As hH1; have hx1 := hH1.cellM 1 rfl; have hx3 := hH1.cellM 3 rfl; have fx1 := hH1.frozenM 1; have fx3 := hH1.frozenM 3; clear hG1 hH1 hn1)
 all_goals
  go_wp2_with fail
  go_ret
  refine ⟨rfl, ?_⟩
  have hd := Ar.held_drop HQ.out [.bool false, .int .i64 0, .slice none 0 0, .slice none 0 0]
  have hN : (s.drop i [.bool false, .int .i64 0, .slice none 0 0, .slice none 0 0]).n = s.n := by simp [Ar.n, Ar.drop]
  refine Opn.close (L' := [_, _]) (s := s.drop i [.bool false, .int .i64 0, .slice none 0 0, .slice none 0 0]) (bv := .slice ad1 (s.back.length + 1) c1) (Opn.puth (j := 3) (v := .int .i64 ((s.held : Int) - 1)) (Opn.puth (j := 1) (v := .slice ad1 (s.back.length + 1) c1) ⟨HH1.out.unrot2, HO2.out.all, HO2.out.len, HO2.out.lt⟩)) ?_ ?_ ?_ (HH.out.ok.drop HQ.out rfl ⟨_, _, _, _, _, _, _, _, rfl⟩)
  ·have e : ((s.held : Int) - 1) = ((s.drop i [.bool false, .int .i64 0, .slice none 0 0, .slice none 0 0]).held : Int) := by omega
   rw [e, hN]
   rfl
  ·simp only [Ar.drop, List.map_set]
   congr 1
   simp [Sl.cells, HY.out]
  ·have := HG1.out
   simpa [Ar.drop, nums] using this
theorem info33 : (Try.prog.info? 33).map (fun i => (i.zero, i.size, i.bytes)) = some (some (.agg #[.int .i64 0, .int .i64 0]), 2, 16) := by kernel_rfl
def Lives (s : Ar) (w : World) (e : Ending) (w' : World) : Prop := ∃ ad c A, e = .returned (.slice ad s.live.length c) ∧ Gr 33 2 (.slice ad s.live.length c) s.live.length (refs s.live) A ∧ Hv w w' A
theorem live.calls (h : Arn w0 w g sb s L) : Calls Try.prog 121 #[.pointer (some ⟨g, 0, none⟩)] w (Lives s w) := by
 obtain ⟨bv, hc, hs⟩ := h.cells
 have c0 := hc 0 _ rfl
 have huA := Try.underlying200
 have huE := Try.underlying203
 have huP := Try.underlying156
 have hn := h.ok.most
 have HH := As h
 clear hc hs h
 go_enter Try.func121, Try.ntmps121
 have hmk := HH.out.ok.most
 go_wp2_with fail
 go_loopw [3, 13] (fun v i wr => ∃ (k : Nat) (A : List Ob), k ≤ s.n ∧ i = .int .i64 (k : Int) ∧ Gr 33 2 v (liveFrom 0 (s.slots.take k)).length (refs (liveFrom 0 (s.slots.take k))) A ∧ Aside0 (Hv w wr A)) (fun _ i _ => s.n - (intOf i).toNat)
 case atStart => exact ⟨0, [], Nat.zero_le _, rfl, Gr.nil _ _, ⟨Hv.start w⟩⟩
 case round =>
  obtain ⟨k, A, hk, rfl, HG, HV⟩ := hrel
  have hll : (liveFrom 0 (s.slots.take k)).length ≤ 4096 := by rw [live_len]; exact Nat.le_trans List.countP_le_length (by rw [List.length_take]; omega)
  obtain ⟨ad, c, rfl, hnc⟩ := HG.form
  by_cases hlt : k < s.n
  ·have HW := As (HH.out.call HV.out.bel)
   obtain ⟨y0, y1, y2, y3, y4, y5, y6, y7, hy⟩ := HH.out.ok.shp _ (slot_mem (i := (k : Int)) (by simpa using hlt))
   obtain ⟨sc0, sc1, sc2, sc3, sc4, sc5, sf0, sf1, sf2, sf3, sf4, sf5⟩ := slot_raw HW.out (i := (k : Int)) (by omega) (by omega) _ _ _ _ _ _ _ _ hy
   simp only [Int.toNat_natCast] at sc0 sc1 sc2 sc3 sc4 sc5 sf0 sf1 sf2 sf3 sf4 sf5
   have HY := As hy
   clear hy
   have hlt' : (k : Int) < (s.n : Int) := by omega
   have HG1 := As HG
   have HL1 := As hll
   clear HG hnc
   cases htk : (s.slot (k : Int)).taken with
   | true =>
    rw [htk] at sc5
    have HT := As htk
    clear htk
    go_wp2_with (at_builtin; refine append_list (w0 := w) (A := A) (L := []) rfl (.tmp 20) (.tmp 25) 31 33 (.agg #[.int .i64 0, .int .i64 0]) 2 16 rfl Try.underlying31 info33 rfl (by decide) (by decide) _ _ _ rfl ⟨wr.heap.size + 1, 0, none⟩ 1 1 [.int .i64 (k : Int), .int .i64 (s.slot (k : Int)).gen] (by simp [Act.eval, Act.put]) rfl (news_new _ _ 33 _ (by simp)) (by intro u hu; simp at hu; rcases hu with rfl | rfl <;> rfl) HG1.out (((HV.out.skip _).skip _).nilR) (by have := HL1.out; omega) ?_; intro v1 w2 A1 hG1 hH1; have HG2 := As hG1; have HH1 := As hH1; clear hG1 hH1)
    go_roundw
    case rel =>
     have e := live_take s k hlt
     rw [HT.out, if_pos rfl] at e
     refine ⟨k + 1, A1, hlt, by go_num, ?_, ⟨by simpa using HH1.out⟩⟩
     rw [e]
     have := HG2.out
     simpa [refs] using this
    case measure => simp [intOf]; omega
   | false =>
    rw [htk] at sc5
    have HT := As htk
    clear htk
    go_wp2_with fail
    go_roundw
    case rel =>
     have e := live_take s k hlt
     rw [HT.out] at e
     simp only [Bool.false_eq_true, if_false, List.append_nil] at e
     refine ⟨k + 1, A, hlt, by go_num, ?_, ⟨HV.out.skip _⟩⟩
     rw [e]
     exact HG1.out
    case measure => simp [intOf]; omega
  ·have hge : ¬ (k : Int) < (s.n : Int) := by omega
   have hkk : k = s.n := by omega
   have HG1 := As HG
   have HKK := As hkk
   clear HG hnc hkk
   go_wp2_with fail
   go_ret
   have e : s.slots.take k = s.slots := by rw [HKK.out]; exact List.take_length
   have hg := HG1.out
   rw [e] at hg
   exact ⟨ad, c, A, by rw [show s.live = liveFrom 0 (s.slots.take k) by rw [e]; rfl]; rfl, hg, HV.out⟩
theorem infoE : (Try.prog.info? 203).map (fun i => (i.zero, i.size, i.bytes)) = some (some (.agg #[.bool false, .int .i64 0, .slice none 0 0, .slice none 0 0, .int .i64 0, .bool false]), 6, 80) := by kernel_rfl
theorem make_slots (n : Nat) (h1 : n ≤ 4096) (w : World) :
  (Instr.makeSlice 198 (.int .i64 (n : Int)) (.int .i64 (n : Int))).run Try.prog w = .ok (.slice (some ⟨w.heap.size, 0, none⟩) n n) (w.alloc (.cells (flat (List.replicate n ⟨[.bool false, .int .i64 0, .slice none 0 0, .slice none 0 0], 0, false⟩)) 203)) := by
 cases hi : Try.prog.info? 203 with
 | none => have := infoE; rw [hi] at this; simp at this
 | some i =>
  have := infoE
  rw [hi] at this
  simp at this
  obtain ⟨h2, h3, h4⟩ := this
  rw [run_make (P := Try.prog) w 198 203 i _ Try.underlying198 hi h2 .i64 .i64 n n (by omega) (by omega) (by rw [h4]; omega) (by omega)]
  have e1 := made_flat ([.bool false, .int .i64 0, .slice none 0 0, .slice none 0 0] ++ [.int .i64 0, .bool false]) 6 n rfl (by omega)
  have e2 : flat (List.replicate n ⟨[.bool false, .int .i64 0, .slice none 0 0, .slice none 0 0], 0, false⟩) = ((List.replicate n ([.bool false, .int .i64 0, .slice none 0 0, .slice none 0 0] ++ [.int .i64 0, .bool false])).flatten).toArray := by simp [flat, Sl.cells, List.map_replicate]
  rw [e2, ← e1]
  simp only [h3]
  rfl
theorem new1.calls (n : Nat) (hn : n ≤ 4096) (w : World) : Calls Try.prog 107 #[.int .i64 (n : Int)] w fun e w' => e = .returned (.pointer (some ⟨w.heap.size + 1, 0, none⟩)) ∧ Arn w w' (w.heap.size + 1) w.heap.size (Ar.new n [.bool false, .int .i64 0, .slice none 0 0, .slice none 0 0]) [] := by
 have hmk := make_slots n hn
 have hu := Try.underlying200
 have d1 : decide ((n : Int) < 0) = false := by simp
 have d2 : decide ((4096 : Int) < (n : Int)) = false := decide_eq_false (by omega)
 go_enter Try.func107, Try.ntmps107
 go_wp2
 go_ret
 refine ⟨rfl, .slice none 0 0, [], ?_, Gr.nil 3 1, new_ok n hn _ rfl ⟨_, _, _, _, _, _, _, _, rfl⟩⟩
 have h1 := ((Hv.start w).alloc (.cells (flat (List.replicate n ⟨[.bool false, .int .i64 0, .slice none 0 0, .slice none 0 0], 0, false⟩)) 203)).alloc (.cells #[.slice (some ⟨w.heap.size, 0, none⟩) n n, .slice none 0 0, .int .i64 0, .int .i64 0] 200)
 rw [show (w.alloc (.cells (flat (List.replicate n ⟨[.bool false, .int .i64 0, .slice none 0 0, .slice none 0 0], 0, false⟩)) 203)).heap.size = w.heap.size + 1 by simp] at h1
 have e : AL (w.heap.size + 1) w.heap.size (.slice none 0 0) [] (Ar.new n [.bool false, .int .i64 0, .slice none 0 0, .slice none 0 0]) ++ [] = [cb (w.heap.size + 1) 200 #[.slice (some ⟨w.heap.size, 0, none⟩) n n, .slice none 0 0, .int .i64 0, .int .i64 0], cb w.heap.size 203 (flat (List.replicate n ⟨[.bool false, .int .i64 0, .slice none 0 0, .slice none 0 0], 0, false⟩))] := by
  simp [AL, Ar.new, Ar.n, Ar.held, List.countP_replicate]
 rw [e]
 exact h1
theorem new0.calls (n : Int) (hn : n < 0 ∨ n > 4096) (w : World) : Calls Try.prog 107 #[.int .i64 n] w fun e w' => e = .returned (.pointer (some ⟨w.heap.size + 1, 0, none⟩)) ∧ Arn w w' (w.heap.size + 1) w.heap.size (Ar.new 0 [.bool false, .int .i64 0, .slice none 0 0, .slice none 0 0]) [] := by
 have hmk : ∀ w : World, (Instr.makeSlice 198 (.int .i64 0) (.int .i64 0)).run Try.prog w = .ok (.slice (some ⟨w.heap.size, 0, none⟩) 0 0) (w.alloc (.cells (flat []) 203)) := make_slots 0 (by omega)
 have hu := Try.underlying200
 have fin : Arn w ((w.alloc (.cells (flat []) 203)).alloc (.cells #[.slice (some ⟨w.heap.size, 0, none⟩) 0 0, .slice none 0 0, .int .i64 0, .int .i64 0] 200)) (w.heap.size + 1) w.heap.size (Ar.new 0 [.bool false, .int .i64 0, .slice none 0 0, .slice none 0 0]) [] := by
  refine ⟨.slice none 0 0, [], ?_, Gr.nil 3 1, new_ok 0 (by omega) _ rfl ⟨_, _, _, _, _, _, _, _, rfl⟩⟩
  have h1 := ((Hv.start w).alloc (.cells (flat []) 203)).alloc (.cells #[.slice (some ⟨w.heap.size, 0, none⟩) 0 0, .slice none 0 0, .int .i64 0, .int .i64 0] 200)
  rw [show (w.alloc (.cells (flat []) 203)).heap.size = w.heap.size + 1 by simp] at h1
  exact h1
 by_cases h0 : n < 0
 ·have d1 : decide (n < 0) = true := decide_eq_true h0
  clear hn h0
  go_enter Try.func107, Try.ntmps107
  go_wp2
  go_ret
  exact ⟨rfl, fin⟩
 ·have d1 : decide (n < 0) = false := decide_eq_false h0
  have d2 : decide (4096 < n) = true := decide_eq_true (by omega)
  clear hn h0
  go_enter Try.func107, Try.ntmps107
  go_wp2
  go_ret
  exact ⟨rfl, fin⟩
theorem new.calls (n : Int) (w : World) : Calls Try.prog 107 #[.int .i64 n] w fun e w' => e = .returned (.pointer (some ⟨w.heap.size + 1, 0, none⟩)) ∧ Arn w w' (w.heap.size + 1) w.heap.size (Ar.new (many n) [.bool false, .int .i64 0, .slice none 0 0, .slice none 0 0]) [] := by
 unfold many
 by_cases h : n < 0 ∨ n > 4096
 ·rw [if_pos h]
  exact new0.calls n h w
 ·rw [if_neg h]
  have := new1.calls n.toNat (by omega) w
  rwa [show ((n.toNat : Nat) : Int) = n by omega] at this
end
section
variable {w0 w w1 : World} {g sb : Nat} {s : Ar} {L L' : List Ob}
theorem Arn.join (h : Arn w0 w g sb s L) {A : List Ob} (k : Hv w w1 A) : Arn w0 w1 g sb s (A ++ L) := by
 obtain ⟨bv, B, h1, h2, h3⟩ := h
 refine ⟨bv, B, (h1.join k).perm ?_, h2, h3⟩
 rw [← List.append_assoc, ← List.append_assoc]
 exact List.Perm.append_right L List.perm_append_comm
theorem Arn.tail {a : Ob} (h : Arn w0 w g sb s (a :: L)) : Arn w0 w g sb s L := by
 obtain ⟨bv, B, h1, h2, h3⟩ := h
 exact ⟨bv, B, h1.drop (List.Sublist.append_left (List.sublist_cons_self a L) _), h2, h3⟩
theorem Arn.lens {X A Y : List Ob} (h : Arn w0 w g sb s (X ++ (A ++ Y))) : ∃ R, Hv w0 w (A ++ R) ∧ ∀ w' A', Hv w0 w' (A' ++ R) → Arn w0 w' g sb s (X ++ (A' ++ Y)) := by
 obtain ⟨bv, B, h1, h2, h3⟩ := h
 have key : ∀ A' : List Ob, (A' ++ (AL g sb bv B s ++ (X ++ Y))).Perm (AL g sb bv B s ++ (X ++ (A' ++ Y))) := fun A' => by
  have e1 : (A' ++ ((AL g sb bv B s ++ X) ++ Y)).Perm ((AL g sb bv B s ++ X) ++ (A' ++ Y)) := by
   rw [← List.append_assoc, ← List.append_assoc (AL g sb bv B s ++ X)]
   exact List.Perm.append_right Y List.perm_append_comm
  simpa [List.append_assoc] using e1
 exact ⟨AL g sb bv B s ++ (X ++ Y), h1.perm (key A), fun w' A' hw => ⟨bv, B, hw.perm (key A').symm, h2, h3⟩⟩
theorem Arn.Take (h : Arn w0 w g sb s L) (x0 : Bool) (x1 : Int) (x2 : Option Addr) (x3 x4 : Nat) (x5 : Option Addr) (x6 x7 : Nat) {a b er : Int} {s' : Ar} (hr : tk s = (a, b, er)) (hs : s.took [.bool x0, .int .i64 x1, .slice x2 x3 x4, .slice x5 x6 x7] = s') :
  Calls Try.prog 108 #[.pointer (some ⟨g, 0, none⟩), .agg #[.bool x0, .int .i64 x1, .slice x2 x3 x4, .slice x5 x6 x7]] w fun e w' => e = .returned (.tuple #[.agg #[.int .i64 a, .int .i64 b], .int .i64 er]) ∧ Arn w0 w' g sb s' L := by
 subst hs
 unfold tk at hr
 unfold Ar.took
 by_cases h0 : s.room = 0
 ·rw [if_pos h0] at hr ⊢
  simp only [Prod.mk.injEq] at hr
  obtain ⟨rfl, rfl, rfl⟩ := hr
  exact (take0.calls h h0 (x0) (x1) (x2) (x3) (x4) (x5) (x6) (x7)).mono fun e w' ⟨h1, h2⟩ => ⟨h1, h.call h2⟩
 ·rw [if_neg h0] at hr ⊢
  simp only [Prod.mk.injEq] at hr
  obtain ⟨rfl, rfl, rfl⟩ := hr
  by_cases hk : s.back = []
  ·exact take1.calls h h0 hk (x0) (x1) (x2) (x3) (x4) (x5) (x6) (x7)
  ·exact take2.calls h h0 hk (x0) (x1) (x2) (x3) (x4) (x5) (x6) (x7)
theorem Arn.Get (h : Arn w0 w g sb s L) (i q : Int) (hq : s.has i q = true) (x0 : Bool) (x1 : Int) (x2 : Option Addr) (x3 x4 : Nat) (x5 : Option Addr) (x6 x7 : Nat) (hx : (s.slot i).x = [.bool x0, .int .i64 x1, .slice x2 x3 x4, .slice x5 x6 x7]) : Calls Try.prog 109 #[.pointer (some ⟨g, 0, none⟩), .agg #[.int .i64 i, .int .i64 q]] w fun e w' => e = .returned (.tuple #[.agg #[.bool x0, .int .i64 x1, .slice x2 x3 x4, .slice x5 x6 x7], .bool true]) ∧ Arn w0 w' g sb s L :=
 (get.calls h i q hq (x0) (x1) (x2) (x3) (x4) (x5) (x6) (x7) hx).mono fun e w' ⟨h1, h2⟩ => ⟨h1, h.call h2⟩
theorem Arn.GetNo (h : Arn w0 w g sb s L) (i q : Int) (hq : s.has i q = false) : Calls Try.prog 109 #[.pointer (some ⟨g, 0, none⟩), .agg #[.int .i64 i, .int .i64 q]] w fun e w' => e = .returned (.tuple #[.agg #[.bool false, .int .i64 0, .slice none 0 0, .slice none 0 0], .bool false]) ∧ Arn w0 w' g sb s L :=
 (getNo.calls h i q hq).mono fun e w' ⟨h1, h2⟩ => ⟨h1, h.call h2⟩
theorem Arn.Set (h : Arn w0 w g sb s L) (i q : Int) (x0 : Bool) (x1 : Int) (x2 : Option Addr) (x3 x4 : Nat) (x5 : Option Addr) (x6 x7 : Nat) {b : Bool} {s' : Ar} (hb : s.has i q = b) (hs : s.set i q [.bool x0, .int .i64 x1, .slice x2 x3 x4, .slice x5 x6 x7] = s') : Calls Try.prog 112 #[.pointer (some ⟨g, 0, none⟩), .agg #[.int .i64 i, .int .i64 q], .agg #[.bool x0, .int .i64 x1, .slice x2 x3 x4, .slice x5 x6 x7]] w fun e w' => e = .returned (.bool b) ∧ Arn w0 w' g sb s' L := by
 subst hs
 unfold Ar.set
 cases b with
 | true => rw [if_pos hb]; exact set.calls h i q hb (x0) (x1) (x2) (x3) (x4) (x5) (x6) (x7)
 | false => rw [if_neg (by simp [hb])]; exact (setNo.calls h i q hb (x0) (x1) (x2) (x3) (x4) (x5) (x6) (x7)).mono fun e w' ⟨h1, h2⟩ => ⟨h1, h.call h2⟩
theorem Arn.Free (h : Arn w0 w g sb s L) (i q : Int) {b : Bool} {s' : Ar} (hb : s.has i q = b) (hs : s.free i q [.bool false, .int .i64 0, .slice none 0 0, .slice none 0 0] = s') : Calls Try.prog 117 #[.pointer (some ⟨g, 0, none⟩), .agg #[.int .i64 i, .int .i64 q]] w fun e w' => e = .returned (.bool b) ∧ Arn w0 w' g sb s' L := by
 subst hs
 unfold Ar.free
 cases b with
 | true => rw [if_pos hb]; exact free.calls h i q hb
 | false => rw [if_neg (by simp [hb])]; exact (freeNo.calls h i q hb).mono fun e w' ⟨h1, h2⟩ => ⟨h1, h.call h2⟩
theorem Arn.Live (h : Arn w0 w g sb s L) {l : List (Int × Int)} (hl : s.live = l) {n : Nat} (hn : l.length = n) : Calls Try.prog 121 #[.pointer (some ⟨g, 0, none⟩)] w fun e w' => ∃ ad c A, e = .returned (.slice ad n c) ∧ Gr 33 2 (.slice ad n c) n (refs l) A ∧ Arn w0 w' g sb s (A ++ L) := by
 subst hl hn
 exact (live.calls h).mono fun e w' ⟨ad, c, A, h1, h2, h3⟩ => ⟨ad, c, A, h1, h2, h.join h3⟩
theorem New (h : Hv w0 w L) (n : Int) : Calls Try.prog 107 #[.int .i64 n] w fun e w' => ∃ g sb, e = .returned (.pointer (some ⟨g, 0, none⟩)) ∧ Arn w0 w' g sb (Ar.new (many n) [.bool false, .int .i64 0, .slice none 0 0, .slice none 0 0]) L :=
 (new.calls n w).mono fun e w' ⟨h1, bv, B, h2, h3, h4⟩ => ⟨_, _, h1, bv, B, by
  have := h.join h2
  rw [List.append_nil] at this
  exact this, h3, h4⟩
end
end Go.Proofs.Ytglbcfkmaamhaaa.ArN
namespace Go.Proofs.Ytglbcfkmaamhaaa.Less
open Go
section
theorem less_irr : ∀ a : List UInt8, Op.bytesLess a a = false
 | [] => rfl
 | x :: a => by simp [Op.bytesLess, less_irr a]
theorem less_flip : ∀ a b : List UInt8, (Op.bytesLess a b || a == b) = !(Op.bytesLess b a)
 | [], [] => rfl
 | [], _ :: _ => rfl
 | _ :: _, [] => rfl
 | x :: a, y :: b => by
  have ih := less_flip a b
  rcases (show x < y ∨ x = y ∨ y < x by rcases Nat.lt_trichotomy x.toNat y.toNat with h | h | h; exact .inl (UInt8.lt_iff_toNat_lt.2 h); exact .inr (.inl (UInt8.toNat_inj.1 h)); exact .inr (.inr (UInt8.lt_iff_toNat_lt.2 h))) with h | h | h
  ·have h1 : ¬ y < x := UInt8.lt_asymm h
   have h2 : y ≠ x := (UInt8.ne_of_lt h).symm
   simp [Op.bytesLess, h, h1, h2]
  ·subst h
   simpa [Op.bytesLess, UInt8.lt_irrefl] using ih
  ·have h1 : ¬ x < y := UInt8.lt_asymm h
   have h2 : x ≠ y := (UInt8.ne_of_lt h).symm
   simp [Op.bytesLess, h, h1, h2]
theorem str_leq (t : TypeId) (a b : ByteArray) : binOp .leq t (.string a) (.string b) = pure (.bool (!(Op.bytesLess b.toList a.toList))) := by
 have e : binOp .leq t (.string a) (.string b) = pure (.bool (Op.bytesLess a.toList b.toList || a.toList == b.toList)) := by simp [binOp, Op.stringOp]
 rw [e, less_flip]
open Go.RowKit Go.Proofs.YtglbcfkmaamhaaaW.PrintWords
structure ExtT (w W : World) : Prop where
 b : Below w.heap.size w W
instance extR (w : World) : Nonempty (ExtT w w) := ⟨⟨Below.refl _ _⟩⟩
instance extA (w W : World) (o : Obj) [h : Nonempty (ExtT w W)] : Nonempty (ExtT w (W.alloc o)) := h.elim fun h => ⟨⟨below_alloc h.b o⟩⟩
instance extD (w W : World) [h : Nonempty (ExtT w W)] : Nonempty (ExtT w W.drew) := h.elim fun h => ⟨⟨below_drew1 h.b⟩⟩
instance extN (w W : World) (n : Nat) [h : Nonempty (ExtT w W)] : Nonempty (ExtT w (W.drewN n)) := h.elim fun h => ⟨⟨pw_below_drewN h.b n⟩⟩
theorem rx {α : Type} {d : Kd α} {e base : Nat} {ok : Nat → Prop} {w W : World} {v : Value} {xs : List α} [x : Nonempty (ExtT w W)] (h : d.R e w base ok v xs) : d.R e W base ok v xs := x.elim fun x => Kd.R_below h x.b
theorem hx {w0 w W : World} [x : Nonempty (ExtT w W)] (h : Below w0.heap.size w0 w) : Below w0.heap.size w0 W := x.elim fun x => h.trans (x.b.mono h.size)
end
end Go.Proofs.Ytglbcfkmaamhaaa.Less
namespace Go.Proofs.YtglbcfkmaamhaaaW.PrintLast
open Go Go.RowKit
section
section
variable {P : Program} {ops : Array Oper} {Q : Exit → Act → World → Prop} {md : Region.Mode} {S : World → Prop} {ds : List Nat}
theorem pu_ (i : Nat) (N : Option Tmp) {oi : Oper} {v : Value} {fuel : Nat} {l : Array Bool} {a : Act} {w : World} {a' : Act}
  (h : wpAnyLast P md ops Q S ds fuel (l.setIfInBounds i true) a' w)
  (hi : ops[i]? = some oi := by exact rfl) (hN : oi.dst = N := by exact rfl) (hc : anyB md ops l (l.setIfInBounds i true) i = true := by kernel_rfl)
  (hQ : ∀ c a w, Q (.panic c) (a.put oi.dst v) w → Q (.panic c) a w := by exact fun _ _ _ h => h)
  (hy : Yields P ops oi v a := by (refine Or.inl ⟨by rfl, ?_⟩; intro w'; go_simp; with_reducible rfl))
  (ha : a.put N v = a' := by (simp only [Act.put, List.setIfInBounds_toArray, List.set_cons_zero, List.set_cons_succ, i64_w, i32_w]; rfl)) :
  wpAnyLast P md ops Q S ds (fuel + 1) l a w := pure_ (l.setIfInBounds i true) hi hN hc hQ hy ha h
theorem ta_ (i : Nat) (N : Option Tmp) {oi : Oper} {v : Value} {fuel : Nat} {l : Array Bool} {a : Act} {w : World} {a' : Act} (hS : S w)
  (h : wpAnyLast P md ops Q S ds fuel (l.setIfInBounds i true) a' w)
  (hi : ops[i]? = some oi := by exact rfl) (hN : oi.dst = N := by exact rfl) (hc : takeB md ops ds l (l.setIfInBounds i true) i = true := by kernel_rfl)
  (hQ : ∀ c a w, Q (.panic c) (a.put oi.dst v) w → Q (.panic c) a w := by exact fun _ _ _ h => h)
  (hy : YieldsIf P ops S oi v a)
  (ha : a.put N v = a' := by (simp only [Act.put, List.setIfInBounds_toArray, List.set_cons_zero, List.set_cons_succ, i64_w, i32_w]; rfl)) :
  wpAnyLast P md ops Q S ds (fuel + 1) l a w := take_ (l.setIfInBounds i true) hi hN hc hQ hy hS ha h
theorem on_ (i : Nat) (N : Option Tmp) {oi : Oper} {fuel : Nat} {l : Array Bool} {a : Act} {w : World}
  (h : ∀ K : Act → World → Prop, Shut (∀ a' w', S w' → (S w' → wpAnyLast P md ops Q S ds fuel (l.setIfInBounds i true) a' w') → K a' w') → if Region.wanted oi (yielded ops a.tmps) = true then Oper.wp P oi a w K Q else K (a.put N undef) w)
  (hi : ops[i]? = some oi := by exact rfl) (hN : oi.dst = N := by exact rfl) (hc : readyB md ops l (l.setIfInBounds i true) i = true := by kernel_rfl) (hd : i ∉ ds := by decide) :
  wpAnyLast P md ops Q S ds (fuel + 1) l a w := one_ (l.setIfInBounds i true) hi hN hc hd h
theorem la_ (i : Nat) (N : Option Tmp) {oi : Oper} {fuel : Nat} {l : Array Bool} {a : Act} {w : World}
  (h : ∀ K : Act → World → Prop, Shut (∀ a' w', wpAnyLast P md ops Q S ds fuel (l.setIfInBounds i true) a' w' → K a' w') → if Region.wanted oi (yielded ops a.tmps) = true then Oper.wp P oi a w K Q else K (a.put N undef) w)
  (hi : ops[i]? = some oi := by exact rfl) (hN : oi.dst = N := by exact rfl) (hc : readyB md ops l (l.setIfInBounds i true) i = true := by kernel_rfl) (hd : i ∈ ds := by decide) :
  wpAnyLast P md ops Q S ds (fuel + 1) l a w := last_ (l.setIfInBounds i true) hi hN hc hd h
theorem nm_ {fuel : Nat} {l : Array Bool} {a a' : Act} {w : World} (h : wpAnyLast P md ops Q S ds fuel l a' w)
  (ha : a = a' := by (simp only [Act.put, List.setIfInBounds_toArray, List.set_cons_zero, List.set_cons_succ, i64_w, i32_w]; rfl)) : wpAnyLast P md ops Q S ds fuel l a w := norm_ ha h
theorem gs_ {oi : Oper} {N : Option Tmp} {a : Act} {w : World} {K : Act → World → Prop} {f : FuncId} {fn : Func} {az : Array Operand} {ts : Array TypeId} (hf : P.funcs[f]? = some fn) (args : Array Value)
  (h : Calls P f args w fun e w' => ∃ v, e = .returned v ∧ K (a.put N v) w')
  (hname : (fn.name == "runtime.NumGoroutine") = false := by kernel_rfl) (hb : fn.body.isSome = true := by exact rfl)
  (hw : Region.wanted oi (yielded ops a.tmps) = true := by rfl) (hN : oi.dst = N := by exact rfl) (hop : oi.op = .call { callee := .value (.func f), args := az, argTypes := ts } := by exact rfl)
  (hargs : az.map a.eval = args := by (simp only [List.map_toArray, List.map_cons, List.map_nil]; first | rfl | (go_simp; done) | (go_simp; rfl))) : if Region.wanted oi (yielded ops a.tmps) = true then Oper.wp P oi a w K Q else K (a.put N undef) w := goes_ hf hname hb args hw hN hop hargs h
theorem sk_ {oi : Oper} {a : Act} {w w1 : World} {K : Act → World → Prop} (h : K a w1)
  (hw : Region.wanted oi (yielded ops a.tmps) = true := by rfl) (hN : oi.dst = none := by exact rfl) (hrun : (execOp a.eval oi).run P w = .ok .skip w1 := by (go_simp; rfl)) : if Region.wanted oi (yielded ops a.tmps) = true then Oper.wp P oi a w K Q else K (a.put none undef) w := skip_ hw hN hrun h
end
end
end Go.Proofs.YtglbcfkmaamhaaaW.PrintLast
namespace Go.Proofs.Ytglbcfkmaamhaaa.Copy
open Go Go.RowKit Go.Proofs.YtglbcfkmaamhaaaW.PrintWords
section
variable {P : Program}
theorem run_copy_sz (w : World) (dT sT ty elem : TypeId) (g n c c2 k : Nat) (a : Addr) (cur : Array Value) (t : TypeId) (cs : List Value)
  (hu : P.underlying dT = some (.slice elem)) (hs : (P.info? elem).map (·.size) = some k) (hg : w.heap[g]? = some (.cells cur t (0, 0))) (hn : cs.length = n * k)
  (hsrc : ∀ j v, cs[j]? = some v → w.cell? (a.add j) = some v) (hfit : cs.length ≤ cur.size) (h1 : ∀ v ∈ cs, v.oneCell' = true) :
  (Builtin.copy_ #[dT, sT] ty #[.slice (some ⟨g, 0, none⟩) n c, .slice (some a) n c2]).run P w = .ok (goInt n) (w.setRow g (cs ++ cur.toList.drop cs.length).toArray) := by
 have hl := run_loadCells_list (P := P) w a cs hsrc
 have hst := run_storeCells_at P g 0 t cs 0 cur w hg (by simpa using hfit) h1
 cases hq : P.info? elem with
 | none => simp [hq] at hs
 | some i =>
  have hi : i.size = k := by simpa [hq] using hs
  have e1 : n * k = cs.length := hn.symm
  have e2 : k * n = cs.length := by rw [Nat.mul_comm]; exact e1
  simp [Builtin.copy_, run_underlying hu, Builtin.lenOf, Builtin.firstCells, sizeOf, typeInfo, hq, hi, e1, e2, hl, hst]
theorem run_copy_empty (w : World) (dT sT ty elem : TypeId) (g c c2 k : Nat) (A : Option Addr) 
  (hu : P.underlying dT = some (.slice elem)) (hs : (P.info? elem).map (·.size) = some k) :
  (Builtin.copy_ #[dT, sT] ty #[.slice (some ⟨g, 0, none⟩) 0 c, .slice A 0 c2]).run P w = .ok (goInt 0) w := by
 cases hq : P.info? elem with
 | none => simp [hq] at hs
 | some i =>
  cases A with
  | none => simp [Builtin.copy_, run_underlying hu, Builtin.lenOf, Builtin.firstCells, sizeOf, typeInfo, hq, storeCells]
  | some a => simp [Builtin.copy_, run_underlying hu, Builtin.lenOf, Builtin.firstCells, sizeOf, typeInfo, hq, storeCells, loadCells, loadCellsFrom]
end
end Go.Proofs.Ytglbcfkmaamhaaa.Copy
