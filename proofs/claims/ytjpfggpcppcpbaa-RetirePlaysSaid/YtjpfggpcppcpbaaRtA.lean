/- retire.List: the state; New, Len, Add. No condition. -/
import Derived.Test.YtjpfggpcppcpbaaProg
import Derived.Test.YtjpfggpcppcpbaaMp
import Derived.Below
import Derived.Deep.Draws
import Derived.Deep.AppendLies
import Derived.Maps.AppendAt
import Derived.OwnWalk
import Derived.Laws.BytesArg
import Derived.Laws.MakeOwn
import Derived.Laws.OwnMore
import Derived.Deep.OwnRows
import Derived.Tactics
import Derived.Lib.ConvBytes
import Derived.Laws.Slices
import Derived.WalkKit
import Derived.KernelRfl
import Derived.RowKit3
import Derived.Deep.LoopGhost
import Derived.Deep.QuietTactic
import Derived.BigQuiet
import Derived.WideLaws
import Derived.Deep.DeepCutAuto
import Derived.Deep.CutBlock
import Derived.Deep.RegionHeld3
import Derived.Laws.Rows
import Derived.Lib.AppendStr
import Derived.ArgAppend
import Derived.Laws.IdiomCopy
import Derived.OrdersHeld
import Derived.Laws.BitsLemmas
import Derived.RowKit
import Derived.WalkLawsBesides
import Derived.BigQuiet
import Derived.Deep.QuietTactic
import Derived.Deep.RegionLaw
import Derived.RegionTactic
import Derived.Maps.OwnOps
import Derived.Maps.OwnSet
set_option linter.unusedVariables false
set_option linter.unusedSimpArgs false
namespace Go.Proofs.Ytjpfggpcppcpbaa.Rt
open Go Go.RowKit Go.MapKept Go.Proofs.YtjpfggpcppcpbaaW.PrintWords Go.Proofs.YtjpfggpcppcpbaaW.PrintLast Go.Proofs.YtjpfggpcppcpbaaW.PrintMore Go.Proofs.Ytjpfggpcppcpbaa.Hv Go.Proofs.Ytjpfggpcppcpbaa.Mp

/-- What may be given back: a node's or not, its place (slot, turn), its epoch. -/
abbrev Rd := Bool × Int × Int × Int
abbrev Et := Nat × Rd
def val (x : Rd) : Value := .agg #[.bool x.1, .int .i64 x.2.1, .int .i64 x.2.2.1, .int .i64 x.2.2.2]
def cel (x : Rd) : List Value := [.bool x.1, .int .i64 x.2.1, .int .i64 x.2.2.1, .int .i64 x.2.2.2]
def mkK (p : Et) : Value := .int .i64 (p.1 : Int)
def mkV (p : Et) : Value := val p.2
def pr (p : Et) : Pr := (mkK p, mkV p)
structure Ls where
  q : List Et
  ever : Nat
structure Ok (s : Ls) : Prop where
  asc : (s.q.map Prod.fst).Pairwise (· < ·)
  lt : ∀ p ∈ s.q, p.1 < s.ever
def HasI (om oi : Obj) (m : Nat) (s : Ls) (left : List Et) : Prop := IsI (.int .i64) om oi m (s.q.map pr) (left.map (fun x => (mkK x, mkV x)))
/-- A list at g, its map at m. -/
def Rtn (w0 w : World) (g m : Nat) (s : Ls) (L : List Ob) : Prop :=
  ∃ om, Hv w0 w (cb g 47 #[.map (some m), .int .i64 (s.ever : Int)] :: (m, om) :: L) ∧ IsM (.int .i64) om (s.q.map pr) ∧ Ok s
namespace Rtn
variable {w0 w w1 : World} {g m : Nat} {s : Ls} {L L' : List Ob}
theorem call (h : Rtn w0 w g m s L) (hb : Below w.heap.size w w1) : Rtn w0 w1 g m s L := by
  obtain ⟨om, h1, h2, h3⟩ := h
  exact ⟨om, h1.call hb, h2, h3⟩
theorem drewN (h : Rtn w0 w g m s L) (n : Nat) : Rtn w0 (w.drewN n) g m s L := h.call (pw_below_drewN (Below.refl _ _) n)
theorem bel (h : Rtn w0 w g m s L) : Below w0.heap.size w0 w := by
  obtain ⟨om, h1, h2, h3⟩ := h
  exact h1.bel
theorem ok (h : Rtn w0 w g m s L) : Ok s := by
  obtain ⟨om, h1, h2, h3⟩ := h
  exact h3
theorem other (h : Rtn w0 w g m s L) : Hv w0 w L := by
  obtain ⟨om, h1, h2, h3⟩ := h
  exact h1.tail.tail
theorem alloc (h : Rtn w0 w g m s L) (o : Obj) : Rtn w0 (w.alloc o) g m s ((w.heap.size, o) :: L) := by
  obtain ⟨om, h1, h2, h3⟩ := h
  exact ⟨om, (h1.alloc o).perm (List.perm_middle (l₁ := [cb g 47 #[.map (some m), .int .i64 (s.ever : Int)], (m, om)])), h2, h3⟩
theorem perm (h : Rtn w0 w g m s L) (hp : L'.Perm L) : Rtn w0 w g m s L' := by
  obtain ⟨om, h1, h2, h3⟩ := h
  exact ⟨om, h1.perm (List.Perm.cons _ (List.Perm.cons _ hp)), h2, h3⟩
theorem tail {a : Ob} (h : Rtn w0 w g m s (a :: L)) : Rtn w0 w g m s L := by
  obtain ⟨om, h1, h2, h3⟩ := h
  exact ⟨om, h1.drop (by simp), h2, h3⟩
theorem skip (h : Rtn w0 w g m s L) (o : Obj) : Rtn w0 (w.alloc o) g m s L := (h.alloc o).tail
theorem cells (h : Rtn w0 w g m s L) : w.cell? ⟨g, 0, none⟩ = some (.map (some m)) ∧ w.cell? ⟨g, 1, none⟩ = some (.int .i64 (s.ever : Int)) ∧ w.frozen? ⟨g, 0, none⟩ = false ∧ w.frozen? ⟨g, 1, none⟩ = false := by
  obtain ⟨om, h1, h2, h3⟩ := h
  exact h1.c2 g 47 _ _ List.mem_cons_self
end Rtn
variable {w0 w w1 : World} {g m : Nat} {s : Ls} {L L' : List Ob}
theorem keyK (k : Int) : IsKey (.int .i64) (.int .i64 k) := by simp [IsKey]
theorem new_key {s : Ls} (h : Ok s) : ∀ p ∈ s.q.map pr, p.1 ≠ Value.int .i64 (s.ever : Int) := by
  intro p hp
  obtain ⟨x, hx, rfl⟩ := List.mem_map.1 hp
  have := h.lt x hx
  simp [pr, mkK]
  omega
theorem ok_add {s : Ls} (h : Ok s) (x : Rd) : Ok ⟨s.q ++ [(s.ever, x)], s.ever + 1⟩ := by
  refine ⟨?_, ?_⟩
  · simp only [List.map_append, List.map_cons, List.map_nil]
    refine List.pairwise_append.2 ⟨h.asc, by simp, ?_⟩
    intro a ha b hb
    obtain ⟨p, hp, rfl⟩ := List.mem_map.1 ha
    simp at hb
    subst hb
    exact h.lt p hp
  · intro p hp
    rcases List.mem_append.1 hp with hp | hp
    · exact Nat.lt_succ_of_lt (h.lt p hp)
    · simp at hp
      subst hp
      exact Nat.lt_succ_self _

set_option maxHeartbeats 4000000 in
set_option maxRecDepth 100000 in
theorem new.calls (h : Hv w0 w L) : Calls Try.prog 7 #[] w fun e w' => ∃ g m, e = .returned (.pointer (some ⟨g, 0, none⟩)) ∧ Rtn w0 w' g m ⟨[], 0⟩ L := by
  have hmm := @run_makeMap Try.prog
  have hu47 := Try.underlying47
  have hu45 := Try.underlying45
  have HH := Aside0.mk h
  clear h
  go_enter Try.func7, Try.ntmps7
  go_wp2_with fail
  refine bodyPost_ret (v := .pointer (some ⟨w.heap.size + 1, 0, none⟩)) (by simp [results, Try.results7, go_sem]) rfl ⟨_, w.heap.size, rfl, .map #[] 0, ?_, IsM.empty _, ⟨by simp, by simp⟩⟩
  have := (HH.out.alloc (.map #[] 0)).alloc (.cells #[.map (some w.heap.size), .int .i64 0] 47)
  have e : (w.alloc (.map #[] 0)).heap.size = w.heap.size + 1 := by simp
  rw [e] at this
  exact this

set_option maxHeartbeats 4000000 in
set_option maxRecDepth 100000 in
theorem len.calls (h : Rtn w0 w g m s L) : Calls Try.prog 12 #[.pointer (some ⟨g, 0, none⟩)] w fun e w' => e = .returned (.int .i64 (s.q.length : Int)) ∧ Rtn w0 w' g m s L := by
  obtain ⟨om, h1, h2, h3⟩ := h
  obtain ⟨c0, c1, f0, f1⟩ := h1.c2 g 47 _ _ List.mem_cons_self
  have hl : ∀ ty, (Builtin.len_ #[45] ty #[.map (some m)]).run Try.prog w = .ok (.int .i64 (s.q.length : Int)) w := fun ty => by
    have := len_map (P := Try.prog) (h1.box (m, om) (by simp)) h2 ty 45 Try.underlying45
    simpa using this
  have hu47 := Try.underlying47
  have HH := Aside0.mk (show Rtn w0 w g m s L from ⟨om, h1, h2, h3⟩)
  clear h1 h2 h3
  go_enter Try.func12, Try.ntmps12
  go_wp2_with fail
  exact bodyPost_ret (v := .int .i64 (s.q.length : Int)) (by simp [results, Try.results12, go_sem]) rfl ⟨rfl, HH.out⟩

set_option maxHeartbeats 4000000 in
set_option maxRecDepth 100000 in
theorem add.calls (h : Rtn w0 w g m s L) (hev : s.ever ≤ 1000000) (b : Bool) (x0 x1 x2 : Int) : Calls Try.prog 8 #[.pointer (some ⟨g, 0, none⟩), .agg #[.bool b, .int .i64 x0, .int .i64 x1, .int .i64 x2]] w fun e w' => e = .returned (.tuple #[]) ∧ Rtn w0 w' g m ⟨s.q ++ [(s.ever, b, x0, x1, x2)], s.ever + 1⟩ L := by
  have hu47 := Try.underlying47
  have hu30 := Try.underlying30
  obtain ⟨om, h1, h2, h3⟩ := h
  have H2 := Aside0.mk h2
  have H3 := Aside0.mk h3
  have hn := new_key h3
  have HN := Aside0.mk hn
  have h1' := h1.alloc (.cells #[.bool b, .int .i64 x0, .int .i64 x1, .int .i64 x2] 30)
  obtain ⟨c0, c1, f0, f1⟩ := h1'.c2 g 47 (.map (some m)) (.int .i64 (s.ever : Int)) (by simp)
  obtain ⟨d0, d1, d2, d3, -, -, -, -⟩ := h1'.c4 w.heap.size 30 _ _ _ _ List.mem_cons_self
  obtain ⟨om', hup, hIs⟩ := upd_newW (P := Try.prog) (mty := 45) Try.underlying45 Try.underlying3 h2 (keyK (s.ever : Int)) hn (.agg #[.bool b, .int .i64 x0, .int .i64 x1, .int .i64 x2]) m
  have hupd := hup _ (h1'.drew.box (m, om) (by simp))
  have hup1 : ∀ n, (Instr.mapUpdate 45 (.map (some m)) (.int .i64 (s.ever : Int)) (.agg #[.bool b, .int .i64 x0, .int .i64 x1, .int .i64 x2])).run Try.prog ((w.alloc (.cells #[.bool b, .int .i64 x0, .int .i64 x1, .int .i64 x2] 30)).drewN n) = _ := fun n => hup _ ((h1'.drewN n).box (m, om) (by simp))
  have hup0 := hup1 0
  rw [World.drewN_zero] at hup0
  have HI := Aside0.mk hIs
  have HH := Aside0.mk h1'
  clear h1 h2 h3 hn hup hIs
  clear h1'
  go_enter Try.func8, Try.ntmps8
  go_wp2_with fail
  go_region
  obtain ⟨w1, hw, h1⟩ : ∃ w1, w1 = _ ∧ Hv w0 w1 ((w.heap.size, .cells #[.bool b, .int .i64 x0, .int .i64 x1, .int .i64 x2] 30) :: cb g 47 #[.map (some m), .int .i64 (s.ever : Int)] :: (m, om') :: L) := ⟨_, rfl, HH.out.drew.turn 2 rfl om'⟩
  rw [← hw]
  clear hw c0 c1 f0 f1 d0 d1 d2 d3 hupd hup0 hup1
  obtain ⟨c0, c1, f0, f1⟩ := h1.c2 g 47 (.map (some m)) (.int .i64 (s.ever : Int)) (by simp)
  have H1 := Aside0.mk h1
  clear h1
  have hb1 : (s.ever : Int) ≤ 1000000 := by omega
  go_wp2_with fail
  have Q := (H1.out.put 1 rfl 1 (.int .i64 ((s.ever : Int) + 1))).tail
  go_end0
  refine ⟨rfl, om', ?_, by simpa [pr, mkK, mkV, val] using HI.out, ok_add H3.out _⟩
  simpa using Q
end Go.Proofs.Ytjpfggpcppcpbaa.Rt
