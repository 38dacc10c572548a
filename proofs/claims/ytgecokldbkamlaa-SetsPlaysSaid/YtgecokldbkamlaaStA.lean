/- sets.Sets: the state; New, Own, Write. No condition. -/
import Derived.Test.YtgecokldbkamlaaProg
import Derived.Test.YtgecokldbkamlaaKa
import Derived.Below
import Derived.Deep.Draws
import Derived.Deep.AppendLies
import Derived.Maps.AppendAt
import Derived.OwnWalk
import Derived.Laws.BytesArg
import Derived.Laws.MakeOwn
import Derived.Laws.OwnMore
import Derived.Deep.OwnRows
import Derived.Tactics
import Derived.Lib.ConvBytes
import Derived.Laws.Slices
import Derived.WalkKit
import Derived.KernelRfl
import Derived.RowKit3
import Derived.Deep.LoopGhost
import Derived.Deep.QuietTactic
import Derived.BigQuiet
import Derived.WideLaws
import Derived.Deep.DeepCutAuto
import Derived.Deep.CutBlock
import Derived.Deep.RegionHeld3
import Derived.Laws.Rows
import Derived.Lib.AppendStr
import Derived.ArgAppend
import Derived.Laws.IdiomCopy
import Derived.OrdersHeld
import Derived.Laws.BitsLemmas
import Derived.RowKit
import Derived.WalkLawsBesides
import Derived.BigQuiet
import Derived.Deep.QuietTactic
import Derived.Deep.RegionLaw
import Derived.RegionTactic
import Derived.Maps.OwnOps
import Derived.Maps.OwnSet
set_option linter.unusedVariables false
set_option linter.unusedSimpArgs false
namespace Go.Proofs.Ytgecokldbkamlaa.St
open Go Go.RowKit Go.MapKept Go.Proofs.YtgecokldbkamlaaW.PrintWords Go.Proofs.YtgecokldbkamlaaW.PrintLast Go.Proofs.YtgecokldbkamlaaW.PrintMore Go.Proofs.Ytgecokldbkamlaa.Hv Go.Proofs.Ytgecokldbkamlaa.Mk Go.Proofs.Ytgecokldbkamlaa.Ka

/-- A ref: slot, turn. -/
abbrev Rf := Int × Int
/-- A read (its ref, its word) or a node seen (its ref, its version). -/
abbrev R3 := Rf × Int
/-- A write: key, ref, data, absent. -/
abbrev Wr := ByteArray × Rf × ByteArray × Bool
def rkey (r : Rf) : Value := .agg #[.int .i64 r.1, .int .i64 r.2]
def cel3 (x : R3) : List Value := [.int .i64 x.1.1, .int .i64 x.1.2, .int .i64 x.2]
def ixs : Nat → List R3 → List Pr
  | _, [] => []
  | i, x :: l => (rkey x.1, .int .i64 (i : Int)) :: ixs (i + 1) l
def wval (x : Wr) : Value := .agg #[.string x.1, .int .i64 x.2.1.1, .int .i64 x.2.1.2, .string x.2.2.1, .bool x.2.2.2]
def wcel (x : Wr) : List Value := [.string x.1, .int .i64 x.2.1.1, .int .i64 x.2.1.2, .string x.2.2.1, .bool x.2.2.2]
def wpr (x : Wr) : Pr := (.string x.1, wval x)
structure St where
  reads : List R3
  nodes : List R3
  writes : List Wr
theorem ixs_append : ∀ (i : Nat) (a b : List R3), ixs i (a ++ b) = ixs i a ++ ixs (i + a.length) b
  | i, [], b => by simp [ixs]
  | i, x :: a, b => by
    simp only [List.cons_append, ixs, ixs_append (i + 1) a b, List.length_cons]
    rw [show i + 1 + a.length = i + (a.length + 1) by omega]
theorem ixs_keys : ∀ (i : Nat) (a : List R3), (ixs i a).map (·.1) = a.map (fun x => rkey x.1)
  | i, [] => rfl
  | i, x :: a => by simp [ixs, ixs_keys (i + 1) a]
theorem ixs_new {l : List R3} {r : Rf} (h : ∀ x ∈ l, x.1 ≠ r) : ∀ p ∈ ixs 0 l, p.1 ≠ rkey r := by
  intro p hp he
  have : p.1 ∈ (ixs 0 l).map (·.1) := List.mem_map.2 ⟨p, hp, rfl⟩
  rw [ixs_keys] at this
  obtain ⟨x, hx, ex⟩ := List.mem_map.1 this
  rw [he] at ex
  have e2 : x.1 = r := by
    have := ex
    simp only [rkey, Value.agg.injEq] at this
    have h9 := congrArg Array.toList this
    simp at h9
    exact Prod.ext h9.1 h9.2
  exact h x hx e2
theorem ixs_at (l1 l2 : List R3) (x : R3) : ixs 0 (l1 ++ x :: l2) = ixs 0 l1 ++ (rkey x.1, .int .i64 (l1.length : Int)) :: ixs (l1.length + 1) l2 := by
  rw [ixs_append, Nat.zero_add]
  rfl
/-- The sets at g. -/
structure Inn (w0 w : World) (g : Nat) (s : St) (L : List Ob) (mr ms mw : Nat) (or os ow : Obj) (vr vn : Value) (A B : List Ob) : Prop where
  hv : Hv w0 w (cb g 63 #[vr, vn, .map (some mr), .map (some ms), .map (some mw)] :: (mr, or) :: (ms, os) :: (mw, ow) :: (A ++ (B ++ L)))
  gr : Gr 36 3 vr s.reads.length (s.reads.flatMap cel3) A
  gn : Gr 38 3 vn s.nodes.length (s.nodes.flatMap cel3) B
  mr : IsM K2 or (ixs 0 s.reads)
  ms : IsM K2 os (ixs 0 s.nodes)
  mw : IsM (IsKey .string) ow (s.writes.map wpr)
def Sts (w0 w : World) (g : Nat) (s : St) (L : List Ob) : Prop := ∃ mr ms mw or os ow vr vn A B, Inn w0 w g s L mr ms mw or os ow vr vn A B
variable {w0 w w1 : World} {g : Nat} {s : St} {L L' : List Ob}
namespace Sts
theorem call (h : Sts w0 w g s L) (hb : Below w.heap.size w w1) : Sts w0 w1 g s L := by
  obtain ⟨mr, ms, mw, or, os, ow, vr, vn, A, B, h1, h2, h3, h4, h5, h6⟩ := h
  exact ⟨mr, ms, mw, or, os, ow, vr, vn, A, B, h1.call hb, h2, h3, h4, h5, h6⟩
theorem bel (h : Sts w0 w g s L) : Below w0.heap.size w0 w := by
  obtain ⟨mr, ms, mw, or, os, ow, vr, vn, A, B, h1, h2, h3, h4, h5, h6⟩ := h
  exact h1.bel
theorem perm (h : Sts w0 w g s L) (hp : L'.Perm L) : Sts w0 w g s L' := by
  obtain ⟨mr, ms, mw, or, os, ow, vr, vn, A, B, h1, h2, h3, h4, h5, h6⟩ := h
  exact ⟨mr, ms, mw, or, os, ow, vr, vn, A, B, h1.perm (((((hp.append_left B).append_left A).cons _).cons _).cons _ |>.cons _), h2, h3, h4, h5, h6⟩
theorem other (h : Sts w0 w g s L) : Hv w0 w L := by
  obtain ⟨mr, ms, mw, or, os, ow, vr, vn, A, B, h1, h2, h3, h4, h5, h6⟩ := h
  exact h1.tail.tail.tail.tail.right.right
theorem alloc (h : Sts w0 w g s L) (o : Obj) : Sts w0 (w.alloc o) g s ((w.heap.size, o) :: L) := by
  obtain ⟨mr, ms, mw, or, os, ow, vr, vn, A, B, h1, h2, h3, h4, h5, h6⟩ := h
  refine ⟨mr, ms, mw, or, os, ow, vr, vn, A, B, (h1.alloc o).perm ?_, h2, h3, h4, h5, h6⟩
  have e : ∀ X : List Ob, (X ++ ((w.heap.size, o) :: L)).Perm ((w.heap.size, o) :: (X ++ L)) := fun X => List.perm_middle
  have := e (cb g 63 #[vr, vn, .map (some mr), .map (some ms), .map (some mw)] :: (mr, or) :: (ms, os) :: (mw, ow) :: (A ++ B))
  simpa [List.append_assoc] using this
theorem tail {a : Ob} (h : Sts w0 w g s (a :: L)) : Sts w0 w g s L := by
  obtain ⟨mr, ms, mw, or, os, ow, vr, vn, A, B, h1, h2, h3, h4, h5, h6⟩ := h
  refine ⟨mr, ms, mw, or, os, ow, vr, vn, A, B, h1.drop ?_, h2, h3, h4, h5, h6⟩
  exact ((((List.Sublist.append_left (List.Sublist.append_left (List.sublist_cons_self a L) B) A).cons_cons _).cons_cons _).cons_cons _).cons_cons _
end Sts

set_option maxHeartbeats 4000000 in
set_option maxRecDepth 100000 in
theorem new.calls (h : Hv w0 w L) : Calls Try.prog 8 #[] w fun e w' => ∃ g, e = .returned (.pointer (some ⟨g, 0, none⟩)) ∧ Sts w0 w' g ⟨[], [], []⟩ L := by
  have hmm := @run_makeMap Try.prog
  have hu63 := Try.underlying63
  have hu60 := Try.underlying60
  have hu61 := Try.underlying61
  have HH := Aside0.mk h
  clear h
  go_enter Try.func8, Try.ntmps8
  go_wp2_with fail
  refine bodyPost_ret (v := .pointer (some ⟨w.heap.size + 3, 0, none⟩)) (by simp [results, Try.results8, go_sem]) rfl ⟨_, rfl, w.heap.size, w.heap.size + 1, w.heap.size + 2, .map #[] 0, .map #[] 0, .map #[] 0, .slice none 0 0, .slice none 0 0, [], [], ?_, Gr.nil _ _, Gr.nil _ _, IsM.empty _, IsM.empty _, IsM.empty _⟩
  have k1 := HH.out.alloc (.map #[] 0)
  have k2 := k1.alloc (.map #[] 0)
  have k3 := k2.alloc (.map #[] 0)
  have k4 := k3.alloc (.cells #[.slice none 0 0, .slice none 0 0, .map (some w.heap.size), .map (some (w.heap.size + 1)), .map (some (w.heap.size + 2))] 63)
  have e1 : (w.alloc (.map #[] 0)).heap.size = w.heap.size + 1 := by simp
  have e2 : ((w.alloc (.map #[] 0)).alloc (.map #[] 0)).heap.size = w.heap.size + 2 := by simp
  have e3 : (((w.alloc (.map #[] 0)).alloc (.map #[] 0)).alloc (.map #[] 0)).heap.size = w.heap.size + 3 := by simp
  rw [e1, e2, e3] at k4
  refine k4.perm ?_
  refine List.Perm.cons _ ?_
  simp only [List.nil_append]
  exact (List.Perm.swap _ _ _).trans ((List.Perm.cons _ (List.Perm.swap _ _ _)).trans (List.Perm.swap _ _ _))

/-- A row of blocks brought to the front. -/
theorem toFront (A X Y : List Ob) {Z : List Ob} (e : Z = X ++ (A ++ Y)) : (A ++ (X ++ Y)).Perm Z := by
  subst e
  rw [← List.append_assoc, ← List.append_assoc]
  exact List.Perm.append_right Y List.perm_append_comm
set_option maxHeartbeats 4000000 in
set_option maxRecDepth 100000 in
theorem read.new (h : Sts w0 w g s L) (hn : s.reads.length ≤ 1000000) (a b word : Int) (hr : ∀ x ∈ s.reads, x.1 ≠ (a, b)) :
    Calls Try.prog 19 #[.pointer (some ⟨g, 0, none⟩), .agg #[.int .i64 a, .int .i64 b], .int .i64 word] w fun e w' => e = .returned (.tuple #[]) ∧ Sts w0 w' g { s with reads := s.reads ++ [((a, b), word)] } L := by
  have hu63 := Try.underlying63
  have hu34 := Try.underlying34
  have hu36 := Try.underlying36
  obtain ⟨mr, ms, mw, or, os, ow, vr, vn, A, B, h1, h2, h3, h4, h5, h6⟩ := h
  obtain ⟨ad, c, rfl, hnc⟩ := h2.form
  have info36 : (Try.prog.info? 36).map (fun i => (i.zero, i.size, i.bytes)) = some (some (.agg #[.int .i64 0, .int .i64 0, .int .i64 0]), 3, 24) := by kernel_rfl
  have I36 := Aside0.mk info36
  have hk1 := h1.alloc (.cells #[.int .i64 a, .int .i64 b] 34)
  have KK := Aside0.mk (And.intro h2 (And.intro h3 (And.intro h5 h6)))
  obtain ⟨o', hup, hIs⟩ := upd_newW (P := Try.prog) (mty := 60) (key := .agg #[.int .i64 a, .int .i64 b]) Try.underlying60 kl h4 ⟨a, b, rfl⟩ (ixs_new hr) (.int .i64 (s.reads.length : Int)) mr
  have hlook : ∀ W : World, W.heap[mr]? = some or → _ := fun W hb => look_noW (P := Try.prog) (mty := 60) (o := or) Try.underlying60 kl h4 ⟨a, b, rfl⟩ (ixs_new hr) (.int .i64 0) true mr W (Try.zeroValue3 W) hb
  simp only [if_true] at hlook
  have HUP := Aside0.mk hup
  have HIS := Aside0.mk hIs
  have HN := Aside0.mk hn
  have hl0 := hlook _ (hk1.box (mr, or) (by simp))
  have hl1 := hlook _ (hk1.drew.box (mr, or) (by simp))
  obtain ⟨c0, c1, c2, c3, c4, -, -, -, -, -⟩ := hk1.c5 g 63 (.slice ad s.reads.length c) vn (.map (some mr)) (.map (some ms)) (.map (some mw)) (by simp)
  obtain ⟨y0, y1, -, -⟩ := hk1.c2 w.heap.size 34 _ _ List.mem_cons_self
  have HV := Aside0.mk hk1
  clear h1 h2 h3 h4 h5 h6 hk1 hlook hup hIs hr hnc hn info36
  go_enter Try.func19, Try.ntmps19
  go_upto_region 2 with (fail)
  go_region
  go_upto_region 4 with (fail)
  obtain ⟨W2, hW, hP⟩ : ∃ W2, W2 = _ ∧ Hv w0 W2 ((w.heap.size, Obj.cells #[.int .i64 a, .int .i64 b] 34) :: cb g 63 #[.slice ad s.reads.length c, vn, .map (some mr), .map (some ms), .map (some mw)] :: (mr, or) :: (ms, os) :: (mw, ow) :: (A ++ (B ++ L))) := ⟨_, rfl, by first | exact HV.out.drew | exact HV.out⟩
  rw [← hW]
  clear hW c0 c1 c2 c3 c4 y0 y1 hl0 hl1
  obtain ⟨c0, c1, c2, c3, c4, -, -, -, -, -⟩ := hP.c5 g 63 (.slice ad s.reads.length c) vn (.map (some mr)) (.map (some ms)) (.map (some mw)) (by simp)
  obtain ⟨y0, y1, -, -⟩ := hP.c2 w.heap.size 34 _ _ List.mem_cons_self
  have hu0 := HUP.out _ (hP.box (mr, or) (by simp))
  have hu1 := HUP.out _ (hP.drew.box (mr, or) (by simp))
  have HP := Aside0.mk hP
  clear hP
  go_region
  go_upto_region 5 with (fail)
  obtain ⟨W3, hW, hP⟩ : ∃ W3, W3 = _ ∧ Hv w0 W3 (A ++ ((w.heap.size, Obj.cells #[.int .i64 a, .int .i64 b] 34) :: cb g 63 #[.slice ad s.reads.length c, vn, .map (some mr), .map (some ms), .map (some mw)] :: (mr, o') :: (ms, os) :: (mw, ow) :: (B ++ L))) := ⟨_, rfl, by
    have q := fun (W : World) (h : Hv w0 W ((w.heap.size, Obj.cells #[.int .i64 a, .int .i64 b] 34) :: cb g 63 #[.slice ad s.reads.length c, vn, .map (some mr), .map (some ms), .map (some mw)] :: (mr, or) :: (ms, os) :: (mw, ow) :: (A ++ (B ++ L)))) => (h.turn 2 rfl o').perm (L' := A ++ ((w.heap.size, Obj.cells #[.int .i64 a, .int .i64 b] 34) :: cb g 63 #[.slice ad s.reads.length c, vn, .map (some mr), .map (some ms), .map (some mw)] :: (mr, o') :: (ms, os) :: (mw, ow) :: (B ++ L))) (toFront A ((w.heap.size, Obj.cells #[.int .i64 a, .int .i64 b] 34) :: cb g 63 #[.slice ad s.reads.length c, vn, .map (some mr), .map (some ms), .map (some mw)] :: (mr, o') :: (ms, os) :: (mw, ow) :: []) (B ++ L) rfl)
    first | exact q _ HP.out.drew | exact q _ HP.out⟩
  rw [← hW]
  clear hW c0 c1 c2 c3 c4 y0 y1 hu0 hu1 HP
  obtain ⟨c0, c1, c2, c3, c4, f0, f1, f2, f3, f4⟩ := hP.c5 g 63 (.slice ad s.reads.length c) vn (.map (some mr)) (.map (some ms)) (.map (some mw)) (by simp)
  obtain ⟨y0, y1, -, -⟩ := hP.c2 w.heap.size 34 (.int .i64 a) (.int .i64 b) (by simp)
  have c0a : ∀ o, (W3.alloc o).cell? ⟨g, 0, none⟩ = some (.slice ad s.reads.length c) := fun o => pw_cell_below (below_alloc (Below.refl _ _) o) c0
  have HP := Aside0.mk hP
  have HN1 := Aside0.mk (show (s.reads.length + 1) * 24 ≤ 140737488355328 by have := HN.out; omega)
  clear hP
  go_region_law (first | (refine append_step (w0 := w0) (A := A) (L := (w.heap.size, Obj.cells #[.int .i64 a, .int .i64 b] 34) :: cb g 63 #[.slice ad s.reads.length c, vn, .map (some mr), .map (some ms), .map (some mw)] :: (mr, o') :: (ms, os) :: (mw, ow) :: (B ++ L)) (by rfl) (.tmp 34) (.tmp 38) 27 36 (.agg #[.int .i64 0, .int .i64 0, .int .i64 0]) 3 24 rfl Try.underlying27 I36.out rfl (by decide) (by decide) (.slice ad s.reads.length c) s.reads.length (s.reads.flatMap cel3) (by simp [Act.eval, Act.put]) ⟨W3.heap.size, 0, none⟩ 1 1 (cel3 ((a, b), word)) (by simp [Act.eval, Act.put]) rfl (news_new _ _ 36 _ rfl) (by intro u hu; simp [cel3] at hu; rcases hu with rfl | rfl | rfl <;> rfl) KK.out.1 (by first | exact HP.out.drew.skip _ | exact (HP.out.skip _).drew | exact HP.out.skip _) HN1.out ?_; intro v2 w6 A2 hG hH; obtain ⟨b4, d4, rfl, hd4⟩ := hG.form; have KG2 := Aside0.mk hG; have KH2 := Aside0.mk hH; clear c0 c1 c2 c3 c4 f0 f1 f2 f3 f4 y0 y1; obtain ⟨c0, c1, c2, c3, c4, f0, f1, f2, f3, f4⟩ := hH.c5 g 63 (.slice ad s.reads.length c) vn (.map (some mr)) (.map (some ms)) (.map (some mw)) (by simp); clear hG hH hd4))
  all_goals
    go_wp2_with fail
    go_end0
    have q1 := KH2.out.drop (L' := A2 ++ (cb g 63 #[.slice ad s.reads.length c, vn, .map (some mr), .map (some ms), .map (some mw)] :: (mr, o') :: (ms, os) :: (mw, ow) :: (B ++ L))) (List.Sublist.append_left (List.sublist_cons_self _ _) _)
    have q2 := q1.putA0 0 (.slice b4 (s.reads.length + 1) d4) (cs' := #[.slice b4 (s.reads.length + 1) d4, vn, .map (some mr), .map (some ms), .map (some mw)]) rfl
    have q3 := q2.perm (toFront A2 [cb g 63 #[.slice b4 (s.reads.length + 1) d4, vn, .map (some mr), .map (some ms), .map (some mw)], (mr, o'), (ms, os), (mw, ow)] (B ++ L) rfl).symm
    refine ⟨rfl, mr, ms, mw, o', os, ow, .slice b4 (s.reads.length + 1) d4, vn, A2, B, q3, ?_, KK.out.2.1, ?_, KK.out.2.2.1, KK.out.2.2.2⟩
    · have := KG2.out
      simpa [List.flatMap_append] using this
    · have := HIS.out
      rw [ixs_append, Nat.zero_add]
      exact this
set_option maxHeartbeats 4000000 in
set_option maxRecDepth 100000 in
theorem node.new (h : Sts w0 w g s L) (hn : s.nodes.length ≤ 1000000) (a b word : Int) (hr : ∀ x ∈ s.nodes, x.1 ≠ (a, b)) :
    Calls Try.prog 17 #[.pointer (some ⟨g, 0, none⟩), .agg #[.int .i64 a, .int .i64 b, .int .i64 word]] w fun e w' => e = .returned (.tuple #[]) ∧ Sts w0 w' g { s with nodes := s.nodes ++ [((a, b), word)] } L := by
  have hu63 := Try.underlying63
  have hu34 := Try.underlying34
  have hu38 := Try.underlying38
  obtain ⟨mr, ms, mw, or, os, ow, vr, vn, A, B, h1, h2, h3, h4, h5, h6⟩ := h
  obtain ⟨ad, c, rfl, hnc⟩ := h3.form
  have info38 : (Try.prog.info? 38).map (fun i => (i.zero, i.size, i.bytes)) = some (some (.agg #[.int .i64 0, .int .i64 0, .int .i64 0]), 3, 24) := by kernel_rfl
  have I38 := Aside0.mk info38
  have hk1 := h1.alloc (.cells #[.int .i64 a, .int .i64 b, .int .i64 word] 38)
  have KK := Aside0.mk (And.intro h3 (And.intro h2 (And.intro h4 h6)))
  obtain ⟨o', hup, hIs⟩ := upd_newW (P := Try.prog) (mty := 60) (key := .agg #[.int .i64 a, .int .i64 b]) Try.underlying60 kl h5 ⟨a, b, rfl⟩ (ixs_new hr) (.int .i64 (s.nodes.length : Int)) ms
  have hlook : ∀ W : World, W.heap[ms]? = some os → _ := fun W hb => look_noW (P := Try.prog) (mty := 60) (o := os) Try.underlying60 kl h5 ⟨a, b, rfl⟩ (ixs_new hr) (.int .i64 0) true ms W (Try.zeroValue3 W) hb
  simp only [if_true] at hlook
  have HUP := Aside0.mk hup
  have HIS := Aside0.mk hIs
  have HN := Aside0.mk hn
  have hl0 := hlook _ (hk1.box (ms, os) (by simp))
  have hl1 := hlook _ (hk1.drew.box (ms, os) (by simp))
  obtain ⟨c0, c1, c2, c3, c4, -, -, -, -, -⟩ := hk1.c5 g 63 vr (.slice ad s.nodes.length c) (.map (some mr)) (.map (some ms)) (.map (some mw)) (by simp)
  obtain ⟨y0, y1, y2, -, -, -⟩ := hk1.c3 w.heap.size 38 _ _ _ List.mem_cons_self
  have HV := Aside0.mk hk1
  clear h1 h2 h3 h4 h5 h6 hk1 hlook hup hIs hr hnc hn info38
  go_enter Try.func17, Try.ntmps17
  go_upto_region 2 with (fail)
  go_region
  go_upto_region 4 with (fail)
  obtain ⟨W2, hW, hP⟩ : ∃ W2, W2 = _ ∧ Hv w0 W2 ((w.heap.size, Obj.cells #[.int .i64 a, .int .i64 b, .int .i64 word] 38) :: cb g 63 #[vr, .slice ad s.nodes.length c, .map (some mr), .map (some ms), .map (some mw)] :: (mr, or) :: (ms, os) :: (mw, ow) :: (A ++ (B ++ L))) := ⟨_, rfl, by first | exact HV.out.drew | exact HV.out⟩
  rw [← hW]
  clear hW c0 c1 c2 c3 c4 y0 y1 y2 hl0 hl1
  obtain ⟨c0, c1, c2, c3, c4, -, -, -, -, -⟩ := hP.c5 g 63 vr (.slice ad s.nodes.length c) (.map (some mr)) (.map (some ms)) (.map (some mw)) (by simp)
  obtain ⟨y0, y1, y2, -, -, -⟩ := hP.c3 w.heap.size 38 _ _ _ List.mem_cons_self
  have hu0 := HUP.out _ (hP.box (ms, os) (by simp))
  have hu1 := HUP.out _ (hP.drew.box (ms, os) (by simp))
  have HP := Aside0.mk hP
  clear hP
  go_region
  go_upto_region 5 with (fail)
  obtain ⟨W3, hW, hP⟩ : ∃ W3, W3 = _ ∧ Hv w0 W3 (B ++ ((w.heap.size, Obj.cells #[.int .i64 a, .int .i64 b, .int .i64 word] 38) :: cb g 63 #[vr, .slice ad s.nodes.length c, .map (some mr), .map (some ms), .map (some mw)] :: (mr, or) :: (ms, o') :: (mw, ow) :: (A ++ L))) := ⟨_, rfl, by
    have q := fun (W : World) (h : Hv w0 W ((w.heap.size, Obj.cells #[.int .i64 a, .int .i64 b, .int .i64 word] 38) :: cb g 63 #[vr, .slice ad s.nodes.length c, .map (some mr), .map (some ms), .map (some mw)] :: (mr, or) :: (ms, os) :: (mw, ow) :: (A ++ (B ++ L)))) => (h.turn 3 rfl o').perm (L' := B ++ ((w.heap.size, Obj.cells #[.int .i64 a, .int .i64 b, .int .i64 word] 38) :: cb g 63 #[vr, .slice ad s.nodes.length c, .map (some mr), .map (some ms), .map (some mw)] :: (mr, or) :: (ms, o') :: (mw, ow) :: (A ++ L))) (toFront B ((w.heap.size, Obj.cells #[.int .i64 a, .int .i64 b, .int .i64 word] 38) :: cb g 63 #[vr, .slice ad s.nodes.length c, .map (some mr), .map (some ms), .map (some mw)] :: (mr, or) :: (ms, o') :: (mw, ow) :: A) L (by simp))
    first | exact q _ HP.out.drew | exact q _ HP.out⟩
  rw [← hW]
  clear hW c0 c1 c2 c3 c4 y0 y1 y2 hu0 hu1 HP
  obtain ⟨c0, c1, c2, c3, c4, f0, f1, f2, f3, f4⟩ := hP.c5 g 63 vr (.slice ad s.nodes.length c) (.map (some mr)) (.map (some ms)) (.map (some mw)) (by simp)
  obtain ⟨y0, y1, y2, -, -, -⟩ := hP.c3 w.heap.size 38 (.int .i64 a) (.int .i64 b) (.int .i64 word) (by simp)
  have c1a : ∀ o, (W3.alloc o).cell? ⟨g, 1, none⟩ = some (.slice ad s.nodes.length c) := fun o => pw_cell_below (below_alloc (Below.refl _ _) o) c1
  have HP := Aside0.mk hP
  have HN1 := Aside0.mk (show (s.nodes.length + 1) * 24 ≤ 140737488355328 by have := HN.out; omega)
  clear hP
  go_region_law (first | (refine append_step (w0 := w0) (A := B) (L := (w.heap.size, Obj.cells #[.int .i64 a, .int .i64 b, .int .i64 word] 38) :: cb g 63 #[vr, .slice ad s.nodes.length c, .map (some mr), .map (some ms), .map (some mw)] :: (mr, or) :: (ms, o') :: (mw, ow) :: (A ++ L)) (by rfl) (.tmp 34) (.tmp 36) 28 38 (.agg #[.int .i64 0, .int .i64 0, .int .i64 0]) 3 24 rfl Try.underlying28 I38.out rfl (by decide) (by decide) (.slice ad s.nodes.length c) s.nodes.length (s.nodes.flatMap cel3) (by simp [Act.eval, Act.put]) ⟨W3.heap.size, 0, none⟩ 1 1 (cel3 ((a, b), word)) (by simp [Act.eval, Act.put]) rfl (news_new _ _ 38 _ rfl) (by intro u hu; simp [cel3] at hu; rcases hu with rfl | rfl | rfl <;> rfl) KK.out.1 (by first | exact HP.out.drew.skip _ | exact (HP.out.skip _).drew | exact HP.out.skip _) HN1.out ?_; intro v2 w6 B2 hG hH; obtain ⟨b4, d4, rfl, hd4⟩ := hG.form; have KG2 := Aside0.mk hG; have KH2 := Aside0.mk hH; clear c0 c1 c2 c3 c4 f0 f1 f2 f3 f4 y0 y1 y2; obtain ⟨c0, c1, c2, c3, c4, f0, f1, f2, f3, f4⟩ := hH.c5 g 63 vr (.slice ad s.nodes.length c) (.map (some mr)) (.map (some ms)) (.map (some mw)) (by simp); clear hG hH hd4))
  all_goals
    go_wp2_with fail
    go_end0
    have q1 := KH2.out.drop (L' := B2 ++ (cb g 63 #[vr, .slice ad s.nodes.length c, .map (some mr), .map (some ms), .map (some mw)] :: (mr, or) :: (ms, o') :: (mw, ow) :: (A ++ L))) (List.Sublist.append_left (List.sublist_cons_self _ _) _)
    have q2 := q1.putA0 1 (.slice b4 (s.nodes.length + 1) d4) (cs' := #[vr, .slice b4 (s.nodes.length + 1) d4, .map (some mr), .map (some ms), .map (some mw)]) rfl
    have q3 := q2.perm (toFront B2 (cb g 63 #[vr, .slice b4 (s.nodes.length + 1) d4, .map (some mr), .map (some ms), .map (some mw)] :: (mr, or) :: (ms, o') :: (mw, ow) :: A) L rfl).symm
    refine ⟨rfl, mr, ms, mw, or, o', ow, vr, .slice b4 (s.nodes.length + 1) d4, A, B2, by simpa [List.append_assoc] using q3, KK.out.2.1, ?_, KK.out.2.2.1, ?_, KK.out.2.2.2⟩
    · have := KG2.out
      simpa [List.flatMap_append] using this
    · have := HIS.out
      rw [ixs_append, Nat.zero_add]
      exact this
end Go.Proofs.Ytgecokldbkamlaa.St
