/- The reference's arena (transomref16) over the same state: walks. No condition. -/
import Derived.Test.YtglbcfkmaamhaaaProg
import Derived.Test.YtglbcfkmaamhaaaArm
import Derived.Below
import Derived.Deep.Draws
import Derived.Deep.AppendLies
import Derived.Maps.AppendAt
import Derived.OwnWalk
import Derived.Laws.BytesArg
import Derived.Laws.MakeOwn
import Derived.Laws.OwnMore
import Derived.Deep.OwnRows
import Derived.Tactics
import Derived.Lib.ConvBytes
import Derived.Laws.Slices
import Derived.WalkKit
import Derived.KernelRfl
import Derived.RowKit3
import Derived.Deep.LoopGhost
import Derived.Deep.QuietTactic
import Derived.BigQuiet
import Derived.WideLaws
import Derived.Deep.DeepCutAuto
import Derived.Deep.CutBlock
import Derived.Deep.RegionHeld3
import Derived.Laws.Rows
import Derived.Lib.AppendStr
import Derived.ArgAppend
import Derived.Laws.IdiomCopy
import Derived.OrdersHeld
import Derived.Laws.BitsLemmas
import Derived.RowKit
import Derived.Deep.RegionLaw
import Derived.RegionTactic
import Derived.Deep.Slices
import Derived.Test.YtglbcfkmaamhaaaWEqStruct
set_option linter.unusedVariables false
set_option linter.unusedSimpArgs false
namespace Go.Proofs.Ytglbcfkmaamhaaa.R16
open Go Go.RowKit Go.Proofs.YtglbcfkmaamhaaaW.PrintWords Go.Proofs.YtglbcfkmaamhaaaW.PrintLast Go.Proofs.YtglbcfkmaamhaaaW.PrintMore Go.Proofs.Ytglbcfkmaamhaaa.Hv Go.Proofs.Ytglbcfkmaamhaaa.Arm

def gens (s : Ar) : List Int := s.slots.map (·.gen)
def tks (s : Ar) : List Bool := s.slots.map (·.taken)
/-- The rows of the reference's arena. -/
structure RfA (L : List Ob) (s : Ar) (a1 : Option Addr) (c1 : Nat) (a2 : Option Addr) (c2 : Nat) (a3 : Option Addr) (c3 : Nat) : Prop where
  g : Rw 3 1 L a1 s.n c1 (nums .i64 (gens s))
  t : Rw 4 1 L a2 s.n c2 (bools (tks s))
  b : Rw 3 1 L a3 s.back.length c3 (nums .i64 s.back)
theorem RfA.right {L : List Ob} {s : Ar} {a1 a2 a3 : Option Addr} {c1 c2 c3 : Nat} (h : RfA L s a1 c1 a2 c2 a3 c3) (R : List Ob) : RfA (R ++ L) s a1 c1 a2 c2 a3 c3 := ⟨h.g.right R, h.t.right R, h.b.right R⟩
theorem RfA.mono {L L' : List Ob} {s : Ar} {a1 a2 a3 : Option Addr} {c1 c2 c3 : Nat} (h : RfA L s a1 c1 a2 c2 a3 c3) (hL : ∀ p ∈ L, p ∈ L') : RfA L' s a1 c1 a2 c2 a3 c3 := ⟨h.g.mono hL, h.t.mono hL, h.b.mono hL⟩
/-- The value. -/
def rv (s : Ar) (a1 : Option Addr) (c1 : Nat) (a2 : Option Addr) (c2 : Nat) (a3 : Option Addr) (c3 : Nat) : Value := .agg #[.slice a1 s.n c1, .slice a2 s.n c2, .slice a3 s.back.length c3, .int .i64 s.ever]
theorem gens_get (s : Ar) (k : Nat) (h : k < s.n) : (nums .i64 (gens s))[k]? = some (.int .i64 (s.slot k).gen) := by
  have e := slot_eq (s := s) (i := (k : Int)) (by simpa using h)
  rw [Int.toNat_natCast] at e
  simp [nums, gens, e]
theorem tks_get (s : Ar) (k : Nat) (h : k < s.n) : (bools (tks s))[k]? = some (.bool (s.slot k).taken) := by
  have e := slot_eq (s := s) (i := (k : Int)) (by simpa using h)
  rw [Int.toNat_natCast] at e
  simp [bools, tks, e]
variable {w0 w w1 : World} {L : List Ob} {s : Ar} {a1 a2 a3 : Option Addr} {c1 c2 c3 : Nat}

/-! ### Room -/
def freeTo (s : Ar) (k : Nat) : Nat := (s.slots.take k).countP (fun q => !q.taken)
theorem freeTo_step (s : Ar) (k : Nat) (h : k < s.n) : freeTo s (k + 1) = freeTo s k + (if (s.slot k).taken then 0 else 1) := by
  have e := slot_eq (s := s) (i := (k : Int)) (by simpa using h)
  rw [Int.toNat_natCast] at e
  have h' : k < s.slots.length := h
  rw [List.getElem?_eq_getElem h'] at e
  unfold freeTo
  rw [List.take_succ_eq_append_getElem h', List.countP_append, Option.some.inj e]
  cases htk : (s.slot (k : Int)).taken <;> simp [htk]
theorem freeTo_le (s : Ar) (k : Nat) : freeTo s k ≤ k := Nat.le_trans List.countP_le_length (by rw [List.length_take]; omega)
theorem freeTo_all (s : Ar) : (freeTo s s.n : Int) = s.room := by
  have : s.slots.length = s.slots.countP (·.taken) + s.slots.countP (fun q => !q.taken) := by
    have := List.length_eq_countP_add_countP (·.taken) (l := s.slots)
    simpa using this
  unfold freeTo Ar.room Ar.held Ar.n
  rw [List.take_length]
  omega
set_option maxHeartbeats 4000000 in
set_option maxRecDepth 100000 in
theorem room.calls (hv : Hv w0 w L) (h : RfA L s a1 c1 a2 c2 a3 c3) (hn : s.n ≤ 4096) : Calls Try.prog 27 #[.agg #[.slice a1 s.n c1, .slice a2 s.n c2, .slice a3 s.back.length c3, .int .i64 s.ever]] w fun e w' => e = .returned (.int .i64 s.room) ∧ Below w.heap.size w w' := by
  have HR := Aside0.mk h
  have HV := Aside0.mk hv
  have hu29 := Try.underlying29
  have hu27 := Try.underlying27
  have hnot : ∀ (x : Bool) (w : World), (Op.unary .not (.bool x)).run Try.prog w = .ok (.bool (!x)) w := fun _ _ => rfl
  clear h hv
  go_enter Try.func27, Try.ntmps27
  go_wp2_with fail
  go_loop [3, 4] (fun n i => ∃ k : Nat, k ≤ s.n ∧ i = .int .i64 (k : Int) ∧ n = .int .i64 (freeTo s k : Int)) (fun _ i => s.n - (intOf i).toNat)
  case atStart => exact ⟨0, Nat.zero_le _, rfl, by simp [freeTo]⟩
  case round =>
    obtain ⟨k, hk, rfl, rfl⟩ := hrel
    have hf := freeTo_le s k
    by_cases hlt : k < s.n
    · obtain ⟨gt, off, rfl, hc, hlt2, _⟩ := HR.out.t.at_ HV.out (by omega)
      have hst := freeTo_step s k hlt
      have z := pw_cell_below (below_alloc (Below.refl w.heap.size w) (.cells #[.slice a1 s.n c1, .slice (some ⟨gt, off, none⟩) s.n c2, .slice a3 s.back.length c3, .int .i64 s.ever] 29)) (hc k _ (tks_get s k hlt))
      have HS := Aside0.mk hst
      have hlt' : (k : Int) < (s.n : Int) := by omega
      clear hst hc hlt2
      cases htk : (s.slot (k : Int)).taken with
      | true =>
        rw [htk] at z
        have HT := Aside0.mk htk
        clear htk
        go_wp2_with fail
        go_round
        case rel => exact ⟨k + 1, hlt, by go_num, by rw [HS.out, HT.out]; rfl⟩
        case measure => simp [intOf]; omega
      | false =>
        rw [htk] at z
        have HT := Aside0.mk htk
        clear htk
        go_wp2_with fail
        go_round
        case rel => exact ⟨k + 1, hlt, by go_num, by rw [HS.out, HT.out]; simp⟩
        case measure => simp [intOf]; omega
    · have hge : ¬ (k : Int) < (s.n : Int) := by omega
      have hkn : k = s.n := by omega
      have e := freeTo_all s
      rw [← hkn] at e
      have HE := Aside0.mk e
      clear hkn e
      go_wp2_with fail
      go_ret
      exact ⟨by rw [← HE.out]; rfl, below_alloc (Below.refl _ _) _⟩

/-! ### with -/
theorem info3 : (Try.prog.info? 3).map (fun i => (i.zero, i.size, i.bytes)) = some (some (.int .i64 0), 1, 8) := by kernel_rfl
theorem info4 : (Try.prog.info? 4).map (fun i => (i.zero, i.size, i.bytes)) = some (some (.bool false), 1, 1) := by kernel_rfl
theorem nums_one (l : List Int) : ∀ u ∈ nums .i64 l, u.oneCell' = true := by
  intro u hu
  obtain ⟨x, _, rfl⟩ := List.mem_map.1 hu
  rfl
theorem bools_one (l : List Bool) : ∀ u ∈ bools l, u.oneCell' = true := by
  intro u hu
  obtain ⟨x, _, rfl⟩ := List.mem_map.1 hu
  rfl
/-- What with hands back: rows of its own. -/
def Withs (s : Ar) (a3 : Option Addr) (c3 : Nat) (w : World) (e : Ending) (w' : World) : Prop :=
  ∃ b1 d1 b2 d2 A1 A2, e = .returned (.agg #[.slice b1 s.n d1, .slice b2 s.n d2, .slice a3 s.back.length c3, .int .i64 s.ever]) ∧ Gr 3 1 (.slice b1 s.n d1) s.n (nums .i64 (gens s)) A1 ∧ Gr 4 1 (.slice b2 s.n d2) s.n (bools (tks s)) A2 ∧ Hv w w' (A1 ++ A2)
set_option maxHeartbeats 8000000 in
set_option maxRecDepth 100000 in
theorem with_.calls (hv : Hv w0 w L) (h : RfA L s a1 c1 a2 c2 a3 c3) (hn : s.n ≤ 4096) : Calls Try.prog 91 #[.agg #[.slice a1 s.n c1, .slice a2 s.n c2, .slice a3 s.back.length c3, .int .i64 s.ever]] w (Withs s a3 c3 w) := by
  have D1 := Aside0.mk (h.g.rd hv)
  have D2 := Aside0.mk (h.t.rd hv)
  have hu29 := Try.underlying29
  have hb1 : (0 + s.n) * 8 ≤ 140737488355328 := by omega
  have hb2 : (0 + s.n) * 1 ≤ 140737488355328 := by omega
  have HB1 := Aside0.mk hb1
  have HB2 := Aside0.mk hb2
  have H0 := Aside0.mk ((Hv.start w).alloc (.cells #[.slice a1 s.n c1, .slice a2 s.n c2, .slice a3 s.back.length c3, .int .i64 s.ever] 29))
  have H1 := Aside0.mk (H0.out.alloc (.cells #[.slice none 0 0, .slice none 0 0, .slice none 0 0, .int .i64 0] 29))
  clear h hv hb1 hb2
  go_enter Try.func91, Try.ntmps91
  go_upto_region 2 with (at_builtin; refine append_rows (w0 := w) (A := []) (L := [cb (w.heap.size + 1) 29 #[.slice none 0 0, .slice none 0 0, .slice none 0 0, .int .i64 0], cb w.heap.size 29 #[.slice a1 s.n c1, .slice a2 s.n c2, .slice a3 s.back.length c3, .int .i64 s.ever]]) rfl (.const (.slice none 0 0)) (.tmp 4) 26 3 (.int .i64 0) 1 8 rfl Try.underlying26 info3 rfl (by decide) (by decide) (.slice none 0 0) 0 [] rfl a1 s.n c1 (nums .i64 (gens s)) rfl (nums_one _) (Gr.nil _ _) (by simpa using H1.out) (D1.out.below (by simpa using H1.out.bel)) HB1.out ?_; intro v1 w2 A1 hG1 hH1; rw [Nat.zero_add, List.nil_append] at hG1; obtain ⟨b1, d1, rfl, hd1⟩ := hG1.form; have KG1 := Aside0.mk hG1; have KH1 := Aside0.mk hH1; have x0 := hH1.cell (g := w.heap.size) (t := 29) (cs := #[.slice a1 s.n c1, .slice a2 s.n c2, .slice a3 s.back.length c3, .int .i64 s.ever]) (by simp) 0 rfl; have x1 := hH1.cell (g := w.heap.size) (t := 29) (cs := #[.slice a1 s.n c1, .slice a2 s.n c2, .slice a3 s.back.length c3, .int .i64 s.ever]) (by simp) 1 rfl; have f0 := hH1.frozen (g := w.heap.size) (t := 29) (cs := #[.slice a1 s.n c1, .slice a2 s.n c2, .slice a3 s.back.length c3, .int .i64 s.ever]) (by simp) 0; clear hG1 hH1 hd1)
  have P1 := Aside0.mk (KH1.out.putA1 0 (.slice b1 s.n d1) rfl)
  go_upto_region 3 with (at_builtin; refine append_rows (w0 := w) (A := []) (L := A1 ++ [cb (w.heap.size + 1) 29 #[.slice none 0 0, .slice none 0 0, .slice none 0 0, .int .i64 0], cb w.heap.size 29 #[.slice b1 s.n d1, .slice a2 s.n c2, .slice a3 s.back.length c3, .int .i64 s.ever]]) rfl (.const (.slice none 0 0)) (.tmp 8) 27 4 (.bool false) 1 1 rfl Try.underlying27 info4 rfl (by decide) (by decide) (.slice none 0 0) 0 [] rfl a2 s.n c2 (bools (tks s)) rfl (bools_one _) (Gr.nil _ _) (by simpa using P1.out) (D2.out.below (by simpa using P1.out.bel)) HB2.out ?_; intro v2 w3 A2 hG1 hH1; rw [Nat.zero_add, List.nil_append] at hG1; obtain ⟨b2, d2, rfl, hd2⟩ := hG1.form; have KG2 := Aside0.mk hG1; have KH2 := Aside0.mk hH1; have y0 := hH1.cell (g := w.heap.size) (t := 29) (cs := #[.slice b1 s.n d1, .slice a2 s.n c2, .slice a3 s.back.length c3, .int .i64 s.ever]) (by simp) 0 rfl; have y1 := hH1.cell (g := w.heap.size) (t := 29) (cs := #[.slice b1 s.n d1, .slice a2 s.n c2, .slice a3 s.back.length c3, .int .i64 s.ever]) (by simp) 1 rfl; have y2 := hH1.cell (g := w.heap.size) (t := 29) (cs := #[.slice b1 s.n d1, .slice a2 s.n c2, .slice a3 s.back.length c3, .int .i64 s.ever]) (by simp) 2 rfl; have y3 := hH1.cell (g := w.heap.size) (t := 29) (cs := #[.slice b1 s.n d1, .slice a2 s.n c2, .slice a3 s.back.length c3, .int .i64 s.ever]) (by simp) 3 rfl; have g0 := hH1.frozen (g := w.heap.size) (t := 29) (cs := #[.slice b1 s.n d1, .slice a2 s.n c2, .slice a3 s.back.length c3, .int .i64 s.ever]) (by simp) 1; have z0 := hH1.cell (g := w.heap.size + 1) (t := 29) (cs := #[.slice none 0 0, .slice none 0 0, .slice none 0 0, .int .i64 0]) (by simp) 0 rfl; have fz0 := hH1.frozen (g := w.heap.size + 1) (t := 29) (cs := #[.slice none 0 0, .slice none 0 0, .slice none 0 0, .int .i64 0]) (by simp) 0; have z1 := hH1.cell (g := w.heap.size + 1) (t := 29) (cs := #[.slice none 0 0, .slice none 0 0, .slice none 0 0, .int .i64 0]) (by simp) 1 rfl; have fz1 := hH1.frozen (g := w.heap.size + 1) (t := 29) (cs := #[.slice none 0 0, .slice none 0 0, .slice none 0 0, .int .i64 0]) (by simp) 1; have z2 := hH1.cell (g := w.heap.size + 1) (t := 29) (cs := #[.slice none 0 0, .slice none 0 0, .slice none 0 0, .int .i64 0]) (by simp) 2 rfl; have fz2 := hH1.frozen (g := w.heap.size + 1) (t := 29) (cs := #[.slice none 0 0, .slice none 0 0, .slice none 0 0, .int .i64 0]) (by simp) 2; have z3 := hH1.cell (g := w.heap.size + 1) (t := 29) (cs := #[.slice none 0 0, .slice none 0 0, .slice none 0 0, .int .i64 0]) (by simp) 3 rfl; have fz3 := hH1.frozen (g := w.heap.size + 1) (t := 29) (cs := #[.slice none 0 0, .slice none 0 0, .slice none 0 0, .int .i64 0]) (by simp) 3; clear hG1 hH1 hd2)
  have K2 := KH2.out
  rw [← List.append_assoc] at K2
  have P2 := Aside0.mk ((K2.putA1 1 (.slice b2 s.n d2) rfl).perm (List.Perm.append_right _ (List.perm_append_comm (l₁ := A1) (l₂ := A2))))
  clear K2
  go_wp2_with fail
  have Q := (((P2.out.putA0 0 (.slice b1 s.n d1) rfl).putA0 1 (.slice b2 s.n d2) rfl).putA0 2 (.slice a3 s.back.length c3) rfl).putA0 3 (.int .i64 s.ever) rfl
  refine bodyPost_ret (v := .agg #[.slice b1 s.n d1, .slice b2 s.n d2, .slice a3 s.back.length c3, .int .i64 s.ever]) (by simp [results, Try.results91, go_sem, z0, z1, z2, z3]) rfl ⟨b1, d1, b2, d2, A1, A2, rfl, KG1.out, KG2.out, Q.left⟩

/-! ### Right -/
set_option maxHeartbeats 4000000 in
set_option maxRecDepth 100000 in
theorem right.calls (hv : Hv w0 w L) (h : RfA L s a1 c1 a2 c2 a3 c3) (hn : s.n ≤ 4096) (i q : Int) : Calls Try.prog 19 #[.agg #[.slice a1 s.n c1, .slice a2 s.n c2, .slice a3 s.back.length c3, .int .i64 s.ever], .agg #[.int .i64 i, .int .i64 q]] w fun e w' => e = .returned (.bool (s.has i q)) ∧ Below w.heap.size w w' := by
  have hu29 := Try.underlying29
  have hu33 := Try.underlying33
  by_cases g0 : 0 ≤ i
  · have d0 : decide (0 ≤ i) = true := decide_eq_true g0
    by_cases g1 : i < (s.n : Int)
    · have d1 : decide (i < (s.n : Int)) = true := decide_eq_true g1
      have hi : i.toNat < s.n := by omega
      obtain ⟨gt, ot, rfl, hct, _, _⟩ := h.t.at_ hv (by omega)
      obtain ⟨gg, og, rfl, hcg, _, _⟩ := h.g.at_ hv (by omega)
      have ct : ∀ o p, ((w.alloc o).alloc p).cell? ⟨gt, ot + i.toNat, none⟩ = some (.bool (s.slot i).taken) := fun o p => pw_cell_below (below_alloc (below_alloc (Below.refl _ _) o) p) (hct i.toNat _ (tks_get s i.toNat hi))
      have cg : ∀ o p, ((w.alloc o).alloc p).cell? ⟨gg, og + i.toNat, none⟩ = some (.int .i64 (s.slot i).gen) := fun o p => pw_cell_below (below_alloc (below_alloc (Below.refl _ _) o) p) (hcg i.toNat _ (gens_get s i.toNat hi))
      by_cases g2 : (s.slot i).taken = true
      · rw [g2] at ct
        by_cases g3 : (s.slot i).gen = q
        · have e : s.has i q = true := by simp [Ar.has, g0, g1, g2, g3]
          rw [g3] at cg
          clear h hv g2 g3 hi hct hcg
          go_enter Try.func19, Try.ntmps19
          go_wp2_with fail
          go_quiet (fail)
          go_wp2_with fail
          go_ret
          exact ⟨by simp [e], by (repeat apply pw_below_drewN); exact below_alloc (below_alloc (Below.refl _ _) _) _⟩
        · have d3 : ((s.slot i).gen == q) = false := by simp [g3]
          have e : s.has i q = false := by simp [Ar.has, g3]
          clear h hv g2 g3 hi hct hcg
          go_enter Try.func19, Try.ntmps19
          go_wp2_with fail
          go_quiet (fail)
          go_wp2_with fail
          go_ret
          exact ⟨by simp [e], by (repeat apply pw_below_drewN); exact below_alloc (below_alloc (Below.refl _ _) _) _⟩
      · have g2' : (s.slot i).taken = false := by simpa using g2
        rw [g2'] at ct
        have e : s.has i q = false := by simp [Ar.has, g2']
        clear h hv g2 g2' hi hct hcg
        go_enter Try.func19, Try.ntmps19
        go_wp2_with fail
        go_quiet (fail)
        go_wp2_with fail
        go_ret
        exact ⟨by simp [e], by (repeat apply pw_below_drewN); exact below_alloc (below_alloc (Below.refl _ _) _) _⟩
    · have d1 : decide (i < (s.n : Int)) = false := decide_eq_false g1
      have e : s.has i q = false := by simp [Ar.has]; omega
      clear h hv g0 g1
      go_enter Try.func19, Try.ntmps19
      go_wp2_with fail
      go_quiet (fail)
      go_wp2_with fail
      go_ret
      exact ⟨by simp [e], by (repeat apply pw_below_drewN); exact below_alloc (below_alloc (Below.refl _ _) _) _⟩
  · have d0 : decide (0 ≤ i) = false := decide_eq_false g0
    have e : s.has i q = false := by simp [Ar.has]; omega
    clear h hv g0
    go_enter Try.func19, Try.ntmps19
    go_wp2_with fail
    go_quiet (fail)
    go_wp2_with fail
    go_ret
    exact ⟨by simp [e], by (repeat apply pw_below_drewN); exact below_alloc (below_alloc (Below.refl _ _) _) _⟩

/-! ### New -/
set_option maxRecDepth 100000 in
theorem make_ints (n : Nat) (h1 : n ≤ 4096) (w : World) :
    (Instr.makeSlice 26 (.int .i64 (n : Int)) (.int .i64 (n : Int))).run Try.prog w = .ok (.slice (some ⟨w.heap.size, 0, none⟩) n n) (w.alloc (.cells (nums .i64 (List.replicate n 0)).toArray 3)) := by
  cases hi : Try.prog.info? 3 with
  | none => have := info3; rw [hi] at this; simp at this
  | some i =>
    have := info3
    rw [hi] at this
    simp at this
    obtain ⟨h2, h3, h4⟩ := this
    rw [run_make (P := Try.prog) w 26 3 i (.int .i64 0) Try.underlying26 hi h2 .i64 .i64 n n (by omega) (by omega) (by rw [h4]; omega) (by omega)]
    congr 3
    rw [h3, Nat.mul_one]
    apply Array.ext'
    rw [show (Value.int .i64 0).cells = #[.int .i64 0] from rfl, toList_madeCells_one]
    simp [nums]
set_option maxRecDepth 100000 in
theorem make_bools (n : Nat) (h1 : n ≤ 4096) (w : World) :
    (Instr.makeSlice 27 (.int .i64 (n : Int)) (.int .i64 (n : Int))).run Try.prog w = .ok (.slice (some ⟨w.heap.size, 0, none⟩) n n) (w.alloc (.cells (bools (List.replicate n false)).toArray 4)) := by
  cases hi : Try.prog.info? 4 with
  | none => have := info4; rw [hi] at this; simp at this
  | some i =>
    have := info4
    rw [hi] at this
    simp at this
    obtain ⟨h2, h3, h4⟩ := this
    rw [run_make (P := Try.prog) w 27 4 i (.bool false) Try.underlying27 hi h2 .i64 .i64 n n (by omega) (by omega) (by rw [h4]; omega) (by omega)]
    congr 3
    rw [h3, Nat.mul_one]
    apply Array.ext'
    rw [show (Value.bool false).cells = #[.bool false] from rfl, toList_madeCells_one]
    simp [bools]
/-- What a call hands back: an arena as a value, its rows in new blocks, or among those of L. -/
def Gives (s : Ar) (L : List Ob) (w : World) (e : Ending) (w' : World) : Prop :=
  ∃ b1 d1 b2 d2 b3 d3 R, e = .returned (.agg #[.slice b1 s.n d1, .slice b2 s.n d2, .slice b3 s.back.length d3, .int .i64 s.ever]) ∧ Hv w w' R ∧ RfA (R ++ L) s b1 d1 b2 d2 b3 d3
theorem rw_block (e : Nat) (g n : Nat) (xs : List Value) (hx : xs.length = n) (L : List Ob) (hm : cb g e xs.toArray ∈ L) : Rw e 1 L (some ⟨g, 0, none⟩) n n xs :=
  ⟨by omega, Nat.le_refl _, fun _ => ⟨g, 0, xs.toArray, rfl, hm, fun i _ => by simp⟩⟩
set_option maxHeartbeats 4000000 in
set_option maxRecDepth 100000 in
theorem new1.calls (n : Nat) (hn : n ≤ 4096) (z : List Value) (w : World) : Calls Try.prog 17 #[.int .i64 (n : Int)] w (Gives (Ar.new n z) [] w) := by
  have hm1 := make_ints n hn
  have hm2 := make_bools n hn
  have hu29 := Try.underlying29
  have d1 : decide ((n : Int) < 0) = false := by simp
  have d2 : decide ((4096 : Int) < (n : Int)) = false := decide_eq_false (by omega)
  have e1 : (Ar.new n z).n = n := by simp [Ar.new, Ar.n]
  have e2 : gens (Ar.new n z) = List.replicate n 0 := by simp [gens, Ar.new]
  have e3 : tks (Ar.new n z) = List.replicate n false := by simp [tks, Ar.new]
  have E1 := Aside0.mk e1
  have E2 := Aside0.mk e2
  have E3 := Aside0.mk e3
  have H0 := Aside0.mk ((Hv.start w).alloc (.cells #[.slice none 0 0, .slice none 0 0, .slice none 0 0, .int .i64 0] 29))
  clear e1 e2 e3
  go_enter Try.func17, Try.ntmps17
  go_wp2_with fail
  go_region
  all_goals go_wp2_with fail
  · refine bodyPost_ret (v := .agg #[.slice (some ⟨w.heap.size + 1, 0, none⟩) n n, .slice (some ⟨w.heap.size + 1 + 1, 0, none⟩) n n, .slice none 0 0, .int .i64 0]) (by simp [results, Try.results17, go_sem]) rfl ⟨some ⟨w.heap.size + 1, 0, none⟩, n, some ⟨w.heap.size + 1 + 1, 0, none⟩, n, none, 0, [(w.heap.size + 1 + 1, .cells (bools (List.replicate n false)).toArray 4), (w.heap.size + 1, .cells (nums .i64 (List.replicate n 0)).toArray 3), (w.heap.size, .cells #[.slice (some ⟨w.heap.size + 1, 0, none⟩) n n, .slice (some ⟨w.heap.size + 1 + 1, 0, none⟩) n n, .slice none 0 0, .int .i64 0] 29)], ?_, ?_, ?_⟩
    · rw [E1.out]; rfl
    · have := ((((Hv.start w).alloc (.cells #[.slice (some ⟨w.heap.size + 1, 0, none⟩) n n, .slice (some ⟨w.heap.size + 1 + 1, 0, none⟩) n n, .slice none 0 0, .int .i64 0] 29)).alloc (.cells (nums .i64 (List.replicate n 0)).toArray 3)).alloc (.cells (bools (List.replicate n false)).toArray 4)).drew
      simpa only [World.size_alloc] using this
    · refine ⟨?_, ?_, Rw.nil _ _ _⟩
      · rw [E1.out, E2.out]
        exact rw_block 3 _ n _ (by simp [nums]) _ (by simp)
      · rw [E1.out, E3.out]
        exact rw_block 4 _ n _ (by simp [bools]) _ (by simp)
  · refine bodyPost_ret (v := .agg #[.slice (some ⟨w.heap.size + 1 + 1, 0, none⟩) n n, .slice (some ⟨w.heap.size + 1, 0, none⟩) n n, .slice none 0 0, .int .i64 0]) (by simp [results, Try.results17, go_sem]) rfl ⟨some ⟨w.heap.size + 1 + 1, 0, none⟩, n, some ⟨w.heap.size + 1, 0, none⟩, n, none, 0, [(w.heap.size + 1 + 1, .cells (nums .i64 (List.replicate n 0)).toArray 3), (w.heap.size + 1, .cells (bools (List.replicate n false)).toArray 4), (w.heap.size, .cells #[.slice (some ⟨w.heap.size + 1 + 1, 0, none⟩) n n, .slice (some ⟨w.heap.size + 1, 0, none⟩) n n, .slice none 0 0, .int .i64 0] 29)], ?_, ?_, ?_⟩
    · rw [E1.out]; rfl
    · have := ((((Hv.start w).alloc (.cells #[.slice (some ⟨w.heap.size + 1 + 1, 0, none⟩) n n, .slice (some ⟨w.heap.size + 1, 0, none⟩) n n, .slice none 0 0, .int .i64 0] 29)).alloc (.cells (bools (List.replicate n false)).toArray 4)).alloc (.cells (nums .i64 (List.replicate n 0)).toArray 3)).drew
      simpa only [World.size_alloc] using this
    · refine ⟨?_, ?_, Rw.nil _ _ _⟩
      · rw [E1.out, E2.out]
        exact rw_block 3 _ n _ (by simp [nums]) _ (by simp)
      · rw [E1.out, E3.out]
        exact rw_block 4 _ n _ (by simp [bools]) _ (by simp)
set_option maxHeartbeats 4000000 in
set_option maxRecDepth 100000 in
theorem new0.calls (n : Int) (hn : n < 0 ∨ n > 4096) (z : List Value) (w : World) : Calls Try.prog 17 #[.int .i64 n] w (Gives (Ar.new 0 z) [] w) := by
  have hm1 : ∀ w : World, (Instr.makeSlice 26 (.int .i64 0) (.int .i64 0)).run Try.prog w = .ok (.slice (some ⟨w.heap.size, 0, none⟩) 0 0) (w.alloc (.cells #[] 3)) := make_ints 0 (by omega)
  have hm2 : ∀ w : World, (Instr.makeSlice 27 (.int .i64 0) (.int .i64 0)).run Try.prog w = .ok (.slice (some ⟨w.heap.size, 0, none⟩) 0 0) (w.alloc (.cells #[] 4)) := make_bools 0 (by omega)
  have hu29 := Try.underlying29
  have e1 : (Ar.new 0 z).n = 0 := by simp [Ar.new, Ar.n]
  have e2 : gens (Ar.new 0 z) = List.replicate 0 0 := by simp [gens, Ar.new]
  have e3 : tks (Ar.new 0 z) = List.replicate 0 false := by simp [tks, Ar.new]
  have E1 := Aside0.mk e1
  have E2 := Aside0.mk e2
  have E3 := Aside0.mk e3
  have H0 := Aside0.mk ((Hv.start w).alloc (.cells #[.slice none 0 0, .slice none 0 0, .slice none 0 0, .int .i64 0] 29))
  clear e1 e2 e3
  by_cases h0 : n < 0
  · have d1 : decide (n < 0) = true := decide_eq_true h0
    clear hn h0
    go_enter Try.func17, Try.ntmps17
    go_wp2_with fail
    go_region
    all_goals go_wp2_with fail
    · refine bodyPost_ret (v := .agg #[.slice (some ⟨w.heap.size + 1, 0, none⟩) 0 0, .slice (some ⟨w.heap.size + 1 + 1, 0, none⟩) 0 0, .slice none 0 0, .int .i64 0]) (by simp [results, Try.results17, go_sem]) rfl ⟨some ⟨w.heap.size + 1, 0, none⟩, 0, some ⟨w.heap.size + 1 + 1, 0, none⟩, 0, none, 0, [(w.heap.size + 1 + 1, .cells #[] 4), (w.heap.size + 1, .cells #[] 3), (w.heap.size, .cells #[.slice (some ⟨w.heap.size + 1, 0, none⟩) 0 0, .slice (some ⟨w.heap.size + 1 + 1, 0, none⟩) 0 0, .slice none 0 0, .int .i64 0] 29)], ?_, ?_, ?_⟩
      · rw [E1.out]; rfl
      · have := ((((Hv.start w).alloc (.cells #[.slice (some ⟨w.heap.size + 1, 0, none⟩) 0 0, .slice (some ⟨w.heap.size + 1 + 1, 0, none⟩) 0 0, .slice none 0 0, .int .i64 0] 29)).alloc (.cells #[] 3)).alloc (.cells #[] 4)).drew
        simpa only [World.size_alloc] using this
      · refine ⟨?_, ?_, Rw.nil _ _ _⟩
        · rw [E1.out, E2.out]
          exact ⟨rfl, Nat.le_refl _, fun h => absurd h (Nat.lt_irrefl 0)⟩
        · rw [E1.out, E3.out]
          exact ⟨rfl, Nat.le_refl _, fun h => absurd h (Nat.lt_irrefl 0)⟩
    · refine bodyPost_ret (v := .agg #[.slice (some ⟨w.heap.size + 1 + 1, 0, none⟩) 0 0, .slice (some ⟨w.heap.size + 1, 0, none⟩) 0 0, .slice none 0 0, .int .i64 0]) (by simp [results, Try.results17, go_sem]) rfl ⟨some ⟨w.heap.size + 1 + 1, 0, none⟩, 0, some ⟨w.heap.size + 1, 0, none⟩, 0, none, 0, [(w.heap.size + 1 + 1, .cells #[] 3), (w.heap.size + 1, .cells #[] 4), (w.heap.size, .cells #[.slice (some ⟨w.heap.size + 1 + 1, 0, none⟩) 0 0, .slice (some ⟨w.heap.size + 1, 0, none⟩) 0 0, .slice none 0 0, .int .i64 0] 29)], ?_, ?_, ?_⟩
      · rw [E1.out]; rfl
      · have := ((((Hv.start w).alloc (.cells #[.slice (some ⟨w.heap.size + 1 + 1, 0, none⟩) 0 0, .slice (some ⟨w.heap.size + 1, 0, none⟩) 0 0, .slice none 0 0, .int .i64 0] 29)).alloc (.cells #[] 4)).alloc (.cells #[] 3)).drew
        simpa only [World.size_alloc] using this
      · refine ⟨?_, ?_, Rw.nil _ _ _⟩
        · rw [E1.out, E2.out]
          exact ⟨rfl, Nat.le_refl _, fun h => absurd h (Nat.lt_irrefl 0)⟩
        · rw [E1.out, E3.out]
          exact ⟨rfl, Nat.le_refl _, fun h => absurd h (Nat.lt_irrefl 0)⟩
  · have d1 : decide (n < 0) = false := decide_eq_false h0
    have d2 : decide (4096 < n) = true := decide_eq_true (by omega)
    clear hn h0
    go_enter Try.func17, Try.ntmps17
    go_wp2_with fail
    go_region
    all_goals go_wp2_with fail
    · refine bodyPost_ret (v := .agg #[.slice (some ⟨w.heap.size + 1, 0, none⟩) 0 0, .slice (some ⟨w.heap.size + 1 + 1, 0, none⟩) 0 0, .slice none 0 0, .int .i64 0]) (by simp [results, Try.results17, go_sem]) rfl ⟨some ⟨w.heap.size + 1, 0, none⟩, 0, some ⟨w.heap.size + 1 + 1, 0, none⟩, 0, none, 0, [(w.heap.size + 1 + 1, .cells #[] 4), (w.heap.size + 1, .cells #[] 3), (w.heap.size, .cells #[.slice (some ⟨w.heap.size + 1, 0, none⟩) 0 0, .slice (some ⟨w.heap.size + 1 + 1, 0, none⟩) 0 0, .slice none 0 0, .int .i64 0] 29)], ?_, ?_, ?_⟩
      · rw [E1.out]; rfl
      · have := ((((Hv.start w).alloc (.cells #[.slice (some ⟨w.heap.size + 1, 0, none⟩) 0 0, .slice (some ⟨w.heap.size + 1 + 1, 0, none⟩) 0 0, .slice none 0 0, .int .i64 0] 29)).alloc (.cells #[] 3)).alloc (.cells #[] 4)).drew
        simpa only [World.size_alloc] using this
      · refine ⟨?_, ?_, Rw.nil _ _ _⟩
        · rw [E1.out, E2.out]
          exact ⟨rfl, Nat.le_refl _, fun h => absurd h (Nat.lt_irrefl 0)⟩
        · rw [E1.out, E3.out]
          exact ⟨rfl, Nat.le_refl _, fun h => absurd h (Nat.lt_irrefl 0)⟩
    · refine bodyPost_ret (v := .agg #[.slice (some ⟨w.heap.size + 1 + 1, 0, none⟩) 0 0, .slice (some ⟨w.heap.size + 1, 0, none⟩) 0 0, .slice none 0 0, .int .i64 0]) (by simp [results, Try.results17, go_sem]) rfl ⟨some ⟨w.heap.size + 1 + 1, 0, none⟩, 0, some ⟨w.heap.size + 1, 0, none⟩, 0, none, 0, [(w.heap.size + 1 + 1, .cells #[] 3), (w.heap.size + 1, .cells #[] 4), (w.heap.size, .cells #[.slice (some ⟨w.heap.size + 1 + 1, 0, none⟩) 0 0, .slice (some ⟨w.heap.size + 1, 0, none⟩) 0 0, .slice none 0 0, .int .i64 0] 29)], ?_, ?_, ?_⟩
      · rw [E1.out]; rfl
      · have := ((((Hv.start w).alloc (.cells #[.slice (some ⟨w.heap.size + 1 + 1, 0, none⟩) 0 0, .slice (some ⟨w.heap.size + 1, 0, none⟩) 0 0, .slice none 0 0, .int .i64 0] 29)).alloc (.cells #[] 4)).alloc (.cells #[] 3)).drew
        simpa only [World.size_alloc] using this
      · refine ⟨?_, ?_, Rw.nil _ _ _⟩
        · rw [E1.out, E2.out]
          exact ⟨rfl, Nat.le_refl _, fun h => absurd h (Nat.lt_irrefl 0)⟩
        · rw [E1.out, E3.out]
          exact ⟨rfl, Nat.le_refl _, fun h => absurd h (Nat.lt_irrefl 0)⟩
theorem new.calls (n : Int) (z : List Value) (w : World) : Calls Try.prog 17 #[.int .i64 n] w (Gives (Ar.new (many n) z) [] w) := by
  unfold many
  by_cases h : n < 0 ∨ n > 4096
  · rw [if_pos h]
    exact new0.calls n h z w
  · rw [if_neg h]
    have := new1.calls n.toNat (by omega) z w
    rwa [show ((n.toNat : Nat) : Int) = n by omega] at this

/-! ### Live -/
theorem info33 : (Try.prog.info? 33).map (fun i => (i.zero, i.size, i.bytes)) = some (some (.agg #[.int .i64 0, .int .i64 0]), 2, 16) := by kernel_rfl
def Lives (s : Ar) (w : World) (e : Ending) (w' : World) : Prop := ∃ ad c A, e = .returned (.slice ad s.live.length c) ∧ Gr 33 2 (.slice ad s.live.length c) s.live.length (refs s.live) A ∧ Hv w w' A
set_option maxHeartbeats 8000000 in
set_option maxRecDepth 100000 in
theorem live.calls (hv : Hv w0 w L) (h : RfA L s a1 c1 a2 c2 a3 c3) (hn : s.n ≤ 4096) : Calls Try.prog 30 #[.agg #[.slice a1 s.n c1, .slice a2 s.n c2, .slice a3 s.back.length c3, .int .i64 s.ever]] w (Lives s w) := by
  have hu29 := Try.underlying29
  have D1 := Aside0.mk (h.g.rd hv)
  have D2 := Aside0.mk (h.t.rd hv)
  have H0 := Aside0.mk ((Hv.start w).alloc (.cells #[.slice a1 s.n c1, .slice a2 s.n c2, .slice a3 s.back.length c3, .int .i64 s.ever] 29))
  clear h hv
  go_enter Try.func30, Try.ntmps30
  go_wp2_with fail
  go_loopw [3, 4] (fun v i wr => ∃ (k : Nat) (A : List Ob), k ≤ s.n ∧ i = .int .i64 (k : Int) ∧ Gr 33 2 v (liveFrom 0 (s.slots.take k)).length (refs (liveFrom 0 (s.slots.take k))) A ∧ Aside0 (Hv w wr (A ++ [cb w.heap.size 29 #[.slice a1 s.n c1, .slice a2 s.n c2, .slice a3 s.back.length c3, .int .i64 s.ever]]))) (fun _ i _ => s.n - (intOf i).toNat)
  case atStart => exact ⟨0, [], Nat.zero_le _, rfl, Gr.nil _ _, ⟨H0.out⟩⟩
  case round =>
    obtain ⟨k, A, hk, rfl, HG, HV⟩ := hrel
    have hll : (liveFrom 0 (s.slots.take k)).length ≤ 4096 := by rw [live_len]; exact Nat.le_trans List.countP_le_length (by rw [List.length_take]; omega)
    obtain ⟨ad, c, rfl, hnc⟩ := HG.form
    have x0 := HV.out.cellM 0 (v := .slice a1 s.n c1) rfl
    have x1 := HV.out.cellM 1 (v := .slice a2 s.n c2) rfl
    by_cases hlt : k < s.n
    · obtain ⟨at_, rfl, hct⟩ := (D2.out.below HV.out.bel).2 (by omega)
      obtain ⟨ag_, rfl, hcg⟩ := (D1.out.below HV.out.bel).2 (by omega)
      have zt := hct k _ (tks_get s k hlt)
      have zg := hcg k _ (gens_get s k hlt)
      have hlt' : (k : Int) < (s.n : Int) := by omega
      have HG1 := Aside0.mk HG
      have HL1 := Aside0.mk hll
      clear HG hnc hct hcg
      cases htk : (s.slot (k : Int)).taken with
      | true =>
        rw [htk] at zt
        have HT := Aside0.mk htk
        clear htk
        go_wp2_with (at_builtin; refine append_list (w0 := w) (A := A) (L := [cb w.heap.size 29 #[.slice (some ag_) s.n c1, .slice (some at_) s.n c2, .slice a3 s.back.length c3, .int .i64 s.ever]]) rfl (.tmp 17) (.tmp 25) 31 33 (.agg #[.int .i64 0, .int .i64 0]) 2 16 rfl Try.underlying31 info33 rfl (by decide) (by decide) _ _ _ rfl ⟨wr.heap.size, 0, none⟩ 1 1 [.int .i64 (k : Int), .int .i64 (s.slot (k : Int)).gen] (by simp [Act.eval, Act.put]) rfl (news_new _ _ 33 _ (by simp)) (by intro u hu; simp at hu; rcases hu with rfl | rfl <;> rfl) HG1.out (HV.out.skip _) (by have := HL1.out; omega) ?_; intro v1 w2 A1 hG1 hH1; have HG2 := Aside0.mk hG1; have HH1 := Aside0.mk hH1; clear hG1 hH1)
        go_roundw
        case rel =>
          have e := live_take s k hlt
          rw [HT.out, if_pos rfl] at e
          refine ⟨k + 1, A1, hlt, by go_num, ?_, HH1⟩
          rw [e]
          have := HG2.out
          simpa [refs] using this
        case measure => simp [intOf]; omega
      | false =>
        rw [htk] at zt
        have HT := Aside0.mk htk
        clear htk
        go_wp2_with fail
        go_roundw
        case rel =>
          have e := live_take s k hlt
          rw [HT.out] at e
          simp only [Bool.false_eq_true, if_false, List.append_nil] at e
          refine ⟨k + 1, A, hlt, by go_num, ?_, HV⟩
          rw [e]
          exact HG1.out
        case measure => simp [intOf]; omega
    · have hge : ¬ (k : Int) < (s.n : Int) := by omega
      have hkk : k = s.n := by omega
      have HG1 := Aside0.mk HG
      have HKK := Aside0.mk hkk
      clear HG hnc hkk
      go_wp2_with fail
      go_ret
      have e : s.slots.take k = s.slots := by rw [HKK.out]; exact List.take_length
      have hg := HG1.out
      rw [e] at hg
      exact ⟨ad, c, A, by rw [show s.live = liveFrom 0 (s.slots.take k) by rw [e]; rfl]; rfl, hg, HV.out.left⟩

/-! ### Refs -/
theorem eqA33 (d : Nat) (w : World) (x0 y0 : Int) (x1 y1 : Int) :
    (Op.equalIn (d + 2) 33 (.agg #[.int .i64 x0, .int .i64 x1]) (.agg #[.int .i64 y0, .int .i64 y1])).run Try.prog w = .ok (x0 == y0 && (x1 == y1)) w := by
  refine eqA_of Try.underlying33 (by kernel_rfl) ?_
  refine eqf_cons (by rfl) (by go_simp; rfl) (by go_simp; rfl) (by go_simp) ?_
  exact eqf_last (by rfl) (by go_simp; rfl) (by go_simp; rfl) (by go_simp)
theorem eql33 (x0 y0 x1 y1 : Int) (w : World) : (binOp .eql 33 (.agg #[.int .i64 x0, .int .i64 x1]) (.agg #[.int .i64 y0, .int .i64 y1])).run Try.prog w = .ok (.bool (x0 == y0 && (x1 == y1))) w := by
  simp only [binOp]
  simp [Op.equal, Op.maxDepth, eqA33 9998 w x0 y0 x1 y1]
theorem neq33 (x0 x1 : Int) (w : World) : (binOp .neq 33 (.agg #[.int .i64 x0, .int .i64 x1]) (.agg #[.int .i64 x0, .int .i64 x1])).run Try.prog w = .ok (.bool false) w := by
  simp only [binOp]
  simp [Op.equal, Op.maxDepth, eqA33 9998 w x0 x0 x1 x1]
set_option maxHeartbeats 8000000 in
set_option maxRecDepth 100000 in
theorem refs.calls (l : List (Int × Int)) (hl : l.length ≤ 100000) {b1 b2 : Option Addr} {d1 d2 : Nat} (hv : Hv w0 w L) (h1 : Rw 33 2 L b1 l.length d1 (refs l)) (h2 : Rw 33 2 L b2 l.length d2 (refs l)) :
    Calls Try.prog 28 #[.slice b1 l.length d1, .slice b2 l.length d2] w fun e w' => e = .returned (.bool true) ∧ Drawn0 w w' := by
  have hu33 := Try.underlying33
  have H1 := Aside0.mk h1
  have H2 := Aside0.mk h2
  have HV := Aside0.mk hv
  clear h1 h2 hv
  go_enter Try.func28, Try.ntmps28
  go_wp2_with fail
  go_loopw [5] (fun i wr => ∃ (k : Nat), k ≤ l.length ∧ i = .int .i64 (k : Int) ∧ Drawn0 w wr) (fun i _ => l.length - (intOf i).toNat)
  case atStart => exact ⟨0, Nat.zero_le _, rfl, Drawn0.refl _⟩
  case round =>
    obtain ⟨k, hk, rfl, ⟨⟨m, rfl⟩⟩⟩ := hrel
    by_cases hlt : k < l.length
    · obtain ⟨g1, o1, rfl, hc1, _, _⟩ := H1.out.at_ HV.out (by omega)
      obtain ⟨g2, o2, rfl, hc2, _, _⟩ := H2.out.at_ HV.out (by omega)
      obtain ⟨q, hq⟩ : ∃ q, l[k]? = some q := ⟨_, List.getElem?_eq_getElem hlt⟩
      have hr := refs_get l k q hq
      have z0 := hc1 (k * 2) _ hr.1
      have z1 := hc1 (k * 2 + 1) _ hr.2
      have y0 := hc2 (k * 2) _ hr.1
      have y1 := hc2 (k * 2 + 1) _ hr.2
      rw [← Nat.add_assoc] at z1 y1
      have hne := neq33 q.1 q.2
      have hlt' : (k : Int) < (l.length : Int) := by omega
      clear hc1 hc2 hq hr
      go_wp2_with fail
      go_quiet (fail)
      go_wp2_with fail
      go_roundw
      case rel => exact ⟨k + 1, hlt, by go_num, ⟨⟨_, rfl⟩⟩⟩
      case measure => simp [intOf]; omega
    · have hge : ¬ (k : Int) < (l.length : Int) := by omega
      go_wp2_with fail
      go_ret
      exact ⟨rfl, ⟨⟨m, rfl⟩⟩⟩

/-! ### Take -/
/-- An arena as a value, a ref, an error. -/
def Takes (s : Ar) (a b er : Int) (L : List Ob) (w : World) (e : Ending) (w' : World) : Prop :=
  ∃ b1 d1 b2 d2 b3 d3 R, e = .returned (.tuple #[.agg #[.slice b1 s.n d1, .slice b2 s.n d2, .slice b3 s.back.length d3, .int .i64 s.ever], .agg #[.int .i64 a, .int .i64 b], .int .i64 er]) ∧ Hv w w' R ∧ RfA (R ++ L) s b1 d1 b2 d2 b3 d3
set_option maxHeartbeats 8000000 in
set_option maxRecDepth 100000 in
theorem take0.calls (hv : Hv w0 w L) (h : RfA L s a1 c1 a2 c2 a3 c3) (hn : s.n ≤ 4096) (hr : s.room = 0) : Calls Try.prog 21 #[.agg #[.slice a1 s.n c1, .slice a2 s.n c2, .slice a3 s.back.length c3, .int .i64 s.ever]] w (Takes s 0 0 20 L w) := by
  have hu29 := Try.underlying29
  have hu33 := Try.underlying33
  have H3 := Aside0.mk ((((Hv.start w).alloc (.cells #[.slice a1 s.n c1, .slice a2 s.n c2, .slice a3 s.back.length c3, .int .i64 s.ever] 29)).alloc (.cells #[.slice none 0 0, .slice none 0 0, .slice none 0 0, .int .i64 0] 29)).alloc (.cells #[.int .i64 0, .int .i64 0] 33))
  have HR := Aside0.mk h
  have HV := Aside0.mk hv
  have HN := Aside0.mk hn
  clear h hv hn
  go_enter Try.func21, Try.ntmps21
  go_wp2_with fail
  refine (room.calls (HV.out.call H3.out.bel) HR.out HN.out).mono ?_
  rintro e1 w1 ⟨rfl, hb⟩
  simp only [hr]
  have H4 := Aside0.mk (H3.out.call hb)
  have hq := H4.out
  simp only [World.size_alloc] at hq
  obtain ⟨x0, x1, x2, x3, u0, u1, u2, u3⟩ := hq.c4 w.heap.size 29 (.slice a1 s.n c1) (.slice a2 s.n c2) (.slice a3 s.back.length c3) (.int .i64 s.ever) (by simp)
  obtain ⟨y0, y1, y2, y3, v0, v1, v2, v3⟩ := hq.c4 (w.heap.size + 1) 29 (.slice none 0 0) (.slice none 0 0) (.slice none 0 0) (.int .i64 0) (by simp)
  obtain ⟨z0, z1, t0, t1⟩ := hq.c2 (w.heap.size + 1 + 1) 33 (.int .i64 0) (.int .i64 0) (by simp)
  have HQ := Aside0.mk hq
  clear hq hb
  go_wp2_with fail
  have Q := (((((HQ.out.put1 0 (.slice a1 s.n c1) rfl).put1 1 (.slice a2 s.n c2) rfl).put1 2 (.slice a3 s.back.length c3) rfl).put1 3 (.int .i64 s.ever) rfl).put0 0 (.int .i64 0) rfl).put0 1 (.int .i64 0) rfl
  exact bodyPost_ret (v := .tuple #[.agg #[.slice a1 s.n c1, .slice a2 s.n c2, .slice a3 s.back.length c3, .int .i64 s.ever], .agg #[.int .i64 0, .int .i64 0], .int .i64 20]) (by simp [results, Try.results21, go_sem, y0, y1, y2, y3, z0, z1]) rfl ⟨a1, c1, a2, c2, a3, c3, _, rfl, Q, HR.out.right _⟩

end Go.Proofs.Ytglbcfkmaamhaaa.R16
