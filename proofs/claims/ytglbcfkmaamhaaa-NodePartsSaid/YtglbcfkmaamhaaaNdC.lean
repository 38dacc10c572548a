/- node: shape, leaf, kid, Size. No condition. -/
import Derived.Test.YtglbcfkmaamhaaaNdB
set_option linter.unusedVariables false
set_option linter.unusedSimpArgs false
namespace Go.Proofs.Ytglbcfkmaamhaaa.Nd
open Go Go.RowKit Go.Proofs.YtglbcfkmaamhaaaW.PrintWords Go.Proofs.YtglbcfkmaamhaaaW.PrintLast Go.Proofs.YtglbcfkmaamhaaaW.PrintMore Go.Proofs.Ytglbcfkmaamhaaa.Hv
variable {w0 w w1 : World} {g : Nat} {L L' : List Ob}
abbrev Rf := Int × Int
/-- A node. -/
structure Nd where
  leaf : Bool
  ver : Int
  keys : List ByteArray
  refs : List Rf
def rcel (r : Rf) : List Value := [.int .i64 r.1, .int .i64 r.2]
def nval (n : Nd) (ka : Option Addr) (kc : Nat) (ra : Option Addr) (rc : Nat) : Value := .agg #[.bool n.leaf, .int .i64 n.ver, .slice ka n.keys.length kc, .slice ra n.refs.length rc]
/-- Its rows read so. -/
structure NR (w0 : World) (L : List Ob) (n : Nd) (ka : Option Addr) (kc : Nat) (ra : Option Addr) (rc : Nat) : Prop where
  k : Rdy 1 w0 L ka n.keys.length (n.keys.map Value.string)
  r : Rdy 2 w0 L ra n.refs.length (n.refs.flatMap rcel)
  kc : n.keys.length ≤ kc
  rc : n.refs.length ≤ rc
theorem NR.mono {n : Nd} {ka ra : Option Addr} {kc rc : Nat} (h : NR w0 L n ka kc ra rc) (hL : ∀ p ∈ L, p ∈ L') : NR w0 L' n ka kc ra rc := ⟨h.k.mono hL, h.r.mono hL, h.kc, h.rc⟩
def NV (w0 : World) (L : List Ob) (n : Nd) (v : Value) : Prop := ∃ ka kc ra rc, v = nval n ka kc ra rc ∧ NR w0 L n ka kc ra rc
theorem NV.mono {n : Nd} {v : Value} (h : NV w0 L n v) (hL : ∀ p ∈ L, p ∈ L') : NV w0 L' n v := by
  obtain ⟨ka, kc, ra, rc, e, h1⟩ := h
  exact ⟨ka, kc, ra, rc, e, h1.mono hL⟩
def shp (lf : Bool) (kl rl : Nat) : Bool := if lf then kl == rl else decide (0 < rl) && kl + 1 == rl
def Nd.shape (n : Nd) : Bool := shp n.leaf n.keys.length n.refs.length
set_option maxHeartbeats 8000000 in
set_option maxRecDepth 100000 in
theorem shape.calls (hv : Hv w0 w L) (lf : Bool) (vr : Int) (ka ra : Option Addr) (kl kc rl rc : Nat) (hr : rl < 4611686018427387904) :
    Calls Try.prog 93 #[.agg #[.bool lf, .int .i64 vr, .slice ka kl kc, .slice ra rl rc]] w fun e w' => e = .returned (.bool (shp lf kl rl)) ∧ Hv w0 w' L := by
  have hu59 := Try.underlying59
  have hu57 := Try.underlying57
  have hu31 := Try.underlying31
  have HV := Aside0.mk (hv.alloc (.cells #[.bool lf, .int .i64 vr, .slice ka kl kc, .slice ra rl rc] 59))
  obtain ⟨y0, y1, y2, y3, -, -, -, -⟩ := HV.out.c4 w.heap.size 59 (.bool lf) (.int .i64 vr) (.slice ka kl kc) (.slice ra rl rc) List.mem_cons_self
  clear hv
  cases lf
  · by_cases h0 : 0 < rl
    · have h0' : ((rl : Int) > 0) := by omega
      have ew : IntKind.i64.wrap ((rl : Int) - 1) = (rl : Int) - 1 := by rw [IntKind.wrap_i64]; omega
      have ew' : wrap64 ((rl : Int) - 1) = (rl : Int) - 1 := by unfold wrap64; omega
      by_cases h1 : kl + 1 = rl
      · have h1' : ((kl : Int) == (rl : Int) - 1) = true := by rw [beq_iff_eq]; omega
        have HS := Aside0.mk (show shp false kl rl = true by simp [shp, h0, h1])
        clear hr h1
        go_enter Try.func93, Try.ntmps93
        go_wp2_with fail
        exact bodyPost_ret (v := .bool true) (by simp [results, Try.results93, go_sem]) rfl ⟨by rw [HS.out], HV.out.tail⟩
      · have h1' : ((kl : Int) == (rl : Int) - 1) = false := by rw [beq_eq_false_iff_ne]; omega
        have HS := Aside0.mk (show shp false kl rl = false by simp [shp, h1])
        clear hr h1
        go_enter Try.func93, Try.ntmps93
        go_wp2_with fail
        exact bodyPost_ret (v := .bool false) (by simp [results, Try.results93, go_sem]) rfl ⟨by rw [HS.out], HV.out.tail⟩
    · have h0' : ¬ ((rl : Int) > 0) := by omega
      have HS := Aside0.mk (show shp false kl rl = false by simp [shp, h0])
      go_enter Try.func93, Try.ntmps93
      go_wp2_with fail
      exact bodyPost_ret (v := .bool false) (by simp [results, Try.results93, go_sem]) rfl ⟨by rw [HS.out], HV.out.tail⟩
  · by_cases h1 : kl = rl
    · have HS := Aside0.mk (show shp true kl rl = true by simp [shp, h1])
      subst h1
      go_enter Try.func93, Try.ntmps93
      go_wp2_with fail
      exact bodyPost_ret (v := .bool true) (by simp [results, Try.results93, go_sem]) rfl ⟨by rw [HS.out], HV.out.tail⟩
    · have h1' : ((kl : Int) == (rl : Int)) = false := by rw [beq_eq_false_iff_ne]; omega
      have HS := Aside0.mk (show shp true kl rl = false by simp [shp, h1])
      go_enter Try.func93, Try.ntmps93
      go_wp2_with fail
      exact bodyPost_ret (v := .bool false) (by simp [results, Try.results93, go_sem]) rfl ⟨by rw [HS.out], HV.out.tail⟩
set_option maxHeartbeats 8000000 in
set_option maxRecDepth 100000 in
theorem leaf.calls (hv : Hv w0 w L) (lf : Bool) (vr : Int) (ka ra : Option Addr) (kl kc rl rc : Nat) (hr : rl < 4611686018427387904) :
    Calls Try.prog 94 #[.agg #[.bool lf, .int .i64 vr, .slice ka kl kc, .slice ra rl rc]] w fun e w' => e = .returned (.bool (lf && (kl == rl))) ∧ Hv w0 w' L := by
  have hu59 := Try.underlying59
  have HV := Aside0.mk (hv.alloc (.cells #[.bool lf, .int .i64 vr, .slice ka kl kc, .slice ra rl rc] 59))
  obtain ⟨y0, y1, y2, y3, -, -, -, -⟩ := HV.out.c4 w.heap.size 59 (.bool lf) (.int .i64 vr) (.slice ka kl kc) (.slice ra rl rc) List.mem_cons_self
  have HR := Aside0.mk hr
  clear hv hr
  cases lf
  · go_enter Try.func94, Try.ntmps94
    go_wp2_with fail
    exact bodyPost_ret (v := .bool false) (by simp [results, Try.results94, go_sem]) rfl ⟨by simp, HV.out.tail⟩
  · go_enter Try.func94, Try.ntmps94
    go_wp2_with (go_at_call 93; go_loud (refine (shape.calls HV.out true vr ka ra kl kc rl rc HR.out).mono ?_); rintro e2 w2 ⟨rfl, h2⟩; have H2 := Aside0.mk h2; clear h2)
    exact bodyPost_ret (v := .bool (shp true kl rl)) (by simp [results, Try.results94, go_sem]) rfl ⟨by simp [shp], H2.out.tail⟩
set_option maxHeartbeats 8000000 in
set_option maxRecDepth 100000 in
theorem size.calls (hv : Hv w0 w L) (lf : Bool) (vr : Int) (ka ra : Option Addr) (kl kc rl rc : Nat) :
    Calls Try.prog 35 #[.agg #[.bool lf, .int .i64 vr, .slice ka kl kc, .slice ra rl rc]] w fun e w' => e = .returned (.int .i64 (rl : Int)) ∧ Hv w0 w' L := by
  have hu59 := Try.underlying59
  have hu31 := Try.underlying31
  have HV := Aside0.mk (hv.alloc (.cells #[.bool lf, .int .i64 vr, .slice ka kl kc, .slice ra rl rc] 59))
  obtain ⟨y0, y1, y2, y3, -, -, -, -⟩ := HV.out.c4 w.heap.size 59 (.bool lf) (.int .i64 vr) (.slice ka kl kc) (.slice ra rl rc) List.mem_cons_self
  clear hv
  go_enter Try.func35, Try.ntmps35
  go_wp2_with fail
  exact bodyPost_ret (v := .int .i64 (rl : Int)) (by simp [results, Try.results35, go_sem]) rfl ⟨rfl, HV.out.tail⟩
end Go.Proofs.Ytglbcfkmaamhaaa.Nd
