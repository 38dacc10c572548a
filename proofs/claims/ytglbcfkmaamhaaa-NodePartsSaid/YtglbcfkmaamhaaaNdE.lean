/- node: Find, Child, kid. No condition. -/
import Derived.Test.YtglbcfkmaamhaaaNdD
set_option linter.unusedVariables false
set_option linter.unusedSimpArgs false
namespace Go.Proofs.Ytglbcfkmaamhaaa.Nd
open Go Go.RowKit Go.Proofs.YtglbcfkmaamhaaaW.PrintWords Go.Proofs.YtglbcfkmaamhaaaW.PrintLast Go.Proofs.YtglbcfkmaamhaaaW.PrintMore Go.Proofs.Ytglbcfkmaamhaaa.Hv
variable {w0 w w1 : World} {g : Nat} {L L' : List Ob}
/-- Not too great, its keys rise. -/
structure Ok (n : Nd) : Prop where
  k : n.keys.length ≤ 1000000
  r : n.refs.length ≤ 1000000
  a : Asc n.keys
def Nd.find (n : Nd) (k : ByteArray) : Nat × Bool := if n.leaf && (n.keys.length == n.refs.length) then (plc k n.keys, fnd k n.keys) else (0, false)
def Nd.child (n : Nd) (k : ByteArray) : Nat := if !n.leaf && n.shape then plc k n.keys + (if fnd k n.keys then 1 else 0) else 0
def Nd.kid (n : Nd) (i : Int) : Bool := !n.leaf && n.shape && decide (0 ≤ i) && decide (i < n.refs.length)
set_option maxHeartbeats 8000000 in
set_option maxRecDepth 100000 in
theorem find.calls (hv : Hv w0 w L) {n : Nd} {v : Value} (hn : NV w0 L n v) (ho : Ok n) (k : ByteArray) :
    Calls Try.prog 38 #[v, .string k] w fun e w' => e = .returned (.tuple #[.int .i64 ((n.find k).1 : Int), .bool (n.find k).2]) ∧ Hv w0 w' L := by
  have hu59 := Try.underlying59
  have hu57 := Try.underlying57
  obtain ⟨ka, kc, ra, rc, rfl, hr⟩ := hn
  have HV := Aside0.mk (hv.alloc (.cells #[.bool n.leaf, .int .i64 n.ver, .slice ka n.keys.length kc, .slice ra n.refs.length rc] 59))
  obtain ⟨y0, y1, y2, y3, -, -, -, -⟩ := HV.out.c4 w.heap.size 59 (.bool n.leaf) (.int .i64 n.ver) (.slice ka n.keys.length kc) (.slice ra n.refs.length rc) List.mem_cons_self
  have HR := Aside0.mk (hr.mono (L' := (w.heap.size, Obj.cells #[.bool n.leaf, .int .i64 n.ver, .slice ka n.keys.length kc, .slice ra n.refs.length rc] 59) :: L) (fun p hp => List.mem_cons_of_mem _ hp))
  have HO := Aside0.mk ho
  have HB := Aside0.mk (show n.refs.length < 4611686018427387904 by have := ho.r; omega)
  clear hv hr ho
  unfold nval
  cases hb : (n.leaf && (n.keys.length == n.refs.length))
  · have HF := Aside0.mk (show n.find k = (0, false) by unfold Nd.find; rw [hb]; rfl)
    go_enter Try.func38, Try.ntmps38
    go_wp2_with (go_at_call 94; go_loud (refine (leaf.calls HV.out n.leaf n.ver ka ra n.keys.length kc n.refs.length rc HB.out).mono ?_); rw [hb]; rintro e2 w2 ⟨rfl, h2⟩; have H2 := Aside0.mk h2; clear h2)
    exact bodyPost_ret (v := .tuple #[.int .i64 0, .bool false]) (by simp [results, Try.results38, go_sem]) rfl ⟨by rw [HF.out]; rfl, H2.out.tail⟩
  · have HF := Aside0.mk (show n.find k = (plc k n.keys, fnd k n.keys) by unfold Nd.find; rw [hb]; rfl)
    go_enter Try.func38, Try.ntmps38
    go_wp2_with (first | (go_at_call 94; go_loud (refine (leaf.calls HV.out n.leaf n.ver ka ra n.keys.length kc n.refs.length rc HB.out).mono ?_); rw [hb]; rintro e2 w2 ⟨rfl, h2⟩; have H2 := Aside0.mk h2; clear y0 y1 y2 y3; obtain ⟨y0, y1, y2, y3, -, -, -, -⟩ := h2.c4 w.heap.size 59 (.bool n.leaf) (.int .i64 n.ver) (.slice ka n.keys.length kc) (.slice ra n.refs.length rc) List.mem_cons_self; clear h2) | (go_at_call 95; go_loud (refine (bs.calls H2.out n.keys HR.out.k HO.out.k HO.out.a k).mono ?_); rintro e3 w3 ⟨rfl, h3⟩; have H3 := Aside0.mk h3; clear h3))
    exact bodyPost_ret (v := .tuple #[.int .i64 (plc k n.keys : Int), .bool (fnd k n.keys)]) (by simp [results, Try.results38, go_sem]) rfl ⟨by rw [HF.out], H3.out.tail⟩
set_option maxHeartbeats 8000000 in
set_option maxRecDepth 100000 in
theorem child.calls (hv : Hv w0 w L) {n : Nd} {v : Value} (hn : NV w0 L n v) (ho : Ok n) (k : ByteArray) :
    Calls Try.prog 40 #[v, .string k] w fun e w' => e = .returned (.int .i64 (n.child k : Int)) ∧ Hv w0 w' L := by
  have hu59 := Try.underlying59
  have hu57 := Try.underlying57
  obtain ⟨ka, kc, ra, rc, rfl, hr⟩ := hn
  have HV := Aside0.mk (hv.alloc (.cells #[.bool n.leaf, .int .i64 n.ver, .slice ka n.keys.length kc, .slice ra n.refs.length rc] 59))
  obtain ⟨y0, y1, y2, y3, -, -, -, -⟩ := HV.out.c4 w.heap.size 59 (.bool n.leaf) (.int .i64 n.ver) (.slice ka n.keys.length kc) (.slice ra n.refs.length rc) List.mem_cons_self
  have HR := Aside0.mk (hr.mono (L' := (w.heap.size, Obj.cells #[.bool n.leaf, .int .i64 n.ver, .slice ka n.keys.length kc, .slice ra n.refs.length rc] 59) :: L) (fun p hp => List.mem_cons_of_mem _ hp))
  have HO := Aside0.mk ho
  have HB := Aside0.mk (show n.refs.length < 4611686018427387904 by have := ho.r; omega)
  have hpl : plc k n.keys ≤ 1000000 := Nat.le_trans (plc_le k n.keys) ho.k
  clear hv hr ho
  unfold nval
  cases hf : n.leaf
  · cases hb : n.shape
    · have HF := Aside0.mk (show n.child k = 0 by unfold Nd.child; rw [hb, hf]; rfl)
      have hb' : shp false n.keys.length n.refs.length = false := by unfold Nd.shape at hb; rw [hf] at hb; exact hb
      rw [hf] at HV y0
      clear hb
      go_enter Try.func40, Try.ntmps40
      go_wp2_with (go_at_call 93; go_loud (refine (shape.calls HV.out false n.ver ka ra n.keys.length kc n.refs.length rc HB.out).mono ?_); rw [hb']; rintro e2 w2 ⟨rfl, h2⟩; have H2 := Aside0.mk h2; clear h2)
      exact bodyPost_ret (v := .int .i64 0) (by simp [results, Try.results40, go_sem]) rfl ⟨by rw [HF.out]; rfl, H2.out.tail⟩
    · have HF := Aside0.mk (show n.child k = plc k n.keys + (if fnd k n.keys then 1 else 0) by unfold Nd.child; rw [hb, hf]; rfl)
      have hb' : shp false n.keys.length n.refs.length = true := by unfold Nd.shape at hb; rw [hf] at hb; exact hb
      rw [hf] at HV y0 HR
      clear hb
      cases hq : fnd k n.keys
      · go_enter Try.func40, Try.ntmps40
        go_wp2_with (first | (go_at_call 93; go_loud (refine (shape.calls HV.out false n.ver ka ra n.keys.length kc n.refs.length rc HB.out).mono ?_); rw [hb']; rintro e2 w2 ⟨rfl, h2⟩; have H2 := Aside0.mk h2; clear y0 y1 y2 y3; obtain ⟨y0, y1, y2, y3, -, -, -, -⟩ := h2.c4 w.heap.size 59 (.bool false) (.int .i64 n.ver) (.slice ka n.keys.length kc) (.slice ra n.refs.length rc) List.mem_cons_self; clear h2) | (go_at_call 95; go_loud (refine (bs.calls H2.out n.keys HR.out.k HO.out.k HO.out.a k).mono ?_); rw [hq]; rintro e3 w3 ⟨rfl, h3⟩; have H3 := Aside0.mk h3; clear h3))
        exact bodyPost_ret (v := .int .i64 (plc k n.keys : Int)) (by simp [results, Try.results40, go_sem]) rfl ⟨by rw [HF.out, hq]; rfl, H3.out.tail⟩
      · have ew : IntKind.i64.wrap ((plc k n.keys : Int) + 1) = (plc k n.keys : Int) + 1 := by rw [IntKind.wrap_i64]; omega
        have ew' : wrap64 ((plc k n.keys : Int) + 1) = (plc k n.keys : Int) + 1 := by unfold wrap64; omega
        go_enter Try.func40, Try.ntmps40
        go_wp2_with (first | (go_at_call 93; go_loud (refine (shape.calls HV.out false n.ver ka ra n.keys.length kc n.refs.length rc HB.out).mono ?_); rw [hb']; rintro e2 w2 ⟨rfl, h2⟩; have H2 := Aside0.mk h2; clear y0 y1 y2 y3; obtain ⟨y0, y1, y2, y3, -, -, -, -⟩ := h2.c4 w.heap.size 59 (.bool false) (.int .i64 n.ver) (.slice ka n.keys.length kc) (.slice ra n.refs.length rc) List.mem_cons_self; clear h2) | (go_at_call 95; go_loud (refine (bs.calls H2.out n.keys HR.out.k HO.out.k HO.out.a k).mono ?_); rw [hq]; rintro e3 w3 ⟨rfl, h3⟩; have H3 := Aside0.mk h3; clear h3))
        exact bodyPost_ret (v := .int .i64 ((plc k n.keys : Int) + 1)) (by simp [results, Try.results40, go_sem]) rfl ⟨by rw [HF.out, hq]; simp, H3.out.tail⟩
  · have HF := Aside0.mk (show n.child k = 0 by unfold Nd.child; rw [hf]; rfl)
    rw [hf] at HV y0
    go_enter Try.func40, Try.ntmps40
    go_wp2_with fail
    exact bodyPost_ret (v := .int .i64 0) (by simp [results, Try.results40, go_sem]) rfl ⟨by rw [HF.out]; rfl, HV.out.tail⟩
set_option maxHeartbeats 8000000 in
set_option maxRecDepth 100000 in
theorem kid.calls (hv : Hv w0 w L) (n : Nd) (ka ra : Option Addr) (kc rc : Nat) (i : Int) (hr : n.refs.length < 4611686018427387904) :
    Calls Try.prog 103 #[nval n ka kc ra rc, .int .i64 i] w fun e w' => e = .returned (.bool (n.kid i)) ∧ Hv w0 w' L := by
  have hu59 := Try.underlying59
  have hu31 := Try.underlying31
  have HV := Aside0.mk (hv.alloc (.cells #[.bool n.leaf, .int .i64 n.ver, .slice ka n.keys.length kc, .slice ra n.refs.length rc] 59))
  obtain ⟨y0, y1, y2, y3, -, -, -, -⟩ := HV.out.c4 w.heap.size 59 (.bool n.leaf) (.int .i64 n.ver) (.slice ka n.keys.length kc) (.slice ra n.refs.length rc) List.mem_cons_self
  have HB := Aside0.mk hr
  clear hv hr
  unfold nval
  cases hf : n.leaf
  · rw [hf] at HV y0
    cases hb : n.shape
    · have hb' : shp false n.keys.length n.refs.length = false := by unfold Nd.shape at hb; rw [hf] at hb; exact hb
      have HF := Aside0.mk (show n.kid i = false by unfold Nd.kid; rw [hb]; simp)
      clear hb
      go_enter Try.func103, Try.ntmps103
      go_wp2_with (go_at_call 93; go_loud (refine (shape.calls HV.out false n.ver ka ra n.keys.length kc n.refs.length rc HB.out).mono ?_); rw [hb']; rintro e2 w2 ⟨rfl, h2⟩; have H2 := Aside0.mk h2; clear h2)
      exact bodyPost_ret (v := .bool false) (by simp [results, Try.results103, go_sem]) rfl ⟨by rw [HF.out], H2.out.tail⟩
    · have hb' : shp false n.keys.length n.refs.length = true := by unfold Nd.shape at hb; rw [hf] at hb; exact hb
      by_cases h0 : 0 ≤ i
      · have h0' : decide (i ≥ 0) = true := decide_eq_true h0
        by_cases h1 : i < (n.refs.length : Int)
        · have h1' : decide (i < (n.refs.length : Int)) = true := decide_eq_true h1
          have HF := Aside0.mk (show n.kid i = true by unfold Nd.kid; rw [hb, hf]; simp [h0, h1])
          clear hb h0 h1
          go_enter Try.func103, Try.ntmps103
          go_wp2_with (go_at_call 93; go_loud (refine (shape.calls HV.out false n.ver ka ra n.keys.length kc n.refs.length rc HB.out).mono ?_); rw [hb']; rintro e2 w2 ⟨rfl, h2⟩; have H2 := Aside0.mk h2; clear y0 y1 y2 y3; obtain ⟨y0, y1, y2, y3, -, -, -, -⟩ := h2.c4 w.heap.size 59 (.bool false) (.int .i64 n.ver) (.slice ka n.keys.length kc) (.slice ra n.refs.length rc) List.mem_cons_self; clear h2)
          exact bodyPost_ret (v := .bool true) (by simp [results, Try.results103, go_sem]) rfl ⟨by rw [HF.out], H2.out.tail⟩
        · have h1' : decide (i < (n.refs.length : Int)) = false := decide_eq_false h1
          have HF := Aside0.mk (show n.kid i = false by unfold Nd.kid; rw [hb, hf]; simp [h1])
          clear hb h0 h1
          go_enter Try.func103, Try.ntmps103
          go_wp2_with (go_at_call 93; go_loud (refine (shape.calls HV.out false n.ver ka ra n.keys.length kc n.refs.length rc HB.out).mono ?_); rw [hb']; rintro e2 w2 ⟨rfl, h2⟩; have H2 := Aside0.mk h2; clear y0 y1 y2 y3; obtain ⟨y0, y1, y2, y3, -, -, -, -⟩ := h2.c4 w.heap.size 59 (.bool false) (.int .i64 n.ver) (.slice ka n.keys.length kc) (.slice ra n.refs.length rc) List.mem_cons_self; clear h2)
          exact bodyPost_ret (v := .bool false) (by simp [results, Try.results103, go_sem]) rfl ⟨by rw [HF.out], H2.out.tail⟩
      · have h0' : decide (i ≥ 0) = false := decide_eq_false h0
        have HF := Aside0.mk (show n.kid i = false by unfold Nd.kid; simp [h0])
        clear hb h0
        go_enter Try.func103, Try.ntmps103
        go_wp2_with (go_at_call 93; go_loud (refine (shape.calls HV.out false n.ver ka ra n.keys.length kc n.refs.length rc HB.out).mono ?_); rw [hb']; rintro e2 w2 ⟨rfl, h2⟩; have H2 := Aside0.mk h2; clear h2)
        exact bodyPost_ret (v := .bool false) (by simp [results, Try.results103, go_sem]) rfl ⟨by rw [HF.out], H2.out.tail⟩
  · have HF := Aside0.mk (show n.kid i = false by unfold Nd.kid; rw [hf]; rfl)
    rw [hf] at HV y0
    go_enter Try.func103, Try.ntmps103
    go_wp2_with fail
    exact bodyPost_ret (v := .bool false) (by simp [results, Try.results103, go_sem]) rfl ⟨by rw [HF.out], HV.out.tail⟩
end Go.Proofs.Ytglbcfkmaamhaaa.Nd
