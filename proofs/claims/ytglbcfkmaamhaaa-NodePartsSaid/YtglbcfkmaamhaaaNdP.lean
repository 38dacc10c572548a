/- transomref17: Shape; Texts, Refs, Same at the same. No condition. -/
import Derived.Test.YtglbcfkmaamhaaaNdO
import Derived.Test.YtglbcfkmaamhaaaWEqStruct
set_option linter.unusedVariables false
set_option linter.unusedSimpArgs false
namespace Go.Proofs.Ytglbcfkmaamhaaa.Nd
open Go Go.RowKit Go.Proofs.YtglbcfkmaamhaaaW.PrintWords Go.Proofs.YtglbcfkmaamhaaaW.PrintLast Go.Proofs.YtglbcfkmaamhaaaW.PrintMore Go.Proofs.Ytglbcfkmaamhaaa.Hv
variable {w0 w w1 : World} {g : Nat} {L L' : List Ob}
set_option maxHeartbeats 8000000 in
set_option maxRecDepth 100000 in
theorem rshape.calls (hv : Hv w0 w L) (lf : Bool) (vr : Int) (ka ra : Option Addr) (kl kc rl rc : Nat) (hr : rl < 4611686018427387904) :
    Calls Try.prog 55 #[.agg #[.bool lf, .int .i64 vr, .slice ka kl kc, .slice ra rl rc]] w fun e w' => e = .returned (.bool (shp lf kl rl)) ∧ Hv w0 w' L := by
  have hu59 := Try.underlying59
  have hu57 := Try.underlying57
  have hu31 := Try.underlying31
  have HV := Aside0.mk (hv.alloc (.cells #[.bool lf, .int .i64 vr, .slice ka kl kc, .slice ra rl rc] 59))
  obtain ⟨y0, y1, y2, y3, -, -, -, -⟩ := HV.out.c4 w.heap.size 59 (.bool lf) (.int .i64 vr) (.slice ka kl kc) (.slice ra rl rc) List.mem_cons_self
  clear hv
  cases lf
  · by_cases h0 : 0 < rl
    · have h0' : ((rl : Int) ≥ 1) := by omega
      have ew : IntKind.i64.wrap ((rl : Int) - 1) = (rl : Int) - 1 := by rw [IntKind.wrap_i64]; omega
      have ew' : wrap64 ((rl : Int) - 1) = (rl : Int) - 1 := by unfold wrap64; omega
      by_cases h1 : kl + 1 = rl
      · have h1' : ((kl : Int) == (rl : Int) - 1) = true := by rw [beq_iff_eq]; omega
        have HS := Aside0.mk (show shp false kl rl = true by simp [shp, h0, h1])
        clear hr h1
        go_enter Try.func55, Try.ntmps55
        go_wp2_with fail
        exact bodyPost_ret (v := .bool true) (by simp [results, Try.results55, go_sem]) rfl ⟨by rw [HS.out], HV.out.tail⟩
      · have h1' : ((kl : Int) == (rl : Int) - 1) = false := by rw [beq_eq_false_iff_ne]; omega
        have HS := Aside0.mk (show shp false kl rl = false by simp [shp, h1])
        clear hr h1
        go_enter Try.func55, Try.ntmps55
        go_wp2_with fail
        exact bodyPost_ret (v := .bool false) (by simp [results, Try.results55, go_sem]) rfl ⟨by rw [HS.out], HV.out.tail⟩
    · have h0' : ¬ ((rl : Int) ≥ 1) := by omega
      have HS := Aside0.mk (show shp false kl rl = false by simp [shp, h0])
      go_enter Try.func55, Try.ntmps55
      go_wp2_with fail
      exact bodyPost_ret (v := .bool false) (by simp [results, Try.results55, go_sem]) rfl ⟨by rw [HS.out], HV.out.tail⟩
  · by_cases h1 : kl = rl
    · have HS := Aside0.mk (show shp true kl rl = true by simp [shp, h1])
      subst h1
      go_enter Try.func55, Try.ntmps55
      go_wp2_with fail
      exact bodyPost_ret (v := .bool true) (by simp [results, Try.results55, go_sem]) rfl ⟨by rw [HS.out], HV.out.tail⟩
    · have h1' : ((kl : Int) == (rl : Int)) = false := by rw [beq_eq_false_iff_ne]; omega
      have HS := Aside0.mk (show shp true kl rl = false by simp [shp, h1])
      go_enter Try.func55, Try.ntmps55
      go_wp2_with fail
      exact bodyPost_ret (v := .bool false) (by simp [results, Try.results55, go_sem]) rfl ⟨by rw [HS.out], HV.out.tail⟩
theorem eqA33 (d : Nat) (w : World) (x0 y0 : Int) (x1 y1 : Int) :
    (Op.equalIn (d + 2) 33 (.agg #[.int .i64 x0, .int .i64 x1]) (.agg #[.int .i64 y0, .int .i64 y1])).run Try.prog w = .ok (x0 == y0 && (x1 == y1)) w := by
  refine eqA_of Try.underlying33 (by kernel_rfl) ?_
  refine eqf_cons (by rfl) (by go_simp; rfl) (by go_simp; rfl) (by go_simp) ?_
  exact eqf_last (by rfl) (by go_simp; rfl) (by go_simp; rfl) (by go_simp)
theorem eql33 (x0 y0 x1 y1 : Int) (w : World) : (binOp .eql 33 (.agg #[.int .i64 x0, .int .i64 x1]) (.agg #[.int .i64 y0, .int .i64 y1])).run Try.prog w = .ok (.bool (x0 == y0 && (x1 == y1))) w := by
  simp only [binOp]
  simp [Op.equal, Op.maxDepth, eqA33 9998 w x0 y0 x1 y1]
theorem neq33 (x0 x1 : Int) (w : World) : (binOp .neq 33 (.agg #[.int .i64 x0, .int .i64 x1]) (.agg #[.int .i64 x0, .int .i64 x1])).run Try.prog w = .ok (.bool false) w := by
  simp only [binOp]
  simp [Op.equal, Op.maxDepth, eqA33 9998 w x0 x0 x1 x1]
theorem bb (x : ByteArray) : (x == x) = true := by
  cases x with | mk d =>
  show (d == d) = true
  simp
set_option maxHeartbeats 8000000 in
set_option maxRecDepth 100000 in
theorem texts.calls (l : List ByteArray) (hl : l.length ≤ 1000000) {b1 b2 : Option Addr} {d1 d2 : Nat} (hv : Hv w0 w L) (h1 : Rdy 1 w0 L b1 l.length (l.map Value.string)) (h2 : Rdy 1 w0 L b2 l.length (l.map Value.string)) :
    Calls Try.prog 102 #[.slice b1 l.length d1, .slice b2 l.length d2] w fun e w' => e = .returned (.bool true) ∧ Hv w0 w' L := by
  have hu33 := Try.underlying33
  have H1 := Aside0.mk h1
  have H2 := Aside0.mk h2
  have HV := Aside0.mk hv
  clear h1 h2 hv
  go_enter Try.func102, Try.ntmps102
  go_wp2_with fail
  go_loopw [5] (fun i wr => ∃ (k : Nat), k ≤ l.length ∧ i = .int .i64 (k : Int) ∧ Aside0 (Hv w0 wr L)) (fun i _ => l.length - (intOf i).toNat)
  case atStart => exact ⟨0, Nat.zero_le _, rfl, HV⟩
  case round =>
    obtain ⟨k, hk, rfl, HW⟩ := hrel
    by_cases hlt : k < l.length
    · obtain ⟨g1, ea, hc1⟩ := (H1.out _ _ HW.out (fun x hx => hx)).2 (by omega)
      obtain ⟨g2, eb, hc2⟩ := (H2.out _ _ HW.out (fun x hx => hx)).2 (by omega)
      cases ea
      cases eb
      obtain ⟨q, hq⟩ : ∃ q, l[k]? = some q := ⟨_, List.getElem?_eq_getElem hlt⟩
      have z0 := hc1 k _ (by rw [List.getElem?_map, hq]; rfl : (l.map Value.string)[k]? = some (.string q))
      have z1 := hc2 k _ (by rw [List.getElem?_map, hq]; rfl : (l.map Value.string)[k]? = some (.string q))
      have hbb := bb q
      have hlt' : (k : Int) < (l.length : Int) := by omega
      clear hc1 hc2 hq
      go_wp2_with fail
      go_quiet (fail)
      go_wp2_with fail
      go_roundw
      case rel => exact ⟨k + 1, hlt, by go_num, ⟨HW.out.call (by repeat (first | exact Below.refl _ _ | apply below_drew1 | apply pw_below_drewN))⟩⟩
      case measure => simp [intOf]; omega
    · have hge : ¬ (k : Int) < (l.length : Int) := by omega
      go_wp2_with fail
      go_ret
      exact ⟨rfl, HW.out⟩
set_option maxHeartbeats 8000000 in
set_option maxRecDepth 100000 in
theorem refs.calls (l : List Rf) (hl : l.length ≤ 1000000) {b1 b2 : Option Addr} {d1 d2 : Nat} (hv : Hv w0 w L) (h1 : Rdy 2 w0 L b1 l.length (l.flatMap rcel)) (h2 : Rdy 2 w0 L b2 l.length (l.flatMap rcel)) :
    Calls Try.prog 28 #[.slice b1 l.length d1, .slice b2 l.length d2] w fun e w' => e = .returned (.bool true) ∧ Hv w0 w' L := by
  have hu33 := Try.underlying33
  have H1 := Aside0.mk h1
  have H2 := Aside0.mk h2
  have HV := Aside0.mk hv
  clear h1 h2 hv
  go_enter Try.func28, Try.ntmps28
  go_wp2_with fail
  go_loopw [5] (fun i wr => ∃ (k : Nat), k ≤ l.length ∧ i = .int .i64 (k : Int) ∧ Aside0 (Hv w0 wr L)) (fun i _ => l.length - (intOf i).toNat)
  case atStart => exact ⟨0, Nat.zero_le _, rfl, HV⟩
  case round =>
    obtain ⟨k, hk, rfl, HW⟩ := hrel
    by_cases hlt : k < l.length
    · obtain ⟨g1, ea, hc1⟩ := (H1.out _ _ HW.out (fun x hx => hx)).2 (by omega)
      obtain ⟨g2, eb, hc2⟩ := (H2.out _ _ HW.out (fun x hx => hx)).2 (by omega)
      cases ea
      cases eb
      obtain ⟨q, hq⟩ : ∃ q, l[k]? = some q := ⟨_, List.getElem?_eq_getElem hlt⟩
      obtain ⟨r0, r1⟩ := rcel_get l k q hq
      have z0 := hc1 (k * 2) _ r0
      have z1 := hc1 (k * 2 + 1) _ r1
      have y0 := hc2 (k * 2) _ r0
      have y1 := hc2 (k * 2 + 1) _ r1
      rw [← Addr.add_add] at z1 y1
      have z1' : wr.cell? { block := (g1.add (k * 2)).block, off := (g1.add (k * 2)).off + 1 } = some (.int .i64 q.2) := z1
      have y1' : wr.cell? { block := (g2.add (k * 2)).block, off := (g2.add (k * 2)).off + 1 } = some (.int .i64 q.2) := y1
      have hne := neq33 q.1 q.2
      clear r0 r1 z1 y1
      have hlt' : (k : Int) < (l.length : Int) := by omega
      clear hc1 hc2 hq
      go_wp2_with fail
      go_quiet (fail)
      go_wp2_with fail
      go_roundw
      case rel => exact ⟨k + 1, hlt, by go_num, ⟨HW.out.call (by repeat (first | exact Below.refl _ _ | apply below_drew1 | apply pw_below_drewN))⟩⟩
      case measure => simp [intOf]; omega
    · have hge : ¬ (k : Int) < (l.length : Int) := by omega
      go_wp2_with fail
      go_ret
      exact ⟨rfl, HW.out⟩
set_option maxHeartbeats 8000000 in
set_option maxRecDepth 100000 in
theorem same.calls (hv : Hv w0 w L) {n : Nd} {v v1 : Value} (hn : NV w0 L n v) (hm : NV w0 L n v1) (hk : n.keys.length ≤ 1000000) (hr : n.refs.length ≤ 1000000) :
    Calls Try.prog 46 #[v, v1] w fun e w' => e = .returned (.bool true) ∧ Hv w0 w' L := by
  have hu59 := Try.underlying59
  obtain ⟨ka, kc, ra, rc, rfl, hr0⟩ := hn
  obtain ⟨ka1, kc1, ra1, rc1, rfl, hr1⟩ := hm
  have HV := Aside0.mk (show Hv w0 _ (cb (w.heap.size + 1) 59 #[.bool n.leaf, .int .i64 n.ver, .slice ka1 n.keys.length kc1, .slice ra1 n.refs.length rc1] :: cb w.heap.size 59 #[.bool n.leaf, .int .i64 n.ver, .slice ka n.keys.length kc, .slice ra n.refs.length rc] :: L) by
    have := (hv.alloc (.cells #[.bool n.leaf, .int .i64 n.ver, .slice ka n.keys.length kc, .slice ra n.refs.length rc] 59)).alloc (.cells #[.bool n.leaf, .int .i64 n.ver, .slice ka1 n.keys.length kc1, .slice ra1 n.refs.length rc1] 59)
    simpa [cb] using this)
  have HR := Aside0.mk (And.intro hr0 hr1)
  have HB := Aside0.mk (And.intro hk hr)
  obtain ⟨y0, y1, y2, y3, -, -, -, -⟩ := HV.out.c4 w.heap.size 59 (.bool n.leaf) (.int .i64 n.ver) (.slice ka n.keys.length kc) (.slice ra n.refs.length rc) (by simp)
  obtain ⟨t0, t1, t2, t3, -, -, -, -⟩ := HV.out.c4 (w.heap.size + 1) 59 (.bool n.leaf) (.int .i64 n.ver) (.slice ka1 n.keys.length kc1) (.slice ra1 n.refs.length rc1) (by simp)
  clear hv hr0 hr1 hk hr
  unfold nval
  go_enter Try.func46, Try.ntmps46
  go_wp2_with (first
    | (go_at_call 28; have hx2 := H2.out; clear hx2; go_loud (refine (refs.calls n.refs HB.out.2 H2.out (HR.out.1.r.mono (fun p hp => by simp [hp])) (HR.out.2.r.mono (fun p hp => by simp [hp]))).mono ?_); rintro e3 w3 ⟨rfl, hh⟩; have H3 := Aside0.mk hh; clear hh)
    | (go_at_call 102; go_loud (refine (texts.calls n.keys HB.out.1 HV.out (HR.out.1.k.mono (fun p hp => by simp [hp])) (HR.out.2.k.mono (fun p hp => by simp [hp]))).mono ?_); rintro e2 w2 ⟨rfl, hh⟩; have H2 := Aside0.mk hh; clear y0 y1 y2 y3 t0 t1 t2 t3; obtain ⟨y0, y1, y2, y3, -, -, -, -⟩ := hh.c4 w.heap.size 59 (.bool n.leaf) (.int .i64 n.ver) (.slice ka n.keys.length kc) (.slice ra n.refs.length rc) (by simp); obtain ⟨t0, t1, t2, t3, -, -, -, -⟩ := hh.c4 (w.heap.size + 1) 59 (.bool n.leaf) (.int .i64 n.ver) (.slice ka1 n.keys.length kc1) (.slice ra1 n.refs.length rc1) (by simp); clear hh))
  exact bodyPost_ret (v := .bool true) (by simp [results, Try.results46, go_sem]) rfl ⟨rfl, H3.out.tail.tail⟩
end Go.Proofs.Ytglbcfkmaamhaaa.Nd
