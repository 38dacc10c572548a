/- sets.Sets: Own. No condition. -/
import Derived.Test.YtgecokldbkamlaaStB
set_option linter.unusedVariables false
set_option linter.unusedSimpArgs false
namespace Go.Proofs.Ytgecokldbkamlaa.St
open Go Go.RowKit Go.MapKept Go.Proofs.YtgecokldbkamlaaW.PrintWords Go.Proofs.YtgecokldbkamlaaW.PrintLast Go.Proofs.YtgecokldbkamlaaW.PrintMore Go.Proofs.Ytgecokldbkamlaa.Hv Go.Proofs.Ytgecokldbkamlaa.Mk Go.Proofs.Ytgecokldbkamlaa.Ka
variable {w0 w w1 : World} {g : Nat} {s : St} {L L' : List Ob}

theorem zero40 (w : World) : (zeroValue 40).run Try.prog w = .ok (.agg #[Value.string ⟨#[]⟩, .int .i64 0, .int .i64 0, Value.string ⟨#[]⟩, .bool false]) w := by
  have hi : (Try.prog.info? 40).map (fun i => i.zero) = some (some (.agg #[Value.string ⟨#[]⟩, .int .i64 0, .int .i64 0, Value.string ⟨#[]⟩, .bool false])) := by kernel_rfl
  obtain ⟨i, h1, h2⟩ := Option.map_eq_some_iff.1 hi
  simp [zeroValue, typeInfo, h1, h2, Result.andThen]
set_option maxHeartbeats 4000000 in
set_option maxRecDepth 100000 in
/-- What a look-up among the writes gives: v, is. -/
theorem own.any (h : Sts w0 w g s L) (k k' d : ByteArray) (a b : Int) (t is : Bool)
    (hl : ∀ (r : Nat) (ow : Obj), IsM (IsKey .string) ow (s.writes.map wpr) → ∀ W : World, W.heap[r]? = some ow → (Instr.lookup 61 (.map (some r)) (.string k) true).run Try.prog W = .ok (.tuple #[.agg #[.string k', .int .i64 a, .int .i64 b, .string d, .bool t], .bool is]) W) :
    Calls Try.prog 10 #[.pointer (some ⟨g, 0, none⟩), .string k] w fun e w' => e = .returned (.tuple #[.agg #[.string k', .int .i64 a, .int .i64 b, .string d, .bool t], .bool is]) ∧ Sts w0 w' g s L := by
  have hu63 := Try.underlying63
  have hu40 := Try.underlying40
  obtain ⟨mr, ms, mw, or, os, ow, vr, vn, A, B, h1, h2, h3, h4, h5, h6⟩ := h
  have hk1 := h1.alloc (.cells #[Value.string ⟨#[]⟩, .int .i64 0, .int .i64 0, Value.string ⟨#[]⟩, .bool false] 40)
  have hlook := hl mw ow h6
  have hl0 := hlook _ (hk1.box (mw, ow) (by simp))
  have hl1 := hlook _ (hk1.drew.box (mw, ow) (by simp))
  obtain ⟨c0, c1, c2, c3, c4, -, -, -, -, -⟩ := hk1.c5 g 63 vr vn (.map (some mr)) (.map (some ms)) (.map (some mw)) (by simp)
  have hk2 := hk1.alloc (.cells #[.string k', .int .i64 a, .int .i64 b, .string d, .bool t] 40)
  obtain ⟨y0, y1, y2, y3, y4, f0, f1, f2, f3, f4⟩ := hk2.c5 w.heap.size 40 (Value.string ⟨#[]⟩) (.int .i64 0) (.int .i64 0) (Value.string ⟨#[]⟩) (.bool false) (by simp)
  have KK := Aside0.mk (And.intro h2 (And.intro h3 (And.intro h4 (And.intro h5 h6))))
  have HV := Aside0.mk h1
  clear h1 h2 h3 h4 h5 h6 hk1 hk2 hl hlook c0 c1 c2 c3
  go_enter Try.func10, Try.ntmps10
  go_wp2_with fail
  obtain ⟨wf, hw, hf⟩ : ∃ wf, wf = _ ∧ Hv w0 wf (cb w.heap.size 40 #[.string k', .int .i64 a, .int .i64 b, .string d, .bool t] :: (cb g 63 #[vr, vn, .map (some mr), .map (some ms), .map (some mw)] :: (mr, or) :: (ms, os) :: (mw, ow) :: (A ++ (B ++ L)))) := ⟨_, rfl, ((HV.out.alloc (.cells #[.string k', .int .i64 a, .int .i64 b, .string d, .bool t] 40)).alloc (.cells #[.string k', .int .i64 a, .int .i64 b, .string d, .bool t] 40)).tail⟩
  rw [← hw]
  obtain ⟨p0, p1, p2, p3, p4, -, -, -, -, -⟩ := hf.c5 w.heap.size 40 _ _ _ _ _ List.mem_cons_self
  exact bodyPost_ret (v := .tuple #[.agg #[.string k', .int .i64 a, .int .i64 b, .string d, .bool t], .bool is]) (by simp [results, Try.results10, go_sem, p0, p1, p2, p3, p4, hu40]) rfl ⟨rfl, mr, ms, mw, or, os, ow, vr, vn, A, B, hf.tail, KK.out.1, KK.out.2.1, KK.out.2.2.1, KK.out.2.2.2.1, KK.out.2.2.2.2⟩
theorem own.no (h : Sts w0 w g s L) (k : ByteArray) (hn : ∀ x ∈ s.writes, x.1 ≠ k) :
    Calls Try.prog 10 #[.pointer (some ⟨g, 0, none⟩), .string k] w fun e w' => e = .returned (.tuple #[.agg #[Value.string ⟨#[]⟩, .int .i64 0, .int .i64 0, Value.string ⟨#[]⟩, .bool false], .bool false]) ∧ Sts w0 w' g s L :=
  own.any h k _ _ _ _ _ _ fun r ow h6 W hb => by
    have := look_noW (P := Try.prog) (mty := 61) Try.underlying61 klS h6 (keyS k) (w_new hn) (.agg #[Value.string ⟨#[]⟩, .int .i64 0, .int .i64 0, Value.string ⟨#[]⟩, .bool false]) true r W (zero40 W) hb
    simpa using this
theorem own.has (h : Sts w0 w g s L) (k d : ByteArray) (a b : Int) (t : Bool) {l1 l2 : List Wr} (hs : s.writes = l1 ++ (k, (a, b), d, t) :: l2) :
    Calls Try.prog 10 #[.pointer (some ⟨g, 0, none⟩), .string k] w fun e w' => e = .returned (.tuple #[.agg #[.string k, .int .i64 a, .int .i64 b, .string d, .bool t], .bool true]) ∧ Sts w0 w' g s L :=
  own.any h k _ _ _ _ _ _ fun r ow h6 W hb => by
    rw [hs, List.map_append, List.map_cons] at h6
    have := look_hasW (P := Try.prog) (mty := 61) (key := .string k) Try.underlying61 klS h6 (keyS k) true r W hb
    simpa [wval] using this
end Go.Proofs.Ytgecokldbkamlaa.St
