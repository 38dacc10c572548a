/- retire: nil receivers; RetireNone. No condition. -/
import Derived.Test.YtjpfggpcppcpbaaRtD
import Derived.Test.YtjpfggpcppcpbaaRtE
set_option linter.unusedVariables false
set_option linter.unusedSimpArgs false
namespace Go.Proofs.Ytjpfggpcppcpbaa.Rt
open Go Go.RowKit Go.MapKept Go.Proofs.YtjpfggpcppcpbaaW.PrintWords Go.Proofs.YtjpfggpcppcpbaaW.PrintLast Go.Proofs.YtjpfggpcppcpbaaW.PrintMore Go.Proofs.Ytjpfggpcppcpbaa.Hv Go.Proofs.Ytjpfggpcppcpbaa.Mp
variable {w0 w w1 : World} {g m : Nat} {s : Ls} {L L' : List Ob}

/-- A deed: to add?, what, least. -/
abbrev Dd := Bool × Rd × Int
def dcel (d : Dd) : List Value := [.bool d.1, .bool d.2.1.1, .int .i64 d.2.1.2.1, .int .i64 d.2.1.2.2.1, .int .i64 d.2.1.2.2.2, .int .i64 d.2.2]
set_option maxHeartbeats 4000000 in
set_option maxRecDepth 100000 in
theorem addNil.calls (w : World) (b : Bool) (x0 x1 x2 : Int) : Calls Try.prog 8 #[.pointer none, .agg #[.bool b, .int .i64 x0, .int .i64 x1, .int .i64 x2]] w fun e w' => e = .returned (.tuple #[]) ∧ Below w.heap.size w w' := by
  have hu24 := Try.underlying24
  have hu30 := Try.underlying30
  go_enter Try.func8, Try.ntmps8
  go_wp2_with fail
  exact bodyPost_ret (v := .tuple #[]) (by simp [results, Try.results8, go_sem]) rfl ⟨rfl, by repeat (first | exact Below.refl _ _ | apply pw_below_drewN | apply below_drew1 | apply below_alloc | (refine Below.setCell ?_ (by simp) _))⟩
set_option maxHeartbeats 4000000 in
set_option maxRecDepth 100000 in
theorem lenNil.calls (w : World) : Calls Try.prog 12 #[.pointer none] w fun e w' => e = .returned (.int .i64 0) ∧ Below w.heap.size w w' := by
  have hu24 := Try.underlying24
  go_enter Try.func12, Try.ntmps12
  go_wp2_with fail
  exact bodyPost_ret (v := .int .i64 0) (by simp [results, Try.results12, go_sem]) rfl ⟨rfl, by repeat (first | exact Below.refl _ _ | apply pw_below_drewN | apply below_drew1 | apply below_alloc)⟩
set_option maxHeartbeats 4000000 in
set_option maxRecDepth 100000 in
theorem allNil.calls (w : World) : Calls Try.prog 14 #[.pointer none] w fun e w' => e = .returned (.slice none 0 0) ∧ Below w.heap.size w w' := by
  have hu24 := Try.underlying24
  go_enter Try.func14, Try.ntmps14
  go_wp2_with fail
  exact bodyPost_ret (v := .slice none 0 0) (by simp [results, Try.results14, go_sem]) rfl ⟨rfl, by repeat (first | exact Below.refl _ _ | apply pw_below_drewN | apply below_drew1 | apply below_alloc)⟩
set_option maxHeartbeats 4000000 in
set_option maxRecDepth 100000 in
theorem nextNil.calls (w : World) (least : Int) : Calls Try.prog 9 #[.pointer none, .int .i64 least] w fun e w' => e = .returned (.tuple #[.agg #[.bool false, .int .i64 0, .int .i64 0, .int .i64 0], .bool false]) ∧ Below w.heap.size w w' := by
  have hu24 := Try.underlying24
  have hu30 := Try.underlying30
  go_enter Try.func9, Try.ntmps9
  go_wp2_with fail
  refine bodyPost_ret (v := .tuple #[.agg #[.bool false, .int .i64 0, .int .i64 0, .int .i64 0], .bool false]) (by simp [results, Try.results9, go_sem, hu30]) rfl ⟨rfl, by repeat (first | exact Below.refl _ _ | apply pw_below_drewN | apply below_drew1 | apply below_alloc | (refine Below.setCell ?_ (by simp) _))⟩

set_option maxHeartbeats 8000000 in
set_option maxRecDepth 100000 in
theorem none.calls (W : World) (ad b : Bool) (x0 x1 x2 least : Int) : Calls Try.prog 5 #[.agg #[.bool ad, .bool b, .int .i64 x0, .int .i64 x1, .int .i64 x2, .int .i64 least]] W fun e w' => e = .returned (.bool true) ∧ Below W.heap.size W w' := by
  have hu24 := Try.underlying24
  have hu30 := Try.underlying30
  have hu36 := Try.underlying36
  have hu22 := Try.underlying22
  have heql := eql30 false 0 0 0
  have h0 := (Hv.start W).alloc (.cells #[.bool ad, .bool b, .int .i64 x0, .int .i64 x1, .int .i64 x2, .int .i64 least] 36)
  have hm : (W.heap.size, Obj.cells #[.bool ad, .bool b, .int .i64 x0, .int .i64 x1, .int .i64 x2, .int .i64 least] 36) ∈ [(W.heap.size, Obj.cells #[.bool ad, .bool b, .int .i64 x0, .int .i64 x1, .int .i64 x2, .int .i64 least] 36)] := by simp
  have z0 := h0.cell (g := W.heap.size) (t := 36) (cs := #[.bool ad, .bool b, .int .i64 x0, .int .i64 x1, .int .i64 x2, .int .i64 least]) (by simp) 1 rfl
  have z1 := h0.cell (g := W.heap.size) (t := 36) (cs := #[.bool ad, .bool b, .int .i64 x0, .int .i64 x1, .int .i64 x2, .int .i64 least]) (by simp) 2 rfl
  have z2 := h0.cell (g := W.heap.size) (t := 36) (cs := #[.bool ad, .bool b, .int .i64 x0, .int .i64 x1, .int .i64 x2, .int .i64 least]) (by simp) 3 rfl
  have z3 := h0.cell (g := W.heap.size) (t := 36) (cs := #[.bool ad, .bool b, .int .i64 x0, .int .i64 x1, .int .i64 x2, .int .i64 least]) (by simp) 4 rfl
  have H0 := Aside0.mk h0
  clear h0 hm
  go_enter Try.func5, Try.ntmps5
  go_wp2_with fail
  refine (addNil.calls _ b x0 x1 x2).mono ?_
  rintro e1 w1 ⟨rfl, hb1⟩
  have h1 := H0.out.call hb1
  have z4 := h1.cell (g := W.heap.size) (t := 36) (cs := #[.bool ad, .bool b, .int .i64 x0, .int .i64 x1, .int .i64 x2, .int .i64 least]) (by simp) 5 rfl
  have H1 := Aside0.mk h1
  clear z0 z1 z2 z3 hb1 h1
  go_wp2_with fail
  refine (nextNil.calls _ least).mono ?_
  rintro e2 w2 ⟨rfl, hb2⟩
  have h2 := (H1.out.call hb2).alloc (.cells #[.bool false, .int .i64 0, .int .i64 0, .int .i64 0] 30)
  obtain ⟨y0, y1, y2, y3, -, -, -, -⟩ := h2.c4 w2.heap.size 30 _ _ _ _ List.mem_cons_self
  have H2 := Aside0.mk h2
  clear z4 hb2 h2
  go_wp2_with fail
  refine (allNil.calls _).mono ?_
  rintro e3 w3 ⟨rfl, hb3⟩
  have H3 := Aside0.mk (H2.out.call hb3)
  clear hb3 y0 y1 y2 y3
  go_wp2_with fail
  refine (lenNil.calls _).mono ?_
  rintro e4 w4 ⟨rfl, hb4⟩
  have H4 := Aside0.mk (H3.out.call hb4)
  clear hb4
  go_wp2_with fail
  refine (awake.calls _).mono ?_
  rintro e5 w5 ⟨rfl, hb5⟩
  have H5 := Aside0.mk (H4.out.call hb5)
  clear hb5
  go_wp2_with fail
  exact bodyPost_ret (v := .bool true) (by simp [results, Try.results5, go_sem]) rfl ⟨rfl, H5.out.bel⟩
end Go.Proofs.Ytjpfggpcppcpbaa.Rt
