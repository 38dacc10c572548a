/- retire: awake; RetireAll. No condition. -/
import Derived.Test.YtjpfggpcppcpbaaRtB
import Derived.Test.YtjpfggpcppcpbaaWEqStruct
set_option linter.unusedVariables false
set_option linter.unusedSimpArgs false
namespace Go.Proofs.Ytjpfggpcppcpbaa.Rt
open Go Go.RowKit Go.MapKept Go.Proofs.YtjpfggpcppcpbaaW.PrintWords Go.Proofs.YtjpfggpcppcpbaaW.PrintLast Go.Proofs.YtjpfggpcppcpbaaW.PrintMore Go.Proofs.Ytjpfggpcppcpbaa.Hv Go.Proofs.Ytjpfggpcppcpbaa.Mp
variable {w0 w w1 : World} {g m : Nat} {s : Ls} {L L' : List Ob}

set_option maxHeartbeats 8000000 in
set_option maxRecDepth 100000 in
theorem awake.calls (w : World) : Calls Try.prog 6 #[] w fun e w' => e = .returned (.bool true) ∧ Below w.heap.size w w' := by
  have hu30 := Try.underlying30
  have hu24 := Try.underlying24
  go_enter Try.func6, Try.ntmps6
  go_wp2_with fail
  refine (new.calls (Hv.start w)).mono ?_
  rintro e1 w1 ⟨g, m, rfl, h1⟩
  have H1 := Aside0.mk h1
  clear h1
  go_wp2_with fail
  refine (add.calls H1.out (by decide) false 0 0 3).mono ?_
  rintro e2 w2 ⟨rfl, h2⟩
  have H2 := Aside0.mk h2
  clear h2
  go_wp2_with fail
  refine (add.calls H2.out (by decide) true 0 0 1).mono ?_
  rintro e3 w3 ⟨rfl, h3⟩
  have H3 := Aside0.mk h3
  clear h3
  go_wp2_with fail
  refine (next.yes H3.out 2 (l1 := [(0, false, 0, 0, 3)]) (l2 := []) (k := 1) (b := true) (x0 := 0) (x1 := 0) (x2 := 1) rfl (by simp) (by decide)).mono ?_
  rintro e4 w4 ⟨rfl, h4⟩
  have H4 := Aside0.mk (h4.alloc (.cells #[.bool true, .int .i64 0, .int .i64 0, .int .i64 1] 30))
  clear h4
  go_wp2_with fail
  refine (next.no H4.out 2 (by simp)).mono ?_
  rintro e5 w5 ⟨rfl, h5⟩
  have H5 := Aside0.mk (h5.alloc (.cells #[.bool false, .int .i64 0, .int .i64 0, .int .i64 0] 30))
  clear h5
  go_wp2_with fail
  refine (next.yes H5.out 4 (l1 := []) (l2 := []) (k := 0) (b := false) (x0 := 0) (x1 := 0) (x2 := 3) rfl (by simp) (by decide)).mono ?_
  rintro e6 w6 ⟨rfl, h6⟩
  have h7 := h6.alloc (.cells #[.bool false, .int .i64 0, .int .i64 0, .int .i64 3] 30)
  obtain ⟨a0, a1, a2, a3, -, -, -, -⟩ := h7.other.c4 w4.heap.size 30 (.bool true) (.int .i64 0) (.int .i64 0) (.int .i64 1) (by simp)
  obtain ⟨b0, b1, b2, b3, -, -, -, -⟩ := h7.other.c4 w6.heap.size 30 (.bool false) (.int .i64 0) (.int .i64 0) (.int .i64 3) (by simp)
  have H7 := Aside0.mk h7
  clear h6 h7
  go_wp2_with fail
  refine (len.calls H7.out).mono ?_
  rintro e8 w8 ⟨rfl, h8⟩
  have H8 := Aside0.mk h8
  clear h8 a0 a1 a2 a3 b0 b1 b2 b3
  go_wp2_with fail
  exact bodyPost_ret (v := .bool true) (by simp [results, Try.results6, go_sem]) rfl ⟨rfl, H8.out.bel⟩
end Go.Proofs.Ytjpfggpcppcpbaa.Rt
