/- sets.Sets: nil receivers. No condition. -/
import Derived.Test.YtgecokldbkamlaaStG
set_option linter.unusedVariables false
set_option linter.unusedSimpArgs false
namespace Go.Proofs.Ytgecokldbkamlaa.St
open Go Go.RowKit Go.MapKept Go.Proofs.YtgecokldbkamlaaW.PrintWords Go.Proofs.YtgecokldbkamlaaW.PrintLast Go.Proofs.YtgecokldbkamlaaW.PrintMore Go.Proofs.Ytgecokldbkamlaa.Hv Go.Proofs.Ytgecokldbkamlaa.Mk Go.Proofs.Ytgecokldbkamlaa.Ka
set_option maxHeartbeats 4000000 in
set_option maxRecDepth 100000 in
theorem readNil (w : World) (a b word : Int) : Calls Try.prog 19 #[.pointer none, .agg #[.int .i64 a, .int .i64 b], .int .i64 word] w fun e w' => e = .returned (.tuple #[]) ∧ Below w.heap.size w w' := by
  have hu25 := Try.underlying25
  have hu34 := Try.underlying34
  go_enter Try.func19, Try.ntmps19
  go_wp2_with fail
  exact bodyPost_ret (v := .tuple #[]) (by simp [results, Try.results19, go_sem]) rfl ⟨rfl, by repeat (first | exact Below.refl _ _ | apply pw_below_drewN | apply below_drew1 | apply below_alloc | (refine Below.setCell ?_ (by simp) _))⟩
set_option maxHeartbeats 4000000 in
set_option maxRecDepth 100000 in
theorem nodeNil (w : World) (a b word : Int) : Calls Try.prog 17 #[.pointer none, .agg #[.int .i64 a, .int .i64 b, .int .i64 word]] w fun e w' => e = .returned (.tuple #[]) ∧ Below w.heap.size w w' := by
  have hu25 := Try.underlying25
  have hu38 := Try.underlying38
  go_enter Try.func17, Try.ntmps17
  go_wp2_with fail
  exact bodyPost_ret (v := .tuple #[]) (by simp [results, Try.results17, go_sem]) rfl ⟨rfl, by repeat (first | exact Below.refl _ _ | apply pw_below_drewN | apply below_drew1 | apply below_alloc | (refine Below.setCell ?_ (by simp) _))⟩
set_option maxHeartbeats 4000000 in
set_option maxRecDepth 100000 in
theorem writeNil (w : World) (k d : ByteArray) (a b : Int) (t : Bool) : Calls Try.prog 20 #[.pointer none, .agg #[.string k, .int .i64 a, .int .i64 b, .string d, .bool t]] w fun e w' => e = .returned (.tuple #[]) ∧ Below w.heap.size w w' := by
  have hu25 := Try.underlying25
  have hu40 := Try.underlying40
  go_enter Try.func20, Try.ntmps20
  go_wp2_with fail
  go_end0
  exact ⟨rfl, by repeat (first | exact Below.refl _ _ | apply pw_below_drewN | apply below_drew1 | apply below_alloc | (refine Below.setCell ?_ (by simp) _))⟩
set_option maxHeartbeats 4000000 in
set_option maxRecDepth 100000 in
theorem turnedNil (w : World) (ad : Option Addr) (n c : Nat) : Calls Try.prog 18 #[.pointer none, .slice ad n c] w fun e w' => e = .returned (.tuple #[]) ∧ Below w.heap.size w w' := by
  have hu25 := Try.underlying25
  go_enter Try.func18, Try.ntmps18
  go_wp2_with fail
  exact bodyPost_ret (v := .tuple #[]) (by simp [results, Try.results18, go_sem]) rfl ⟨rfl, by repeat (first | exact Below.refl _ _ | apply pw_below_drewN | apply below_drew1 | apply below_alloc | (refine Below.setCell ?_ (by simp) _))⟩
set_option maxHeartbeats 4000000 in
set_option maxRecDepth 100000 in
theorem ownNil (w : World) (k : ByteArray) : Calls Try.prog 10 #[.pointer none, .string k] w fun e w' => e = .returned (.tuple #[.agg #[Value.string ⟨#[]⟩, .int .i64 0, .int .i64 0, Value.string ⟨#[]⟩, .bool false], .bool false]) ∧ Below w.heap.size w w' := by
  have hu25 := Try.underlying25
  have hu40 := Try.underlying40
  go_enter Try.func10, Try.ntmps10
  go_wp2_with fail
  exact bodyPost_ret (v := .tuple #[.agg #[Value.string ⟨#[]⟩, .int .i64 0, .int .i64 0, Value.string ⟨#[]⟩, .bool false], .bool false]) (by simp [results, Try.results10, go_sem, hu40]) rfl ⟨rfl, by repeat (first | exact Below.refl _ _ | apply pw_below_drewN | apply below_drew1 | apply below_alloc | (refine Below.setCell ?_ (by simp) _))⟩
set_option maxHeartbeats 4000000 in
set_option maxRecDepth 100000 in
theorem readsNil (w : World) : Calls Try.prog 14 #[.pointer none] w fun e w' => e = .returned (.slice none 0 0) ∧ Below w.heap.size w w' := by
  have hu25 := Try.underlying25
  go_enter Try.func14, Try.ntmps14
  go_wp2_with fail
  exact bodyPost_ret (v := .slice none 0 0) (by simp [results, Try.results14, go_sem]) rfl ⟨rfl, by repeat (first | exact Below.refl _ _ | apply pw_below_drewN | apply below_drew1 | apply below_alloc | (refine Below.setCell ?_ (by simp) _))⟩
set_option maxHeartbeats 4000000 in
set_option maxRecDepth 100000 in
theorem nodesNil (w : World) : Calls Try.prog 15 #[.pointer none] w fun e w' => e = .returned (.slice none 0 0) ∧ Below w.heap.size w w' := by
  have hu25 := Try.underlying25
  go_enter Try.func15, Try.ntmps15
  go_wp2_with fail
  exact bodyPost_ret (v := .slice none 0 0) (by simp [results, Try.results15, go_sem]) rfl ⟨rfl, by repeat (first | exact Below.refl _ _ | apply pw_below_drewN | apply below_drew1 | apply below_alloc | (refine Below.setCell ?_ (by simp) _))⟩
set_option maxHeartbeats 4000000 in
set_option maxRecDepth 100000 in
theorem writesNil (w : World) : Calls Try.prog 16 #[.pointer none] w fun e w' => e = .returned (.slice none 0 0) ∧ Below w.heap.size w w' := by
  have hu25 := Try.underlying25
  go_enter Try.func16, Try.ntmps16
  go_wp2_with fail
  exact bodyPost_ret (v := .slice none 0 0) (by simp [results, Try.results16, go_sem]) rfl ⟨rfl, by repeat (first | exact Below.refl _ _ | apply pw_below_drewN | apply below_drew1 | apply below_alloc | (refine Below.setCell ?_ (by simp) _))⟩
end Go.Proofs.Ytgecokldbkamlaa.St
