/- EpochsNone: the walk. -/
import Derived.Test.YtdnfmfjaljkjkaaEpC
set_option linter.unusedVariables false
set_option linter.unusedSimpArgs false
namespace Go.Proofs.Ytdnfmfjaljkjkaa.Ep
open Go Go.RowKit Go.Proofs.YtdnfmfjaljkjkaaW.PrintWords Go.Proofs.YtdnfmfjaljkjkaaW.PrintLast Go.Proofs.YtdnfmfjaljkjkaaW.PrintMore

theorem PinNil.calls (w : World) (i : Int) : Calls Try.prog 11 #[.pointer none, .int .i64 i] w fun e w' => e = .returned (.bool false) ∧ Drawn0 w w' := by
  go_enter Try.func11, Try.ntmps11
  go_wp2_with (go_at_call 22; refine (pinNil.calls _ i).mono ?_; rintro e1 w1 ⟨rfl, ⟨m1, rfl⟩⟩)
  exact bodyPost_ret (v := .bool false) (by simp [results, Try.results11, go_sem]) rfl ⟨rfl, by first | exact Drawn0.refl _ | exact (Drawn0.refl _).step _⟩
theorem UnpinNil.calls (w : World) (i : Int) : Calls Try.prog 13 #[.pointer none, .int .i64 i] w fun e w' => e = .returned (.bool false) ∧ Drawn0 w w' := by
  go_enter Try.func13, Try.ntmps13
  go_wp2_with (go_at_call 22; refine (pinNil.calls _ i).mono ?_; rintro e1 w1 ⟨rfl, ⟨m1, rfl⟩⟩)
  exact bodyPost_ret (v := .bool false) (by simp [results, Try.results13, go_sem]) rfl ⟨rfl, by first | exact Drawn0.refl _ | exact (Drawn0.refl _).step _⟩
theorem pinnedNil.calls (w : World) (i : Int) : Calls Try.prog 16 #[.pointer none, .int .i64 i] w fun e w' => e = .returned (.tuple #[.int .i64 0, .bool false]) ∧ Drawn0 w w' := by
  go_enter Try.func16, Try.ntmps16
  go_wp2_with (go_at_call 22; refine (pinNil.calls _ i).mono ?_; rintro e1 w1 ⟨rfl, ⟨m1, rfl⟩⟩)
  exact bodyPost_ret (v := .tuple #[.int .i64 0, .bool false]) (by simp [results, Try.results16, go_sem]) rfl ⟨rfl, by first | exact Drawn0.refl _ | exact (Drawn0.refl _).step _⟩

set_option maxHeartbeats 8000000 in
set_option maxRecDepth 100000 in
theorem none.calls (w : World) (i : Int) : Calls Try.prog 5 #[.int .i64 i] w fun e w' => e = .returned (.bool true) ∧ Below w.heap.size w w' := by
  have hnot : ∀ (x : Bool) (w : World), (Op.unary .not (.bool x)).run Try.prog w = .ok (.bool (!x)) w := fun _ _ => rfl
  go_enter Try.func5, Try.ntmps5
  go_wp2_with (first
    | (go_at_call 16; refine (pinnedNil.calls _ i).mono ?_; rintro e1 w1 ⟨rfl, ⟨m1, rfl⟩⟩)
    | (go_at_call 18; refine (nowNil.calls _).mono ?_; rintro e1 w1 ⟨rfl, ⟨m1, rfl⟩⟩)
    | (go_at_call 11; refine (PinNil.calls _ i).mono ?_; rintro e1 w1 ⟨rfl, ⟨m1, rfl⟩⟩)
    | (go_at_call 13; refine (UnpinNil.calls _ i).mono ?_; rintro e1 w1 ⟨rfl, ⟨m1, rfl⟩⟩)
    | (go_at_call 15; refine (tickNil.calls _).mono ?_; rintro e1 w1 ⟨rfl, ⟨m1, rfl⟩⟩)
    | (go_at_call 19; refine (safeNil.calls _ i).mono ?_; rintro e1 w1 ⟨rfl, ⟨m1, rfl⟩⟩)
    | (go_at_call 7; refine (awake.calls _).mono ?_; rintro e1 w1 ⟨rfl, hb⟩))
  exact bodyPost_ret (v := .bool true) (by simp [results, Try.results5, go_sem]) rfl ⟨rfl, below_then (pw_below_drewN (Below.refl _ _) _) (Nat.le_refl _) hb⟩
end Go.Proofs.Ytdnfmfjaljkjkaa.Ep
