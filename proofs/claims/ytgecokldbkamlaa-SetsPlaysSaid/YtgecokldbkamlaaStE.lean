/- sets.Sets: the order of the writes: cmp.Compare at strings, the function handed to the sort. No condition. -/
import Derived.Test.YtgecokldbkamlaaStD
import Derived.Test.YtgecokldbkamlaaLess
set_option linter.unusedVariables false
set_option linter.unusedSimpArgs false
namespace Go.Proofs.Ytgecokldbkamlaa.St
open Go Go.RowKit Go.MapKept Go.Sort Go.Shelf Go.Proofs.YtgecokldbkamlaaW.PrintWords Go.Proofs.YtgecokldbkamlaaW.PrintLast Go.Proofs.YtgecokldbkamlaaW.PrintMore Go.Proofs.Ytgecokldbkamlaa.Hv Go.Proofs.Ytgecokldbkamlaa.Mk Go.Proofs.Ytgecokldbkamlaa.Ka
variable {w0 w w1 : World} {g : Nat} {s : St} {L L' : List Ob}

def bl (a b : ByteArray) : Bool := Op.bytesLess a.toList b.toList
def cmpB (a b : ByteArray) : Int := if bl a b then -1 else if bl b a then 1 else 0
set_option maxHeartbeats 4000000 in
set_option maxRecDepth 100000 in
theorem isNaN.calls (a : ByteArray) (w : World) : Calls Try.prog 33 #[.string a] w fun e w' => e = .returned (.bool false) ∧ w' = w := by
  go_enter Try.func33, Try.ntmps33
  go_wp2_with fail
  exact bodyPost_ret (v := .bool false) (by simp [results, Try.results33, go_sem]) rfl ⟨rfl, rfl⟩
set_option maxHeartbeats 4000000 in
set_option maxRecDepth 100000 in
theorem cmp.calls (a b : ByteArray) (w : World) : Calls Try.prog 29 #[.string a, .string b] w fun e w' => e = .returned (.int .i64 (cmpB a b)) ∧ w' = w := by
  have hf := Less.less_flip a.toList b.toList
  have h1 : Op.bytesLess a.toList b.toList = true → cmpB a b = -1 := fun h => by simp [cmpB, bl, h]
  have h2 : Op.bytesLess a.toList b.toList = false → (!a.toList == b.toList) = true → cmpB a b = 1 := fun h h' => by
    rw [h, Bool.false_or] at hf
    rw [hf, Bool.not_not] at h'
    simp [cmpB, bl, h, h']
  have h3 : Op.bytesLess a.toList b.toList = false → (!a.toList == b.toList) = false → cmpB a b = 0 := fun h h' => by
    rw [h, Bool.false_or] at hf
    rw [hf, Bool.not_not] at h'
    simp [cmpB, bl, h, h']
  clear hf
  generalize cmpB a b = r at h1 h2 h3 ⊢
  have HH := Aside0.mk (And.intro h1 (And.intro h2 h3))
  clear h1 h2 h3
  go_enter Try.func29, Try.ntmps29
  go_wp2_with (go_at_call 33; refine (isNaN.calls _ _).mono ?_; rintro e w' ⟨rfl, rfl⟩)
  · have hr : r = -1 := HH.out.1 (by assumption)
    clear HH
    subst hr
    exact bodyPost_ret (v := .int .i64 (-1)) (by simp [results, Try.results29, go_sem]) rfl ⟨rfl, rfl⟩
  · have hr : r = 1 := HH.out.2.1 (by assumption) (by assumption)
    clear HH
    subst hr
    exact bodyPost_ret (v := .int .i64 1) (by simp [results, Try.results29, go_sem]) rfl ⟨rfl, rfl⟩
  · have hr : r = 0 := HH.out.2.2 (by assumption) (by assumption)
    clear HH
    subst hr
    exact bodyPost_ret (v := .int .i64 0) (by simp [results, Try.results29, go_sem]) rfl ⟨rfl, rfl⟩
set_option maxHeartbeats 4000000 in
set_option maxRecDepth 100000 in
/-- The function that the sort is handed. -/
theorem clo.calls (x y : Wr) (w : World) : Calls Try.prog 28 #[.agg (wcel x).toArray, .agg (wcel y).toArray] w fun e w' => e = .returned (.int .i64 (cmpB x.1 y.1)) ∧ ∃ q os', w' = grow (w.drewN q) os' := by
  have hu40 := Try.underlying40
  have hcon := cmp.calls x.1 y.1
  generalize cmpB x.1 y.1 = r at hcon ⊢
  obtain ⟨k1, ⟨a1, b1⟩, d1, t1⟩ := x
  obtain ⟨k2, ⟨a2, b2⟩, d2, t2⟩ := y
  simp only [wcel]
  go_enter Try.func28, Try.ntmps28
  go_wp2_with (go_at_call 29; refine (hcon _).mono ?_; rintro e w' ⟨rfl, rfl⟩)
  go_ret
  exact ⟨rfl, 0, _, by rw [alloc_eq_grow, alloc_eq_grow, grow_grow]; rfl⟩
end Go.Proofs.Ytgecokldbkamlaa.St
