/- The row of BaseNone over its walk and its pure law: no condition. -/
import Derived.Test.YtglbcfkmaamhaaaEG22
import Derived.Test.YtglbcfkmaamhaaaRows
import Derived.WalkKit
import Derived.ProofKit
import Derived.OpenShut
import Derived.ShutString
import Derived.ChangeOld
import Derived.Below
import Derived.SizedLaws
namespace Go.Proofs.Ytglbcfkmaamhaaa.RowBaseNone
open Go.ChangeShapes Go.WideShapes Go.ChangeAt Go.RowKit
open Go.ChangeMaps (open_string shut_string)
open Go.Proofs.Ytglbcfkmaamhaaa.Opens Go.Proofs.YtglbcfkmaamhaaaW.PrintWords

set_option linter.unusedVariables false
theorem walkN {z : Int × Int × Int × ByteArray × ByteArray × Bool × (Int × Int)} {cs : List Value} (W : World) (hK : (Kd.iso (Kd.pair (Kd.int .i64) (Kd.pair (Kd.int .i64) (Kd.pair (Kd.int .i64) (Kd.pair (Kd.string) (Kd.pair (Kd.string) (Kd.pair (Kd.bool) (Kd.iso (Kd.pair (Kd.int .i64) (Kd.int .i64)) id))))))) id).K W z cs) :
    Calls Try.prog 14 #[.agg cs.toArray] W fun e w' => e = .returned (.bool true) ∧ Below W.heap.size W w' := by
  obtain ⟨e1, e2, rfl, h1, f1, f2, rfl, h2, g1, g2, rfl, h3, i1, i2, rfl, h4, j1, j2, rfl, h5, k1, k2, rfl, h6, ⟨r1, r2, rfl, hr1, hr2⟩⟩ := hK
  have h1' : e1 = [.int .i64 z.1] := h1
  have h2' : f1 = [.int .i64 z.2.1] := h2
  have h3' : g1 = [.int .i64 z.2.2.1] := h3
  have h4' : i1 = [.string z.2.2.2.1] := h4
  have h5' : j1 = [.string z.2.2.2.2.1] := h5
  have h6' : k1 = [.bool z.2.2.2.2.2.1] := h6
  have hr1' : r1 = [.int .i64 z.2.2.2.2.2.2.1] := hr1
  have hr2' : r2 = [.int .i64 z.2.2.2.2.2.2.2] := hr2
  subst h1' h2' h3' h4' h5' h6' hr1' hr2'
  exact Bs.none_.calls W _ _ _ _ _ _ (z.2.2.2.2.2.2.1, z.2.2.2.2.2.2.2)

theorem own : ownKnob Try.prog.godebug = none := by kernel_rfl
theorem laidOut : laidOutB Try.prog = true := by kernel_rfl
set_option maxRecDepth 100000 in
theorem lifted (os : Os) (started : os.Started) (H : Type) (enc : TypeId × Value → H) :
    ReturnsInHanded {} Try.checked os 14 .any (Rows.baseNoneSpec.pre6 enc Try.prog Try.f14 Rows.baseNoneRow.domain false) (Rows.baseNoneSpec.post enc Try.prog Try.f14 false true false false) := by
  refine returnsInHanded_of_change_sized (C := Try.checked) own started (by kernel_rfl) Try.func14
    (ChangeSpec.witness6 (enc := enc) (C := Try.checked) false ⟨#[], #[.agg #[.int .i64 0, .int .i64 0, .int .i64 0, .string ⟨#[]⟩, .string ⟨#[]⟩, .bool false, .int .i64 0, .int .i64 0]], []⟩ 8 (by kernel_rfl) (by kernel_rfl) (by kernel_rfl) (by kernel_rfl)) ?_
  intro W base args ds gs before hval0 hW hcnd hsz0 _
  have hsz : (DataW.weightsEach Try.prog (Try.f14.params.toList ++ Rows.baseNoneSpec.plain.varTypes Try.prog) (ds ++ gs)).all (· ≤ reachBytes) = true := hsz0
  have hval : ∀ (j : Nat) t v, Try.f14.params[j]? = some t → args[j]? = some v → Value.okWide Try.prog W .any base t v := hval0
  have hW' := hW
  obtain ⟨p, q, hA0, hV, rfl, hfz, hnd⟩ := hW
  have hA : DataW.TrodAll enc Try.prog W 0 (fun _ => true) true Try.f14.params.toList args.toList ds p := hA0
  rw [Try.params14] at hA hval hsz
  obtain ⟨v0, vs0, d0, ds0, p0, q0, hargs, rfl, rfl, h0, r0⟩ := trodAll_cons hA
  obtain ⟨rfl, rfl, rfl⟩ := trodAll_nil r0
  obtain rfl : args = #[v0] := by cases args; simp_all
  obtain ⟨rfl, rfl⟩ := trodVars_none hV
  have k0 := h0
  have lt0 : ∀ x ∈ p0, x.block < W.heap.size := by obtain ⟨m, hm⟩ := k0; exact DataW.trod_lt m _ _ _ hm
  obtain ⟨z0, cs0, rfl, hK0, hg0⟩ := arg_struct Try.underlying124 (opens_struct (d := (Kd.pair (Kd.int .i64) (Kd.pair (Kd.int .i64) (Kd.pair (Kd.int .i64) (Kd.pair (Kd.string) (Kd.pair (Kd.string) (Kd.pair (Kd.bool) (Kd.iso (Kd.pair (Kd.int .i64) (Kd.int .i64)) id)))))))) Try.underlying124 (by kernel_rfl) (fields_cons rfl rfl (by kernel_rfl) (opens_int Try.underlying3) (fields_cons rfl rfl (by kernel_rfl) (opens_int Try.underlying3) (fields_cons rfl rfl (by kernel_rfl) (opens_int Try.underlying3) (fields_cons rfl rfl (by kernel_rfl) (opens_string Try.underlying9) (fields_cons rfl rfl (by kernel_rfl) (opens_string Try.underlying9) (fields_cons rfl rfl (by kernel_rfl) (opens_bool Try.underlying4) (fields_last rfl rfl (by kernel_rfl) (opens_struct (d := (Kd.pair (Kd.int .i64) (Kd.int .i64))) Try.underlying33 (by kernel_rfl) (fields_cons rfl rfl (by kernel_rfl) (opens_int Try.underlying3) (fields_last rfl rfl (by kernel_rfl) (opens_int Try.underlying3))) id id (fun _ => rfl))))))))) id id (fun _ => rfl)) (hval 0 124 v0 rfl rfl) h0
  clear hA0 hval0 hsz0 hsz
  refine (walkN W hK0).mono fun e W' ⟨he, bel⟩ => ?_
  subst he
  exact ⟨_, rfl, _, _, _, [], _, [], hW', trodAll_mk1 (shut_bool Try.underlying4 _), (trodAll_cons_mk (Below.trod laidOut (by kernel_rfl) (of_decide_eq_true (by kernel_rfl)) k0 bel lt0) trodAll_mk0), rfl, bel.frame _, fun h => by cases h⟩
theorem over : Rows.baseNoneRow.holds Try.pinned (OpenSpec.ofChange Rows.baseNoneSpec) :=
  OpenClaim.holds_of_wide 14 Try.f14 rfl rfl rfl rfl rfl rfl rfl ⟨rfl, rfl, rfl, rfl, rfl⟩ rfl rfl rfl rfl rfl (by kernel_rfl) Try.func14 (by kernel_rfl)
    (of_decide_eq_true (by kernel_rfl)) (by unfold Func.isWrapper; first | (rw [if_pos (by decide +kernel)]; kernel_rfl) | (rw [if_neg (by decide +kernel)]; exact ⟨rfl, rfl⟩))
    (fun os started H enc _ => lifted os started H enc)
end Go.Proofs.Ytglbcfkmaamhaaa.RowBaseNone
namespace Go.Proofs.Ytglbcfkmaamhaaa
/-- The row. -/
theorem baseNone_holds : Rows.BaseNoneSaid := RowBaseNone.over
end Go.Proofs.Ytglbcfkmaamhaaa
