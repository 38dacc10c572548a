/- The row of NodeBack over its walk and its pure law: no condition. -/
import Derived.Test.YtglbcfkmaamhaaaBBackW
import Derived.Test.YtglbcfkmaamhaaaBOpens
import Derived.Test.YtglbcfkmaamhaaaRows
import Derived.WalkKit
import Derived.ProofKit
import Derived.OpenShut
import Derived.ShutString
import Derived.ChangeOld
import Derived.Below
import Derived.SizedLaws
namespace Go.Proofs.Ytglbcfkmaamhaaa.RowNodeBack
open Go.ChangeShapes Go.WideShapes Go.ChangeAt Go.RowKit
open Go.ChangeMaps (open_string shut_string)
open Go.Proofs.Ytglbcfkmaamhaaa.Opens Go.Proofs.YtglbcfkmaamhaaaW.PrintWords

set_option linter.unusedVariables false
theorem node_open {W : World} {z : Bool × Int × List ByteArray × List PNode.S33} {cs : List Value} (hK : (Kd.iso (Kd.pair Kd.bool (Kd.pair (Kd.int .i64) (Kd.pair (Kd.slice 9 Kd.string) (Kd.slice 33 PNode.k33)))) id).K W z cs) :
    ∃ A2 c2 A3 c3, cs = [.bool z.1, .int .i64 z.2.1, .slice A2 z.2.2.1.length c2, .slice A3 z.2.2.2.length c3] ∧ z.2.2.1.length ≤ c2 ∧ Kd.C Kd.string W A2 z.2.2.1.length z.2.2.1 ∧ z.2.2.2.length ≤ c3 ∧ Kd.C PNode.k33 W A3 z.2.2.2.length z.2.2.2 := by
  obtain ⟨e1, e2, rfl, h1, f1, f2, rfl, h2, g1, g2, rfl, ⟨A2, k2, rfl, l2, C2⟩, ⟨A3, k3, rfl, l3, C3⟩⟩ := hK
  have h1' : e1 = [.bool z.1] := h1
  have h2' : f1 = [.int .i64 z.2.1] := h2
  subst h1' h2'
  exact ⟨A2, k2, A3, k3, rfl, l2, C2, l3, C3⟩
theorem walk2 {z : Bool × Int × List ByteArray × List PNode.S33} {cs : List Value} (W : World) (hK : (Kd.iso (Kd.pair Kd.bool (Kd.pair (Kd.int .i64) (Kd.pair (Kd.slice 9 Kd.string) (Kd.slice 33 PNode.k33)))) id).K W z cs) :
    Calls Try.prog 9 #[.agg cs.toArray] W fun e w' => e = .returned (.bool true) ∧ Below W.heap.size W w' := by
  obtain ⟨A2, c2, A3, c3, rfl, l2, C2, l3, C3⟩ := node_open hK
  exact PNode.back_walk z.1 z.2.1 z.2.2.1 z.2.2.2 W l2 C2 l3 C3

theorem own : ownKnob Try.prog.godebug = none := by kernel_rfl
theorem laidOut : laidOutB Try.prog = true := by kernel_rfl
set_option maxRecDepth 100000 in
theorem lifted (os : Os) (started : os.Started) (H : Type) (enc : TypeId × Value → H) :
    ReturnsInHanded {} Try.checked os 9 .any (Rows.nodeBackSpec.pre6 enc Try.prog Try.f9 Rows.nodeBackRow.domain false) (Rows.nodeBackSpec.post enc Try.prog Try.f9 false true false false) := by
  refine returnsInHanded_of_change_sized (C := Try.checked) own started (by kernel_rfl) Try.func9
    (ChangeSpec.witness6 (enc := enc) (C := Try.checked) false ⟨#[], #[.agg #[.bool false, .int .i64 0, .slice none 0 0, .slice none 0 0]], []⟩ 8 (by kernel_rfl) (by kernel_rfl) (by kernel_rfl) (by kernel_rfl)) ?_
  intro W base args ds gs before hval0 hW hcnd hsz0 _
  have hsz : (DataW.weightsEach Try.prog (Try.f9.params.toList ++ Rows.nodeBackSpec.plain.varTypes Try.prog) (ds ++ gs)).all (· ≤ reachBytes) = true := hsz0
  have hval : ∀ (j : Nat) t v, Try.f9.params[j]? = some t → args[j]? = some v → Value.okWide Try.prog W .any base t v := hval0
  have hW' := hW
  obtain ⟨p, q, hA0, hV, rfl, hfz, hnd⟩ := hW
  have hA : DataW.TrodAll enc Try.prog W 0 (fun _ => true) true Try.f9.params.toList args.toList ds p := hA0
  rw [Try.params9] at hA hval hsz
  obtain ⟨v0, vs0, d0, ds0, p0, q0, hargs, rfl, rfl, h0, r0⟩ := trodAll_cons hA
  obtain ⟨rfl, rfl, rfl⟩ := trodAll_nil r0
  obtain rfl : args = #[v0] := by cases args; simp_all
  obtain ⟨rfl, rfl⟩ := trodVars_none hV
  have k0 := h0
  have lt0 : ∀ x ∈ p0, x.block < W.heap.size := by obtain ⟨m, hm⟩ := k0; exact DataW.trod_lt m _ _ _ hm
  obtain ⟨z0, cs0, rfl, hK0, hg0⟩ := arg_struct Try.underlying59 (opens_struct (d := Kd.pair Kd.bool (Kd.pair (Kd.int .i64) (Kd.pair (Kd.slice 9 Kd.string) (Kd.slice 33 PNode.k33)))) Try.underlying59 (by kernel_rfl) (fields_cons rfl rfl (by kernel_rfl) (opens_bool Try.underlying4) (fields_cons rfl rfl (by kernel_rfl) (opens_int Try.underlying3) (fields_cons rfl rfl (by kernel_rfl) (opens_slice Try.underlying57 (by kernel_rfl) (opens_string Try.underlying9)) (fields_last rfl rfl (by kernel_rfl) (opens_slice Try.underlying31 (by kernel_rfl) (opens_struct (d := Kd.pair (Kd.int .i64) (Kd.int .i64)) Try.underlying33 (by kernel_rfl) (fields_cons rfl rfl (by kernel_rfl) (opens_int Try.underlying3) (fields_last rfl rfl (by kernel_rfl) (opens_int Try.underlying3))) (fun x : PNode.S33 => (x.f0, x.f1)) (fun p => ⟨p.1, p.2⟩) (fun _ => rfl))))))) id id (fun _ => rfl)) (hval 0 59 v0 rfl rfl) h0
  clear hA0 hval0 hsz0 hsz
  refine (walk2 W hK0).mono fun e W' ⟨he, bel⟩ => ?_
  subst he
  exact ⟨_, rfl, _, _, _, [], _, [], hW', trodAll_mk1 (shut_bool Try.underlying4 _), (trodAll_cons_mk (Below.trod laidOut (by kernel_rfl) (of_decide_eq_true (by kernel_rfl)) k0 bel lt0) trodAll_mk0), rfl, bel.frame _, fun h => by cases h⟩
theorem over : Rows.nodeBackRow.holds Try.pinned (OpenSpec.ofChange Rows.nodeBackSpec) :=
  OpenClaim.holds_of_wide 9 Try.f9 rfl rfl rfl rfl rfl rfl rfl ⟨rfl, rfl, rfl, rfl, rfl⟩ rfl rfl rfl rfl rfl (by kernel_rfl) Try.func9 (by kernel_rfl)
    (of_decide_eq_true (by kernel_rfl)) (by unfold Func.isWrapper; first | (rw [if_pos (by decide +kernel)]; kernel_rfl) | (rw [if_neg (by decide +kernel)]; exact ⟨rfl, rfl⟩))
    (fun os started H enc _ => lifted os started H enc)
end Go.Proofs.Ytglbcfkmaamhaaa.RowNodeBack
namespace Go.Proofs.Ytglbcfkmaamhaaa
/-- The row. -/
theorem nodeBack_holds : Rows.NodeBackSaid := RowNodeBack.over
end Go.Proofs.Ytglbcfkmaamhaaa
