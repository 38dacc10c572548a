/- The row of RetireAll over its walk and its pure law: no condition. -/
import Derived.Test.YtjpfggpcppcpbaaRtD
import Derived.Test.YtjpfggpcppcpbaaOpens
import Derived.Test.YtjpfggpcppcpbaaRows
import Derived.WalkKit
import Derived.ProofKit
import Derived.OpenShut
import Derived.ShutString
import Derived.ChangeOld
import Derived.Below
import Derived.SizedLaws
namespace Go.Proofs.Ytjpfggpcppcpbaa.RowRetireAll
open Go.ChangeShapes Go.WideShapes Go.ChangeAt Go.RowKit
open Go.ChangeMaps (open_string shut_string)
open Go.Proofs.Ytjpfggpcppcpbaa.Opens Go.Proofs.YtjpfggpcppcpbaaW.PrintWords

set_option linter.unusedVariables false
abbrev R0 := Bool × (Int × Int) × Int
def flat0 (x : R0) : Rt.Rd := (x.1, x.2.1.1, x.2.1.2, x.2.2)
theorem cel_of : ∀ w (x : R0) cs, Kd.K (Kd.iso (Kd.pair Kd.bool (Kd.pair (Kd.iso (Kd.pair (Kd.int .i64) (Kd.int .i64)) id) (Kd.int .i64))) id) w x cs → cs = Rt.cel (flat0 x) := by
  rintro w x cs ⟨c0, e0, rfl, h0, c1, c2, rfl, ⟨c3, c4, rfl, h3, h4⟩, h2⟩
  have h0' : c0 = [.bool x.1] := h0
  have h3' : c3 = [.int .i64 x.2.1.1] := h3
  have h4' : c4 = [.int .i64 x.2.1.2] := h4
  have h2' : c2 = [.int .i64 x.2.2] := h2
  subst h0' h3' h4' h2'
  rfl
theorem walk2 {A0 : Option Addr} {c0 : Nat} {l : List R0} (least : Int) (W : World) (hl : l.length ≤ c0) (hC : Kd.C (Kd.iso (Kd.pair Kd.bool (Kd.pair (Kd.iso (Kd.pair (Kd.int .i64) (Kd.int .i64)) id) (Kd.int .i64))) id) W A0 l.length l) :
    Calls Try.prog 3 #[.slice A0 l.length c0, .int .i64 least] W fun e w' => e = .returned (.bool true) ∧ Below W.heap.size W w' := by
  have h := Hv.Rd.of_C (fun x => Rt.cel (flat0 x)) cel_of (fun _ => rfl) hC
  have e : l.flatMap (fun x => Rt.cel (flat0 x)) = (l.map flat0).flatMap Rt.cel := by rw [List.flatMap_map]
  rw [e] at h
  have := Rt.all1.calls (A0 := A0) (c0 := c0) (l := l.map flat0) least W (by simpa using hl) (by rw [List.length_map]; exact h)
  simpa using this

theorem own : ownKnob Try.prog.godebug = none := by kernel_rfl
theorem laidOut : laidOutB Try.prog = true := by kernel_rfl
set_option maxRecDepth 100000 in
theorem lifted (os : Os) (started : os.Started) (H : Type) (enc : TypeId × Value → H) :
    ReturnsInHanded {} Try.checked os 3 .any (Rows.retireAllSpec.pre6 enc Try.prog Try.f3 Rows.retireAllRow.domain false) (Rows.retireAllSpec.post enc Try.prog Try.f3 false true false false) := by
  refine returnsInHanded_of_change_sized (C := Try.checked) own started (by kernel_rfl) Try.func3
    (ChangeSpec.witness6 (enc := enc) (C := Try.checked) false ⟨#[], #[.slice none 0 0, .int .i64 0], []⟩ 8 (by kernel_rfl) (by kernel_rfl) (by kernel_rfl) (by kernel_rfl)) ?_
  intro W base args ds gs before hval0 hW hcnd hsz0 _
  have hsz : (DataW.weightsEach Try.prog (Try.f3.params.toList ++ Rows.retireAllSpec.plain.varTypes Try.prog) (ds ++ gs)).all (· ≤ reachBytes) = true := hsz0
  have hval : ∀ (j : Nat) t v, Try.f3.params[j]? = some t → args[j]? = some v → Value.okWide Try.prog W .any base t v := hval0
  have hW' := hW
  obtain ⟨p, q, hA0, hV, rfl, hfz, hnd⟩ := hW
  have hA : DataW.TrodAll enc Try.prog W 0 (fun _ => true) true Try.f3.params.toList args.toList ds p := hA0
  rw [Try.params3] at hA hval hsz
  obtain ⟨v0, vs0, d0, ds0, p0, q0, hargs, rfl, rfl, h0, r0⟩ := trodAll_cons hA
  obtain ⟨v1, vs1, d1, ds1, p1, q1, rfl, rfl, rfl, h1, r1⟩ := trodAll_cons r0
  obtain ⟨rfl, rfl, rfl⟩ := trodAll_nil r1
  obtain rfl : args = #[v0, v1] := by cases args; simp_all
  obtain ⟨rfl, rfl⟩ := trodVars_none hV
  have k0 := h0
  have lt0 : ∀ x ∈ p0, x.block < W.heap.size := by obtain ⟨m, hm⟩ := k0; exact DataW.trod_lt m _ _ _ hm
  have k1 := h1
  have lt1 : ∀ x ∈ p1, x.block < W.heap.size := by obtain ⟨m, hm⟩ := k1; exact DataW.trod_lt m _ _ _ hm
  obtain ⟨A0, c0, xs0, rfl, hl0, hC0, hm0, hg0⟩ := arg_slice Try.underlying22 (by kernel_rfl) (opens_struct (d := Kd.pair Kd.bool (Kd.pair (Kd.iso (Kd.pair (Kd.int .i64) (Kd.int .i64)) id) (Kd.int .i64))) Try.underlying30 (by kernel_rfl) (fields_cons rfl rfl (by kernel_rfl) (opens_bool Try.underlying4) (fields_cons rfl rfl (by kernel_rfl) (opens_struct (d := Kd.pair (Kd.int .i64) (Kd.int .i64)) Try.underlying28 (by kernel_rfl) (fields_cons rfl rfl (by kernel_rfl) (opens_int Try.underlying3) (fields_last rfl rfl (by kernel_rfl) (opens_int Try.underlying3))) id id (fun _ => rfl)) (fields_last rfl rfl (by kernel_rfl) (opens_int Try.underlying3)))) id id (fun _ => rfl)) (hval 0 22 v0 rfl rfl) h0
  obtain ⟨a1, rfl, rfl, rfl, w1⟩ := open_int Try.underlying3 (hval 1 3 v1 rfl rfl) h1
  clear hA0 hval0 hsz0 hsz
  refine (walk2 a1 W hl0 hC0).mono fun e W' ⟨he, bel⟩ => ?_
  subst he
  exact ⟨_, rfl, _, _, _, [], _, [], hW', trodAll_mk1 (shut_bool Try.underlying4 _), (trodAll_cons_mk (Below.trod laidOut (by kernel_rfl) (of_decide_eq_true (by kernel_rfl)) k0 bel lt0) (trodAll_cons_mk (shut_int Try.underlying3 w1) trodAll_mk0)), rfl, bel.frame _, fun h => by cases h⟩
theorem over : Rows.retireAllRow.holds Try.pinned (OpenSpec.ofChange Rows.retireAllSpec) :=
  OpenClaim.holds_of_wide 3 Try.f3 rfl rfl rfl rfl rfl rfl rfl ⟨rfl, rfl, rfl, rfl, rfl⟩ rfl rfl rfl rfl rfl (by kernel_rfl) Try.func3 (by kernel_rfl)
    (of_decide_eq_true (by kernel_rfl)) (by unfold Func.isWrapper; first | (rw [if_pos (by decide +kernel)]; kernel_rfl) | (rw [if_neg (by decide +kernel)]; exact ⟨rfl, rfl⟩))
    (fun os started H enc _ => lifted os started H enc)
end Go.Proofs.Ytjpfggpcppcpbaa.RowRetireAll
namespace Go.Proofs.Ytjpfggpcppcpbaa
/-- The row. -/
theorem retireAll_holds : Rows.RetireAllSaid := RowRetireAll.over
end Go.Proofs.Ytjpfggpcppcpbaa
