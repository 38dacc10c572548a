/- The row of RetirePlays over its walk and its pure law: no condition. -/
import Derived.Test.YtjpfggpcppcpbaaRtH
import Derived.Test.YtjpfggpcppcpbaaOpens
import Derived.Test.YtjpfggpcppcpbaaRows
import Derived.WalkKit
import Derived.ProofKit
import Derived.OpenShut
import Derived.ShutString
import Derived.ChangeOld
import Derived.Below
import Derived.SizedLaws
namespace Go.Proofs.Ytjpfggpcppcpbaa.RowRetirePlays
open Go.ChangeShapes Go.WideShapes Go.ChangeAt Go.RowKit
open Go.ChangeMaps (open_string shut_string)
open Go.Proofs.Ytjpfggpcppcpbaa.Opens Go.Proofs.YtjpfggpcppcpbaaW.PrintWords

set_option linter.unusedVariables false
abbrev R0 := Bool × (Int × Int) × Int
def flat0 (x : R0) : Rt.Rd := (x.1, x.2.1.1, x.2.1.2, x.2.2)
theorem cel_of : ∀ w (x : R0) cs, Kd.K (Kd.iso (Kd.pair Kd.bool (Kd.pair (Kd.iso (Kd.pair (Kd.int .i64) (Kd.int .i64)) id) (Kd.int .i64))) id) w x cs → cs = Rt.cel (flat0 x) := by
  rintro w x cs ⟨c0, e0, rfl, h0, c1, c2, rfl, ⟨c3, c4, rfl, h3, h4⟩, h2⟩
  have h0' : c0 = [.bool x.1] := h0
  have h3' : c3 = [.int .i64 x.2.1.1] := h3
  have h4' : c4 = [.int .i64 x.2.1.2] := h4
  have h2' : c2 = [.int .i64 x.2.2] := h2
  subst h0' h3' h4' h2'
  rfl
abbrev D0 := Bool × R0 × Int
def dflat (x : D0) : Rt.Dd := (x.1, flat0 x.2.1, x.2.2)
theorem dcel_of : ∀ w (x : D0) cs, Kd.K (Kd.iso (Kd.pair Kd.bool (Kd.pair (Kd.iso (Kd.pair Kd.bool (Kd.pair (Kd.iso (Kd.pair (Kd.int .i64) (Kd.int .i64)) id) (Kd.int .i64))) id) (Kd.int .i64))) id) w x cs → cs = Rt.dcel (dflat x) := by
  rintro w x cs ⟨c0, e0, rfl, h0, c1, c2, rfl, h1, h2⟩
  have h0' : c0 = [.bool x.1] := h0
  have h1' := cel_of w _ _ h1
  have h2' : c2 = [.int .i64 x.2.2] := h2
  subst h0' h1' h2'
  rfl
theorem walk2 {A0 : Option Addr} {c0 : Nat} {l : List D0} (W : World) (hl : l.length ≤ c0) (hC : Kd.C (Kd.iso (Kd.pair Kd.bool (Kd.pair (Kd.iso (Kd.pair Kd.bool (Kd.pair (Kd.iso (Kd.pair (Kd.int .i64) (Kd.int .i64)) id) (Kd.int .i64))) id) (Kd.int .i64))) id) W A0 l.length l) :
    Calls Try.prog 4 #[.slice A0 l.length c0] W fun e w' => e = .returned (.bool true) ∧ Below W.heap.size W w' := by
  have h := Hv.Rd.of_C (fun x => Rt.dcel (dflat x)) dcel_of (fun _ => rfl) hC
  have e : l.flatMap (fun x => Rt.dcel (dflat x)) = (l.map dflat).flatMap Rt.dcel := by rw [List.flatMap_map]
  rw [e] at h
  have := Rt.plays.calls (A0 := A0) (c0 := c0) (l := l.map dflat) W (by simpa using hl) (by rw [List.length_map]; exact h)
  simpa using this

theorem own : ownKnob Try.prog.godebug = none := by kernel_rfl
theorem laidOut : laidOutB Try.prog = true := by kernel_rfl
set_option maxRecDepth 100000 in
theorem lifted (os : Os) (started : os.Started) (H : Type) (enc : TypeId × Value → H) :
    ReturnsInHanded {} Try.checked os 4 .any (Rows.retirePlaysSpec.pre6 enc Try.prog Try.f4 Rows.retirePlaysRow.domain false) (Rows.retirePlaysSpec.post enc Try.prog Try.f4 false true false false) := by
  refine returnsInHanded_of_change_sized (C := Try.checked) own started (by kernel_rfl) Try.func4
    (ChangeSpec.witness6 (enc := enc) (C := Try.checked) false ⟨#[], #[.slice none 0 0], []⟩ 8 (by kernel_rfl) (by kernel_rfl) (by kernel_rfl) (by kernel_rfl)) ?_
  intro W base args ds gs before hval0 hW hcnd hsz0 _
  have hsz : (DataW.weightsEach Try.prog (Try.f4.params.toList ++ Rows.retirePlaysSpec.plain.varTypes Try.prog) (ds ++ gs)).all (· ≤ reachBytes) = true := hsz0
  have hval : ∀ (j : Nat) t v, Try.f4.params[j]? = some t → args[j]? = some v → Value.okWide Try.prog W .any base t v := hval0
  have hW' := hW
  obtain ⟨p, q, hA0, hV, rfl, hfz, hnd⟩ := hW
  have hA : DataW.TrodAll enc Try.prog W 0 (fun _ => true) true Try.f4.params.toList args.toList ds p := hA0
  rw [Try.params4] at hA hval hsz
  obtain ⟨v0, vs0, d0, ds0, p0, q0, hargs, rfl, rfl, h0, r0⟩ := trodAll_cons hA
  obtain ⟨rfl, rfl, rfl⟩ := trodAll_nil r0
  obtain rfl : args = #[v0] := by cases args; simp_all
  obtain ⟨rfl, rfl⟩ := trodVars_none hV
  have k0 := h0
  have lt0 : ∀ x ∈ p0, x.block < W.heap.size := by obtain ⟨m, hm⟩ := k0; exact DataW.trod_lt m _ _ _ hm
  obtain ⟨A0, c0, xs0, rfl, hl0, hC0, hm0, hg0⟩ := arg_slice Try.underlying34 (by kernel_rfl) (opens_struct (d := Kd.pair Kd.bool (Kd.pair (Kd.iso (Kd.pair Kd.bool (Kd.pair (Kd.iso (Kd.pair (Kd.int .i64) (Kd.int .i64)) id) (Kd.int .i64))) id) (Kd.int .i64))) Try.underlying36 (by kernel_rfl) (fields_cons rfl rfl (by kernel_rfl) (opens_bool Try.underlying4) (fields_cons rfl rfl (by kernel_rfl) (opens_struct (d := Kd.pair Kd.bool (Kd.pair (Kd.iso (Kd.pair (Kd.int .i64) (Kd.int .i64)) id) (Kd.int .i64))) Try.underlying30 (by kernel_rfl) (fields_cons rfl rfl (by kernel_rfl) (opens_bool Try.underlying4) (fields_cons rfl rfl (by kernel_rfl) (opens_struct (d := Kd.pair (Kd.int .i64) (Kd.int .i64)) Try.underlying28 (by kernel_rfl) (fields_cons rfl rfl (by kernel_rfl) (opens_int Try.underlying3) (fields_last rfl rfl (by kernel_rfl) (opens_int Try.underlying3))) id id (fun _ => rfl)) (fields_last rfl rfl (by kernel_rfl) (opens_int Try.underlying3)))) id id (fun _ => rfl)) (fields_last rfl rfl (by kernel_rfl) (opens_int Try.underlying3)))) id id (fun _ => rfl)) (hval 0 34 v0 rfl rfl) h0
  clear hA0 hval0 hsz0 hsz
  refine (walk2 W hl0 hC0).mono fun e W' ⟨he, bel⟩ => ?_
  subst he
  exact ⟨_, rfl, _, _, _, [], _, [], hW', trodAll_mk1 (shut_bool Try.underlying4 _), (trodAll_cons_mk (Below.trod laidOut (by kernel_rfl) (of_decide_eq_true (by kernel_rfl)) k0 bel lt0) trodAll_mk0), rfl, bel.frame _, fun h => by cases h⟩
theorem over : Rows.retirePlaysRow.holds Try.pinned (OpenSpec.ofChange Rows.retirePlaysSpec) :=
  OpenClaim.holds_of_wide 4 Try.f4 rfl rfl rfl rfl rfl rfl rfl ⟨rfl, rfl, rfl, rfl, rfl⟩ rfl rfl rfl rfl rfl (by kernel_rfl) Try.func4 (by kernel_rfl)
    (of_decide_eq_true (by kernel_rfl)) (by unfold Func.isWrapper; first | (rw [if_pos (by decide +kernel)]; kernel_rfl) | (rw [if_neg (by decide +kernel)]; exact ⟨rfl, rfl⟩))
    (fun os started H enc _ => lifted os started H enc)
end Go.Proofs.Ytjpfggpcppcpbaa.RowRetirePlays
namespace Go.Proofs.Ytjpfggpcppcpbaa
/-- The row. -/
theorem retirePlays_holds : Rows.RetirePlaysSaid := RowRetirePlays.over
end Go.Proofs.Ytjpfggpcppcpbaa
