/- The row of EpochsPlays over its walk and its pure law: no condition. -/
import Derived.Test.YtdnfmfjaljkjkaaEpPlays
import Derived.Test.YtdnfmfjaljkjkaaOpens
import Derived.Test.YtdnfmfjaljkjkaaRows
import Derived.WalkKit
import Derived.ProofKit
import Derived.OpenShut
import Derived.ShutString
import Derived.ChangeOld
import Derived.Below
import Derived.SizedLaws
namespace Go.Proofs.Ytdnfmfjaljkjkaa.RowEpochsPlays
open Go.ChangeShapes Go.WideShapes Go.ChangeAt Go.RowKit
open Go.ChangeMaps (open_string shut_string)
open Go.Proofs.Ytdnfmfjaljkjkaa.Opens Go.Proofs.YtdnfmfjaljkjkaaW.PrintWords

set_option linter.unusedVariables false
theorem walk2 {xs : List Int} {cs : List Value} {A0 : Option Addr} {c0 : Nat} {l : List PEpochsPlays.S36} (a : Int) (W : World) (hcl : cs.length = 2 * (Kd.int .i64).sz) (hxl : xs.length = 2) (hg : ∀ z ∈ xs, (Lit.int .i64 z).wf = true) (hK : ∀ i z, xs[i]? = some z → (Kd.int .i64).K W z ((cs.drop (i * (Kd.int .i64).sz)).take (Kd.int .i64).sz)) (hl : l.length ≤ c0) (hC : Kd.C PEpochsPlays.k36 W A0 l.length l) :
    Calls Try.prog 3 #[.agg cs.toArray, .slice A0 l.length c0, .int .i64 a] W fun e w' => e = .returned (.bool true) ∧ Below W.heap.size W w' := by
  obtain ⟨n, m, rfl, rfl, _, _⟩ := two_scalars hcl hxl hg hK
  exact Ep.plays.calls n m a W hl hC

theorem own : ownKnob Try.prog.godebug = none := by kernel_rfl
theorem laidOut : laidOutB Try.prog = true := by kernel_rfl
set_option maxRecDepth 100000 in
theorem lifted (os : Os) (started : os.Started) (H : Type) (enc : TypeId × Value → H) :
    ReturnsInHanded {} Try.checked os 3 .any (Rows.epochsPlaysSpec.pre6 enc Try.prog Try.f3 Rows.epochsPlaysRow.domain false) (Rows.epochsPlaysSpec.post enc Try.prog Try.f3 false true false false) := by
  refine returnsInHanded_of_change_sized (C := Try.checked) own started (by kernel_rfl) Try.func3
    (ChangeSpec.witness6 (enc := enc) (C := Try.checked) false ⟨#[], #[.agg #[.int .i64 0, .int .i64 0], .slice none 0 0, .int .i64 0], []⟩ 8 (by kernel_rfl) (by kernel_rfl) (by kernel_rfl) (by kernel_rfl)) ?_
  intro W base args ds gs before hval0 hW hcnd hsz0 _
  have hsz : (DataW.weightsEach Try.prog (Try.f3.params.toList ++ Rows.epochsPlaysSpec.plain.varTypes Try.prog) (ds ++ gs)).all (· ≤ reachBytes) = true := hsz0
  have hval : ∀ (j : Nat) t v, Try.f3.params[j]? = some t → args[j]? = some v → Value.okWide Try.prog W .any base t v := hval0
  have hW' := hW
  obtain ⟨p, q, hA0, hV, rfl, hfz, hnd⟩ := hW
  have hA : DataW.TrodAll enc Try.prog W 0 (fun _ => true) true Try.f3.params.toList args.toList ds p := hA0
  rw [Try.params3] at hA hval hsz
  obtain ⟨v0, vs0, d0, ds0, p0, q0, hargs, rfl, rfl, h0, r0⟩ := trodAll_cons hA
  obtain ⟨v1, vs1, d1, ds1, p1, q1, rfl, rfl, rfl, h1, r1⟩ := trodAll_cons r0
  obtain ⟨v2, vs2, d2, ds2, p2, q2, rfl, rfl, rfl, h2, r2⟩ := trodAll_cons r1
  obtain ⟨rfl, rfl, rfl⟩ := trodAll_nil r2
  obtain rfl : args = #[v0, v1, v2] := by cases args; simp_all
  obtain ⟨rfl, rfl⟩ := trodVars_none hV
  have k0 := h0
  have lt0 : ∀ x ∈ p0, x.block < W.heap.size := by obtain ⟨m, hm⟩ := k0; exact DataW.trod_lt m _ _ _ hm
  have k1 := h1
  have lt1 : ∀ x ∈ p1, x.block < W.heap.size := by obtain ⟨m, hm⟩ := k1; exact DataW.trod_lt m _ _ _ hm
  have k2 := h2
  have lt2 : ∀ x ∈ p2, x.block < W.heap.size := by obtain ⟨m, hm⟩ := k2; exact DataW.trod_lt m _ _ _ hm
  obtain ⟨xs0, cs0, rfl, hcl0, hxl0, hg0, hK0⟩ := arg_array Try.underlying22 (by kernel_rfl) (by kernel_rfl) (opens_int Try.underlying3) (hval 0 22 v0 rfl rfl) h0
  obtain ⟨A1, c1, xs1, rfl, hl1, hC1, hm1, hg1⟩ := arg_slice Try.underlying23 (by kernel_rfl) (opens_struct (d := Kd.pair (Kd.int .i64) (Kd.int .i64)) Try.underlying36 (by kernel_rfl) (fields_cons rfl rfl (by kernel_rfl) (opens_int Try.underlying3) (fields_last rfl rfl (by kernel_rfl) (opens_int Try.underlying3))) (fun x : PEpochsPlays.S36 => (x.f0, x.f1)) (fun p => ⟨p.1, p.2⟩) (fun _ => rfl)) (hval 1 23 v1 rfl rfl) h1
  obtain ⟨a2, rfl, rfl, rfl, w2⟩ := open_int Try.underlying3 (hval 2 3 v2 rfl rfl) h2
  clear hA0 hval0 hsz0 hsz
  refine (walk2 a2 W hcl0 hxl0 hg0 hK0 hl1 hC1).mono fun e W' ⟨he, bel⟩ => ?_
  subst he
  exact ⟨_, rfl, _, _, _, [], _, [], hW', trodAll_mk1 (shut_bool Try.underlying4 _), (trodAll_cons_mk (Below.trod laidOut (by kernel_rfl) (of_decide_eq_true (by kernel_rfl)) k0 bel lt0) (trodAll_cons_mk (Below.trod laidOut (by kernel_rfl) (of_decide_eq_true (by kernel_rfl)) k1 bel lt1) (trodAll_cons_mk (shut_int Try.underlying3 w2) trodAll_mk0))), rfl, bel.frame _, fun h => by cases h⟩
theorem over : Rows.epochsPlaysRow.holds Try.pinned (OpenSpec.ofChange Rows.epochsPlaysSpec) :=
  OpenClaim.holds_of_wide 3 Try.f3 rfl rfl rfl rfl rfl rfl rfl ⟨rfl, rfl, rfl, rfl, rfl⟩ rfl rfl rfl rfl rfl (by kernel_rfl) Try.func3 (by kernel_rfl)
    (of_decide_eq_true (by kernel_rfl)) (by unfold Func.isWrapper; first | (rw [if_pos (by decide +kernel)]; kernel_rfl) | (rw [if_neg (by decide +kernel)]; exact ⟨rfl, rfl⟩))
    (fun os started H enc _ => lifted os started H enc)
end Go.Proofs.Ytdnfmfjaljkjkaa.RowEpochsPlays
namespace Go.Proofs.Ytdnfmfjaljkjkaa
/-- The row. -/
theorem epochsPlays_holds : Rows.EpochsPlaysSaid := RowEpochsPlays.over
end Go.Proofs.Ytdnfmfjaljkjkaa
