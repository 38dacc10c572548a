/- The row of NodeParts over its walk and its pure law: no condition. -/
import Derived.Test.YtglbcfkmaamhaaaNdV
import Derived.Test.YtglbcfkmaamhaaaOpens
import Derived.Test.YtglbcfkmaamhaaaRows
import Derived.WalkKit
import Derived.ProofKit
import Derived.OpenShut
import Derived.ShutString
import Derived.ChangeOld
import Derived.Below
import Derived.SizedLaws
namespace Go.Proofs.Ytglbcfkmaamhaaa.RowNodeParts
open Go.ChangeShapes Go.WideShapes Go.ChangeAt Go.RowKit
open Go.ChangeMaps (open_string shut_string)
open Go.Proofs.Ytglbcfkmaamhaaa.Opens Go.Proofs.YtglbcfkmaamhaaaW.PrintWords

set_option linter.unusedVariables false
abbrev N0 := Bool × Int × List ByteArray × List (Int × Int)
theorem ref_of : ∀ w (x : Int × Int) cs, Kd.K (Kd.iso (Kd.pair (Kd.int .i64) (Kd.int .i64)) id) w x cs → cs = [.int .i64 x.1, .int .i64 x.2] := by
  rintro w x cs ⟨c0, c1, rfl, h0, h1⟩
  have h0' : c0 = [.int .i64 x.1] := h0
  have h1' : c1 = [.int .i64 x.2] := h1
  subst h0' h1'
  rfl
theorem str_of : ∀ w (x : ByteArray) cs, Kd.K Kd.string w x cs → cs = [.string x] := fun w x cs h => h
def nflat (z : N0) : Nd.Nd := ⟨z.1, z.2.1, z.2.2.1, z.2.2.2⟩
theorem node_of {W : World} {z : N0} {cs : List Value} (hK : (Kd.iso (Kd.pair (Kd.bool) (Kd.pair (Kd.int .i64) (Kd.pair (Kd.slice 9 Kd.string) (Kd.slice 33 (Kd.iso (Kd.pair (Kd.int .i64) (Kd.int .i64)) id))))) id).K W z cs) : Nd.NV W [] (nflat z) (.agg cs.toArray) := by
  obtain ⟨e1, e2, rfl, h1, f1, f2, rfl, h2, g1, g2, rfl, ⟨A2, k2, rfl, l2, C2⟩, ⟨A3, k3, rfl, l3, C3⟩⟩ := hK
  have h1' : e1 = [.bool z.1] := h1
  have h2' : f1 = [.int .i64 z.2.1] := h2
  subst h1' h2'
  have R2 := Hv.Rd.of_C (fun x => [Value.string x]) str_of (fun _ => rfl) C2
  have R3 := Hv.Rd.of_C (fun x => Nd.rcel x) ref_of (fun _ => rfl) C3
  have e2 : z.2.2.1.flatMap (fun x => [Value.string x]) = z.2.2.1.map Value.string := by
    induction z.2.2.1 with
    | nil => rfl
    | cons a l ih => simp only [List.flatMap_cons, List.map_cons, ih]; rfl
  have R2' : Hv.Rd 1 W A2 z.2.2.1.length (z.2.2.1.map Value.string) := by rw [← e2]; exact R2
  exact ⟨A2, k2, A3, k3, rfl, ⟨Nd.Rdy.of_rd R2' [], Nd.Rdy.of_rd R3 [], l2, l3⟩⟩
theorem walk2 {z z1 : N0} {cs cs1 : List Value} (key : ByteArray) (W : World) (hK : (Kd.iso (Kd.pair (Kd.bool) (Kd.pair (Kd.int .i64) (Kd.pair (Kd.slice 9 Kd.string) (Kd.slice 33 (Kd.iso (Kd.pair (Kd.int .i64) (Kd.int .i64)) id))))) id).K W z cs) (hK1 : (Kd.iso (Kd.pair (Kd.bool) (Kd.pair (Kd.int .i64) (Kd.pair (Kd.slice 9 Kd.string) (Kd.slice 33 (Kd.iso (Kd.pair (Kd.int .i64) (Kd.int .i64)) id))))) id).K W z1 cs1) :
    Calls Try.prog 8 #[.agg cs.toArray, .agg cs1.toArray, .string key] W fun e w' => e = .returned (.bool true) ∧ Below W.heap.size W w' := Nd.parts.calls (node_of hK) (node_of hK1) key

theorem own : ownKnob Try.prog.godebug = none := by kernel_rfl
theorem laidOut : laidOutB Try.prog = true := by kernel_rfl
set_option maxRecDepth 100000 in
theorem lifted (os : Os) (started : os.Started) (H : Type) (enc : TypeId × Value → H) :
    ReturnsInHanded {} Try.checked os 8 .any (Rows.nodePartsSpec.pre6 enc Try.prog Try.f8 Rows.nodePartsRow.domain false) (Rows.nodePartsSpec.post enc Try.prog Try.f8 false true false false) := by
  refine returnsInHanded_of_change_sized (C := Try.checked) own started (by kernel_rfl) Try.func8
    (ChangeSpec.witness6 (enc := enc) (C := Try.checked) false ⟨#[], #[.agg #[.bool false, .int .i64 0, .slice none 0 0, .slice none 0 0], .agg #[.bool false, .int .i64 0, .slice none 0 0, .slice none 0 0], .string ByteArray.empty], []⟩ 8 (by kernel_rfl) (by kernel_rfl) (by kernel_rfl) (by kernel_rfl)) ?_
  intro W base args ds gs before hval0 hW hcnd hsz0 _
  have hsz : (DataW.weightsEach Try.prog (Try.f8.params.toList ++ Rows.nodePartsSpec.plain.varTypes Try.prog) (ds ++ gs)).all (· ≤ reachBytes) = true := hsz0
  have hval : ∀ (j : Nat) t v, Try.f8.params[j]? = some t → args[j]? = some v → Value.okWide Try.prog W .any base t v := hval0
  have hW' := hW
  obtain ⟨p, q, hA0, hV, rfl, hfz, hnd⟩ := hW
  have hA : DataW.TrodAll enc Try.prog W 0 (fun _ => true) true Try.f8.params.toList args.toList ds p := hA0
  rw [Try.params8] at hA hval hsz
  obtain ⟨v0, vs0, d0, ds0, p0, q0, hargs, rfl, rfl, h0, r0⟩ := trodAll_cons hA
  obtain ⟨v1, vs1, d1, ds1, p1, q1, rfl, rfl, rfl, h1, r1⟩ := trodAll_cons r0
  obtain ⟨v2, vs2, d2, ds2, p2, q2, rfl, rfl, rfl, h2, r2⟩ := trodAll_cons r1
  obtain ⟨rfl, rfl, rfl⟩ := trodAll_nil r2
  obtain rfl : args = #[v0, v1, v2] := by cases args; simp_all
  obtain ⟨rfl, rfl⟩ := trodVars_none hV
  have k0 := h0
  have lt0 : ∀ x ∈ p0, x.block < W.heap.size := by obtain ⟨m, hm⟩ := k0; exact DataW.trod_lt m _ _ _ hm
  have k1 := h1
  have lt1 : ∀ x ∈ p1, x.block < W.heap.size := by obtain ⟨m, hm⟩ := k1; exact DataW.trod_lt m _ _ _ hm
  have k2 := h2
  have lt2 : ∀ x ∈ p2, x.block < W.heap.size := by obtain ⟨m, hm⟩ := k2; exact DataW.trod_lt m _ _ _ hm
  obtain ⟨z0, cs0, rfl, hK0, hg0⟩ := arg_struct Try.underlying59 (opens_struct (d := (Kd.pair (Kd.bool) (Kd.pair (Kd.int .i64) (Kd.pair (Kd.slice 9 Kd.string) (Kd.slice 33 (Kd.iso (Kd.pair (Kd.int .i64) (Kd.int .i64)) id)))))) Try.underlying59 (by kernel_rfl) (fields_cons rfl rfl (by kernel_rfl) (opens_bool Try.underlying4) (fields_cons rfl rfl (by kernel_rfl) (opens_int Try.underlying3) (fields_cons rfl rfl (by kernel_rfl) (opens_slice Try.underlying57 (by kernel_rfl) (opens_string Try.underlying9)) (fields_last rfl rfl (by kernel_rfl) (opens_slice Try.underlying31 (by kernel_rfl) (opens_struct (d := (Kd.pair (Kd.int .i64) (Kd.int .i64))) Try.underlying33 (by kernel_rfl) (fields_cons rfl rfl (by kernel_rfl) (opens_int Try.underlying3) (fields_last rfl rfl (by kernel_rfl) (opens_int Try.underlying3))) id id (fun _ => rfl))))))) id id (fun _ => rfl)) (hval 0 59 v0 rfl rfl) h0
  obtain ⟨z1, cs1, rfl, hK1, hg1⟩ := arg_struct Try.underlying59 (opens_struct (d := (Kd.pair (Kd.bool) (Kd.pair (Kd.int .i64) (Kd.pair (Kd.slice 9 Kd.string) (Kd.slice 33 (Kd.iso (Kd.pair (Kd.int .i64) (Kd.int .i64)) id)))))) Try.underlying59 (by kernel_rfl) (fields_cons rfl rfl (by kernel_rfl) (opens_bool Try.underlying4) (fields_cons rfl rfl (by kernel_rfl) (opens_int Try.underlying3) (fields_cons rfl rfl (by kernel_rfl) (opens_slice Try.underlying57 (by kernel_rfl) (opens_string Try.underlying9)) (fields_last rfl rfl (by kernel_rfl) (opens_slice Try.underlying31 (by kernel_rfl) (opens_struct (d := (Kd.pair (Kd.int .i64) (Kd.int .i64))) Try.underlying33 (by kernel_rfl) (fields_cons rfl rfl (by kernel_rfl) (opens_int Try.underlying3) (fields_last rfl rfl (by kernel_rfl) (opens_int Try.underlying3))) id id (fun _ => rfl))))))) id id (fun _ => rfl)) (hval 1 59 v1 rfl rfl) h1
  obtain ⟨a2, rfl, rfl, rfl, y2⟩ := open_string Try.underlying9 (hval 2 9 v2 rfl rfl) h2
  have w2 : a2.size ≤ 140737488351232 := by
    have z := sized_string hsz (j := 2) (t := 9) rfl rfl
    rw [Array.length_toList] at z
    exact z
  clear hA0 hval0 hsz0 hsz
  refine (walk2 a2 W hK0 hK1).mono fun e W' ⟨he, bel⟩ => ?_
  subst he
  exact ⟨_, rfl, _, _, _, [], _, [], hW', trodAll_mk1 (shut_bool Try.underlying4 _), (trodAll_cons_mk (Below.trod laidOut (by kernel_rfl) (of_decide_eq_true (by kernel_rfl)) k0 bel lt0) (trodAll_cons_mk (Below.trod laidOut (by kernel_rfl) (of_decide_eq_true (by kernel_rfl)) k1 bel lt1) (trodAll_cons_mk (shut_string Try.underlying9 y2) trodAll_mk0))), rfl, bel.frame _, fun h => by cases h⟩
theorem over : Rows.nodePartsRow.holds Try.pinned (OpenSpec.ofChange Rows.nodePartsSpec) :=
  OpenClaim.holds_of_wide 8 Try.f8 rfl rfl rfl rfl rfl rfl rfl ⟨rfl, rfl, rfl, rfl, rfl⟩ rfl rfl rfl rfl rfl (by kernel_rfl) Try.func8 (by kernel_rfl)
    (of_decide_eq_true (by kernel_rfl)) (by unfold Func.isWrapper; first | (rw [if_pos (by decide +kernel)]; kernel_rfl) | (rw [if_neg (by decide +kernel)]; exact ⟨rfl, rfl⟩))
    (fun os started H enc _ => lifted os started H enc)
end Go.Proofs.Ytglbcfkmaamhaaa.RowNodeParts
namespace Go.Proofs.Ytglbcfkmaamhaaa
/-- The row. -/
theorem nodeParts_holds : Rows.NodePartsSaid := RowNodeParts.over
end Go.Proofs.Ytglbcfkmaamhaaa
