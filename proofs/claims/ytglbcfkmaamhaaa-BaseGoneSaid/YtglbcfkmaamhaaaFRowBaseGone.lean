/- The row of BaseGone over its walk and its pure law: no condition. -/
import Derived.Test.YtglbcfkmaamhaaaFG24
import Derived.Test.YtglbcfkmaamhaaaRows
import Derived.WalkKit
import Derived.ProofKit
import Derived.OpenShut
import Derived.ShutString
import Derived.ChangeOld
import Derived.Below
import Derived.SizedLaws
namespace Go.Proofs.Ytglbcfkmaamhaaa.RowBaseGone
open Go.ChangeShapes Go.WideShapes Go.ChangeAt Go.RowKit
open Go.ChangeMaps (open_string shut_string)
open Go.Proofs.Ytglbcfkmaamhaaa.Opens Go.Proofs.YtglbcfkmaamhaaaW.PrintWords

set_option linter.unusedVariables false
abbrev D0 := Int × Int × Int × ByteArray × ByteArray × Bool × (Int × Int)
theorem deed_of : ∀ w (z : D0) cs, Kd.K (Kd.iso (Kd.pair (Kd.int .i64) (Kd.pair (Kd.int .i64) (Kd.pair (Kd.int .i64) (Kd.pair (Kd.string) (Kd.pair (Kd.string) (Kd.pair (Kd.bool) (Kd.iso (Kd.pair (Kd.int .i64) (Kd.int .i64)) id))))))) id) w z cs → cs = Bs.dcel z := by
  rintro w z cs ⟨e1, e2, rfl, h1, f1, f2, rfl, h2, g1, g2, rfl, h3, i1, i2, rfl, h4, j1, j2, rfl, h5, k1, k2, rfl, h6, ⟨r1, r2, rfl, hr1, hr2⟩⟩
  have h1' : e1 = [.int .i64 z.1] := h1
  have h2' : f1 = [.int .i64 z.2.1] := h2
  have h3' : g1 = [.int .i64 z.2.2.1] := h3
  have h4' : i1 = [.string z.2.2.2.1] := h4
  have h5' : j1 = [.string z.2.2.2.2.1] := h5
  have h6' : k1 = [.bool z.2.2.2.2.2.1] := h6
  have hr1' : r1 = [.int .i64 z.2.2.2.2.2.2.1] := hr1
  have hr2' : r2 = [.int .i64 z.2.2.2.2.2.2.2] := hr2
  subst h1' h2' h3' h4' h5' h6' hr1' hr2'
  rfl
theorem row_of {w : World} {A : Option Addr} {l : List D0} (h : Kd.C (Kd.iso (Kd.pair (Kd.int .i64) (Kd.pair (Kd.int .i64) (Kd.pair (Kd.int .i64) (Kd.pair (Kd.string) (Kd.pair (Kd.string) (Kd.pair (Kd.bool) (Kd.iso (Kd.pair (Kd.int .i64) (Kd.int .i64)) id))))))) id) w A l.length l) : Bs.DRow w A l := by
  intro k z hz
  have hlt := (List.getElem?_eq_some_iff.1 hz).1
  obtain ⟨a, e, h1⟩ := h.2.2 (by omega)
  obtain ⟨cs, h2, h3, h4⟩ := h1 k z hz
  have h5 := deed_of w z cs h3
  subst h5
  exact ⟨a, e, h4⟩
theorem walkG {A0 : Option Addr} {c0 : Nat} {l : List D0} (W : World) (hC : Kd.C (Kd.iso (Kd.pair (Kd.int .i64) (Kd.pair (Kd.int .i64) (Kd.pair (Kd.int .i64) (Kd.pair (Kd.string) (Kd.pair (Kd.string) (Kd.pair (Kd.bool) (Kd.iso (Kd.pair (Kd.int .i64) (Kd.int .i64)) id))))))) id) W A0 l.length l) (hm : l.length ≤ maxLen) (key : ByteArray) :
    Calls Try.prog 13 #[.slice A0 l.length c0, .string key] W fun e w' => e = .returned (.bool true) ∧ Below W.heap.size W w' :=
  Bs.gone.calls W l key (ad := A0) (c := c0) (by simpa [maxLen] using hm) (row_of hC)

theorem own : ownKnob Try.prog.godebug = none := by kernel_rfl
theorem laidOut : laidOutB Try.prog = true := by kernel_rfl
set_option maxRecDepth 100000 in
theorem lifted (os : Os) (started : os.Started) (H : Type) (enc : TypeId × Value → H) :
    ReturnsInHanded {} Try.checked os 13 .any (Rows.baseGoneSpec.pre6 enc Try.prog Try.f13 Rows.baseGoneRow.domain false) (Rows.baseGoneSpec.post enc Try.prog Try.f13 false true false false) := by
  refine returnsInHanded_of_change_sized (C := Try.checked) own started (by kernel_rfl) Try.func13
    (ChangeSpec.witness6 (enc := enc) (C := Try.checked) false ⟨#[], #[.slice none 0 0, .string ByteArray.empty], []⟩ 8 (by kernel_rfl) (by kernel_rfl) (by kernel_rfl) (by kernel_rfl)) ?_
  intro W base args ds gs before hval0 hW hcnd hsz0 _
  have hsz : (DataW.weightsEach Try.prog (Try.f13.params.toList ++ Rows.baseGoneSpec.plain.varTypes Try.prog) (ds ++ gs)).all (· ≤ reachBytes) = true := hsz0
  have hval : ∀ (j : Nat) t v, Try.f13.params[j]? = some t → args[j]? = some v → Value.okWide Try.prog W .any base t v := hval0
  have hW' := hW
  obtain ⟨p, q, hA0, hV, rfl, hfz, hnd⟩ := hW
  have hA : DataW.TrodAll enc Try.prog W 0 (fun _ => true) true Try.f13.params.toList args.toList ds p := hA0
  rw [Try.params13] at hA hval hsz
  obtain ⟨v0, vs0, d0, ds0, p0, q0, hargs, rfl, rfl, h0, r0⟩ := trodAll_cons hA
  obtain ⟨v1, vs1, d1, ds1, p1, q1, rfl, rfl, rfl, h1, r1⟩ := trodAll_cons r0
  obtain ⟨rfl, rfl, rfl⟩ := trodAll_nil r1
  obtain rfl : args = #[v0, v1] := by cases args; simp_all
  obtain ⟨rfl, rfl⟩ := trodVars_none hV
  have k0 := h0
  have lt0 : ∀ x ∈ p0, x.block < W.heap.size := by obtain ⟨m, hm⟩ := k0; exact DataW.trod_lt m _ _ _ hm
  have k1 := h1
  have lt1 : ∀ x ∈ p1, x.block < W.heap.size := by obtain ⟨m, hm⟩ := k1; exact DataW.trod_lt m _ _ _ hm
  obtain ⟨A0, c0, xs0, rfl, hl0, hC0, hm0, hg0⟩ := arg_slice Try.underlying114 (by kernel_rfl) (opens_struct (d := (Kd.pair (Kd.int .i64) (Kd.pair (Kd.int .i64) (Kd.pair (Kd.int .i64) (Kd.pair (Kd.string) (Kd.pair (Kd.string) (Kd.pair (Kd.bool) (Kd.iso (Kd.pair (Kd.int .i64) (Kd.int .i64)) id)))))))) Try.underlying124 (by kernel_rfl) (fields_cons rfl rfl (by kernel_rfl) (opens_int Try.underlying3) (fields_cons rfl rfl (by kernel_rfl) (opens_int Try.underlying3) (fields_cons rfl rfl (by kernel_rfl) (opens_int Try.underlying3) (fields_cons rfl rfl (by kernel_rfl) (opens_string Try.underlying9) (fields_cons rfl rfl (by kernel_rfl) (opens_string Try.underlying9) (fields_cons rfl rfl (by kernel_rfl) (opens_bool Try.underlying4) (fields_last rfl rfl (by kernel_rfl) (opens_struct (d := (Kd.pair (Kd.int .i64) (Kd.int .i64))) Try.underlying33 (by kernel_rfl) (fields_cons rfl rfl (by kernel_rfl) (opens_int Try.underlying3) (fields_last rfl rfl (by kernel_rfl) (opens_int Try.underlying3))) id id (fun _ => rfl))))))))) id id (fun _ => rfl)) (hval 0 114 v0 rfl rfl) h0
  obtain ⟨a1, rfl, rfl, rfl, y1⟩ := open_string Try.underlying9 (hval 1 9 v1 rfl rfl) h1
  have w1 : a1.size ≤ 140737488351232 := by
    have z := sized_string hsz (j := 1) (t := 9) rfl rfl
    rw [Array.length_toList] at z
    exact z
  clear hA0 hval0 hsz0 hsz
  refine (walkG W hC0 hm0 a1).mono fun e W' ⟨he, bel⟩ => ?_
  subst he
  exact ⟨_, rfl, _, _, _, [], _, [], hW', trodAll_mk1 (shut_bool Try.underlying4 _), (trodAll_cons_mk (Below.trod laidOut (by kernel_rfl) (of_decide_eq_true (by kernel_rfl)) k0 bel lt0) (trodAll_cons_mk (shut_string Try.underlying9 y1) trodAll_mk0)), rfl, bel.frame _, fun h => by cases h⟩
theorem over : Rows.baseGoneRow.holds Try.pinned (OpenSpec.ofChange Rows.baseGoneSpec) :=
  OpenClaim.holds_of_wide 13 Try.f13 rfl rfl rfl rfl rfl rfl rfl ⟨rfl, rfl, rfl, rfl, rfl⟩ rfl rfl rfl rfl rfl (by kernel_rfl) Try.func13 (by kernel_rfl)
    (of_decide_eq_true (by kernel_rfl)) (by unfold Func.isWrapper; first | (rw [if_pos (by decide +kernel)]; kernel_rfl) | (rw [if_neg (by decide +kernel)]; exact ⟨rfl, rfl⟩))
    (fun os started H enc _ => lifted os started H enc)
end Go.Proofs.Ytglbcfkmaamhaaa.RowBaseGone
namespace Go.Proofs.Ytglbcfkmaamhaaa
/-- The row. -/
theorem baseGone_holds : Rows.BaseGoneSaid := RowBaseGone.over
end Go.Proofs.Ytglbcfkmaamhaaa
