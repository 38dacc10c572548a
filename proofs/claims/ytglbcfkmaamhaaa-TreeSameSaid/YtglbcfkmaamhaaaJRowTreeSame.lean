/- The row of TreeSame over its walk and its pure law: no condition. -/
import Derived.Test.YtglbcfkmaamhaaaJG24
import Derived.Test.YtglbcfkmaamhaaaRows
import Derived.WalkKit
import Derived.ProofKit
import Derived.OpenShut
import Derived.ShutString
import Derived.ChangeOld
import Derived.Below
import Derived.SizedLaws
namespace Go.Proofs.Ytglbcfkmaamhaaa.RowTreeSame
open Go.ChangeShapes Go.WideShapes Go.ChangeAt Go.RowKit
open Go.ChangeMaps (open_string shut_string)
open Go.Proofs.Ytglbcfkmaamhaaa.Opens Go.Proofs.YtglbcfkmaamhaaaW.PrintWords

set_option linter.unusedVariables false
abbrev D0 := Int × ByteArray × (Int × Int) × ((Int × Int) × Int)
theorem deed_of : ∀ w (z : D0) cs, Kd.K (Kd.iso (Kd.pair (Kd.int .i64) (Kd.pair (Kd.string) (Kd.pair (Kd.iso (Kd.pair (Kd.int .i64) (Kd.int .i64)) id) (Kd.iso (Kd.pair (Kd.iso (Kd.pair (Kd.int .i64) (Kd.int .i64)) id) (Kd.int .i64)) id)))) id) w z cs → cs = Tr.dcel z := by
  rintro w z cs ⟨e1, e2, rfl, h1, f1, f2, rfl, h2, g1, g2, rfl, ⟨r1, r2, rfl, hr1, hr2⟩, s1, s2, rfl, ⟨t1, t2, rfl, ht1, ht2⟩, hs2⟩
  have h1' : e1 = [.int .i64 z.1] := h1
  have h2' : f1 = [.string z.2.1] := h2
  have hr1' : r1 = [.int .i64 z.2.2.1.1] := hr1
  have hr2' : r2 = [.int .i64 z.2.2.1.2] := hr2
  have ht1' : t1 = [.int .i64 z.2.2.2.1.1] := ht1
  have ht2' : t2 = [.int .i64 z.2.2.2.1.2] := ht2
  have hs2' : s2 = [.int .i64 z.2.2.2.2] := hs2
  subst h1' h2' hr1' hr2' ht1' ht2' hs2'
  rfl
theorem row_of {w : World} {A : Option Addr} {l : List D0} (h : Kd.C (Kd.iso (Kd.pair (Kd.int .i64) (Kd.pair (Kd.string) (Kd.pair (Kd.iso (Kd.pair (Kd.int .i64) (Kd.int .i64)) id) (Kd.iso (Kd.pair (Kd.iso (Kd.pair (Kd.int .i64) (Kd.int .i64)) id) (Kd.int .i64)) id)))) id) w A l.length l) : Tr.DRow w A l := by
  intro k z hz
  have hlt := (List.getElem?_eq_some_iff.1 hz).1
  obtain ⟨a, e, h1⟩ := h.2.2 (by omega)
  obtain ⟨cs, h2, h3, h4⟩ := h1 k z hz
  have h5 := deed_of w z cs h3
  subst h5
  exact ⟨a, e, h4⟩
theorem walkS {A0 A1 : Option Addr} {c0 c1 : Nat} {l m : List D0} {xs : List ByteArray} {cs : List Value} (W : World) (hC : Kd.C (Kd.iso (Kd.pair (Kd.int .i64) (Kd.pair (Kd.string) (Kd.pair (Kd.iso (Kd.pair (Kd.int .i64) (Kd.int .i64)) id) (Kd.iso (Kd.pair (Kd.iso (Kd.pair (Kd.int .i64) (Kd.int .i64)) id) (Kd.int .i64)) id)))) id) W A0 l.length l) (hm : l.length ≤ maxLen) (hC1 : Kd.C (Kd.iso (Kd.pair (Kd.int .i64) (Kd.pair (Kd.string) (Kd.pair (Kd.iso (Kd.pair (Kd.int .i64) (Kd.int .i64)) id) (Kd.iso (Kd.pair (Kd.iso (Kd.pair (Kd.int .i64) (Kd.int .i64)) id) (Kd.int .i64)) id)))) id) W A1 m.length m) (hm1 : m.length ≤ maxLen) (hcl : cs.length = 2 * Kd.string.sz) (hxl : xs.length = 2) (hK : ∀ i z, xs[i]? = some z → Kd.string.K W z ((cs.drop (i * Kd.string.sz)).take Kd.string.sz)) :
    Calls Try.prog 10 #[.slice A0 l.length c0, .slice A1 m.length c1, .agg cs.toArray] W fun e w' => e = .returned (.bool true) ∧ Below W.heap.size W w' := by
  obtain ⟨a, b, rfl, rfl, _, _⟩ := two_scalars (g := fun _ => True) hcl hxl (fun _ _ => trivial) hK
  exact Tr.same.law W l m a b (by simpa [maxLen] using hm) (row_of hC) (by simpa [maxLen] using hm1) (row_of hC1)

theorem own : ownKnob Try.prog.godebug = none := by kernel_rfl
theorem laidOut : laidOutB Try.prog = true := by kernel_rfl
set_option maxRecDepth 100000 in
theorem lifted (os : Os) (started : os.Started) (H : Type) (enc : TypeId × Value → H) :
    ReturnsInHanded {} Try.checked os 10 .any (Rows.treeSameSpec.pre6 enc Try.prog Try.f10 Rows.treeSameRow.domain false) (Rows.treeSameSpec.post enc Try.prog Try.f10 false true false false) := by
  refine returnsInHanded_of_change_sized (C := Try.checked) own started (by kernel_rfl) Try.func10
    (ChangeSpec.witness6 (enc := enc) (C := Try.checked) false ⟨#[], #[.slice none 0 0, .slice none 0 0, .agg #[.string ByteArray.empty, .string ByteArray.empty]], []⟩ 8 (by kernel_rfl) (by kernel_rfl) (by kernel_rfl) (by kernel_rfl)) ?_
  intro W base args ds gs before hval0 hW hcnd hsz0 _
  have hsz : (DataW.weightsEach Try.prog (Try.f10.params.toList ++ Rows.treeSameSpec.plain.varTypes Try.prog) (ds ++ gs)).all (· ≤ reachBytes) = true := hsz0
  have hval : ∀ (j : Nat) t v, Try.f10.params[j]? = some t → args[j]? = some v → Value.okWide Try.prog W .any base t v := hval0
  have hW' := hW
  obtain ⟨p, q, hA0, hV, rfl, hfz, hnd⟩ := hW
  have hA : DataW.TrodAll enc Try.prog W 0 (fun _ => true) true Try.f10.params.toList args.toList ds p := hA0
  rw [Try.params10] at hA hval hsz
  obtain ⟨v0, vs0, d0, ds0, p0, q0, hargs, rfl, rfl, h0, r0⟩ := trodAll_cons hA
  obtain ⟨v1, vs1, d1, ds1, p1, q1, rfl, rfl, rfl, h1, r1⟩ := trodAll_cons r0
  obtain ⟨v2, vs2, d2, ds2, p2, q2, rfl, rfl, rfl, h2, r2⟩ := trodAll_cons r1
  obtain ⟨rfl, rfl, rfl⟩ := trodAll_nil r2
  obtain rfl : args = #[v0, v1, v2] := by cases args; simp_all
  obtain ⟨rfl, rfl⟩ := trodVars_none hV
  have k0 := h0
  have lt0 : ∀ x ∈ p0, x.block < W.heap.size := by obtain ⟨m, hm⟩ := k0; exact DataW.trod_lt m _ _ _ hm
  have k1 := h1
  have lt1 : ∀ x ∈ p1, x.block < W.heap.size := by obtain ⟨m, hm⟩ := k1; exact DataW.trod_lt m _ _ _ hm
  have k2 := h2
  have lt2 : ∀ x ∈ p2, x.block < W.heap.size := by obtain ⟨m, hm⟩ := k2; exact DataW.trod_lt m _ _ _ hm
  obtain ⟨A0, c0, xs0, rfl, hl0, hC0, hm0, hg0⟩ := arg_slice Try.underlying77 (by kernel_rfl) (opens_struct (d := (Kd.pair (Kd.int .i64) (Kd.pair (Kd.string) (Kd.pair (Kd.iso (Kd.pair (Kd.int .i64) (Kd.int .i64)) id) (Kd.iso (Kd.pair (Kd.iso (Kd.pair (Kd.int .i64) (Kd.int .i64)) id) (Kd.int .i64)) id))))) Try.underlying87 (by kernel_rfl) (fields_cons rfl rfl (by kernel_rfl) (opens_int Try.underlying3) (fields_cons rfl rfl (by kernel_rfl) (opens_string Try.underlying9) (fields_cons rfl rfl (by kernel_rfl) (opens_struct (d := (Kd.pair (Kd.int .i64) (Kd.int .i64))) Try.underlying33 (by kernel_rfl) (fields_cons rfl rfl (by kernel_rfl) (opens_int Try.underlying3) (fields_last rfl rfl (by kernel_rfl) (opens_int Try.underlying3))) id id (fun _ => rfl)) (fields_last rfl rfl (by kernel_rfl) (opens_struct (d := (Kd.pair (Kd.iso (Kd.pair (Kd.int .i64) (Kd.int .i64)) id) (Kd.int .i64))) Try.underlying85 (by kernel_rfl) (fields_cons rfl rfl (by kernel_rfl) (opens_struct (d := (Kd.pair (Kd.int .i64) (Kd.int .i64))) Try.underlying33 (by kernel_rfl) (fields_cons rfl rfl (by kernel_rfl) (opens_int Try.underlying3) (fields_last rfl rfl (by kernel_rfl) (opens_int Try.underlying3))) id id (fun _ => rfl)) (fields_last rfl rfl (by kernel_rfl) (opens_int Try.underlying3))) id id (fun _ => rfl)))))) id id (fun _ => rfl)) (hval 0 77 v0 rfl rfl) h0
  obtain ⟨A1, c1, xs1, rfl, hl1, hC1, hm1, hg1⟩ := arg_slice Try.underlying77 (by kernel_rfl) (opens_struct (d := (Kd.pair (Kd.int .i64) (Kd.pair (Kd.string) (Kd.pair (Kd.iso (Kd.pair (Kd.int .i64) (Kd.int .i64)) id) (Kd.iso (Kd.pair (Kd.iso (Kd.pair (Kd.int .i64) (Kd.int .i64)) id) (Kd.int .i64)) id))))) Try.underlying87 (by kernel_rfl) (fields_cons rfl rfl (by kernel_rfl) (opens_int Try.underlying3) (fields_cons rfl rfl (by kernel_rfl) (opens_string Try.underlying9) (fields_cons rfl rfl (by kernel_rfl) (opens_struct (d := (Kd.pair (Kd.int .i64) (Kd.int .i64))) Try.underlying33 (by kernel_rfl) (fields_cons rfl rfl (by kernel_rfl) (opens_int Try.underlying3) (fields_last rfl rfl (by kernel_rfl) (opens_int Try.underlying3))) id id (fun _ => rfl)) (fields_last rfl rfl (by kernel_rfl) (opens_struct (d := (Kd.pair (Kd.iso (Kd.pair (Kd.int .i64) (Kd.int .i64)) id) (Kd.int .i64))) Try.underlying85 (by kernel_rfl) (fields_cons rfl rfl (by kernel_rfl) (opens_struct (d := (Kd.pair (Kd.int .i64) (Kd.int .i64))) Try.underlying33 (by kernel_rfl) (fields_cons rfl rfl (by kernel_rfl) (opens_int Try.underlying3) (fields_last rfl rfl (by kernel_rfl) (opens_int Try.underlying3))) id id (fun _ => rfl)) (fields_last rfl rfl (by kernel_rfl) (opens_int Try.underlying3))) id id (fun _ => rfl)))))) id id (fun _ => rfl)) (hval 1 77 v1 rfl rfl) h1
  obtain ⟨xs2, cs2, rfl, hcl2, hxl2, hg2, hK2⟩ := arg_array Try.underlying78 (by kernel_rfl) (by kernel_rfl) (opens_string Try.underlying9) (hval 2 78 v2 rfl rfl) h2
  clear hA0 hval0 hsz0 hsz
  refine (walkS W hC0 hm0 hC1 hm1 hcl2 hxl2 hK2).mono fun e W' ⟨he, bel⟩ => ?_
  subst he
  exact ⟨_, rfl, _, _, _, [], _, [], hW', trodAll_mk1 (shut_bool Try.underlying4 _), (trodAll_cons_mk (Below.trod laidOut (by kernel_rfl) (of_decide_eq_true (by kernel_rfl)) k0 bel lt0) (trodAll_cons_mk (Below.trod laidOut (by kernel_rfl) (of_decide_eq_true (by kernel_rfl)) k1 bel lt1) (trodAll_cons_mk (Below.trod laidOut (by kernel_rfl) (of_decide_eq_true (by kernel_rfl)) k2 bel lt2) trodAll_mk0))), rfl, bel.frame _, fun h => by cases h⟩
theorem over : Rows.treeSameRow.holds Try.pinned (OpenSpec.ofChange Rows.treeSameSpec) :=
  OpenClaim.holds_of_wide 10 Try.f10 rfl rfl rfl rfl rfl rfl rfl ⟨rfl, rfl, rfl, rfl, rfl⟩ rfl rfl rfl rfl rfl (by kernel_rfl) Try.func10 (by kernel_rfl)
    (of_decide_eq_true (by kernel_rfl)) (by unfold Func.isWrapper; first | (rw [if_pos (by decide +kernel)]; kernel_rfl) | (rw [if_neg (by decide +kernel)]; exact ⟨rfl, rfl⟩))
    (fun os started H enc _ => lifted os started H enc)
end Go.Proofs.Ytglbcfkmaamhaaa.RowTreeSame
namespace Go.Proofs.Ytglbcfkmaamhaaa
/-- The row. -/
theorem treeSame_holds : Rows.TreeSameSaid := RowTreeSame.over
end Go.Proofs.Ytglbcfkmaamhaaa
