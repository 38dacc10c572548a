/- The row of SetsPlays over its walk and its pure law: no condition. -/
import Derived.Test.YtgecokldbkamlaaStAM
import Derived.Test.YtgecokldbkamlaaOpens
import Derived.Test.YtgecokldbkamlaaRows
import Derived.WalkKit
import Derived.ProofKit
import Derived.OpenShut
import Derived.ShutString
import Derived.ChangeOld
import Derived.Below
import Derived.SizedLaws
namespace Go.Proofs.Ytgecokldbkamlaa.RowSetsPlays
open Go.ChangeShapes Go.WideShapes Go.ChangeAt Go.RowKit
open Go.ChangeMaps (open_string shut_string)
open Go.Proofs.Ytgecokldbkamlaa.Opens Go.Proofs.YtgecokldbkamlaaW.PrintWords

set_option linter.unusedVariables false
abbrev T0 := (Int × Int) × (Int × Int) × Int × Int × Bool
abbrev D0 := Int × ((Int × Int) × Int) × ((Int × Int) × Int) × (ByteArray × (Int × Int) × ByteArray × Bool) × List T0
def tflat (x : T0) : St.Tn := ⟨x.1, x.2.1, x.2.2.1, x.2.2.2.1, x.2.2.2.2⟩
def dflat (x : D0) : St.Dd := ⟨x.1, x.2.1, x.2.2.1, x.2.2.2.1, x.2.2.2.2.map tflat⟩
theorem ref_of : ∀ w (x : Int × Int) cs, Kd.K (Kd.iso (Kd.pair (Kd.int .i64) (Kd.int .i64)) id) w x cs → cs = [.int .i64 x.1, .int .i64 x.2] := by
  rintro w x cs ⟨c0, c1, rfl, h0, h1⟩
  have h0' : c0 = [.int .i64 x.1] := h0
  have h1' : c1 = [.int .i64 x.2] := h1
  subst h0' h1'
  rfl
theorem turn_of : ∀ w (x : T0) cs, Kd.K (Kd.iso (Kd.pair (Kd.iso (Kd.pair (Kd.int .i64) (Kd.int .i64)) id) (Kd.pair (Kd.iso (Kd.pair (Kd.int .i64) (Kd.int .i64)) id) (Kd.pair (Kd.int .i64) (Kd.pair (Kd.int .i64) (Kd.bool))))) id) w x cs → cs = St.tcel (tflat x) := by
  rintro w x cs ⟨c0, e0, rfl, h0, c1, e1, rfl, h1, c2, e2, rfl, h2, c3, c4, rfl, h3, h4⟩
  have h0' := ref_of w _ _ h0
  have h1' := ref_of w _ _ h1
  have h2' : c2 = [.int .i64 x.2.2.1] := h2
  have h3' : c3 = [.int .i64 x.2.2.2.1] := h3
  have h4' : c4 = [.bool x.2.2.2.2] := h4
  subst h0' h1' h2' h3' h4'
  rfl
theorem read_of : ∀ w (x : (Int × Int) × Int) cs, Kd.K (Kd.iso (Kd.pair (Kd.iso (Kd.pair (Kd.int .i64) (Kd.int .i64)) id) (Kd.int .i64)) id) w x cs → cs = [.int .i64 x.1.1, .int .i64 x.1.2, .int .i64 x.2] := by
  rintro w x cs ⟨c0, c1, rfl, h0, h1⟩
  have h0' := ref_of w _ _ h0
  have h1' : c1 = [.int .i64 x.2] := h1
  subst h0' h1'
  rfl
theorem write_of : ∀ w (x : ByteArray × (Int × Int) × ByteArray × Bool) cs, Kd.K (Kd.iso (Kd.pair (Kd.string) (Kd.pair (Kd.iso (Kd.pair (Kd.int .i64) (Kd.int .i64)) id) (Kd.pair (Kd.string) (Kd.bool)))) id) w x cs → cs = [.string x.1, .int .i64 x.2.1.1, .int .i64 x.2.1.2, .string x.2.2.1, .bool x.2.2.2] := by
  rintro w x cs ⟨c0, e0, rfl, h0, c1, e1, rfl, h1, c2, c3, rfl, h2, h3⟩
  have h0' : c0 = [.string x.1] := h0
  have h1' := ref_of w _ _ h1
  have h2' : c2 = [.string x.2.2.1] := h2
  have h3' : c3 = [.bool x.2.2.2] := h3
  subst h0' h1' h2' h3'
  rfl
theorem turns_of {w : World} {A : Option Addr} {n : Nat} {xs : List T0} (h : Kd.C (Kd.iso (Kd.pair (Kd.iso (Kd.pair (Kd.int .i64) (Kd.int .i64)) id) (Kd.pair (Kd.iso (Kd.pair (Kd.int .i64) (Kd.int .i64)) id) (Kd.pair (Kd.int .i64) (Kd.pair (Kd.int .i64) (Kd.bool))))) id) w A n xs) : Hv.Rd 7 w A n ((xs.map tflat).flatMap St.tcel) := by
  have h1 := Hv.Rd.of_C (fun x => St.tcel (tflat x)) turn_of (fun _ => rfl) h
  rw [List.flatMap_map]
  exact h1
theorem deed_of : ∀ w (x : D0) cs, Kd.K (Kd.iso (Kd.pair (Kd.int .i64) (Kd.pair (Kd.iso (Kd.pair (Kd.iso (Kd.pair (Kd.int .i64) (Kd.int .i64)) id) (Kd.int .i64)) id) (Kd.pair (Kd.iso (Kd.pair (Kd.iso (Kd.pair (Kd.int .i64) (Kd.int .i64)) id) (Kd.int .i64)) id) (Kd.pair (Kd.iso (Kd.pair (Kd.string) (Kd.pair (Kd.iso (Kd.pair (Kd.int .i64) (Kd.int .i64)) id) (Kd.pair (Kd.string) (Kd.bool)))) id) (Kd.slice 0 (Kd.iso (Kd.pair (Kd.iso (Kd.pair (Kd.int .i64) (Kd.int .i64)) id) (Kd.pair (Kd.iso (Kd.pair (Kd.int .i64) (Kd.int .i64)) id) (Kd.pair (Kd.int .i64) (Kd.pair (Kd.int .i64) (Kd.bool))))) id)))))) id) w x cs → ∃ ad c, cs = St.dcel (dflat x) ad c ∧ Hv.Rd 7 w ad (dflat x).ts.length ((dflat x).ts.flatMap St.tcel) := by
  rintro w x cs ⟨c0, e0, rfl, h0, c1, e1, rfl, h1, c2, e2, rfl, h2, c3, c4, rfl, h3, A, c, h4, h5, h6⟩
  have h0' : c0 = [.int .i64 x.1] := h0
  have h1' := read_of w _ _ h1
  have h2' := read_of w _ _ h2
  have h3' := write_of w _ _ h3
  subst h0' h1' h2' h3' h4
  refine ⟨A, c, ?_, ?_⟩
  · simp [St.dcel, dflat]
  · have := turns_of h6
    simpa [dflat] using this
theorem row_of {w : World} {A : Option Addr} {l : List D0} (h : Kd.C (Kd.iso (Kd.pair (Kd.int .i64) (Kd.pair (Kd.iso (Kd.pair (Kd.iso (Kd.pair (Kd.int .i64) (Kd.int .i64)) id) (Kd.int .i64)) id) (Kd.pair (Kd.iso (Kd.pair (Kd.iso (Kd.pair (Kd.int .i64) (Kd.int .i64)) id) (Kd.int .i64)) id) (Kd.pair (Kd.iso (Kd.pair (Kd.string) (Kd.pair (Kd.iso (Kd.pair (Kd.int .i64) (Kd.int .i64)) id) (Kd.pair (Kd.string) (Kd.bool)))) id) (Kd.slice 0 (Kd.iso (Kd.pair (Kd.iso (Kd.pair (Kd.int .i64) (Kd.int .i64)) id) (Kd.pair (Kd.iso (Kd.pair (Kd.int .i64) (Kd.int .i64)) id) (Kd.pair (Kd.int .i64) (Kd.pair (Kd.int .i64) (Kd.bool))))) id)))))) id) w A l.length l) : St.DRow w A (l.map dflat) := by
  intro k d hk
  rw [List.getElem?_map, Option.map_eq_some_iff] at hk
  obtain ⟨z, hz, rfl⟩ := hk
  have hlt := (List.getElem?_eq_some_iff.1 hz).1
  obtain ⟨a, e, h1⟩ := h.2.2 (by omega)
  obtain ⟨cs, h2, h3, h4⟩ := h1 k z hz
  obtain ⟨td, tc, rfl, hT⟩ := deed_of w z cs h3
  exact ⟨a, td, tc, e, hT, h4⟩
theorem walk2 {A0 : Option Addr} {c0 : Nat} {l : List D0} (W : World) (hC : Kd.C (Kd.iso (Kd.pair (Kd.int .i64) (Kd.pair (Kd.iso (Kd.pair (Kd.iso (Kd.pair (Kd.int .i64) (Kd.int .i64)) id) (Kd.int .i64)) id) (Kd.pair (Kd.iso (Kd.pair (Kd.iso (Kd.pair (Kd.int .i64) (Kd.int .i64)) id) (Kd.int .i64)) id) (Kd.pair (Kd.iso (Kd.pair (Kd.string) (Kd.pair (Kd.iso (Kd.pair (Kd.int .i64) (Kd.int .i64)) id) (Kd.pair (Kd.string) (Kd.bool)))) id) (Kd.slice 0 (Kd.iso (Kd.pair (Kd.iso (Kd.pair (Kd.int .i64) (Kd.int .i64)) id) (Kd.pair (Kd.iso (Kd.pair (Kd.int .i64) (Kd.int .i64)) id) (Kd.pair (Kd.int .i64) (Kd.pair (Kd.int .i64) (Kd.bool))))) id)))))) id) W A0 l.length l) (hm : l.length ≤ maxLen) (key : ByteArray) :
    Calls Try.prog 3 #[.slice A0 l.length c0, .string key] W fun e w' => e = .returned (.bool true) ∧ Below W.heap.size W w' := by
  have := St.plays.calls W (l.map dflat) key (ad := A0) (c := c0) (by simpa [maxLen] using hm) (row_of hC)
  simpa using this

theorem own : ownKnob Try.prog.godebug = none := by kernel_rfl
theorem laidOut : laidOutB Try.prog = true := by kernel_rfl
set_option maxRecDepth 100000 in
theorem lifted (os : Os) (started : os.Started) (H : Type) (enc : TypeId × Value → H) :
    ReturnsInHanded {} Try.checked os 3 .any (Rows.setsPlaysSpec.pre6 enc Try.prog Try.f3 Rows.setsPlaysRow.domain false) (Rows.setsPlaysSpec.post enc Try.prog Try.f3 false true false false) := by
  refine returnsInHanded_of_change_sized (C := Try.checked) own started (by kernel_rfl) Try.func3
    (ChangeSpec.witness6 (enc := enc) (C := Try.checked) false ⟨#[], #[.slice none 0 0, .string ByteArray.empty], []⟩ 8 (by kernel_rfl) (by kernel_rfl) (by kernel_rfl) (by kernel_rfl)) ?_
  intro W base args ds gs before hval0 hW hcnd hsz0 _
  have hsz : (DataW.weightsEach Try.prog (Try.f3.params.toList ++ Rows.setsPlaysSpec.plain.varTypes Try.prog) (ds ++ gs)).all (· ≤ reachBytes) = true := hsz0
  have hval : ∀ (j : Nat) t v, Try.f3.params[j]? = some t → args[j]? = some v → Value.okWide Try.prog W .any base t v := hval0
  have hW' := hW
  obtain ⟨p, q, hA0, hV, rfl, hfz, hnd⟩ := hW
  have hA : DataW.TrodAll enc Try.prog W 0 (fun _ => true) true Try.f3.params.toList args.toList ds p := hA0
  rw [Try.params3] at hA hval hsz
  obtain ⟨v0, vs0, d0, ds0, p0, q0, hargs, rfl, rfl, h0, r0⟩ := trodAll_cons hA
  obtain ⟨v1, vs1, d1, ds1, p1, q1, rfl, rfl, rfl, h1, r1⟩ := trodAll_cons r0
  obtain ⟨rfl, rfl, rfl⟩ := trodAll_nil r1
  obtain rfl : args = #[v0, v1] := by cases args; simp_all
  obtain ⟨rfl, rfl⟩ := trodVars_none hV
  have k0 := h0
  have lt0 : ∀ x ∈ p0, x.block < W.heap.size := by obtain ⟨m, hm⟩ := k0; exact DataW.trod_lt m _ _ _ hm
  have k1 := h1
  have lt1 : ∀ x ∈ p1, x.block < W.heap.size := by obtain ⟨m, hm⟩ := k1; exact DataW.trod_lt m _ _ _ hm
  obtain ⟨A0, c0, xs0, rfl, hl0, hC0, hm0, hg0⟩ := arg_slice Try.underlying22 (by kernel_rfl) (opens_struct (d := (Kd.pair (Kd.int .i64) (Kd.pair (Kd.iso (Kd.pair (Kd.iso (Kd.pair (Kd.int .i64) (Kd.int .i64)) id) (Kd.int .i64)) id) (Kd.pair (Kd.iso (Kd.pair (Kd.iso (Kd.pair (Kd.int .i64) (Kd.int .i64)) id) (Kd.int .i64)) id) (Kd.pair (Kd.iso (Kd.pair (Kd.string) (Kd.pair (Kd.iso (Kd.pair (Kd.int .i64) (Kd.int .i64)) id) (Kd.pair (Kd.string) (Kd.bool)))) id) (Kd.slice 0 (Kd.iso (Kd.pair (Kd.iso (Kd.pair (Kd.int .i64) (Kd.int .i64)) id) (Kd.pair (Kd.iso (Kd.pair (Kd.int .i64) (Kd.int .i64)) id) (Kd.pair (Kd.int .i64) (Kd.pair (Kd.int .i64) (Kd.bool))))) id))))))) Try.underlying43 (by kernel_rfl) (fields_cons rfl rfl (by kernel_rfl) (opens_int Try.underlying3) (fields_cons rfl rfl (by kernel_rfl) (opens_struct (d := (Kd.pair (Kd.iso (Kd.pair (Kd.int .i64) (Kd.int .i64)) id) (Kd.int .i64))) Try.underlying36 (by kernel_rfl) (fields_cons rfl rfl (by kernel_rfl) (opens_struct (d := (Kd.pair (Kd.int .i64) (Kd.int .i64))) Try.underlying34 (by kernel_rfl) (fields_cons rfl rfl (by kernel_rfl) (opens_int Try.underlying3) (fields_last rfl rfl (by kernel_rfl) (opens_int Try.underlying3))) id id (fun _ => rfl)) (fields_last rfl rfl (by kernel_rfl) (opens_int Try.underlying3))) id id (fun _ => rfl)) (fields_cons rfl rfl (by kernel_rfl) (opens_struct (d := (Kd.pair (Kd.iso (Kd.pair (Kd.int .i64) (Kd.int .i64)) id) (Kd.int .i64))) Try.underlying38 (by kernel_rfl) (fields_cons rfl rfl (by kernel_rfl) (opens_struct (d := (Kd.pair (Kd.int .i64) (Kd.int .i64))) Try.underlying34 (by kernel_rfl) (fields_cons rfl rfl (by kernel_rfl) (opens_int Try.underlying3) (fields_last rfl rfl (by kernel_rfl) (opens_int Try.underlying3))) id id (fun _ => rfl)) (fields_last rfl rfl (by kernel_rfl) (opens_int Try.underlying3))) id id (fun _ => rfl)) (fields_cons rfl rfl (by kernel_rfl) (opens_struct (d := (Kd.pair (Kd.string) (Kd.pair (Kd.iso (Kd.pair (Kd.int .i64) (Kd.int .i64)) id) (Kd.pair (Kd.string) (Kd.bool))))) Try.underlying40 (by kernel_rfl) (fields_cons rfl rfl (by kernel_rfl) (opens_string Try.underlying9) (fields_cons rfl rfl (by kernel_rfl) (opens_struct (d := (Kd.pair (Kd.int .i64) (Kd.int .i64))) Try.underlying34 (by kernel_rfl) (fields_cons rfl rfl (by kernel_rfl) (opens_int Try.underlying3) (fields_last rfl rfl (by kernel_rfl) (opens_int Try.underlying3))) id id (fun _ => rfl)) (fields_cons rfl rfl (by kernel_rfl) (opens_string Try.underlying9) (fields_last rfl rfl (by kernel_rfl) (opens_bool Try.underlying4))))) id id (fun _ => rfl)) (fields_last rfl rfl (by kernel_rfl) (opens_slice Try.underlying41 (by kernel_rfl) (opens_struct (d := (Kd.pair (Kd.iso (Kd.pair (Kd.int .i64) (Kd.int .i64)) id) (Kd.pair (Kd.iso (Kd.pair (Kd.int .i64) (Kd.int .i64)) id) (Kd.pair (Kd.int .i64) (Kd.pair (Kd.int .i64) (Kd.bool)))))) Try.underlying57 (by kernel_rfl) (fields_cons rfl rfl (by kernel_rfl) (opens_struct (d := (Kd.pair (Kd.int .i64) (Kd.int .i64))) Try.underlying34 (by kernel_rfl) (fields_cons rfl rfl (by kernel_rfl) (opens_int Try.underlying3) (fields_last rfl rfl (by kernel_rfl) (opens_int Try.underlying3))) id id (fun _ => rfl)) (fields_cons rfl rfl (by kernel_rfl) (opens_struct (d := (Kd.pair (Kd.int .i64) (Kd.int .i64))) Try.underlying34 (by kernel_rfl) (fields_cons rfl rfl (by kernel_rfl) (opens_int Try.underlying3) (fields_last rfl rfl (by kernel_rfl) (opens_int Try.underlying3))) id id (fun _ => rfl)) (fields_cons rfl rfl (by kernel_rfl) (opens_int Try.underlying3) (fields_cons rfl rfl (by kernel_rfl) (opens_int Try.underlying3) (fields_last rfl rfl (by kernel_rfl) (opens_bool Try.underlying4)))))) id id (fun _ => rfl)))))))) id id (fun _ => rfl)) (hval 0 22 v0 rfl rfl) h0
  obtain ⟨a1, rfl, rfl, rfl, y1⟩ := open_string Try.underlying9 (hval 1 9 v1 rfl rfl) h1
  have w1 : a1.size ≤ 140737488351232 := by
    have z := sized_string hsz (j := 1) (t := 9) rfl rfl
    rw [Array.length_toList] at z
    exact z
  clear hA0 hval0 hsz0 hsz
  refine (walk2 W hC0 hm0 a1).mono fun e W' ⟨he, bel⟩ => ?_
  subst he
  exact ⟨_, rfl, _, _, _, [], _, [], hW', trodAll_mk1 (shut_bool Try.underlying4 _), (trodAll_cons_mk (Below.trod laidOut (by kernel_rfl) (of_decide_eq_true (by kernel_rfl)) k0 bel lt0) (trodAll_cons_mk (shut_string Try.underlying9 y1) trodAll_mk0)), rfl, bel.frame _, fun h => by cases h⟩
theorem over : Rows.setsPlaysRow.holds Try.pinned (OpenSpec.ofChange Rows.setsPlaysSpec) :=
  OpenClaim.holds_of_wide 3 Try.f3 rfl rfl rfl rfl rfl rfl rfl ⟨rfl, rfl, rfl, rfl, rfl⟩ rfl rfl rfl rfl rfl (by kernel_rfl) Try.func3 (by kernel_rfl)
    (of_decide_eq_true (by kernel_rfl)) (by unfold Func.isWrapper; first | (rw [if_pos (by decide +kernel)]; kernel_rfl) | (rw [if_neg (by decide +kernel)]; exact ⟨rfl, rfl⟩))
    (fun os started H enc _ => lifted os started H enc)
end Go.Proofs.Ytgecokldbkamlaa.RowSetsPlays
namespace Go.Proofs.Ytgecokldbkamlaa
/-- The row. -/
theorem setsPlays_holds : Rows.SetsPlaysSaid := RowSetsPlays.over
end Go.Proofs.Ytgecokldbkamlaa
