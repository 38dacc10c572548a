/- transomref21: node. No condition. -/
import Derived.Test.YtgecokldbkamlaaStN
set_option linter.unusedVariables false
set_option linter.unusedSimpArgs false
namespace Go.Proofs.Ytgecokldbkamlaa.St
open Go Go.RowKit Go.MapKept Go.Proofs.YtgecokldbkamlaaW.PrintWords Go.Proofs.YtgecokldbkamlaaW.PrintLast Go.Proofs.YtgecokldbkamlaaW.PrintMore Go.Proofs.Ytgecokldbkamlaa.Hv Go.Proofs.Ytgecokldbkamlaa.Mk Go.Proofs.Ytgecokldbkamlaa.Ka
variable {w0 w w1 : World} {g : Nat} {s : St} {L L' : List Ob}

theorem cel3_at : ∀ (l : List R3) (k j : Nat) (d : R3) (u : Value), l[k]? = some d → (cel3 d)[j]? = some u → (l.flatMap cel3)[k * 3 + j]? = some u
  | [], k, j, d, u, h, _ => by simp at h
  | a :: l, 0, j, d, u, h, hu => by
    have e : a = d := by simpa using h
    subst e
    have hj := (List.getElem?_eq_some_iff.1 hu).1
    rw [List.flatMap_cons, Nat.zero_mul, Nat.zero_add, List.getElem?_append_left hj]
    exact hu
  | a :: l, k + 1, j, d, u, h, hu => by
    have h1 := cel3_at l k j d u (by simpa using h) hu
    rw [List.flatMap_cons, List.getElem?_append_right (by simp [cel3]; omega), show (k + 1) * 3 + j - (cel3 a).length = k * 3 + j by simp [cel3]; omega]
    exact h1
theorem eq34 (x0 x1 y0 y1 : Int) (w : World) : (binOp .eql 34 (.agg #[.int .i64 x0, .int .i64 x1]) (.agg #[.int .i64 y0, .int .i64 y1])).run Try.prog w = .ok (.bool (x0 == y0 && (x1 == y1))) w := by
  simp only [binOp]
  simp [eqk]
theorem ne_pair {x0 x1 y0 y1 : Int} (h : ((x0, x1) : Rf) ≠ (y0, y1)) : (x0 == y0 && (x1 == y1)) = false := by
  simp only [Bool.and_eq_false_iff, beq_eq_false_iff_ne]
  by_cases h1 : x0 = y0
  · exact .inr fun h2 => h (by rw [h1, h2])
  · exact .inl h1
set_option maxHeartbeats 8000000 in
set_option maxRecDepth 100000 in
theorem rnode.no (hv : Hv w0 w L) {ad : Option Addr} {c : Nat} {l : List R3} (hl : l.length ≤ 100000) (hR : Rw 38 3 L ad l.length c (l.flatMap cel3)) (a b : Int) (hn : ∀ x ∈ l, x.1 ≠ (a, b)) :
    Calls Try.prog 30 #[.slice ad l.length c, .agg #[.int .i64 a, .int .i64 b]] w fun e w' => e = .returned (.int .i64 (-1)) ∧ Hv w0 w' L := by
  have hu28 := Try.underlying28
  have hu34 := Try.underlying34
  have hu38 := Try.underlying38
  have HR := Aside0.mk hR
  have HV := Aside0.mk (hv.alloc (.cells #[.int .i64 a, .int .i64 b] 34))
  have HE := Aside0.mk hn
  have HL := Aside0.mk hl
  clear hv hR hl hn
  go_enter Try.func30, Try.ntmps30
  go_wp2_with fail
  go_loopg [5] l.length (fun kq v5 wr => ∃ (k : Nat), v5 = .int .i64 (k : Int) ∧ kq = l.length - k ∧ k ≤ l.length ∧ Aside0 (Hv w0 wr ((w.heap.size, Obj.cells #[.int .i64 a, .int .i64 b] 34) :: L)))
  case atStart => exact ⟨0, rfl, rfl, Nat.zero_le _, HV⟩
  case round =>
    obtain ⟨k, rfl, rfl, hk, HP⟩ := hrel
    clear HV
    have hk7 : k ≤ 100000 := by have := HL.out; omega
    by_cases hltn : k < l.length
    · have hlt' : (k : Int) < (l.length : Int) := by omega
      obtain ⟨adl, ea, hcl⟩ := ((HR.out.mono (L' := (w.heap.size, Obj.cells #[.int .i64 a, .int .i64 b] 34) :: L) (fun p hp => List.mem_cons_of_mem _ hp))).cells HP.out.drew (by omega)
      cases ea
      obtain ⟨⟨⟨x0, x1⟩, x2⟩, hd⟩ : ∃ d, l[k]? = some d := ⟨_, List.getElem?_eq_getElem (by omega)⟩
      have z0 := hcl (k * 3) _ (cel3_at l k 0 _ (.int .i64 x0) hd rfl)
      have z1 := hcl (k * 3 + 1) _ (cel3_at l k 1 _ (.int .i64 x1) hd rfl)
      rw [add_next _ _ _ (by omega)] at z1
      obtain ⟨y0, y1, -, -⟩ := HP.out.drew.c2 w.heap.size 34 _ _ List.mem_cons_self
      have heq := eq34 x0 x1 a b
      rw [ne_pair (HE.out _ (List.mem_of_getElem? hd))] at heq
      clear hcl hd
      go_wp2_with fail
      go_region
      go_wp2_with fail
      go_roundg (l.length - (k + 1))
      case measure => omega
      case rel => exact ⟨k + 1, by go_num, rfl, hltn, ⟨by first | exact HP.out.drew | exact HP.out⟩⟩
    · have hge : ¬ (k : Int) < (l.length : Int) := by omega
      go_wp2_with fail
      exact bodyPost_ret (v := .int .i64 (-1)) (by simp [results, Try.results30, go_sem]) rfl ⟨rfl, HP.out.tail⟩
set_option maxHeartbeats 8000000 in
set_option maxRecDepth 100000 in
theorem rnode.yes (hv : Hv w0 w L) {ad : Option Addr} {c : Nat} {l : List R3} (hl : l.length ≤ 100000) (hR : Rw 38 3 L ad l.length c (l.flatMap cel3)) (a b : Int) {l1 l2 : List R3} {v : Int} (e : l = l1 ++ ((a, b), v) :: l2) (hn : ∀ x ∈ l1, x.1 ≠ (a, b)) :
    Calls Try.prog 30 #[.slice ad l.length c, .agg #[.int .i64 a, .int .i64 b]] w fun e w' => e = .returned (.int .i64 (l1.length : Int)) ∧ Hv w0 w' L := by
  have hu28 := Try.underlying28
  have hu34 := Try.underlying34
  have hu38 := Try.underlying38
  have HR := Aside0.mk hR
  have HV := Aside0.mk (hv.alloc (.cells #[.int .i64 a, .int .i64 b] 34))
  have HE := Aside0.mk (And.intro e hn)
  have HLN := Aside0.mk (show l.length = l1.length + (l2.length + 1) by rw [e]; simp)
  have HL := Aside0.mk hl
  clear hv hR hl hn e
  go_enter Try.func30, Try.ntmps30
  go_wp2_with fail
  go_loopg [5] (l1.length + 1) (fun kq v5 wr => ∃ (k : Nat), v5 = .int .i64 (k : Int) ∧ kq = l1.length + 1 - k ∧ k ≤ l1.length ∧ Aside0 (Hv w0 wr ((w.heap.size, Obj.cells #[.int .i64 a, .int .i64 b] 34) :: L)))
  case atStart => exact ⟨0, rfl, rfl, Nat.zero_le _, HV⟩
  case round =>
    obtain ⟨k, rfl, rfl, hk, HP⟩ := hrel
    clear HV
    have hk7 : k ≤ 100000 := by have := HL.out; have := HLN.out; omega
    have hlt9 : k < l.length := by have := HLN.out; omega
    have hlt' : (k : Int) < (l.length : Int) := by omega
    obtain ⟨adl, ea, hcl⟩ := ((HR.out.mono (L' := (w.heap.size, Obj.cells #[.int .i64 a, .int .i64 b] 34) :: L) (fun p hp => List.mem_cons_of_mem _ hp))).cells HP.out.drew (by omega)
    cases ea
    obtain ⟨⟨⟨x0, x1⟩, x2⟩, hd⟩ : ∃ d, l[k]? = some d := ⟨_, List.getElem?_eq_getElem hlt9⟩
    have z0 := hcl (k * 3) _ (cel3_at l k 0 _ (.int .i64 x0) hd rfl)
    have z1 := hcl (k * 3 + 1) _ (cel3_at l k 1 _ (.int .i64 x1) hd rfl)
    rw [add_next _ _ _ (by omega)] at z1
    obtain ⟨y0, y1, -, -⟩ := HP.out.drew.c2 w.heap.size 34 _ _ List.mem_cons_self
    have heq := eq34 x0 x1 a b
    by_cases hltn : k < l1.length
    · have hne : ((x0, x1) : Rf) ≠ (a, b) := by
        have h9 := hd
        rw [HE.out.1, List.getElem?_append_left hltn] at h9
        exact HE.out.2 _ (List.mem_of_getElem? h9)
      rw [ne_pair hne] at heq
      clear hcl hd hne
      go_wp2_with fail
      go_region
      go_wp2_with fail
      go_roundg (l1.length + 1 - (k + 1))
      case measure => omega
      case rel => exact ⟨k + 1, by go_num, rfl, hltn, ⟨by first | exact HP.out.drew | exact HP.out⟩⟩
    · have hkk : l1.length = k := by omega
      have h9 := hd
      rw [HE.out.1, ← hkk, List.getElem?_append_right (Nat.le_refl _), Nat.sub_self, List.getElem?_cons_zero] at h9
      cases h9
      simp only [beq_self_eq_true, Bool.and_self] at heq
      have HK := Aside0.mk hkk
      clear hcl hd hkk
      go_wp2_with fail
      go_region
      go_wp2_with fail
      exact bodyPost_ret (v := .int .i64 (k : Int)) (by simp [results, Try.results30, go_sem]) rfl ⟨by rw [HK.out], by first | exact HP.out.drew.tail | exact HP.out.tail⟩
end Go.Proofs.Ytgecokldbkamlaa.St
