/- transomlaw17: Few. No condition. -/
import Derived.Test.YtglbcfkmaamhaaaNdT
set_option linter.unusedVariables false
set_option linter.unusedSimpArgs false
namespace Go.Proofs.Ytglbcfkmaamhaaa.Nd
open Go Go.RowKit Go.Proofs.YtglbcfkmaamhaaaW.PrintWords Go.Proofs.YtglbcfkmaamhaaaW.PrintLast Go.Proofs.YtglbcfkmaamhaaaW.PrintMore Go.Proofs.Ytglbcfkmaamhaaa.Hv
variable {w0 w w1 : World} {g : Nat} {L L' R : List Ob}
def Nd.few (n : Nd) : Int := if n.keys.length ≤ 40 ∧ n.refs.length ≤ 40 ∧ ∀ x ∈ n.keys, x.size ≤ 500 then 1 else 0
def FewP (w0 : World) (L : List Ob) (n : Nd) (e : Ending) (w' : World) : Prop := e = .returned (.int .i64 n.few) ∧ Hv w0 w' L
theorem few_or (n : Nd) : n.few = 0 ∨ (n.few = 1 ∧ n.keys.length ≤ 40 ∧ n.refs.length ≤ 40) := by
  unfold Nd.few
  by_cases h : n.keys.length ≤ 40 ∧ n.refs.length ≤ 40 ∧ ∀ x ∈ n.keys, x.size ≤ 500
  · rw [if_pos h]; exact .inr ⟨rfl, h.1, h.2.1⟩
  · rw [if_neg h]; exact .inl rfl
set_option maxHeartbeats 8000000 in
set_option maxRecDepth 100000 in
theorem few.calls (hv : Hv w0 w L) {n : Nd} {v : Value} (hn : NV w0 L n v) : Calls Try.prog 31 #[v] w (FewP w0 L n) := by
  have hu59 := Try.underlying59
  obtain ⟨ka, kc, ra, rc, rfl, hr⟩ := hn
  have HV := Aside0.mk (hv.alloc (.cells #[.bool n.leaf, .int .i64 n.ver, .slice ka n.keys.length kc, .slice ra n.refs.length rc] 59))
  have HR := Aside0.mk hr
  obtain ⟨y0, y1, y2, y3, -, -, -, -⟩ := HV.out.c4 w.heap.size 59 (.bool n.leaf) (.int .i64 n.ver) (.slice ka n.keys.length kc) (.slice ra n.refs.length rc) List.mem_cons_self
  clear hv hr
  unfold nval
  by_cases h1 : n.keys.length ≤ 40
  · have d1 : ¬ ((n.keys.length : Int) > 40) := by omega
    by_cases h2 : n.refs.length ≤ 40
    · have d2 : ¬ ((n.refs.length : Int) > 40) := by omega
      have HB := Aside0.mk (And.intro h1 h2)
      clear h1 h2
      go_enter Try.func31, Try.ntmps31
      go_wp2_with fail
      clear y0 y1 y2 y3 d1 d2
      go_loopg [3] n.keys.length (fun kq v3 wr => ∃ (k : Nat), v3 = .int .i64 (k : Int) ∧ kq = n.keys.length - k ∧ k ≤ n.keys.length ∧ Aside0 (∀ j x, j < k → n.keys[j]? = some x → x.size ≤ 500) ∧ Aside0 (Hv w0 wr (cb w.heap.size 59 #[.bool n.leaf, .int .i64 n.ver, .slice ka n.keys.length kc, .slice ra n.refs.length rc] :: L)))
      case atStart => exact ⟨0, rfl, rfl, Nat.zero_le _, ⟨fun j x h => by omega⟩, HV⟩
      case round =>
        obtain ⟨k, rfl, rfl, hk, HP, HW⟩ := hrel
        clear HV
        obtain ⟨y0, y1, y2, y3, -, -, -, -⟩ := HW.out.c4 w.heap.size 59 (.bool n.leaf) (.int .i64 n.ver) (.slice ka n.keys.length kc) (.slice ra n.refs.length rc) List.mem_cons_self
        have hk7 : k ≤ 40 := by have := HB.out.1; omega
        by_cases hltn : k < n.keys.length
        · have hlt' : (k : Int) < (n.keys.length : Int) := by omega
          have ew : IntKind.i64.wrap ((k : Int) + 1) = ((k + 1 : Nat) : Int) := by rw [IntKind.wrap_i64]; omega
          have ew' : wrap64 ((k : Int) + 1) = ((k + 1 : Nat) : Int) := by unfold wrap64; omega
          obtain ⟨ad, ea, hcl⟩ := (HR.out.k _ _ HW.out (fun x hx => List.mem_cons_of_mem _ hx)).2 (by omega)
          cases ea
          obtain ⟨x, hx⟩ : ∃ x, n.keys[k]? = some x := ⟨_, List.getElem?_eq_getElem hltn⟩
          have z0 := hcl k _ (by rw [List.getElem?_map, hx]; rfl : (n.keys.map Value.string)[k]? = some (.string x))
          have HX := Aside0.mk hx
          clear hcl hx
          by_cases h5 : (x.size : Int) > 500
          · go_wp2_with fail
            exact bodyPost_ret (v := .int .i64 0) (by simp [results, Try.results31, go_sem]) rfl ⟨by rw [show n.few = 0 from if_neg (fun h => by have := h.2.2 x (List.mem_of_getElem? HX.out); omega)], HW.out.tail⟩
          · go_wp2_with fail
            go_roundg (n.keys.length - (k + 1))
            case measure => omega
            case rel => exact ⟨k + 1, by go_num, rfl, hltn, ⟨fun j y hj hy => by
              by_cases e : j = k
              · subst e; rw [HX.out] at hy; cases hy; omega
              · exact HP.out j y (by omega) hy⟩, HW⟩
        · have hge : ¬ (k : Int) < (n.keys.length : Int) := by omega
          go_wp2_with fail
          exact bodyPost_ret (v := .int .i64 1) (by simp [results, Try.results31, go_sem]) rfl ⟨by rw [show n.few = 1 from if_pos ⟨HB.out.1, HB.out.2, fun x hx => by obtain ⟨j, hj⟩ := List.getElem?_of_mem hx; exact HP.out j x (by have := (List.getElem?_eq_some_iff.1 hj).1; omega) hj⟩], HW.out.tail⟩
    · have d2 : ((n.refs.length : Int) > 40) := by omega
      have HF := Aside0.mk (show n.few = 0 from if_neg (fun h => h2 h.2.1))
      clear h1 h2
      go_enter Try.func31, Try.ntmps31
      go_wp2_with fail
      exact bodyPost_ret (v := .int .i64 0) (by simp [results, Try.results31, go_sem]) rfl ⟨by rw [HF.out], HV.out.tail⟩
  · have d1 : ((n.keys.length : Int) > 40) := by omega
    have HF := Aside0.mk (show n.few = 0 from if_neg (fun h => h1 h.1))
    clear h1
    go_enter Try.func31, Try.ntmps31
    go_wp2_with fail
    exact bodyPost_ret (v := .int .i64 0) (by simp [results, Try.results31, go_sem]) rfl ⟨by rw [HF.out], HV.out.tail⟩
end Go.Proofs.Ytglbcfkmaamhaaa.Nd
