/- node: Check. No condition. -/
import Derived.Test.YtglbcfkmaamhaaaNdN
set_option linter.unusedVariables false
set_option linter.unusedSimpArgs false
namespace Go.Proofs.Ytglbcfkmaamhaaa.Nd
open Go Go.RowKit Go.Proofs.YtglbcfkmaamhaaaW.PrintWords Go.Proofs.YtglbcfkmaamhaaaW.PrintLast Go.Proofs.YtglbcfkmaamhaaaW.PrintMore Go.Proofs.Ytglbcfkmaamhaaa.Hv
variable {w0 w w1 : World} {g : Nat} {L L' : List Ob}
def asc : List ByteArray → Bool
  | x :: y :: l => bl x y && asc (y :: l)
  | _ => true
theorem asc_iff : ∀ l : List ByteArray, asc l = true ↔ ∀ j x y, l[j]? = some x → l[j+1]? = some y → bl x y = true
  | [] => by simp [asc]
  | [a] => by simp [asc]
  | a :: b :: l => by
    have ih := asc_iff (b :: l)
    simp only [asc, Bool.and_eq_true, ih]
    constructor
    · rintro ⟨h1, h2⟩ j x y hx hy
      cases j with
      | zero => simp at hx hy; subst hx hy; exact h1
      | succ j => exact h2 j x y (by simpa using hx) (by simpa using hy)
    · intro h
      exact ⟨h 0 a b rfl rfl, fun j x y hx hy => h (j+1) x y (by simpa using hx) (by simpa using hy)⟩
def Nd.check (n : Nd) : Bool := asc n.keys && n.shape && decide (n.refs.length ≤ 4) && decide (0 ≤ n.ver)
def AscTo (l : List ByteArray) (k : Nat) : Prop := ∀ j x y, j + 1 < k → l[j]? = some x → l[j+1]? = some y → bl x y = true
theorem leq_str (a b : ByteArray) {c : Bool} (h : bl b a = c) : binOp .leq 9 (.string a) (.string b) = pure (.bool (!c)) := by rw [Less.str_leq]; unfold bl at h; rw [h]
set_option maxHeartbeats 8000000 in
set_option maxRecDepth 100000 in
theorem check.calls (hv : Hv w0 w L) {n : Nd} {v : Value} (hn : NV w0 L n v) (hb : n.refs.length < 4611686018427387904) (hkl : n.keys.length ≤ 1000000) :
    Calls Try.prog 33 #[v] w fun e w' => e = .returned (.bool n.check) ∧ Hv w0 w' L := by
  have hu59 := Try.underlying59
  have hu57 := Try.underlying57
  have hu31 := Try.underlying31
  obtain ⟨ka, kc, ra, rc, rfl, hr⟩ := hn
  have HV := Aside0.mk (hv.alloc (.cells #[.bool n.leaf, .int .i64 n.ver, .slice ka n.keys.length kc, .slice ra n.refs.length rc] 59))
  have HR := Aside0.mk hr
  have HB := Aside0.mk (And.intro hb hkl)
  obtain ⟨y0, y1, y2, y3, -, -, -, -⟩ := HV.out.c4 w.heap.size 59 (.bool n.leaf) (.int .i64 n.ver) (.slice ka n.keys.length kc) (.slice ra n.refs.length rc) List.mem_cons_self
  clear hv hr hb hkl
  unfold nval
  go_enter Try.func33, Try.ntmps33
  go_wp2_with fail
  clear y0 y1 y2 y3
  go_loopg [7] n.keys.length (fun kq v7 wr => ∃ (k : Nat), v7 = .int .i64 (k : Int) ∧ kq = n.keys.length - k ∧ k ≤ n.keys.length ∧ Aside0 (AscTo n.keys k) ∧ Aside0 (Hv w0 wr (cb w.heap.size 59 #[.bool n.leaf, .int .i64 n.ver, .slice ka n.keys.length kc, .slice ra n.refs.length rc] :: L)))
  case atStart => exact ⟨0, rfl, rfl, Nat.zero_le _, ⟨fun j x y h => by omega⟩, HV⟩
  case round =>
    obtain ⟨k, rfl, rfl, hk, HP, HW⟩ := hrel
    clear HV
    obtain ⟨y0, y1, y2, y3, -, -, -, -⟩ := HW.out.c4 w.heap.size 59 (.bool n.leaf) (.int .i64 n.ver) (.slice ka n.keys.length kc) (.slice ra n.refs.length rc) List.mem_cons_self
    have hk7 : k ≤ 1000000 := by have := HB.out.2; omega
    by_cases hltn : k < n.keys.length
    · have hlt' : (k : Int) < (n.keys.length : Int) := by omega
      have ew : IntKind.i64.wrap ((k : Int) + 1) = ((k + 1 : Nat) : Int) := by rw [IntKind.wrap_i64]; omega
      have ew' : wrap64 ((k : Int) + 1) = ((k + 1 : Nat) : Int) := by unfold wrap64; omega
      rcases Nat.eq_zero_or_pos k with h0 | h0
      · have d0 : decide ((k : Int) > 0) = false := by simp [h0]
        have d1 : decide (0 < k) = false := by simp [h0]
        go_wp2_with fail
        go_quiet (fail)
        go_wp2_with fail
        go_roundg (n.keys.length - (k + 1))
        case measure => omega
        case rel => exact ⟨k + 1, by go_num, rfl, hltn, ⟨fun j x y h => by omega⟩, ⟨HW.out.call (by repeat (first | exact Below.refl _ _ | apply below_drew1 | apply pw_below_drewN))⟩⟩
      · have d0 : decide ((k : Int) > 0) = true := by simp [h0]
        have d1 : decide (0 < k) = true := by simp [h0]
        obtain ⟨ad, ea, hcl⟩ := (HR.out.k _ _ HW.out (fun x hx => List.mem_cons_of_mem _ hx)).2 (by omega)
        cases ea
        obtain ⟨j, hj⟩ : ∃ j, j + 1 = k := ⟨k - 1, by omega⟩
        obtain ⟨x, hx⟩ : ∃ x, n.keys[k]? = some x := ⟨_, List.getElem?_eq_getElem hltn⟩
        obtain ⟨y, hy⟩ : ∃ y, n.keys[j]? = some y := ⟨_, List.getElem?_eq_getElem (by omega)⟩
        have z0 := hcl k _ (by rw [List.getElem?_map, hx]; rfl : (n.keys.map Value.string)[k]? = some (.string x))
        have z1 := hcl j _ (by rw [List.getElem?_map, hy]; rfl : (n.keys.map Value.string)[j]? = some (.string y))
        have ew2 : IntKind.i64.wrap ((k : Int) - 1) = (j : Int) := by rw [IntKind.wrap_i64]; omega
        have ew3 : wrap64 ((k : Int) - 1) = (j : Int) := by unfold wrap64; omega
        have hjl : (j : Int) < (n.keys.length : Int) := by omega
        have hjn : j < n.keys.length := by omega
        have HX := Aside0.mk (And.intro hx (And.intro hy hj))
        clear hcl hx hy
        cases hlx : bl y x
        · have hcmp := leq_str x y hlx
          have HF := Aside0.mk (show n.check = false by
            unfold Nd.check
            cases he : asc n.keys with
            | false => rfl
            | true =>
              have h1 := (asc_iff _).1 he j y x HX.out.2.1 (by rw [HX.out.2.2]; exact HX.out.1)
              rw [hlx] at h1; cases h1)
          clear hj
          go_wp2_with fail
          go_quiet (fail)
          go_wp2_with fail
          exact bodyPost_ret (v := .bool false) (by simp [results, Try.results33, go_sem]) rfl ⟨by rw [HF.out], (HW.out.call (by repeat (first | exact Below.refl _ _ | apply below_drew1 | apply pw_below_drewN))).tail⟩
        · have hcmp := leq_str x y hlx
          clear hj
          go_wp2_with fail
          go_quiet (fail)
          go_wp2_with fail
          go_roundg (n.keys.length - (k + 1))
          case measure => omega
          case rel => exact ⟨k + 1, by go_num, rfl, hltn, ⟨fun i a b h ha hb => by
            by_cases hi : i + 1 = k
            · have hij : i = j := by have := HX.out.2.2; omega
              subst hij
              rw [HX.out.2.1] at ha
              rw [hi, HX.out.1] at hb
              cases ha; cases hb
              exact hlx
            · exact HP.out i a b (by omega) ha hb⟩, ⟨HW.out.call (by repeat (first | exact Below.refl _ _ | apply below_drew1 | apply pw_below_drewN))⟩⟩
    · have hge : ¬ (k : Int) < (n.keys.length : Int) := by omega
      have hkk : k = n.keys.length := by omega
      have HA := Aside0.mk (show asc n.keys = true from (asc_iff _).2 (fun j x y hx hy => HP.out j x y (by have := (List.getElem?_eq_some_iff.1 hy).1; omega) hx hy))
      clear hltn hk hk7 hkk
      cases hs' : n.shape
      · have hs : shp n.leaf n.keys.length n.refs.length = false := hs'
        have HF := Aside0.mk (show n.check = false by unfold Nd.check; rw [hs']; simp)
        clear hs'
        go_wp2_with (go_at_call 93; go_loud (refine (shape.calls HW.out n.leaf n.ver ka ra n.keys.length kc n.refs.length rc HB.out.1).mono ?_); rw [hs]; rintro e2 w2 ⟨rfl, hh⟩; have H2 := Aside0.mk hh; clear hh)
        exact bodyPost_ret (v := .bool false) (by simp [results, Try.results33, go_sem]) rfl ⟨by rw [HF.out], H2.out.tail⟩
      · have hs : shp n.leaf n.keys.length n.refs.length = true := hs'
        by_cases h4 : n.refs.length ≤ 4
        · have h4' : ((n.refs.length : Int) ≤ 4) := by omega
          by_cases h5 : 0 ≤ n.ver
          · have HF := Aside0.mk (show n.check = true by unfold Nd.check; rw [hs', HA.out]; simp [h4, h5])
            have h5' : n.ver ≥ 0 := h5
            clear hs' h4
            go_wp2_with (go_at_call 93; go_loud (refine (shape.calls HW.out n.leaf n.ver ka ra n.keys.length kc n.refs.length rc HB.out.1).mono ?_); rw [hs]; rintro e2 w2 ⟨rfl, hh⟩; have H2 := Aside0.mk hh; clear y0 y1 y2 y3; obtain ⟨y0, y1, y2, y3, -, -, -, -⟩ := hh.c4 w.heap.size 59 (.bool n.leaf) (.int .i64 n.ver) (.slice ka n.keys.length kc) (.slice ra n.refs.length rc) List.mem_cons_self; clear hh)
            exact bodyPost_ret (v := .bool true) (by simp [results, Try.results33, go_sem]) rfl ⟨by rw [HF.out], H2.out.tail⟩
          · have HF := Aside0.mk (show n.check = false by unfold Nd.check; simp; intros; omega)
            have h5' : ¬ n.ver ≥ 0 := h5
            clear hs' h4
            go_wp2_with (go_at_call 93; go_loud (refine (shape.calls HW.out n.leaf n.ver ka ra n.keys.length kc n.refs.length rc HB.out.1).mono ?_); rw [hs]; rintro e2 w2 ⟨rfl, hh⟩; have H2 := Aside0.mk hh; clear y0 y1 y2 y3; obtain ⟨y0, y1, y2, y3, -, -, -, -⟩ := hh.c4 w.heap.size 59 (.bool n.leaf) (.int .i64 n.ver) (.slice ka n.keys.length kc) (.slice ra n.refs.length rc) List.mem_cons_self; clear hh)
            exact bodyPost_ret (v := .bool false) (by simp [results, Try.results33, go_sem]; omega) rfl ⟨by rw [HF.out], H2.out.tail⟩
        · have h4' : ¬ ((n.refs.length : Int) ≤ 4) := by omega
          have HF := Aside0.mk (show n.check = false by unfold Nd.check; simp [h4])
          clear hs' h4
          go_wp2_with (go_at_call 93; go_loud (refine (shape.calls HW.out n.leaf n.ver ka ra n.keys.length kc n.refs.length rc HB.out.1).mono ?_); rw [hs]; rintro e2 w2 ⟨rfl, hh⟩; have H2 := Aside0.mk hh; clear y0 y1 y2 y3; obtain ⟨y0, y1, y2, y3, -, -, -, -⟩ := hh.c4 w.heap.size 59 (.bool n.leaf) (.int .i64 n.ver) (.slice ka n.keys.length kc) (.slice ra n.refs.length rc) List.mem_cons_self; clear hh)
          exact bodyPost_ret (v := .bool false) (by simp [results, Try.results33, go_sem]) rfl ⟨by rw [HF.out], H2.out.tail⟩
end Go.Proofs.Ytglbcfkmaamhaaa.Nd
