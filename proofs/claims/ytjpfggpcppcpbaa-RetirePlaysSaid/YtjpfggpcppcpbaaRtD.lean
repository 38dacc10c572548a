/- retire: RetireAll. No condition. -/
import Derived.Test.YtjpfggpcppcpbaaRtC
set_option linter.unusedVariables false
set_option linter.unusedSimpArgs false
namespace Go.Proofs.Ytjpfggpcppcpbaa.Rt
open Go Go.RowKit Go.MapKept Go.Proofs.YtjpfggpcppcpbaaW.PrintWords Go.Proofs.YtjpfggpcppcpbaaW.PrintLast Go.Proofs.YtjpfggpcppcpbaaW.PrintMore Go.Proofs.Ytjpfggpcppcpbaa.Hv Go.Proofs.Ytjpfggpcppcpbaa.Mp
variable {w0 w w1 : World} {g m : Nat} {s : Ls} {L L' : List Ob}

theorem eqA28 (d : Nat) (w : World) (a b : Int) : (Op.equalIn (d + 2) 28 (.agg #[.int .i64 a, .int .i64 b]) (.agg #[.int .i64 a, .int .i64 b])).run Try.prog w = .ok true w := by
  have h : (Op.equalIn (d + 2) 28 (.agg #[.int .i64 a, .int .i64 b]) (.agg #[.int .i64 a, .int .i64 b])).run Try.prog w = .ok (a == a && (b == b)) w := by
    refine eqA_of Try.underlying28 (by kernel_rfl) ?_
    refine eqf_cons (by rfl) (by go_simp; rfl) (by go_simp; rfl) (by go_simp) ?_
    exact eqf_last (by rfl) (by go_simp; rfl) (by go_simp; rfl) (by go_simp)
  simpa using h
theorem eqA30 (d : Nat) (w : World) (t : Bool) (a b c : Int) : (Op.equalIn (d + 3) 30 (.agg #[.bool t, .int .i64 a, .int .i64 b, .int .i64 c]) (.agg #[.bool t, .int .i64 a, .int .i64 b, .int .i64 c])).run Try.prog w = .ok true w := by
  have hu28 := Try.underlying28
  have h : (Op.equalIn (d + 3) 30 (.agg #[.bool t, .int .i64 a, .int .i64 b, .int .i64 c]) (.agg #[.bool t, .int .i64 a, .int .i64 b, .int .i64 c])).run Try.prog w = .ok ((t == t) && (true && (c == c))) w := by
    refine eqA_of Try.underlying30 (by kernel_rfl) ?_
    refine eqf_cons (by rfl) (by go_simp; rfl) (by go_simp; rfl) (by go_simp) ?_
    refine eqf_cons (by rfl) (by go_simp) (by go_simp) (eqA28 d w a b) ?_
    exact eqf_last (by rfl) (by go_simp; rfl) (by go_simp; rfl) (by go_simp)
  simpa using h
theorem eql30 (t : Bool) (a b c : Int) (w : World) : (binOp .eql 30 (.agg #[.bool t, .int .i64 a, .int .i64 b, .int .i64 c]) (.agg #[.bool t, .int .i64 a, .int .i64 b, .int .i64 c])).run Try.prog w = .ok (.bool true) w := by
  simp only [binOp]
  simp [Op.equal, Op.maxDepth, eqA30 9997 w t a b c]
theorem neq30 (t : Bool) (a b c : Int) (w : World) : (binOp .neq 30 (.agg #[.bool t, .int .i64 a, .int .i64 b, .int .i64 c]) (.agg #[.bool t, .int .i64 a, .int .i64 b, .int .i64 c])).run Try.prog w = .ok (.bool false) w := by
  simp only [binOp]
  simp [Op.equal, Op.maxDepth, eqA30 9997 w t a b c]

/-- The entries of l, from key i on. -/
def ents : Nat → List Rd → List Et
  | _, [] => []
  | i, x :: l => (i, x) :: ents (i + 1) l
theorem ents_append : ∀ (i : Nat) (a b : List Rd), ents i (a ++ b) = ents i a ++ ents (i + a.length) b
  | i, [], b => by simp [ents]
  | i, x :: a, b => by
    simp only [List.cons_append, ents, ents_append (i + 1) a b, List.length_cons]
    rw [show i + 1 + a.length = i + (a.length + 1) by omega]
theorem ents_take (l : List Rd) (k : Nat) {x : Rd} (h : l[k]? = some x) : ents 0 (l.take (k + 1)) = ents 0 (l.take k) ++ [(k, x)] := by
  have hk := (List.getElem?_eq_some_iff.1 h).1
  rw [List.take_add_one, h, Option.toList_some, ents_append, List.length_take, Nat.min_eq_left (by omega), Nat.zero_add]
  rfl
theorem ents_drop (l : List Rd) (k : Nat) {x : Rd} (h : l[k]? = some x) : ents k (l.drop k) = (k, x) :: ents (k + 1) (l.drop (k + 1)) := by
  have hk := (List.getElem?_eq_some_iff.1 h).1
  rw [List.drop_eq_getElem_cons hk, (List.getElem?_eq_some_iff.1 h).2]
  rfl
/-- Those of the first k that are not due. -/
def kept (least : Int) (l : List Rd) (k : Nat) : List Et := (ents 0 (l.take k)).filter (fun p => !decide (p.2.2.2.2 < least))
theorem kept_not (least : Int) (l : List Rd) (k : Nat) : ∀ p ∈ kept least l k, ¬ p.2.2.2.2 < least := by
  intro p hp
  have := (List.mem_filter.1 hp).2
  simpa using this
theorem kept_due {least : Int} {l : List Rd} {k : Nat} {x : Rd} (h : l[k]? = some x) (hd : x.2.2.2 < least) : kept least l (k + 1) = kept least l k := by
  unfold kept
  rw [ents_take l k h, List.filter_append]
  simp [hd]
theorem kept_stay {least : Int} {l : List Rd} {k : Nat} {x : Rd} (h : l[k]? = some x) (hd : ¬ x.2.2.2 < least) : kept least l (k + 1) = kept least l k ++ [(k, x)] := by
  unfold kept
  rw [ents_take l k h, List.filter_append]
  simp [hd]
theorem cel_at : ∀ (l : List Rd) (k j : Nat) (d : Rd) (u : Value), l[k]? = some d → (cel d)[j]? = some u → (l.flatMap cel)[k * 4 + j]? = some u
  | [], k, j, d, u, h, _ => by simp at h
  | a :: l, 0, j, d, u, h, hu => by
    have e : a = d := by simpa using h
    subst e
    have hj := (List.getElem?_eq_some_iff.1 hu).1
    rw [List.flatMap_cons, Nat.zero_mul, Nat.zero_add, List.getElem?_append_left hj]
    exact hu
  | a :: l, k + 1, j, d, u, h, hu => by
    have h1 := cel_at l k j d u (by simpa using h) hu
    rw [List.flatMap_cons, List.getElem?_append_right (by simp [cel]; omega), show (k + 1) * 4 + j - (cel a).length = k * 4 + j by simp [cel]; omega]
    exact h1

set_option maxHeartbeats 8000000 in
set_option maxRecDepth 100000 in
theorem all1.calls {A0 : Option Addr} {c0 : Nat} {l : List Rd} (least : Int) (W : World) (hl : l.length ≤ c0) (hD : Hv.Rd 4 W A0 l.length (l.flatMap cel)) :
    Calls Try.prog 3 #[.slice A0 l.length c0, .int .i64 least] W fun e w' => e = .returned (.bool true) ∧ Below W.heap.size W w' := by
  have hu22 := Try.underlying22
  have hu24 := Try.underlying24
  have hu30 := Try.underlying30
  have HD := Aside0.mk hD
  have HL0 := Aside0.mk hl
  clear hD hl
  by_cases q1 : (l.length : Int) > 100
  · have d1 : decide ((100 : Int) < l.length) = true := decide_eq_true q1
    go_enter Try.func3, Try.ntmps3
    go_wp2_with fail
    refine (awake.calls _).mono ?_
    rintro e1 w1 ⟨rfl, h1⟩
    go_wp2_with fail
    exact bodyPost_ret (v := .bool true) (by simp [results, Try.results3, go_sem]) rfl ⟨rfl, h1⟩
  · have d1 : decide ((100 : Int) < l.length) = false := decide_eq_false q1
    have HL := Aside0.mk (show l.length ≤ 100 by omega)
    clear q1
    go_enter Try.func3, Try.ntmps3
    go_wp2_with fail
    refine (new.calls (Hv.start W)).mono ?_
    rintro e1 w1 ⟨g, m, rfl, h1⟩
    have H1 := Aside0.mk h1
    clear h1
    go_wp2_with fail
    go_loopg [6] l.length (fun kq v6 wr => ∃ (k : Nat), v6 = .int .i64 (k : Int) ∧ kq = l.length - k ∧ k ≤ l.length ∧ Aside0 (Rtn W wr g m ⟨ents 0 (l.take k), k⟩ []))
    case atStart => exact ⟨0, rfl, rfl, Nat.zero_le _, H1⟩
    case round =>
      obtain ⟨k, rfl, rfl, hk, HR⟩ := hrel
      have hk100 : k ≤ 100 := by have := HL.out; omega
      clear H1
      by_cases hlt : k < l.length
      · have hlt' : (k : Int) < (l.length : Int) := by omega
        obtain ⟨adl, ea, hcl⟩ := (HD.out.below HR.out.bel).2 (by omega)
        cases ea
        obtain ⟨⟨b, x0, x1, x2⟩, hd⟩ : ∃ d, l[k]? = some d := ⟨_, List.getElem?_eq_getElem hlt⟩
        have z0 := hcl (k * 4) _ (cel_at l k 0 _ (.bool b) hd rfl)
        have z1 := hcl (k * 4 + 1) _ (cel_at l k 1 _ (.int .i64 x0) hd rfl)
        have z2 := hcl (k * 4 + 2) _ (cel_at l k 2 _ (.int .i64 x1) hd rfl)
        have z3 := hcl (k * 4 + 3) _ (cel_at l k 3 _ (.int .i64 x2) hd rfl)
        rw [add_next _ _ _ (by omega)] at z1 z2 z3
        have HX := Aside0.mk hd
        clear hcl hd
        go_wp2_with fail
        refine (add.calls HR.out (by show k ≤ 1000000; omega) b x0 x1 x2).mono ?_
        rintro e2 w2 ⟨rfl, h2⟩
        have H2 := Aside0.mk h2
        clear h2 z0 z1 z2 z3
        go_wp2_with fail
        go_roundg (l.length - (k + 1))
        case measure => omega
        case rel => exact ⟨k + 1, by go_num, rfl, hlt, ⟨by rw [ents_take l k HX.out]; exact H2.out⟩⟩
      · have hge : ¬ (k : Int) < (l.length : Int) := by omega
        have hkk : k = l.length := by omega
        subst hkk
        rw [List.take_length] at HR
        go_wp2_with fail
        go_loopg [7] l.length (fun kq v7 wq => ∃ (k : Nat), v7 = .int .i64 (k : Int) ∧ kq = l.length - k ∧ k ≤ l.length ∧ Aside0 (∃ R, Rtn W wq g m ⟨kept least l k ++ ents k (l.drop k), l.length⟩ R))
        case atStart => exact ⟨0, rfl, rfl, Nat.zero_le _, ⟨[], HR.out⟩⟩
        case round =>
          clear HR hk hk100 hlt hge
          obtain ⟨k, rfl, rfl, hk, HR⟩ := hrel
          obtain ⟨R, hR⟩ := HR.out
          have HR := Aside0.mk hR
          clear hR
          have hk100 : k ≤ 100 := by have := HL.out; omega
          by_cases hlt : k < l.length
          · have hlt' : (k : Int) < (l.length : Int) := by omega
            obtain ⟨adl, ea, hcl⟩ := (HD.out.below HR.out.bel).2 (by omega)
            cases ea
            obtain ⟨⟨b, x0, x1, x2⟩, hd⟩ : ∃ d, l[k]? = some d := ⟨_, List.getElem?_eq_getElem hlt⟩
            have z3 := hcl (k * 4 + 3) _ (cel_at l k 3 _ (.int .i64 x2) hd rfl)
            rw [add_next _ _ _ (by omega)] at z3
            have HX := Aside0.mk hd
            clear hcl hd
            by_cases hdue : x2 < least
            · have hge' : decide (least ≤ x2) = false := decide_eq_false (by omega)
              have HE := Aside0.mk hdue
              clear hdue
              go_wp2_with fail
              refine (next.yes HR.out least (l1 := kept least l k) (l2 := ents (k + 1) (l.drop (k + 1))) (k := k) (b := b) (x0 := x0) (x1 := x1) (x2 := x2) (by rw [ents_drop l k HX.out]) (kept_not _ _ _) HE.out).mono ?_
              rintro e2 w2 ⟨rfl, h2⟩
              have h3 := h2.alloc (.cells #[.bool b, .int .i64 x0, .int .i64 x1, .int .i64 x2] 30)
              obtain ⟨y0, y1, y2, y3, -, -, -, -⟩ := h3.other.c4 w2.heap.size 30 _ _ _ _ List.mem_cons_self
              obtain ⟨adl', ea, hcl⟩ := (HD.out.below h3.bel).2 (by omega)
              cases ea
              have z0 := hcl (k * 4) _ (cel_at l k 0 _ (.bool b) HX.out rfl)
              have z1 := hcl (k * 4 + 1) _ (cel_at l k 1 _ (.int .i64 x0) HX.out rfl)
              have z2 := hcl (k * 4 + 2) _ (cel_at l k 2 _ (.int .i64 x1) HX.out rfl)
              have z4 := hcl (k * 4 + 3) _ (cel_at l k 3 _ (.int .i64 x2) HX.out rfl)
              rw [add_next _ _ _ (by omega)] at z1 z2 z4
              have H3 := Aside0.mk h3
              have hneq := neq30 b x0 x1 x2
              clear h2 h3 z3 hcl
              go_wp2_with fail
              go_region
              go_wp2_with fail
              go_roundg (l.length - (k + 1))
              case measure => omega
              case rel => exact ⟨k + 1, by go_num, rfl, hlt, ⟨_, by rw [kept_due HX.out HE.out]; exact H3.out.call (by repeat (first | exact Below.refl _ _ | apply below_drew1))⟩⟩
            · have hge' : decide (least ≤ x2) = true := decide_eq_true (by omega)
              have HE := Aside0.mk hdue
              clear hdue
              go_wp2_with fail
              go_roundg (l.length - (k + 1))
              case measure => omega
              case rel => exact ⟨k + 1, by go_num, rfl, hlt, ⟨R, by have := HR.out; rw [ents_drop l k HX.out] at this; rw [kept_stay HX.out (show ¬ x2 < least from by have := HE.out; omega), List.append_assoc]; exact this⟩⟩
          · have hge : ¬ (k : Int) < (l.length : Int) := by omega
            have hkk : k = l.length := by omega
            subst hkk
            rw [List.drop_length] at HR
            go_wp2_with fail
            refine (next.no HR.out least (by simpa [ents] using kept_not least l l.length)).mono ?_
            rintro e2 w2 ⟨rfl, h2⟩
            have H2 := Aside0.mk (h2.alloc (.cells #[.bool false, .int .i64 0, .int .i64 0, .int .i64 0] 30))
            clear h2
            go_wp2_with fail
            refine (awake.calls _).mono ?_
            rintro e3 w3 ⟨rfl, h3⟩
            have HB := Aside0.mk (H2.out.call h3).bel
            clear h3
            go_wp2_with fail
            exact bodyPost_ret (v := .bool true) (by simp [results, Try.results3, go_sem]) rfl ⟨rfl, HB.out⟩
end Go.Proofs.Ytjpfggpcppcpbaa.Rt
