/- retire: RetirePlays. No condition. -/
import Derived.Test.YtjpfggpcppcpbaaRtG
set_option linter.unusedVariables false
set_option linter.unusedSimpArgs false
namespace Go.Proofs.Ytjpfggpcppcpbaa.Rt
open Go Go.RowKit Go.MapKept Go.Proofs.YtjpfggpcppcpbaaW.PrintWords Go.Proofs.YtjpfggpcppcpbaaW.PrintLast Go.Proofs.YtjpfggpcppcpbaaW.PrintMore Go.Proofs.Ytjpfggpcppcpbaa.Hv Go.Proofs.Ytjpfggpcppcpbaa.Mp
variable {w0 w w1 : World} {g m : Nat} {s : Ls} {L L' : List Ob}

theorem Rtn.lens (h : Rtn w0 w g m s L) : ∃ R, Hv w0 w R ∧ (∀ p ∈ L, p ∈ R) ∧ (∀ w' A, Hv w0 w' (A ++ R) → Rtn w0 w' g m s (A ++ L)) ∧ ∀ w', Hv w0 w' R → Rtn w0 w' g m s L := by
  obtain ⟨om, h1, h2, h3⟩ := h
  refine ⟨_, h1, fun p hp => by simp [hp], fun w' A hw => ⟨om, ?_, h2, h3⟩, fun w' hw => ⟨om, hw, h2, h3⟩⟩
  exact hw.perm (List.perm_middle.trans (List.Perm.cons _ List.perm_middle)).symm
theorem len2.calls (h : Rtn w0 w g m s L) {n : Nat} (hn : s.q.length = n) : Calls Try.prog 12 #[.pointer (some ⟨g, 0, none⟩)] w fun e w' => e = .returned (.int .i64 (n : Int)) ∧ Rtn w0 w' g m s L := by
  subst hn
  exact len.calls h
def vals (q : List Et) : List Rd := q.map Prod.snd
theorem vals_len (q : List Et) : (vals q).length = q.length := by simp [vals]
theorem cels_vals (q : List Et) : cels q = (vals q).flatMap cel := by simp [cels, vals, List.flatMap_map]
theorem first_due (least : Int) : ∀ q : List Et, (∀ p ∈ q, ¬ p.2.2.2.2 < least) ∨ ∃ l1 k b x0 x1 x2 l2, q = l1 ++ (k, b, x0, x1, x2) :: l2 ∧ (∀ p ∈ l1, ¬ p.2.2.2.2 < least) ∧ x2 < least
  | [] => .inl (by simp)
  | p :: q => by
    by_cases hp : p.2.2.2.2 < least
    · exact .inr ⟨[], p.1, p.2.1, p.2.2.1, p.2.2.2.1, p.2.2.2.2, q, rfl, by simp, hp⟩
    · rcases first_due least q with h | ⟨l1, k, b, x0, x1, x2, l2, rfl, h1, h2⟩
      · refine .inl fun x hx => ?_
        rcases List.mem_cons.1 hx with rfl | hx
        · exact hp
        · exact h x hx
      · refine .inr ⟨p :: l1, k, b, x0, x1, x2, l2, rfl, fun x hx => ?_, h2⟩
        rcases List.mem_cons.1 hx with rfl | hx
        · exact hp
        · exact h1 x hx
theorem dcel_at : ∀ (l : List Dd) (k j : Nat) (d : Dd) (u : Value), l[k]? = some d → (dcel d)[j]? = some u → (l.flatMap dcel)[k * 6 + j]? = some u
  | [], k, j, d, u, h, _ => by simp at h
  | a :: l, 0, j, d, u, h, hu => by
    have e : a = d := by simpa using h
    subst e
    have hj := (List.getElem?_eq_some_iff.1 hu).1
    rw [List.flatMap_cons, Nat.zero_mul, Nat.zero_add, List.getElem?_append_left hj]
    exact hu
  | a :: l, k + 1, j, d, u, h, hu => by
    have h1 := dcel_at l k j d u (by simpa using h) hu
    rw [List.flatMap_cons, List.getElem?_append_right (by simp [dcel]; omega), show (k + 1) * 6 + j - (dcel a).length = k * 6 + j by simp [dcel]; omega]
    exact h1
/-- Both lists: what the reference's row holds is what waits. -/
structure PL (W w : World) (g m : Nat) (s : Ls) (k : Nat) (ad : Option Addr) (c : Nat) (L : List Ob) : Prop where
  rtn : Rtn W w g m s L
  row : Rw 30 4 L ad s.q.length c ((vals s.q).flatMap cel)
  len : s.q.length ≤ k
  ever : s.ever ≤ k

set_option maxHeartbeats 16000000 in
set_option maxRecDepth 100000 in
theorem plays.calls {A0 : Option Addr} {c0 : Nat} {l : List Dd} (W : World) (hl : l.length ≤ c0) (hD : Hv.Rd 6 W A0 l.length (l.flatMap dcel)) :
    Calls Try.prog 4 #[.slice A0 l.length c0] W fun e w' => e = .returned (.bool true) ∧ Below W.heap.size W w' := by
  have hu34 := Try.underlying34
  have hu36 := Try.underlying36
  have hu22 := Try.underlying22
  have hu24 := Try.underlying24
  have hu30 := Try.underlying30
  have HD := Aside0.mk hD
  have HL0 := Aside0.mk hl
  clear hD hl
  by_cases q1 : (l.length : Int) > 150
  · have d1 : decide ((150 : Int) < l.length) = true := decide_eq_true q1
    go_enter Try.func4, Try.ntmps4
    go_wp2_with fail
    refine (awake.calls _).mono ?_
    rintro e1 w1 ⟨rfl, h1⟩
    go_wp2_with fail
    exact bodyPost_ret (v := .bool true) (by simp [results, Try.results4, go_sem]) rfl ⟨rfl, h1⟩
  · have d1 : decide ((150 : Int) < l.length) = false := decide_eq_false q1
    have HL := Aside0.mk (show l.length ≤ 150 by omega)
    clear q1
    go_enter Try.func4, Try.ntmps4
    go_wp2_with fail
    refine (new.calls (Hv.start W)).mono ?_
    rintro e1 w1 ⟨g, m, rfl, h1⟩
    have H1 := Aside0.mk h1
    clear h1
    go_wp2_with fail
    go_loopg [4, 5] l.length (fun kq v4 v5 wr => ∃ (k : Nat) (s : Ls) (ad : Option Addr) (c : Nat) (L : List Ob), v5 = .int .i64 (k : Int) ∧ v4 = .slice ad s.q.length c ∧ kq = l.length - k ∧ k ≤ l.length ∧ Aside0 (PL W wr g m s k ad c L))
    case atStart => exact ⟨0, ⟨[], 0⟩, none, 0, [], rfl, rfl, rfl, Nat.zero_le _, ⟨⟨H1.out, Rw.nil _ _ _, Nat.le_refl _, Nat.le_refl _⟩⟩⟩
    case round =>
      obtain ⟨k, s, ad, c, L, rfl, rfl, rfl, hk, HP⟩ := hrel
      have hk150 : k ≤ 150 := by have := HL.out; omega
      clear H1
      by_cases hlt : k < l.length
      · have hlt' : (k : Int) < (l.length : Int) := by omega
        obtain ⟨adl, ea, hcl⟩ := (HD.out.below HP.out.rtn.bel).2 (by omega)
        cases ea
        obtain ⟨⟨da, ⟨b, x0, x1, x2⟩, least⟩, hd⟩ : ∃ d, l[k]? = some d := ⟨_, List.getElem?_eq_getElem hlt⟩
        have HX := Aside0.mk hd
        have z0 := hcl (k * 6) _ (dcel_at l k 0 _ (.bool da) hd rfl)
        cases da with
        | true =>
          have z1 := hcl (k * 6 + 1) _ (dcel_at l k 1 _ (.bool b) hd rfl)
          have z2 := hcl (k * 6 + 2) _ (dcel_at l k 2 _ (.int .i64 x0) hd rfl)
          have z3 := hcl (k * 6 + 3) _ (dcel_at l k 3 _ (.int .i64 x1) hd rfl)
          have z4 := hcl (k * 6 + 4) _ (dcel_at l k 4 _ (.int .i64 x2) hd rfl)
          rw [add_next _ _ _ (by omega)] at z1 z2 z3 z4
          clear hcl hd
          go_wp2_with fail
          refine (add.calls HP.out.rtn (by have := HP.out.ever; omega) b x0 x1 x2).mono ?_
          rintro e2 w2 ⟨rfl, h2⟩
          obtain ⟨ade, ea, hcl⟩ := (HD.out.below h2.bel).2 (by omega)
          cases ea
          clear z0 z1 z2 z3 z4
          have z1 := hcl (k * 6 + 1) _ (dcel_at l k 1 _ (.bool b) HX.out rfl)
          have z2 := hcl (k * 6 + 2) _ (dcel_at l k 2 _ (.int .i64 x0) HX.out rfl)
          have z3 := hcl (k * 6 + 3) _ (dcel_at l k 3 _ (.int .i64 x1) HX.out rfl)
          have z4 := hcl (k * 6 + 4) _ (dcel_at l k 4 _ (.int .i64 x2) HX.out rfl)
          rw [add_next _ _ _ (by omega)] at z1 z2 z3 z4
          obtain ⟨R, r1, r2, r3, r4⟩ := h2.lens
          have HR := Aside0.mk (And.intro r1 (And.intro r2 r3))
          have hvl := vals_len s.q
          have hlen9 := HP.out.len
          have hrow := (HP.out.row.mono r2)
          rw [← hvl] at hrow
          have HRW := Aside0.mk hrow
          clear h2 r1 r2 r3 r4 hcl hrow
          rw [← hvl]
          clear hvl
          go_wp2_with fail
          refine (rAdd.calls HR.out.1 (by rw [vals_len]; omega) HRW.out b x0 x1 x2).mono ?_
          rintro e3 w3 ⟨ad3, c3, A3, rfl, h3, h4⟩
          have H4 := Aside0.mk (HR.out.2.2 _ _ h4)
          have HG := Aside0.mk h3
          clear z1 z2 z3 z4 h3 h4
          go_wp2_with fail
          refine (len2.calls H4.out (n := s.q.length + 1) (by simp)).mono ?_
          rintro e5 w5 ⟨rfl, h5⟩
          have H5 := Aside0.mk h5
          rw [vals_len] at *
          clear h5
          go_wp2_with fail
          go_roundg (l.length - (k + 1))
          case measure => omega
          case rel =>
            refine ⟨k + 1, ⟨s.q ++ [(s.ever, b, x0, x1, x2)], s.ever + 1⟩, ad3, c3, _, by go_num, by simp, rfl, hlt, ⟨⟨H5.out, ?_, ?_, ?_⟩⟩⟩
            · have := (Rw.of_gr HG.out).mono (L' := A3 ++ L) (fun p hp => List.mem_append_left _ hp)
              simpa [vals] using this
            · have := HP.out.len
              simp
              omega
            · have := HP.out.ever
              show s.ever + 1 ≤ k + 1
              omega
        | false =>
          have z5 := hcl (k * 6 + 5) _ (dcel_at l k 5 _ (.int .i64 least) hd rfl)
          rw [add_next _ _ _ (by omega)] at z5
          clear hcl hd
          rcases first_due least s.q with hno | ⟨l1, kk, b, x0, x1, x2, l2, e, hl1, hdue⟩
          · have HNO := Aside0.mk hno
            clear hno
            go_wp2_with fail
            refine (next.no HP.out.rtn least (fun p hp => Int.not_lt.2 (HNO.out p hp))).mono ?_
            rintro e2 w2 ⟨rfl, h2⟩
            replace h2 := h2.alloc (.cells #[.bool false, .int .i64 0, .int .i64 0, .int .i64 0] 30)
            obtain ⟨ade, ea, hcl⟩ := (HD.out.below h2.bel).2 (by omega)
            cases ea
            clear z0 z5
            have z5 := hcl (k * 6 + 5) _ (dcel_at l k 5 _ (.int .i64 least) HX.out rfl)
            rw [add_next _ _ _ (by omega)] at z5
            obtain ⟨R, r1, r2, r3, r4⟩ := h2.lens
            have HR := Aside0.mk (And.intro r1 (And.intro r2 (And.intro r3 r4)))
            have hvl := vals_len s.q
            have hlen9 := HP.out.len
            have hrow := (HP.out.row.mono (fun p hp => r2 p (List.mem_cons_of_mem _ hp)))
            rw [← hvl] at hrow
            have HRW := Aside0.mk hrow
            have hb6 := r2 _ List.mem_cons_self
            have HB6 := Aside0.mk hb6
            clear h2 r1 r2 r3 r4 hcl hrow hb6
            rw [← hvl]
            clear hvl
            go_wp2_with fail
            refine (rNextNo.calls HR.out.1 (by rw [vals_len]; omega) HRW.out least (by intro p hp; obtain ⟨q, hq, rfl⟩ := List.mem_map.1 hp; exact Int.not_lt.2 (HNO.out q hq))).mono ?_
            rintro e3 w3 ⟨rfl, h3⟩
            have h4 := (HR.out.2.2.2 _ h3).alloc (.cells #[.bool false, .int .i64 0, .int .i64 0, .int .i64 0] 30)
            obtain ⟨y0, y1, y2, y3, -, -, -, -⟩ := h4.other.c4 w3.heap.size 30 _ _ _ _ List.mem_cons_self
            obtain ⟨t0, t1, t2, t3, -, -, -, -⟩ := h4.other.c4 w2.heap.size 30 (.bool false) (.int .i64 0) (.int .i64 0) (.int .i64 0) (by simp)
            have H4 := Aside0.mk h4
            have hneq := neq30 false 0 0 0
            clear z5 h3 h4
            rw [vals_len] at *
            go_wp2_with fail
            refine (len2.calls H4.out (n := s.q.length) rfl).mono ?_
            rintro e5 w5 ⟨rfl, h5⟩
            have H5 := Aside0.mk h5
            clear h5 y0 y1 y2 y3 t0 t1 t2 t3
            go_wp2_with fail
            go_roundg (l.length - (k + 1))
            case measure => omega
            case rel =>
              refine ⟨k + 1, s, ad, c, _, by go_num, rfl, rfl, hlt, ⟨⟨H5.out, ?_, ?_, ?_⟩⟩⟩
              · exact HP.out.row.mono (fun p hp => by simp [hp])
              · have := HP.out.len; omega
              · have := HP.out.ever; omega
          · have HE := Aside0.mk (And.intro e (And.intro hl1 hdue))
            clear e hl1 hdue
            go_wp2_with fail
            refine (next.yes HP.out.rtn least HE.out.1 (fun p hp => Int.not_lt.2 (HE.out.2.1 p hp)) HE.out.2.2).mono ?_
            rintro e2 w2 ⟨rfl, h2⟩
            replace h2 := h2.alloc (.cells #[.bool b, .int .i64 x0, .int .i64 x1, .int .i64 x2] 30)
            obtain ⟨ade, ea, hcl⟩ := (HD.out.below h2.bel).2 (by omega)
            cases ea
            clear z0 z5
            have z5 := hcl (k * 6 + 5) _ (dcel_at l k 5 _ (.int .i64 least) HX.out rfl)
            rw [add_next _ _ _ (by omega)] at z5
            obtain ⟨R, r1, r2, r3, r4⟩ := h2.lens
            have HR := Aside0.mk (And.intro r1 (And.intro r2 (And.intro r3 r4)))
            have hvl := vals_len s.q
            have hlen9 := HP.out.len
            have hrow := (HP.out.row.mono (fun p hp => r2 p (List.mem_cons_of_mem _ hp)))
            rw [← hvl] at hrow
            have HRW := Aside0.mk hrow
            have hb6 := r2 _ List.mem_cons_self
            have HB6 := Aside0.mk hb6
            clear h2 r1 r2 r3 r4 hcl hrow hb6
            rw [← hvl]
            clear hvl
            go_wp2_with fail
            refine (rNextYes.calls HR.out.1 (by rw [vals_len]; omega) HRW.out least (l1 := vals l1) (l2 := vals l2) (b := b) (x0 := x0) (x1 := x1) (x2 := x2) (by rw [HE.out.1]; simp [vals]) (by intro p hp; obtain ⟨q, hq, rfl⟩ := List.mem_map.1 hp; exact Int.not_lt.2 (HE.out.2.1 q hq)) HE.out.2.2).mono ?_
            rintro e3 w3 ⟨ad3, c3, A3, rfl, hG3, h3⟩
            have h4 := (HR.out.2.2.1 _ _ h3).alloc (.cells #[.bool b, .int .i64 x0, .int .i64 x1, .int .i64 x2] 30)
            obtain ⟨y0, y1, y2, y3, -, -, -, -⟩ := h4.other.c4 w3.heap.size 30 _ _ _ _ List.mem_cons_self
            obtain ⟨t0, t1, t2, t3, -, -, -, -⟩ := h4.other.c4 w2.heap.size 30 (.bool b) (.int .i64 x0) (.int .i64 x1) (.int .i64 x2) (by simp)
            have H4 := Aside0.mk h4
            have HG3 := Aside0.mk hG3
            have hneq := neq30 b x0 x1 x2
            clear z5 h3 h4 hG3
            rw [show val (b, x0, x1, x2) = .agg #[.bool b, .int .i64 x0, .int .i64 x1, .int .i64 x2] from rfl]
            rw [vals_len, vals_len] at HG3 ⊢
            go_wp2_with fail
            refine (len2.calls H4.out (n := l1.length + l2.length) (by simp)).mono ?_
            rintro e5 w5 ⟨rfl, h5⟩
            have H5 := Aside0.mk h5
            clear h5 y0 y1 y2 y3 t0 t1 t2 t3
            go_wp2_with fail
            go_roundg (l.length - (k + 1))
            case measure => omega
            case rel =>
              refine ⟨k + 1, ⟨l1 ++ l2, s.ever⟩, ad3, c3, _, by go_num, by simp, rfl, hlt, ⟨⟨H5.out, ?_, ?_, ?_⟩⟩⟩
              · have := (Rw.of_gr HG3.out)
                have := this.mono (L' := (w3.heap.size, Obj.cells #[.bool b, .int .i64 x0, .int .i64 x1, .int .i64 x2] 30) :: (A3 ++ ((w2.heap.size, Obj.cells #[.bool b, .int .i64 x0, .int .i64 x1, .int .i64 x2] 30) :: L))) (fun p hp => by simp [hp])
                simpa [vals] using this
              · have := HP.out.len
                rw [HE.out.1] at this
                simp at this ⊢
                omega
              · have := HP.out.ever
                show s.ever ≤ k + 1
                omega
      · have hge : ¬ (k : Int) < (l.length : Int) := by omega
        have hlen9 := HP.out.len
        go_wp2_with fail
        refine (all.calls HP.out.rtn (by omega)).mono ?_
        rintro e2 w2 ⟨ad2, c2, A2, rfl, hG, h2⟩
        obtain ⟨R, r1, r2, r3, r4⟩ := h2.lens
        have hvl := vals_len s.q
        have q1 := (Rw.of_gr hG).mono (L' := R) (fun p hp => r2 p (List.mem_append_left _ hp))
        have q2 := HP.out.row.mono (L' := R) (fun p hp => r2 p (List.mem_append_right _ hp))
        rw [cels_vals] at q1
        rw [← hvl] at q1 q2
        have Q1 := Aside0.mk q1
        have Q2 := Aside0.mk q2
        have R1 := Aside0.mk r1
        clear q1 q2 r1 r2 r3 r4 hG h2
        rw [← hvl]
        clear hvl
        go_wp2_with fail
        refine (rSame.calls R1.out (by rw [vals_len]; omega) Q1.out Q2.out).mono ?_
        rintro e3 w3 ⟨rfl, h3⟩
        have H3 := Aside0.mk h3
        clear h3
        go_wp2_with fail
        refine (awake.calls _).mono ?_
        rintro e4 w4 ⟨rfl, h4⟩
        have HB := Aside0.mk (H3.out.call h4).bel
        clear h4
        go_wp2_with fail
        exact bodyPost_ret (v := .bool true) (by simp [results, Try.results4, go_sem]) rfl ⟨rfl, HB.out⟩
end Go.Proofs.Ytjpfggpcppcpbaa.Rt
