/- retire: the reference (transomref20); RetirePlays. No condition. -/
import Derived.Test.YtjpfggpcppcpbaaRtF
set_option linter.unusedVariables false
set_option linter.unusedSimpArgs false
namespace Go.Proofs.Ytjpfggpcppcpbaa.Rt
open Go Go.RowKit Go.MapKept Go.Proofs.YtjpfggpcppcpbaaW.PrintWords Go.Proofs.YtjpfggpcppcpbaaW.PrintLast Go.Proofs.YtjpfggpcppcpbaaW.PrintMore Go.Proofs.Ytjpfggpcppcpbaa.Hv Go.Proofs.Ytjpfggpcppcpbaa.Mp
variable {w0 w w1 : World} {g m : Nat} {s : Ls} {L L' : List Ob}

theorem cel_one (l : List Rd) : ∀ u ∈ l.flatMap cel, u.oneCell' = true := by
  intro u hu
  obtain ⟨x, _, hx⟩ := List.mem_flatMap.1 hu
  simp [cel] at hx
  rcases hx with rfl | rfl | rfl | rfl <;> rfl
def AddP (w0 : World) (l : List Rd) (x : Rd) (L : List Ob) (e : Ending) (w' : World) : Prop :=
  ∃ ad c A, e = .returned (.slice ad (l.length + 1) c) ∧ Gr 30 4 (.slice ad (l.length + 1) c) (l.length + 1) ((l ++ [x]).flatMap cel) A ∧ Hv w0 w' (A ++ L)
set_option maxHeartbeats 8000000 in
set_option maxRecDepth 100000 in
theorem rAdd.calls (hv : Hv w0 w L) {ad : Option Addr} {c : Nat} {l : List Rd} (hl : l.length ≤ 100000) (hR : Rw 30 4 L ad l.length c (l.flatMap cel)) (b : Bool) (x0 x1 x2 : Int) :
    Calls Try.prog 10 #[.slice ad l.length c, .agg #[.bool b, .int .i64 x0, .int .i64 x1, .int .i64 x2]] w (AddP w0 l (b, x0, x1, x2) L) := by
  have hu22 := Try.underlying22
  have hu30 := Try.underlying30
  have HR := Aside0.mk (hR.mono (L' := (w.heap.size, Obj.cells #[.bool b, .int .i64 x0, .int .i64 x1, .int .i64 x2] 30) :: L) (fun p hp => List.mem_cons_of_mem _ hp))
  have HB0 := Aside0.mk (show (0 + l.length) * 32 ≤ 140737488355328 by omega)
  have HB1 := Aside0.mk (show (l.length + 1) * 32 ≤ 140737488355328 by omega)
  have hv1 := hv.alloc (.cells #[.bool b, .int .i64 x0, .int .i64 x1, .int .i64 x2] 30)
  have HV := Aside0.mk hv1
  clear hv hv1 hR hl
  go_enter Try.func10, Try.ntmps10
  go_upto_region 1 with (fail)
  obtain ⟨W3, hW3, hP⟩ : ∃ W3, W3 = _ ∧ Hv w0 W3 ((w.heap.size, Obj.cells #[.bool b, .int .i64 x0, .int .i64 x1, .int .i64 x2] 30) :: L) := ⟨_, rfl, HV.out⟩
  rw [← hW3]
  clear hW3
  obtain ⟨y0, y1, y2, y3, -, -, -, -⟩ := hP.c4 w.heap.size 30 _ _ _ _ List.mem_cons_self
  have HP := Aside0.mk hP
  clear hP
  go_region_law (first
    | (refine append_rows_step (w0 := w0) (A := []) (by rfl) (.const (.slice none 0 0)) (.tmp 5) 22 30 (.agg #[.bool false, .int .i64 0, .int .i64 0, .int .i64 0]) 4 32 rfl Try.underlying22 info30 rfl (by decide) (by decide) (.slice none 0 0) 0 [] (by simp [Act.eval, Act.put]) ad l.length c (l.flatMap cel) (by simp [Act.eval, Act.put]) (cel_one _) (Gr.nil _ _) (by first | exact HP.out.drew | exact (HP.out.drew.alloc _) | exact (HP.out.alloc _).drew) (HR.out.rd HP.out |>.below (by first | exact below_drew1 (Below.refl _ _) | exact below_drew1 (below_alloc (Below.refl _ _) _) | exact below_alloc (below_drew1 (Below.refl _ _)) _)) HB0.out ?_; intro v1 w5 B1 hG hH; rw [Nat.zero_add, List.nil_append] at hG; obtain ⟨b3, d3, rfl, hd3⟩ := hG.form; have KG := Aside0.mk hG; have KH := Aside0.mk hH; obtain ⟨y0, y1, y2, y3, -, -, -, -⟩ := hH.c4 w.heap.size 30 (.bool b) (.int .i64 x0) (.int .i64 x1) (.int .i64 x2) (by simp); clear hG hH hd3)
    | (refine append_step (w0 := w0) (A := B1) (by rfl) (.tmp 6) (.tmp 8) 22 30 (.agg #[.bool false, .int .i64 0, .int .i64 0, .int .i64 0]) 4 32 rfl Try.underlying22 info30 rfl (by decide) (by decide) (.slice b3 l.length d3) l.length (l.flatMap cel) (by simp [Act.eval, Act.put]) ⟨w5.heap.size, 0, none⟩ 1 1 (cel (b, x0, x1, x2)) (by simp [Act.eval, Act.put]) rfl (news_new _ _ 30 _ rfl) (by intro u hu; simp [cel] at hu; rcases hu with rfl | rfl | rfl | rfl <;> rfl) KG.out (KH.out.skip _) HB1.out ?_; intro v2 w6 B2 hG hH; obtain ⟨b4, d4, rfl, hd4⟩ := hG.form; have KG2 := Aside0.mk hG; have KH2 := Aside0.mk hH; clear hG hH hd4)
    | (refine append_step (w0 := w0) (A := B1) (by rfl) (.tmp 6) (.tmp 8) 22 30 (.agg #[.bool false, .int .i64 0, .int .i64 0, .int .i64 0]) 4 32 rfl Try.underlying22 info30 rfl (by decide) (by decide) (.slice b3 l.length d3) l.length (l.flatMap cel) (by simp [Act.eval, Act.put]) ⟨W3.heap.size, 0, none⟩ 1 1 (cel (b, x0, x1, x2)) (by simp [Act.eval, Act.put]) rfl (by intro j u hj; have := KH.out.cell (g := W3.heap.size) (t := 30) (cs := #[.bool b, .int .i64 x0, .int .i64 x1, .int .i64 x2]) (by simp) j (v := u) (by simpa [cel] using hj); exact if hj0 : j = 0 then (by subst hj0; simpa [Addr.add] using this) else (by simpa [Addr.add, hj0] using this)) (by intro u hu; simp [cel] at hu; rcases hu with rfl | rfl | rfl | rfl <;> rfl) KG.out KH.out HB1.out ?_; intro v2 w6 B2 hG hH; obtain ⟨b4, d4, rfl, hd4⟩ := hG.form; have KG2 := Aside0.mk hG; have KH2 := Aside0.mk hH; clear hG hH hd4))
  all_goals
    go_wp2_with fail
    have K6 : Hv w0 w6 (B2 ++ L) := by
      first
        | exact KH2.out.drop (List.Sublist.append_left (List.sublist_cons_self _ _) _)
        | exact KH2.out.drop (List.Sublist.append_left ((List.sublist_cons_self _ _).trans (List.sublist_cons_self _ _)) _)
    exact bodyPost_ret (v := .slice b4 (l.length + 1) d4) (by simp [results, Try.results10, go_sem]) rfl ⟨b4, d4, B2, rfl, by simpa [List.flatMap_append] using KG2.out, K6⟩
theorem cel_len (l : List Rd) : (l.flatMap cel).length = l.length * 4 := by
  induction l with
  | nil => rfl
  | cons a l ih => rw [List.flatMap_cons, List.length_append, ih]; simp [cel]; omega
theorem cel_take (l1 l2 : List Rd) : ((l1 ++ l2).flatMap cel).take (l1.length * 4) = l1.flatMap cel := by
  rw [List.flatMap_append, ← cel_len, List.take_left]
theorem cel_drop (l1 l2 : List Rd) (x : Rd) : ((l1 ++ x :: l2).flatMap cel).drop ((l1.length + 1) * 4) = l2.flatMap cel := by
  have e : l1 ++ x :: l2 = (l1 ++ [x]) ++ l2 := by simp
  rw [e, List.flatMap_append, show (l1.length + 1) * 4 = ((l1 ++ [x]).flatMap cel).length by rw [cel_len]; simp, List.drop_left]
def NxP (w0 : World) (l1 l2 : List Rd) (x : Rd) (L : List Ob) (e : Ending) (w' : World) : Prop :=
  ∃ ad c A, e = .returned (.tuple #[.slice ad (l1.length + l2.length) c, val x, .bool true]) ∧ Gr 30 4 (.slice ad (l1.length + l2.length) c) (l1.length + l2.length) ((l1 ++ l2).flatMap cel) A ∧ Hv w0 w' (A ++ L)
set_option maxHeartbeats 8000000 in
set_option maxRecDepth 100000 in
theorem rNextYes.calls (hv : Hv w0 w L) {ad : Option Addr} {c : Nat} {l : List Rd} (hl : l.length ≤ 100000) (hR : Rw 30 4 L ad l.length c (l.flatMap cel)) (least : Int) {l1 l2 : List Rd} {b : Bool} {x0 x1 x2 : Int}
    (e : l = l1 ++ (b, x0, x1, x2) :: l2) (hn : ∀ p ∈ l1, ¬ p.2.2.2 < least) (hd : x2 < least) :
    Calls Try.prog 11 #[.slice ad l.length c, .int .i64 least] w (NxP w0 l1 l2 (b, x0, x1, x2) L) := by
  have hu22 := Try.underlying22
  have hu30 := Try.underlying30
  have hlen : l.length = l1.length + (l2.length + 1) := by rw [e]; simp
  have HR := Aside0.mk hR
  have HV := Aside0.mk (hv.alloc (.cells #[.bool false, .int .i64 0, .int .i64 0, .int .i64 0] 30))
  have HE := Aside0.mk (And.intro e (And.intro hn hd))
  have HL := Aside0.mk hl
  have HLN := Aside0.mk hlen
  clear hv hR hl e hn hd hlen
  go_enter Try.func11, Try.ntmps11
  go_wp2_with fail
  go_loopg [7] (l1.length + 1) (fun kq v7 wr => ∃ (k : Nat), v7 = .int .i64 (k : Int) ∧ kq = l1.length + 1 - k ∧ k ≤ l1.length ∧ Aside0 (Hv w0 wr ((w.heap.size, Obj.cells #[.bool false, .int .i64 0, .int .i64 0, .int .i64 0] 30) :: L)))
  case atStart => exact ⟨0, rfl, rfl, Nat.zero_le _, HV⟩
  case round =>
    obtain ⟨k, rfl, rfl, hk, HP⟩ := hrel
    clear HV
    have hk7 : k ≤ 100000 := by have := HL.out; have := HLN.out; omega
    have hltn : k < l.length := by have := HLN.out; omega
    have hlt' : (k : Int) < (l.length : Int) := by omega
    obtain ⟨adl, ea, hcl⟩ := ((HR.out.mono (L' := (w.heap.size, Obj.cells #[.bool false, .int .i64 0, .int .i64 0, .int .i64 0] 30) :: L) (fun p hp => List.mem_cons_of_mem _ hp))).cells HP.out (by omega)
    cases ea
    obtain ⟨⟨b', y0, y1, y2⟩, hd⟩ : ∃ d, l[k]? = some d := ⟨_, List.getElem?_eq_getElem (by omega)⟩
    have z3 := hcl (k * 4 + 3) _ (cel_at l k 3 _ (.int .i64 y2) hd rfl)
    rw [add_next _ _ _ (by omega)] at z3
    by_cases hlt : k < l1.length
    · have hnd : ¬ y2 < least := by
        have h9 := hd
        rw [HE.out.1, List.getElem?_append_left hlt] at h9
        have h8 := HE.out.2.1 _ (List.mem_of_getElem? h9)
        simp at h8
        omega
      have hge' : decide (y2 < least) = false := decide_eq_false hnd
      clear hcl hd hnd
      go_wp2_with fail
      go_roundg (l1.length + 1 - (k + 1))
      case measure => omega
      case rel => exact ⟨k + 1, by go_num, rfl, hlt, HP⟩
    · have hkk : l1.length = k := by omega
      have h9 := hd
      rw [HE.out.1, ← hkk, List.getElem?_append_right (Nat.le_refl _), Nat.sub_self, List.getElem?_cons_zero] at h9
      cases h9
      have hge' : decide (x2 < least) = true := decide_eq_true HE.out.2.2
      have HX := Aside0.mk hd
      have HLE := Aside0.mk (show k + (l.length - (k + 1)) = l1.length + l2.length by have := HLN.out; omega)
      have R1 := Aside0.mk (((HR.out.mono (L' := (w.heap.size, Obj.cells #[.bool false, .int .i64 0, .int .i64 0, .int .i64 0] 30) :: L) (fun p hp => List.mem_cons_of_mem _ hp))).take k (by omega))
      have R2 := Aside0.mk (((HR.out.mono (L' := (w.heap.size, Obj.cells #[.bool false, .int .i64 0, .int .i64 0, .int .i64 0] 30) :: L) (fun p hp => List.mem_cons_of_mem _ hp))).drop (k + 1) (by omega))
      have et : (l.flatMap cel).take (k * 4) = l1.flatMap cel := (congrArg (fun z : List Rd => (z.flatMap cel).take (k * 4)) HE.out.1).trans (by rw [← hkk]; exact cel_take _ _)
      have ed : (l.flatMap cel).drop ((k + 1) * 4) = l2.flatMap cel := (congrArg (fun z : List Rd => (z.flatMap cel).drop ((k + 1) * 4)) HE.out.1).trans (by rw [← hkk]; exact cel_drop _ _ _)
      rw [et] at R1
      rw [ed] at R2
      obtain ⟨i30, hi30, hz30⟩ := Option.map_eq_some_iff.1 info30
      simp only [Prod.mk.injEq] at hz30
      have hs1 : ∀ W : World, (Instr.slice 22 (.slice (some adl) l.length c) none (some (.int .i64 (k : Int))) none).run Try.prog W = .ok (.slice (some adl) k c) W := by
        have := cut_to (P := Try.prog) 22 30 .i64 hu22 hi30 (some adl) l.length c (k : Int) (by omega) (by omega) HR.out.2.1
        simpa using this
      have hs2 : ∀ W : World, (Instr.slice 22 (.slice (some adl) l.length c) (some (.int .i64 ((k : Int) + 1))) none none).run Try.prog W = .ok (.slice (if c = k + 1 then some adl else (some adl).map (·.add ((k + 1) * 4))) (l.length - (k + 1)) (c - (k + 1))) W := by
        have := cut_from (P := Try.prog) 22 30 .i64 hu22 hi30 4 hz30.2.1 (some adl) l.length c ((k : Int) + 1) (by omega) (by omega)
        have e5 : ((k : Int) + 1).toNat = k + 1 := by omega
        rw [e5] at this
        exact this
      generalize (if c = k + 1 then some adl else (some adl).map (·.add ((k + 1) * 4))) = ad2 at hs2 R2
      have hwr : IntKind.i64.wrap ((k : Int) + 1) = (k : Int) + 1 := by rw [IntKind.wrap_i64]; omega
      have HB0 := Aside0.mk (show (0 + k) * 32 ≤ 140737488355328 by omega)
      have HB1 := Aside0.mk (show (k + (l.length - (k + 1))) * 32 ≤ 140737488355328 by have := HL.out; omega)
      clear hcl hd hi30 hz30 i30 et ed
      go_upto_region 5 with (fail)
      clear z3
      obtain ⟨W3, hW3, hP⟩ : ∃ W3, W3 = _ ∧ Hv w0 W3 ((w.heap.size, Obj.cells #[.bool false, .int .i64 0, .int .i64 0, .int .i64 0] 30) :: L) := ⟨_, rfl, HP.out⟩
      rw [← hW3]
      clear hW3 HP
      have HP := Aside0.mk hP
      clear hP
      obtain ⟨a9, e9, hcl⟩ := (HR.out.mono (L' := (w.heap.size, Obj.cells #[.bool false, .int .i64 0, .int .i64 0, .int .i64 0] 30) :: L) (fun p hp => by simp [hp])).cells HP.out.drew (by omega); cases e9; have z0 := hcl (k * 4) _ (cel_at l k 0 _ (.bool b) HX.out rfl); have z1 := hcl (k * 4 + 1) _ (cel_at l k 1 _ (.int .i64 x0) HX.out rfl); have z2 := hcl (k * 4 + 2) _ (cel_at l k 2 _ (.int .i64 x1) HX.out rfl); have z3 := hcl (k * 4 + 3) _ (cel_at l k 3 _ (.int .i64 x2) HX.out rfl); rw [add_next _ _ _ (by omega)] at z1 z2 z3; clear hcl
      have zz := HP.out.drew
      go_region_law (first
        | (refine append_rows_step (w0 := w0) (A := []) (by rfl) (.const (.slice none 0 0)) (.tmp 23) 22 30 (.agg #[.bool false, .int .i64 0, .int .i64 0, .int .i64 0]) 4 32 rfl Try.underlying22 info30 rfl (by decide) (by decide) (.slice none 0 0) 0 [] (by simp [Act.eval, Act.put]) (some adl) k c (l1.flatMap cel) (by simp [Act.eval, Act.put]) (cel_one _) (Gr.nil _ _) (by first | exact HP.out.drew | exact HP.out) (R1.out.rd HP.out |>.below (by first | exact below_drew1 (Below.refl _ _) | exact Below.refl _ _)) HB0.out ?_; intro v1 w5 B1 hG hH; rw [Nat.zero_add, List.nil_append] at hG; obtain ⟨b3, d3, rfl, hd3⟩ := hG.form; have KG := Aside0.mk hG; have KH := Aside0.mk hH; clear z0 z1 z2 z3; obtain ⟨a9, e9, hcl⟩ := (HR.out.mono (L' := B1 ++ ((w.heap.size, Obj.cells #[.bool false, .int .i64 0, .int .i64 0, .int .i64 0] 30) :: L)) (fun p hp => by simp [hp])).cells hH (by omega); cases e9; have z0 := hcl (k * 4) _ (cel_at l k 0 _ (.bool b) HX.out rfl); have z1 := hcl (k * 4 + 1) _ (cel_at l k 1 _ (.int .i64 x0) HX.out rfl); have z2 := hcl (k * 4 + 2) _ (cel_at l k 2 _ (.int .i64 x1) HX.out rfl); have z3 := hcl (k * 4 + 3) _ (cel_at l k 3 _ (.int .i64 x2) HX.out rfl); rw [add_next _ _ _ (by omega)] at z1 z2 z3; clear hcl; clear hG hH hd3)
        | (refine append_rows_step (w0 := w0) (A := B1) (by rfl) (.tmp 24) (.tmp 28) 22 30 (.agg #[.bool false, .int .i64 0, .int .i64 0, .int .i64 0]) 4 32 rfl Try.underlying22 info30 rfl (by decide) (by decide) (.slice b3 k d3) k (l1.flatMap cel) (by simp [Act.eval, Act.put]) ad2 (l.length - (k + 1)) (c - (k + 1)) (l2.flatMap cel) (by simp [Act.eval, Act.put]) (cel_one _) KG.out KH.out ((R2.out.right B1).rd KH.out) HB1.out ?_; intro v2 w6 B2 hG hH; obtain ⟨b4, d4, rfl, hd4⟩ := hG.form; have KG2 := Aside0.mk hG; have KH2 := Aside0.mk hH; clear z0 z1 z2 z3; obtain ⟨a9, e9, hcl⟩ := (HR.out.mono (L' := B2 ++ ((w.heap.size, Obj.cells #[.bool false, .int .i64 0, .int .i64 0, .int .i64 0] 30) :: L)) (fun p hp => by simp [hp])).cells hH (by omega); cases e9; have z0 := hcl (k * 4) _ (cel_at l k 0 _ (.bool b) HX.out rfl); have z1 := hcl (k * 4 + 1) _ (cel_at l k 1 _ (.int .i64 x0) HX.out rfl); have z2 := hcl (k * 4 + 2) _ (cel_at l k 2 _ (.int .i64 x1) HX.out rfl); have z3 := hcl (k * 4 + 3) _ (cel_at l k 3 _ (.int .i64 x2) HX.out rfl); rw [add_next _ _ _ (by omega)] at z1 z2 z3; clear hcl; obtain ⟨y0, y1, y2, y3, u0, u1, u2, u3⟩ := hH.c4 w.heap.size 30 (.bool false) (.int .i64 0) (.int .i64 0) (.int .i64 0) (by simp); clear hG hH hd4))
      all_goals
        go_wp2_with fail
        have K6 := (((((Hv.rotA KH2.out).put 0 rfl 0 (.bool b)).put 0 rfl 1 (.int .i64 x0)).put 0 rfl 2 (.int .i64 x1)).put 0 rfl 3 (.int .i64 x2))
        obtain ⟨wf, hw, hf⟩ : ∃ wf, wf = _ ∧ Hv w0 wf (cb w.heap.size 30 #[.bool b, .int .i64 x0, .int .i64 x1, .int .i64 x2] :: (B2 ++ L)) := ⟨_, rfl, by first | (simpa using K6) | (simpa using K6.drew)⟩
        rw [← hw]
        obtain ⟨p0, p1, p2, p3, -, -, -, -⟩ := hf.c4 w.heap.size 30 _ _ _ _ List.mem_cons_self
        have hG6 := KG2.out
        rw [← List.flatMap_append, HLE.out] at hG6
        rw [HLE.out]
        exact bodyPost_ret (v := .tuple #[.slice b4 (l1.length + l2.length) d4, .agg #[.bool b, .int .i64 x0, .int .i64 x1, .int .i64 x2], .bool true]) (by simp [results, Try.results11, go_sem, p0, p1, p2, p3, hu30]) rfl ⟨b4, d4, B2, rfl, hG6, hf.tail⟩
set_option maxHeartbeats 8000000 in
set_option maxRecDepth 100000 in
theorem rNextNo.calls (hv : Hv w0 w L) {ad : Option Addr} {c : Nat} {l : List Rd} (hl : l.length ≤ 100000) (hR : Rw 30 4 L ad l.length c (l.flatMap cel)) (least : Int) (hn : ∀ p ∈ l, ¬ p.2.2.2 < least) :
    Calls Try.prog 11 #[.slice ad l.length c, .int .i64 least] w fun e w' => e = .returned (.tuple #[.slice ad l.length c, .agg #[.bool false, .int .i64 0, .int .i64 0, .int .i64 0], .bool false]) ∧ Hv w0 w' L := by
  have hu22 := Try.underlying22
  have hu30 := Try.underlying30
  have HR := Aside0.mk hR
  have HV := Aside0.mk (hv.alloc (.cells #[.bool false, .int .i64 0, .int .i64 0, .int .i64 0] 30))
  have HE := Aside0.mk hn
  have HL := Aside0.mk hl
  clear hv hR hl hn
  go_enter Try.func11, Try.ntmps11
  go_wp2_with fail
  go_loopg [7] l.length (fun kq v7 wr => ∃ (k : Nat), v7 = .int .i64 (k : Int) ∧ kq = l.length - k ∧ k ≤ l.length ∧ Aside0 (Hv w0 wr ((w.heap.size, Obj.cells #[.bool false, .int .i64 0, .int .i64 0, .int .i64 0] 30) :: L)))
  case atStart => exact ⟨0, rfl, rfl, Nat.zero_le _, HV⟩
  case round =>
    obtain ⟨k, rfl, rfl, hk, HP⟩ := hrel
    clear HV
    have hk7 : k ≤ 100000 := by have := HL.out; omega
    by_cases hltn : k < l.length
    · have hlt' : (k : Int) < (l.length : Int) := by omega
      obtain ⟨adl, ea, hcl⟩ := ((HR.out.mono (L' := (w.heap.size, Obj.cells #[.bool false, .int .i64 0, .int .i64 0, .int .i64 0] 30) :: L) (fun p hp => List.mem_cons_of_mem _ hp))).cells HP.out (by omega)
      cases ea
      obtain ⟨⟨b', y0, y1, y2⟩, hd⟩ : ∃ d, l[k]? = some d := ⟨_, List.getElem?_eq_getElem (by omega)⟩
      have z3 := hcl (k * 4 + 3) _ (cel_at l k 3 _ (.int .i64 y2) hd rfl)
      rw [add_next _ _ _ (by omega)] at z3
      have hnd : ¬ y2 < least := by
        have h8 := HE.out _ (List.mem_of_getElem? hd)
        simp at h8
        omega
      have hge' : decide (y2 < least) = false := decide_eq_false hnd
      clear hcl hd hnd
      go_wp2_with fail
      go_roundg (l.length - (k + 1))
      case measure => omega
      case rel => exact ⟨k + 1, by go_num, rfl, hltn, HP⟩
    · have hge : ¬ (k : Int) < (l.length : Int) := by omega
      have hkk : k = l.length := by omega
      subst hkk
      obtain ⟨y0, y1, y2, y3, u0, u1, u2, u3⟩ := HP.out.c4 w.heap.size 30 _ _ _ _ List.mem_cons_self
      go_wp2_with fail
      have K6 := ((((HP.out.put 0 rfl 0 (.bool false)).put 0 rfl 1 (.int .i64 0)).put 0 rfl 2 (.int .i64 0)).put 0 rfl 3 (.int .i64 0))
      obtain ⟨wf, hw, hf⟩ : ∃ wf, wf = _ ∧ Hv w0 wf (cb w.heap.size 30 #[.bool false, .int .i64 0, .int .i64 0, .int .i64 0] :: L) := ⟨_, rfl, by first | (simpa using K6) | (simpa using K6.drew)⟩
      rw [← hw]
      obtain ⟨p0, p1, p2, p3, -, -, -, -⟩ := hf.c4 w.heap.size 30 _ _ _ _ List.mem_cons_self
      exact bodyPost_ret (v := .tuple #[.slice ad l.length c, .agg #[.bool false, .int .i64 0, .int .i64 0, .int .i64 0], .bool false]) (by simp [results, Try.results11, go_sem, p0, p1, p2, p3, hu30]) rfl ⟨rfl, hf.tail⟩
set_option maxHeartbeats 8000000 in
set_option maxRecDepth 100000 in
theorem rSame.calls (hv : Hv w0 w L) {ad1 ad2 : Option Addr} {c1 c2 : Nat} {l : List Rd} (hl : l.length ≤ 100000) (hR1 : Rw 30 4 L ad1 l.length c1 (l.flatMap cel)) (hR2 : Rw 30 4 L ad2 l.length c2 (l.flatMap cel)) :
    Calls Try.prog 13 #[.slice ad1 l.length c1, .slice ad2 l.length c2] w fun e w' => e = .returned (.bool true) ∧ Hv w0 w' L := by
  have hu22 := Try.underlying22
  have hu30 := Try.underlying30
  have HR1 := Aside0.mk hR1
  have HR2 := Aside0.mk hR2
  have HV := Aside0.mk hv
  have HL := Aside0.mk hl
  clear hv hR1 hR2 hl
  go_enter Try.func13, Try.ntmps13
  go_wp2_with fail
  go_loopg [5] l.length (fun kq v5 wr => ∃ (k : Nat), v5 = .int .i64 (k : Int) ∧ kq = l.length - k ∧ k ≤ l.length ∧ Aside0 (Hv w0 wr L))
  case atStart => exact ⟨0, rfl, rfl, Nat.zero_le _, HV⟩
  case round =>
    obtain ⟨k, rfl, rfl, hk, HP⟩ := hrel
    clear HV
    have hk7 : k ≤ 100000 := by have := HL.out; omega
    by_cases hltn : k < l.length
    · have hlt' : (k : Int) < (l.length : Int) := by omega
      obtain ⟨adl, ea, hcl⟩ := HR1.out.cells HP.out.drew (by omega)
      cases ea
      obtain ⟨adm, em, hcm⟩ := HR2.out.cells HP.out.drew (by omega)
      cases em
      obtain ⟨⟨b, x0, x1, x2⟩, hd⟩ : ∃ d, l[k]? = some d := ⟨_, List.getElem?_eq_getElem (by omega)⟩
      have z0 := hcl (k * 4) _ (cel_at l k 0 _ (.bool b) hd rfl)
      have z1 := hcl (k * 4 + 1) _ (cel_at l k 1 _ (.int .i64 x0) hd rfl)
      have z2 := hcl (k * 4 + 2) _ (cel_at l k 2 _ (.int .i64 x1) hd rfl)
      have z3 := hcl (k * 4 + 3) _ (cel_at l k 3 _ (.int .i64 x2) hd rfl)
      have m0 := hcm (k * 4) _ (cel_at l k 0 _ (.bool b) hd rfl)
      have m1 := hcm (k * 4 + 1) _ (cel_at l k 1 _ (.int .i64 x0) hd rfl)
      have m2 := hcm (k * 4 + 2) _ (cel_at l k 2 _ (.int .i64 x1) hd rfl)
      have m3 := hcm (k * 4 + 3) _ (cel_at l k 3 _ (.int .i64 x2) hd rfl)
      rw [add_next _ _ _ (by omega)] at z1 z2 z3 m1 m2 m3
      have hneq := neq30 b x0 x1 x2
      clear hcl hcm hd
      go_wp2_with fail
      go_region
      go_wp2_with fail
      go_roundg (l.length - (k + 1))
      case measure => omega
      case rel => exact ⟨k + 1, by go_num, rfl, hltn, ⟨by first | exact HP.out.drew | exact HP.out⟩⟩
    · have hge : ¬ (k : Int) < (l.length : Int) := by omega
      go_wp2_with fail
      exact bodyPost_ret (v := .bool true) (by simp [results, Try.results13, go_sem]) rfl ⟨rfl, HP.out⟩
end Go.Proofs.Ytjpfggpcppcpbaa.Rt
