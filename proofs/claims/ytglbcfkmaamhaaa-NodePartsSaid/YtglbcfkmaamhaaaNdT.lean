/- transomlaw17: awake. No condition. -/
import Derived.Test.YtglbcfkmaamhaaaNdS
set_option linter.unusedVariables false
set_option linter.unusedSimpArgs false
namespace Go.Proofs.Ytglbcfkmaamhaaa.Nd
open Go Go.RowKit Go.Proofs.YtglbcfkmaamhaaaW.PrintWords Go.Proofs.YtglbcfkmaamhaaaW.PrintLast Go.Proofs.YtglbcfkmaamhaaaW.PrintMore Go.Proofs.Ytglbcfkmaamhaaa.Hv
variable {w0 w w1 : World} {g : Nat} {L L' R : List Ob}
theorem asc_asc : ∀ {l : List ByteArray}, asc l = true → Asc l
  | [], _ => List.Pairwise.nil
  | [a], _ => List.pairwise_singleton _ _
  | a :: b :: l, h => by
    simp only [asc, Bool.and_eq_true] at h
    have h2 : Asc (b :: l) := asc_asc h.2
    refine List.pairwise_cons.2 ⟨fun z hz => ?_, h2⟩
    rcases List.mem_cons.1 hz with rfl | hz
    · exact h.1
    · exact less_trans _ _ _ h.1 ((List.pairwise_cons.1 h2).1 z hz)
theorem Hv.mid {A B : List Ob} (h : Hv w0 w (A ++ (B ++ R))) : Hv w0 w (B ++ (A ++ R)) := h.perm (by rw [← List.append_assoc, ← List.append_assoc]; exact List.Perm.append_right R List.perm_append_comm)
theorem aw_put0 : (⟨true, 0, [], []⟩ : Nd).put ⟨#[99]⟩ (0, 0) = ((⟨true, 1, [⟨#[99]⟩], [(0, 0)]⟩ : Nd), true) := by kernel_rfl
theorem aw_put1 : (⟨true, 1, [⟨#[99]⟩], [(0, 0)]⟩ : Nd).put ⟨#[97]⟩ (1, 0) = ((⟨true, 2, [⟨#[97]⟩, ⟨#[99]⟩], [(1, 0), (0, 0)]⟩ : Nd), true) := by kernel_rfl
theorem aw_put2 : (⟨true, 2, [⟨#[97]⟩, ⟨#[99]⟩], [(1, 0), (0, 0)]⟩ : Nd).put ⟨#[101]⟩ (2, 0) = ((⟨true, 3, [⟨#[97]⟩, ⟨#[99]⟩, ⟨#[101]⟩], [(1, 0), (0, 0), (2, 0)]⟩ : Nd), true) := by kernel_rfl
theorem aw_put3 : (⟨true, 3, [⟨#[97]⟩, ⟨#[99]⟩, ⟨#[101]⟩], [(1, 0), (0, 0), (2, 0)]⟩ : Nd).put ⟨#[98]⟩ (3, 0) = ((⟨true, 4, [⟨#[97]⟩, ⟨#[98]⟩, ⟨#[99]⟩, ⟨#[101]⟩], [(1, 0), (3, 0), (0, 0), (2, 0)]⟩ : Nd), true) := by kernel_rfl
theorem aw_put4 : (⟨true, 4, [⟨#[97]⟩, ⟨#[98]⟩, ⟨#[99]⟩, ⟨#[101]⟩], [(1, 0), (3, 0), (0, 0), (2, 0)]⟩ : Nd).put ⟨#[100]⟩ (4, 0) = ((⟨true, 5, [⟨#[97]⟩, ⟨#[98]⟩, ⟨#[99]⟩, ⟨#[100]⟩, ⟨#[101]⟩], [(1, 0), (3, 0), (0, 0), (4, 0), (2, 0)]⟩ : Nd), true) := by kernel_rfl
theorem aw_split : (⟨true, 5, [⟨#[97]⟩, ⟨#[98]⟩, ⟨#[99]⟩, ⟨#[100]⟩, ⟨#[101]⟩], [(1, 0), (3, 0), (0, 0), (4, 0), (2, 0)]⟩ : Nd).split = ((⟨true, 6, [⟨#[97]⟩, ⟨#[98]⟩, ⟨#[99]⟩], [(1, 0), (3, 0), (0, 0)]⟩ : Nd), ⟨#[100]⟩, (⟨true, 1, [⟨#[100]⟩, ⟨#[101]⟩], [(4, 0), (2, 0)]⟩ : Nd)) := by kernel_rfl
theorem aw_find : (⟨true, 5, [⟨#[97]⟩, ⟨#[98]⟩, ⟨#[99]⟩, ⟨#[100]⟩, ⟨#[101]⟩], [(1, 0), (3, 0), (0, 0), (4, 0), (2, 0)]⟩ : Nd).find ⟨#[100]⟩ = (3, true) := by kernel_rfl
theorem aw_join : (⟨true, 6, [⟨#[97]⟩, ⟨#[98]⟩, ⟨#[99]⟩], [(1, 0), (3, 0), (0, 0)]⟩ : Nd).join ⟨#[100]⟩ (⟨true, 1, [⟨#[100]⟩, ⟨#[101]⟩], [(4, 0), (2, 0)]⟩ : Nd) = (⟨true, 7, [⟨#[97]⟩, ⟨#[98]⟩, ⟨#[99]⟩, ⟨#[100]⟩, ⟨#[101]⟩], [(1, 0), (3, 0), (0, 0), (4, 0), (2, 0)]⟩ : Nd) := by kernel_rfl
theorem aw_delete : (⟨true, 7, [⟨#[97]⟩, ⟨#[98]⟩, ⟨#[99]⟩, ⟨#[100]⟩, ⟨#[101]⟩], [(1, 0), (3, 0), (0, 0), (4, 0), (2, 0)]⟩ : Nd).delete ⟨#[97]⟩ = ((⟨true, 8, [⟨#[98]⟩, ⟨#[99]⟩, ⟨#[100]⟩, ⟨#[101]⟩], [(3, 0), (0, 0), (4, 0), (2, 0)]⟩ : Nd), (1, 0), true) := by kernel_rfl
theorem aw_insert : (⟨false, 0, [], [(1, 0)]⟩ : Nd).insert 0 ⟨#[109]⟩ (2, 0) = (⟨false, 1, [⟨#[109]⟩], [(1, 0), (2, 0)]⟩ : Nd) := by kernel_rfl
theorem aw_child1 : (⟨false, 1, [⟨#[109]⟩], [(1, 0), (2, 0)]⟩ : Nd).child ⟨#[109]⟩ = 1 := by kernel_rfl
theorem aw_child2 : (⟨false, 1, [⟨#[109]⟩], [(1, 0), (2, 0)]⟩ : Nd).child ⟨#[97]⟩ = 0 := by kernel_rfl
theorem aw_remove : (⟨false, 1, [⟨#[109]⟩], [(1, 0), (2, 0)]⟩ : Nd).remove 0 = (⟨false, 2, [], [(2, 0)]⟩ : Nd) := by kernel_rfl
theorem aw_check1 : (⟨true, 8, [⟨#[98]⟩, ⟨#[99]⟩, ⟨#[100]⟩, ⟨#[101]⟩], [(3, 0), (0, 0), (4, 0), (2, 0)]⟩ : Nd).check = true := by kernel_rfl
theorem aw_check2 : (⟨true, 5, [⟨#[97]⟩, ⟨#[98]⟩, ⟨#[99]⟩, ⟨#[100]⟩, ⟨#[101]⟩], [(1, 0), (3, 0), (0, 0), (4, 0), (2, 0)]⟩ : Nd).check = false := by kernel_rfl
theorem ok_n0 : Ok (⟨true, 0, [], []⟩ : Nd) := ⟨by decide, by decide, asc_asc (by kernel_rfl)⟩
theorem ok_n1 : Ok (⟨true, 1, [⟨#[99]⟩], [(0, 0)]⟩ : Nd) := ⟨by decide, by decide, asc_asc (by kernel_rfl)⟩
theorem ok_n2 : Ok (⟨true, 2, [⟨#[97]⟩, ⟨#[99]⟩], [(1, 0), (0, 0)]⟩ : Nd) := ⟨by decide, by decide, asc_asc (by kernel_rfl)⟩
theorem ok_n3 : Ok (⟨true, 3, [⟨#[97]⟩, ⟨#[99]⟩, ⟨#[101]⟩], [(1, 0), (0, 0), (2, 0)]⟩ : Nd) := ⟨by decide, by decide, asc_asc (by kernel_rfl)⟩
theorem ok_n4 : Ok (⟨true, 4, [⟨#[97]⟩, ⟨#[98]⟩, ⟨#[99]⟩, ⟨#[101]⟩], [(1, 0), (3, 0), (0, 0), (2, 0)]⟩ : Nd) := ⟨by decide, by decide, asc_asc (by kernel_rfl)⟩
theorem ok_n5 : Ok (⟨true, 5, [⟨#[97]⟩, ⟨#[98]⟩, ⟨#[99]⟩, ⟨#[100]⟩, ⟨#[101]⟩], [(1, 0), (3, 0), (0, 0), (4, 0), (2, 0)]⟩ : Nd) := ⟨by decide, by decide, asc_asc (by kernel_rfl)⟩
theorem ok_a : Ok (⟨true, 6, [⟨#[97]⟩, ⟨#[98]⟩, ⟨#[99]⟩], [(1, 0), (3, 0), (0, 0)]⟩ : Nd) := ⟨by decide, by decide, asc_asc (by kernel_rfl)⟩
theorem ok_b : Ok (⟨true, 1, [⟨#[100]⟩, ⟨#[101]⟩], [(4, 0), (2, 0)]⟩ : Nd) := ⟨by decide, by decide, asc_asc (by kernel_rfl)⟩
theorem ok_j : Ok (⟨true, 7, [⟨#[97]⟩, ⟨#[98]⟩, ⟨#[99]⟩, ⟨#[100]⟩, ⟨#[101]⟩], [(1, 0), (3, 0), (0, 0), (4, 0), (2, 0)]⟩ : Nd) := ⟨by decide, by decide, asc_asc (by kernel_rfl)⟩
theorem ok_d : Ok (⟨true, 8, [⟨#[98]⟩, ⟨#[99]⟩, ⟨#[100]⟩, ⟨#[101]⟩], [(3, 0), (0, 0), (4, 0), (2, 0)]⟩ : Nd) := ⟨by decide, by decide, asc_asc (by kernel_rfl)⟩
theorem ok_i0 : Ok (⟨false, 0, [], [(1, 0)]⟩ : Nd) := ⟨by decide, by decide, asc_asc (by kernel_rfl)⟩
theorem ok_i : Ok (⟨false, 1, [⟨#[109]⟩], [(1, 0), (2, 0)]⟩ : Nd) := ⟨by decide, by decide, asc_asc (by kernel_rfl)⟩
theorem ok_r : Ok (⟨false, 2, [], [(2, 0)]⟩ : Nd) := ⟨by decide, by decide, asc_asc (by kernel_rfl)⟩
theorem aw_idx0 (w : World) : (Instr.index 144 (.agg #[.string ⟨#[99]⟩, .string ⟨#[97]⟩, .string ⟨#[101]⟩, .string ⟨#[98]⟩, .string ⟨#[100]⟩]) (.int .i64 0)).run Try.prog w = .ok (.string ⟨#[99]⟩) w := by kernel_rfl
theorem aw_idx1 (w : World) : (Instr.index 144 (.agg #[.string ⟨#[99]⟩, .string ⟨#[97]⟩, .string ⟨#[101]⟩, .string ⟨#[98]⟩, .string ⟨#[100]⟩]) (.int .i64 1)).run Try.prog w = .ok (.string ⟨#[97]⟩) w := by kernel_rfl
theorem aw_idx2 (w : World) : (Instr.index 144 (.agg #[.string ⟨#[99]⟩, .string ⟨#[97]⟩, .string ⟨#[101]⟩, .string ⟨#[98]⟩, .string ⟨#[100]⟩]) (.int .i64 2)).run Try.prog w = .ok (.string ⟨#[101]⟩) w := by kernel_rfl
theorem aw_idx3 (w : World) : (Instr.index 144 (.agg #[.string ⟨#[99]⟩, .string ⟨#[97]⟩, .string ⟨#[101]⟩, .string ⟨#[98]⟩, .string ⟨#[100]⟩]) (.int .i64 3)).run Try.prog w = .ok (.string ⟨#[98]⟩) w := by kernel_rfl
theorem aw_idx4 (w : World) : (Instr.index 144 (.agg #[.string ⟨#[99]⟩, .string ⟨#[97]⟩, .string ⟨#[101]⟩, .string ⟨#[98]⟩, .string ⟨#[100]⟩]) (.int .i64 4)).run Try.prog w = .ok (.string ⟨#[100]⟩) w := by kernel_rfl
def stn : Nat → Nd
  | 0 => (⟨true, 0, [], []⟩ : Nd)
  | 1 => (⟨true, 1, [⟨#[99]⟩], [(0, 0)]⟩ : Nd)
  | 2 => (⟨true, 2, [⟨#[97]⟩, ⟨#[99]⟩], [(1, 0), (0, 0)]⟩ : Nd)
  | 3 => (⟨true, 3, [⟨#[97]⟩, ⟨#[99]⟩, ⟨#[101]⟩], [(1, 0), (0, 0), (2, 0)]⟩ : Nd)
  | 4 => (⟨true, 4, [⟨#[97]⟩, ⟨#[98]⟩, ⟨#[99]⟩, ⟨#[101]⟩], [(1, 0), (3, 0), (0, 0), (2, 0)]⟩ : Nd)
  | _ => (⟨true, 5, [⟨#[97]⟩, ⟨#[98]⟩, ⟨#[99]⟩, ⟨#[100]⟩, ⟨#[101]⟩], [(1, 0), (3, 0), (0, 0), (4, 0), (2, 0)]⟩ : Nd)
set_option maxHeartbeats 16000000 in
set_option maxRecDepth 100000 in
theorem awake.calls (w : World) : Calls Try.prog 32 #[] w fun e w' => e = .returned (.bool true) ∧ Below w.heap.size w w' := by
  have hu59 := Try.underlying59
  have hu33 := Try.underlying33
  have hu57 := Try.underlying57
  have hu31 := Try.underlying31
  have hu144 := Try.underlying144
  have HV := Aside0.mk (show Hv w (w.alloc (.cells #[.bool true, .int .i64 0, .slice none 0 0, .slice none 0 0] 59)) ([cb w.heap.size 59 #[.bool true, .int .i64 0, .slice none 0 0, .slice none 0 0]] ++ []) from (Hv.start w).alloc _)
  go_enter Try.func32, Try.ntmps32
  go_wp2_with fail
  go_loopg [2, 19] 5 (fun kq v2 v19 wr => ∃ (k : Nat), v2 = .int .i64 (k : Int) ∧ v19 = .int .i64 (k : Int) ∧ kq = 5 - k ∧ k ≤ 5 ∧ Aside0 (∃ ka kc ra rc R, Hv w wr (cb w.heap.size 59 #[.bool true, .int .i64 (k : Int), .slice ka k kc, .slice ra k rc] :: R) ∧ NR w R (stn k) ka kc ra rc))
  case atStart => exact ⟨0, rfl, rfl, rfl, by omega, ⟨none, 0, none, 0, [], HV.out, ⟨Rdy.nil _ _, Rdy.nil _ _, Nat.le_refl _, Nat.le_refl _⟩⟩⟩
  case round =>
    obtain ⟨k, rfl, rfl, rfl, hk, HS⟩ := hrel
    clear HV
    obtain rfl | rfl | rfl | rfl | rfl | rfl : k = 0 ∨ k = 1 ∨ k = 2 ∨ k = 3 ∨ k = 4 ∨ k = 5 := by omega
    · obtain ⟨ka, kc, ra, rc, R, hv, hr⟩ := HS.out
      have HV := Aside0.mk (show Hv w wr ([cb w.heap.size 59 #[.bool true, .int .i64 0, .slice ka 0 kc, .slice ra 0 rc]] ++ R) from hv)
      have HN := Aside0.mk (show NV w R (⟨true, 0, [], []⟩ : Nd) (.agg #[.bool true, .int .i64 0, .slice ka 0 kc, .slice ra 0 rc]) from ⟨ka, kc, ra, rc, rfl, hr⟩)
      clear hv hr HS
      have hi := aw_idx0
      obtain ⟨y0, y1, y2, y3, f0, f1, f2, f3⟩ := HV.out.c4 (w.heap.size) 59 (.bool true) (.int .i64 0) (.slice ka 0 kc) (.slice ra 0 rc) (by simp)
      go_upto_region 7 with (go_at_call 42; go_loud (refine (put.calls (w0 := w) (R := R) HV.out (fun p hp => List.mem_append_right _ hp) HN.out ok_n0 ⟨#[99]⟩ (0, 0)).mono ?_); rw [aw_put0]; rintro e2 w2 ⟨v2, A2, rfl, hn2, h2⟩; obtain ⟨ka2, kc2, ra2, rc2, ev, hr2⟩ := hn2; have ev' : v2 = .agg #[.bool true, .int .i64 1, .slice ka2 1 kc2, .slice ra2 1 rc2] := ev; subst ev'; clear ev; have H2 := Aside0.mk (Hv.mid h2); have HR2 := Aside0.mk hr2; clear h2 hr2; clear y0 y1 y2 y3 f0 f1 f2 f3; obtain ⟨y0, y1, y2, y3, f0, f1, f2, f3⟩ := H2.out.c4 (w.heap.size) 59 (.bool true) (.int .i64 0) (.slice ka 0 kc) (.slice ra 0 rc) (by simp))
      obtain ⟨W, hW, hw⟩ : ∃ W, W = w2.alloc (.cells #[.bool true, .int .i64 1, .slice ka2 1 kc2, .slice ra2 1 rc2] 59) ∧ Hv w W (cb w2.heap.size 59 #[.bool true, .int .i64 1, .slice ka2 1 kc2, .slice ra2 1 rc2] :: cb w.heap.size 59 #[.bool true, .int .i64 0, .slice ka 0 kc, .slice ra 0 rc] :: (A2 ++ R)) := ⟨_, rfl, H2.out.alloc _⟩
      rw [← hW]
      have H3 := Aside0.mk hw
      clear hW hw
      generalize w2.heap.size = b5 at H3 ⊢
      clear y0 y1 y2 y3 f0 f1 f2 f3
      have x1 := H3.out.apart (i := 0) (j := 1) rfl rfl (by decide)
      have x2 := H3.out.apart (i := 1) (j := 0) rfl rfl (by decide)
      simp only [cb] at x1 x2
      obtain ⟨y0, y1, y2, y3, f0, f1, f2, f3⟩ := H3.out.c4 (w.heap.size) 59 (.bool true) (.int .i64 0) (.slice ka 0 kc) (.slice ra 0 rc) (by simp)
      obtain ⟨q0, q1, q2, q3, g0, g1, g2, g3⟩ := H3.out.c4 (b5) 59 (.bool true) (.int .i64 1) (.slice ka2 1 kc2) (.slice ra2 1 rc2) (by simp)
      go_wp2_with fail
      go_roundg (5 - (0 + 1))
      case measure => omega
      case rel => exact ⟨0 + 1, by rfl, by rfl, by omega, by omega, ⟨ka2, kc2, ra2, rc2, A2 ++ R, ((((H3.out.put1 0 (.bool true) rfl).put1 1 (.int .i64 1) rfl).put1 2 (.slice ka2 1 kc2) rfl).put1 3 (.slice ra2 1 rc2) rfl).tail, HR2.out⟩⟩
    · obtain ⟨ka, kc, ra, rc, R, hv, hr⟩ := HS.out
      have HV := Aside0.mk (show Hv w wr ([cb w.heap.size 59 #[.bool true, .int .i64 1, .slice ka 1 kc, .slice ra 1 rc]] ++ R) from hv)
      have HN := Aside0.mk (show NV w R (⟨true, 1, [⟨#[99]⟩], [(0, 0)]⟩ : Nd) (.agg #[.bool true, .int .i64 1, .slice ka 1 kc, .slice ra 1 rc]) from ⟨ka, kc, ra, rc, rfl, hr⟩)
      clear hv hr HS
      have hi := aw_idx1
      obtain ⟨y0, y1, y2, y3, f0, f1, f2, f3⟩ := HV.out.c4 (w.heap.size) 59 (.bool true) (.int .i64 1) (.slice ka 1 kc) (.slice ra 1 rc) (by simp)
      go_upto_region 7 with (go_at_call 42; go_loud (refine (put.calls (w0 := w) (R := R) HV.out (fun p hp => List.mem_append_right _ hp) HN.out ok_n1 ⟨#[97]⟩ (1, 0)).mono ?_); rw [aw_put1]; rintro e2 w2 ⟨v2, A2, rfl, hn2, h2⟩; obtain ⟨ka2, kc2, ra2, rc2, ev, hr2⟩ := hn2; have ev' : v2 = .agg #[.bool true, .int .i64 2, .slice ka2 2 kc2, .slice ra2 2 rc2] := ev; subst ev'; clear ev; have H2 := Aside0.mk (Hv.mid h2); have HR2 := Aside0.mk hr2; clear h2 hr2; clear y0 y1 y2 y3 f0 f1 f2 f3; obtain ⟨y0, y1, y2, y3, f0, f1, f2, f3⟩ := H2.out.c4 (w.heap.size) 59 (.bool true) (.int .i64 1) (.slice ka 1 kc) (.slice ra 1 rc) (by simp))
      obtain ⟨W, hW, hw⟩ : ∃ W, W = w2.alloc (.cells #[.bool true, .int .i64 2, .slice ka2 2 kc2, .slice ra2 2 rc2] 59) ∧ Hv w W (cb w2.heap.size 59 #[.bool true, .int .i64 2, .slice ka2 2 kc2, .slice ra2 2 rc2] :: cb w.heap.size 59 #[.bool true, .int .i64 1, .slice ka 1 kc, .slice ra 1 rc] :: (A2 ++ R)) := ⟨_, rfl, H2.out.alloc _⟩
      rw [← hW]
      have H3 := Aside0.mk hw
      clear hW hw
      generalize w2.heap.size = b5 at H3 ⊢
      clear y0 y1 y2 y3 f0 f1 f2 f3
      have x1 := H3.out.apart (i := 0) (j := 1) rfl rfl (by decide)
      have x2 := H3.out.apart (i := 1) (j := 0) rfl rfl (by decide)
      simp only [cb] at x1 x2
      obtain ⟨y0, y1, y2, y3, f0, f1, f2, f3⟩ := H3.out.c4 (w.heap.size) 59 (.bool true) (.int .i64 1) (.slice ka 1 kc) (.slice ra 1 rc) (by simp)
      obtain ⟨q0, q1, q2, q3, g0, g1, g2, g3⟩ := H3.out.c4 (b5) 59 (.bool true) (.int .i64 2) (.slice ka2 2 kc2) (.slice ra2 2 rc2) (by simp)
      go_wp2_with fail
      go_roundg (5 - (1 + 1))
      case measure => omega
      case rel => exact ⟨1 + 1, by rfl, by rfl, by omega, by omega, ⟨ka2, kc2, ra2, rc2, A2 ++ R, ((((H3.out.put1 0 (.bool true) rfl).put1 1 (.int .i64 2) rfl).put1 2 (.slice ka2 2 kc2) rfl).put1 3 (.slice ra2 2 rc2) rfl).tail, HR2.out⟩⟩
    · obtain ⟨ka, kc, ra, rc, R, hv, hr⟩ := HS.out
      have HV := Aside0.mk (show Hv w wr ([cb w.heap.size 59 #[.bool true, .int .i64 2, .slice ka 2 kc, .slice ra 2 rc]] ++ R) from hv)
      have HN := Aside0.mk (show NV w R (⟨true, 2, [⟨#[97]⟩, ⟨#[99]⟩], [(1, 0), (0, 0)]⟩ : Nd) (.agg #[.bool true, .int .i64 2, .slice ka 2 kc, .slice ra 2 rc]) from ⟨ka, kc, ra, rc, rfl, hr⟩)
      clear hv hr HS
      have hi := aw_idx2
      obtain ⟨y0, y1, y2, y3, f0, f1, f2, f3⟩ := HV.out.c4 (w.heap.size) 59 (.bool true) (.int .i64 2) (.slice ka 2 kc) (.slice ra 2 rc) (by simp)
      go_upto_region 7 with (go_at_call 42; go_loud (refine (put.calls (w0 := w) (R := R) HV.out (fun p hp => List.mem_append_right _ hp) HN.out ok_n2 ⟨#[101]⟩ (2, 0)).mono ?_); rw [aw_put2]; rintro e2 w2 ⟨v2, A2, rfl, hn2, h2⟩; obtain ⟨ka2, kc2, ra2, rc2, ev, hr2⟩ := hn2; have ev' : v2 = .agg #[.bool true, .int .i64 3, .slice ka2 3 kc2, .slice ra2 3 rc2] := ev; subst ev'; clear ev; have H2 := Aside0.mk (Hv.mid h2); have HR2 := Aside0.mk hr2; clear h2 hr2; clear y0 y1 y2 y3 f0 f1 f2 f3; obtain ⟨y0, y1, y2, y3, f0, f1, f2, f3⟩ := H2.out.c4 (w.heap.size) 59 (.bool true) (.int .i64 2) (.slice ka 2 kc) (.slice ra 2 rc) (by simp))
      obtain ⟨W, hW, hw⟩ : ∃ W, W = w2.alloc (.cells #[.bool true, .int .i64 3, .slice ka2 3 kc2, .slice ra2 3 rc2] 59) ∧ Hv w W (cb w2.heap.size 59 #[.bool true, .int .i64 3, .slice ka2 3 kc2, .slice ra2 3 rc2] :: cb w.heap.size 59 #[.bool true, .int .i64 2, .slice ka 2 kc, .slice ra 2 rc] :: (A2 ++ R)) := ⟨_, rfl, H2.out.alloc _⟩
      rw [← hW]
      have H3 := Aside0.mk hw
      clear hW hw
      generalize w2.heap.size = b5 at H3 ⊢
      clear y0 y1 y2 y3 f0 f1 f2 f3
      have x1 := H3.out.apart (i := 0) (j := 1) rfl rfl (by decide)
      have x2 := H3.out.apart (i := 1) (j := 0) rfl rfl (by decide)
      simp only [cb] at x1 x2
      obtain ⟨y0, y1, y2, y3, f0, f1, f2, f3⟩ := H3.out.c4 (w.heap.size) 59 (.bool true) (.int .i64 2) (.slice ka 2 kc) (.slice ra 2 rc) (by simp)
      obtain ⟨q0, q1, q2, q3, g0, g1, g2, g3⟩ := H3.out.c4 (b5) 59 (.bool true) (.int .i64 3) (.slice ka2 3 kc2) (.slice ra2 3 rc2) (by simp)
      go_wp2_with fail
      go_roundg (5 - (2 + 1))
      case measure => omega
      case rel => exact ⟨2 + 1, by rfl, by rfl, by omega, by omega, ⟨ka2, kc2, ra2, rc2, A2 ++ R, ((((H3.out.put1 0 (.bool true) rfl).put1 1 (.int .i64 3) rfl).put1 2 (.slice ka2 3 kc2) rfl).put1 3 (.slice ra2 3 rc2) rfl).tail, HR2.out⟩⟩
    · obtain ⟨ka, kc, ra, rc, R, hv, hr⟩ := HS.out
      have HV := Aside0.mk (show Hv w wr ([cb w.heap.size 59 #[.bool true, .int .i64 3, .slice ka 3 kc, .slice ra 3 rc]] ++ R) from hv)
      have HN := Aside0.mk (show NV w R (⟨true, 3, [⟨#[97]⟩, ⟨#[99]⟩, ⟨#[101]⟩], [(1, 0), (0, 0), (2, 0)]⟩ : Nd) (.agg #[.bool true, .int .i64 3, .slice ka 3 kc, .slice ra 3 rc]) from ⟨ka, kc, ra, rc, rfl, hr⟩)
      clear hv hr HS
      have hi := aw_idx3
      obtain ⟨y0, y1, y2, y3, f0, f1, f2, f3⟩ := HV.out.c4 (w.heap.size) 59 (.bool true) (.int .i64 3) (.slice ka 3 kc) (.slice ra 3 rc) (by simp)
      go_upto_region 7 with (go_at_call 42; go_loud (refine (put.calls (w0 := w) (R := R) HV.out (fun p hp => List.mem_append_right _ hp) HN.out ok_n3 ⟨#[98]⟩ (3, 0)).mono ?_); rw [aw_put3]; rintro e2 w2 ⟨v2, A2, rfl, hn2, h2⟩; obtain ⟨ka2, kc2, ra2, rc2, ev, hr2⟩ := hn2; have ev' : v2 = .agg #[.bool true, .int .i64 4, .slice ka2 4 kc2, .slice ra2 4 rc2] := ev; subst ev'; clear ev; have H2 := Aside0.mk (Hv.mid h2); have HR2 := Aside0.mk hr2; clear h2 hr2; clear y0 y1 y2 y3 f0 f1 f2 f3; obtain ⟨y0, y1, y2, y3, f0, f1, f2, f3⟩ := H2.out.c4 (w.heap.size) 59 (.bool true) (.int .i64 3) (.slice ka 3 kc) (.slice ra 3 rc) (by simp))
      obtain ⟨W, hW, hw⟩ : ∃ W, W = w2.alloc (.cells #[.bool true, .int .i64 4, .slice ka2 4 kc2, .slice ra2 4 rc2] 59) ∧ Hv w W (cb w2.heap.size 59 #[.bool true, .int .i64 4, .slice ka2 4 kc2, .slice ra2 4 rc2] :: cb w.heap.size 59 #[.bool true, .int .i64 3, .slice ka 3 kc, .slice ra 3 rc] :: (A2 ++ R)) := ⟨_, rfl, H2.out.alloc _⟩
      rw [← hW]
      have H3 := Aside0.mk hw
      clear hW hw
      generalize w2.heap.size = b5 at H3 ⊢
      clear y0 y1 y2 y3 f0 f1 f2 f3
      have x1 := H3.out.apart (i := 0) (j := 1) rfl rfl (by decide)
      have x2 := H3.out.apart (i := 1) (j := 0) rfl rfl (by decide)
      simp only [cb] at x1 x2
      obtain ⟨y0, y1, y2, y3, f0, f1, f2, f3⟩ := H3.out.c4 (w.heap.size) 59 (.bool true) (.int .i64 3) (.slice ka 3 kc) (.slice ra 3 rc) (by simp)
      obtain ⟨q0, q1, q2, q3, g0, g1, g2, g3⟩ := H3.out.c4 (b5) 59 (.bool true) (.int .i64 4) (.slice ka2 4 kc2) (.slice ra2 4 rc2) (by simp)
      go_wp2_with fail
      go_roundg (5 - (3 + 1))
      case measure => omega
      case rel => exact ⟨3 + 1, by rfl, by rfl, by omega, by omega, ⟨ka2, kc2, ra2, rc2, A2 ++ R, ((((H3.out.put1 0 (.bool true) rfl).put1 1 (.int .i64 4) rfl).put1 2 (.slice ka2 4 kc2) rfl).put1 3 (.slice ra2 4 rc2) rfl).tail, HR2.out⟩⟩
    · obtain ⟨ka, kc, ra, rc, R, hv, hr⟩ := HS.out
      have HV := Aside0.mk (show Hv w wr ([cb w.heap.size 59 #[.bool true, .int .i64 4, .slice ka 4 kc, .slice ra 4 rc]] ++ R) from hv)
      have HN := Aside0.mk (show NV w R (⟨true, 4, [⟨#[97]⟩, ⟨#[98]⟩, ⟨#[99]⟩, ⟨#[101]⟩], [(1, 0), (3, 0), (0, 0), (2, 0)]⟩ : Nd) (.agg #[.bool true, .int .i64 4, .slice ka 4 kc, .slice ra 4 rc]) from ⟨ka, kc, ra, rc, rfl, hr⟩)
      clear hv hr HS
      have hi := aw_idx4
      obtain ⟨y0, y1, y2, y3, f0, f1, f2, f3⟩ := HV.out.c4 (w.heap.size) 59 (.bool true) (.int .i64 4) (.slice ka 4 kc) (.slice ra 4 rc) (by simp)
      go_upto_region 7 with (go_at_call 42; go_loud (refine (put.calls (w0 := w) (R := R) HV.out (fun p hp => List.mem_append_right _ hp) HN.out ok_n4 ⟨#[100]⟩ (4, 0)).mono ?_); rw [aw_put4]; rintro e2 w2 ⟨v2, A2, rfl, hn2, h2⟩; obtain ⟨ka2, kc2, ra2, rc2, ev, hr2⟩ := hn2; have ev' : v2 = .agg #[.bool true, .int .i64 5, .slice ka2 5 kc2, .slice ra2 5 rc2] := ev; subst ev'; clear ev; have H2 := Aside0.mk (Hv.mid h2); have HR2 := Aside0.mk hr2; clear h2 hr2; clear y0 y1 y2 y3 f0 f1 f2 f3; obtain ⟨y0, y1, y2, y3, f0, f1, f2, f3⟩ := H2.out.c4 (w.heap.size) 59 (.bool true) (.int .i64 4) (.slice ka 4 kc) (.slice ra 4 rc) (by simp))
      obtain ⟨W, hW, hw⟩ : ∃ W, W = w2.alloc (.cells #[.bool true, .int .i64 5, .slice ka2 5 kc2, .slice ra2 5 rc2] 59) ∧ Hv w W (cb w2.heap.size 59 #[.bool true, .int .i64 5, .slice ka2 5 kc2, .slice ra2 5 rc2] :: cb w.heap.size 59 #[.bool true, .int .i64 4, .slice ka 4 kc, .slice ra 4 rc] :: (A2 ++ R)) := ⟨_, rfl, H2.out.alloc _⟩
      rw [← hW]
      have H3 := Aside0.mk hw
      clear hW hw
      generalize w2.heap.size = b5 at H3 ⊢
      clear y0 y1 y2 y3 f0 f1 f2 f3
      have x1 := H3.out.apart (i := 0) (j := 1) rfl rfl (by decide)
      have x2 := H3.out.apart (i := 1) (j := 0) rfl rfl (by decide)
      simp only [cb] at x1 x2
      obtain ⟨y0, y1, y2, y3, f0, f1, f2, f3⟩ := H3.out.c4 (w.heap.size) 59 (.bool true) (.int .i64 4) (.slice ka 4 kc) (.slice ra 4 rc) (by simp)
      obtain ⟨q0, q1, q2, q3, g0, g1, g2, g3⟩ := H3.out.c4 (b5) 59 (.bool true) (.int .i64 5) (.slice ka2 5 kc2) (.slice ra2 5 rc2) (by simp)
      go_wp2_with fail
      go_roundg (5 - (4 + 1))
      case measure => omega
      case rel => exact ⟨4 + 1, by rfl, by rfl, by omega, by omega, ⟨ka2, kc2, ra2, rc2, A2 ++ R, ((((H3.out.put1 0 (.bool true) rfl).put1 1 (.int .i64 5) rfl).put1 2 (.slice ka2 5 kc2) rfl).put1 3 (.slice ra2 5 rc2) rfl).tail, HR2.out⟩⟩
    · obtain ⟨ka, kc, ra, rc, R, hv, hr⟩ := HS.out
      have HV := Aside0.mk (show Hv w wr ([cb w.heap.size 59 #[.bool true, .int .i64 5, .slice ka 5 kc, .slice ra 5 rc]] ++ R) from hv)
      have HN := Aside0.mk (show NV w R (⟨true, 5, [⟨#[97]⟩, ⟨#[98]⟩, ⟨#[99]⟩, ⟨#[100]⟩, ⟨#[101]⟩], [(1, 0), (3, 0), (0, 0), (4, 0), (2, 0)]⟩ : Nd) (.agg #[.bool true, .int .i64 5, .slice ka 5 kc, .slice ra 5 rc]) from ⟨ka, kc, ra, rc, rfl, hr⟩)
      clear hv hr HS
      obtain ⟨y0, y1, y2, y3, f0, f1, f2, f3⟩ := HV.out.c4 (w.heap.size) 59 (.bool true) (.int .i64 5) (.slice ka 5 kc) (.slice ra 5 rc) (by simp)
      go_upto_region 12 with (go_at_call 51; go_loud (refine (split.calls (w0 := w) (R := R) HV.out (fun p hp => List.mem_append_right _ hp) HN.out ok_n5.sm).mono ?_); rw [aw_split]; rintro e2 w2 ⟨va, vb, A2, rfl, hna, hnb, h2⟩; obtain ⟨kaa, kca, raa, rca, ev, hra⟩ := hna; have ev' : va = .agg #[.bool true, .int .i64 6, .slice kaa 3 kca, .slice raa 3 rca] := ev; subst ev'; clear ev; obtain ⟨kab, kcb, rab, rcb, ev, hrb⟩ := hnb; have ev' : vb = .agg #[.bool true, .int .i64 1, .slice kab 2 kcb, .slice rab 2 rcb] := ev; subst ev'; clear ev; have H2 := Aside0.mk (Hv.mid h2); have HNA := Aside0.mk (show NV w (A2 ++ R) (⟨true, 6, [⟨#[97]⟩, ⟨#[98]⟩, ⟨#[99]⟩], [(1, 0), (3, 0), (0, 0)]⟩ : Nd) (.agg #[.bool true, .int .i64 6, .slice kaa 3 kca, .slice raa 3 rca]) from ⟨kaa, kca, raa, rca, rfl, hra⟩); have HNB := Aside0.mk (show NV w (A2 ++ R) (⟨true, 1, [⟨#[100]⟩, ⟨#[101]⟩], [(4, 0), (2, 0)]⟩ : Nd) (.agg #[.bool true, .int .i64 1, .slice kab 2 kcb, .slice rab 2 rcb]) from ⟨kab, kcb, rab, rcb, rfl, hrb⟩); have HRB := Aside0.mk hrb; clear h2 hra hrb; clear y0 y1 y2 y3 f0 f1 f2 f3; obtain ⟨y0, y1, y2, y3, f0, f1, f2, f3⟩ := H2.out.c4 (w.heap.size) 59 (.bool true) (.int .i64 5) (.slice ka 5 kc) (.slice ra 5 rc) (by simp))
      obtain ⟨W3, hW, hw⟩ : ∃ W, W = (w2.alloc (.cells #[.bool true, .int .i64 6, .slice kaa 3 kca, .slice raa 3 rca] 59)).alloc (.cells #[.bool true, .int .i64 1, .slice kab 2 kcb, .slice rab 2 rcb] 59) ∧ Hv w W ([cb (w2.heap.size + 1) 59 #[.bool true, .int .i64 1, .slice kab 2 kcb, .slice rab 2 rcb], cb w2.heap.size 59 #[.bool true, .int .i64 6, .slice kaa 3 kca, .slice raa 3 rca], cb w.heap.size 59 #[.bool true, .int .i64 5, .slice ka 5 kc, .slice ra 5 rc]] ++ (A2 ++ R)) := ⟨_, rfl, by have := (H2.out.alloc (.cells #[.bool true, .int .i64 6, .slice kaa 3 kca, .slice raa 3 rca] 59)).alloc (.cells #[.bool true, .int .i64 1, .slice kab 2 kcb, .slice rab 2 rcb] 59); simpa [cb] using this⟩
      rw [← hW]
      have H3 := Aside0.mk hw
      clear hW hw H2
      clear y0 y1 y2 y3 f0 f1 f2 f3
      obtain ⟨R3, hR3⟩ : ∃ R3, R3 = A2 ++ R := ⟨_, rfl⟩
      rw [← hR3] at H3 HNA HNB HRB
      generalize w2.heap.size = b2 at H3 ⊢
      have HN3 := Aside0.mk (show NV w R3 (⟨true, 5, [⟨#[97]⟩, ⟨#[98]⟩, ⟨#[99]⟩, ⟨#[100]⟩, ⟨#[101]⟩], [(1, 0), (3, 0), (0, 0), (4, 0), (2, 0)]⟩ : Nd) (.agg #[.bool true, .int .i64 5, .slice ka 5 kc, .slice ra 5 rc]) from HN.out.mono (fun p hp => by rw [hR3]; exact List.mem_append_right _ hp))
      clear hR3 HN
      obtain ⟨y0, y1, y2, y3, f0, f1, f2, f3⟩ := H3.out.c4 (w.heap.size) 59 (.bool true) (.int .i64 5) (.slice ka 5 kc) (.slice ra 5 rc) (by simp)
      obtain ⟨t0, t1, t2, t3, h0, h1, h2, h3⟩ := H3.out.c4 (b2) 59 (.bool true) (.int .i64 6) (.slice kaa 3 kca) (.slice raa 3 rca) (by simp)
      obtain ⟨q0, q1, q2, q3, g0, g1, g2, g3⟩ := H3.out.c4 (b2 + 1) 59 (.bool true) (.int .i64 1) (.slice kab 2 kcb) (.slice rab 2 rcb) (by simp)
      go_upto_region 13 with (go_at_call 38; go_loud (refine (find.calls H3.out (HN3.out.mono (fun p hp => by first | (simp [hp]; done) | (simp; simp [hp]; done))) ok_n5 ⟨#[100]⟩).mono ?_); rw [aw_find]; rintro e4 w4 ⟨rfl, h4⟩; have H4 := Aside0.mk h4; clear h4; clear y0 y1 y2 y3 f0 f1 f2 f3; clear t0 t1 t2 t3 h0 h1 h2 h3; clear q0 q1 q2 q3 g0 g1 g2 g3; obtain ⟨y0, y1, y2, y3, f0, f1, f2, f3⟩ := H4.out.c4 (w.heap.size) 59 (.bool true) (.int .i64 5) (.slice ka 5 kc) (.slice ra 5 rc) (by simp); obtain ⟨t0, t1, t2, t3, h0, h1, h2, h3⟩ := H4.out.c4 (b2) 59 (.bool true) (.int .i64 6) (.slice kaa 3 kca) (.slice raa 3 rca) (by simp); obtain ⟨q0, q1, q2, q3, g0, g1, g2, g3⟩ := H4.out.c4 (b2 + 1) 59 (.bool true) (.int .i64 1) (.slice kab 2 kcb) (.slice rab 2 rcb) (by simp))
      go_upto_region 14 with (go_at_call 53; go_loud (refine (join.calls (w0 := w) (R := R3) H4.out (fun p hp => by first | (simp [hp]; done) | (simp; simp [hp]; done)) HNA.out HNB.out ok_a.sm ok_b.sm ⟨#[100]⟩).mono ?_); rw [aw_join]; rintro e5 w5 ⟨vj, A5, rfl, hnj, h5⟩; obtain ⟨kaj, kcj, raj, rcj, ev, hrj⟩ := hnj; have ev' : vj = .agg #[.bool true, .int .i64 7, .slice kaj 5 kcj, .slice raj 5 rcj] := ev; subst ev'; clear ev; have H5 := Aside0.mk (show Hv w w5 ([cb (b2 + 1) 59 #[.bool true, .int .i64 1, .slice kab 2 kcb, .slice rab 2 rcb], cb b2 59 #[.bool true, .int .i64 6, .slice kaa 3 kca, .slice raa 3 rca], cb w.heap.size 59 #[.bool true, .int .i64 5, .slice ka 5 kc, .slice ra 5 rc]] ++ (A5 ++ R3)) from Hv.mid h5); have HNJ := Aside0.mk (show NV w (A5 ++ R3) (⟨true, 7, [⟨#[97]⟩, ⟨#[98]⟩, ⟨#[99]⟩, ⟨#[100]⟩, ⟨#[101]⟩], [(1, 0), (3, 0), (0, 0), (4, 0), (2, 0)]⟩ : Nd) (.agg #[.bool true, .int .i64 7, .slice kaj 5 kcj, .slice raj 5 rcj]) from ⟨kaj, kcj, raj, rcj, rfl, hrj⟩); clear h5 hrj; clear y0 y1 y2 y3 f0 f1 f2 f3; clear t0 t1 t2 t3 h0 h1 h2 h3; clear q0 q1 q2 q3 g0 g1 g2 g3; obtain ⟨y0, y1, y2, y3, f0, f1, f2, f3⟩ := H5.out.c4 (w.heap.size) 59 (.bool true) (.int .i64 5) (.slice ka 5 kc) (.slice ra 5 rc) (by simp); obtain ⟨t0, t1, t2, t3, h0, h1, h2, h3⟩ := H5.out.c4 (b2) 59 (.bool true) (.int .i64 6) (.slice kaa 3 kca) (.slice raa 3 rca) (by simp); obtain ⟨q0, q1, q2, q3, g0, g1, g2, g3⟩ := H5.out.c4 (b2 + 1) 59 (.bool true) (.int .i64 1) (.slice kab 2 kcb) (.slice rab 2 rcb) (by simp))
      obtain ⟨W6, hW, hw⟩ : ∃ W, W = w5.alloc (.cells #[.bool true, .int .i64 7, .slice kaj 5 kcj, .slice raj 5 rcj] 59) ∧ Hv w W (cb w5.heap.size 59 #[.bool true, .int .i64 7, .slice kaj 5 kcj, .slice raj 5 rcj] :: ([cb (b2 + 1) 59 #[.bool true, .int .i64 1, .slice kab 2 kcb, .slice rab 2 rcb], cb b2 59 #[.bool true, .int .i64 6, .slice kaa 3 kca, .slice raa 3 rca], cb w.heap.size 59 #[.bool true, .int .i64 5, .slice ka 5 kc, .slice ra 5 rc]] ++ (A5 ++ R3))) := ⟨_, rfl, H5.out.alloc _⟩
      rw [← hW]
      have H6 := Aside0.mk hw
      clear hW hw H5
      clear y0 y1 y2 y3 f0 f1 f2 f3
      clear t0 t1 t2 t3 h0 h1 h2 h3
      clear q0 q1 q2 q3 g0 g1 g2 g3
      obtain ⟨R5, hR5⟩ : ∃ R5, R5 = A5 ++ R3 := ⟨_, rfl⟩
      rw [← hR5] at H6 HNJ
      have hR53 : ∀ p ∈ R3, p ∈ R5 := fun p hp => by rw [hR5]; exact List.mem_append_right _ hp
      have HN5 := Aside0.mk (HN3.out.mono hR53)
      have HRB5 := Aside0.mk (HRB.out.mono hR53)
      clear hR5 hR53 HN3 HNA HNB HRB
      generalize w5.heap.size = b5 at H6 ⊢
      have H6 := Aside0.mk (show Hv w W6 ([cb b5 59 #[.bool true, .int .i64 7, .slice kaj 5 kcj, .slice raj 5 rcj], cb (b2 + 1) 59 #[.bool true, .int .i64 1, .slice kab 2 kcb, .slice rab 2 rcb], cb b2 59 #[.bool true, .int .i64 6, .slice kaa 3 kca, .slice raa 3 rca], cb w.heap.size 59 #[.bool true, .int .i64 5, .slice ka 5 kc, .slice ra 5 rc]] ++ R5) from H6.out)
      obtain ⟨y0, y1, y2, y3, f0, f1, f2, f3⟩ := H6.out.c4 (w.heap.size) 59 (.bool true) (.int .i64 5) (.slice ka 5 kc) (.slice ra 5 rc) (by simp)
      obtain ⟨t0, t1, t2, t3, h0, h1, h2, h3⟩ := H6.out.c4 (b2) 59 (.bool true) (.int .i64 6) (.slice kaa 3 kca) (.slice raa 3 rca) (by simp)
      obtain ⟨q0, q1, q2, q3, g0, g1, g2, g3⟩ := H6.out.c4 (b2 + 1) 59 (.bool true) (.int .i64 1) (.slice kab 2 kcb) (.slice rab 2 rcb) (by simp)
      obtain ⟨z0, z1, z2, z3, k0, k1, k2, k3⟩ := H6.out.c4 (b5) 59 (.bool true) (.int .i64 7) (.slice kaj 5 kcj) (.slice raj 5 rcj) (by simp)
      go_upto_region 15 with (go_at_call 44; go_loud (refine (delete.calls (w0 := w) (R := R5) H6.out (fun p hp => by first | (simp [hp]; done) | (simp; simp [hp]; done)) HNJ.out ok_j ⟨#[97]⟩).mono ?_); rw [aw_delete]; rintro e7 w7 ⟨vd, A7, rfl, hnd, h7⟩; obtain ⟨kad, kcd, rad, rcd, ev, hrd⟩ := hnd; have ev' : vd = .agg #[.bool true, .int .i64 8, .slice kad 4 kcd, .slice rad 4 rcd] := ev; subst ev'; clear ev; have H7 := Aside0.mk (show Hv w w7 ([cb b5 59 #[.bool true, .int .i64 7, .slice kaj 5 kcj, .slice raj 5 rcj], cb (b2 + 1) 59 #[.bool true, .int .i64 1, .slice kab 2 kcb, .slice rab 2 rcb], cb b2 59 #[.bool true, .int .i64 6, .slice kaa 3 kca, .slice raa 3 rca], cb w.heap.size 59 #[.bool true, .int .i64 5, .slice ka 5 kc, .slice ra 5 rc]] ++ (A7 ++ R5)) from Hv.mid h7); have HND := Aside0.mk (show NV w (A7 ++ R5) (⟨true, 8, [⟨#[98]⟩, ⟨#[99]⟩, ⟨#[100]⟩, ⟨#[101]⟩], [(3, 0), (0, 0), (4, 0), (2, 0)]⟩ : Nd) (.agg #[.bool true, .int .i64 8, .slice kad 4 kcd, .slice rad 4 rcd]) from ⟨kad, kcd, rad, rcd, rfl, hrd⟩); clear h7 hrd; clear y0 y1 y2 y3 f0 f1 f2 f3; clear t0 t1 t2 t3 h0 h1 h2 h3; clear q0 q1 q2 q3 g0 g1 g2 g3; clear z0 z1 z2 z3 k0 k1 k2 k3; obtain ⟨y0, y1, y2, y3, f0, f1, f2, f3⟩ := H7.out.c4 (w.heap.size) 59 (.bool true) (.int .i64 5) (.slice ka 5 kc) (.slice ra 5 rc) (by simp); obtain ⟨t0, t1, t2, t3, h0, h1, h2, h3⟩ := H7.out.c4 (b2) 59 (.bool true) (.int .i64 6) (.slice kaa 3 kca) (.slice raa 3 rca) (by simp); obtain ⟨q0, q1, q2, q3, g0, g1, g2, g3⟩ := H7.out.c4 (b2 + 1) 59 (.bool true) (.int .i64 1) (.slice kab 2 kcb) (.slice rab 2 rcb) (by simp); obtain ⟨z0, z1, z2, z3, k0, k1, k2, k3⟩ := H7.out.c4 (b5) 59 (.bool true) (.int .i64 7) (.slice kaj 5 kcj) (.slice raj 5 rcj) (by simp))
      obtain ⟨W8, hW, hw⟩ : ∃ W, W = (w7.alloc (.cells #[.bool true, .int .i64 8, .slice kad 4 kcd, .slice rad 4 rcd] 59)).alloc (.cells #[.int .i64 1, .int .i64 0] 33) ∧ Hv w W ([cb (w7.heap.size + 1) 33 #[.int .i64 1, .int .i64 0], cb w7.heap.size 59 #[.bool true, .int .i64 8, .slice kad 4 kcd, .slice rad 4 rcd], cb b5 59 #[.bool true, .int .i64 7, .slice kaj 5 kcj, .slice raj 5 rcj], cb (b2 + 1) 59 #[.bool true, .int .i64 1, .slice kab 2 kcb, .slice rab 2 rcb], cb b2 59 #[.bool true, .int .i64 6, .slice kaa 3 kca, .slice raa 3 rca], cb w.heap.size 59 #[.bool true, .int .i64 5, .slice ka 5 kc, .slice ra 5 rc]] ++ (A7 ++ R5)) := ⟨_, rfl, by have := (H7.out.alloc (.cells #[.bool true, .int .i64 8, .slice kad 4 kcd, .slice rad 4 rcd] 59)).alloc (.cells #[.int .i64 1, .int .i64 0] 33); simpa [cb] using this⟩
      rw [← hW]
      have H8 := Aside0.mk hw
      clear hW hw H7
      clear y0 y1 y2 y3 f0 f1 f2 f3
      clear t0 t1 t2 t3 h0 h1 h2 h3
      clear q0 q1 q2 q3 g0 g1 g2 g3
      clear z0 z1 z2 z3 k0 k1 k2 k3
      obtain ⟨R7, hR7⟩ : ∃ R7, R7 = A7 ++ R5 := ⟨_, rfl⟩
      rw [← hR7] at H8 HND
      have hR75 : ∀ p ∈ R5, p ∈ R7 := fun p hp => by rw [hR7]; exact List.mem_append_right _ hp
      have HN7 := Aside0.mk (HN5.out.mono hR75)
      have HRB7 := Aside0.mk (HRB5.out.mono hR75)
      clear hR7 hR75 HN5 HRB5 HNJ
      generalize w7.heap.size = b7 at H8 ⊢
      obtain ⟨y0, y1, y2, y3, f0, f1, f2, f3⟩ := H8.out.c4 (w.heap.size) 59 (.bool true) (.int .i64 5) (.slice ka 5 kc) (.slice ra 5 rc) (by simp)
      obtain ⟨t0, t1, t2, t3, h0, h1, h2, h3⟩ := H8.out.c4 (b2) 59 (.bool true) (.int .i64 6) (.slice kaa 3 kca) (.slice raa 3 rca) (by simp)
      obtain ⟨q0, q1, q2, q3, g0, g1, g2, g3⟩ := H8.out.c4 (b2 + 1) 59 (.bool true) (.int .i64 1) (.slice kab 2 kcb) (.slice rab 2 rcb) (by simp)
      obtain ⟨z0, z1, z2, z3, k0, k1, k2, k3⟩ := H8.out.c4 (b5) 59 (.bool true) (.int .i64 7) (.slice kaj 5 kcj) (.slice raj 5 rcj) (by simp)
      obtain ⟨m0, m1, m2, m3, l0, l1, l2, l3⟩ := H8.out.c4 (b7) 59 (.bool true) (.int .i64 8) (.slice kad 4 kcd) (.slice rad 4 rcd) (by simp)
      go_upto_region 17 with (fail)
      have h9 := H8.out.alloc (.cells #[.int .i64 1, .int .i64 0] 33)
      have HI0 := Aside0.mk (show NV w [cb W8.heap.size 33 #[.int .i64 1, .int .i64 0]] (⟨false, 0, [], [(1, 0)]⟩ : Nd) (.agg #[.bool false, .int .i64 0, .slice none 0 0, .slice (some ⟨W8.heap.size, 0, none⟩) 1 1]) from ⟨none, 0, some ⟨W8.heap.size, 0, none⟩, 1, rfl, ⟨Rdy.nil _ _, Rdy.of_rw (e := 33) (c := 1) ⟨rfl, Nat.le_refl _, fun _ => ⟨W8.heap.size, 0, _, rfl, List.mem_cons_self, fun i _ => by rw [Nat.zero_add]; simp [rcel]⟩⟩, Nat.le_refl _, Nat.le_refl _⟩⟩)
      have H9 := Aside0.mk (show Hv w _ (cb W8.heap.size 33 #[.int .i64 1, .int .i64 0] :: ([cb (b7 + 1) 33 #[.int .i64 1, .int .i64 0], cb b7 59 #[.bool true, .int .i64 8, .slice kad 4 kcd, .slice rad 4 rcd], cb b5 59 #[.bool true, .int .i64 7, .slice kaj 5 kcj, .slice raj 5 rcj], cb (b2 + 1) 59 #[.bool true, .int .i64 1, .slice kab 2 kcb, .slice rab 2 rcb], cb b2 59 #[.bool true, .int .i64 6, .slice kaa 3 kca, .slice raa 3 rca], cb w.heap.size 59 #[.bool true, .int .i64 5, .slice ka 5 kc, .slice ra 5 rc]] ++ R7)) from h9)
      clear h9
      obtain ⟨ad, ead, hrd0⟩ := (HRB7.out.k _ _ H8.out (fun p hp => by simp [hp])).2 (by decide)
      cases ead
      have RP := Aside0.mk (show ∀ (W : World) (L' : List Ob), Hv w W L' → (∀ x ∈ R7, x ∈ L') → W.cell? ad = some (.string ⟨#[100]⟩) from fun W L' h hL => by
        obtain ⟨a, e1, hc⟩ := (HRB7.out.k W L' h hL).2 (by decide)
        cases e1
        have h0 := hc 0 (.string ⟨#[100]⟩) rfl
        simpa only [Addr.add_zero'] using h0)
      clear hrd0
      go_wp2_with (first
        | (go_at_call 33; have hx2 := HF9.out; clear hx2; go_loud (refine (check.calls HF9.out (HN5X.out.mono (fun p hp => List.mem_append_right _ (List.mem_cons_of_mem _ hp))) (by decide) (by decide)).mono ?_); rw [aw_check2]; rintro eg wg ⟨rfl, hh⟩; have HG9 := Aside0.mk hh; clear hh)
        | (go_at_call 33; have hx2 := HE.out; clear hx2; go_loud (refine (check.calls HE.out (HNDX.out.mono (fun p hp => List.mem_append_right _ (List.mem_cons_of_mem _ hp))) (by decide) (by decide)).mono ?_); rw [aw_check1]; rintro ef wf ⟨rfl, hh⟩; have HF9 := Aside0.mk hh; clear hh; clear y0 y1 y2 y3 f0 f1 f2 f3; clear t0 t1 t2 t3 h0 h1 h2 h3; clear q0 q1 q2 q3 g0 g1 g2 g3; clear z0 z1 z2 z3 k0 k1 k2 k3; clear m0 m1 m2 m3 l0 l1 l2 l3; clear rz; clear u0 u1 u2 u3 n0 n1 n2 n3; have rz := RP.out _ _ HF9.out (fun p hp => by simp [hp]); obtain ⟨y0, y1, y2, y3, f0, f1, f2, f3⟩ := HF9.out.c4 (w.heap.size) 59 (.bool true) (.int .i64 5) (.slice ka 5 kc) (.slice ra 5 rc) (by simp); obtain ⟨t0, t1, t2, t3, h0, h1, h2, h3⟩ := HF9.out.c4 (b2) 59 (.bool true) (.int .i64 6) (.slice kaa 3 kca) (.slice raa 3 rca) (by simp); obtain ⟨q0, q1, q2, q3, g0, g1, g2, g3⟩ := HF9.out.c4 (b2 + 1) 59 (.bool true) (.int .i64 1) (.slice (some ad) 2 kcb) (.slice rab 2 rcb) (by simp); obtain ⟨z0, z1, z2, z3, k0, k1, k2, k3⟩ := HF9.out.c4 (b5) 59 (.bool true) (.int .i64 7) (.slice kaj 5 kcj) (.slice raj 5 rcj) (by simp); obtain ⟨m0, m1, m2, m3, l0, l1, l2, l3⟩ := HF9.out.c4 (b7) 59 (.bool true) (.int .i64 8) (.slice kad 4 kcd) (.slice rad 4 rcd) (by simp); obtain ⟨u0, u1, u2, u3, n0, n1, n2, n3⟩ := HF9.out.c4 (wa.heap.size) 59 (.bool false) (.int .i64 1) (.slice kai 1 kci) (.slice rai 2 rci) (by simp))
        | (go_at_call 35; go_loud (refine (size.calls HD.out false 2 kar rar 0 kcr 1 rcr).mono ?_); rintro ee we ⟨rfl, hh⟩; have HE := Aside0.mk hh; clear hh; clear y0 y1 y2 y3 f0 f1 f2 f3; clear t0 t1 t2 t3 h0 h1 h2 h3; clear q0 q1 q2 q3 g0 g1 g2 g3; clear z0 z1 z2 z3 k0 k1 k2 k3; clear m0 m1 m2 m3 l0 l1 l2 l3; clear rz; clear u0 u1 u2 u3 n0 n1 n2 n3; have rz := RP.out _ _ HE.out (fun p hp => by simp [hp]); obtain ⟨y0, y1, y2, y3, f0, f1, f2, f3⟩ := HE.out.c4 (w.heap.size) 59 (.bool true) (.int .i64 5) (.slice ka 5 kc) (.slice ra 5 rc) (by simp); obtain ⟨t0, t1, t2, t3, h0, h1, h2, h3⟩ := HE.out.c4 (b2) 59 (.bool true) (.int .i64 6) (.slice kaa 3 kca) (.slice raa 3 rca) (by simp); obtain ⟨q0, q1, q2, q3, g0, g1, g2, g3⟩ := HE.out.c4 (b2 + 1) 59 (.bool true) (.int .i64 1) (.slice (some ad) 2 kcb) (.slice rab 2 rcb) (by simp); obtain ⟨z0, z1, z2, z3, k0, k1, k2, k3⟩ := HE.out.c4 (b5) 59 (.bool true) (.int .i64 7) (.slice kaj 5 kcj) (.slice raj 5 rcj) (by simp); obtain ⟨m0, m1, m2, m3, l0, l1, l2, l3⟩ := HE.out.c4 (b7) 59 (.bool true) (.int .i64 8) (.slice kad 4 kcd) (.slice rad 4 rcd) (by simp); obtain ⟨u0, u1, u2, u3, n0, n1, n2, n3⟩ := HE.out.c4 (wa.heap.size) 59 (.bool false) (.int .i64 1) (.slice kai 1 kci) (.slice rai 2 rci) (by simp))
        | (go_at_call 49; go_loud (refine (remove.calls (w0 := w) (R := A9 ++ ((cb W8.heap.size 33 #[.int .i64 1, .int .i64 0] :: [cb (b7 + 1) 33 #[.int .i64 1, .int .i64 0], cb b7 59 #[.bool true, .int .i64 8, .slice kad 4 kcd, .slice rad 4 rcd], cb b5 59 #[.bool true, .int .i64 7, .slice kaj 5 kcj, .slice raj 5 rcj], cb (b2 + 1) 59 #[.bool true, .int .i64 1, .slice (some ad) 2 kcb, .slice rab 2 rcb], cb b2 59 #[.bool true, .int .i64 6, .slice kaa 3 kca, .slice raa 3 rca], cb w.heap.size 59 #[.bool true, .int .i64 5, .slice ka 5 kc, .slice ra 5 rc]]) ++ R7)) HC.out (fun p hp => List.mem_cons_of_mem _ hp) (HNIX.out) ok_i 0).mono ?_); rw [aw_remove]; rintro ed wd ⟨vr, A10, rfl, hnr, hh⟩; obtain ⟨kar, kcr, rar, rcr, ev, hrr⟩ := hnr; have ev' : vr = .agg #[.bool false, .int .i64 2, .slice kar 0 kcr, .slice rar 1 rcr] := ev; subst ev'; clear ev hrr; have HD := Aside0.mk hh; clear hh; clear y0 y1 y2 y3 f0 f1 f2 f3; clear t0 t1 t2 t3 h0 h1 h2 h3; clear q0 q1 q2 q3 g0 g1 g2 g3; clear z0 z1 z2 z3 k0 k1 k2 k3; clear m0 m1 m2 m3 l0 l1 l2 l3; clear rz; clear u0 u1 u2 u3 n0 n1 n2 n3; have rz := RP.out _ _ HD.out (fun p hp => by simp [hp]); obtain ⟨y0, y1, y2, y3, f0, f1, f2, f3⟩ := HD.out.c4 (w.heap.size) 59 (.bool true) (.int .i64 5) (.slice ka 5 kc) (.slice ra 5 rc) (by simp); obtain ⟨t0, t1, t2, t3, h0, h1, h2, h3⟩ := HD.out.c4 (b2) 59 (.bool true) (.int .i64 6) (.slice kaa 3 kca) (.slice raa 3 rca) (by simp); obtain ⟨q0, q1, q2, q3, g0, g1, g2, g3⟩ := HD.out.c4 (b2 + 1) 59 (.bool true) (.int .i64 1) (.slice (some ad) 2 kcb) (.slice rab 2 rcb) (by simp); obtain ⟨z0, z1, z2, z3, k0, k1, k2, k3⟩ := HD.out.c4 (b5) 59 (.bool true) (.int .i64 7) (.slice kaj 5 kcj) (.slice raj 5 rcj) (by simp); obtain ⟨m0, m1, m2, m3, l0, l1, l2, l3⟩ := HD.out.c4 (b7) 59 (.bool true) (.int .i64 8) (.slice kad 4 kcd) (.slice rad 4 rcd) (by simp); obtain ⟨u0, u1, u2, u3, n0, n1, n2, n3⟩ := HD.out.c4 (wa.heap.size) 59 (.bool false) (.int .i64 1) (.slice kai 1 kci) (.slice rai 2 rci) (by simp))
        | (go_at_call 40; have hx2 := HB.out; clear hx2; go_loud (refine (child.calls HB.out (HNIX.out.mono (fun p hp => List.mem_cons_of_mem _ hp)) ok_i ⟨#[97]⟩).mono ?_); rw [aw_child2]; rintro ec wc ⟨rfl, hh⟩; have HC := Aside0.mk hh; clear hh; clear y0 y1 y2 y3 f0 f1 f2 f3; clear t0 t1 t2 t3 h0 h1 h2 h3; clear q0 q1 q2 q3 g0 g1 g2 g3; clear z0 z1 z2 z3 k0 k1 k2 k3; clear m0 m1 m2 m3 l0 l1 l2 l3; clear rz; clear u0 u1 u2 u3 n0 n1 n2 n3; have rz := RP.out _ _ HC.out (fun p hp => by simp [hp]); obtain ⟨y0, y1, y2, y3, f0, f1, f2, f3⟩ := HC.out.c4 (w.heap.size) 59 (.bool true) (.int .i64 5) (.slice ka 5 kc) (.slice ra 5 rc) (by simp); obtain ⟨t0, t1, t2, t3, h0, h1, h2, h3⟩ := HC.out.c4 (b2) 59 (.bool true) (.int .i64 6) (.slice kaa 3 kca) (.slice raa 3 rca) (by simp); obtain ⟨q0, q1, q2, q3, g0, g1, g2, g3⟩ := HC.out.c4 (b2 + 1) 59 (.bool true) (.int .i64 1) (.slice (some ad) 2 kcb) (.slice rab 2 rcb) (by simp); obtain ⟨z0, z1, z2, z3, k0, k1, k2, k3⟩ := HC.out.c4 (b5) 59 (.bool true) (.int .i64 7) (.slice kaj 5 kcj) (.slice raj 5 rcj) (by simp); obtain ⟨m0, m1, m2, m3, l0, l1, l2, l3⟩ := HC.out.c4 (b7) 59 (.bool true) (.int .i64 8) (.slice kad 4 kcd) (.slice rad 4 rcd) (by simp); obtain ⟨u0, u1, u2, u3, n0, n1, n2, n3⟩ := HC.out.c4 (wa.heap.size) 59 (.bool false) (.int .i64 1) (.slice kai 1 kci) (.slice rai 2 rci) (by simp))
        | (go_at_call 40; go_loud (refine (child.calls (w0 := w) (L := cb wa.heap.size 59 #[.bool false, .int .i64 1, .slice kai 1 kci, .slice rai 2 rci] :: (A9 ++ ((cb W8.heap.size 33 #[.int .i64 1, .int .i64 0] :: [cb (b7 + 1) 33 #[.int .i64 1, .int .i64 0], cb b7 59 #[.bool true, .int .i64 8, .slice kad 4 kcd, .slice rad 4 rcd], cb b5 59 #[.bool true, .int .i64 7, .slice kaj 5 kcj, .slice raj 5 rcj], cb (b2 + 1) 59 #[.bool true, .int .i64 1, .slice (some ad) 2 kcb, .slice rab 2 rcb], cb b2 59 #[.bool true, .int .i64 6, .slice kaa 3 kca, .slice raa 3 rca], cb w.heap.size 59 #[.bool true, .int .i64 5, .slice ka 5 kc, .slice ra 5 rc]]) ++ R7))) (HA.out.alloc _) (HNIX.out.mono (fun p hp => List.mem_cons_of_mem _ hp)) ok_i ⟨#[109]⟩).mono ?_); rw [aw_child1]; rintro eb wb ⟨rfl, hh⟩; have HB := Aside0.mk hh; clear hh; clear y0 y1 y2 y3 f0 f1 f2 f3; clear t0 t1 t2 t3 h0 h1 h2 h3; clear q0 q1 q2 q3 g0 g1 g2 g3; clear z0 z1 z2 z3 k0 k1 k2 k3; clear m0 m1 m2 m3 l0 l1 l2 l3; clear rz; have rz := RP.out _ _ HB.out (fun p hp => by simp [hp]); obtain ⟨y0, y1, y2, y3, f0, f1, f2, f3⟩ := HB.out.c4 (w.heap.size) 59 (.bool true) (.int .i64 5) (.slice ka 5 kc) (.slice ra 5 rc) (by simp); obtain ⟨t0, t1, t2, t3, h0, h1, h2, h3⟩ := HB.out.c4 (b2) 59 (.bool true) (.int .i64 6) (.slice kaa 3 kca) (.slice raa 3 rca) (by simp); obtain ⟨q0, q1, q2, q3, g0, g1, g2, g3⟩ := HB.out.c4 (b2 + 1) 59 (.bool true) (.int .i64 1) (.slice (some ad) 2 kcb) (.slice rab 2 rcb) (by simp); obtain ⟨z0, z1, z2, z3, k0, k1, k2, k3⟩ := HB.out.c4 (b5) 59 (.bool true) (.int .i64 7) (.slice kaj 5 kcj) (.slice raj 5 rcj) (by simp); obtain ⟨m0, m1, m2, m3, l0, l1, l2, l3⟩ := HB.out.c4 (b7) 59 (.bool true) (.int .i64 8) (.slice kad 4 kcd) (.slice rad 4 rcd) (by simp); obtain ⟨u0, u1, u2, u3, n0, n1, n2, n3⟩ := HB.out.c4 (wa.heap.size) 59 (.bool false) (.int .i64 1) (.slice kai 1 kci) (.slice rai 2 rci) (by simp))
        | (go_at_call 47; go_loud (((refine (insert.calls (w0 := w) (R := [cb W8.heap.size 33 #[.int .i64 1, .int .i64 0]]) H9.out (fun p hp => by simp at hp; simp [hp]) HI0.out ok_i0 0 ⟨#[109]⟩ (2, 0)).mono ?_); rw [aw_insert]; rintro ea wa ⟨vi, A9, rfl, hni, ha⟩; obtain ⟨kai, kci, rai, rci, ev, hri⟩ := hni; have ev' : vi = .agg #[.bool false, .int .i64 1, .slice kai 1 kci, .slice rai 2 rci] := ev; subst ev'; clear ev; have HA := Aside0.mk (show Hv w wa (A9 ++ ((cb W8.heap.size 33 #[.int .i64 1, .int .i64 0] :: [cb (b7 + 1) 33 #[.int .i64 1, .int .i64 0], cb b7 59 #[.bool true, .int .i64 8, .slice kad 4 kcd, .slice rad 4 rcd], cb b5 59 #[.bool true, .int .i64 7, .slice kaj 5 kcj, .slice raj 5 rcj], cb (b2 + 1) 59 #[.bool true, .int .i64 1, .slice (some ad) 2 kcb, .slice rab 2 rcb], cb b2 59 #[.bool true, .int .i64 6, .slice kaa 3 kca, .slice raa 3 rca], cb w.heap.size 59 #[.bool true, .int .i64 5, .slice ka 5 kc, .slice ra 5 rc]]) ++ R7)) from ha); have HNIX := Aside0.mk (show NV w (A9 ++ ((cb W8.heap.size 33 #[.int .i64 1, .int .i64 0] :: [cb (b7 + 1) 33 #[.int .i64 1, .int .i64 0], cb b7 59 #[.bool true, .int .i64 8, .slice kad 4 kcd, .slice rad 4 rcd], cb b5 59 #[.bool true, .int .i64 7, .slice kaj 5 kcj, .slice raj 5 rcj], cb (b2 + 1) 59 #[.bool true, .int .i64 1, .slice (some ad) 2 kcb, .slice rab 2 rcb], cb b2 59 #[.bool true, .int .i64 6, .slice kaa 3 kca, .slice raa 3 rca], cb w.heap.size 59 #[.bool true, .int .i64 5, .slice ka 5 kc, .slice ra 5 rc]]) ++ R7)) (⟨false, 1, [⟨#[109]⟩], [(1, 0), (2, 0)]⟩ : Nd) (.agg #[.bool false, .int .i64 1, .slice kai 1 kci, .slice rai 2 rci]) from NV.mono ⟨kai, kci, rai, rci, rfl, hri⟩ (fun p hp => by rcases List.mem_append.1 hp with hp | hp; exact List.mem_append_left _ hp; simp at hp; simp [hp])); have HNDX := Aside0.mk (HND.out.mono (L' := A9 ++ ((cb W8.heap.size 33 #[.int .i64 1, .int .i64 0] :: [cb (b7 + 1) 33 #[.int .i64 1, .int .i64 0], cb b7 59 #[.bool true, .int .i64 8, .slice kad 4 kcd, .slice rad 4 rcd], cb b5 59 #[.bool true, .int .i64 7, .slice kaj 5 kcj, .slice raj 5 rcj], cb (b2 + 1) 59 #[.bool true, .int .i64 1, .slice (some ad) 2 kcb, .slice rab 2 rcb], cb b2 59 #[.bool true, .int .i64 6, .slice kaa 3 kca, .slice raa 3 rca], cb w.heap.size 59 #[.bool true, .int .i64 5, .slice ka 5 kc, .slice ra 5 rc]]) ++ R7)) (fun p hp => by simp [hp])); have HN5X := Aside0.mk (HN7.out.mono (L' := A9 ++ ((cb W8.heap.size 33 #[.int .i64 1, .int .i64 0] :: [cb (b7 + 1) 33 #[.int .i64 1, .int .i64 0], cb b7 59 #[.bool true, .int .i64 8, .slice kad 4 kcd, .slice rad 4 rcd], cb b5 59 #[.bool true, .int .i64 7, .slice kaj 5 kcj, .slice raj 5 rcj], cb (b2 + 1) 59 #[.bool true, .int .i64 1, .slice (some ad) 2 kcb, .slice rab 2 rcb], cb b2 59 #[.bool true, .int .i64 6, .slice kaa 3 kca, .slice raa 3 rca], cb w.heap.size 59 #[.bool true, .int .i64 5, .slice ka 5 kc, .slice ra 5 rc]]) ++ R7)) (fun p hp => by simp [hp])); clear ha hri; have hab := HA.out.alloc (.cells #[.bool false, .int .i64 1, .slice kai 1 kci, .slice rai 2 rci] 59); clear y0 y1 y2 y3 f0 f1 f2 f3; clear t0 t1 t2 t3 h0 h1 h2 h3; clear q0 q1 q2 q3 g0 g1 g2 g3; clear z0 z1 z2 z3 k0 k1 k2 k3; clear m0 m1 m2 m3 l0 l1 l2 l3; have rz := RP.out _ _ hab (fun p hp => by simp [hp]); obtain ⟨y0, y1, y2, y3, f0, f1, f2, f3⟩ := hab.c4 (w.heap.size) 59 (.bool true) (.int .i64 5) (.slice ka 5 kc) (.slice ra 5 rc) (by simp); obtain ⟨t0, t1, t2, t3, h0, h1, h2, h3⟩ := hab.c4 (b2) 59 (.bool true) (.int .i64 6) (.slice kaa 3 kca) (.slice raa 3 rca) (by simp); obtain ⟨q0, q1, q2, q3, g0, g1, g2, g3⟩ := hab.c4 (b2 + 1) 59 (.bool true) (.int .i64 1) (.slice (some ad) 2 kcb) (.slice rab 2 rcb) (by simp); obtain ⟨z0, z1, z2, z3, k0, k1, k2, k3⟩ := hab.c4 (b5) 59 (.bool true) (.int .i64 7) (.slice kaj 5 kcj) (.slice raj 5 rcj) (by simp); obtain ⟨m0, m1, m2, m3, l0, l1, l2, l3⟩ := hab.c4 (b7) 59 (.bool true) (.int .i64 8) (.slice kad 4 kcd) (.slice rad 4 rcd) (by simp); clear hab)))
        )
      exact bodyPost_ret (v := .bool true) (by simp [results, Try.results32, go_sem]) rfl ⟨rfl, HG9.out.bel⟩
end Go.Proofs.Ytglbcfkmaamhaaa.Nd
