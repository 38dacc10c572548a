/- node: lists in which some are gone, and others stand. No condition. -/
import Derived.Test.YtglbcfkmaamhaaaNdA
set_option linter.unusedVariables false
set_option linter.unusedSimpArgs false
namespace Go.Proofs.Ytglbcfkmaamhaaa.Nd
open Go Go.RowKit Go.Proofs.YtglbcfkmaamhaaaW.PrintWords Go.Proofs.YtglbcfkmaamhaaaW.PrintLast Go.Proofs.YtglbcfkmaamhaaaW.PrintMore Go.Proofs.Ytglbcfkmaamhaaa.Hv
variable {w0 w w1 : World} {g : Nat} {L L' : List Ob}
set_option maxHeartbeats 8000000 in
set_option maxRecDepth 100000 in
theorem splS.calls {a0 a1 : Option Addr} {n0 c0 n1 c1 : Nat} {xs ys : List Value} (hv : Hv w0 w L) (h0 : Rdy 1 w0 L a0 n0 xs) (h1 : Rdy 1 w0 L a1 n1 ys) (hx : ∀ u ∈ xs, u.oneCell' = true) (hy : ∀ u ∈ ys, u.oneCell' = true) (hc0 : n0 ≤ c0) (hn : n0 + n1 < 4000000000000) (at_ gone : Nat) (hag : at_ + gone ≤ n0) :
    Calls Try.prog 97 #[.slice a0 n0 c0, .int .i64 (at_ : Int), .int .i64 (gone : Int), .slice a1 n1 c1] w (RowP w0 L 9 1 (at_ + n1 + (n0 - (at_ + gone))) (xs.take (at_ * 1) ++ ys ++ xs.drop ((at_ + gone) * 1))) := by
  obtain ⟨i0, hi0, hsz⟩ : ∃ i, Try.prog.info? 9 = some i ∧ i.size = 1 := by
    have := copS.size
    cases hi : Try.prog.info? 9 with
    | none => rw [hi] at this; cases this
    | some i => rw [hi] at this; exact ⟨i, rfl, by simpa using this⟩
  have hu := Try.underlying57
  have ew : IntKind.i64.wrap ((at_ : Int) + (gone : Int)) = ((at_ + gone : Nat) : Int) := by rw [IntKind.wrap_i64]; omega
  have ew' : wrap64 ((at_ : Int) + (gone : Int)) = ((at_ + gone : Nat) : Int) := by unfold wrap64; omega
  have q1 : (at_ : Int) ≤ (c0 : Int) := by omega
  have q2 : (at_ : Int) + (gone : Int) ≤ (n0 : Int) := by omega
  have q3 : (0 : Int) ≤ (at_ : Int) := by omega
  have q4 : (0 : Int) ≤ (at_ : Int) + (gone : Int) := by omega
  have q5 : ((at_ : Int) + (gone : Int)).toNat = at_ + gone := by omega
  have HV := Aside0.mk hv
  have HT := Aside0.mk (h0.take at_ (by omega))
  have HD := Aside0.mk (h0.drop (at_ + gone) hag hc0)
  have H1 := Aside0.mk h1
  have HX := Aside0.mk (show (∀ u ∈ xs.take (at_ * 1), u.oneCell' = true) ∧ (∀ u ∈ xs.drop ((at_ + gone) * 1), u.oneCell' = true) from ⟨fun u hu => hx u (List.mem_of_mem_take hu), fun u hu => hx u (List.mem_of_mem_drop hu)⟩)
  have HY := Aside0.mk hy
  have HN := Aside0.mk (show at_ + n1 < 8796093022208 by omega)
  have HB := Aside0.mk (show (at_ + n1 + (n0 - (at_ + gone))) * 16 ≤ 140737488355328 by omega)
  clear hv h0 h1 hx hy hn
  go_enter Try.func97, Try.ntmps97
  go_wp2_with fail
  go_region_law (first
    | (rw [if_pos (by rfl)]; unfold Oper.wp; go_simp; go_at_call 105; go_loud (refine (copS.calls (w0 := w0) (L := L) (by first | exact HV.out.drew | exact HV.out | exact HV.out.drewN _) HT.out H1.out HX.out.1 HY.out HN.out).mono ?_); rintro e2 w2 hq; obtain ⟨ad, c, A, rfl, hG, hv2⟩ := hq; have HG := Aside0.mk (And.intro hG hv2); clear hG hv2)
    | (refine append_rows_step (w0 := w0) (A := A) (L := L) (by rfl) (.tmp 13) (.tmp 18) 57 9 (.string ⟨#[]⟩) 1 16 rfl Try.underlying57 copS.info rfl (by decide) (by decide) (.slice ad (at_ + n1) c) (at_ + n1) (xs.take (at_ * 1) ++ ys) (by simp [Act.eval, Act.put]) (if c0 = at_ + gone then a0 else a0.map (·.add ((at_ + gone) * 1))) (n0 - (at_ + gone)) (c0 - (at_ + gone)) (xs.drop ((at_ + gone) * 1)) (by simp [Act.eval, Act.put]) HX.out.2 HG.out.1 HG.out.2 (HD.out _ _ HG.out.2 (fun p hp => List.mem_append_right _ hp)) HB.out ?_; intro v5 w5 A5 hG5 hv5; obtain ⟨ad5, c5, rfl, -⟩ := hG5.form; have HG5 := Aside0.mk (And.intro hG5 hv5); clear hG5 hv5))
  all_goals go_wp2_with fail
  all_goals
    go_ret
    exact ⟨ad5, c5, A5, rfl, by simpa [List.append_assoc] using HG5.out.1, HG5.out.2⟩
set_option maxHeartbeats 8000000 in
set_option maxRecDepth 100000 in
theorem splR.calls {a0 a1 : Option Addr} {n0 c0 n1 c1 : Nat} {xs ys : List Value} (hv : Hv w0 w L) (h0 : Rdy 2 w0 L a0 n0 xs) (h1 : Rdy 2 w0 L a1 n1 ys) (hx : ∀ u ∈ xs, u.oneCell' = true) (hy : ∀ u ∈ ys, u.oneCell' = true) (hc0 : n0 ≤ c0) (hn : n0 + n1 < 4000000000000) (at_ gone : Nat) (hag : at_ + gone ≤ n0) :
    Calls Try.prog 96 #[.slice a0 n0 c0, .int .i64 (at_ : Int), .int .i64 (gone : Int), .slice a1 n1 c1] w (RowP w0 L 33 2 (at_ + n1 + (n0 - (at_ + gone))) (xs.take (at_ * 2) ++ ys ++ xs.drop ((at_ + gone) * 2))) := by
  obtain ⟨i0, hi0, hsz⟩ : ∃ i, Try.prog.info? 33 = some i ∧ i.size = 2 := by
    have := copR.size
    cases hi : Try.prog.info? 33 with
    | none => rw [hi] at this; cases this
    | some i => rw [hi] at this; exact ⟨i, rfl, by simpa using this⟩
  have hu := Try.underlying31
  have ew : IntKind.i64.wrap ((at_ : Int) + (gone : Int)) = ((at_ + gone : Nat) : Int) := by rw [IntKind.wrap_i64]; omega
  have ew' : wrap64 ((at_ : Int) + (gone : Int)) = ((at_ + gone : Nat) : Int) := by unfold wrap64; omega
  have q1 : (at_ : Int) ≤ (c0 : Int) := by omega
  have q2 : (at_ : Int) + (gone : Int) ≤ (n0 : Int) := by omega
  have q3 : (0 : Int) ≤ (at_ : Int) := by omega
  have q4 : (0 : Int) ≤ (at_ : Int) + (gone : Int) := by omega
  have q5 : ((at_ : Int) + (gone : Int)).toNat = at_ + gone := by omega
  have HV := Aside0.mk hv
  have HT := Aside0.mk (h0.take at_ (by omega))
  have HD := Aside0.mk (h0.drop (at_ + gone) hag hc0)
  have H1 := Aside0.mk h1
  have HX := Aside0.mk (show (∀ u ∈ xs.take (at_ * 2), u.oneCell' = true) ∧ (∀ u ∈ xs.drop ((at_ + gone) * 2), u.oneCell' = true) from ⟨fun u hu => hx u (List.mem_of_mem_take hu), fun u hu => hx u (List.mem_of_mem_drop hu)⟩)
  have HY := Aside0.mk hy
  have HN := Aside0.mk (show at_ + n1 < 8796093022208 by omega)
  have HB := Aside0.mk (show (at_ + n1 + (n0 - (at_ + gone))) * 16 ≤ 140737488355328 by omega)
  clear hv h0 h1 hx hy hn
  go_enter Try.func96, Try.ntmps96
  go_wp2_with fail
  go_region_law (first
    | (rw [if_pos (by rfl)]; unfold Oper.wp; go_simp; go_at_call 106; go_loud (refine (copR.calls (w0 := w0) (L := L) (by first | exact HV.out.drew | exact HV.out | exact HV.out.drewN _) HT.out H1.out HX.out.1 HY.out HN.out).mono ?_); rintro e2 w2 hq; obtain ⟨ad, c, A, rfl, hG, hv2⟩ := hq; have HG := Aside0.mk (And.intro hG hv2); clear hG hv2)
    | (refine append_rows_step (w0 := w0) (A := A) (L := L) (by rfl) (.tmp 13) (.tmp 18) 31 33 (.agg #[.int .i64 0, .int .i64 0]) 2 16 rfl Try.underlying31 copR.info rfl (by decide) (by decide) (.slice ad (at_ + n1) c) (at_ + n1) (xs.take (at_ * 2) ++ ys) (by simp [Act.eval, Act.put]) (if c0 = at_ + gone then a0 else a0.map (·.add ((at_ + gone) * 2))) (n0 - (at_ + gone)) (c0 - (at_ + gone)) (xs.drop ((at_ + gone) * 2)) (by simp [Act.eval, Act.put]) HX.out.2 HG.out.1 HG.out.2 (HD.out _ _ HG.out.2 (fun p hp => List.mem_append_right _ hp)) HB.out ?_; intro v5 w5 A5 hG5 hv5; obtain ⟨ad5, c5, rfl, -⟩ := hG5.form; have HG5 := Aside0.mk (And.intro hG5 hv5); clear hG5 hv5))
  all_goals go_wp2_with fail
  all_goals
    go_ret
    exact ⟨ad5, c5, A5, rfl, by simpa [List.append_assoc] using HG5.out.1, HG5.out.2⟩
end Go.Proofs.Ytglbcfkmaamhaaa.Nd
