/- TidNexts: the next commit epoch and number, or the error, are the reference ones, for every four numbers. No condition. -/
import Derived.Test.YtjfilonjmpfkfaaPTidNextsx2
import Derived.Test.YtjfilonjmpfkfaaRows
import Derived.Laws.BitsAllLaws
import Derived.Laws.BitsLemmas
import Derived.WalkKit
import Derived.ProofKit
import Derived.OpenShut
import Derived.ShutString
import Derived.ChangeOld
import Derived.Below
import Derived.SizedLaws
import Derived.Deep.RegionHeld3
set_option linter.unusedVariables false
set_option linter.unusedSimpArgs false
namespace Go.Proofs.Ytjfilonjmpfkfaa.LawTidNexts
open Go Go.RowKit Go.Proofs.Ytjfilonjmpfkfaa.PTidNexts Go.Proofs.YtjfilonjmpfkfaaW.PrintWords Go.Proofs.YtjfilonjmpfkfaaW.PrintLast
open Go.ChangeShapes Go.WideShapes Go.ChangeAt


theorem awake_ok : transomlaw15_awake.f 8 = some true := by kernel_rfl
theorem awake_any : ∀ k, transomlaw15_awake.f (k + 8) = some true
  | 0 => awake_ok
  | k + 1 => by rw [show k + 1 + 8 = (k + 8) + 1 from by omega]; exact transomlaw15_awake.mono _ _ (awake_any k)
theorem awake_ge (k : Nat) (h : 8 ≤ k) : transomlaw15_awake.f k = some true := by
  obtain ⟨n, rfl⟩ : ∃ n, k = n + 8 := ⟨k - 8, by omega⟩
  exact awake_any n

section
variable {P : Program} {H : Type} {enc : TypeId × Value → H} {w : World} {base : Nat} {spare : Nat → Bool} {held : Bool} {t e : TypeId} {fuel : Nat} {cs : List Value} {x : DataW H × List MemPlace}
theorem okWide_array {r : Reach} {n : Nat} {v : Value} {b0 : Nat} (ht : P.underlying t = some (.array n e)) (h : Value.okWide P w r b0 t v) : ∃ cs, v = .agg cs ∧ cs.size = P.cellsOf t := by
  simp only [Value.okWide, ht] at h
  obtain ⟨cs, h1, h2, _⟩ := h
  exact ⟨cs, h1, h2⟩
theorem trod_cells {n : Nat} (ht : P.underlying t = some (.array n e)) (hc : P.cellsOf t = n) (he : P.cellsOf e = 1) (h : DataW.trod enc P w base spare held fuel t cs = some x) :
    cs.length = n ∧ ∀ i, i < n → ∃ (m : Nat) (y : DataW H × List MemPlace) (v : Value), cs[i]? = some v ∧ DataW.trod enc P w base spare held m e [v] = some y := by
  obtain ⟨xs, m, _, _, hl, hx, hi⟩ := DataW.trod_array ht h
  refine ⟨hl.trans hc, fun i hin => ?_⟩
  have h1 := hi i hin
  rw [he, Nat.mul_one] at h1
  have hil : i < cs.length := by omega
  have hxi : i < xs.length := by omega
  have hd : (cs.drop i).take 1 = [cs[i]] := by
    rw [List.drop_eq_getElem_cons hil]; rfl
  rw [hd, List.getElem?_eq_getElem hxi] at h1
  exact ⟨m, xs[i], cs[i], List.getElem?_eq_getElem hil, h1⟩
theorem open_bools3 (ht : P.underlying t = some (.array 3 e)) (hc : P.cellsOf t = 3) (he : P.cellsOf e = 1) (hb : P.underlying e = some .bool) (h : DataW.trod enc P w base spare held fuel t cs = some x) :
    ∃ b0 b1 b2 : Bool, cs = [.bool b0, .bool b1, .bool b2] := by
  obtain ⟨hl, hi⟩ := trod_cells ht hc he h
  obtain ⟨_, _, v0, e0, t0⟩ := hi 0 (by omega)
  obtain ⟨_, _, v1, e1, t1⟩ := hi 1 (by omega)
  obtain ⟨_, _, v2, e2, t2⟩ := hi 2 (by omega)
  obtain ⟨b0, h0, _⟩ := DataW.trod_bool hb t0
  obtain ⟨b1, h1, _⟩ := DataW.trod_bool hb t1
  obtain ⟨b2, h2, _⟩ := DataW.trod_bool hb t2
  simp at h0 h1 h2
  subst h0 h1 h2
  refine ⟨b0, b1, b2, ?_⟩
  match cs, hl with
  | [c0, c1, c2], _ => simp at e0 e1 e2; simp [e0, e1, e2]
theorem open_ints2 {k : IntKind} (ht : P.underlying t = some (.array 2 e)) (hc : P.cellsOf t = 2) (he : P.cellsOf e = 1) (hb : P.underlying e = some (.int k)) (h : DataW.trod enc P w base spare held fuel t cs = some x) :
    ∃ b0 b1 : Int, cs = [.int k b0, .int k b1] ∧ (Lit.int k b0).wf = true ∧ (Lit.int k b1).wf = true := by
  obtain ⟨hl, hi⟩ := trod_cells ht hc he h
  obtain ⟨_, _, v0, e0, t0⟩ := hi 0 (by omega)
  obtain ⟨_, _, v1, e1, t1⟩ := hi 1 (by omega)
  obtain ⟨b0, h0, _, w0⟩ := DataW.trod_int hb t0
  obtain ⟨b1, h1, _, w1⟩ := DataW.trod_int hb t1
  simp at h0 h1
  subst h0 h1
  refine ⟨b0, b1, ?_, w0, w1⟩
  match cs, hl with
  | [c0, c1], _ => simp at e0 e1; simp [e0, e1]
end

theorem next1 (x e s m : Int) : ∃ r : Int × Int × Int, tid_Next.f x e s m = some r ∧ transomref15_Next.f 3 x e s m = some r := by
  unfold tid_Next.f transomref15_Next.f
  by_cases h1 : x < e
  · by_cases h2 : e < 0
    · exact ⟨_, by rw [if_pos h1], by rw [if_pos h2]; rfl⟩
    · exact ⟨_, by rw [if_pos h1], by rw [if_neg h2, if_pos h1]; rfl⟩
  by_cases h2 : e < 0
  · exact ⟨_, by rw [if_neg h1, if_pos h2], by rw [if_pos h2]; rfl⟩
  by_cases h3 : x ≥ 1048576
  · exact ⟨_, by rw [if_neg h1, if_neg h2, if_pos (by omega)], by rw [if_neg h2, if_neg h1, if_pos h3]; rfl⟩
  have h3' : ¬ x > 1048575 := by omega
  by_cases h4 : s < 0
  · exact ⟨_, by rw [if_neg h1, if_neg h2, if_neg h3', if_pos h4], by rw [if_neg h2, if_neg h1, if_neg h3, if_pos h4]; rfl⟩
  by_cases h5 : s ≥ 1048576
  · exact ⟨_, by rw [if_neg h1, if_neg h2, if_neg h3', if_neg h4, if_pos (by omega)], by rw [if_neg h2, if_neg h1, if_neg h3, if_neg h4, if_pos h5]; rfl⟩
  have h5' : ¬ s > 1048575 := by omega
  by_cases h6 : m < 0
  · exact ⟨_, by rw [if_neg h1, if_neg h2, if_neg h3', if_neg h4, if_neg h5', if_pos h6], by rw [if_neg h2, if_neg h1, if_neg h3, if_neg h4, if_neg h5, if_pos h6]; rfl⟩
  have w1 : wrap64 (1 + s) = s + 1 := by unfold wrap64; omega
  have w2 : wrap64 (s + 1) = s + 1 := by unfold wrap64; omega
  rw [if_neg h1, if_neg h2, if_neg h3', if_neg h4, if_neg h5', if_neg h6, if_neg h2, if_neg h1, if_neg h3, if_neg h4, if_neg h5, if_neg h6]
  by_cases h7 : m ≥ 1048576
  · have h7' : m > 1048575 := by omega
    exact ⟨_, by rw [if_pos h7'], by simp [transomref15_Next.j0, h7]⟩
  have h7' : ¬ m > 1048575 := by omega
  rw [if_neg h7', w1]
  by_cases h8 : x = e
  · by_cases h9 : s + 1 > m
    · exact ⟨_, by rw [if_pos h8, if_pos h9], by simp [transomref15_Next.j0, h7, h8, h9, w2]⟩
    · exact ⟨_, by rw [if_pos h8, if_neg h9], by simp [transomref15_Next.j0, h7, h8, h9, w2]⟩
  · by_cases h9 : 1 > m
    · exact ⟨_, by rw [if_neg h8, if_pos h9], by simp [transomref15_Next.j0, h7, h8, h9]⟩
    · exact ⟨_, by rw [if_neg h8, if_neg h9], by simp [transomref15_Next.j0, h7, h8, h9]⟩
set_option maxHeartbeats 4000000 in
set_option maxRecDepth 100000 in
theorem nexts_walk (a b c d : Int) (w : World) :
    Calls Try.prog 5 #[.agg #[.int .i64 a, .int .i64 b], .agg #[.int .i64 c, .int .i64 d]] w fun e w' => e = .returned (.bool true) ∧ Below w.heap.size w w' := by
  obtain ⟨⟨r1, r2, r3⟩, n1, n2⟩ := next1 a b c d
  have N1 := Aside0.mk n1
  have N2 := Aside0.mk n2
  clear n1 n2
  have HB := Aside0.mk (((Below.refl w.heap.size w).alloc (Nat.le_refl _) (.cells #[.int .i64 a, .int .i64 b] 35)).alloc (by simp) (.cells #[.int .i64 c, .int .i64 d] 35))
  go_enter Try.func5, Try.ntmps5
  go_wp2_with (first | (go_at_call 27; refine (tid_Next.calls _ _ _ _ r1 r2 r3 _ N1.out).mono ?_; rintro e w' ⟨rfl, ⟨nd, rfl⟩⟩) | (go_at_call 28; refine (transomref15_Next.calls 3 _ _ _ _ r1 r2 r3 _ N2.out).mono ?_; rintro e w' ⟨rfl, ⟨nd, rfl⟩⟩) | (go_at_call 10; refine (transomlaw15_awake.calls 8 _ _ awake_ok).mono ?_; rintro e w' ⟨rfl, hb⟩))
  go_ret
  rename_i hb
  exact ⟨rfl, below_then (pw_below_drewN HB.out _) (by simp; omega) hb⟩

theorem own : ownKnob Try.prog.godebug = none := by kernel_rfl
theorem laidOut : laidOutB Try.prog = true := by kernel_rfl
set_option maxRecDepth 100000 in
theorem lifted (os : Os) (started : os.Started) (H : Type) (enc : TypeId × Value → H) :
    ReturnsInHanded {} Try.checked os 5 .any (Rows.tidNextsSpec.pre6 enc Try.prog Try.f5 Rows.tidNextsRow.domain false) (Rows.tidNextsSpec.post enc Try.prog Try.f5 false true false false) := by
  refine returnsInHanded_of_change_sized (C := Try.checked) own started (by kernel_rfl) Try.func5
    (ChangeSpec.witness6 (enc := enc) (C := Try.checked) false ⟨#[], #[.agg #[.int .i64 0, .int .i64 0], .agg #[.int .i64 0, .int .i64 0]], []⟩ 8 (by kernel_rfl) (by kernel_rfl) (by kernel_rfl) (by kernel_rfl)) ?_
  intro W base args ds gs before hval0 hW hcnd hsz0 _
  have hsz : (DataW.weightsEach Try.prog (Try.f5.params.toList ++ Rows.tidNextsSpec.plain.varTypes Try.prog) (ds ++ gs)).all (· ≤ reachBytes) = true := hsz0
  have hval : ∀ (j : Nat) t v, Try.f5.params[j]? = some t → args[j]? = some v → Value.okWide Try.prog W .any base t v := hval0
  have hW' := hW
  obtain ⟨p, q, hA0, hV, rfl, hfz, hnd⟩ := hW
  have hA : DataW.TrodAll enc Try.prog W 0 (fun _ => true) true Try.f5.params.toList args.toList ds p := hA0
  rw [Try.params5] at hA hval hsz
  obtain ⟨v0, vs0, d0, ds0, p0, q0, hargs, rfl, rfl, h0, r0⟩ := trodAll_cons hA
  obtain ⟨v1, vs1, d1, ds1, p1, q1, rfl, rfl, rfl, h1, r1⟩ := trodAll_cons r0
  obtain ⟨rfl, rfl, rfl⟩ := trodAll_nil r1
  obtain rfl : args = #[v0, v1] := by cases args; simp_all
  obtain ⟨rfl, rfl⟩ := trodVars_none hV
  have k0 := h0
  have lt0 : ∀ x ∈ p0, x.block < W.heap.size := by obtain ⟨m, hm⟩ := k0; exact DataW.trod_lt m _ _ _ hm
  have k1 := h1
  have lt1 : ∀ x ∈ p1, x.block < W.heap.size := by obtain ⟨m, hm⟩ := k1; exact DataW.trod_lt m _ _ _ hm
  obtain ⟨b0, c0, rfl⟩ : ∃ b c : Int, v0 = .agg #[.int .i64 b, .int .i64 c] := by
    obtain ⟨cs, rfl, _⟩ := okWide_array Try.underlying35 (hval 0 35 v0 rfl rfl)
    obtain ⟨fuel, hf⟩ := h0
    obtain ⟨b, c, hcs, _, _⟩ := open_ints2 Try.underlying35 (by kernel_rfl) (by kernel_rfl) Try.underlying3 hf
    refine ⟨b, c, ?_⟩
    rw [show cs = #[.int .i64 b, .int .i64 c] from by cases cs; simpa [Value.cells] using hcs]
  obtain ⟨b1, c1, rfl⟩ : ∃ b c : Int, v1 = .agg #[.int .i64 b, .int .i64 c] := by
    obtain ⟨cs, rfl, _⟩ := okWide_array Try.underlying35 (hval 1 35 v1 rfl rfl)
    obtain ⟨fuel, hf⟩ := h1
    obtain ⟨b, c, hcs, _, _⟩ := open_ints2 Try.underlying35 (by kernel_rfl) (by kernel_rfl) Try.underlying3 hf
    refine ⟨b, c, ?_⟩
    rw [show cs = #[.int .i64 b, .int .i64 c] from by cases cs; simpa [Value.cells] using hcs]
  clear hA0 hval0 hsz0 hsz
  refine (nexts_walk b0 c0 b1 c1 W).mono fun e W' ⟨he, bel⟩ => ?_
  subst he
  exact ⟨_, rfl, _, _, _, [], _, [], hW', trodAll_mk1 (shut_bool Try.underlying4 _), (trodAll_cons_mk (Below.trod laidOut (by kernel_rfl) (of_decide_eq_true (by kernel_rfl)) k0 bel lt0) (trodAll_cons_mk (Below.trod laidOut (by kernel_rfl) (of_decide_eq_true (by kernel_rfl)) k1 bel lt1) trodAll_mk0)), rfl, bel.frame _, fun h => by cases h⟩
theorem over : Rows.tidNextsRow.holds Try.pinned (OpenSpec.ofChange Rows.tidNextsSpec) :=
  OpenClaim.holds_of_wide 5 Try.f5 rfl rfl rfl rfl rfl rfl rfl ⟨rfl, rfl, rfl, rfl, rfl⟩ rfl rfl rfl rfl rfl (by kernel_rfl) Try.func5 (by kernel_rfl)
    (of_decide_eq_true (by kernel_rfl)) (by unfold Func.isWrapper; first | (rw [if_pos (by decide +kernel)]; kernel_rfl) | (rw [if_neg (by decide +kernel)]; exact ⟨rfl, rfl⟩))
    (fun os started H enc _ => lifted os started H enc)
end Go.Proofs.Ytjfilonjmpfkfaa.LawTidNexts
namespace Go.Proofs.Ytjfilonjmpfkfaa
/-- The row. -/
theorem tidNexts_holds : Rows.TidNextsSaid := LawTidNexts.over
end Go.Proofs.Ytjfilonjmpfkfaa
