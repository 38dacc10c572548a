/- Maps whose keys are structs of two whole numbers. No condition. -/
import Derived.Test.YtgecokldbkamlaaProg
import Derived.Test.YtgecokldbkamlaaMk
import Derived.Test.YtgecokldbkamlaaWEqStruct
set_option linter.unusedVariables false
set_option linter.unusedSimpArgs false
namespace Go.Proofs.Ytgecokldbkamlaa.Ka
open Go Go.RowKit Go.MapKept Go.Proofs.YtgecokldbkamlaaW.PrintWords Go.Proofs.Ytgecokldbkamlaa.Hv Go.Proofs.Ytgecokldbkamlaa.Mk

/-- A key: two whole numbers. -/
def K2 (v : Value) : Prop := ∃ a b : Int, v = .agg #[.int .i64 a, .int .i64 b]
theorem eqA (d : Nat) (w : World) (x0 y0 : Int) (x1 y1 : Int) :
    (Op.equalIn (d + 2) 34 (.agg #[.int .i64 x0, .int .i64 x1]) (.agg #[.int .i64 y0, .int .i64 y1])).run Try.prog w = .ok (x0 == y0 && (x1 == y1)) w := by
  refine eqA_of Try.underlying34 (by kernel_rfl) ?_
  refine eqf_cons (by rfl) (by go_simp; rfl) (by go_simp; rfl) (by go_simp) ?_
  exact eqf_last (by rfl) (by go_simp; rfl) (by go_simp; rfl) (by go_simp)
theorem eqk (w : World) (x0 y0 : Int) (x1 y1 : Int) : (Op.equal 34 (.agg #[.int .i64 x0, .int .i64 x1]) (.agg #[.int .i64 y0, .int .i64 y1])).run Try.prog w = .ok (x0 == y0 && (x1 == y1)) w := by
  simp [Op.equal, Op.maxDepth, eqA 9998 w x0 y0 x1 y1]
theorem asks (w : World) (a b : Int) : ∀ (es : List MapEntry) (i : Nat), (∀ e ∈ es, K2 e.key) →
    ((Instr.findAsking 34 (.agg #[.int .i64 a, .int .i64 b]) es i).run Try.prog w = .ok none w ∧ ∀ e ∈ es, e.key ≠ .agg #[.int .i64 a, .int .i64 b]) ∨
    ∃ j e, (Instr.findAsking 34 (.agg #[.int .i64 a, .int .i64 b]) es i).run Try.prog w = .ok (some (i + j, e.val)) w ∧ es[j]? = some e ∧ e.key = .agg #[.int .i64 a, .int .i64 b]
  | [], i, _ => .inl ⟨by simp [Instr.findAsking], by simp⟩
  | e :: es, i, h => by
    obtain ⟨c, d, hk⟩ := h e List.mem_cons_self
    by_cases hq : a = c ∧ b = d
    · obtain ⟨rfl, rfl⟩ := hq
      refine .inr ⟨0, e, ?_, rfl, hk⟩
      simp [Instr.findAsking, hk, eqk, Result.andThen]
    · have hne : (a == c && (b == d)) = false := by
        simp only [Bool.and_eq_false_iff, beq_eq_false_iff_ne]
        by_cases h1 : a = c
        · exact .inr fun h2 => hq ⟨h1, h2⟩
        · exact .inl h1
      have hrun : (Instr.findAsking 34 (.agg #[.int .i64 a, .int .i64 b]) (e :: es) i).run Try.prog w = (Instr.findAsking 34 (.agg #[.int .i64 a, .int .i64 b]) es (i + 1)).run Try.prog w := by
        rw [Instr.findAsking]
        simp only [hk, Sem.run_bind, eqk, hne, Result.andThen_ok]
        simp
      rcases asks w a b es (i + 1) (fun x hx => h x (List.mem_cons_of_mem _ hx)) with ⟨h1, h2⟩ | ⟨j, e', h1, h2, h3⟩
      · refine .inl ⟨hrun.trans h1, ?_⟩
        intro x hx
        rcases List.mem_cons.1 hx with rfl | hx
        · rw [hk]
          intro h9
          simp at h9
          exact hq ⟨h9.1.symm, h9.2.symm⟩
        · exact h2 x hx
      · exact .inr ⟨j + 1, e', by rw [hrun, h1, show i + 1 + j = i + (j + 1) by omega], by simpa using h2, h3⟩
theorem kl : KL Try.prog 34 K2 where
  check w em v hv := by
    obtain ⟨a, b, rfl⟩ := hv
    unfold Instr.checkKey
    have hu := Try.underlying34
    have hi := Try.underlying3
    go_simp
    have h1 : ∀ c : Int, (Instr.checkKey em 9999 3 (.int .i64 c)).run Try.prog w = .ok () w := fun c => MapKept.run_checkKey hi (by simp [IsKey]) em 9998
    simp [h1, Result.andThen]
  find w x hx es hes := by
    obtain ⟨a, b, rfl⟩ := hx
    cases es with
    | nil => exact .inl ⟨by simp [Instr.findKey, run_underlying Try.underlying34, Instr.findNow, Result.andThen], by simp⟩
    | cons e es =>
      have h0 : (Instr.findKey 34 (.agg #[.int .i64 a, .int .i64 b]) (e :: es)).run Try.prog w = (Instr.findAsking 34 (.agg #[.int .i64 a, .int .i64 b]) (e :: es) 0).run Try.prog w := by
        simp [Instr.findKey, run_underlying Try.underlying34, Instr.findNow, Instr.sameNow, Result.andThen]
      rcases asks w a b (e :: es) 0 hes with ⟨h1, h2⟩ | ⟨j, e', h1, h2, h3⟩
      · exact .inl ⟨h0.trans h1, h2⟩
      · exact .inr ⟨j, e', by rw [h0, h1, Nat.zero_add], h2, h3⟩
  stays w v hv := by
    obtain ⟨a, b, rfl⟩ := hv
    simp [Instr.keyThatStays, Instr.sameBits]
end Go.Proofs.Ytgecokldbkamlaa.Ka
