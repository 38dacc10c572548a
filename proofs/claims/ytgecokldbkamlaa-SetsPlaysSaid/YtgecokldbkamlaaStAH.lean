/- transomlaw21: awake. No condition. -/
import Derived.Test.YtgecokldbkamlaaStAG
set_option linter.unusedVariables false
set_option linter.unusedSimpArgs false
namespace Go.Proofs.Ytgecokldbkamlaa.St
open Go Go.RowKit Go.MapKept Go.Proofs.YtgecokldbkamlaaW.PrintWords Go.Proofs.YtgecokldbkamlaaW.PrintLast Go.Proofs.YtgecokldbkamlaaW.PrintMore Go.Proofs.Ytgecokldbkamlaa.Hv Go.Proofs.Ytgecokldbkamlaa.Mk Go.Proofs.Ytgecokldbkamlaa.Ka
variable {w0 w w1 : World} {g : Nat} {s s' x x' : St} {L L' L1 : List Ob} {v : Value}
def kB : ByteArray := ⟨#[98]⟩
def kA : ByteArray := ⟨#[97]⟩
def wB (c : UInt8) : Wr := (⟨#[98]⟩, (0, 0), ⟨#[c]⟩, false)
def wA : Wr := (⟨#[97]⟩, (0, 0), ⟨#[]⟩, false)
theorem two_sorted {ws : List Wr} (hp : ws.Perm [wB 50, wA]) (hs : ws.Pairwise (fun x y => bl y.1 x.1 = false)) : ws = [wA, wB 50] := by
  have hl := hp.length_eq
  match ws, hl with
  | [p, q], _ =>
    have h1 : p ∈ [wB 50, wA] := hp.mem_iff.1 (by simp)
    have h2 : q ∈ [wB 50, wA] := hp.mem_iff.1 (by simp)
    have h3 : (wB 50) ∈ [p, q] := hp.mem_iff.2 (by simp)
    have h4 : wA ∈ [p, q] := hp.mem_iff.2 (by simp)
    have hne : wB 50 ≠ wA := by
      intro e
      have := congrArg (fun z : Wr => z.1.data.toList) e
      simp [wB, wA] at this
    have hlt : bl wA.1 (wB 50).1 = true := by simp [bl, wA, wB, Lib.toList_data, Op.bytesLess]
    simp only [List.mem_cons, List.not_mem_nil, or_false] at h1 h2 h3 h4
    simp only [List.pairwise_cons, List.mem_singleton, forall_eq] at hs
    rcases h1 with rfl | rfl
    · rcases h2 with rfl | rfl
      · rcases h4 with h4 | h4 <;> exact absurd h4.symm hne
      · rw [hlt] at hs
        exact absurd hs.1 (by simp)
    · rcases h2 with rfl | rfl
      · rfl
      · rcases h3 with h3 | h3 <;> exact absurd h3 hne
def tsA : List Tn := [⟨(1, 1), (0, 0), 1, 3, false⟩, ⟨(2, 1), (1, 1), 0, 1, true⟩]
theorem kne : (⟨#[98]⟩ : ByteArray) ≠ ⟨#[97]⟩ := by
  intro e
  have := congrArg (fun z : ByteArray => z.data.toList) e
  simp at this
theorem kne' : (⟨#[97]⟩ : ByteArray) ≠ ⟨#[98]⟩ := fun e => kne e.symm
theorem st1 : addN [] ((1, 1), 1) = [((1, 1), 1)] := by simp [addN]
theorem st2 : addN [((1, 1), 1)] ((1, 1), 9) = [((1, 1), 1)] := by simp [addN]
theorem st3 : trn [((1, 1), 1)] tsA = [((1, 1), 3), ((2, 1), 1)] := by simp [trn, trn0, tsA, tstp, getN, setN, addN]
theorem st4 : addN [] ((1, 1), 5) = [((1, 1), 5)] := by simp [addN]
theorem st5 : addN [((1, 1), 5)] ((1, 1), 6) = [((1, 1), 5)] := by simp [addN]
theorem st6 : wput (wB 49) [] = [wB 49] := rfl
theorem st7 : wput wA [wB 49] = [wB 49, wA] := by simp [wput, wA, wB, kne]
theorem st8 : wput (wB 50) [wB 49, wA] = [wB 50, wA] := by simp [wput, wB, wA]
theorem st9 : wget ⟨#[98]⟩ [wB 50, wA] = (wB 50, true) := by simp [wget, wB]
end Go.Proofs.Ytgecokldbkamlaa.St
