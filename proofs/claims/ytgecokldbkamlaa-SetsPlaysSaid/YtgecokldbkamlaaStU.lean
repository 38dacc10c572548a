/- transomref21: Read. No condition. -/
import Derived.Test.YtgecokldbkamlaaStT
set_option linter.unusedVariables false
set_option linter.unusedSimpArgs false
namespace Go.Proofs.Ytgecokldbkamlaa.St
open Go Go.RowKit Go.MapKept Go.Proofs.YtgecokldbkamlaaW.PrintWords Go.Proofs.YtgecokldbkamlaaW.PrintLast Go.Proofs.YtgecokldbkamlaaW.PrintMore Go.Proofs.Ytgecokldbkamlaa.Hv Go.Proofs.Ytgecokldbkamlaa.Mk Go.Proofs.Ytgecokldbkamlaa.Ka
variable {w0 w w1 : World} {g : Nat} {s : St} {L L' : List Ob} {a1 a2 a3 : Option Addr} {c1 c2 c3 : Nat}
set_option maxHeartbeats 8000000 in
set_option maxRecDepth 100000 in
theorem rRead.old (hv : Hv w0 w L) (hl : s.reads.length ≤ 100000) (hR : RS L s a1 c1 a2 c2 a3 c3) (a b word : Int) {l1 l2 : List R3} {v : Int} (e : s.reads = l1 ++ ((a, b), v) :: l2) (hn : ∀ x ∈ l1, x.1 ≠ (a, b)) :
    Calls Try.prog 21 #[.agg #[.slice a1 s.reads.length c1, .slice a2 s.nodes.length c2, .slice a3 s.writes.length c3], .agg #[.int .i64 a, .int .i64 b], .int .i64 word] w fun e w' => e = .returned (.agg #[.slice a1 s.reads.length c1, .slice a2 s.nodes.length c2, .slice a3 s.writes.length c3]) ∧ Hv w0 w' L := by
  have hu31 := Try.underlying31
  have hu34 := Try.underlying34
  have hu36 := Try.underlying36
  have hu27 := Try.underlying27
  have h1 : Hv w0 (((w.alloc (.cells #[.slice a1 s.reads.length c1, .slice a2 s.nodes.length c2, .slice a3 s.writes.length c3] 31)).alloc (.cells #[.int .i64 a, .int .i64 b] 34)).alloc (.cells #[.slice none 0 0, .slice none 0 0, .slice none 0 0] 31)) (cb (w.heap.size + 1 + 1) 31 #[.slice none 0 0, .slice none 0 0, .slice none 0 0] :: cb (w.heap.size + 1) 34 #[.int .i64 a, .int .i64 b] :: cb w.heap.size 31 #[.slice a1 s.reads.length c1, .slice a2 s.nodes.length c2, .slice a3 s.writes.length c3] :: L) := by
    have := ((hv.alloc (.cells #[.slice a1 s.reads.length c1, .slice a2 s.nodes.length c2, .slice a3 s.writes.length c3] 31)).alloc (.cells #[.int .i64 a, .int .i64 b] 34)).alloc (.cells #[.slice none 0 0, .slice none 0 0, .slice none 0 0] 31)
    simpa [cb] using this
  have HV := Aside0.mk h1
  have HR := Aside0.mk (hR.r.mono (L' := cb (w.heap.size + 1 + 1) 31 #[.slice none 0 0, .slice none 0 0, .slice none 0 0] :: cb (w.heap.size + 1) 34 #[.int .i64 a, .int .i64 b] :: cb w.heap.size 31 #[.slice a1 s.reads.length c1, .slice a2 s.nodes.length c2, .slice a3 s.writes.length c3] :: L) (fun p hp => by simp [hp]))
  have HL := Aside0.mk hl
  have HE := Aside0.mk (And.intro e hn)
  have HLN := Aside0.mk (show s.reads.length = l1.length + (l2.length + 1) by rw [e]; simp)
  clear hv h1 hR hl e hn
  go_enter Try.func21, Try.ntmps21
  go_wp2_with fail
  go_loopg [7] (l1.length + 1) (fun kq v7 wr => ∃ (k : Nat), v7 = .int .i64 (k : Int) ∧ kq = l1.length + 1 - k ∧ k ≤ l1.length ∧ Aside0 (Hv w0 wr (cb (w.heap.size + 1 + 1) 31 #[.slice none 0 0, .slice none 0 0, .slice none 0 0] :: cb (w.heap.size + 1) 34 #[.int .i64 a, .int .i64 b] :: cb w.heap.size 31 #[.slice a1 s.reads.length c1, .slice a2 s.nodes.length c2, .slice a3 s.writes.length c3] :: L)))
  case atStart => exact ⟨0, rfl, rfl, Nat.zero_le _, HV⟩
  case round =>
    obtain ⟨k, rfl, rfl, hk, HP⟩ := hrel
    clear HV
    have hk7 : k ≤ 100000 := by have := HL.out; have := HLN.out; omega
    have hlt9 : k < s.reads.length := by have := HLN.out; omega
    have hlt' : (k : Int) < (s.reads.length : Int) := by omega
    obtain ⟨adl, ea, hcl⟩ := HR.out.cells HP.out.drew (by omega)
    cases ea
    obtain ⟨⟨⟨x0, x1⟩, x2⟩, hd⟩ : ∃ d, s.reads[k]? = some d := ⟨_, List.getElem?_eq_getElem hlt9⟩
    have z0 := hcl (k * 3) _ (cel3_at s.reads k 0 _ (.int .i64 x0) hd rfl)
    have z1 := hcl (k * 3 + 1) _ (cel3_at s.reads k 1 _ (.int .i64 x1) hd rfl)
    rw [add_next _ _ _ (by omega)] at z1
    obtain ⟨y0, y1, -, -⟩ := HP.out.c2 (w.heap.size + 1) 34 (.int .i64 a) (.int .i64 b) (by simp)
    obtain ⟨b0, b1, b2, -, -, -⟩ := HP.out.c3 w.heap.size 31 (.slice (some adl) s.reads.length c1) (.slice a2 s.nodes.length c2) (.slice a3 s.writes.length c3) (by simp)
    have heq := eq34 x0 x1 a b
    by_cases hltn : k < l1.length
    · have hne : ((x0, x1) : Rf) ≠ (a, b) := by
        have h9 := hd
        rw [HE.out.1, List.getElem?_append_left hltn] at h9
        exact HE.out.2 _ (List.mem_of_getElem? h9)
      rw [ne_pair hne] at heq
      clear hcl hd hne
      go_wp2_with fail
      go_region
      go_wp2_with fail
      go_roundg (l1.length + 1 - (k + 1))
      case measure => omega
      case rel => exact ⟨k + 1, by go_num, rfl, hltn, ⟨by first | exact HP.out.drew | exact HP.out⟩⟩
    · have hkk : l1.length = k := by omega
      have h9 := hd
      rw [HE.out.1, ← hkk, List.getElem?_append_right (Nat.le_refl _), Nat.sub_self, List.getElem?_cons_zero] at h9
      cases h9
      simp only [beq_self_eq_true, Bool.and_self] at heq
      have HD := Aside0.mk (show Hv w0 wr.drew _ from HP.out.drew)
      obtain ⟨q0, q1, q2, f0, f1, f2⟩ := HP.out.c3 (w.heap.size + 1 + 1) 31 (.slice none 0 0) (.slice none 0 0) (.slice none 0 0) (by simp)
      clear hcl hd hkk
      go_wp2_with fail
      go_region
      go_wp2_with fail
      have K8 := (((HP.out.put 0 rfl 0 (.slice (some adl) s.reads.length c1)).put 0 rfl 1 (.slice a2 s.nodes.length c2)).put 0 rfl 2 (.slice a3 s.writes.length c3))
      obtain ⟨wg, hw, hg⟩ : ∃ wg, wg = _ ∧ Hv w0 wg (cb (w.heap.size + 1 + 1) 31 #[.slice (some adl) s.reads.length c1, .slice a2 s.nodes.length c2, .slice a3 s.writes.length c3] :: cb (w.heap.size + 1) 34 #[.int .i64 a, .int .i64 b] :: cb w.heap.size 31 #[.slice (some adl) s.reads.length c1, .slice a2 s.nodes.length c2, .slice a3 s.writes.length c3] :: L) := ⟨_, rfl, by simpa using K8⟩
      rw [← hw]
      obtain ⟨p0, p1, p2, -, -, -⟩ := hg.c3 (w.heap.size + 1 + 1) 31 _ _ _ List.mem_cons_self
      exact bodyPost_ret (v := .agg #[.slice (some adl) s.reads.length c1, .slice a2 s.nodes.length c2, .slice a3 s.writes.length c3]) (by simp [results, Try.results21, go_sem, p0, p1, p2, hu31]) rfl ⟨rfl, hg.drew.tail.tail.tail⟩
end Go.Proofs.Ytgecokldbkamlaa.St
