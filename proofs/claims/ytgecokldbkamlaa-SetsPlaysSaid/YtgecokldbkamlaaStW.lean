/- transomref21: Own. No condition. -/
import Derived.Test.YtgecokldbkamlaaStV
set_option linter.unusedVariables false
set_option linter.unusedSimpArgs false
namespace Go.Proofs.Ytgecokldbkamlaa.St
open Go Go.RowKit Go.MapKept Go.Proofs.YtgecokldbkamlaaW.PrintWords Go.Proofs.YtgecokldbkamlaaW.PrintLast Go.Proofs.YtgecokldbkamlaaW.PrintMore Go.Proofs.Ytgecokldbkamlaa.Hv Go.Proofs.Ytgecokldbkamlaa.Mk Go.Proofs.Ytgecokldbkamlaa.Ka
variable {w0 w w1 : World} {g : Nat} {s : St} {L L' : List Ob} {a1 a2 a3 : Option Addr} {c1 c2 c3 : Nat}
theorem tl_ne {a b : ByteArray} (h : a ≠ b) : (a.toList == b.toList) = false := by
  rw [beq_eq_false_iff_ne]
  intro e
  rw [Lib.toList_data, Lib.toList_data] at e
  exact h (by cases a; cases b; simp only [ByteArray.mk.injEq]; exact Array.toList_inj.1 e)
theorem eqs (a b : ByteArray) (w : World) : (binOp .eql 9 (.string a) (.string b)).run Try.prog w = .ok (.bool (a.toList == b.toList)) w := by
  simp [binOp, Op.stringOp]
set_option maxHeartbeats 8000000 in
set_option maxRecDepth 100000 in
theorem rOwn.no (hv : Hv w0 w L) (hl : s.writes.length ≤ 100000) (hR : RS L s a1 c1 a2 c2 a3 c3) (k0 : ByteArray) (hn : ∀ x ∈ s.writes, x.1 ≠ k0) :
    Calls Try.prog 11 #[.agg #[.slice a1 s.reads.length c1, .slice a2 s.nodes.length c2, .slice a3 s.writes.length c3], .string k0] w fun e w' => e = .returned (.tuple #[.agg #[Value.string ⟨#[]⟩, .int .i64 0, .int .i64 0, Value.string ⟨#[]⟩, .bool false], .bool false]) ∧ Hv w0 w' L := by
  have hu31 := Try.underlying31
  have hu40 := Try.underlying40
  have hu29 := Try.underlying29
  have h1 : Hv w0 ((w.alloc (.cells #[.slice a1 s.reads.length c1, .slice a2 s.nodes.length c2, .slice a3 s.writes.length c3] 31)).alloc (.cells #[Value.string ⟨#[]⟩, .int .i64 0, .int .i64 0, Value.string ⟨#[]⟩, .bool false] 40)) (cb (w.heap.size + 1) 40 #[Value.string ⟨#[]⟩, .int .i64 0, .int .i64 0, Value.string ⟨#[]⟩, .bool false] :: cb w.heap.size 31 #[.slice a1 s.reads.length c1, .slice a2 s.nodes.length c2, .slice a3 s.writes.length c3] :: L) := by
    have := (hv.alloc (.cells #[.slice a1 s.reads.length c1, .slice a2 s.nodes.length c2, .slice a3 s.writes.length c3] 31)).alloc (.cells #[Value.string ⟨#[]⟩, .int .i64 0, .int .i64 0, Value.string ⟨#[]⟩, .bool false] 40)
    simpa [cb] using this
  have HV := Aside0.mk h1
  have HR := Aside0.mk (hR.w.mono (L' := cb (w.heap.size + 1) 40 #[Value.string ⟨#[]⟩, .int .i64 0, .int .i64 0, Value.string ⟨#[]⟩, .bool false] :: cb w.heap.size 31 #[.slice a1 s.reads.length c1, .slice a2 s.nodes.length c2, .slice a3 s.writes.length c3] :: L) (fun p hp => by simp [hp]))
  have HL := Aside0.mk hl
  have HE := Aside0.mk hn
  clear hv h1 hR hl hn
  go_enter Try.func11, Try.ntmps11
  go_wp2_with fail
  go_loopg [6] s.writes.length (fun kq v6 wr => ∃ (k : Nat), v6 = .int .i64 (k : Int) ∧ kq = s.writes.length - k ∧ k ≤ s.writes.length ∧ Aside0 (Hv w0 wr (cb (w.heap.size + 1) 40 #[Value.string ⟨#[]⟩, .int .i64 0, .int .i64 0, Value.string ⟨#[]⟩, .bool false] :: cb w.heap.size 31 #[.slice a1 s.reads.length c1, .slice a2 s.nodes.length c2, .slice a3 s.writes.length c3] :: L)))
  case atStart => exact ⟨0, rfl, rfl, Nat.zero_le _, HV⟩
  case round =>
    obtain ⟨k, rfl, rfl, hk, HP⟩ := hrel
    clear HV
    have hk7 : k ≤ 100000 := by have := HL.out; omega
    obtain ⟨b0, b1, b2, -, -, -⟩ := HP.out.c3 w.heap.size 31 (.slice a1 s.reads.length c1) (.slice a2 s.nodes.length c2) (.slice a3 s.writes.length c3) (by simp)
    by_cases hltn : k < s.writes.length
    · have hlt' : (k : Int) < (s.writes.length : Int) := by omega
      obtain ⟨adl, ea, hcl⟩ := HR.out.cells HP.out (by omega)
      cases ea
      obtain ⟨⟨k1, ⟨x0, x1⟩, x2, x3⟩, hd⟩ : ∃ d, s.writes[k]? = some d := ⟨_, List.getElem?_eq_getElem hltn⟩
      have z0 := hcl (k * 5) _ (wcel_at s.writes k 0 _ (.string k1) hd rfl)
      have hne := tl_ne (HE.out _ (List.mem_of_getElem? hd))
      simp only at hne
      clear hcl hd
      go_wp2_with fail
      go_roundg (s.writes.length - (k + 1))
      case measure => omega
      case rel => exact ⟨k + 1, by go_num, rfl, hltn, HP⟩
    · have hge : ¬ (k : Int) < (s.writes.length : Int) := by omega
      obtain ⟨q0, q1, q2, q3, q4, f0, f1, f2, f3, f4⟩ := HP.out.c5 (w.heap.size + 1) 40 (.string ⟨#[]⟩) (.int .i64 0) (.int .i64 0) (.string ⟨#[]⟩) (.bool false) (by simp)
      go_wp2_with fail
      have K8 := (((((HP.out.put 0 rfl 0 (.string ⟨#[]⟩)).put 0 rfl 1 (.int .i64 0)).put 0 rfl 2 (.int .i64 0)).put 0 rfl 3 (.string ⟨#[]⟩)).put 0 rfl 4 (.bool false))
      obtain ⟨wg, hw, hg⟩ : ∃ wg, wg = _ ∧ Hv w0 wg (cb (w.heap.size + 1) 40 #[Value.string ⟨#[]⟩, .int .i64 0, .int .i64 0, Value.string ⟨#[]⟩, .bool false] :: cb w.heap.size 31 #[.slice a1 s.reads.length c1, .slice a2 s.nodes.length c2, .slice a3 s.writes.length c3] :: L) := ⟨_, rfl, by simpa using K8⟩
      rw [← hw]
      obtain ⟨p0, p1, p2, p3, p4, -, -, -, -, -⟩ := hg.c5 (w.heap.size + 1) 40 _ _ _ _ _ List.mem_cons_self
      exact bodyPost_ret (v := .tuple #[.agg #[Value.string ⟨#[]⟩, .int .i64 0, .int .i64 0, Value.string ⟨#[]⟩, .bool false], .bool false]) (by simp [results, Try.results11, go_sem, p0, p1, p2, p3, p4, hu40]) rfl ⟨rfl, hg.tail.tail⟩
set_option maxHeartbeats 8000000 in
set_option maxRecDepth 100000 in
theorem rOwn.yes (hv : Hv w0 w L) (hl : s.writes.length ≤ 100000) (hR : RS L s a1 c1 a2 c2 a3 c3) (k0 d : ByteArray) (a b : Int) (t : Bool) {l1 l2 : List Wr} (e : s.writes = l1 ++ (k0, (a, b), d, t) :: l2) (hn : ∀ x ∈ l1, x.1 ≠ k0) :
    Calls Try.prog 11 #[.agg #[.slice a1 s.reads.length c1, .slice a2 s.nodes.length c2, .slice a3 s.writes.length c3], .string k0] w fun e w' => e = .returned (.tuple #[.agg #[.string k0, .int .i64 a, .int .i64 b, .string d, .bool t], .bool true]) ∧ Hv w0 w' L := by
  have hu31 := Try.underlying31
  have hu40 := Try.underlying40
  have hu29 := Try.underlying29
  have h1 : Hv w0 ((w.alloc (.cells #[.slice a1 s.reads.length c1, .slice a2 s.nodes.length c2, .slice a3 s.writes.length c3] 31)).alloc (.cells #[Value.string ⟨#[]⟩, .int .i64 0, .int .i64 0, Value.string ⟨#[]⟩, .bool false] 40)) (cb (w.heap.size + 1) 40 #[Value.string ⟨#[]⟩, .int .i64 0, .int .i64 0, Value.string ⟨#[]⟩, .bool false] :: cb w.heap.size 31 #[.slice a1 s.reads.length c1, .slice a2 s.nodes.length c2, .slice a3 s.writes.length c3] :: L) := by
    have := (hv.alloc (.cells #[.slice a1 s.reads.length c1, .slice a2 s.nodes.length c2, .slice a3 s.writes.length c3] 31)).alloc (.cells #[Value.string ⟨#[]⟩, .int .i64 0, .int .i64 0, Value.string ⟨#[]⟩, .bool false] 40)
    simpa [cb] using this
  have HV := Aside0.mk h1
  have HR := Aside0.mk (hR.w.mono (L' := cb (w.heap.size + 1) 40 #[Value.string ⟨#[]⟩, .int .i64 0, .int .i64 0, Value.string ⟨#[]⟩, .bool false] :: cb w.heap.size 31 #[.slice a1 s.reads.length c1, .slice a2 s.nodes.length c2, .slice a3 s.writes.length c3] :: L) (fun p hp => by simp [hp]))
  have HL := Aside0.mk hl
  have HE := Aside0.mk (And.intro e hn)
  have HLN := Aside0.mk (show s.writes.length = l1.length + (l2.length + 1) by rw [e]; simp)
  clear hv h1 hR hl e hn
  go_enter Try.func11, Try.ntmps11
  go_wp2_with fail
  go_loopg [6] (l1.length + 1) (fun kq v6 wr => ∃ (k : Nat), v6 = .int .i64 (k : Int) ∧ kq = l1.length + 1 - k ∧ k ≤ l1.length ∧ Aside0 (Hv w0 wr (cb (w.heap.size + 1) 40 #[Value.string ⟨#[]⟩, .int .i64 0, .int .i64 0, Value.string ⟨#[]⟩, .bool false] :: cb w.heap.size 31 #[.slice a1 s.reads.length c1, .slice a2 s.nodes.length c2, .slice a3 s.writes.length c3] :: L)))
  case atStart => exact ⟨0, rfl, rfl, Nat.zero_le _, HV⟩
  case round =>
    obtain ⟨k, rfl, rfl, hk, HP⟩ := hrel
    clear HV
    have hk7 : k ≤ 100000 := by have := HL.out; have := HLN.out; omega
    have hlt9 : k < s.writes.length := by have := HLN.out; omega
    have hlt' : (k : Int) < (s.writes.length : Int) := by omega
    obtain ⟨adl, ea, hcl⟩ := HR.out.cells HP.out (by omega)
    cases ea
    obtain ⟨b0, b1, b2, -, -, -⟩ := HP.out.c3 w.heap.size 31 (.slice a1 s.reads.length c1) (.slice a2 s.nodes.length c2) (.slice (some adl) s.writes.length c3) (by simp)
    by_cases hltn : k < l1.length
    · obtain ⟨⟨k1, ⟨x0, x1⟩, x2, x3⟩, hd⟩ : ∃ d, s.writes[k]? = some d := ⟨_, List.getElem?_eq_getElem hlt9⟩
      have z0 := hcl (k * 5) _ (wcel_at s.writes k 0 _ (.string k1) hd rfl)
      have hne : (k1.toList == k0.toList) = false := by
        have h9 := hd
        rw [HE.out.1, List.getElem?_append_left hltn] at h9
        exact tl_ne (HE.out.2 _ (List.mem_of_getElem? h9))
      clear hcl hd
      go_wp2_with fail
      go_roundg (l1.length + 1 - (k + 1))
      case measure => omega
      case rel => exact ⟨k + 1, by go_num, rfl, hltn, HP⟩
    · have hkk : l1.length = k := by omega
      have hd : s.writes[k]? = some (k0, (a, b), d, t) := by
        rw [HE.out.1, ← hkk, List.getElem?_append_right (Nat.le_refl _), Nat.sub_self, List.getElem?_cons_zero]
      have z0 := hcl (k * 5) _ (wcel_at s.writes k 0 _ (.string k0) hd rfl)
      have z1 := hcl (k * 5 + 1) _ (wcel_at s.writes k 1 _ (.int .i64 a) hd rfl)
      have z2 := hcl (k * 5 + 2) _ (wcel_at s.writes k 2 _ (.int .i64 b) hd rfl)
      have z3 := hcl (k * 5 + 3) _ (wcel_at s.writes k 3 _ (.string d) hd rfl)
      have z4 := hcl (k * 5 + 4) _ (wcel_at s.writes k 4 _ (.bool t) hd rfl)
      rw [add_next _ _ _ (by omega)] at z1 z2 z3 z4
      have heq : (k0.toList == k0.toList) = true := beq_self_eq_true _
      obtain ⟨q0, q1, q2, q3, q4, f0, f1, f2, f3, f4⟩ := HP.out.c5 (w.heap.size + 1) 40 (.string ⟨#[]⟩) (.int .i64 0) (.int .i64 0) (.string ⟨#[]⟩) (.bool false) (by simp)
      clear hcl hd hkk
      go_wp2_with fail
      have K8 := (((((HP.out.put 0 rfl 0 (.string k0)).put 0 rfl 1 (.int .i64 a)).put 0 rfl 2 (.int .i64 b)).put 0 rfl 3 (.string d)).put 0 rfl 4 (.bool t))
      obtain ⟨wg, hw, hg⟩ : ∃ wg, wg = _ ∧ Hv w0 wg (cb (w.heap.size + 1) 40 #[.string k0, .int .i64 a, .int .i64 b, .string d, .bool t] :: cb w.heap.size 31 #[.slice a1 s.reads.length c1, .slice a2 s.nodes.length c2, .slice (some adl) s.writes.length c3] :: L) := ⟨_, rfl, by simpa using K8⟩
      rw [← hw]
      obtain ⟨p0, p1, p2, p3, p4, -, -, -, -, -⟩ := hg.c5 (w.heap.size + 1) 40 _ _ _ _ _ List.mem_cons_self
      exact bodyPost_ret (v := .tuple #[.agg #[.string k0, .int .i64 a, .int .i64 b, .string d, .bool t], .bool true]) (by simp [results, Try.results11, go_sem, p0, p1, p2, p3, p4, hu40]) rfl ⟨rfl, hg.tail.tail⟩
end Go.Proofs.Ytgecokldbkamlaa.St
