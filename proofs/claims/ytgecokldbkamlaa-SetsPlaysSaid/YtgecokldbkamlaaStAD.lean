/- transomref21: Same, at two values that stand for the same. No condition. -/
import Derived.Test.YtgecokldbkamlaaStAC
set_option linter.unusedVariables false
set_option linter.unusedSimpArgs false
namespace Go.Proofs.Ytgecokldbkamlaa.St
open Go Go.RowKit Go.MapKept Go.Proofs.YtgecokldbkamlaaW.PrintWords Go.Proofs.YtgecokldbkamlaaW.PrintLast Go.Proofs.YtgecokldbkamlaaW.PrintMore Go.Proofs.Ytgecokldbkamlaa.Hv Go.Proofs.Ytgecokldbkamlaa.Mk Go.Proofs.Ytgecokldbkamlaa.Ka
variable {w0 w w1 : World} {g : Nat} {s : St} {L L' : List Ob} {a1 a2 a3 b1 b2 b3 : Option Addr} {c1 c2 c3 d1 d2 d3 : Nat} {v : Value}
theorem eqA34 (d : Nat) (w : World) (a b : Int) : (Op.equalIn (d + 2) 34 (.agg #[.int .i64 a, .int .i64 b]) (.agg #[.int .i64 a, .int .i64 b])).run Try.prog w = .ok true w := by
  have h : (Op.equalIn (d + 2) 34 (.agg #[.int .i64 a, .int .i64 b]) (.agg #[.int .i64 a, .int .i64 b])).run Try.prog w = .ok (a == a && (b == b)) w := by
    refine eqA_of Try.underlying34 (by kernel_rfl) ?_
    refine eqf_cons (by rfl) (by go_simp; rfl) (by go_simp; rfl) (by go_simp) ?_
    exact eqf_last (by rfl) (by go_simp; rfl) (by go_simp; rfl) (by go_simp)
  simpa using h
theorem neq36 (a b c : Int) (w : World) : (binOp .neq 36 (.agg #[.int .i64 a, .int .i64 b, .int .i64 c]) (.agg #[.int .i64 a, .int .i64 b, .int .i64 c])).run Try.prog w = .ok (.bool false) w := by
  have hu34 := Try.underlying34
  have h : (Op.equalIn (9997 + 3) 36 (.agg #[.int .i64 a, .int .i64 b, .int .i64 c]) (.agg #[.int .i64 a, .int .i64 b, .int .i64 c])).run Try.prog w = .ok (true && (c == c)) w := by
    refine eqA_of Try.underlying36 (by kernel_rfl) ?_
    refine eqf_cons (by rfl) (by go_simp) (by go_simp) (eqA34 9997 w a b) ?_
    exact eqf_last (by rfl) (by go_simp; rfl) (by go_simp; rfl) (by go_simp)
  have h' : (Op.equalIn (9997 + 3) 36 (.agg #[.int .i64 a, .int .i64 b, .int .i64 c]) (.agg #[.int .i64 a, .int .i64 b, .int .i64 c])).run Try.prog w = .ok true w := by simpa using h
  simp only [binOp]
  simp [Op.equal, Op.maxDepth, h']
theorem neq38 (a b c : Int) (w : World) : (binOp .neq 38 (.agg #[.int .i64 a, .int .i64 b, .int .i64 c]) (.agg #[.int .i64 a, .int .i64 b, .int .i64 c])).run Try.prog w = .ok (.bool false) w := by
  have hu34 := Try.underlying34
  have h : (Op.equalIn (9997 + 3) 38 (.agg #[.int .i64 a, .int .i64 b, .int .i64 c]) (.agg #[.int .i64 a, .int .i64 b, .int .i64 c])).run Try.prog w = .ok (true && (c == c)) w := by
    refine eqA_of Try.underlying38 (by kernel_rfl) ?_
    refine eqf_cons (by rfl) (by go_simp) (by go_simp) (eqA34 9997 w a b) ?_
    exact eqf_last (by rfl) (by go_simp; rfl) (by go_simp; rfl) (by go_simp)
  have h' : (Op.equalIn (9997 + 3) 38 (.agg #[.int .i64 a, .int .i64 b, .int .i64 c]) (.agg #[.int .i64 a, .int .i64 b, .int .i64 c])).run Try.prog w = .ok true w := by simpa using h
  simp only [binOp]
  simp [Op.equal, Op.maxDepth, h']
theorem bb (x : ByteArray) : (x == x) = true := by
  cases x with | mk d =>
  show (d == d) = true
  simp
theorem neq40 (k d : ByteArray) (a b : Int) (t : Bool) (w : World) : (binOp .neq 40 (.agg #[.string k, .int .i64 a, .int .i64 b, .string d, .bool t]) (.agg #[.string k, .int .i64 a, .int .i64 b, .string d, .bool t])).run Try.prog w = .ok (.bool false) w := by
  have hu34 := Try.underlying34
  have h : (Op.equalIn (9997 + 3) 40 (.agg #[.string k, .int .i64 a, .int .i64 b, .string d, .bool t]) (.agg #[.string k, .int .i64 a, .int .i64 b, .string d, .bool t])).run Try.prog w = .ok (true && (true && (true && (t == t)))) w := by
    have hb := bb
    refine eqA_of Try.underlying40 (by kernel_rfl) ?_
    refine eqf_cons (by rfl) (by go_simp; rfl) (by go_simp; rfl) (by go_simp) ?_
    refine eqf_cons (by rfl) (by go_simp) (by go_simp) (eqA34 9997 w a b) ?_
    refine eqf_cons (by rfl) (by go_simp; rfl) (by go_simp; rfl) (by go_simp) ?_
    exact eqf_last (by rfl) (by go_simp; rfl) (by go_simp; rfl) (by go_simp)
  have hb : ∀ x : ByteArray, (x == x) = true := fun x => bb x
  have h' : (Op.equalIn (9997 + 3) 40 (.agg #[.string k, .int .i64 a, .int .i64 b, .string d, .bool t]) (.agg #[.string k, .int .i64 a, .int .i64 b, .string d, .bool t])).run Try.prog w = .ok true w := by simpa [hb] using h
  simp only [binOp]
  simp [Op.equal, Op.maxDepth, h']
set_option maxHeartbeats 8000000 in
set_option maxRecDepth 100000 in
theorem same.yes (hv : Hv w0 w L) (h1 : s.reads.length ≤ 100000) (h2 : s.nodes.length ≤ 100000) (h3 : s.writes.length ≤ 100000) (hR : RS L s a1 c1 a2 c2 a3 c3) (hS : RS L s b1 d1 b2 d2 b3 d3) :
    Calls Try.prog 12 #[.agg #[.slice a1 s.reads.length c1, .slice a2 s.nodes.length c2, .slice a3 s.writes.length c3], .agg #[.slice b1 s.reads.length d1, .slice b2 s.nodes.length d2, .slice b3 s.writes.length d3]] w fun e w' => e = .returned (.bool true) ∧ Hv w0 w' L := by
  have hu31 := Try.underlying31
  have hu36 := Try.underlying36
  have hu38 := Try.underlying38
  have hu40 := Try.underlying40
  have hk := (hv.alloc (.cells #[.slice a1 s.reads.length c1, .slice a2 s.nodes.length c2, .slice a3 s.writes.length c3] 31)).alloc (.cells #[.slice b1 s.reads.length d1, .slice b2 s.nodes.length d2, .slice b3 s.writes.length d3] 31)
  have HV := Aside0.mk (show Hv w0 _ (cb (w.heap.size + 1) 31 #[.slice b1 s.reads.length d1, .slice b2 s.nodes.length d2, .slice b3 s.writes.length d3] :: cb w.heap.size 31 #[.slice a1 s.reads.length c1, .slice a2 s.nodes.length c2, .slice a3 s.writes.length c3] :: L) by simpa [cb] using hk)
  have HR := Aside0.mk (hR.mono (L' := cb (w.heap.size + 1) 31 #[.slice b1 s.reads.length d1, .slice b2 s.nodes.length d2, .slice b3 s.writes.length d3] :: cb w.heap.size 31 #[.slice a1 s.reads.length c1, .slice a2 s.nodes.length c2, .slice a3 s.writes.length c3] :: L) (fun p hp => by simp [hp]))
  have HS := Aside0.mk (hS.mono (L' := cb (w.heap.size + 1) 31 #[.slice b1 s.reads.length d1, .slice b2 s.nodes.length d2, .slice b3 s.writes.length d3] :: cb w.heap.size 31 #[.slice a1 s.reads.length c1, .slice a2 s.nodes.length c2, .slice a3 s.writes.length c3] :: L) (fun p hp => by simp [hp]))
  have HL := Aside0.mk (And.intro h1 (And.intro h2 h3))
  clear hv hk hR hS h1 h2 h3
  obtain ⟨x0, x1, x2, -, -, -⟩ := HV.out.c3 w.heap.size 31 (.slice a1 s.reads.length c1) (.slice a2 s.nodes.length c2) (.slice a3 s.writes.length c3) (by simp)
  obtain ⟨y0, y1, y2, -, -, -⟩ := HV.out.c3 (w.heap.size + 1) 31 (.slice b1 s.reads.length d1) (.slice b2 s.nodes.length d2) (.slice b3 s.writes.length d3) List.mem_cons_self
  go_enter Try.func12, Try.ntmps12
  go_wp2_with fail
  clear x0 x1 x2 y0 y1 y2
  go_loopg [5] s.reads.length (fun kq v5 wr => ∃ (k : Nat), v5 = .int .i64 (k : Int) ∧ kq = s.reads.length - k ∧ k ≤ s.reads.length ∧ Aside0 (Hv w0 wr (cb (w.heap.size + 1) 31 #[.slice b1 s.reads.length d1, .slice b2 s.nodes.length d2, .slice b3 s.writes.length d3] :: cb w.heap.size 31 #[.slice a1 s.reads.length c1, .slice a2 s.nodes.length c2, .slice a3 s.writes.length c3] :: L)))
  case atStart => exact ⟨0, rfl, rfl, Nat.zero_le _, HV⟩
  case round =>
    obtain ⟨k, rfl, rfl, hk, HP5⟩ := hrel
    clear HV
    obtain ⟨x0, x1, x2, -, -, -⟩ := HP5.out.c3 w.heap.size 31 (.slice a1 s.reads.length c1) (.slice a2 s.nodes.length c2) (.slice a3 s.writes.length c3) (by simp)
    obtain ⟨y0, y1, y2, -, -, -⟩ := HP5.out.c3 (w.heap.size + 1) 31 (.slice b1 s.reads.length d1) (.slice b2 s.nodes.length d2) (.slice b3 s.writes.length d3) List.mem_cons_self
    have hk7 : k ≤ 100000 := by have := HL.out.1; omega
    by_cases hltn : k < s.reads.length
    · have hlt' : (k : Int) < (s.reads.length : Int) := by omega
      obtain ⟨ad1, ea, hcl⟩ := HR.out.r.cells HP5.out (by omega)
      obtain ⟨ad2, eb, hcm⟩ := HS.out.r.cells HP5.out (by omega)
      cases ea
      cases eb
      obtain ⟨⟨⟨q0, q1⟩, q2⟩, hd⟩ : ∃ d, s.reads[k]? = some d := ⟨_, List.getElem?_eq_getElem hltn⟩
      have z0 := hcl (k * 3) _ (cel3_at s.reads k 0 _ (.int .i64 q0) hd rfl)
      have m0 := hcm (k * 3) _ (cel3_at s.reads k 0 _ (.int .i64 q0) hd rfl)
      have z1 := hcl (k * 3 + 1) _ (cel3_at s.reads k 1 _ (.int .i64 q1) hd rfl)
      have m1 := hcm (k * 3 + 1) _ (cel3_at s.reads k 1 _ (.int .i64 q1) hd rfl)
      have z2 := hcl (k * 3 + 2) _ (cel3_at s.reads k 2 _ (.int .i64 q2) hd rfl)
      have m2 := hcm (k * 3 + 2) _ (cel3_at s.reads k 2 _ (.int .i64 q2) hd rfl)
      rw [add_next _ _ _ (by omega)] at z1 z2 m1 m2
      have hne := neq36 q0 q1 q2
      clear hcl hcm hd
      go_wp2_with fail
      go_region
      go_wp2_with fail
      go_roundg (s.reads.length - (k + 1))
      case measure => omega
      case rel => exact ⟨k + 1, by go_num, rfl, hltn, ⟨HP5.out.call (by repeat (first | exact Below.refl _ _ | apply below_drew1 | apply pw_below_drewN))⟩⟩
    · have hge : ¬ (k : Int) < (s.reads.length : Int) := by omega
      clear hltn hk
      go_wp2_with fail
      go_loopg [6] s.nodes.length (fun kq v6 wr => ∃ (k : Nat), v6 = .int .i64 (k : Int) ∧ kq = s.nodes.length - k ∧ k ≤ s.nodes.length ∧ Aside0 (Hv w0 wr (cb (w.heap.size + 1) 31 #[.slice b1 s.reads.length d1, .slice b2 s.nodes.length d2, .slice b3 s.writes.length d3] :: cb w.heap.size 31 #[.slice a1 s.reads.length c1, .slice a2 s.nodes.length c2, .slice a3 s.writes.length c3] :: L)))
      case atStart => exact ⟨0, rfl, rfl, Nat.zero_le _, HP5⟩
      case round =>
        obtain ⟨k, rfl, rfl, hk, HP6⟩ := hrel
        clear x0 x1 x2 y0 y1 y2
        obtain ⟨x0, x1, x2, -, -, -⟩ := HP6.out.c3 w.heap.size 31 (.slice a1 s.reads.length c1) (.slice a2 s.nodes.length c2) (.slice a3 s.writes.length c3) (by simp)
        obtain ⟨y0, y1, y2, -, -, -⟩ := HP6.out.c3 (w.heap.size + 1) 31 (.slice b1 s.reads.length d1) (.slice b2 s.nodes.length d2) (.slice b3 s.writes.length d3) List.mem_cons_self
        have hk7 : k ≤ 100000 := by have := HL.out.2.1; omega
        by_cases hltn : k < s.nodes.length
        · have hlt' : (k : Int) < (s.nodes.length : Int) := by omega
          obtain ⟨ad1, ea, hcl⟩ := HR.out.n.cells HP6.out (by omega)
          obtain ⟨ad2, eb, hcm⟩ := HS.out.n.cells HP6.out (by omega)
          cases ea
          cases eb
          obtain ⟨⟨⟨q0, q1⟩, q2⟩, hd⟩ : ∃ d, s.nodes[k]? = some d := ⟨_, List.getElem?_eq_getElem hltn⟩
          have z0 := hcl (k * 3) _ (cel3_at s.nodes k 0 _ (.int .i64 q0) hd rfl)
          have m0 := hcm (k * 3) _ (cel3_at s.nodes k 0 _ (.int .i64 q0) hd rfl)
          have z1 := hcl (k * 3 + 1) _ (cel3_at s.nodes k 1 _ (.int .i64 q1) hd rfl)
          have m1 := hcm (k * 3 + 1) _ (cel3_at s.nodes k 1 _ (.int .i64 q1) hd rfl)
          have z2 := hcl (k * 3 + 2) _ (cel3_at s.nodes k 2 _ (.int .i64 q2) hd rfl)
          have m2 := hcm (k * 3 + 2) _ (cel3_at s.nodes k 2 _ (.int .i64 q2) hd rfl)
          rw [add_next _ _ _ (by omega)] at z1 z2 m1 m2
          have hne := neq38 q0 q1 q2
          clear hcl hcm hd
          go_wp2_with fail
          go_region
          go_wp2_with fail
          go_roundg (s.nodes.length - (k + 1))
          case measure => omega
          case rel => exact ⟨k + 1, by go_num, rfl, hltn, ⟨HP6.out.call (by repeat (first | exact Below.refl _ _ | apply below_drew1 | apply pw_below_drewN))⟩⟩
        · have hge : ¬ (k : Int) < (s.nodes.length : Int) := by omega
          clear hltn hk
          go_wp2_with fail
          go_loopg [7] s.writes.length (fun kq v7 wr => ∃ (k : Nat), v7 = .int .i64 (k : Int) ∧ kq = s.writes.length - k ∧ k ≤ s.writes.length ∧ Aside0 (Hv w0 wr (cb (w.heap.size + 1) 31 #[.slice b1 s.reads.length d1, .slice b2 s.nodes.length d2, .slice b3 s.writes.length d3] :: cb w.heap.size 31 #[.slice a1 s.reads.length c1, .slice a2 s.nodes.length c2, .slice a3 s.writes.length c3] :: L)))
          case atStart => exact ⟨0, rfl, rfl, Nat.zero_le _, HP6⟩
          case round =>
            obtain ⟨k, rfl, rfl, hk, HP7⟩ := hrel
            clear x0 x1 x2 y0 y1 y2
            obtain ⟨x0, x1, x2, -, -, -⟩ := HP7.out.c3 w.heap.size 31 (.slice a1 s.reads.length c1) (.slice a2 s.nodes.length c2) (.slice a3 s.writes.length c3) (by simp)
            obtain ⟨y0, y1, y2, -, -, -⟩ := HP7.out.c3 (w.heap.size + 1) 31 (.slice b1 s.reads.length d1) (.slice b2 s.nodes.length d2) (.slice b3 s.writes.length d3) List.mem_cons_self
            have hk7 : k ≤ 100000 := by have := HL.out.2.2; omega
            by_cases hltn : k < s.writes.length
            · have hlt' : (k : Int) < (s.writes.length : Int) := by omega
              obtain ⟨ad1, ea, hcl⟩ := HR.out.w.cells HP7.out (by omega)
              obtain ⟨ad2, eb, hcm⟩ := HS.out.w.cells HP7.out (by omega)
              cases ea
              cases eb
              obtain ⟨⟨q0, ⟨q1, q2⟩, q3, q4⟩, hd⟩ : ∃ d, s.writes[k]? = some d := ⟨_, List.getElem?_eq_getElem hltn⟩
              have z0 := hcl (k * 5) _ (wcel_at s.writes k 0 _ (.string q0) hd rfl)
              have m0 := hcm (k * 5) _ (wcel_at s.writes k 0 _ (.string q0) hd rfl)
              have z1 := hcl (k * 5 + 1) _ (wcel_at s.writes k 1 _ (.int .i64 q1) hd rfl)
              have m1 := hcm (k * 5 + 1) _ (wcel_at s.writes k 1 _ (.int .i64 q1) hd rfl)
              have z2 := hcl (k * 5 + 2) _ (wcel_at s.writes k 2 _ (.int .i64 q2) hd rfl)
              have m2 := hcm (k * 5 + 2) _ (wcel_at s.writes k 2 _ (.int .i64 q2) hd rfl)
              have z3 := hcl (k * 5 + 3) _ (wcel_at s.writes k 3 _ (.string q3) hd rfl)
              have m3 := hcm (k * 5 + 3) _ (wcel_at s.writes k 3 _ (.string q3) hd rfl)
              have z4 := hcl (k * 5 + 4) _ (wcel_at s.writes k 4 _ (.bool q4) hd rfl)
              have m4 := hcm (k * 5 + 4) _ (wcel_at s.writes k 4 _ (.bool q4) hd rfl)
              rw [add_next _ _ _ (by omega)] at z1 z2 z3 z4 m1 m2 m3 m4
              have hne := neq40 q0 q3 q1 q2 q4
              clear hcl hcm hd
              go_wp2_with fail
              go_region
              go_wp2_with fail
              go_roundg (s.writes.length - (k + 1))
              case measure => omega
              case rel => exact ⟨k + 1, by go_num, rfl, hltn, ⟨HP7.out.call (by repeat (first | exact Below.refl _ _ | apply below_drew1 | apply pw_below_drewN))⟩⟩
            · have hge : ¬ (k : Int) < (s.writes.length : Int) := by omega
              clear hltn hk
              go_wp2_with fail
              exact bodyPost_ret (v := .bool true) (by simp [results, Try.results12, go_sem]) rfl ⟨rfl, HP7.out.tail.tail⟩
end Go.Proofs.Ytgecokldbkamlaa.St
