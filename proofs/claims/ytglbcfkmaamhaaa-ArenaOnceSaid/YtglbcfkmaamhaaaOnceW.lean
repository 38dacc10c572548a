/- ArenaOnce: the walk. No condition. -/
import Derived.Test.YtglbcfkmaamhaaaArAw
import Derived.Test.YtglbcfkmaamhaaaOncePure
import Derived.Test.YtglbcfkmaamhaaaWEqStruct
set_option linter.unusedVariables false
set_option linter.unusedSimpArgs false
namespace Go.Proofs.Ytglbcfkmaamhaaa.ArI
open Go Go.RowKit Go.Proofs.YtglbcfkmaamhaaaW.PrintWords Go.Proofs.YtglbcfkmaamhaaaW.PrintLast Go.Proofs.YtglbcfkmaamhaaaW.PrintMore Go.Proofs.Ytglbcfkmaamhaaa.Hv Go.Proofs.Ytglbcfkmaamhaaa.Arm

theorem eqA33 (d : Nat) (w : World) (x0 y0 : Int) (x1 y1 : Int) :
    (Op.equalIn (d + 2) 33 (.agg #[.int .i64 x0, .int .i64 x1]) (.agg #[.int .i64 y0, .int .i64 y1])).run Try.prog w = .ok (x0 == y0 && (x1 == y1)) w := by
  refine eqA_of Try.underlying33 (by kernel_rfl) ?_
  refine eqf_cons (by rfl) (by go_simp; rfl) (by go_simp; rfl) (by go_simp) ?_
  exact eqf_last (by rfl) (by go_simp; rfl) (by go_simp; rfl) (by go_simp)
theorem eql33 (x0 y0 x1 y1 : Int) (w : World) : (binOp .eql 33 (.agg #[.int .i64 x0, .int .i64 x1]) (.agg #[.int .i64 y0, .int .i64 y1])).run Try.prog w = .ok (.bool (x0 == y0 && (x1 == y1))) w := by
  simp only [binOp]
  simp [Op.equal, Op.maxDepth, eqA33 9998 w x0 y0 x1 y1]
set_option maxHeartbeats 16000000 in
set_option maxRecDepth 100000 in
theorem once.calls {A0 : Option Addr} {c0 : Nat} {l : List Bool} (m0 : Int) (W : World) (hl : l.length ≤ c0) (hC : Kd.C Kd.bool W A0 l.length l) :
    Calls Try.prog 4 #[.int .i64 m0, .slice A0 l.length c0] W fun e w' => e = .returned (.bool true) ∧ Below W.heap.size W w' := by
  have hu33 := Try.underlying33
  have hu24 := Try.underlying24
  have hu31 := Try.underlying31
  have hu27 := Try.underlying27
  have hnot : ∀ (x : Bool) (w : World), (Op.unary .not (.bool x)).run Try.prog w = .ok (.bool (!x)) w := fun _ _ => rfl
  have HC := Aside0.mk hC
  clear hC
  by_cases q1 : (l.length : Int) > 100
  · have d1 : decide ((100 : Int) < l.length) = true := decide_eq_true q1
    have d1' : decide (100 < l.length) = true := decide_eq_true (by omega)
    clear q1
    go_enter Try.func4, Try.ntmps4
    go_wp2_with fail
    refine (awake.calls _).mono ?_
    rintro e w1 ⟨rfl, hb⟩
    have HB := Aside0.mk hb
    clear hb
    go_wp2_with fail
    exact bodyPost_ret (v := .bool true) (by simp [results, Try.results4, go_sem]) rfl ⟨rfl, HB.out⟩
  · have d1 : decide ((100 : Int) < l.length) = false := decide_eq_false q1
    have d1' : decide (100 < l.length) = false := decide_eq_false (by omega)
    by_cases q2 : m0 > 5000
    · have d2 : decide (5000 < m0) = true := decide_eq_true q2
      clear q1 q2
      go_enter Try.func4, Try.ntmps4
      go_wp2_with fail
      refine (awake.calls _).mono ?_
      rintro e w1 ⟨rfl, hb⟩
      have HB := Aside0.mk hb
      clear hb
      go_wp2_with fail
      exact bodyPost_ret (v := .bool true) (by simp [results, Try.results4, go_sem]) rfl ⟨rfl, HB.out⟩
    · have d2 : decide (5000 < m0) = false := decide_eq_false q2
      have HL := Aside0.mk (show l.length ≤ 100 by omega)
      clear q1 q2
      go_enter Try.func4, Try.ntmps4
      go_wp2_with fail
      refine (New (Hv.start W) m0).mono ?_
      rintro e w1 ⟨g, sb, rfl, h1⟩
      have H1 := Aside0.mk h1
      clear h1
      go_wp2_with fail
      go_loopg [6, 7, 8] l.length (fun kq v6 v7 v8 wr => ∃ (k : Nat) (s : Ar) (all live : List (Int × Int)) (A B : List Ob), v8 = .int .i64 (k : Int) ∧ kq = l.length - k ∧ k ≤ l.length ∧ Gr 33 2 v6 all.length (refs all) A ∧ Gq 33 2 v7 live.length (refs live) B ∧ Aside0 (OI s all live k) ∧ Aside0 (Arn W wr g sb s (A ++ B)))
      case atStart => exact ⟨0, _, [], [], [], [], rfl, rfl, Nat.zero_le _, Gr.nil _ _, Gq.nil _ _, ⟨oi_start _ _⟩, H1⟩
      case round =>
        obtain ⟨k, s, all, live, A, B, rfl, rfl, hk, HGr, HGq, HO, HA⟩ := hrel
        obtain ⟨ad6, c6, rfl, hn6⟩ := HGr.form
        obtain ⟨ad7, c7, rfl, hn7⟩ := HGq.form
        have HG6 := Aside0.mk HGr
        have HG7 := Aside0.mk HGq
        have H6 := Aside0.mk hn6
        have H7 := Aside0.mk hn7
        have hk100 : k ≤ 100 := by have := HL.out; omega
        have hlive := HO.out.l5
        have hall := HO.out.l4
        clear H1 HGr HGq hn6 hn7
        by_cases hlt : k < l.length
        · obtain ⟨adl, ea, hcl⟩ := Kd.at_bool (Kd.C_below HC.out HA.out.bel) (k : Int) (by omega) (by omega)
          cases ea
          generalize rdOf false l (k : Int) = b at hcl
          simp only [Int.toNat_natCast] at hcl
          cases b with
          | false =>
            cases hlv : live with
            | nil =>
              subst hlv
              have hlt' : (k : Int) < (l.length : Int) := by omega
              by_cases h0 : s.room = 0
              · have OF := Aside0.mk (oi_more HO.out)
                have H0 := Aside0.mk h0
                clear h0
                go_wp2_with fail
                refine (HA.out.Take (k : Int) (a := 0) (b := 0) (er := 20) (s' := s) (by simp [tk, H0.out]) (by simp [Ar.took, H0.out])).mono ?_
                rintro e2 w2 ⟨rfl, h2⟩
                have K2 := Aside0.mk (h2.alloc (.cells #[.int .i64 0, .int .i64 0] 33))
                clear h2
                go_wp2_with fail
                go_roundg (l.length - (k + 1))
                case measure => omega
                case rel => exact ⟨k + 1, s, all, ([] : List (Int × Int)), A, B, by go_num, rfl, hlt, HG6.out, HG7.out, OF, ⟨K2.out.tail⟩⟩
              · have OF := Aside0.mk (oi_take HA.out.ok h0 HO.out (by omega) [.int .i64 (k : Int)])
                have FR := Aside0.mk (oi_fresh HO.out (by omega))
                have H0 := Aside0.mk h0
                clear h0
                go_wp2_with fail
                refine (HA.out.Take (k : Int) (a := s.next) (b := s.gen) (er := 0) (s' := s.take [.int .i64 (k : Int)]) (by simp [tk, H0.out]) (by simp [Ar.took, H0.out])).mono ?_
                rintro e2 w2 ⟨rfl, h2⟩
                have K2 := Aside0.mk (h2.alloc (.cells #[.int .i64 s.next, .int .i64 s.gen] 33))
                clear h2
                go_wp2_with fail
                generalize s.next = r0 at K2 OF FR ⊢
                generalize s.gen = r1 at K2 OF FR ⊢
                generalize s.take [.int .i64 (k : Int)] = s2 at K2 OF ⊢
                generalize w2.heap.size = gb at K2 ⊢
                go_loopg [12] all.length (fun kq v12 w' => ∃ j : Nat, v12 = .int .i64 (j : Int) ∧ kq = all.length - j ∧ j ≤ all.length ∧ Aside0 (Arn W w' g sb s2 ((gb, .cells #[.int .i64 r0, .int .i64 r1] 33) :: (A ++ B))))
                case atStart => exact ⟨0, rfl, rfl, Nat.zero_le _, K2⟩
                case round =>
                  obtain ⟨j, rfl, rfl, hj, HJ⟩ := hrel
                  have x0 := HJ.out.other.cell (g := gb) (t := 33) (cs := #[.int .i64 r0, .int .i64 r1]) List.mem_cons_self 0 rfl
                  have x1 := HJ.out.other.cell (g := gb) (t := 33) (cs := #[.int .i64 r0, .int .i64 r1]) List.mem_cons_self 1 rfl
                  clear K2
                  by_cases hjl : j < all.length
                  · obtain ⟨ga, cur, rfl, rfl, _, _, _, hcur⟩ := HG6.out.addr (by omega)
                    have hm : cb ga 33 cur ∈ (gb, .cells #[.int .i64 r0, .int .i64 r1] 33) :: ([cb ga 33 cur] ++ B) := by simp
                    obtain ⟨q, hq⟩ : ∃ q, all[j]? = some q := ⟨_, List.getElem?_eq_getElem hjl⟩
                    have hqm : q ∈ all := List.mem_of_getElem? hq
                    have hrq := refs_get all j q hq
                    have z0 := HJ.out.other.cell hm (j * 2) ((hcur (j * 2) (by omega)).trans hrq.1)
                    have z1 := HJ.out.other.cell hm (j * 2 + 1) ((hcur (j * 2 + 1) (by omega)).trans hrq.2)
                    have hne : ((q.1 == r0) && (q.2 == r1)) = false := by
                      cases e1 : (q.1 == r0) && (q.2 == r1) with
                      | false => rfl
                      | true =>
                        simp only [Bool.and_eq_true, beq_iff_eq] at e1
                        exact absurd hqm (by rw [show q = (r0, r1) from Prod.ext e1.1 e1.2]; exact FR.out)
                    have heq := eql33 q.1 r0 q.2 r1
                    rw [hne] at heq
                    have hjl' : (j : Int) < (all.length : Int) := by omega
                    clear hm hcur hq hqm hrq hne
                    go_wp2_with fail
                    go_quiet (fail)
                    go_wp2_with fail
                    go_roundg (all.length - (j + 1))
                    case measure => omega
                    case rel => exact ⟨j + 1, by go_num, rfl, hjl, ⟨HJ.out.drewN _⟩⟩
                  · have hge : ¬ (j : Int) < (all.length : Int) := by omega
                    obtain ⟨R, HR, back⟩ := HJ.out.lens (X := [(gb, .cells #[.int .i64 r0, .int .i64 r1] 33)]) (A := A) (Y := B)
                    have HR1 := Aside0.mk HR
                    have HBK := Aside0.mk back
                    have hall16 : (all.length + 1) * 16 ≤ 140737488355328 := by omega
                    have hliv16 : (([] : List (Int × Int)).length + 1) * 16 ≤ 140737488355328 := by omega
                    have A16 := Aside0.mk hall16
                    have L16 := Aside0.mk hliv16
                    clear HR back hall16 hliv16
                    go_upto_region 23 with (at_builtin; refine append_list (w0 := W) (A := A) (L := R) rfl (.tmp 83) (.tmp 85) 31 33 (.agg #[.int .i64 0, .int .i64 0]) 2 16 rfl Try.underlying31 info33 rfl (by decide) (by decide) _ _ _ rfl ⟨wr.heap.size, 0, none⟩ 1 1 [.int .i64 r0, .int .i64 r1] (by simp [Act.eval, Act.put]) rfl (news_new _ _ 33 _ (by simp)) (by intro u hu; simp at hu; rcases hu with rfl | rfl <;> rfl) HG6.out (HR1.out.skip _) A16.out ?_; intro v6 w3 A1 hG1 hH1; have KG6 := Aside0.mk hG1; have KA := Aside0.mk (HBK.out _ _ hH1); clear hG1 hH1)
                    obtain ⟨ad6, c6, rfl, hn6⟩ := KG6.out.form
                    have y0 := KA.out.other.cell (g := gb) (t := 33) (cs := #[.int .i64 r0, .int .i64 r1]) (by simp) 0 rfl
                    have y1 := KA.out.other.cell (g := gb) (t := 33) (cs := #[.int .i64 r0, .int .i64 r1]) (by simp) 1 rfl
                    obtain ⟨R2, HR2, back2⟩ := Arn.lens (X := [(gb, .cells #[.int .i64 r0, .int .i64 r1] 33)] ++ A1) (A := B) (Y := []) (show Arn W w3 g sb s2 _ by simpa using KA.out)
                    have HR3 := Aside0.mk HR2
                    have HBK2 := Aside0.mk back2
                    clear HR2 back2 hn6 x0 x1
                    go_wp2_with (at_builtin; refine append_queue (w0 := W) (A := B) (L := R2) rfl (.tmp 87) (.tmp 89) 31 33 (.agg #[.int .i64 0, .int .i64 0]) 2 16 rfl Try.underlying31 info33 rfl (by decide) (by decide) _ _ _ rfl ⟨w3.heap.size, 0, none⟩ 1 1 [.int .i64 r0, .int .i64 r1] (by simp [Act.eval, Act.put]) (by decide) rfl (news_new _ _ 33 _ (by simp)) (by intro u hu; simp at hu; rcases hu with rfl | rfl <;> rfl) HG7.out (HR3.out.skip _) L16.out ?_; intro v7 w4 B1 hG1 hH1; have KG7 := Aside0.mk hG1; have KB := Aside0.mk (HBK2.out _ _ hH1); clear hG1 hH1)
                    go_roundg (l.length - (k + 1))
                    case measure => omega
                    case rel =>
                      refine ⟨k + 1, s2, all ++ [(r0, r1)], ([] : List (Int × Int)) ++ [(r0, r1)], A1, B1, by go_num, rfl, hlt, ?_, ?_, OF, ⟨?_⟩⟩
                      · have := KG6.out
                        simpa [refs] using this
                      · have := KG7.out
                        simpa [refs] using this
                      · have := KB.out
                        simp only [List.append_nil, List.append_assoc, List.cons_append, List.nil_append] at this
                        exact this.tail
            | cons p rest => 
              subst hlv
              obtain ⟨gq, off, cur, rfl, rfl, hnc, hcur⟩ := HG7.out.addr (by simp)
              have hm : cb gq 33 cur ∈ A ++ [cb gq 33 cur] := by simp
              have z0 := HA.out.other.cell hm (off * 2) ((hcur 0 (by simp)).trans (by simp [refs] : _ = some (Value.int .i64 p.1)))
              have z1 := HA.out.other.cell hm (off * 2 + 1) ((hcur 1 (by simp; omega)).trans (by simp [refs] : _ = some (Value.int .i64 p.2)))
              have zn := HA.out.other.ne hm
              have hG := HG7.out.drop 1 (by simp)
              have hsl : ∀ W : World, (Instr.slice 31 (.slice (some ⟨gq, off * 2, none⟩) (rest.length + 1) c7) (some (.int .i64 1)) none none).run Try.prog W = .ok (.slice (if c7 = 1 then some ⟨gq, off * 2, none⟩ else (some ⟨gq, off * 2, none⟩ : Option Addr).map (·.add (1 * 2))) rest.length (c7 - 1)) W := by
                obtain ⟨i33, hi33, hz33⟩ := Option.map_eq_some_iff.1 info33
                simp only [Prod.mk.injEq] at hz33
                exact cut_from 31 33 .i64 hu31 hi33 2 hz33.2.1 _ (rest.length + 1) c7 1 (by omega) (by omega)
              generalize (if c7 = 1 then some ⟨gq, off * 2, none⟩ else (some ⟨gq, off * 2, none⟩ : Option Addr).map (·.add (1 * 2))) = ad' at hsl hG
              have HG := Aside0.mk hG
              clear hm hcur hG hnc
              simp only [List.length_cons] at hlive ⊢
              have hp := HO.out.l1 p (by simp)
              have hp2 := has_drop hp [.int .i64 0]
              have OF := Aside0.mk (oi_free HA.out.ok HO.out [.int .i64 0])
              have HP1 := Aside0.mk hp
              have HP2 := Aside0.mk hp2
              clear hp hp2
              go_wp2_with fail
              refine ((HA.out.alloc (.cells #[.int .i64 p.1, .int .i64 p.2] 33)).Free p.1 p.2 (b := true) (s' := s.drop p.1 [.int .i64 0]) HP1.out (by simp [Ar.free, HP1.out])).mono ?_
              rintro e2 w2 ⟨rfl, h2⟩
              have K2 := Aside0.mk h2
              have x0 := h2.other.cell (g := wr.heap.size) (t := 33) (cs := #[.int .i64 p.1, .int .i64 p.2]) List.mem_cons_self 0 rfl
              have x1 := h2.other.cell (g := wr.heap.size) (t := 33) (cs := #[.int .i64 p.1, .int .i64 p.2]) List.mem_cons_self 1 rfl
              clear h2 z0 z1 zn
              go_wp2_with fail
              refine (K2.out.Free p.1 p.2 (b := false) (s' := s.drop p.1 [.int .i64 0]) HP2.out (by simp [Ar.free, HP2.out])).mono ?_
              rintro e3 w3 ⟨rfl, h3⟩
              have K3 := Aside0.mk h3
              clear x0 x1
              have x0 := h3.other.cell (g := wr.heap.size) (t := 33) (cs := #[.int .i64 p.1, .int .i64 p.2]) List.mem_cons_self 0 rfl
              have x1 := h3.other.cell (g := wr.heap.size) (t := 33) (cs := #[.int .i64 p.1, .int .i64 p.2]) List.mem_cons_self 1 rfl
              clear h3
              go_wp2_with fail
              refine (K3.out.Set p.1 p.2 1 (b := false) (s' := s.drop p.1 [.int .i64 0]) HP2.out (by simp [Ar.set, HP2.out])).mono ?_
              rintro e4 w4 ⟨rfl, h4⟩
              have K4 := Aside0.mk h4
              clear h4 x0 x1
              have hi64 : (k : Int) ≤ 1000 := by omega
              go_wp2_with fail
              go_roundg (l.length - (k + 1))
              case measure => omega
              case rel =>
                exact ⟨k + 1, s.drop p.1 [.int .i64 0], all, rest, A, _, by go_num, rfl, hlt, HG6.out, by simpa [refs] using HG.out, OF, ⟨K4.out.tail⟩⟩
          | true =>
            have hlt' : (k : Int) < (l.length : Int) := by omega
            by_cases h0 : s.room = 0
            · have OF := Aside0.mk (oi_more HO.out)
              have H0 := Aside0.mk h0
              clear h0
              go_wp2_with fail
              refine (HA.out.Take (k : Int) (a := 0) (b := 0) (er := 20) (s' := s) (by simp [tk, H0.out]) (by simp [Ar.took, H0.out])).mono ?_
              rintro e2 w2 ⟨rfl, h2⟩
              have K2 := Aside0.mk (h2.alloc (.cells #[.int .i64 0, .int .i64 0] 33))
              clear h2
              go_wp2_with fail
              go_roundg (l.length - (k + 1))
              case measure => omega
              case rel => exact ⟨k + 1, s, all, live, A, B, by go_num, rfl, hlt, HG6.out, HG7.out, OF, ⟨K2.out.tail⟩⟩
            · have OF := Aside0.mk (oi_take HA.out.ok h0 HO.out (by omega) [.int .i64 (k : Int)])
              have FR := Aside0.mk (oi_fresh HO.out (by omega))
              have H0 := Aside0.mk h0
              clear h0
              go_wp2_with fail
              refine (HA.out.Take (k : Int) (a := s.next) (b := s.gen) (er := 0) (s' := s.take [.int .i64 (k : Int)]) (by simp [tk, H0.out]) (by simp [Ar.took, H0.out])).mono ?_
              rintro e2 w2 ⟨rfl, h2⟩
              have K2 := Aside0.mk (h2.alloc (.cells #[.int .i64 s.next, .int .i64 s.gen] 33))
              clear h2
              go_wp2_with fail
              generalize s.next = r0 at K2 OF FR ⊢
              generalize s.gen = r1 at K2 OF FR ⊢
              generalize s.take [.int .i64 (k : Int)] = s2 at K2 OF ⊢
              generalize w2.heap.size = gb at K2 ⊢
              go_loopg [12] all.length (fun kq v12 w' => ∃ j : Nat, v12 = .int .i64 (j : Int) ∧ kq = all.length - j ∧ j ≤ all.length ∧ Aside0 (Arn W w' g sb s2 ((gb, .cells #[.int .i64 r0, .int .i64 r1] 33) :: (A ++ B))))
              case atStart => exact ⟨0, rfl, rfl, Nat.zero_le _, K2⟩
              case round =>
                obtain ⟨j, rfl, rfl, hj, HJ⟩ := hrel
                have x0 := HJ.out.other.cell (g := gb) (t := 33) (cs := #[.int .i64 r0, .int .i64 r1]) List.mem_cons_self 0 rfl
                have x1 := HJ.out.other.cell (g := gb) (t := 33) (cs := #[.int .i64 r0, .int .i64 r1]) List.mem_cons_self 1 rfl
                clear K2
                by_cases hjl : j < all.length
                · obtain ⟨ga, cur, rfl, rfl, _, _, _, hcur⟩ := HG6.out.addr (by omega)
                  have hm : cb ga 33 cur ∈ (gb, .cells #[.int .i64 r0, .int .i64 r1] 33) :: ([cb ga 33 cur] ++ B) := by simp
                  obtain ⟨q, hq⟩ : ∃ q, all[j]? = some q := ⟨_, List.getElem?_eq_getElem hjl⟩
                  have hqm : q ∈ all := List.mem_of_getElem? hq
                  have hrq := refs_get all j q hq
                  have z0 := HJ.out.other.cell hm (j * 2) ((hcur (j * 2) (by omega)).trans hrq.1)
                  have z1 := HJ.out.other.cell hm (j * 2 + 1) ((hcur (j * 2 + 1) (by omega)).trans hrq.2)
                  have hne : ((q.1 == r0) && (q.2 == r1)) = false := by
                    cases e1 : (q.1 == r0) && (q.2 == r1) with
                    | false => rfl
                    | true =>
                      simp only [Bool.and_eq_true, beq_iff_eq] at e1
                      exact absurd hqm (by rw [show q = (r0, r1) from Prod.ext e1.1 e1.2]; exact FR.out)
                  have heq := eql33 q.1 r0 q.2 r1
                  rw [hne] at heq
                  have hjl' : (j : Int) < (all.length : Int) := by omega
                  clear hm hcur hq hqm hrq hne
                  go_wp2_with fail
                  go_quiet (fail)
                  go_wp2_with fail
                  go_roundg (all.length - (j + 1))
                  case measure => omega
                  case rel => exact ⟨j + 1, by go_num, rfl, hjl, ⟨HJ.out.drewN _⟩⟩
                · have hge : ¬ (j : Int) < (all.length : Int) := by omega
                  obtain ⟨R, HR, back⟩ := HJ.out.lens (X := [(gb, .cells #[.int .i64 r0, .int .i64 r1] 33)]) (A := A) (Y := B)
                  have HR1 := Aside0.mk HR
                  have HBK := Aside0.mk back
                  have hall16 : (all.length + 1) * 16 ≤ 140737488355328 := by omega
                  have hliv16 : (live.length + 1) * 16 ≤ 140737488355328 := by omega
                  have A16 := Aside0.mk hall16
                  have L16 := Aside0.mk hliv16
                  clear HR back hall16 hliv16
                  go_upto_region 23 with (at_builtin; refine append_list (w0 := W) (A := A) (L := R) rfl (.tmp 83) (.tmp 85) 31 33 (.agg #[.int .i64 0, .int .i64 0]) 2 16 rfl Try.underlying31 info33 rfl (by decide) (by decide) _ _ _ rfl ⟨wr.heap.size, 0, none⟩ 1 1 [.int .i64 r0, .int .i64 r1] (by simp [Act.eval, Act.put]) rfl (news_new _ _ 33 _ (by simp)) (by intro u hu; simp at hu; rcases hu with rfl | rfl <;> rfl) HG6.out (HR1.out.skip _) A16.out ?_; intro v6 w3 A1 hG1 hH1; have KG6 := Aside0.mk hG1; have KA := Aside0.mk (HBK.out _ _ hH1); clear hG1 hH1)
                  obtain ⟨ad6, c6, rfl, hn6⟩ := KG6.out.form
                  have y0 := KA.out.other.cell (g := gb) (t := 33) (cs := #[.int .i64 r0, .int .i64 r1]) (by simp) 0 rfl
                  have y1 := KA.out.other.cell (g := gb) (t := 33) (cs := #[.int .i64 r0, .int .i64 r1]) (by simp) 1 rfl
                  obtain ⟨R2, HR2, back2⟩ := Arn.lens (X := [(gb, .cells #[.int .i64 r0, .int .i64 r1] 33)] ++ A1) (A := B) (Y := []) (show Arn W w3 g sb s2 _ by simpa using KA.out)
                  have HR3 := Aside0.mk HR2
                  have HBK2 := Aside0.mk back2
                  clear HR2 back2 hn6 x0 x1
                  go_wp2_with (at_builtin; refine append_queue (w0 := W) (A := B) (L := R2) rfl (.tmp 87) (.tmp 89) 31 33 (.agg #[.int .i64 0, .int .i64 0]) 2 16 rfl Try.underlying31 info33 rfl (by decide) (by decide) _ _ _ rfl ⟨w3.heap.size, 0, none⟩ 1 1 [.int .i64 r0, .int .i64 r1] (by simp [Act.eval, Act.put]) (by decide) rfl (news_new _ _ 33 _ (by simp)) (by intro u hu; simp at hu; rcases hu with rfl | rfl <;> rfl) HG7.out (HR3.out.skip _) L16.out ?_; intro v7 w4 B1 hG1 hH1; have KG7 := Aside0.mk hG1; have KB := Aside0.mk (HBK2.out _ _ hH1); clear hG1 hH1)
                  go_roundg (l.length - (k + 1))
                  case measure => omega
                  case rel =>
                    refine ⟨k + 1, s2, all ++ [(r0, r1)], live ++ [(r0, r1)], A1, B1, by go_num, rfl, hlt, ?_, ?_, OF, ⟨?_⟩⟩
                    · have := KG6.out
                      simpa [refs] using this
                    · have := KG7.out
                      simpa [refs] using this
                    · have := KB.out
                      simp only [List.append_nil, List.append_assoc, List.cons_append, List.nil_append] at this
                      exact this.tail
        · have hge : ¬ (k : Int) < (l.length : Int) := by omega
          have HA2 := HA
          clear HA
          go_wp2_with fail
          go_loopg [13] live.length (fun kq v13 w' => ∃ j : Nat, v13 = .int .i64 (j : Int) ∧ kq = live.length - j ∧ j ≤ live.length ∧ Aside0 (Arn W w' g sb s (A ++ B)))
          case atStart => exact ⟨0, rfl, rfl, Nat.zero_le _, HA2⟩
          case round =>
            obtain ⟨j, rfl, rfl, hj, HJ⟩ := hrel
            clear HA2
            by_cases hjl : j < live.length
            · obtain ⟨gq, off, cur, rfl, rfl, _, hcur⟩ := HG7.out.addr (by omega)
              have hm : cb gq 33 cur ∈ A ++ [cb gq 33 cur] := by simp
              obtain ⟨q, hq⟩ : ∃ q, live[j]? = some q := ⟨_, List.getElem?_eq_getElem hjl⟩
              have hqm : q ∈ live := List.mem_of_getElem? hq
              have hrq := refs_get live j q hq
              have z0 := HJ.out.other.cell hm (off * 2 + j * 2) ((hcur (j * 2) (by omega)).trans hrq.1)
              have z1 := HJ.out.other.cell hm (off * 2 + j * 2 + 1) ((hcur (j * 2 + 1) (by omega)).trans hrq.2)
              have hp := HO.out.l1 q hqm
              obtain ⟨p1, p2, p3, p4⟩ := Ar.has_lt hp
              obtain ⟨y0, hy⟩ := HJ.out.ok.shp _ (slot_mem (i := q.1) (by omega))
              have hjl' : (j : Int) < (live.length : Int) := by omega
              have HP := Aside0.mk hp
              have HY := Aside0.mk hy
              clear hm hcur hq hqm hrq hp p1 p2 p3 p4 hy
              go_wp2_with fail
              refine (HJ.out.Get q.1 q.2 HP.out y0 HY.out).mono ?_
              rintro e2 w2 ⟨rfl, h2⟩
              have K2 := Aside0.mk h2
              clear h2 z0 z1
              go_wp2_with fail
              go_roundg (live.length - (j + 1))
              case measure => omega
              case rel => exact ⟨j + 1, by go_num, rfl, hjl, K2⟩
            · have hge2 : ¬ (j : Int) < (live.length : Int) := by omega
              have hll : s.live.length = live.length := by rw [HO.out.l3]; exact live_len _ _
              have HLL := Aside0.mk hll
              clear hll
              go_wp2_with fail
              refine (HJ.out.Live rfl (n := live.length) HLL.out).mono ?_
              rintro e2 w2 ⟨adv, cv, Av, rfl, hgv, h2⟩
              have K2 := Aside0.mk h2
              clear h2 hgv
              go_wp2_with fail
              refine (awake.calls _).mono ?_
              rintro e3 w3 ⟨rfl, hb⟩
              have HB := Aside0.mk (below_then K2.out.bel K2.out.bel.size hb)
              clear hb
              go_wp2_with fail
              exact bodyPost_ret (v := .bool true) (by simp [results, Try.results4, go_sem]) rfl ⟨rfl, HB.out⟩
end Go.Proofs.Ytglbcfkmaamhaaa.ArI
