/- The arena's methods at one element type: Free, Live, New. No condition. -/
import Derived.Test.YtglbcfkmaamhaaaArI
import Derived.Deep.RegionLaw
set_option linter.unusedVariables false
set_option linter.unusedSimpArgs false
namespace Go.Proofs.Ytglbcfkmaamhaaa.ArI
open Go Go.RowKit Go.Proofs.YtglbcfkmaamhaaaW.PrintWords Go.Proofs.YtglbcfkmaamhaaaW.PrintLast Go.Proofs.YtglbcfkmaamhaaaW.PrintMore Go.Proofs.Ytglbcfkmaamhaaa.Hv Go.Proofs.Ytglbcfkmaamhaaa.Arm
variable {w0 w w1 : World} {g sb : Nat} {s : Ar} {L L' : List Ob}

theorem info3 : (Try.prog.info? 3).map (fun i => (i.zero, i.size, i.bytes)) = some (some (.int .i64 0), 1, 8) := by kernel_rfl
set_option maxHeartbeats 4000000 in
set_option maxRecDepth 100000 in
theorem freeNo.calls (h : Arn w0 w g sb s L) (i q : Int) (hq : s.has i q = false) : Calls Try.prog 25 #[.pointer (some ⟨g, 0, none⟩), .agg #[.int .i64 i, .int .i64 q]] w fun e w' => e = .returned (.bool false) ∧ Below w.heap.size w w' := by
  have ea : at_ s sb i q = none := by simp [at_, hq]
  have HH := Aside0.mk h
  have huQ := Try.underlying139
  clear h
  go_enter Try.func25, Try.ntmps25
  go_wp2_with (go_at_call 92; refine (at.calls (HH.out.alloc _) i q).mono ?_; rintro e1 w1 ⟨rfl, hb⟩; have HB := Aside0.mk hb; clear hb; simp only [ea])
  go_ret
  exact ⟨rfl, below_then (below_alloc (Below.refl _ _) _) (by simp) HB.out⟩
theorem freeNil.calls (w : World) (i q : Int) : Calls Try.prog 25 #[.pointer none, .agg #[.int .i64 i, .int .i64 q]] w fun e w' => e = .returned (.bool false) ∧ Below w.heap.size w w' := by
  have huQ := Try.underlying139
  go_enter Try.func25, Try.ntmps25
  go_wp2_with (go_at_call 92; refine (atNil.calls _ i q).mono ?_; rintro e1 w1 ⟨rfl, hb⟩; have HB := Aside0.mk hb; clear hb)
  go_ret
  exact ⟨rfl, below_then (below_alloc (Below.refl _ _) _) (by simp) HB.out⟩
theorem setNo.calls (h : Arn w0 w g sb s L) (i q : Int) (hq : s.has i q = false) (x0 : Int) : Calls Try.prog 23 #[.pointer (some ⟨g, 0, none⟩), .agg #[.int .i64 i, .int .i64 q], .int .i64 x0] w fun e w' => e = .returned (.bool false) ∧ Below w.heap.size w w' := by
  have ea : at_ s sb i q = none := by simp [at_, hq]
  have HH := Aside0.mk h
  have huQ := Try.underlying139
  clear h
  go_enter Try.func23, Try.ntmps23
  go_wp2_with (go_at_call 92; refine (at.calls (HH.out.alloc _) i q).mono ?_; rintro e1 w1 ⟨rfl, hb⟩; have HB := Aside0.mk hb; clear hb; simp only [ea])
  go_ret
  exact ⟨rfl, below_then (below_alloc (Below.refl _ _) _) (by simp) HB.out⟩
theorem setNil.calls (w : World) (i q : Int) (x0 : Int) : Calls Try.prog 23 #[.pointer none, .agg #[.int .i64 i, .int .i64 q], .int .i64 x0] w fun e w' => e = .returned (.bool false) ∧ Below w.heap.size w w' := by
  have huQ := Try.underlying139
  go_enter Try.func23, Try.ntmps23
  go_wp2_with (go_at_call 92; refine (atNil.calls _ i q).mono ?_; rintro e1 w1 ⟨rfl, hb⟩; have HB := Aside0.mk hb; clear hb)
  go_ret
  exact ⟨rfl, below_then (below_alloc (Below.refl _ _) _) (by simp) HB.out⟩

set_option maxHeartbeats 8000000 in
set_option maxRecDepth 100000 in
theorem free.calls (h : Arn w0 w g sb s L) (i q : Int) (hq : s.has i q = true) : Calls Try.prog 25 #[.pointer (some ⟨g, 0, none⟩), .agg #[.int .i64 i, .int .i64 q]] w fun e w' => e = .returned (.bool true) ∧ Arn w0 w' g sb (s.drop i [.int .i64 0]) L := by
  have ea : at_ s sb i q = some ⟨sb, i.toNat * 3, none⟩ := by simp [at_, hq]
  obtain ⟨b0, b1, b2, _⟩ := Ar.has_lt hq
  have hi : i.toNat < s.n := by omega
  obtain ⟨y0, hy⟩ := h.ok.shp _ (slot_mem hi)
  have HY := Aside0.mk hy
  have HH := Aside0.mk h
  have huE := Try.underlying141
  have huA := Try.underlying138
  have huQ := Try.underlying139
  have hu33 := Try.underlying33
  have hmost := h.ok.most
  have hh := s.held_le
  have hh1 : 1 ≤ s.held := by have := Ar.held_drop hq [.int .i64 0]; omega
  have HQ := Aside0.mk hq
  clear h hy hq
  go_enter Try.func25, Try.ntmps25
  go_wp2_with fail
  refine (at.calls (HH.out.alloc _) i q).mono ?_
  rintro e1 w1 ⟨rfl, hb⟩
  have HA := Aside0.mk ((HH.out.alloc _).call hb)
  have r0 : w1.cell? ⟨w.heap.size, 0, none⟩ = some (.int .i64 i) := pw_cell_below hb ((blk_cell (blk_new w (.cells #[.int .i64 i, .int .i64 q] 33)) 0).trans rfl)
  obtain ⟨m1, m2, m3, m4⟩ := apart HH.out
  have m5 : ¬ w.heap.size = g := fun e => m3 e.symm
  have m6 : ¬ w.heap.size = sb := fun e => m4 e.symm
  clear hb
  simp only [ea]
  obtain ⟨bv, B, HO, HG⟩ := HA.out.opened i hi
  obtain ⟨ad, c, rfl, hnc⟩ := HG.form
  obtain ⟨⟨h0, h1, h2, h3⟩, f1, f2, f3⟩ := HO.header
  obtain ⟨sc0, sc1, sc2, sf0, sf1, sf2⟩ := slot_raw HA.out b0 b1 _ HY.out
  obtain ⟨n1, n2, n3, n4⟩ := apart HA.out
  have HP := Aside0.mk HO
  have HN := Aside0.mk hnc
  clear HO hnc
  go_upto_region 6 with (fail)
  have HV := Aside0.mk (((Opn.put (j := 1 + 1) (v := .bool false) (Opn.put (j := 0) (v := .int .i64 0) HP.out (by omega)) (by omega)).hv.skip (.cells #[.int .i64 i] 3)).rot2.drew)
  have hv1 := (((Opn.put (j := 1 + 1) (v := .bool false) (Opn.put (j := 0) (v := .int .i64 0) HP.out (by omega)) (by omega)).hv.skip (.cells #[.int .i64 i] 3)).rot2).cellM (g := g) (v := .slice ad s.back.length c) 1 rfl
  simp only [Nat.add_zero, Nat.reduceAdd] at hv1
  have HO2 := Aside0.mk (Opn.put (j := 1 + 1) (v := .bool false) (Opn.put (j := 0) (v := .int .i64 0) HP.out (by omega)) (by omega))
  have cnew : ∀ W : World, W.heap.size = w1.heap.size → (W.alloc (.cells #[.int .i64 i] 3)).cell? ⟨w1.heap.size, 0, none⟩ = some (.int .i64 i) := fun W e => by rw [← e]; exact (blk_cell (blk_new W _) 0).trans rfl
  have hb8 : (s.back.length + 1) * 8 ≤ 140737488355328 := by have := HH.out.ok.sum; have := HH.out.ok.ever; have := HH.out.ok.most; omega
  go_region_law (refine append_step (w0 := w0) (by rfl) (.tmp 23) (.tmp 26) 26 3 (.int .i64 0) 1 8 rfl Try.underlying26 info3 rfl (by decide) (by decide) (.slice ad s.back.length c) s.back.length (nums .i64 s.back) (by simp [Act.eval, Act.put]) ⟨w1.heap.size, 0, none⟩ 1 1 [.int .i64 i] (by simp [Act.eval, Act.put]) rfl (by intro j u hj; match j, hj with | 0, hj => simp at hj; subst hj; simp [Addr.add]; exact cnew _ (by simp)) (by intro u hu; simp at hu; subst hu; rfl) HG HV.out hb8 ?_; intro v1 w2 A1 hG1 hH1; obtain ⟨ad1, c1, rfl, hn1⟩ := hG1.form; have HG1 := Aside0.mk hG1; have HH1 := Aside0.mk hH1; have hx1 := hH1.cellM 1 rfl; have hx3 := hH1.cellM 3 rfl; have fx1 := hH1.frozenM 1; have fx3 := hH1.frozenM 3; clear hG1 hH1 hn1)
  all_goals
    go_wp2_with fail
    go_ret
    refine ⟨rfl, ?_⟩
    have hd := Ar.held_drop HQ.out [.int .i64 0]
    have hN : (s.drop i [.int .i64 0]).n = s.n := by simp [Ar.n, Ar.drop]
    refine Opn.close (L' := [_]) (s := s.drop i [.int .i64 0]) (bv := .slice ad1 (s.back.length + 1) c1) (Opn.puth (j := 3) (v := .int .i64 ((s.held : Int) - 1)) (Opn.puth (j := 1) (v := .slice ad1 (s.back.length + 1) c1) ⟨HH1.out.unrot2, HO2.out.all, HO2.out.len, HO2.out.lt⟩)) ?_ ?_ ?_ (HH.out.ok.drop HQ.out rfl ⟨_, rfl⟩)
    · have e : ((s.held : Int) - 1) = ((s.drop i [.int .i64 0]).held : Int) := by omega
      rw [e, hN]
      rfl
    · simp only [Ar.drop, List.map_set]
      congr 1
      simp [Sl.cells, HY.out]
    · have := HG1.out
      simpa [Ar.drop, nums] using this

/-! ### Live -/
theorem info33 : (Try.prog.info? 33).map (fun i => (i.zero, i.size, i.bytes)) = some (some (.agg #[.int .i64 0, .int .i64 0]), 2, 16) := by kernel_rfl
def Lives (s : Ar) (w : World) (e : Ending) (w' : World) : Prop := ∃ ad c A, e = .returned (.slice ad s.live.length c) ∧ Gr 33 2 (.slice ad s.live.length c) s.live.length (refs s.live) A ∧ Hv w w' A
set_option maxHeartbeats 8000000 in
set_option maxRecDepth 100000 in
theorem live.calls (h : Arn w0 w g sb s L) : Calls Try.prog 29 #[.pointer (some ⟨g, 0, none⟩)] w (Lives s w) := by
  obtain ⟨bv, hc, hs⟩ := h.cells
  have c0 := hc 0 _ rfl
  have huA := Try.underlying138
  have huE := Try.underlying141
  have huP := Try.underlying24
  have hn := h.ok.most
  have HH := Aside0.mk h
  clear hc hs h
  go_enter Try.func29, Try.ntmps29
  have hmk := HH.out.ok.most
  go_wp2_with fail
  go_loopw [3, 13] (fun v i wr => ∃ (k : Nat) (A : List Ob), k ≤ s.n ∧ i = .int .i64 (k : Int) ∧ Gr 33 2 v (liveFrom 0 (s.slots.take k)).length (refs (liveFrom 0 (s.slots.take k))) A ∧ Aside0 (Hv w wr A)) (fun _ i _ => s.n - (intOf i).toNat)
  case atStart => exact ⟨0, [], Nat.zero_le _, rfl, Gr.nil _ _, ⟨Hv.start w⟩⟩
  case round =>
    obtain ⟨k, A, hk, rfl, HG, HV⟩ := hrel
    have hll : (liveFrom 0 (s.slots.take k)).length ≤ 4096 := by rw [live_len]; exact Nat.le_trans List.countP_le_length (by rw [List.length_take]; omega)
    obtain ⟨ad, c, rfl, hnc⟩ := HG.form
    by_cases hlt : k < s.n
    · have HW := Aside0.mk (HH.out.call HV.out.bel)
      obtain ⟨y0, hy⟩ := HH.out.ok.shp _ (slot_mem (i := (k : Int)) (by simpa using hlt))
      obtain ⟨sc0, sc1, sc2, sf0, sf1, sf2⟩ := slot_raw HW.out (i := (k : Int)) (by omega) (by omega) _ hy
      simp only [Int.toNat_natCast] at sc0 sc1 sc2 sf0 sf1 sf2
      have HY := Aside0.mk hy
      clear hy
      have hlt' : (k : Int) < (s.n : Int) := by omega
      have HG1 := Aside0.mk HG
      have HL1 := Aside0.mk hll
      clear HG hnc
      cases htk : (s.slot (k : Int)).taken with
      | true =>
        rw [htk] at sc2
        have HT := Aside0.mk htk
        clear htk
        go_wp2_with (at_builtin; refine append_list (w0 := w) (A := A) (L := []) rfl (.tmp 20) (.tmp 25) 31 33 (.agg #[.int .i64 0, .int .i64 0]) 2 16 rfl Try.underlying31 info33 rfl (by decide) (by decide) _ _ _ rfl ⟨wr.heap.size + 1, 0, none⟩ 1 1 [.int .i64 (k : Int), .int .i64 (s.slot (k : Int)).gen] (by simp [Act.eval, Act.put]) rfl (news_new _ _ 33 _ (by simp)) (by intro u hu; simp at hu; rcases hu with rfl | rfl <;> rfl) HG1.out (((HV.out.skip _).skip _).nilR) (by have := HL1.out; omega) ?_; intro v1 w2 A1 hG1 hH1; have HG2 := Aside0.mk hG1; have HH1 := Aside0.mk hH1; clear hG1 hH1)
        go_roundw
        case rel =>
          have e := live_take s k hlt
          rw [HT.out, if_pos rfl] at e
          refine ⟨k + 1, A1, hlt, by go_num, ?_, ⟨by simpa using HH1.out⟩⟩
          rw [e]
          have := HG2.out
          simpa [refs] using this
        case measure => simp [intOf]; omega
      | false =>
        rw [htk] at sc2
        have HT := Aside0.mk htk
        clear htk
        go_wp2_with fail
        go_roundw
        case rel =>
          have e := live_take s k hlt
          rw [HT.out] at e
          simp only [Bool.false_eq_true, if_false, List.append_nil] at e
          refine ⟨k + 1, A, hlt, by go_num, ?_, ⟨HV.out.skip _⟩⟩
          rw [e]
          exact HG1.out
        case measure => simp [intOf]; omega
    · have hge : ¬ (k : Int) < (s.n : Int) := by omega
      have hkk : k = s.n := by omega
      have HG1 := Aside0.mk HG
      have HKK := Aside0.mk hkk
      clear HG hnc hkk
      go_wp2_with fail
      go_ret
      have e : s.slots.take k = s.slots := by rw [HKK.out]; exact List.take_length
      have hg := HG1.out
      rw [e] at hg
      exact ⟨ad, c, A, by rw [show s.live = liveFrom 0 (s.slots.take k) by rw [e]; rfl]; rfl, hg, HV.out⟩
theorem liveNil.calls (w : World) : Calls Try.prog 29 #[.pointer none] w fun e w' => e = .returned (.slice none 0 0) ∧ Drawn0 w w' := by
  have huP := Try.underlying24
  go_enter Try.func29, Try.ntmps29
  go_wp2
  go_ret
  exact ⟨rfl, Drawn0.refl _⟩

/-! ### New -/
theorem infoE : (Try.prog.info? 141).map (fun i => (i.zero, i.size, i.bytes)) = some (some (.agg #[.int .i64 0, .int .i64 0, .bool false]), 3, 24) := by kernel_rfl
theorem make_slots (n : Nat) (h1 : n ≤ 4096) (w : World) :
    (Instr.makeSlice 136 (.int .i64 (n : Int)) (.int .i64 (n : Int))).run Try.prog w = .ok (.slice (some ⟨w.heap.size, 0, none⟩) n n) (w.alloc (.cells (flat (List.replicate n ⟨[.int .i64 0], 0, false⟩)) 141)) := by
  cases hi : Try.prog.info? 141 with
  | none => have := infoE; rw [hi] at this; simp at this
  | some i =>
    have := infoE
    rw [hi] at this
    simp at this
    obtain ⟨h2, h3, h4⟩ := this
    rw [run_make (P := Try.prog) w 136 141 i _ Try.underlying136 hi h2 .i64 .i64 n n (by omega) (by omega) (by rw [h4]; omega) (by omega)]
    have e1 := made_flat ([.int .i64 0] ++ [.int .i64 0, .bool false]) 3 n rfl (by omega)
    have e2 : flat (List.replicate n ⟨[.int .i64 0], 0, false⟩) = ((List.replicate n ([.int .i64 0] ++ [.int .i64 0, .bool false])).flatten).toArray := by simp [flat, Sl.cells, List.map_replicate]
    rw [e2, ← e1]
    simp [h3]
    rfl
set_option maxHeartbeats 4000000 in
set_option maxRecDepth 100000 in
theorem new1.calls (n : Nat) (hn : n ≤ 4096) (w : World) : Calls Try.prog 16 #[.int .i64 (n : Int)] w fun e w' => e = .returned (.pointer (some ⟨w.heap.size + 1, 0, none⟩)) ∧ Arn w w' (w.heap.size + 1) w.heap.size (Ar.new n [.int .i64 0]) [] := by
  have hmk := make_slots n hn
  have hu := Try.underlying138
  have d1 : decide ((n : Int) < 0) = false := by simp
  have d2 : decide ((4096 : Int) < (n : Int)) = false := decide_eq_false (by omega)
  go_enter Try.func16, Try.ntmps16
  go_wp2
  go_ret
  refine ⟨rfl, .slice none 0 0, [], ?_, Gr.nil 3 1, new_ok n hn _ rfl ⟨_, rfl⟩⟩
  have h1 := ((Hv.start w).alloc (.cells (flat (List.replicate n ⟨[.int .i64 0], 0, false⟩)) 141)).alloc (.cells #[.slice (some ⟨w.heap.size, 0, none⟩) n n, .slice none 0 0, .int .i64 0, .int .i64 0] 138)
  rw [show (w.alloc (.cells (flat (List.replicate n ⟨[.int .i64 0], 0, false⟩)) 141)).heap.size = w.heap.size + 1 by simp] at h1
  have e : AL (w.heap.size + 1) w.heap.size (.slice none 0 0) [] (Ar.new n [.int .i64 0]) ++ [] = [cb (w.heap.size + 1) 138 #[.slice (some ⟨w.heap.size, 0, none⟩) n n, .slice none 0 0, .int .i64 0, .int .i64 0], cb w.heap.size 141 (flat (List.replicate n ⟨[.int .i64 0], 0, false⟩))] := by
    simp [AL, Ar.new, Ar.n, Ar.held, List.countP_replicate]
  rw [e]
  exact h1
set_option maxHeartbeats 4000000 in
set_option maxRecDepth 100000 in
theorem new0.calls (n : Int) (hn : n < 0 ∨ n > 4096) (w : World) : Calls Try.prog 16 #[.int .i64 n] w fun e w' => e = .returned (.pointer (some ⟨w.heap.size + 1, 0, none⟩)) ∧ Arn w w' (w.heap.size + 1) w.heap.size (Ar.new 0 [.int .i64 0]) [] := by
  have hmk : ∀ w : World, (Instr.makeSlice 136 (.int .i64 0) (.int .i64 0)).run Try.prog w = .ok (.slice (some ⟨w.heap.size, 0, none⟩) 0 0) (w.alloc (.cells (flat []) 141)) := make_slots 0 (by omega)
  have hu := Try.underlying138
  have fin : Arn w ((w.alloc (.cells (flat []) 141)).alloc (.cells #[.slice (some ⟨w.heap.size, 0, none⟩) 0 0, .slice none 0 0, .int .i64 0, .int .i64 0] 138)) (w.heap.size + 1) w.heap.size (Ar.new 0 [.int .i64 0]) [] := by
    refine ⟨.slice none 0 0, [], ?_, Gr.nil 3 1, new_ok 0 (by omega) _ rfl ⟨_, rfl⟩⟩
    have h1 := ((Hv.start w).alloc (.cells (flat []) 141)).alloc (.cells #[.slice (some ⟨w.heap.size, 0, none⟩) 0 0, .slice none 0 0, .int .i64 0, .int .i64 0] 138)
    rw [show (w.alloc (.cells (flat []) 141)).heap.size = w.heap.size + 1 by simp] at h1
    exact h1
  by_cases h0 : n < 0
  · have d1 : decide (n < 0) = true := decide_eq_true h0
    clear hn h0
    go_enter Try.func16, Try.ntmps16
    go_wp2
    go_ret
    exact ⟨rfl, fin⟩
  · have d1 : decide (n < 0) = false := decide_eq_false h0
    have d2 : decide (4096 < n) = true := decide_eq_true (by omega)
    clear hn h0
    go_enter Try.func16, Try.ntmps16
    go_wp2
    go_ret
    exact ⟨rfl, fin⟩
theorem new.calls (n : Int) (w : World) : Calls Try.prog 16 #[.int .i64 n] w fun e w' => e = .returned (.pointer (some ⟨w.heap.size + 1, 0, none⟩)) ∧ Arn w w' (w.heap.size + 1) w.heap.size (Ar.new (many n) [.int .i64 0]) [] := by
  unfold many
  by_cases h : n < 0 ∨ n > 4096
  · rw [if_pos h]
    exact new0.calls n h w
  · rw [if_neg h]
    have := new1.calls n.toNat (by omega) w
    rwa [show ((n.toNat : Nat) : Int) = n by omega] at this
end Go.Proofs.Ytglbcfkmaamhaaa.ArI

