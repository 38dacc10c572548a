/- A text of this claim: parts ArRB ArRC BsA BsB BsC BsD. No condition. -/
import Derived.Test.YtglbcfkmaamhaaaFG18
import Derived.Deep.RegionLaw
import Derived.Test.YtglbcfkmaamhaaaFG0
import Derived.Test.YtglbcfkmaamhaaaFG12
import Derived.Test.YtglbcfkmaamhaaaFG2
set_option linter.unusedVariables false
set_option linter.unusedSimpArgs false
set_option maxHeartbeats 16000000
set_option maxRecDepth 100000
namespace Go.Proofs.Ytglbcfkmaamhaaa.ArR
open Go Go.RowKit Go.Proofs.YtglbcfkmaamhaaaW.PrintWords Go.Proofs.YtglbcfkmaamhaaaW.PrintLast Go.Proofs.YtglbcfkmaamhaaaW.PrintMore Go.Proofs.Ytglbcfkmaamhaaa.Hv Go.Proofs.Ytglbcfkmaamhaaa.Arm
section
variable {w0 w w1 : World} {g sb : Nat} {s : Ar} {L L' : List Ob}
theorem info3 : (Try.prog.info? 3).map (fun i => (i.zero, i.size, i.bytes)) = some (some (.int .i64 0), 1, 8) := by kernel_rfl
theorem freeNo.calls (h : Arn w0 w g sb s L) (i q : Int) (hq : s.has i q = false) : Calls Try.prog 133 #[.pointer (some ⟨g, 0, none⟩), .agg #[.int .i64 i, .int .i64 q]] w fun e w' => e = .returned (.bool false) ∧ Below w.heap.size w w' := by
 have ea : at_ s sb i q = none := by simp [at_, hq]
 have HH := As h
 have huQ := Try.underlying208
 clear h
 go_enter Try.func133, Try.ntmps133
 go_wp2_with (go_at_call 149; refine (at.calls (HH.out.alloc _) i q).mono ?_; rintro e1 w1 ⟨rfl, hb⟩; have HB := As hb; clear hb; simp only [ea])
 go_ret
 exact ⟨rfl, below_then (below_alloc (Below.refl _ _) _) (by simp) HB.out⟩
theorem setNo.calls (h : Arn w0 w g sb s L) (i q : Int) (hq : s.has i q = false) (x0 : ByteArray) (x1 : Int) (x2 : ByteArray) : Calls Try.prog 137 #[.pointer (some ⟨g, 0, none⟩), .agg #[.int .i64 i, .int .i64 q], .agg #[.string x0, .int .i64 x1, .string x2]] w fun e w' => e = .returned (.bool false) ∧ Below w.heap.size w w' := by
 have ea : at_ s sb i q = none := by simp [at_, hq]
 have HH := As h
 have huQ := Try.underlying208
 clear h
 go_enter Try.func137, Try.ntmps137
 go_wp2_with (go_at_call 149; refine (at.calls ((HH.out.alloc (.cells #[.int .i64 i, .int .i64 q] 33)).alloc (.cells #[.string x0, .int .i64 x1, .string x2] 126)) i q).mono ?_; rintro e1 w1 ⟨rfl, hb⟩; have HB := As hb; clear hb; simp only [ea])
 go_ret
 exact ⟨rfl, below_then (below_alloc (below_alloc (Below.refl _ _) _) _) (by simp; omega) HB.out⟩
theorem free.calls (h : Arn w0 w g sb s L) (i q : Int) (hq : s.has i q = true) : Calls Try.prog 133 #[.pointer (some ⟨g, 0, none⟩), .agg #[.int .i64 i, .int .i64 q]] w fun e w' => e = .returned (.bool true) ∧ Arn w0 w' g sb (s.drop i [.string ⟨#[]⟩, .int .i64 0, .string ⟨#[]⟩]) L := by
 have ea : at_ s sb i q = some ⟨sb, i.toNat * 5, none⟩ := by simp [at_, hq]
 obtain ⟨b0, b1, b2, _⟩ := Ar.has_lt hq
 have hi : i.toNat < s.n := by omega
 obtain ⟨y0, y1, y2, hy⟩ := h.ok.shp _ (slot_mem hi)
 have HY := As hy
 have HH := As h
 have huE := Try.underlying210
 have huA := Try.underlying207
 have huQ := Try.underlying208
 have hu33 := Try.underlying33
 have hmost := h.ok.most
 have hh := s.held_le
 have hh1 : 1 ≤ s.held := by have := Ar.held_drop hq [.string ⟨#[]⟩, .int .i64 0, .string ⟨#[]⟩]; omega
 have HQ := As hq
 clear h hy hq
 go_enter Try.func133, Try.ntmps133
 go_wp2_with fail
 refine (at.calls (HH.out.alloc _) i q).mono ?_
 rintro e1 w1 ⟨rfl, hb⟩
 have HA := As (show Arn w0 w1 g sb s (cb w.heap.size 33 #[.int .i64 i, .int .i64 q] :: L) from (HH.out.alloc (.cells #[.int .i64 i, .int .i64 q] 33)).call hb)
 have r0 : w1.cell? ⟨w.heap.size, 0, none⟩ = some (.int .i64 i) := pw_cell_below hb ((blk_cell (blk_new w (.cells #[.int .i64 i, .int .i64 q] 33)) 0).trans rfl)
 obtain ⟨m1, m2, m3, m4⟩ := apart HH.out
 have m5 : ¬ w.heap.size = g := fun e => m3 e.symm
 have m6 : ¬ w.heap.size = sb := fun e => m4 e.symm
 clear hb
 simp only [ea]
 go_upto_region 5 with (fail)
 obtain ⟨-, -, n3, n4⟩ := apart HA.out
 obtain ⟨w9, hW, hA⟩ : ∃ W, W = w1.alloc (.cells #[.string ⟨#[]⟩, .int .i64 0, .string ⟨#[]⟩] 126) ∧ Arn w0 W g sb s (cb w1.heap.size 126 #[.string ⟨#[]⟩, .int .i64 0, .string ⟨#[]⟩] :: cb w.heap.size 33 #[.int .i64 i, .int .i64 q] :: L) := ⟨_, rfl, HA.out.alloc _⟩
 rw [← hW]
 clear hW r0
 have HA := As hA
 clear hA
 generalize w1.heap.size = b9 at HA n3 n4 ⊢
 have n5 : ¬ b9 = g := fun e => n3 e.symm
 have n6 : ¬ b9 = sb := fun e => n4 e.symm
 obtain ⟨q0, q1, q2, -, -, -⟩ := HA.out.other.c3 b9 126 (.string ⟨#[]⟩) (.int .i64 0) (.string ⟨#[]⟩) List.mem_cons_self
 obtain ⟨r0, -, -, -⟩ := HA.out.other.c2 w.heap.size 33 (.int .i64 i) (.int .i64 q) (by simp)
 have n7 := HA.out.other.apart (i := 0) (j := 1) rfl rfl (by decide)
 simp only [cb] at n7
 have n8 : ¬ w.heap.size = b9 := fun e => n7 e.symm
 obtain ⟨bv, B, HO, HG⟩ := HA.out.opened i hi
 obtain ⟨ad, c, rfl, hnc⟩ := HG.form
 obtain ⟨⟨h0, h1, h2, h3⟩, f1, f2, f3⟩ := HO.header
 obtain ⟨sc0, sc1, sc2, sc3, sc4, sf0, sf1, sf2, sf3, sf4⟩ := slot_raw HA.out b0 b1 _ _ _ HY.out
 obtain ⟨n1, n2, n3, n4⟩ := apart HA.out
 have HP := As HO
 have HN := As hnc
 clear HO hnc
 go_upto_region 6 with (fail)
 have HV := As (((Opn.put (j := 3 + 1) (v := .bool false) (Opn.put (j := 2) (v := .string ⟨#[]⟩) (Opn.put (j := 1) (v := .int .i64 0) (Opn.put (j := 0) (v := .string ⟨#[]⟩) HP.out (by omega)) (by omega)) (by omega)) (by omega)).hv.skip (.cells #[.int .i64 i] 3)).rot2.drew)
 have hv1 := (((Opn.put (j := 3 + 1) (v := .bool false) (Opn.put (j := 2) (v := .string ⟨#[]⟩) (Opn.put (j := 1) (v := .int .i64 0) (Opn.put (j := 0) (v := .string ⟨#[]⟩) HP.out (by omega)) (by omega)) (by omega)) (by omega)).hv.skip (.cells #[.int .i64 i] 3)).rot2).cellM (g := g) (v := .slice ad s.back.length c) 1 rfl
 simp only [Nat.add_zero, Nat.reduceAdd] at hv1
 have HO2 := As (Opn.put (j := 3 + 1) (v := .bool false) (Opn.put (j := 2) (v := .string ⟨#[]⟩) (Opn.put (j := 1) (v := .int .i64 0) (Opn.put (j := 0) (v := .string ⟨#[]⟩) HP.out (by omega)) (by omega)) (by omega)) (by omega))
 have cnew : ∀ W : World, W.heap.size = w9.heap.size → (W.alloc (.cells #[.int .i64 i] 3)).cell? ⟨w9.heap.size, 0, none⟩ = some (.int .i64 i) := fun W e => by rw [← e]; exact (blk_cell (blk_new W _) 0).trans rfl
 have hb8 : (s.back.length + 1) * 8 ≤ 140737488355328 := by have := HH.out.ok.sum; have := HH.out.ok.ever; have := HH.out.ok.most; omega
 go_region_law (refine append_step (w0 := w0) (by rfl) (.tmp 23) (.tmp 26) 26 3 (.int .i64 0) 1 8 rfl Try.underlying26 info3 rfl (by decide) (by decide) (.slice ad s.back.length c) s.back.length (nums .i64 s.back) (by simp [Act.eval, Act.put]) ⟨w9.heap.size, 0, none⟩ 1 1 [.int .i64 i] (by simp [Act.eval, Act.put]) rfl (by intro j u hj; match j, hj with | 0, hj => simp at hj; subst hj; simp [Addr.add]; exact cnew _ (by simp)) (by intro u hu; simp at hu; subst hu; rfl) HG HV.out hb8 ?_; intro v1 w2 A1 hG1 hH1; obtain ⟨ad1, c1, rfl, hn1⟩ := hG1.form; have HG1 := As hG1; have HH1 := As hH1; have hx1 := hH1.cellM 1 rfl; have hx3 := hH1.cellM 3 rfl; have fx1 := hH1.frozenM 1; have fx3 := hH1.frozenM 3; clear hG1 hH1 hn1)
 all_goals
  go_wp2_with fail
  go_ret
  refine ⟨rfl, ?_⟩
  have hd := Ar.held_drop HQ.out [.string ⟨#[]⟩, .int .i64 0, .string ⟨#[]⟩]
  have hN : (s.drop i [.string ⟨#[]⟩, .int .i64 0, .string ⟨#[]⟩]).n = s.n := by simp [Ar.n, Ar.drop]
  refine Opn.close (L' := [_, _]) (s := s.drop i [.string ⟨#[]⟩, .int .i64 0, .string ⟨#[]⟩]) (bv := .slice ad1 (s.back.length + 1) c1) (Opn.puth (j := 3) (v := .int .i64 ((s.held : Int) - 1)) (Opn.puth (j := 1) (v := .slice ad1 (s.back.length + 1) c1) ⟨HH1.out.unrot2, HO2.out.all, HO2.out.len, HO2.out.lt⟩)) ?_ ?_ ?_ (HH.out.ok.drop HQ.out rfl ⟨_, _, _, rfl⟩)
  ·have e : ((s.held : Int) - 1) = ((s.drop i [.string ⟨#[]⟩, .int .i64 0, .string ⟨#[]⟩]).held : Int) := by omega
   rw [e, hN]
   rfl
  ·simp only [Ar.drop, List.map_set]
   congr 1
   simp [Sl.cells, HY.out]
  ·have := HG1.out
   simpa [Ar.drop, nums] using this
theorem info33 : (Try.prog.info? 33).map (fun i => (i.zero, i.size, i.bytes)) = some (some (.agg #[.int .i64 0, .int .i64 0]), 2, 16) := by kernel_rfl
def Lives (s : Ar) (w : World) (e : Ending) (w' : World) : Prop := ∃ ad c A, e = .returned (.slice ad s.live.length c) ∧ Gr 33 2 (.slice ad s.live.length c) s.live.length (refs s.live) A ∧ Hv w w' A
theorem live.calls (h : Arn w0 w g sb s L) : Calls Try.prog 141 #[.pointer (some ⟨g, 0, none⟩)] w (Lives s w) := by
 obtain ⟨bv, hc, hs⟩ := h.cells
 have c0 := hc 0 _ rfl
 have huA := Try.underlying207
 have huE := Try.underlying210
 have huP := Try.underlying186
 have hn := h.ok.most
 have HH := As h
 clear hc hs h
 go_enter Try.func141, Try.ntmps141
 have hmk := HH.out.ok.most
 go_wp2_with fail
 go_loopw [3, 13] (fun v i wr => ∃ (k : Nat) (A : List Ob), k ≤ s.n ∧ i = .int .i64 (k : Int) ∧ Gr 33 2 v (liveFrom 0 (s.slots.take k)).length (refs (liveFrom 0 (s.slots.take k))) A ∧ Aside0 (Hv w wr A)) (fun _ i _ => s.n - (intOf i).toNat)
 case atStart => exact ⟨0, [], Nat.zero_le _, rfl, Gr.nil _ _, ⟨Hv.start w⟩⟩
 case round =>
  obtain ⟨k, A, hk, rfl, HG, HV⟩ := hrel
  have hll : (liveFrom 0 (s.slots.take k)).length ≤ 4096 := by rw [live_len]; exact Nat.le_trans List.countP_le_length (by rw [List.length_take]; omega)
  obtain ⟨ad, c, rfl, hnc⟩ := HG.form
  by_cases hlt : k < s.n
  ·have HW := As (HH.out.call HV.out.bel)
   obtain ⟨y0, y1, y2, hy⟩ := HH.out.ok.shp _ (slot_mem (i := (k : Int)) (by simpa using hlt))
   obtain ⟨sc0, sc1, sc2, sc3, sc4, sf0, sf1, sf2, sf3, sf4⟩ := slot_raw HW.out (i := (k : Int)) (by omega) (by omega) _ _ _ hy
   simp only [Int.toNat_natCast] at sc0 sc1 sc2 sc3 sc4 sf0 sf1 sf2 sf3 sf4
   have HY := As hy
   clear hy
   have hlt' : (k : Int) < (s.n : Int) := by omega
   have HG1 := As HG
   have HL1 := As hll
   clear HG hnc
   cases htk : (s.slot (k : Int)).taken with
   | true =>
    rw [htk] at sc4
    have HT := As htk
    clear htk
    go_wp2_with (at_builtin; refine append_list (w0 := w) (A := A) (L := []) rfl (.tmp 20) (.tmp 25) 31 33 (.agg #[.int .i64 0, .int .i64 0]) 2 16 rfl Try.underlying31 info33 rfl (by decide) (by decide) _ _ _ rfl ⟨wr.heap.size + 1, 0, none⟩ 1 1 [.int .i64 (k : Int), .int .i64 (s.slot (k : Int)).gen] (by simp [Act.eval, Act.put]) rfl (news_new _ _ 33 _ (by simp)) (by intro u hu; simp at hu; rcases hu with rfl | rfl <;> rfl) HG1.out (((HV.out.skip _).skip _).nilR) (by have := HL1.out; omega) ?_; intro v1 w2 A1 hG1 hH1; have HG2 := As hG1; have HH1 := As hH1; clear hG1 hH1)
    go_roundw
    case rel =>
     have e := live_take s k hlt
     rw [HT.out, if_pos rfl] at e
     refine ⟨k + 1, A1, hlt, by go_num, ?_, ⟨by simpa using HH1.out⟩⟩
     rw [e]
     have := HG2.out
     simpa [refs] using this
    case measure => simp [intOf]; omega
   | false =>
    rw [htk] at sc4
    have HT := As htk
    clear htk
    go_wp2_with fail
    go_roundw
    case rel =>
     have e := live_take s k hlt
     rw [HT.out] at e
     simp only [Bool.false_eq_true, if_false, List.append_nil] at e
     refine ⟨k + 1, A, hlt, by go_num, ?_, ⟨HV.out.skip _⟩⟩
     rw [e]
     exact HG1.out
    case measure => simp [intOf]; omega
  ·have hge : ¬ (k : Int) < (s.n : Int) := by omega
   have hkk : k = s.n := by omega
   have HG1 := As HG
   have HKK := As hkk
   clear HG hnc hkk
   go_wp2_with fail
   go_ret
   have e : s.slots.take k = s.slots := by rw [HKK.out]; exact List.take_length
   have hg := HG1.out
   rw [e] at hg
   exact ⟨ad, c, A, by rw [show s.live = liveFrom 0 (s.slots.take k) by rw [e]; rfl]; rfl, hg, HV.out⟩
theorem infoE : (Try.prog.info? 210).map (fun i => (i.zero, i.size, i.bytes)) = some (some (.agg #[.string ⟨#[]⟩, .int .i64 0, .string ⟨#[]⟩, .int .i64 0, .bool false]), 5, 56) := by kernel_rfl
theorem make_slots (n : Nat) (h1 : n ≤ 4096) (w : World) :
  (Instr.makeSlice 205 (.int .i64 (n : Int)) (.int .i64 (n : Int))).run Try.prog w = .ok (.slice (some ⟨w.heap.size, 0, none⟩) n n) (w.alloc (.cells (flat (List.replicate n ⟨[.string ⟨#[]⟩, .int .i64 0, .string ⟨#[]⟩], 0, false⟩)) 210)) := by
 cases hi : Try.prog.info? 210 with
 | none => have := infoE; rw [hi] at this; simp at this
 | some i =>
  have := infoE
  rw [hi] at this
  simp at this
  obtain ⟨h2, h3, h4⟩ := this
  rw [run_make (P := Try.prog) w 205 210 i _ Try.underlying205 hi h2 .i64 .i64 n n (by omega) (by omega) (by rw [h4]; omega) (by omega)]
  have e1 := made_flat ([.string ⟨#[]⟩, .int .i64 0, .string ⟨#[]⟩] ++ [.int .i64 0, .bool false]) 5 n rfl (by omega)
  have e2 : flat (List.replicate n ⟨[.string ⟨#[]⟩, .int .i64 0, .string ⟨#[]⟩], 0, false⟩) = ((List.replicate n ([.string ⟨#[]⟩, .int .i64 0, .string ⟨#[]⟩] ++ [.int .i64 0, .bool false])).flatten).toArray := by simp [flat, Sl.cells, List.map_replicate]
  rw [e2, ← e1]
  simp only [h3]
  rfl
theorem new1.calls (n : Nat) (hn : n ≤ 4096) (w : World) : Calls Try.prog 129 #[.int .i64 (n : Int)] w fun e w' => e = .returned (.pointer (some ⟨w.heap.size + 1, 0, none⟩)) ∧ Arn w w' (w.heap.size + 1) w.heap.size (Ar.new n [.string ⟨#[]⟩, .int .i64 0, .string ⟨#[]⟩]) [] := by
 have hmk := make_slots n hn
 have hu := Try.underlying207
 have d1 : decide ((n : Int) < 0) = false := by simp
 have d2 : decide ((4096 : Int) < (n : Int)) = false := decide_eq_false (by omega)
 go_enter Try.func129, Try.ntmps129
 go_wp2
 go_ret
 refine ⟨rfl, .slice none 0 0, [], ?_, Gr.nil 3 1, new_ok n hn _ rfl ⟨_, _, _, rfl⟩⟩
 have h1 := ((Hv.start w).alloc (.cells (flat (List.replicate n ⟨[.string ⟨#[]⟩, .int .i64 0, .string ⟨#[]⟩], 0, false⟩)) 210)).alloc (.cells #[.slice (some ⟨w.heap.size, 0, none⟩) n n, .slice none 0 0, .int .i64 0, .int .i64 0] 207)
 rw [show (w.alloc (.cells (flat (List.replicate n ⟨[.string ⟨#[]⟩, .int .i64 0, .string ⟨#[]⟩], 0, false⟩)) 210)).heap.size = w.heap.size + 1 by simp] at h1
 have e : AL (w.heap.size + 1) w.heap.size (.slice none 0 0) [] (Ar.new n [.string ⟨#[]⟩, .int .i64 0, .string ⟨#[]⟩]) ++ [] = [cb (w.heap.size + 1) 207 #[.slice (some ⟨w.heap.size, 0, none⟩) n n, .slice none 0 0, .int .i64 0, .int .i64 0], cb w.heap.size 210 (flat (List.replicate n ⟨[.string ⟨#[]⟩, .int .i64 0, .string ⟨#[]⟩], 0, false⟩))] := by
  simp [AL, Ar.new, Ar.n, Ar.held, List.countP_replicate]
 rw [e]
 exact h1
theorem new0.calls (n : Int) (hn : n < 0 ∨ n > 4096) (w : World) : Calls Try.prog 129 #[.int .i64 n] w fun e w' => e = .returned (.pointer (some ⟨w.heap.size + 1, 0, none⟩)) ∧ Arn w w' (w.heap.size + 1) w.heap.size (Ar.new 0 [.string ⟨#[]⟩, .int .i64 0, .string ⟨#[]⟩]) [] := by
 have hmk : ∀ w : World, (Instr.makeSlice 205 (.int .i64 0) (.int .i64 0)).run Try.prog w = .ok (.slice (some ⟨w.heap.size, 0, none⟩) 0 0) (w.alloc (.cells (flat []) 210)) := make_slots 0 (by omega)
 have hu := Try.underlying207
 have fin : Arn w ((w.alloc (.cells (flat []) 210)).alloc (.cells #[.slice (some ⟨w.heap.size, 0, none⟩) 0 0, .slice none 0 0, .int .i64 0, .int .i64 0] 207)) (w.heap.size + 1) w.heap.size (Ar.new 0 [.string ⟨#[]⟩, .int .i64 0, .string ⟨#[]⟩]) [] := by
  refine ⟨.slice none 0 0, [], ?_, Gr.nil 3 1, new_ok 0 (by omega) _ rfl ⟨_, _, _, rfl⟩⟩
  have h1 := ((Hv.start w).alloc (.cells (flat []) 210)).alloc (.cells #[.slice (some ⟨w.heap.size, 0, none⟩) 0 0, .slice none 0 0, .int .i64 0, .int .i64 0] 207)
  rw [show (w.alloc (.cells (flat []) 210)).heap.size = w.heap.size + 1 by simp] at h1
  exact h1
 by_cases h0 : n < 0
 ·have d1 : decide (n < 0) = true := decide_eq_true h0
  clear hn h0
  go_enter Try.func129, Try.ntmps129
  go_wp2
  go_ret
  exact ⟨rfl, fin⟩
 ·have d1 : decide (n < 0) = false := decide_eq_false h0
  have d2 : decide (4096 < n) = true := decide_eq_true (by omega)
  clear hn h0
  go_enter Try.func129, Try.ntmps129
  go_wp2
  go_ret
  exact ⟨rfl, fin⟩
theorem new.calls (n : Int) (w : World) : Calls Try.prog 129 #[.int .i64 n] w fun e w' => e = .returned (.pointer (some ⟨w.heap.size + 1, 0, none⟩)) ∧ Arn w w' (w.heap.size + 1) w.heap.size (Ar.new (many n) [.string ⟨#[]⟩, .int .i64 0, .string ⟨#[]⟩]) [] := by
 unfold many
 by_cases h : n < 0 ∨ n > 4096
 ·rw [if_pos h]
  exact new0.calls n h w
 ·rw [if_neg h]
  have := new1.calls n.toNat (by omega) w
  rwa [show ((n.toNat : Nat) : Int) = n by omega] at this
end
section
variable {w0 w w1 : World} {g sb : Nat} {s : Ar} {L L' : List Ob}
theorem Arn.join (h : Arn w0 w g sb s L) {A : List Ob} (k : Hv w w1 A) : Arn w0 w1 g sb s (A ++ L) := by
 obtain ⟨bv, B, h1, h2, h3⟩ := h
 refine ⟨bv, B, (h1.join k).perm ?_, h2, h3⟩
 rw [← List.append_assoc, ← List.append_assoc]
 exact List.Perm.append_right L List.perm_append_comm
theorem Arn.tail {a : Ob} (h : Arn w0 w g sb s (a :: L)) : Arn w0 w g sb s L := by
 obtain ⟨bv, B, h1, h2, h3⟩ := h
 exact ⟨bv, B, h1.drop (List.Sublist.append_left (List.sublist_cons_self a L) _), h2, h3⟩
theorem Arn.lens {X A Y : List Ob} (h : Arn w0 w g sb s (X ++ (A ++ Y))) : ∃ R, Hv w0 w (A ++ R) ∧ ∀ w' A', Hv w0 w' (A' ++ R) → Arn w0 w' g sb s (X ++ (A' ++ Y)) := by
 obtain ⟨bv, B, h1, h2, h3⟩ := h
 have key : ∀ A' : List Ob, (A' ++ (AL g sb bv B s ++ (X ++ Y))).Perm (AL g sb bv B s ++ (X ++ (A' ++ Y))) := fun A' => by
  have e1 : (A' ++ ((AL g sb bv B s ++ X) ++ Y)).Perm ((AL g sb bv B s ++ X) ++ (A' ++ Y)) := by
   rw [← List.append_assoc, ← List.append_assoc (AL g sb bv B s ++ X)]
   exact List.Perm.append_right Y List.perm_append_comm
  simpa [List.append_assoc] using e1
 exact ⟨AL g sb bv B s ++ (X ++ Y), h1.perm (key A), fun w' A' hw => ⟨bv, B, hw.perm (key A').symm, h2, h3⟩⟩
theorem Arn.Take (h : Arn w0 w g sb s L) (x0 : ByteArray) (x1 : Int) (x2 : ByteArray) {a b er : Int} {s' : Ar} (hr : tk s = (a, b, er)) (hs : s.took [.string x0, .int .i64 x1, .string x2] = s') :
  Calls Try.prog 131 #[.pointer (some ⟨g, 0, none⟩), .agg #[.string x0, .int .i64 x1, .string x2]] w fun e w' => e = .returned (.tuple #[.agg #[.int .i64 a, .int .i64 b], .int .i64 er]) ∧ Arn w0 w' g sb s' L := by
 subst hs
 unfold tk at hr
 unfold Ar.took
 by_cases h0 : s.room = 0
 ·rw [if_pos h0] at hr ⊢
  simp only [Prod.mk.injEq] at hr
  obtain ⟨rfl, rfl, rfl⟩ := hr
  exact (take0.calls h h0 (x0) (x1) (x2)).mono fun e w' ⟨h1, h2⟩ => ⟨h1, h.call h2⟩
 ·rw [if_neg h0] at hr ⊢
  simp only [Prod.mk.injEq] at hr
  obtain ⟨rfl, rfl, rfl⟩ := hr
  by_cases hk : s.back = []
  ·exact take1.calls h h0 hk (x0) (x1) (x2)
  ·exact take2.calls h h0 hk (x0) (x1) (x2)
theorem Arn.Get (h : Arn w0 w g sb s L) (i q : Int) (hq : s.has i q = true) (x0 : ByteArray) (x1 : Int) (x2 : ByteArray) (hx : (s.slot i).x = [.string x0, .int .i64 x1, .string x2]) : Calls Try.prog 138 #[.pointer (some ⟨g, 0, none⟩), .agg #[.int .i64 i, .int .i64 q]] w fun e w' => e = .returned (.tuple #[.agg #[.string x0, .int .i64 x1, .string x2], .bool true]) ∧ Arn w0 w' g sb s L :=
 (get.calls h i q hq (x0) (x1) (x2) hx).mono fun e w' ⟨h1, h2⟩ => ⟨h1, h.call h2⟩
theorem Arn.GetNo (h : Arn w0 w g sb s L) (i q : Int) (hq : s.has i q = false) : Calls Try.prog 138 #[.pointer (some ⟨g, 0, none⟩), .agg #[.int .i64 i, .int .i64 q]] w fun e w' => e = .returned (.tuple #[.agg #[.string ⟨#[]⟩, .int .i64 0, .string ⟨#[]⟩], .bool false]) ∧ Arn w0 w' g sb s L :=
 (getNo.calls h i q hq).mono fun e w' ⟨h1, h2⟩ => ⟨h1, h.call h2⟩
theorem Arn.Set (h : Arn w0 w g sb s L) (i q : Int) (x0 : ByteArray) (x1 : Int) (x2 : ByteArray) {b : Bool} {s' : Ar} (hb : s.has i q = b) (hs : s.set i q [.string x0, .int .i64 x1, .string x2] = s') : Calls Try.prog 137 #[.pointer (some ⟨g, 0, none⟩), .agg #[.int .i64 i, .int .i64 q], .agg #[.string x0, .int .i64 x1, .string x2]] w fun e w' => e = .returned (.bool b) ∧ Arn w0 w' g sb s' L := by
 subst hs
 unfold Ar.set
 cases b with
 | true => rw [if_pos hb]; exact set.calls h i q hb (x0) (x1) (x2)
 | false => rw [if_neg (by simp [hb])]; exact (setNo.calls h i q hb (x0) (x1) (x2)).mono fun e w' ⟨h1, h2⟩ => ⟨h1, h.call h2⟩
theorem Arn.Free (h : Arn w0 w g sb s L) (i q : Int) {b : Bool} {s' : Ar} (hb : s.has i q = b) (hs : s.free i q [.string ⟨#[]⟩, .int .i64 0, .string ⟨#[]⟩] = s') : Calls Try.prog 133 #[.pointer (some ⟨g, 0, none⟩), .agg #[.int .i64 i, .int .i64 q]] w fun e w' => e = .returned (.bool b) ∧ Arn w0 w' g sb s' L := by
 subst hs
 unfold Ar.free
 cases b with
 | true => rw [if_pos hb]; exact free.calls h i q hb
 | false => rw [if_neg (by simp [hb])]; exact (freeNo.calls h i q hb).mono fun e w' ⟨h1, h2⟩ => ⟨h1, h.call h2⟩
theorem Arn.Room (h : Arn w0 w g sb s L) {r : Int} (hr : s.room = r) : Calls Try.prog 130 #[.pointer (some ⟨g, 0, none⟩)] w fun e w' => e = .returned (.int .i64 r) ∧ Arn w0 w' g sb s L := by
 subst hr
 exact (room.calls h).mono fun e w' ⟨h1, h2⟩ => ⟨h1, h.call h2.below⟩
theorem Arn.Live (h : Arn w0 w g sb s L) {l : List (Int × Int)} (hl : s.live = l) {n : Nat} (hn : l.length = n) : Calls Try.prog 141 #[.pointer (some ⟨g, 0, none⟩)] w fun e w' => ∃ ad c A, e = .returned (.slice ad n c) ∧ Gr 33 2 (.slice ad n c) n (refs l) A ∧ Arn w0 w' g sb s (A ++ L) := by
 subst hl hn
 exact (live.calls h).mono fun e w' ⟨ad, c, A, h1, h2, h3⟩ => ⟨ad, c, A, h1, h2, h.join h3⟩
theorem New (h : Hv w0 w L) (n : Int) : Calls Try.prog 129 #[.int .i64 n] w fun e w' => ∃ g sb, e = .returned (.pointer (some ⟨g, 0, none⟩)) ∧ Arn w0 w' g sb (Ar.new (many n) [.string ⟨#[]⟩, .int .i64 0, .string ⟨#[]⟩]) L :=
 (new.calls n w).mono fun e w' ⟨h1, bv, B, h2, h3, h4⟩ => ⟨_, _, h1, bv, B, by
  have := h.join h2
  rw [List.append_nil] at this
  exact this, h3, h4⟩
end
end Go.Proofs.Ytglbcfkmaamhaaa.ArR
section
namespace Go.Proofs.Ytglbcfkmaamhaaa.Bs
open Go Go.RowKit Go.Proofs.YtglbcfkmaamhaaaW.PrintWords Go.Proofs.YtglbcfkmaamhaaaW.PrintLast Go.Proofs.YtglbcfkmaamhaaaW.PrintMore Go.Proofs.Ytglbcfkmaamhaaa.Hv Go.Proofs.Ytglbcfkmaamhaaa.Arm Go.Proofs.Ytglbcfkmaamhaaa.Nd Go.Proofs.Ytglbcfkmaamhaaa.Tr
variable {w0 w w1 : World} {L L' R : List Ob} {t : Tm} {s : Ar} {f : Int} {on : Value}
theorem mperm {K : Nat × Nat × Nat} (h : Mt w0 w K t on R L) (hp : L'.Perm L) : Mt w0 w K t on R L' := by
 obtain ⟨s, gv, G, e, h1, h2, h3⟩ := h
 exact ⟨s, gv, G, e, h1.perm (List.Perm.cons _ (List.Perm.append_left _ (List.Perm.append_left _ hp))), h2, h3⟩
structure Jx where
 b : Nat
 K : Nat × Nat × Nat
 g : Nat
 sb : Nat
abbrev bb (J : Jx) (f : Int) : Ob := cb J.b 189 #[.pointer (some ⟨J.K.1, 0, none⟩), .pointer (some ⟨J.g, 0, none⟩), .int .i64 f]
def Bt (w0 w : World) (J : Jx) (t : Tm) (s : Ar) (f : Int) (on : Value) (R L : List Ob) : Prop :=
 ∃ bv B, Gr 3 1 bv s.back.length (nums .i64 s.back) B ∧ s.Ok 3 ArR.XP ∧ Mt w0 w J.K t on R (bb J f :: (ArR.AL J.g J.sb bv B s ++ L))
namespace Bt
variable {J : Jx}
theorem call (h : Bt w0 w J t s f on R L) (hb : Below w.heap.size w w1) : Bt w0 w1 J t s f on R L := by
 obtain ⟨bv, B, h1, h2, h3⟩ := h
 exact ⟨bv, B, h1, h2, h3.call hb⟩
theorem drew (h : Bt w0 w J t s f on R L) : Bt w0 w.drew J t s f on R L := h.call (below_drew1 (Below.refl _ _))
theorem drewN (h : Bt w0 w J t s f on R L) (n : Nat) : Bt w0 (w.drewN n) J t s f on R L := h.call (pw_below_drewN (Below.refl _ _) n)
theorem bel (h : Bt w0 w J t s f on R L) : Below w0.heap.size w0 w := by
 obtain ⟨bv, B, h1, h2, h3⟩ := h
 exact h3.bel
theorem other (h : Bt w0 w J t s f on R L) : Hv w0 w L := by
 obtain ⟨bv, B, h1, h2, h3⟩ := h
 exact h3.other.tail.right
theorem alloc (h : Bt w0 w J t s f on R L) (o : Obj) : Bt w0 (w.alloc o) J t s f on R ((w.heap.size, o) :: L) := by
 obtain ⟨bv, B, h1, h2, h3⟩ := h
 refine ⟨bv, B, h1, h2, mperm (h3.alloc o) ?_⟩
 exact (List.Perm.cons _ List.perm_middle).trans (List.Perm.swap _ _ _)
theorem drop (h : Bt w0 w J t s f on R L) (hs : L'.Sublist L) : Bt w0 w J t s f on R L' := by
 obtain ⟨bv, B, h1, h2, h3⟩ := h
 exact ⟨bv, B, h1, h2, h3.drop (List.Sublist.cons_cons _ (List.Sublist.append_left hs _))⟩
theorem tail {a : Ob} (h : Bt w0 w J t s f on R (a :: L)) : Bt w0 w J t s f on R L := h.drop (List.sublist_cons_self _ _)
theorem tree (h : Bt w0 w J t s f on R L) : ∃ Lx, Mt w0 w J.K t on R Lx ∧ (∀ p ∈ L, p ∈ Lx) ∧ ∀ w' t' on' R' A, Mt w0 w' J.K t' on' R' (A ++ Lx) → Bt w0 w' J t' s f on' R' (A ++ L) := by
 obtain ⟨bv, B, h1, h2, h3⟩ := h
 refine ⟨_, h3, fun p hp => by simp [hp], fun w' t' on' R' A h' => ⟨bv, B, h1, h2, mperm h' ?_⟩⟩
 have : (A ++ ((bb J f :: ArR.AL J.g J.sb bv B s) ++ L)).Perm ((bb J f :: ArR.AL J.g J.sb bv B s) ++ (A ++ L)) := by
  rw [← List.append_assoc, ← List.append_assoc]
  exact List.Perm.append_right _ List.perm_append_comm
 exact this.symm
theorem recs (h : Bt w0 w J t s f on R L) : ∃ Q, ArR.Arn w0 w J.g J.sb s Q ∧ (∀ p ∈ L, p ∈ Q) ∧ ∀ w' s', ArR.Arn w0 w' J.g J.sb s' Q → Bt w0 w' J t s' f on R L := by
 obtain ⟨bv, B, h1, h2, sn, gv, G, e, ⟨bn, Bn, k1, k2, k3⟩, k4, k5⟩ := h
 have key : ∀ X : List Ob, ((ArN.AL J.K.2.1 J.K.2.2 bn Bn sn ++ (tb J.K t gv on :: (G ++ (R ++ (bb J f :: (X ++ L))))))).Perm (X ++ (ArN.AL J.K.2.1 J.K.2.2 bn Bn sn ++ (tb J.K t gv on :: (G ++ (R ++ (bb J f :: L)))))) := fun X => by
  have := List.Perm.append_right L (List.perm_append_comm (l₁ := ArN.AL J.K.2.1 J.K.2.2 bn Bn sn ++ (tb J.K t gv on :: (G ++ (R ++ [bb J f])))) (l₂ := X))
  simpa [List.append_assoc] using this
 refine ⟨_, ⟨bv, B, k1.perm (key _).symm, h1, h2⟩, fun p hp => by simp [hp], fun w' s' h' => ?_⟩
 obtain ⟨bv', B', q1, q2, q3⟩ := h'
 exact ⟨bv', B', q2, q3, sn, gv, G, e, ⟨bn, Bn, q1.perm (key _), k2, k3⟩, k4, k5⟩
theorem put {X Y : List Ob} {g ty : Nat} {cs : Array Value} (h : Bt w0 w J t s f on R (X ++ cb g ty cs :: Y)) (i : Nat) (u : Value) {cs' : Array Value} (e : cs.setIfInBounds i u = cs') : Bt w0 (w.setCell ⟨g, i, none⟩ u) J t s f on R (X ++ cb g ty cs' :: Y) := by
 obtain ⟨bv, B, h1, h2, h3⟩ := h
 refine ⟨bv, B, h1, h2, ?_⟩
 have h4 : Mt w0 w J.K t on R ((bb J f :: (ArR.AL J.g J.sb bv B s ++ X)) ++ cb g ty cs :: Y) := by simpa [List.append_assoc] using h3
 simpa [List.append_assoc] using h4.put i u e
theorem putB0 {Y : List Ob} {g ty : Nat} {cs : Array Value} (h : Bt w0 w J t s f on R (cb g ty cs :: Y)) (i : Nat) (u : Value) {cs' : Array Value} (e : cs.setIfInBounds i u = cs') : Bt w0 (w.setCell ⟨g, i, none⟩ u) J t s f on R (cb g ty cs' :: Y) := put (X := []) h i u e
theorem putB1 {Y : List Ob} {a : Ob} {g ty : Nat} {cs : Array Value} (h : Bt w0 w J t s f on R (a :: cb g ty cs :: Y)) (i : Nat) (u : Value) {cs' : Array Value} (e : cs.setIfInBounds i u = cs') : Bt w0 (w.setCell ⟨g, i, none⟩ u) J t s f on R (a :: cb g ty cs' :: Y) := put (X := [a]) h i u e
theorem putB2 {Y : List Ob} {a b : Ob} {g ty : Nat} {cs : Array Value} (h : Bt w0 w J t s f on R (a :: b :: cb g ty cs :: Y)) (i : Nat) (u : Value) {cs' : Array Value} (e : cs.setIfInBounds i u = cs') : Bt w0 (w.setCell ⟨g, i, none⟩ u) J t s f on R (a :: b :: cb g ty cs' :: Y) := put (X := [a, b]) h i u e
theorem own (h : Bt w0 w J t s f on R L) : ∃ Q, Hv w0 w (bb J f :: Q) ∧ (∀ p ∈ L, p ∈ Q) ∧ ∀ w' f', Hv w0 w' (bb J f' :: Q) → Bt w0 w' J t s f' on R L := by
 obtain ⟨bv, B, h1, h2, h3⟩ := h
 obtain ⟨sn, gv, G, e, ⟨bn, Bn, k1, k2, k3⟩, k4, k5⟩ := h3
 have key : ∀ a : Ob, (ArN.AL J.K.2.1 J.K.2.2 bn Bn sn ++ (tb J.K t gv on :: (G ++ (R ++ (a :: (ArR.AL J.g J.sb bv B s ++ L)))))).Perm (a :: (ArN.AL J.K.2.1 J.K.2.2 bn Bn sn ++ (tb J.K t gv on :: (G ++ (R ++ (ArR.AL J.g J.sb bv B s ++ L)))))) := fun a => by
  have := List.perm_middle (a := a) (l₁ := ArN.AL J.K.2.1 J.K.2.2 bn Bn sn ++ (tb J.K t gv on :: (G ++ R))) (l₂ := ArR.AL J.g J.sb bv B s ++ L)
  simpa [List.append_assoc] using this
 exact ⟨_, k1.perm (key _).symm, fun p hp => by simp [hp], fun w' f' h' => ⟨bv, B, h1, h2, sn, gv, G, e, ⟨bn, Bn, h'.perm (key _), k2, k3⟩, k4, k5⟩⟩
theorem cells (h : Bt w0 w J t s f on R L) : w.cell? ⟨J.b, 0, none⟩ = some (.pointer (some ⟨J.K.1, 0, none⟩)) ∧ w.cell? ⟨J.b, 1, none⟩ = some (.pointer (some ⟨J.g, 0, none⟩)) ∧ w.cell? ⟨J.b, 2, none⟩ = some (.int .i64 f) ∧ w.frozen? ⟨J.b, 2, none⟩ = false := by
 obtain ⟨Q, h1, h2, h3⟩ := h.own
 obtain ⟨x0, x1, x2, f0, f1, f2⟩ := h1.c3 _ _ _ _ _ List.mem_cons_self
 exact ⟨x0, x1, x2, f2⟩
theorem setF (h : Bt w0 w J t s f on R L) (f' : Int) : Bt w0 (w.setCell ⟨J.b, 2, none⟩ (.int .i64 f')) J t s f' on R L := by
 obtain ⟨Q, h1, h2, h3⟩ := h.own
 exact h3 _ f' (h1.put0 2 _ rfl)
theorem apart (h : Bt w0 w J t s f on R L) {p : Ob} (hp : p ∈ L) : ¬ J.b = p.1 ∧ ¬ p.1 = J.b := by
 obtain ⟨Q, h1, h2, h3⟩ := h.own
 obtain ⟨i, hi⟩ := List.getElem?_of_mem (h2 p hp)
 have := h1.apart (i := 0) (j := i + 1) rfl hi (by omega)
 exact ⟨this, fun e => this e.symm⟩
end Bt
end Go.Proofs.Ytglbcfkmaamhaaa.Bs
end
namespace Go.Proofs.Ytglbcfkmaamhaaa.Bs
open Go Go.RowKit Go.Proofs.YtglbcfkmaamhaaaW.PrintWords Go.Proofs.YtglbcfkmaamhaaaW.PrintLast Go.Proofs.YtglbcfkmaamhaaaW.PrintMore Go.Proofs.Ytglbcfkmaamhaaa.Hv Go.Proofs.Ytglbcfkmaamhaaa.Arm Go.Proofs.Ytglbcfkmaamhaaa.Nd Go.Proofs.Ytglbcfkmaamhaaa.Tr
section
variable {w0 w w1 : World} {L L' R : List Ob} {t : Tm} {s : Ar} {f : Int} {on : Value} {J : Jx}
def Pur (f : Nat) (args : Array Value) (v : Value) : Prop := ∀ w : World, Calls Try.prog f args w fun e w' => e = .returned v ∧ Below w.heap.size w w'
theorem with0ftf : Pur 132 #[.int .i64 0, .bool false, .bool true, .bool false] (.int .i64 2) := fun w => by
 have hb : bits BinOp.or IntKind.i64 (bits BinOp.andNot IntKind.i64 0 7) 2 = 2 := by kernel_rfl
 go_enter Try.func132, Try.ntmps132
 go_wp2_with fail
 exact bodyPost_ret (v := .int .i64 2) (by simp [results, Try.results132, go_sem, hb]) rfl ⟨rfl, Below.refl _ _⟩
theorem with2ttf : Pur 132 #[.int .i64 2, .bool true, .bool true, .bool false] (.int .i64 3) := fun w => by
 have hb : bits BinOp.or IntKind.i64 (bits BinOp.or IntKind.i64 (bits BinOp.andNot IntKind.i64 2 7) 2) 1 = 3 := by kernel_rfl
 go_enter Try.func132, Try.ntmps132
 go_wp2_with fail
 exact bodyPost_ret (v := .int .i64 3) (by simp [results, Try.results132, go_sem, hb]) rfl ⟨rfl, Below.refl _ _⟩
theorem with8fff : Pur 132 #[.int .i64 8, .bool false, .bool false, .bool false] (.int .i64 8) := fun w => by
 have hb : bits BinOp.andNot IntKind.i64 8 7 = 8 := by kernel_rfl
 go_enter Try.func132, Try.ntmps132
 go_wp2_with fail
 exact bodyPost_ret (v := .int .i64 8) (by simp [results, Try.results132, go_sem, hb]) rfl ⟨rfl, Below.refl _ _⟩
theorem with8fft : Pur 132 #[.int .i64 8, .bool false, .bool false, .bool true] (.int .i64 12) := fun w => by
 have hb : bits BinOp.or IntKind.i64 (bits BinOp.andNot IntKind.i64 8 7) 4 = 12 := by kernel_rfl
 go_enter Try.func132, Try.ntmps132
 go_wp2_with fail
 exact bodyPost_ret (v := .int .i64 12) (by simp [results, Try.results132, go_sem, hb]) rfl ⟨rfl, Below.refl _ _⟩
theorem with2ftt : Pur 132 #[.int .i64 2, .bool false, .bool true, .bool true] (.int .i64 6) := fun w => by
 have hb : bits BinOp.or IntKind.i64 (bits BinOp.or IntKind.i64 (bits BinOp.andNot IntKind.i64 2 7) 4) 2 = 6 := by kernel_rfl
 go_enter Try.func132, Try.ntmps132
 go_wp2_with fail
 exact bodyPost_ret (v := .int .i64 6) (by simp [results, Try.results132, go_sem, hb]) rfl ⟨rfl, Below.refl _ _⟩
theorem locked2 : Pur 134 #[.int .i64 2] (.bool false) := fun w => by
 have hb : bits BinOp.and IntKind.i64 2 1 = 0 := by kernel_rfl
 go_enter Try.func134, Try.ntmps134
 go_wp2_with fail
 exact bodyPost_ret (v := .bool false) (by simp [results, Try.results134, go_sem, hb]) rfl ⟨rfl, Below.refl _ _⟩
theorem locked3 : Pur 134 #[.int .i64 3] (.bool true) := fun w => by
 have hb : bits BinOp.and IntKind.i64 3 1 = 1 := by kernel_rfl
 go_enter Try.func134, Try.ntmps134
 go_wp2_with fail
 exact bodyPost_ret (v := .bool true) (by simp [results, Try.results134, go_sem, hb]) rfl ⟨rfl, Below.refl _ _⟩
theorem locked8 : Pur 134 #[.int .i64 8] (.bool false) := fun w => by
 have hb : bits BinOp.and IntKind.i64 8 1 = 0 := by kernel_rfl
 go_enter Try.func134, Try.ntmps134
 go_wp2_with fail
 exact bodyPost_ret (v := .bool false) (by simp [results, Try.results134, go_sem, hb]) rfl ⟨rfl, Below.refl _ _⟩
theorem locked6 : Pur 134 #[.int .i64 6] (.bool false) := fun w => by
 have hb : bits BinOp.and IntKind.i64 6 1 = 0 := by kernel_rfl
 go_enter Try.func134, Try.ntmps134
 go_wp2_with fail
 exact bodyPost_ret (v := .bool false) (by simp [results, Try.results134, go_sem, hb]) rfl ⟨rfl, Below.refl _ _⟩
theorem dead2 : Pur 135 #[.int .i64 2] (.bool false) := fun w => by
 have hb : bits BinOp.and IntKind.i64 2 4 = 0 := by kernel_rfl
 go_enter Try.func135, Try.ntmps135
 go_wp2_with fail
 exact bodyPost_ret (v := .bool false) (by simp [results, Try.results135, go_sem, hb]) rfl ⟨rfl, Below.refl _ _⟩
theorem dead8 : Pur 135 #[.int .i64 8] (.bool false) := fun w => by
 have hb : bits BinOp.and IntKind.i64 8 4 = 0 := by kernel_rfl
 go_enter Try.func135, Try.ntmps135
 go_wp2_with fail
 exact bodyPost_ret (v := .bool false) (by simp [results, Try.results135, go_sem, hb]) rfl ⟨rfl, Below.refl _ _⟩
theorem dead12 : Pur 135 #[.int .i64 12] (.bool true) := fun w => by
 have hb : bits BinOp.and IntKind.i64 12 4 = 4 := by kernel_rfl
 go_enter Try.func135, Try.ntmps135
 go_wp2_with fail
 exact bodyPost_ret (v := .bool true) (by simp [results, Try.results135, go_sem, hb]) rfl ⟨rfl, Below.refl _ _⟩
theorem dead6 : Pur 135 #[.int .i64 6] (.bool true) := fun w => by
 have hb : bits BinOp.and IntKind.i64 6 4 = 4 := by kernel_rfl
 go_enter Try.func135, Try.ntmps135
 go_wp2_with fail
 exact bodyPost_ret (v := .bool true) (by simp [results, Try.results135, go_sem, hb]) rfl ⟨rfl, Below.refl _ _⟩
theorem absent2 : Pur 136 #[.int .i64 2] (.bool true) := fun w => by
 have hb : bits BinOp.and IntKind.i64 2 2 = 2 := by kernel_rfl
 go_enter Try.func136, Try.ntmps136
 go_wp2_with fail
 exact bodyPost_ret (v := .bool true) (by simp [results, Try.results136, go_sem, hb]) rfl ⟨rfl, Below.refl _ _⟩
theorem absent8 : Pur 136 #[.int .i64 8] (.bool false) := fun w => by
 have hb : bits BinOp.and IntKind.i64 8 2 = 0 := by kernel_rfl
 go_enter Try.func136, Try.ntmps136
 go_wp2_with fail
 exact bodyPost_ret (v := .bool false) (by simp [results, Try.results136, go_sem, hb]) rfl ⟨rfl, Below.refl _ _⟩
theorem faults.calls (h : Bt w0 w J t s f on R L) : Calls Try.prog 81 #[.pointer (some ⟨J.b, 0, none⟩)] w fun e w' => e = .returned (.int .i64 f) ∧ Bt w0 w' J t s f on R L := by
 have hu189 := Try.underlying189
 have HB := As h
 obtain ⟨c0, c1, c2, c3⟩ := h.cells
 clear h
 go_enter Try.func81, Try.ntmps81
 go_wp2_with fail
 exact bodyPost_ret (v := .int .i64 f) (by simp [results, Try.results81, go_sem]) rfl ⟨rfl, HB.out⟩
end
section
variable {w0 w w1 : World} {L L' R : List Ob} {t : Tm} {s : Ar} {f : Int} {on : Value} {J : Jx}
def rcell (c : ByteArray × Int × ByteArray) : List Value := [.string c.1, .int .i64 c.2.1, .string c.2.2]
def Got (s : Ar) (r : Rf) (c : ByteArray × Int × ByteArray) (b : Bool) : Prop :=
 (b = true ∧ s.has r.1 r.2 = true ∧ (s.slot r.1).x = rcell c) ∨ (b = false ∧ s.has r.1 r.2 = false ∧ c = (⟨#[]⟩, 0, ⟨#[]⟩))
theorem rget.calls (h : Bt w0 w J t s f on R L) (r : Rf) {c : ByteArray × Int × ByteArray} {b : Bool} (hg : Got s r c b) : Calls Try.prog 138 #[.pointer (some ⟨J.g, 0, none⟩), .agg #[.int .i64 r.1, .int .i64 r.2]] w fun e w' => e = .returned (.tuple #[.agg #[.string c.1, .int .i64 c.2.1, .string c.2.2], .bool b]) ∧ Bt w0 w' J t s f on R L := by
 obtain ⟨Q, h1, h2, h3⟩ := h.recs
 rcases hg with ⟨rfl, hq, hx⟩ | ⟨rfl, hq, rfl⟩
 ·exact (h1.Get r.1 r.2 hq _ _ _ hx).mono (fun e w' hh => ⟨hh.1, h3 _ _ hh.2⟩)
 ·exact (h1.GetNo r.1 r.2 hq).mono (fun e w' hh => ⟨hh.1, h3 _ _ hh.2⟩)
def fl (f : Int) (b : Bool) : Int := if b then f else f + 1
theorem get.calls (h : Bt w0 w J t s f on R L) (r : Rf) {c : ByteArray × Int × ByteArray} {b : Bool} (hg : Got s r c b) (hf : 0 ≤ f) (hf2 : f ≤ 1000000) : Calls Try.prog 82 #[.pointer (some ⟨J.b, 0, none⟩), .agg #[.int .i64 r.1, .int .i64 r.2]] w fun e w' => e = .returned (.tuple #[.agg #[.string c.1, .int .i64 c.2.1, .string c.2.2], .bool b]) ∧ Bt w0 w' J t s (fl f b) on R L := by
 have hu33 := Try.underlying33
 have hu116 := Try.underlying116
 have hu126 := Try.underlying126
 have hu189 := Try.underlying189
 have HM := As (show Bt w0 _ J t s f on R (cb (w.heap.size + 1) 126 #[.string ⟨#[]⟩, .int .i64 0, .string ⟨#[]⟩] :: cb (w.heap.size) 33 #[.int .i64 r.1, .int .i64 r.2] :: L) by
  have := (h.alloc (.cells #[.int .i64 r.1, .int .i64 r.2] 33)).alloc (.cells #[.string ⟨#[]⟩, .int .i64 0, .string ⟨#[]⟩] 126)
  simpa [cb] using this)
 have HG := As hg
 have HF := As (And.intro hf hf2)
 clear h hg hf hf2
 obtain ⟨t3_0, t3_1, t3_f0, t3_f1⟩ := HM.out.other.c2 (w.heap.size) 33 (.int .i64 r.1) (.int .i64 r.2) (by simp)
 obtain ⟨t4_0, t4_1, t4_2, t4_f0, t4_f1, t4_f2⟩ := HM.out.other.c3 (w.heap.size + 1) 126 (.string ⟨#[]⟩) (.int .i64 0) (.string ⟨#[]⟩) (by simp)
 go_enter Try.func82, Try.ntmps82
 go_upto_region 3 with (fail)
 clear t3_0 t3_f0 t3_1 t3_f1 t4_0 t4_f0 t4_1 t4_f1 t4_2 t4_f2
 have SP := As (show ∀ (w' : World) (t' : Tm) (s' : Ar) (f' : Int) (on' : Value) (R' L' : List Ob), Bt w0 w' J t' s' f' on' R' L' → cb (w.heap.size) 33 #[.int .i64 r.1, .int .i64 r.2] ∈ L' → (w'.cell? ⟨J.b, 0, none⟩ = some (.pointer (some ⟨J.K.1, 0, none⟩)) ∧ w'.cell? ⟨J.b, 1, none⟩ = some (.pointer (some ⟨J.g, 0, none⟩)) ∧ w'.cell? ⟨w.heap.size, 0, none⟩ = some (.int .i64 r.1) ∧ w'.cell? ⟨w.heap.size, 1, none⟩ = some (.int .i64 r.2)) from fun w' t' s' f' on' R' L' h m0 => by
  obtain ⟨c0, c1, -, -⟩ := h.cells
  obtain ⟨t3_0, t3_1, -, -⟩ := h.other.c2 _ _ _ _ m0
  exact ⟨c0, c1, t3_0, t3_1⟩)
 have HD := As HM.out.drew
 refine start_ (n := 12) (S := fun w' => w'.cell? ⟨J.b, 0, none⟩ = some (.pointer (some ⟨J.K.1, 0, none⟩)) ∧ w'.cell? ⟨J.b, 1, none⟩ = some (.pointer (some ⟨J.g, 0, none⟩)) ∧ w'.cell? ⟨w.heap.size, 0, none⟩ = some (.int .i64 r.1) ∧ w'.cell? ⟨w.heap.size, 1, none⟩ = some (.int .i64 r.2)) (ds := [10]) #[false, false, false, false, false, false, false, false, false, false, false, false] (by kernel_rfl) rfl rfl (SP.out _ _ _ _ _ _ _ HD.out (by simp)) (fun hHeld => ?_)
 generalize ((w.alloc (.cells #[.int .i64 r.1, .int .i64 r.2] 33)).alloc (.cells #[.string ⟨#[]⟩, .int .i64 0, .string ⟨#[]⟩] 126)).drew = wx at HD hHeld ⊢
 refine pu_ 0 (some 12) ?_
 refine pu_ 1 (some 13) ?_
 refine pu_ 2 (some 14) ?_
 refine ta_ 3 (some 15) hHeld ?_ (hy := Or.inl ⟨by rfl, by rintro w' ⟨s0, s1, s2, s3⟩; go_simp; with_reducible rfl⟩)
 refine ta_ 4 (some 16) hHeld ?_ (hy := Or.inl ⟨by rfl, by rintro w' ⟨s0, s1, s2, s3⟩; go_simp; with_reducible rfl⟩)
 refine two_ (i := 5) (j := 9) (Ni := some 17) (Nj := some 6) #[true, true, true, true, true, true, false, false, false, false, false, false] #[true, true, true, true, true, false, false, false, false, true, false, false] rfl rfl rfl rfl (by kernel_rfl) (by decide) (by decide) (fun K_ hK => ?_) (fun K_ hK => ?_)
 ·refine gs_ Try.func138 #[.pointer (some ⟨J.g, 0, none⟩), .agg #[.int .i64 r.1, .int .i64 r.2]] ?_
  refine (rget.calls HD.out r HG.out).mono ?_
  rintro e9 wy1 ⟨rfl, hh⟩
  refine ⟨_, rfl, ?_⟩
  have HY1 := As (show Bt w0 wy1 J t s f on R (cb (w.heap.size + 1) 126 #[.string ⟨#[]⟩, .int .i64 0, .string ⟨#[]⟩] :: cb (w.heap.size) 33 #[.int .i64 r.1, .int .i64 r.2] :: L) from hh)
  clear hh
  refine hK.out _ _ (SP.out _ _ _ _ _ _ _ HY1.out (by simp)) (fun hHeld => ?_)
  clear hK K_
  refine nm_ ?_
  refine pu_ 6 (some 11) ?_
  refine pu_ 7 (some 18) ?_
  refine pu_ 8 (some 19) ?_
  refine on_ 9 (some 6) fun K_ hK => ?_
  refine value_ (v := .pointer (some ⟨wy1.heap.size, 0, none⟩)) (w1 := wy1.alloc (.cells #[.string ⟨#[]⟩, .int .i64 0, .string ⟨#[]⟩] 126)) (by rfl) rfl ?_ ?_
  ·go_simp
  obtain ⟨wy2, hW, hvv⟩ : ∃ W, W = wy1.alloc (.cells #[.string ⟨#[]⟩, .int .i64 0, .string ⟨#[]⟩] 126) ∧ Bt w0 W J t s f on R (cb (wy1.heap.size) 126 #[.string ⟨#[]⟩, .int .i64 0, .string ⟨#[]⟩] :: cb (w.heap.size + 1) 126 #[.string ⟨#[]⟩, .int .i64 0, .string ⟨#[]⟩] :: cb (w.heap.size) 33 #[.int .i64 r.1, .int .i64 r.2] :: L) := ⟨_, rfl, HY1.out.alloc _⟩
  rw [← hW]
  have HY2 := As hvv
  clear hW hvv
  refine hK.out _ _ (SP.out _ _ _ _ _ _ _ HY2.out (by simp)) (fun hHeld => ?_)
  clear hK K_
  refine nm_ ?_
  refine la_ 10 none fun K_ hK => ?_
  obtain ⟨b0, b1, b2, d0, d1, d2⟩ := HY2.out.other.c3 (wy1.heap.size) 126 (.string ⟨#[]⟩) (.int .i64 0) (.string ⟨#[]⟩) List.mem_cons_self
  refine sk_ (hK.out _ _ ?_)
  clear hK K_ b0 b1 b2 d0 d1 d2
  obtain ⟨wy3, hW, hvv⟩ : ∃ W, W = _ ∧ Bt w0 W J t s f on R (cb (wy1.heap.size) 126 #[.string c.1, .int .i64 c.2.1, .string c.2.2] :: cb (w.heap.size + 1) 126 #[.string ⟨#[]⟩, .int .i64 0, .string ⟨#[]⟩] :: cb (w.heap.size) 33 #[.int .i64 r.1, .int .i64 r.2] :: L) := ⟨_, rfl, (Bt.putB0 (Bt.putB0 (Bt.putB0 HY2.out 0 (.string c.1) rfl) 1 (.int .i64 c.2.1) rfl) 2 (.string c.2.2) rfl)⟩
  rw [← hW]
  have HY3 := As hvv
  clear hW hvv
  refine pu_ 11 (some 7) ?_
  refine done_ (by kernel_rfl) ?_
  have HQ := As (show Bt w0 wy3 J t s f on R (cb (wy1.heap.size) 126 #[.string c.1, .int .i64 c.2.1, .string c.2.2] :: cb (w.heap.size + 1) 126 #[.string ⟨#[]⟩, .int .i64 0, .string ⟨#[]⟩] :: cb (w.heap.size) 33 #[.int .i64 r.1, .int .i64 r.2] :: L) from HY3.out)
  generalize wy1.heap.size = g6 at HQ ⊢
  obtain ⟨t4_0, t4_1, t4_2, t4_f0, t4_f1, t4_f2⟩ := HQ.out.other.c3 (w.heap.size + 1) 126 (.string ⟨#[]⟩) (.int .i64 0) (.string ⟨#[]⟩) (by simp)
  obtain ⟨t6_0, t6_1, t6_2, t6_f0, t6_f1, t6_f2⟩ := HQ.out.other.c3 (g6) 126 (.string c.1) (.int .i64 c.2.1) (.string c.2.2) (by simp)
  obtain ⟨c0, c1, c2, c3⟩ := HQ.out.cells
  cases b
  ·obtain ⟨n1, n2⟩ := HQ.out.apart (p := cb (g6) 126 #[.string c.1, .int .i64 c.2.1, .string c.2.2]) (by simp)
   obtain ⟨n3, n4⟩ := HQ.out.apart (p := cb (w.heap.size + 1) 126 #[.string ⟨#[]⟩, .int .i64 0, .string ⟨#[]⟩]) (by simp)
   simp only [cb] at n1 n2 n3 n4
   have hwr : IntKind.i64.wrap (f + 1) = f + 1 := by rw [IntKind.wrap_i64]; have := HF.out.1; have := HF.out.2; omega
   have hwr2 : wrap64 (f + 1) = f + 1 := by unfold wrap64; have := HF.out.1; have := HF.out.2; omega
   go_wp2_with fail
   obtain ⟨wg, hw, hg⟩ : ∃ wg, wg = _ ∧ Bt w0 wg J t s (f + 1) on R (cb g6 126 #[.string c.1, .int .i64 c.2.1, .string c.2.2] :: cb (w.heap.size + 1) 126 #[.string c.1, .int .i64 c.2.1, .string c.2.2] :: cb w.heap.size 33 #[.int .i64 r.1, .int .i64 r.2] :: L) := ⟨_, rfl, (Bt.putB1 (Bt.putB1 (Bt.putB1 (HQ.out.setF (f + 1)) 0 (.string c.1) rfl) 1 (.int .i64 c.2.1) rfl) 2 (.string c.2.2) rfl)⟩
   rw [← hw]
   obtain ⟨e0, e1, e2, -, -, -⟩ := hg.other.c3 (w.heap.size + 1) 126 (.string c.1) (.int .i64 c.2.1) (.string c.2.2) (by simp)
   exact bodyPost_ret (v := .tuple #[.agg #[.string c.1, .int .i64 c.2.1, .string c.2.2], .bool false]) (by simp [results, Try.results82, go_sem, e0, e1, e2, hu126]) rfl ⟨rfl, hg.tail.tail.tail⟩
  ·go_wp2_with fail
   obtain ⟨wg, hw, hg⟩ : ∃ wg, wg = _ ∧ Bt w0 wg J t s f on R (cb g6 126 #[.string c.1, .int .i64 c.2.1, .string c.2.2] :: cb (w.heap.size + 1) 126 #[.string c.1, .int .i64 c.2.1, .string c.2.2] :: cb w.heap.size 33 #[.int .i64 r.1, .int .i64 r.2] :: L) := ⟨_, rfl, (Bt.putB1 (Bt.putB1 (Bt.putB1 HQ.out 0 (.string c.1) rfl) 1 (.int .i64 c.2.1) rfl) 2 (.string c.2.2) rfl)⟩
   rw [← hw]
   obtain ⟨e0, e1, e2, -, -, -⟩ := hg.other.c3 (w.heap.size + 1) 126 (.string c.1) (.int .i64 c.2.1) (.string c.2.2) (by simp)
   exact bodyPost_ret (v := .tuple #[.agg #[.string c.1, .int .i64 c.2.1, .string c.2.2], .bool true]) (by simp [results, Try.results82, go_sem, e0, e1, e2, hu126]) rfl ⟨rfl, hg.tail.tail.tail⟩
 ·refine value_ (v := .pointer (some ⟨wx.heap.size, 0, none⟩)) (w1 := wx.alloc (.cells #[.string ⟨#[]⟩, .int .i64 0, .string ⟨#[]⟩] 126)) (by rfl) rfl ?_ ?_
  ·go_simp
  obtain ⟨wy1, hW, hvv⟩ : ∃ W, W = wx.alloc (.cells #[.string ⟨#[]⟩, .int .i64 0, .string ⟨#[]⟩] 126) ∧ Bt w0 W J t s f on R (cb (wx.heap.size) 126 #[.string ⟨#[]⟩, .int .i64 0, .string ⟨#[]⟩] :: cb (w.heap.size + 1) 126 #[.string ⟨#[]⟩, .int .i64 0, .string ⟨#[]⟩] :: cb (w.heap.size) 33 #[.int .i64 r.1, .int .i64 r.2] :: L) := ⟨_, rfl, HD.out.alloc _⟩
  rw [← hW]
  have HY1 := As hvv
  clear hW hvv
  refine hK.out _ _ (SP.out _ _ _ _ _ _ _ HY1.out (by simp)) (fun hHeld => ?_)
  clear hK K_
  refine nm_ ?_
  refine on_ 5 (some 17) fun K_ hK => ?_
  refine gs_ Try.func138 #[.pointer (some ⟨J.g, 0, none⟩), .agg #[.int .i64 r.1, .int .i64 r.2]] ?_
  refine (rget.calls HY1.out r HG.out).mono ?_
  rintro e9 wy2 ⟨rfl, hh⟩
  refine ⟨_, rfl, ?_⟩
  have HY2 := As (show Bt w0 wy2 J t s f on R (cb (wx.heap.size) 126 #[.string ⟨#[]⟩, .int .i64 0, .string ⟨#[]⟩] :: cb (w.heap.size + 1) 126 #[.string ⟨#[]⟩, .int .i64 0, .string ⟨#[]⟩] :: cb (w.heap.size) 33 #[.int .i64 r.1, .int .i64 r.2] :: L) from hh)
  clear hh
  refine hK.out _ _ (SP.out _ _ _ _ _ _ _ HY2.out (by simp)) (fun hHeld => ?_)
  clear hK K_
  refine nm_ ?_
  refine pu_ 6 (some 11) ?_
  refine pu_ 7 (some 18) ?_
  refine pu_ 8 (some 19) ?_
  refine la_ 10 none fun K_ hK => ?_
  obtain ⟨b0, b1, b2, d0, d1, d2⟩ := HY2.out.other.c3 (wx.heap.size) 126 (.string ⟨#[]⟩) (.int .i64 0) (.string ⟨#[]⟩) List.mem_cons_self
  refine sk_ (hK.out _ _ ?_)
  clear hK K_ b0 b1 b2 d0 d1 d2
  obtain ⟨wy3, hW, hvv⟩ : ∃ W, W = _ ∧ Bt w0 W J t s f on R (cb (wx.heap.size) 126 #[.string c.1, .int .i64 c.2.1, .string c.2.2] :: cb (w.heap.size + 1) 126 #[.string ⟨#[]⟩, .int .i64 0, .string ⟨#[]⟩] :: cb (w.heap.size) 33 #[.int .i64 r.1, .int .i64 r.2] :: L) := ⟨_, rfl, (Bt.putB0 (Bt.putB0 (Bt.putB0 HY2.out 0 (.string c.1) rfl) 1 (.int .i64 c.2.1) rfl) 2 (.string c.2.2) rfl)⟩
  rw [← hW]
  have HY3 := As hvv
  clear hW hvv
  refine pu_ 11 (some 7) ?_
  refine done_ (by kernel_rfl) ?_
  have HQ := As (show Bt w0 wy3 J t s f on R (cb (wx.heap.size) 126 #[.string c.1, .int .i64 c.2.1, .string c.2.2] :: cb (w.heap.size + 1) 126 #[.string ⟨#[]⟩, .int .i64 0, .string ⟨#[]⟩] :: cb (w.heap.size) 33 #[.int .i64 r.1, .int .i64 r.2] :: L) from HY3.out)
  generalize wx.heap.size = g6 at HQ ⊢
  obtain ⟨t4_0, t4_1, t4_2, t4_f0, t4_f1, t4_f2⟩ := HQ.out.other.c3 (w.heap.size + 1) 126 (.string ⟨#[]⟩) (.int .i64 0) (.string ⟨#[]⟩) (by simp)
  obtain ⟨t6_0, t6_1, t6_2, t6_f0, t6_f1, t6_f2⟩ := HQ.out.other.c3 (g6) 126 (.string c.1) (.int .i64 c.2.1) (.string c.2.2) (by simp)
  obtain ⟨c0, c1, c2, c3⟩ := HQ.out.cells
  cases b
  ·obtain ⟨n1, n2⟩ := HQ.out.apart (p := cb (g6) 126 #[.string c.1, .int .i64 c.2.1, .string c.2.2]) (by simp)
   obtain ⟨n3, n4⟩ := HQ.out.apart (p := cb (w.heap.size + 1) 126 #[.string ⟨#[]⟩, .int .i64 0, .string ⟨#[]⟩]) (by simp)
   simp only [cb] at n1 n2 n3 n4
   have hwr : IntKind.i64.wrap (f + 1) = f + 1 := by rw [IntKind.wrap_i64]; have := HF.out.1; have := HF.out.2; omega
   have hwr2 : wrap64 (f + 1) = f + 1 := by unfold wrap64; have := HF.out.1; have := HF.out.2; omega
   go_wp2_with fail
   obtain ⟨wg, hw, hg⟩ : ∃ wg, wg = _ ∧ Bt w0 wg J t s (f + 1) on R (cb g6 126 #[.string c.1, .int .i64 c.2.1, .string c.2.2] :: cb (w.heap.size + 1) 126 #[.string c.1, .int .i64 c.2.1, .string c.2.2] :: cb w.heap.size 33 #[.int .i64 r.1, .int .i64 r.2] :: L) := ⟨_, rfl, (Bt.putB1 (Bt.putB1 (Bt.putB1 (HQ.out.setF (f + 1)) 0 (.string c.1) rfl) 1 (.int .i64 c.2.1) rfl) 2 (.string c.2.2) rfl)⟩
   rw [← hw]
   obtain ⟨e0, e1, e2, -, -, -⟩ := hg.other.c3 (w.heap.size + 1) 126 (.string c.1) (.int .i64 c.2.1) (.string c.2.2) (by simp)
   exact bodyPost_ret (v := .tuple #[.agg #[.string c.1, .int .i64 c.2.1, .string c.2.2], .bool false]) (by simp [results, Try.results82, go_sem, e0, e1, e2, hu126]) rfl ⟨rfl, hg.tail.tail.tail⟩
  ·go_wp2_with fail
   obtain ⟨wg, hw, hg⟩ : ∃ wg, wg = _ ∧ Bt w0 wg J t s f on R (cb g6 126 #[.string c.1, .int .i64 c.2.1, .string c.2.2] :: cb (w.heap.size + 1) 126 #[.string c.1, .int .i64 c.2.1, .string c.2.2] :: cb w.heap.size 33 #[.int .i64 r.1, .int .i64 r.2] :: L) := ⟨_, rfl, (Bt.putB1 (Bt.putB1 (Bt.putB1 HQ.out 0 (.string c.1) rfl) 1 (.int .i64 c.2.1) rfl) 2 (.string c.2.2) rfl)⟩
   rw [← hw]
   obtain ⟨e0, e1, e2, -, -, -⟩ := hg.other.c3 (w.heap.size + 1) 126 (.string c.1) (.int .i64 c.2.1) (.string c.2.2) (by simp)
   exact bodyPost_ret (v := .tuple #[.agg #[.string c.1, .int .i64 c.2.1, .string c.2.2], .bool true]) (by simp [results, Try.results82, go_sem, e0, e1, e2, hu126]) rfl ⟨rfl, hg.tail.tail.tail⟩
end
section
variable {w0 w w1 : World} {L L' R : List Ob} {t : Tm} {s : Ar} {f : Int} {on : Value} {J : Jx}
theorem rset.calls (h : Bt w0 w J t s f on R L) (r : Rf) (c : ByteArray × Int × ByteArray) {b : Bool} {s' : Ar} (hb : s.has r.1 r.2 = b) (hs : s.set r.1 r.2 (rcell c) = s') : Calls Try.prog 137 #[.pointer (some ⟨J.g, 0, none⟩), .agg #[.int .i64 r.1, .int .i64 r.2], .agg #[.string c.1, .int .i64 c.2.1, .string c.2.2]] w fun e w' => e = .returned (.bool b) ∧ Bt w0 w' J t s' f on R L := by
 obtain ⟨Q, h1, h2, h3⟩ := h.recs
 exact (h1.Set r.1 r.2 c.1 c.2.1 c.2.2 hb hs).mono (fun e w' hh => ⟨hh.1, h3 _ _ hh.2⟩)
theorem rfree.calls (h : Bt w0 w J t s f on R L) (r : Rf) {b : Bool} {s' : Ar} (hb : s.has r.1 r.2 = b) (hs : s.free r.1 r.2 (rcell (⟨#[]⟩, 0, ⟨#[]⟩)) = s') : Calls Try.prog 133 #[.pointer (some ⟨J.g, 0, none⟩), .agg #[.int .i64 r.1, .int .i64 r.2]] w fun e w' => e = .returned (.bool b) ∧ Bt w0 w' J t s' f on R L := by
 obtain ⟨Q, h1, h2, h3⟩ := h.recs
 exact (h1.Free r.1 r.2 hb hs).mono (fun e w' hh => ⟨hh.1, h3 _ _ hh.2⟩)
theorem rtake.calls (h : Bt w0 w J t s f on R L) (c : ByteArray × Int × ByteArray) {a b er : Int} {s' : Ar} (hr : tk s = (a, b, er)) (hs : s.took (rcell c) = s') : Calls Try.prog 131 #[.pointer (some ⟨J.g, 0, none⟩), .agg #[.string c.1, .int .i64 c.2.1, .string c.2.2]] w fun e w' => e = .returned (.tuple #[.agg #[.int .i64 a, .int .i64 b], .int .i64 er]) ∧ Bt w0 w' J t s' f on R L := by
 obtain ⟨Q, h1, h2, h3⟩ := h.recs
 exact (h1.Take c.1 c.2.1 c.2.2 hr hs).mono (fun e w' hh => ⟨hh.1, h3 _ _ hh.2⟩)
theorem rroom.calls (h : Bt w0 w J t s f on R L) : Calls Try.prog 130 #[.pointer (some ⟨J.g, 0, none⟩)] w fun e w' => e = .returned (.int .i64 s.room) ∧ Bt w0 w' J t s f on R L := by
 obtain ⟨Q, h1, h2, h3⟩ := h.recs
 exact (h1.Room rfl).mono (fun e w' hh => ⟨hh.1, h3 _ _ hh.2⟩)
theorem rlive.calls (h : Bt w0 w J t s f on R L) : Calls Try.prog 141 #[.pointer (some ⟨J.g, 0, none⟩)] w fun e w' => ∃ ad c, e = .returned (.slice ad s.live.length c) ∧ Bt w0 w' J t s f on R L := by
 obtain ⟨Q, h1, h2, h3⟩ := h.recs
 refine (h1.Live rfl rfl).mono ?_
 rintro e w' ⟨ad, c, A, rfl, -, bv, B, q1, q2, q3⟩
 exact ⟨ad, c, rfl, h3 _ _ ⟨bv, B, q1.drop (List.Sublist.append_left (List.sublist_append_right _ _) _), q2, q3⟩⟩
theorem held.calls (h : Bt w0 w J t s f on R L) (r : Rf) {c : ByteArray × Int × ByteArray} {b lk : Bool} (hg : Got s r c b) (hl : b = true → Pur 134 #[.int .i64 c.2.1] (.bool lk)) (hf : 0 ≤ f) (hf2 : f ≤ 1000000) : Calls Try.prog 139 #[.pointer (some ⟨J.b, 0, none⟩), .agg #[.int .i64 r.1, .int .i64 r.2]] w fun e w' => e = .returned (.tuple #[.agg #[.string c.1, .int .i64 c.2.1, .string c.2.2], .bool (b && lk)]) ∧ Bt w0 w' J t s (fl f b) on R L := by
 have hu33 := Try.underlying33
 have hu126 := Try.underlying126
 have HM := As (show Bt w0 _ J t s f on R (cb (w.heap.size + 1) 126 #[.string ⟨#[]⟩, .int .i64 0, .string ⟨#[]⟩] :: cb (w.heap.size) 33 #[.int .i64 r.1, .int .i64 r.2] :: L) by
  have := (h.alloc (.cells #[.int .i64 r.1, .int .i64 r.2] 33)).alloc (.cells #[.string ⟨#[]⟩, .int .i64 0, .string ⟨#[]⟩] 126)
  simpa [cb] using this)
 have HG := As hg
 have HF := As (And.intro hf hf2)
 have HL := As hl
 clear h hg hf hf2 hl
 obtain ⟨t3_0, t3_1, t3_f0, t3_f1⟩ := HM.out.other.c2 (w.heap.size) 33 (.int .i64 r.1) (.int .i64 r.2) (by simp)
 obtain ⟨t4_0, t4_1, t4_2, t4_f0, t4_f1, t4_f2⟩ := HM.out.other.c3 (w.heap.size + 1) 126 (.string ⟨#[]⟩) (.int .i64 0) (.string ⟨#[]⟩) (by simp)
 go_enter Try.func139, Try.ntmps139
 go_upto_region 2 with (go_at_call 82; go_loud (refine (get.calls HM.out r HG.out HF.out.1 HF.out.2).mono ?_); rintro e2 w2 ⟨rfl, hh⟩; have H2 := As hh; clear hh)
 clear t3_0 t3_f0 t3_1 t3_f1 t4_0 t4_f0 t4_1 t4_f1 t4_2 t4_f2
 obtain ⟨W3, hW, hM⟩ : ∃ W, W = w2.alloc (.cells #[.string c.1, .int .i64 c.2.1, .string c.2.2] 126) ∧ Bt w0 W J t s (fl f b) on R (cb w2.heap.size 126 #[.string c.1, .int .i64 c.2.1, .string c.2.2] :: cb (w.heap.size + 1) 126 #[.string ⟨#[]⟩, .int .i64 0, .string ⟨#[]⟩] :: cb (w.heap.size) 33 #[.int .i64 r.1, .int .i64 r.2] :: L) := ⟨_, rfl, H2.out.alloc _⟩
 rw [← hW]
 have H3 := As hM
 clear hW hM
 generalize w2.heap.size = g6 at H3 ⊢
 obtain ⟨t4_0, t4_1, t4_2, t4_f0, t4_f1, t4_f2⟩ := H3.out.other.c3 (w.heap.size + 1) 126 (.string ⟨#[]⟩) (.int .i64 0) (.string ⟨#[]⟩) (by simp)
 obtain ⟨t6_0, t6_1, t6_2, t6_f0, t6_f1, t6_f2⟩ := H3.out.other.c3 (g6) 126 (.string c.1) (.int .i64 c.2.1) (.string c.2.2) (by simp)
 cases b
 ·go_region
  go_wp2_with fail
  obtain ⟨wg, hw, hg⟩ : ∃ wg, wg = _ ∧ Bt w0 wg J t s (fl f false) on R (cb g6 126 #[.string c.1, .int .i64 c.2.1, .string c.2.2] :: cb (w.heap.size + 1) 126 #[.string c.1, .int .i64 c.2.1, .string c.2.2] :: cb w.heap.size 33 #[.int .i64 r.1, .int .i64 r.2] :: L) := ⟨_, rfl, Bt.drew (Bt.putB1 (Bt.putB1 (Bt.putB1 H3.out 0 (.string c.1) rfl) 1 (.int .i64 c.2.1) rfl) 2 (.string c.2.2) rfl)⟩
  rw [← hw]
  obtain ⟨e0, e1, e2, -, -, -⟩ := hg.other.c3 (w.heap.size + 1) 126 (.string c.1) (.int .i64 c.2.1) (.string c.2.2) (by simp)
  exact bodyPost_ret (v := .tuple #[.agg #[.string c.1, .int .i64 c.2.1, .string c.2.2], .bool false]) (by simp [results, Try.results139, go_sem, e0, e1, e2, hu126]) rfl ⟨by simp, hg.tail.tail.tail⟩
 ·have hl := HL.out rfl
  go_region_with (go_at_call 134; go_loud (refine (hl _).mono ?_; rintro e4 w4 ⟨rfl, hb⟩; have H4 := As (show Bt w0 w4 J t s (fl f true) on R (cb (g6) 126 #[.string c.1, .int .i64 c.2.1, .string c.2.2] :: cb (w.heap.size + 1) 126 #[.string ⟨#[]⟩, .int .i64 0, .string ⟨#[]⟩] :: cb (w.heap.size) 33 #[.int .i64 r.1, .int .i64 r.2] :: L) from (by first | exact H3.out.call hb | exact H3.out.drew.call hb | exact (H3.out.drewN _).call hb)); clear hb; clear t4_0 t4_f0 t4_1 t4_f1 t4_2 t4_f2 t6_0 t6_f0 t6_1 t6_f1 t6_2 t6_f2; obtain ⟨t4_0, t4_1, t4_2, t4_f0, t4_f1, t4_f2⟩ := H4.out.other.c3 (w.heap.size + 1) 126 (.string ⟨#[]⟩) (.int .i64 0) (.string ⟨#[]⟩) (by simp); obtain ⟨t6_0, t6_1, t6_2, t6_f0, t6_f1, t6_f2⟩ := H4.out.other.c3 (g6) 126 (.string c.1) (.int .i64 c.2.1) (.string c.2.2) (by simp)))
  go_wp2_with fail
  all_goals (
   obtain ⟨wg, hw, hg⟩ : ∃ wg, wg = _ ∧ Bt w0 wg J t s (fl f true) on R (cb g6 126 #[.string c.1, .int .i64 c.2.1, .string c.2.2] :: cb (w.heap.size + 1) 126 #[.string c.1, .int .i64 c.2.1, .string c.2.2] :: cb w.heap.size 33 #[.int .i64 r.1, .int .i64 r.2] :: L) := ⟨_, rfl, (Bt.putB1 (Bt.putB1 (Bt.putB1 H4.out 0 (.string c.1) rfl) 1 (.int .i64 c.2.1) rfl) 2 (.string c.2.2) rfl)⟩
   rw [← hw]
   obtain ⟨e0, e1, e2, -, -, -⟩ := hg.other.c3 (w.heap.size + 1) 126 (.string c.1) (.int .i64 c.2.1) (.string c.2.2) (by simp)
   exact bodyPost_ret (v := .tuple #[.agg #[.string c.1, .int .i64 c.2.1, .string c.2.2], .bool lk]) (by simp [results, Try.results139, go_sem, e0, e1, e2, hu126]) rfl ⟨by simp, hg.tail.tail.tail⟩)
end
end Go.Proofs.Ytglbcfkmaamhaaa.Bs
