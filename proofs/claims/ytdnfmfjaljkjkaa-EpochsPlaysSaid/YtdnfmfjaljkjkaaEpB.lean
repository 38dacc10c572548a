/- Epochs: least (a deferred closure for each pin), Tick, Safe, New. -/
import Derived.Test.YtdnfmfjaljkjkaaEpA
set_option linter.unusedVariables false
set_option linter.unusedSimpArgs false
namespace Go.Proofs.Ytdnfmfjaljkjkaa.Ep
open Go Go.RowKit Go.Proofs.YtdnfmfjaljkjkaaW.PrintWords Go.Proofs.YtdnfmfjaljkjkaaW.PrintLast Go.Proofs.YtdnfmfjaljkjkaaW.PrintMore
attribute [local go_sem] max2_int min2_int max_two min_two max_three min_three max_four min_four

theorem clos.calls (u : FrameMode) (w : World) (a p : Addr) (n v : Int) (hn : w.cell? a = some (.int .i64 n)) (hf : w.frozen? a = false) (hv : w.cell? p = some (.int .i64 v)) :
    CallsD Try.prog 25 #[.pointer (some a), .pointer (some p)] u w fun e u' w' => u' = u ∧ (e = .returned (.tuple #[]) ∧ w' = w.setCell a (.int .i64 (mn n v))) := by
  go_enter_d Try.func25, Try.ntmps25
  go_wp2
  all_goals go_end0
  all_goals refine ⟨rfl, ?_⟩
  all_goals first | rfl | rw [show mn n v = v by unfold mn; omega] | rw [show mn n v = n by unfold mn; omega]

def dfr (nb pb : Nat) : Deferred := { target := .fn (.func 25) #[.pointer (some ⟨nb, 0, none⟩), .pointer (some ⟨pb, 0, none⟩)], args := #[] }
/-- The deferred calls, the last one first: each has the place of one pin. -/
def DL (w : World) (nb : Nat) : List Deferred → List Int → Prop
  | [], [] => True
  | d :: ds, v :: vs => (∃ pb, nb < pb ∧ d = dfr nb pb ∧ w.cell? ⟨pb, 0, none⟩ = some (.int .i64 v)) ∧ DL w nb ds vs
  | _, _ => False

theorem DL.move {w w' : World} {nb : Nat} (hm : ∀ pb, nb < pb → ∀ v, w.cell? ⟨pb, 0, none⟩ = some v → w'.cell? ⟨pb, 0, none⟩ = some v) : ∀ (ds : List Deferred) (vs : List Int), DL w nb ds vs → DL w' nb ds vs
  | [], [], _ => trivial
  | d :: ds, v :: vs, h => ⟨by obtain ⟨pb, h1, h2, h3⟩ := h.1; exact ⟨pb, h1, h2, hm pb h1 _ h3⟩, DL.move hm ds vs h.2⟩
  | [], _ :: _, h => h.elim
  | _ :: _, [], h => h.elim

set_option maxHeartbeats 4000000 in
theorem leaves_dl (w0 : World) (nb : Nat) (tmps : Array Value) (ht : tmps[2]?.getD undef = .pointer (some ⟨nb, 0, none⟩)) (hnb : w0.heap.size ≤ nb) :
    ∀ (ds : List Deferred) (vs : List Int) (n : Int) (w : World), DL w nb ds vs → w.cell? ⟨nb, 0, none⟩ = some (.int .i64 n) → w.frozen? ⟨nb, 0, none⟩ = false → Below w0.heap.size w0 w →
      Leaves Try.prog Try.f24 tmps (fun e w' => e = .returned (.int .i64 (vs.foldl mn n)) ∧ Below w0.heap.size w0 w') ds .returning w
  | [], [], n, w, _, hn, hf, hB => by
    refine ⟨.int .i64 n, ?_, rfl, hB⟩
    simp [results, Try.results24, go_sem, ht, hn]
  | d :: ds, v :: vs, n, w, h, hn, hf, hB => by
    obtain ⟨⟨pb, h1, rfl, h3⟩, h4⟩ := h
    refine leaves_cons (f := 25) (args := #[.pointer (some ⟨nb, 0, none⟩), .pointer (some ⟨pb, 0, none⟩)]) (by simp) (by simp [go_sem]) ?_
    refine (clos.calls .returning w ⟨nb, 0, none⟩ ⟨pb, 0, none⟩ n v hn hf h3).mono ?_
    rintro e u' w' ⟨rfl, rfl, rfl⟩
    refine leaves_dl w0 nb tmps ht hnb ds vs (mn n v) _ (DL.move ?_ ds vs h4) ?_ ?_ (hB.setCell hnb _)
    · intro q hq x hx
      rw [World.cell?_setCell_other]
      · exact hx
      · intro e
        injection e with e
        omega
    · simp [World.cell?_setCell_same, hn]
    · simpa using hf
  | [], _ :: _, _, _, h, _, _, _ => h.elim
  | _ :: _, [], _, _, h, _, _, _ => h.elim

/-- Those that are pinned. -/
def lowOf (xs : List Int) : List Int := xs.filter (fun p => decide (p ≠ 0))
theorem rd_nat' (xs : List Int) (i : Nat) : rd xs ((i : Nat) : Int) = rd xs (i : Int) := rfl
theorem lowOf_take (xs : List Int) (i : Nat) (h : i < xs.length) : lowOf (xs.take (i + 1)) = lowOf (xs.take i) ++ (if rd xs i = 0 then [] else [rd xs i]) := by
  have e : rd xs i = xs[i] := by simp [rd, List.getD_eq_getElem?_getD, h]
  rw [List.take_succ_eq_append_getElem h, e]
  unfold lowOf
  rw [List.filter_append]
  by_cases hz : xs[i] = 0 <;> simp [hz]

/-- Behind i rounds: what is deferred, and the world. -/
structure LW (w : World) (s : St) (i : Nat) (ds : List Deferred) (w' : World) : Prop where
  dl : DL w' w.heap.size ds (lowOf (s.pins.take i)).reverse
  cell : w'.cell? ⟨w.heap.size, 0, none⟩ = some (.int .i64 s.now)
  frz : w'.frozen? ⟨w.heap.size, 0, none⟩ = false
  size : w.heap.size < w'.heap.size
  below : Below w.heap.size w w'
theorem LW.alloc {w w' : World} {s : St} {i : Nat} {ds : List Deferred} (h : LW w s i ds w') (o : Obj) : LW w s i ds (w'.alloc o) :=
  have hb : Below w'.heap.size w' (w'.alloc o) := below_alloc (Below.refl _ _) o
  ⟨h.dl.move (fun pb _ v hv => pw_cell_below hb hv), pw_cell_below hb h.cell, (hb.frozen h.size).trans h.frz, Nat.lt_of_lt_of_le h.size hb.size, h.below.trans (hb.mono (Nat.le_of_lt h.size))⟩
theorem LW.next {w w' : World} {s : St} {i : Nat} {ds : List Deferred} (h : LW w s i ds w') (hi : i < s.pins.length) (hz : rd s.pins i = 0) : LW w s (i + 1) ds w' :=
  ⟨by rw [lowOf_take _ _ hi, if_pos hz, List.append_nil]; exact h.dl, h.cell, h.frz, h.size, h.below⟩
theorem LW.put {w w' : World} {s : St} {i : Nat} {ds : List Deferred} (h : LW w s i ds w') (hi : i < s.pins.length) (hz : ¬ rd s.pins i = 0) (pb : Nat) (hpb : w.heap.size < pb) (hc : w'.cell? ⟨pb, 0, none⟩ = some (.int .i64 (rd s.pins i))) :
    LW w s (i + 1) (dfr w.heap.size pb :: ds) w' :=
  ⟨by rw [lowOf_take _ _ hi, if_neg hz, List.reverse_append]; exact ⟨⟨pb, hpb, rfl, hc⟩, h.dl⟩, h.cell, h.frz, h.size, h.below⟩
theorem LW.again {w w' : World} {s : St} {i : Nat} {ds : List Deferred} (h : LW w s i ds w') : LW w s i ds (w'.setCell ⟨w.heap.size, 0, none⟩ (.int .i64 s.now)) :=
  ⟨h.dl.move (fun pb hp v hv => by
      rw [World.cell?_setCell_other]
      · exact hv
      · intro e
        injection e with e
        omega), by simp [World.cell?_setCell_same, h.cell], by simpa using h.frz, by simpa [World.setCell] using h.size, h.below.setCell (Nat.le_refl _) _⟩
/-- The least of the epoch and all pins. -/
def St.least (s : St) : Int := (lowOf s.pins).reverse.foldl mn s.now

set_option maxHeartbeats 4000000 in
set_option maxRecDepth 100000 in
theorem least.calls (w : World) (g b : Nat) (s : St) (h : Ep w g b s) :
    Calls Try.prog 24 #[.pointer (some ⟨g, 0, none⟩)] w fun e w' => e = .returned (.int .i64 s.least) ∧ Below w.heap.size w w' := by
  have HH := Aside0.mk h
  have c0 := h.c0
  have c2 := h.c2
  have hu50 := Try.underlying50
  have hu30 := Try.underlying30
  have hlg := blk_lt h.hg
  have hmf : ∀ (fn : Fn) (first cap : Array Value) (w : World), (Instr.makeFunc fn first cap).run Try.prog w = .ok (.func fn first cap) w := fun _ _ _ _ => rfl
  go_enter_defers Try.func24, Try.ntmps24
  go_wp2
  refine wp_loop_ghost_k (fun k a w' => ∃ (i : Nat) (ds : List Deferred), k = s.pins.length - i ∧ i ≤ s.pins.length ∧ LW w s i ds w' ∧ ∃ (u4 u15 u16 u17 u18 u19 u20 u21 : Value),
      a = { tmps := #[.pointer (some ⟨g, 0, none⟩), undef, .pointer (some ⟨w.heap.size, 0, none⟩), undef, u4, .pointer (some ⟨g, 0, none⟩), .pointer (some ⟨g, 0, none⟩), .pointer (some ⟨g, 0, none⟩), .int .i64 s.now, .pointer (some ⟨g, 0, none⟩), .pointer (some ⟨g, 0, none⟩), .pointer (some ⟨g, 2, none⟩), .slice (some ⟨b, 0, none⟩) s.pins.length s.pins.length, .int .i64 s.pins.length, .int .i64 (i : Int), u15, u16, u17, u18, u19, u20, u21, undef], defers := ds }) s.pins.length ?_ ?_
  · refine ⟨0, [], rfl, Nat.zero_le _, ⟨trivial, by simp, by simp, by simp, (Below.refl _ _).alloc (Nat.le_refl _) _⟩, ?_⟩
    exact ⟨_, _, _, _, _, _, _, _, rfl⟩
  rintro k a wr ⟨i, ds, rfl, hi, hL, u4, u15, u16, u17, u18, u19, u20, u21, rfl⟩ J K hJ hK
  replace hK : ∀ a' w', Handed J (s.pins.length - i) a' w' → K a' w' := hK
  have HL := Aside0.mk hL
  have HE := Aside0.mk (h.below hL.below)
  have HK := Aside0.mk hL.below
  have HC := Aside0.mk hL.cell
  have HF := Aside0.mk hL.frz
  have hlen := h.len
  have hsz := hL.size
  clear hL h HH
  by_cases hlt : i < s.pins.length
  · have cp := HE.out.cp i hlt
    have hlt' : (i : Int) < s.pins.length := by omega
    have hbl := blk_lt HE.out.hb
    have hne : ¬ b = wr.heap.size := by omega
    by_cases hz : rd s.pins (i : Int) = 0
    · rw [hz] at cp
      have HZ := Aside0.mk hz
      clear hz
      go_wp2
      refine Handed.intro (s.pins.length - (i + 1)) (by omega) (hJ _ _ _ ⟨i + 1, ds, rfl, by omega, (HL.out.alloc _).next (by omega) HZ.out, ?_⟩)
      exact ⟨_, _, _, _, _, _, _, _, rfl⟩
    · have HZ := Aside0.mk hz
      go_wp2
      refine Handed.intro (s.pins.length - (i + 1)) (by omega) (hJ _ _ _ ⟨i + 1, dfr w.heap.size wr.heap.size :: ds, rfl, by omega, (HL.out.alloc _).put (by omega) HZ.out _ hsz (by simp), ?_⟩)
      exact ⟨_, _, _, _, _, _, _, _, rfl⟩
  · have hge : i = s.pins.length := by omega
    have hge' : ¬ (i : Int) < s.pins.length := by omega
    have hc := HC.out
    have hf := HF.out
    have HGE := Aside0.mk hge
    clear hge hlt
    go_wp2
    obtain rfl := HGE.out
    have hA := HL.out.again
    refine leaves_dl w w.heap.size _ rfl (Nat.le_refl _) ds (lowOf s.pins).reverse s.now _ ?_ hA.cell hA.frz hA.below
    have := hA.dl
    rwa [List.take_length] at this

theorem mn_le (a b : Int) : mn a b ≤ a ∧ mn a b ≤ b ∧ (mn a b = a ∨ mn a b = b) := by unfold mn; omega
theorem foldl_mn : ∀ (l : List Int) (n : Int), l.foldl mn n ≤ n ∧ (∀ x ∈ l, l.foldl mn n ≤ x) ∧ (l.foldl mn n = n ∨ l.foldl mn n ∈ l)
  | [], n => ⟨Int.le_refl _, by simp, .inl rfl⟩
  | x :: l, n => by
    obtain ⟨h1, h2, h3⟩ := foldl_mn l (mn n x)
    obtain ⟨m1, m2, m3⟩ := mn_le n x
    refine ⟨Int.le_trans h1 m1, ?_, ?_⟩
    · intro y hy
      rcases List.mem_cons.1 hy with rfl | hy
      · exact Int.le_trans h1 m2
      · exact h2 y hy
    · rcases h3 with h3 | h3
      · rcases m3 with m3 | m3
        · exact .inl (h3.trans m3)
        · exact .inr (by rw [List.foldl_cons, h3, m3]; exact List.mem_cons_self)
      · exact .inr (List.mem_cons_of_mem _ h3)
theorem St.least_le (s : St) : s.least ≤ s.now := (foldl_mn _ _).1

set_option maxHeartbeats 4000000 in
set_option maxRecDepth 100000 in
theorem safe.calls (w : World) (g b : Nat) (s : St) (h : Ep w g b s) (i : Int) :
    Calls Try.prog 19 #[.pointer (some ⟨g, 0, none⟩), .int .i64 i] w fun e w' => e = .returned (.bool (decide (i < s.least))) ∧ Below w.heap.size w w' := by
  have HH := Aside0.mk h
  by_cases e : i < s.least
  · have hd : decide (i < s.least) = true := by simpa using e
    have hd2 : (s.least > i) = True := eq_true e
    rw [hd]
    clear h hd hd2
    go_enter Try.func19, Try.ntmps19
    go_wp2_with (go_at_call 24; refine (least.calls _ g b s (by first | exact HH.out | exact HH.out.drewN _)).mono ?_; rintro e1 w1 ⟨rfl, hb1⟩; have HB := Aside0.mk hb1; clear hb1)
    exact bodyPost_ret (v := .bool true) (by simp [results, Try.results19, go_sem]) rfl ⟨rfl, HB.out⟩
  · have hd : decide (i < s.least) = false := by simpa using e
    rw [hd]
    clear h hd
    go_enter Try.func19, Try.ntmps19
    go_wp2_with (go_at_call 24; refine (least.calls _ g b s (by first | exact HH.out | exact HH.out.drewN _)).mono ?_; rintro e1 w1 ⟨rfl, hb1⟩; have HB := Aside0.mk hb1; clear hb1)
    exact bodyPost_ret (v := .bool false) (by simp [results, Try.results19, go_sem]; omega) rfl ⟨rfl, HB.out⟩

theorem safeNil.calls (w : World) (i : Int) :
    Calls Try.prog 19 #[.pointer none, .int .i64 i] w fun e w' => e = .returned (.bool false) ∧ Drawn0 w w' := by
  go_enter Try.func19, Try.ntmps19
  go_wp2
  exact bodyPost_ret (v := .bool false) (by simp [results, Try.results19, go_sem]) rfl ⟨rfl, ⟨⟨0, rfl⟩⟩⟩

/-- What stays through a region that draws. -/
def TB (w : World) (g b : Nat) (s : St) (w' : World) : Prop := Ep w' g b s ∧ Below w.heap.size w w'
def TS (w : World) (g b : Nat) (s : St) (w' : World) : Prop := w'.cell? ⟨g, 0, none⟩ = some (.int .i64 s.now) ∧ w'.cell? ⟨g, 1, none⟩ = some (.int .i64 s.most) ∧ TB w g b s w'
theorem TS.of {w w' : World} {g b : Nat} {s : St} (h : Ep w' g b s) (k : Below w.heap.size w w') : TS w g b s w' := ⟨h.c0, h.c1, h, k⟩
theorem TS.drewN {w w' : World} {g b : Nat} {s : St} (h : TS w g b s w') (n : Nat) : TS w g b s (w'.drewN n) := TS.of (h.2.2.1.drewN n) (pw_below_drewN h.2.2.2 n)
theorem TS.drew {w w' : World} {g b : Nat} {s : St} (h : TS w g b s w') : TS w g b s w'.drew := TS.of h.2.2.1.drew (below_drew h.2.2.2)
theorem TS.below {w w' w'' : World} {g b : Nat} {s : St} (h : TS w g b s w') (k : Below w'.heap.size w' w'') : TS w g b s w'' := TS.of (h.2.2.1.below k) (below_then h.2.2.2 h.2.2.2.size k)
theorem TS.ep {w w' : World} {g b : Nat} {s : St} (h : TS w g b s w') : Ep w' g b s := h.2.2.1
theorem TS.bel {w w' : World} {g b : Nat} {s : St} (h : TS w g b s w') : Below w.heap.size w w' := h.2.2.2
def St.tick (s : St) : Int × St := if s.least < s.now then (17, s) else if s.now = s.most then (21, s) else (0, { s with now := s.now + 1 })

theorem tickNil.calls (w : World) :
    Calls Try.prog 15 #[.pointer none] w fun e w' => e = .returned (.int .i64 1) ∧ Drawn0 w w' := by
  go_enter Try.func15, Try.ntmps15
  go_wp2
  exact bodyPost_ret (v := .int .i64 1) (by simp [results, Try.results15, go_sem]) rfl ⟨rfl, ⟨⟨0, rfl⟩⟩⟩

set_option maxHeartbeats 4000000 in
set_option maxRecDepth 100000 in
theorem tick.calls (w : World) (g b : Nat) (s : St) (h : Ep w g b s) :
    Calls Try.prog 15 #[.pointer (some ⟨g, 0, none⟩)] w fun e w' => e = .returned (.int .i64 s.tick.1) ∧ Ep w' g b s.tick.2 ∧ Off w w' (At g b) := by
  have HS := Aside0.mk (TS.of h (Below.refl w.heap.size w))
  have c0 := h.c0
  have c1 := h.c1
  have hu50 := Try.underlying50
  have hnum := h.num
  by_cases e1 : s.least < s.now
  · have et : s.tick = (17, s) := by simp [St.tick, e1]
    rw [et]
    clear et h
    go_enter Try.func15, Try.ntmps15
    go_wp2_with fail
    go_region_held3 (fun w' => w'.cell? ⟨g, 0, none⟩ = some (.int .i64 s.now) ∧ w'.cell? ⟨g, 1, none⟩ = some (.int .i64 s.most) ∧ TB w g b s w')
      (first | (show TS w g b s _; first | assumption | exact HS.out | exact HS.out.drew | exact HS.out.drewN _ | exact TS.drewN (by assumption) _ | exact TS.drew (by assumption) | exact TS.below (by assumption) (by assumption)))
      (first | (go_at_call 24; refine (least.calls _ g b s (TS.ep (by assumption))).mono ?_; rintro e1 w1 ⟨rfl, hb1⟩))
    go_wp2_with fail
    exact bodyPost_ret (v := .int .i64 17) (by simp [results, Try.results15, go_sem]) rfl ⟨rfl, TS.ep (by assumption), Off.of_below (TS.bel (by assumption)) _⟩
  · by_cases e2 : s.now = s.most
    · have et : s.tick = (21, s) := by unfold St.tick; rw [if_neg e1, if_pos e2]
      rw [et]
      have e2b : (s.now == s.most) = true := by simp [e2]
      clear et h e2
      go_enter Try.func15, Try.ntmps15
      go_wp2_with fail
      go_region_held3 (fun w' => w'.cell? ⟨g, 0, none⟩ = some (.int .i64 s.now) ∧ w'.cell? ⟨g, 1, none⟩ = some (.int .i64 s.most) ∧ TB w g b s w')
      (first | (show TS w g b s _; first | assumption | exact HS.out | exact HS.out.drew | exact HS.out.drewN _ | exact TS.drewN (by assumption) _ | exact TS.drew (by assumption) | exact TS.below (by assumption) (by assumption)))
      (first | (go_at_call 24; refine (least.calls _ g b s (TS.ep (by assumption))).mono ?_; rintro e1 w1 ⟨rfl, hb1⟩))
      go_wp2_with fail
      go_region_held3 (fun w' => w'.cell? ⟨g, 0, none⟩ = some (.int .i64 s.now) ∧ w'.cell? ⟨g, 1, none⟩ = some (.int .i64 s.most) ∧ TB w g b s w')
      (first | (show TS w g b s _; first | assumption | exact HS.out | exact HS.out.drew | exact HS.out.drewN _ | exact TS.drewN (by assumption) _ | exact TS.drew (by assumption) | exact TS.below (by assumption) (by assumption)))
      (first | (go_at_call 24; refine (least.calls _ g b s (TS.ep (by assumption))).mono ?_; rintro e1 w1 ⟨rfl, hb1⟩))
      go_wp2_with fail
      exact bodyPost_ret (v := .int .i64 21) (by simp [results, Try.results15, go_sem]) rfl ⟨rfl, TS.ep (by assumption), Off.of_below (TS.bel (by assumption)) _⟩
    · have et : s.tick = (0, { s with now := s.now + 1 }) := by unfold St.tick; rw [if_neg e1, if_neg e2]
      rw [et]
      have e2b : (s.now == s.most) = false := by simp [e2]
      have hlt : s.now + 1 ≤ s.most := by omega
      have HLT := Aside0.mk hlt
      clear et h e2
      go_enter Try.func15, Try.ntmps15
      go_wp2_with fail
      go_region_held3 (fun w' => w'.cell? ⟨g, 0, none⟩ = some (.int .i64 s.now) ∧ w'.cell? ⟨g, 1, none⟩ = some (.int .i64 s.most) ∧ TB w g b s w')
      (first | (show TS w g b s _; first | assumption | exact HS.out | exact HS.out.drew | exact HS.out.drewN _ | exact TS.drewN (by assumption) _ | exact TS.drew (by assumption) | exact TS.below (by assumption) (by assumption)))
      (first | (go_at_call 24; refine (least.calls _ g b s (TS.ep (by assumption))).mono ?_; rintro e1 w1 ⟨rfl, hb1⟩))
      go_wp2_with fail
      go_region_held3 (fun w' => w'.cell? ⟨g, 0, none⟩ = some (.int .i64 s.now) ∧ w'.cell? ⟨g, 1, none⟩ = some (.int .i64 s.most) ∧ TB w g b s w')
      (first | (show TS w g b s _; first | assumption | exact HS.out | exact HS.out.drew | exact HS.out.drewN _ | exact TS.drewN (by assumption) _ | exact TS.drew (by assumption) | exact TS.below (by assumption) (by assumption)))
      (first | (go_at_call 24; refine (least.calls _ g b s (TS.ep (by assumption))).mono ?_; rintro e1 w1 ⟨rfl, hb1⟩))
      have hS := Aside0.mk (show TS w g b s _ by assumption)
      have c0' := hS.out.1
      have f0' := hS.out.ep.fg 0
      go_wp2_with fail
      exact bodyPost_ret (v := .int .i64 0) (by simp [results, Try.results15, go_sem]) rfl ⟨rfl, hS.out.ep.setNow _ ⟨by omega, HLT.out⟩, (Off.of_below hS.out.bel _).setCell (.inl rfl) _⟩
end Go.Proofs.Ytdnfmfjaljkjkaa.Ep
