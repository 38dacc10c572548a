/- Epochs: New; what awake finds. -/
import Derived.Test.YtdnfmfjaljkjkaaEpB
set_option linter.unusedVariables false
set_option linter.unusedSimpArgs false
namespace Go.Proofs.Ytdnfmfjaljkjkaa.Ep
open Go Go.RowKit Go.Proofs.YtdnfmfjaljkjkaaW.PrintWords Go.Proofs.YtdnfmfjaljkjkaaW.PrintLast Go.Proofs.YtdnfmfjaljkjkaaW.PrintMore

theorem info3 : (Try.prog.info? 3).map (fun i => (i.zero, i.size, i.bytes)) = some (some (.int .i64 0), 1, 8) := by kernel_rfl
theorem make_ints (n : Int) (h0 : 0 ≤ n) (h1 : n ≤ 1000) (w : World) :
    (Instr.makeSlice 30 (.int .i64 n) (.int .i64 n)).run Try.prog w = .ok (.slice (some ⟨w.heap.size, 0, none⟩) n.toNat n.toNat) (w.alloc (.cells (nums .i64 (List.replicate n.toNat 0)).toArray 3)) := by
  cases hi : Try.prog.info? 3 with
  | none => have := info3; rw [hi] at this; simp at this
  | some i =>
    have := info3
    rw [hi] at this
    simp at this
    obtain ⟨h2, h3, h4⟩ := this
    rw [run_make (P := Try.prog) w 30 3 i (.int .i64 0) Try.underlying30 hi h2 .i64 .i64 n n h0 (Int.le_refl _) (by rw [h4]; omega) (by omega)]
    congr 3
    rw [h3, Nat.mul_one]
    apply Array.ext'
    rw [show (Value.int .i64 0).cells = #[.int .i64 0] from rfl, toList_madeCells_one]
    simp [nums]
def St.new (n m : Int) : St := ⟨1, m, List.replicate n.toNat 0⟩
theorem Off.new_ : True := trivial

set_option maxHeartbeats 4000000 in
set_option maxRecDepth 100000 in
theorem new.calls (w : World) (n m : Int) (h : 1 ≤ n ∧ n ≤ 7 ∧ 1 ≤ m ∧ m ≤ 1048575) :
    Calls Try.prog 8 #[.int .i64 n, .int .i64 m] w fun e w' => ∃ g b, e = .returned (.tuple #[.pointer (some ⟨g, 0, none⟩), .int .i64 0]) ∧ Ep w' g b (St.new n m) ∧ Below w.heap.size w w' ∧ w.heap.size ≤ g ∧ w.heap.size ≤ b := by
  obtain ⟨h1, h2, h3, h4⟩ := h
  have hmk := make_ints n (by omega) (by omega)
  have hu50 := Try.underlying50
  go_enter Try.func8, Try.ntmps8
  go_wp2
  refine bodyPost_ret (v := .tuple #[.pointer (some ⟨w.heap.size + 1, 0, none⟩), .int .i64 0]) (by simp [results, Try.results8, go_sem]) rfl ⟨w.heap.size + 1, w.heap.size, rfl, ⟨?_, ?_, ?_, ?_⟩, ?_, by omega, Nat.le_refl _⟩
  · have := blk_new (w.alloc (.cells (nums .i64 (List.replicate n.toNat 0)).toArray 3)) (.cells #[.int .i64 1, .int .i64 m, .slice (some ⟨w.heap.size, 0, none⟩) n.toNat n.toNat] 50)
    simpa [St.new] using this
  · exact blk_alloc (blk_new w _) _
  · simp [St.new]; omega
  · simp [St.new]; omega
  · exact ((Below.refl _ _).alloc (Nat.le_refl _) _).alloc (by simp) _

theorem newBad.calls (w : World) (n m : Int) (h : ¬ (1 ≤ n ∧ n ≤ 7 ∧ 1 ≤ m ∧ m ≤ 1048575)) :
    Calls Try.prog 8 #[.int .i64 n, .int .i64 m] w fun e w' => e = .returned (.tuple #[.pointer none, .int .i64 1]) ∧ Drawn0 w w' := by
  have hu50 := Try.underlying50
  by_cases h1 : n < 1
  · go_enter Try.func8, Try.ntmps8
    go_wp2
    exact bodyPost_ret (v := .tuple #[.pointer none, .int .i64 1]) (by simp [results, Try.results8, go_sem]) rfl ⟨rfl, ⟨⟨0, rfl⟩⟩⟩
  · by_cases h2 : n > 7
    · clear h
      go_enter Try.func8, Try.ntmps8
      go_wp2
      exact bodyPost_ret (v := .tuple #[.pointer none, .int .i64 1]) (by simp [results, Try.results8, go_sem]) rfl ⟨rfl, ⟨⟨0, rfl⟩⟩⟩
    · by_cases h3 : m < 1
      · clear h
        go_enter Try.func8, Try.ntmps8
        go_wp2
        exact bodyPost_ret (v := .tuple #[.pointer none, .int .i64 1]) (by simp [results, Try.results8, go_sem]) rfl ⟨rfl, ⟨⟨0, rfl⟩⟩⟩
      · have h4 : 1048576 ≤ m := by omega
        clear h
        go_enter Try.func8, Try.ntmps8
        go_wp2
        exact bodyPost_ret (v := .tuple #[.pointer none, .int .i64 1]) (by simp [results, Try.results8, go_sem]) rfl ⟨rfl, ⟨⟨0, rfl⟩⟩⟩

/-! ### The state as a call of W's world made it -/
structure Own (W w : World) (g b : Nat) (s : St) : Prop where
  ep : Ep w g b s
  bel : Below W.heap.size W w
  ng : W.heap.size ≤ g
  nb : W.heap.size ≤ b
theorem Own.off {W w w' : World} {g b : Nat} {s s' : St} (h : Own W w g b s) (k : Ep w' g b s') (o : Off w w' (At g b)) : Own W w' g b s' :=
  ⟨k, Off.below h.bel o (fun i hi => by rcases hi with rfl | rfl; exact h.ng; exact h.nb), h.ng, h.nb⟩
theorem Own.below {W w w' : World} {g b : Nat} {s : St} (h : Own W w g b s) (k : Below w.heap.size w w') : Own W w' g b s := ⟨h.ep.below k, below_then h.bel h.bel.size k, h.ng, h.nb⟩
theorem Own.drewN {W w : World} {g b : Nat} {s : St} (h : Own W w g b s) (n : Nat) : Own W (w.drewN n) g b s := ⟨h.ep.drewN n, pw_below_drewN h.bel n, h.ng, h.nb⟩
theorem Own.drew {W w : World} {g b : Nat} {s : St} (h : Own W w g b s) : Own W w.drew g b s := ⟨h.ep.drew, below_drew h.bel, h.ng, h.nb⟩

section
variable {W w : World} {g b : Nat} {s : St} (h : Own W w g b s)
include h
theorem Own.Pin (i : Int) {r : Bool} {s' : St} (hr : s.pinOk i = r) (hs : s.pin i = s') : Calls Try.prog 11 #[.pointer (some ⟨g, 0, none⟩), .int .i64 i] w fun e w' => e = .returned (.bool r) ∧ Own W w' g b s' := by
  subst hr hs
  exact (Pin.calls w g b s h.ep i).mono fun e w' ⟨h1, h2, h3⟩ => ⟨h1, h.off h2 h3⟩
theorem Own.Unpin (i : Int) {r : Bool} {s' : St} (hr : s.pinned i = r) (hs : s.unpin i = s') : Calls Try.prog 13 #[.pointer (some ⟨g, 0, none⟩), .int .i64 i] w fun e w' => e = .returned (.bool r) ∧ Own W w' g b s' := by
  subst hr hs
  exact (Unpin.calls w g b s h.ep i).mono fun e w' ⟨h1, h2, h3⟩ => ⟨h1, h.off h2 h3⟩
theorem Own.Tick {r : Int} {s' : St} (hr : s.tick = (r, s')) : Calls Try.prog 15 #[.pointer (some ⟨g, 0, none⟩)] w fun e w' => e = .returned (.int .i64 r) ∧ Own W w' g b s' := by
  have e1 : r = s.tick.1 := by rw [hr]
  have e2 : s' = s.tick.2 := by rw [hr]
  subst e1 e2
  exact (tick.calls w g b s h.ep).mono fun e w' ⟨h1, h2, h3⟩ => ⟨h1, h.off h2 h3⟩
theorem Own.Now {r : Int} (hr : s.now = r) : Calls Try.prog 18 #[.pointer (some ⟨g, 0, none⟩)] w fun e w' => e = .returned (.int .i64 r) ∧ Own W w' g b s := by
  subst hr
  exact (now.calls w g b s h.ep).mono fun e w' ⟨h1, h2⟩ => ⟨h1, h.below h2.below⟩
theorem Own.Pinned (i : Int) {v : Int} {r : Bool} (hv : s.pinVal i = v) (hr : s.pinned i = r) : Calls Try.prog 16 #[.pointer (some ⟨g, 0, none⟩), .int .i64 i] w fun e w' => e = .returned (.tuple #[.int .i64 v, .bool r]) ∧ Own W w' g b s := by
  subst hr hv
  exact (pinned.calls w g b s h.ep i).mono fun e w' ⟨h1, h2⟩ => ⟨h1, h.below h2.below⟩
theorem Own.Safe (i : Int) {r : Bool} (hr : decide (i < s.least) = r) : Calls Try.prog 19 #[.pointer (some ⟨g, 0, none⟩), .int .i64 i] w fun e w' => e = .returned (.bool r) ∧ Own W w' g b s := by
  subst hr
  exact (safe.calls w g b s h.ep i).mono fun e w' ⟨h1, h2⟩ => ⟨h1, h.below h2⟩
end

set_option maxHeartbeats 8000000 in
set_option maxRecDepth 100000 in
theorem awake.calls (w : World) : Calls Try.prog 7 #[] w fun e w' => e = .returned (.bool true) ∧ Below w.heap.size w w' := by
  go_enter Try.func7, Try.ntmps7
  go_wp2_with fail
  refine (new.calls _ 2 4 (by omega)).mono ?_
  rintro e w1 ⟨g, b, rfl, h1, h2, h3, h4⟩
  have o1 := Aside0.mk (show Own w w1 g b ⟨1, 4, [0, 0]⟩ from ⟨h1, h2, h3, h4⟩)
  clear h1 h2 h3 h4
  go_wp2_with fail
  refine (o1.out.Pin 0 (r := true) (s' := ⟨1, 4, [1, 0]⟩) rfl rfl).mono ?_
  rintro e w2 ⟨rfl, h2⟩
  have o2 := Aside0.mk h2
  clear h2
  go_wp2_with fail
  refine (o2.out.Pin 0 (r := false) (s' := ⟨1, 4, [1, 0]⟩) rfl rfl).mono ?_
  rintro e w3 ⟨rfl, h3⟩
  have o3 := Aside0.mk h3
  clear h3
  go_wp2_with fail
  refine (o3.out.Tick (r := 0) (s' := ⟨2, 4, [1, 0]⟩) rfl).mono ?_
  rintro e w4 ⟨rfl, h4⟩
  have o4 := Aside0.mk h4
  clear h4
  go_wp2_with fail
  refine (o4.out.Tick (r := 17) (s' := ⟨2, 4, [1, 0]⟩) rfl).mono ?_
  rintro e w5 ⟨rfl, h5⟩
  have o5 := Aside0.mk h5
  clear h5
  go_wp2_with fail
  refine (o5.out.Pinned 0 (v := 1) (r := true) rfl rfl).mono ?_
  rintro e w6 ⟨rfl, h6⟩
  have o6 := Aside0.mk h6
  clear h6
  go_wp2_with fail
  refine (o6.out.Safe 1 (r := false) rfl).mono ?_
  rintro e w7 ⟨rfl, h7⟩
  have o7 := Aside0.mk h7
  clear h7
  go_wp2_with fail
  refine (o7.out.Unpin 0 (r := true) (s' := ⟨2, 4, [0, 0]⟩) rfl rfl).mono ?_
  rintro e w8 ⟨rfl, h8⟩
  have o8 := Aside0.mk h8
  clear h8
  go_wp2_with fail
  refine (o8.out.Tick (r := 0) (s' := ⟨3, 4, [0, 0]⟩) rfl).mono ?_
  rintro e w9 ⟨rfl, h9⟩
  have o9 := Aside0.mk h9
  clear h9
  go_wp2_with fail
  refine (o9.out.Now (r := 3) rfl).mono ?_
  rintro e w10 ⟨rfl, h10⟩
  have o10 := Aside0.mk h10
  clear h10
  go_wp2_with fail
  refine (o10.out.Safe 2 (r := true) rfl).mono ?_
  rintro e w11 ⟨rfl, h11⟩
  have o11 := Aside0.mk h11
  clear h11
  go_wp2_with fail
  refine (o11.out.Safe 3 (r := false) rfl).mono ?_
  rintro e w12 ⟨rfl, h12⟩
  have o12 := Aside0.mk h12
  clear h12
  go_wp2_with fail
  exact bodyPost_ret (v := .bool true) (by simp [results, Try.results7, go_sem]) rfl ⟨rfl, o12.out.bel⟩
end Go.Proofs.Ytdnfmfjaljkjkaa.Ep
