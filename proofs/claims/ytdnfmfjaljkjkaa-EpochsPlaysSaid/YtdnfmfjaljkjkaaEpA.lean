/- Epochs as a state: the words, and the walks of pin, Pin, Unpin, Pinned, Now. -/
import Derived.Test.YtdnfmfjaljkjkaaQEpochsPlaysx0
import Derived.WalkLawsBesides
import Derived.Defers
set_option linter.unusedVariables false
set_option linter.unusedSimpArgs false
namespace Go.Proofs.Ytdnfmfjaljkjkaa.Ep
open Go Go.RowKit Go.Proofs.YtdnfmfjaljkjkaaW.PrintWords Go.Proofs.YtdnfmfjaljkjkaaW.PrintLast

/-- All but the blocks of S is as it was. -/
structure Off (w w' : World) (S : Nat → Prop) : Prop where
  os : w'.os = w.os
  tape : w'.tape = w.tape
  output : w'.output = w.output
  kept : Kept w w' S
theorem Off.refl (w : World) (S : Nat → Prop) : Off w w S := ⟨rfl, rfl, rfl, Kept.refl w S⟩
theorem Off.of_below {w w' : World} (h : Below w.heap.size w w') (S : Nat → Prop) : Off w w' S := ⟨h.os, h.tape, h.output, Kept.of_below h S⟩
theorem Off.trans {a b c : World} {S : Nat → Prop} (h : Off a b S) (k : Off b c S) : Off a c S :=
  ⟨k.os.trans h.os, k.tape.trans h.tape, k.output.trans h.output, h.kept.then_ k.kept (fun _ h => .inl h)⟩
theorem Off.then_below {a b c : World} {S : Nat → Prop} (h : Off a b S) (k : Below b.heap.size b c) : Off a c S := h.trans (Off.of_below k S)
theorem Off.drewN {a b : World} {S : Nat → Prop} (h : Off a b S) (n : Nat) : Off a (b.drewN n) S := ⟨h.os, h.tape, h.output, h.kept⟩
theorem Off.setCell {a b : World} {S : Nat → Prop} (h : Off a b S) {p : Addr} (hp : S p.block) (u : Value) : Off a (b.setCell p u) S :=
  ⟨h.os, h.tape, h.output, h.kept.setCell (.inl hp) u⟩
/-- What may be written is all new: below it nothing has turned. -/
theorem Off.below {a b c : World} {S : Nat → Prop} (h : Below a.heap.size a b) (k : Off b c S) (hs : ∀ i, S i → a.heap.size ≤ i) : Below a.heap.size a c :=
  h.trans ⟨k.os, k.tape, k.output, k.kept.1, fun i hi => k.kept.2 i (Nat.lt_of_lt_of_le hi h.size) (fun hk => by have := hs i hk; omega)⟩

/-- The state. -/
structure St where
  now : Int
  most : Int
  pins : List Int

/-- Epochs at g, its pins at b. -/
structure Ep (w : World) (g b : Nat) (s : St) : Prop where
  hg : w.heap[g]? = some (.cells #[.int .i64 s.now, .int .i64 s.most, .slice (some ⟨b, 0, none⟩) s.pins.length s.pins.length] 50 (0, 0))
  hb : w.heap[b]? = some (.cells (nums .i64 s.pins).toArray 3 (0, 0))
  len : s.pins.length ≤ 7
  num : 1 ≤ s.now ∧ s.now ≤ s.most ∧ s.most ≤ 1048575
theorem Ep.ne {w : World} {g b : Nat} {s : St} (h : Ep w g b s) : g ≠ b := blk_ne h.hg h.hb (by decide)
theorem Ep.below {w w' : World} {g b : Nat} {s : St} (h : Ep w g b s) (k : Below w.heap.size w w') : Ep w' g b s := ⟨blk_below h.hg k, blk_below h.hb k, h.len, h.num⟩
theorem Ep.drewN {w : World} {g b : Nat} {s : St} (h : Ep w g b s) (n : Nat) : Ep (w.drewN n) g b s := ⟨h.hg, h.hb, h.len, h.num⟩
theorem Ep.drew {w : World} {g b : Nat} {s : St} (h : Ep w g b s) : Ep w.drew g b s := ⟨h.hg, h.hb, h.len, h.num⟩
theorem Ep.alloc {w : World} {g b : Nat} {s : St} (h : Ep w g b s) (o : Obj) : Ep (w.alloc o) g b s := ⟨blk_alloc h.hg o, blk_alloc h.hb o, h.len, h.num⟩
theorem Ep.far {w : World} {g b : Nat} {s : St} (h : Ep w g b s) {p : Addr} (h1 : g ≠ p.block) (h2 : b ≠ p.block) (u : Value) : Ep (w.setCell p u) g b s := ⟨blk_far h.hg h1 u, blk_far h.hb h2 u, h.len, h.num⟩
theorem Ep.c0 {w : World} {g b : Nat} {s : St} (h : Ep w g b s) : w.cell? ⟨g, 0, none⟩ = some (.int .i64 s.now) := (blk_cell h.hg 0).trans rfl
theorem Ep.c1 {w : World} {g b : Nat} {s : St} (h : Ep w g b s) : w.cell? ⟨g, 1, none⟩ = some (.int .i64 s.most) := (blk_cell h.hg 1).trans rfl
theorem Ep.c2 {w : World} {g b : Nat} {s : St} (h : Ep w g b s) : w.cell? ⟨g, 2, none⟩ = some (.slice (some ⟨b, 0, none⟩) s.pins.length s.pins.length) := (blk_cell h.hg 2).trans rfl
theorem Ep.cp {w : World} {g b : Nat} {s : St} (h : Ep w g b s) (i : Nat) (hi : i < s.pins.length) : w.cell? ⟨b, i, none⟩ = some (.int .i64 (rd s.pins i)) := by
  rw [blk_cell h.hb i]
  simp [nums, rd, List.getElem?_eq_getElem hi, List.getD_eq_getElem?_getD]
theorem Ep.fg {w : World} {g b : Nat} {s : St} (h : Ep w g b s) (i : Nat) : w.frozen? ⟨g, i, none⟩ = false := blk_frozen h.hg i
theorem Ep.fb {w : World} {g b : Nat} {s : St} (h : Ep w g b s) (i : Nat) : w.frozen? ⟨b, i, none⟩ = false := blk_frozen h.hb i
theorem Ep.setPin {w : World} {g b : Nat} {s : St} (h : Ep w g b s) (i : Nat) (v : Int) : Ep (w.setCell ⟨b, i, none⟩ (.int .i64 v)) g b { s with pins := s.pins.set i v } := by
  have hl : (s.pins.set i v).length = s.pins.length := by simp
  refine ⟨?_, blk_put h.hb i _ ?_, by simpa using h.len, h.num⟩
  · simp only [hl]; exact blk_far h.hg h.ne _
  · apply Array.ext'
    simp [nums, List.map_set]
theorem Ep.setNow {w : World} {g b : Nat} {s : St} (h : Ep w g b s) (v : Int) (hv : 1 ≤ v ∧ v ≤ s.most) : Ep (w.setCell ⟨g, 0, none⟩ (.int .i64 v)) g b { s with now := v } :=
  ⟨blk_put h.hg 0 _ rfl, blk_far h.hb h.ne.symm _, h.len, ⟨hv.1, hv.2, h.num.2.2⟩⟩

/-- The blocks of the state. -/
def At (g b : Nat) : Nat → Prop := fun k => k = g ∨ k = b

/-- Whose pin there is. -/
def St.has (s : St) (i : Int) : Bool := decide (0 ≤ i ∧ i < s.pins.length)

theorem St.has_lt {s : St} {i : Int} (h : s.has i = true) : i.toNat < s.pins.length := by simp [St.has] at h; omega
theorem rd_nat (xs : List Int) (i : Int) : rd xs (i.toNat : Nat) = rd xs i := rfl
/-- Where its pin stands. -/
def St.pinAt (s : St) (b : Nat) (i : Int) : Option Addr := if s.has i then some ⟨b, i.toNat, none⟩ else none
/-- To which epoch. -/
def St.pinned (s : St) (i : Int) : Bool := s.has i && decide (rd s.pins i ≠ 0)
def St.pinVal (s : St) (i : Int) : Int := if s.pinned i then rd s.pins i else 0
def St.pinOk (s : St) (i : Int) : Bool := s.has i && decide (rd s.pins i = 0)
def St.pin (s : St) (i : Int) : St := if s.pinOk i then { s with pins := s.pins.set i.toNat s.now } else s
def St.unpin (s : St) (i : Int) : St := if s.pinned i then { s with pins := s.pins.set i.toNat 0 } else s

set_option maxHeartbeats 4000000 in
set_option maxRecDepth 100000 in
theorem pin.calls (w : World) (g b : Nat) (s : St) (h : Ep w g b s) (i : Int) :
    Calls Try.prog 22 #[.pointer (some ⟨g, 0, none⟩), .int .i64 i] w fun e w' => e = .returned (.pointer (s.pinAt b i)) ∧ Drawn0 w w' := by
  have HH := Aside0.mk h
  have c2 := h.c2
  have hu30 := Try.underlying30
  have hu50 := Try.underlying50
  by_cases h0 : i < 0
  · have e : s.pinAt b i = none := by simp [St.pinAt, St.has]; omega
    clear h
    go_enter Try.func22, Try.ntmps22
    go_wp2
    exact bodyPost_ret (v := .pointer none) (by simp [results, Try.results22, go_sem]) rfl ⟨by first | rfl | rw [e], ⟨⟨0, rfl⟩⟩⟩
  · by_cases h1 : i < s.pins.length
    · have e : s.pinAt b i = some ⟨b, i.toNat, none⟩ := by simp [St.pinAt, St.has]; omega
      have h2 : ¬ (s.pins.length : Int) ≤ i := by omega
      have h3 : 0 ≤ i := by omega
      have h4 : i.toNat < s.pins.length := by omega
      clear h
      go_enter Try.func22, Try.ntmps22
      go_wp2
      exact bodyPost_ret (v := .pointer (some ⟨b, i.toNat, none⟩)) (by simp [results, Try.results22, go_sem]) rfl ⟨by first | rfl | rw [e], ⟨⟨0, rfl⟩⟩⟩
    · have e : s.pinAt b i = none := by simp [St.pinAt, St.has]; omega
      have h2 : (s.pins.length : Int) ≤ i := by omega
      clear h
      go_enter Try.func22, Try.ntmps22
      go_wp2
      exact bodyPost_ret (v := .pointer none) (by simp [results, Try.results22, go_sem]) rfl ⟨by first | rfl | rw [e], ⟨⟨0, rfl⟩⟩⟩

theorem now.calls (w : World) (g b : Nat) (s : St) (h : Ep w g b s) :
    Calls Try.prog 18 #[.pointer (some ⟨g, 0, none⟩)] w fun e w' => e = .returned (.int .i64 s.now) ∧ Drawn0 w w' := by
  have c0 := h.c0
  have hu50 := Try.underlying50
  clear h
  go_enter Try.func18, Try.ntmps18
  go_wp2
  exact bodyPost_ret (v := .int .i64 s.now) (by simp [results, Try.results18, go_sem]) rfl ⟨by simp, ⟨⟨0, rfl⟩⟩⟩

theorem nowNil.calls (w : World) :
    Calls Try.prog 18 #[.pointer none] w fun e w' => e = .returned (.int .i64 0) ∧ Drawn0 w w' := by
  go_enter Try.func18, Try.ntmps18
  go_wp2
  exact bodyPost_ret (v := .int .i64 0) (by simp [results, Try.results18, go_sem]) rfl ⟨by simp, ⟨⟨0, rfl⟩⟩⟩

theorem pinNil.calls (w : World) (i : Int) :
    Calls Try.prog 22 #[.pointer none, .int .i64 i] w fun e w' => e = .returned (.pointer none) ∧ Drawn0 w w' := by
  go_enter Try.func22, Try.ntmps22
  go_wp2
  exact bodyPost_ret (v := .pointer none) (by simp [results, Try.results22, go_sem]) rfl ⟨by simp, ⟨⟨0, rfl⟩⟩⟩

set_option maxHeartbeats 4000000 in
set_option maxRecDepth 100000 in
theorem pinned.calls (w : World) (g b : Nat) (s : St) (h : Ep w g b s) (i : Int) :
    Calls Try.prog 16 #[.pointer (some ⟨g, 0, none⟩), .int .i64 i] w fun e w' => e = .returned (.tuple #[.int .i64 (s.pinVal i), .bool (s.pinned i)]) ∧ Drawn0 w w' := by
  have HH := Aside0.mk h
  have hu50 := Try.underlying50
  have c0 := h.c0
  by_cases e : s.has i = true
  · have h0 : 0 ≤ i := by simp [St.has] at e; omega
    have cp := h.cp i.toNat (St.has_lt e)
    have fb := h.fb i.toNat
    rw [rd_nat] at cp
    have ea : s.pinAt b i = some ⟨b, i.toNat, none⟩ := by simp [St.pinAt, e]
    by_cases hz : rd s.pins i = 0
    · have e2 : s.pinned i = false := by simp [St.pinned, hz]
      have e3 : s.pinVal i = 0 := by simp [St.pinVal, e2]
      rw [hz] at cp
      clear h
      go_enter Try.func16, Try.ntmps16
      go_wp2_with (go_at_call 22; refine (pin.calls _ g b s (by first | exact HH.out | exact HH.out.drewN _) i).mono ?_; rintro e1 w1 ⟨rfl, ⟨m1, rfl⟩⟩; simp only [ea])
      exact bodyPost_ret (v := .tuple #[.int .i64 0, .bool false]) (by simp [results, Try.results16, go_sem]) rfl ⟨by first | rfl | rw [e2, e3], by first | exact Drawn0.refl _ | exact (Drawn0.refl _).step _⟩
    · have e2 : s.pinned i = true := by simp [St.pinned, hz, e]
      have e3 : s.pinVal i = rd s.pins i := by simp [St.pinVal, e2]
      clear h
      go_enter Try.func16, Try.ntmps16
      go_wp2_with (go_at_call 22; refine (pin.calls _ g b s (by first | exact HH.out | exact HH.out.drewN _) i).mono ?_; rintro e1 w1 ⟨rfl, ⟨m1, rfl⟩⟩; simp only [ea])
      exact bodyPost_ret (v := .tuple #[.int .i64 (rd s.pins i), .bool true]) (by simp [results, Try.results16, go_sem]) rfl ⟨by first | rfl | rw [e2, e3], by first | exact Drawn0.refl _ | exact (Drawn0.refl _).step _⟩
  · have ea : s.pinAt b i = none := by simp [St.pinAt, e]
    have e2 : s.pinned i = false := by simp [St.pinned, e]
    have e3 : s.pinVal i = 0 := by simp [St.pinVal, e2]
    clear h e
    go_enter Try.func16, Try.ntmps16
    go_wp2_with (go_at_call 22; refine (pin.calls _ g b s (by first | exact HH.out | exact HH.out.drewN _) i).mono ?_; rintro e1 w1 ⟨rfl, ⟨m1, rfl⟩⟩; simp only [ea])
    exact bodyPost_ret (v := .tuple #[.int .i64 0, .bool false]) (by simp [results, Try.results16, go_sem]) rfl ⟨by first | rfl | rw [e2, e3], by first | exact Drawn0.refl _ | exact (Drawn0.refl _).step _⟩
set_option maxHeartbeats 4000000 in
set_option maxRecDepth 100000 in
theorem Pin.calls (w : World) (g b : Nat) (s : St) (h : Ep w g b s) (i : Int) :
    Calls Try.prog 11 #[.pointer (some ⟨g, 0, none⟩), .int .i64 i] w fun e w' => e = .returned (.bool (s.pinOk i)) ∧ Ep w' g b (s.pin i) ∧ Off w w' (At g b) := by
  have HH := Aside0.mk h
  have hu50 := Try.underlying50
  have c0 := h.c0
  by_cases e : s.has i = true
  · have h0 : 0 ≤ i := by simp [St.has] at e; omega
    have cp := h.cp i.toNat (St.has_lt e)
    have fb := h.fb i.toNat
    rw [rd_nat] at cp
    have ea : s.pinAt b i = some ⟨b, i.toNat, none⟩ := by simp [St.pinAt, e]
    by_cases hz : rd s.pins i = 0
    · have e2 : s.pinOk i = true := by simp [St.pinOk, hz, e]
      have e3 : s.pin i = { s with pins := s.pins.set i.toNat s.now } := by simp [St.pin, e2]
      rw [hz] at cp
      clear h
      go_enter Try.func11, Try.ntmps11
      go_wp2_with (go_at_call 22; refine (pin.calls _ g b s (by first | exact HH.out | exact HH.out.drewN _) i).mono ?_; rintro e1 w1 ⟨rfl, ⟨m1, rfl⟩⟩; simp only [ea])
      exact bodyPost_ret (v := .bool true) (by simp [results, Try.results11, go_sem]) rfl ⟨by first | rfl | rw [e2], by (try rw [e3]); first | exact HH.out.setPin i.toNat s.now | exact (HH.out.drewN _).setPin i.toNat s.now, by first | exact (Off.refl _ _).setCell (.inr rfl) _ | exact ((Off.refl _ _).drewN _).setCell (.inr rfl) _⟩
    · have e2 : s.pinOk i = false := by simp [St.pinOk, hz]
      have e3 : s.pin i = s := by simp [St.pin, e2]
      clear h
      go_enter Try.func11, Try.ntmps11
      go_wp2_with (go_at_call 22; refine (pin.calls _ g b s (by first | exact HH.out | exact HH.out.drewN _) i).mono ?_; rintro e1 w1 ⟨rfl, ⟨m1, rfl⟩⟩; simp only [ea])
      exact bodyPost_ret (v := .bool false) (by simp [results, Try.results11, go_sem]) rfl ⟨by first | rfl | rw [e2], by (try rw [e3]); first | exact HH.out | exact HH.out.drewN _, by first | exact (Off.refl _ _) | exact (Off.refl _ _).drewN _⟩
  · have ea : s.pinAt b i = none := by simp [St.pinAt, e]
    have e2 : s.pinOk i = false := by simp [St.pinOk, e]
    have e3 : s.pin i = s := by simp [St.pin, e2]
    clear h e
    go_enter Try.func11, Try.ntmps11
    go_wp2_with (go_at_call 22; refine (pin.calls _ g b s (by first | exact HH.out | exact HH.out.drewN _) i).mono ?_; rintro e1 w1 ⟨rfl, ⟨m1, rfl⟩⟩; simp only [ea])
    exact bodyPost_ret (v := .bool false) (by simp [results, Try.results11, go_sem]) rfl ⟨by first | rfl | rw [e2], by (try rw [e3]); first | exact HH.out | exact HH.out.drewN _, by first | exact (Off.refl _ _) | exact (Off.refl _ _).drewN _⟩
set_option maxHeartbeats 4000000 in
set_option maxRecDepth 100000 in
theorem Unpin.calls (w : World) (g b : Nat) (s : St) (h : Ep w g b s) (i : Int) :
    Calls Try.prog 13 #[.pointer (some ⟨g, 0, none⟩), .int .i64 i] w fun e w' => e = .returned (.bool (s.pinned i)) ∧ Ep w' g b (s.unpin i) ∧ Off w w' (At g b) := by
  have HH := Aside0.mk h
  have hu50 := Try.underlying50
  have c0 := h.c0
  by_cases e : s.has i = true
  · have h0 : 0 ≤ i := by simp [St.has] at e; omega
    have cp := h.cp i.toNat (St.has_lt e)
    have fb := h.fb i.toNat
    rw [rd_nat] at cp
    have ea : s.pinAt b i = some ⟨b, i.toNat, none⟩ := by simp [St.pinAt, e]
    by_cases hz : rd s.pins i = 0
    · have e2 : s.pinned i = false := by simp [St.pinned, hz]
      have e3 : s.unpin i = s := by simp [St.unpin, e2]
      rw [hz] at cp
      clear h
      go_enter Try.func13, Try.ntmps13
      go_wp2_with (go_at_call 22; refine (pin.calls _ g b s (by first | exact HH.out | exact HH.out.drewN _) i).mono ?_; rintro e1 w1 ⟨rfl, ⟨m1, rfl⟩⟩; simp only [ea])
      exact bodyPost_ret (v := .bool false) (by simp [results, Try.results13, go_sem]) rfl ⟨by first | rfl | rw [e2], by (try rw [e3]); first | exact HH.out | exact HH.out.drewN _, by first | exact (Off.refl _ _) | exact (Off.refl _ _).drewN _⟩
    · have e2 : s.pinned i = true := by simp [St.pinned, hz, e]
      have e3 : s.unpin i = { s with pins := s.pins.set i.toNat 0 } := by simp [St.unpin, e2]
      clear h
      go_enter Try.func13, Try.ntmps13
      go_wp2_with (go_at_call 22; refine (pin.calls _ g b s (by first | exact HH.out | exact HH.out.drewN _) i).mono ?_; rintro e1 w1 ⟨rfl, ⟨m1, rfl⟩⟩; simp only [ea])
      exact bodyPost_ret (v := .bool true) (by simp [results, Try.results13, go_sem]) rfl ⟨by first | rfl | rw [e2], by (try rw [e3]); first | exact HH.out.setPin i.toNat 0 | exact (HH.out.drewN _).setPin i.toNat 0, by first | exact (Off.refl _ _).setCell (.inr rfl) _ | exact ((Off.refl _ _).drewN _).setCell (.inr rfl) _⟩
  · have ea : s.pinAt b i = none := by simp [St.pinAt, e]
    have e2 : s.pinned i = false := by simp [St.pinned, e]
    have e3 : s.unpin i = s := by simp [St.unpin, e2]
    clear h e
    go_enter Try.func13, Try.ntmps13
    go_wp2_with (go_at_call 22; refine (pin.calls _ g b s (by first | exact HH.out | exact HH.out.drewN _) i).mono ?_; rintro e1 w1 ⟨rfl, ⟨m1, rfl⟩⟩; simp only [ea])
    exact bodyPost_ret (v := .bool false) (by simp [results, Try.results13, go_sem]) rfl ⟨by first | rfl | rw [e2], by (try rw [e3]); first | exact HH.out | exact HH.out.drewN _, by first | exact (Off.refl _ _) | exact (Off.refl _ _).drewN _⟩

end Go.Proofs.Ytdnfmfjaljkjkaa.Ep
