/- The arena's methods at one element type, whatever the state. No condition. -/
import Derived.Test.YtglbcfkmaamhaaaArIB
set_option linter.unusedVariables false
set_option linter.unusedSimpArgs false
namespace Go.Proofs.Ytglbcfkmaamhaaa.ArI
open Go Go.RowKit Go.Proofs.YtglbcfkmaamhaaaW.PrintWords Go.Proofs.YtglbcfkmaamhaaaW.PrintLast Go.Proofs.YtglbcfkmaamhaaaW.PrintMore Go.Proofs.Ytglbcfkmaamhaaa.Hv Go.Proofs.Ytglbcfkmaamhaaa.Arm
variable {w0 w w1 : World} {g sb : Nat} {s : Ar} {L L' : List Ob}

theorem Arn.join (h : Arn w0 w g sb s L) {A : List Ob} (k : Hv w w1 A) : Arn w0 w1 g sb s (A ++ L) := by
  obtain ⟨bv, B, h1, h2, h3⟩ := h
  refine ⟨bv, B, (h1.join k).perm ?_, h2, h3⟩
  rw [← List.append_assoc, ← List.append_assoc]
  exact List.Perm.append_right L List.perm_append_comm
theorem Arn.tail {a : Ob} (h : Arn w0 w g sb s (a :: L)) : Arn w0 w g sb s L := by
  obtain ⟨bv, B, h1, h2, h3⟩ := h
  exact ⟨bv, B, h1.drop (List.Sublist.append_left (List.sublist_cons_self a L) _), h2, h3⟩
/-- Some blocks beside the arena, brought to the front, and back again when they have turned. -/
theorem Arn.lens {X A Y : List Ob} (h : Arn w0 w g sb s (X ++ (A ++ Y))) : ∃ R, Hv w0 w (A ++ R) ∧ ∀ w' A', Hv w0 w' (A' ++ R) → Arn w0 w' g sb s (X ++ (A' ++ Y)) := by
  obtain ⟨bv, B, h1, h2, h3⟩ := h
  have key : ∀ A' : List Ob, (A' ++ (AL g sb bv B s ++ (X ++ Y))).Perm (AL g sb bv B s ++ (X ++ (A' ++ Y))) := fun A' => by
    have e1 : (A' ++ ((AL g sb bv B s ++ X) ++ Y)).Perm ((AL g sb bv B s ++ X) ++ (A' ++ Y)) := by
      rw [← List.append_assoc, ← List.append_assoc (AL g sb bv B s ++ X)]
      exact List.Perm.append_right Y List.perm_append_comm
    simpa [List.append_assoc] using e1
  exact ⟨AL g sb bv B s ++ (X ++ Y), h1.perm (key A), fun w' A' hw => ⟨bv, B, hw.perm (key A').symm, h2, h3⟩⟩
theorem Arn.Take (h : Arn w0 w g sb s L) (x0 : Int) {a b er : Int} {s' : Ar} (hr : tk s = (a, b, er)) (hs : s.took [.int .i64 x0] = s') :
    Calls Try.prog 20 #[.pointer (some ⟨g, 0, none⟩), .int .i64 x0] w fun e w' => e = .returned (.tuple #[.agg #[.int .i64 a, .int .i64 b], .int .i64 er]) ∧ Arn w0 w' g sb s' L := by
  subst hs
  unfold tk at hr
  unfold Ar.took
  by_cases h0 : s.room = 0
  · rw [if_pos h0] at hr ⊢
    simp only [Prod.mk.injEq] at hr
    obtain ⟨rfl, rfl, rfl⟩ := hr
    exact (take0.calls h h0 (x0)).mono fun e w' ⟨h1, h2⟩ => ⟨h1, h.call h2⟩
  · rw [if_neg h0] at hr ⊢
    simp only [Prod.mk.injEq] at hr
    obtain ⟨rfl, rfl, rfl⟩ := hr
    by_cases hk : s.back = []
    · exact take1.calls h h0 hk (x0)
    · exact take2.calls h h0 hk (x0)
theorem takeNil.calls (w : World) (x0 : Int) : Calls Try.prog 20 #[.pointer none, .int .i64 x0] w fun e w' => e = .returned (.tuple #[.agg #[.int .i64 0, .int .i64 0], .int .i64 20]) ∧ Below w.heap.size w w' := by
  have hu33 := Try.underlying33
  go_enter Try.func20, Try.ntmps20
  go_wp2_with (go_at_call 26; refine (roomNil.calls _).mono ?_; rintro e1 w1 ⟨rfl, ⟨n1, rfl⟩⟩)
  exact bodyPost_ret (v := .tuple #[.agg #[.int .i64 0, .int .i64 0], .int .i64 20]) (by simp [results, Try.results20, go_sem]) rfl ⟨rfl, by repeat (first | exact Below.refl _ _ | apply pw_below_drewN | apply below_alloc | (refine Below.setCell ?_ (by simp) _))⟩
theorem Arn.Get (h : Arn w0 w g sb s L) (i q : Int) (hq : s.has i q = true) (x0 : Int) (hx : (s.slot i).x = [.int .i64 x0]) : Calls Try.prog 22 #[.pointer (some ⟨g, 0, none⟩), .agg #[.int .i64 i, .int .i64 q]] w fun e w' => e = .returned (.tuple #[.int .i64 x0, .bool true]) ∧ Arn w0 w' g sb s L :=
  (get.calls h i q hq (x0) hx).mono fun e w' ⟨h1, h2⟩ => ⟨h1, h.call h2⟩
theorem Arn.GetNo (h : Arn w0 w g sb s L) (i q : Int) (hq : s.has i q = false) : Calls Try.prog 22 #[.pointer (some ⟨g, 0, none⟩), .agg #[.int .i64 i, .int .i64 q]] w fun e w' => e = .returned (.tuple #[.int .i64 0, .bool false]) ∧ Arn w0 w' g sb s L :=
  (getNo.calls h i q hq).mono fun e w' ⟨h1, h2⟩ => ⟨h1, h.call h2⟩
theorem Arn.Set (h : Arn w0 w g sb s L) (i q : Int) (x0 : Int) {b : Bool} {s' : Ar} (hb : s.has i q = b) (hs : s.set i q [.int .i64 x0] = s') : Calls Try.prog 23 #[.pointer (some ⟨g, 0, none⟩), .agg #[.int .i64 i, .int .i64 q], .int .i64 x0] w fun e w' => e = .returned (.bool b) ∧ Arn w0 w' g sb s' L := by
  subst hs
  unfold Ar.set
  cases b with
  | true => rw [if_pos hb]; exact set.calls h i q hb (x0)
  | false => rw [if_neg (by simp [hb])]; exact (setNo.calls h i q hb (x0)).mono fun e w' ⟨h1, h2⟩ => ⟨h1, h.call h2⟩
theorem Arn.Free (h : Arn w0 w g sb s L) (i q : Int) {b : Bool} {s' : Ar} (hb : s.has i q = b) (hs : s.free i q [.int .i64 0] = s') : Calls Try.prog 25 #[.pointer (some ⟨g, 0, none⟩), .agg #[.int .i64 i, .int .i64 q]] w fun e w' => e = .returned (.bool b) ∧ Arn w0 w' g sb s' L := by
  subst hs
  unfold Ar.free
  cases b with
  | true => rw [if_pos hb]; exact free.calls h i q hb
  | false => rw [if_neg (by simp [hb])]; exact (freeNo.calls h i q hb).mono fun e w' ⟨h1, h2⟩ => ⟨h1, h.call h2⟩
theorem Arn.Room (h : Arn w0 w g sb s L) {r : Int} (hr : s.room = r) : Calls Try.prog 26 #[.pointer (some ⟨g, 0, none⟩)] w fun e w' => e = .returned (.int .i64 r) ∧ Arn w0 w' g sb s L := by
  subst hr
  exact (room.calls h).mono fun e w' ⟨h1, h2⟩ => ⟨h1, h.call h2.below⟩
theorem Arn.Live (h : Arn w0 w g sb s L) {l : List (Int × Int)} (hl : s.live = l) {n : Nat} (hn : l.length = n) : Calls Try.prog 29 #[.pointer (some ⟨g, 0, none⟩)] w fun e w' => ∃ ad c A, e = .returned (.slice ad n c) ∧ Gr 33 2 (.slice ad n c) n (refs l) A ∧ Arn w0 w' g sb s (A ++ L) := by
  subst hl hn
  exact (live.calls h).mono fun e w' ⟨ad, c, A, h1, h2, h3⟩ => ⟨ad, c, A, h1, h2, h.join h3⟩
theorem New (h : Hv w0 w L) (n : Int) : Calls Try.prog 16 #[.int .i64 n] w fun e w' => ∃ g sb, e = .returned (.pointer (some ⟨g, 0, none⟩)) ∧ Arn w0 w' g sb (Ar.new (many n) [.int .i64 0]) L :=
  (new.calls n w).mono fun e w' ⟨h1, bv, B, h2, h3, h4⟩ => ⟨_, _, h1, bv, B, by
    have := h.join h2
    rw [List.append_nil] at this
    exact this, h3, h4⟩
end Go.Proofs.Ytglbcfkmaamhaaa.ArI

