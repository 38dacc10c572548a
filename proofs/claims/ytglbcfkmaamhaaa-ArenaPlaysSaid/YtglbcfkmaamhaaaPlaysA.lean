/- ArenaPlays: which ref a deed means; both arenas' methods, whatever the state. No condition. -/
import Derived.Test.YtglbcfkmaamhaaaArAw
import Derived.Test.YtglbcfkmaamhaaaR16B
set_option linter.unusedVariables false
set_option linter.unusedSimpArgs false
namespace Go.Proofs.Ytglbcfkmaamhaaa.ArI
open Go Go.RowKit Go.Proofs.YtglbcfkmaamhaaaW.PrintWords Go.Proofs.YtglbcfkmaamhaaaW.PrintLast Go.Proofs.YtglbcfkmaamhaaaW.PrintMore Go.Proofs.Ytglbcfkmaamhaaa.Hv Go.Proofs.Ytglbcfkmaamhaaa.Arm Go.Proofs.Ytglbcfkmaamhaaa.R16
variable {w0 w w1 : World} {L : List Ob} {s : Ar} {a1 a2 a3 : Option Addr} {c1 c2 c3 : Nat}

/-- The ref that a deed means. -/
def rfOf (rf : List (Int × Int)) (old : Int) (r : Int × Int) : Int × Int := if 0 ≤ old ∧ 0 < rf.length then rf.getD (old % (rf.length : Int)).toNat (0, 0) else r
set_option maxHeartbeats 4000000 in
set_option maxRecDepth 100000 in
theorem ref.calls (rf : List (Int × Int)) (hl : rf.length ≤ 1000) {ad : Option Addr} {c : Nat} (hv : Hv w0 w L) (h : Rw 33 2 L ad rf.length c (refs rf)) (kd n old i q : Int) (ho : old ≤ 9223372036854775807) :
    Calls Try.prog 18 #[.slice ad rf.length c, .agg #[.int .i64 kd, .int .i64 n, .int .i64 old, .int .i64 i, .int .i64 q]] w fun e w' => e = .returned (.agg #[.int .i64 (rfOf rf old (i, q)).1, .int .i64 (rfOf rf old (i, q)).2]) ∧ Below w.heap.size w w' := by
  have hu35 := Try.underlying35
  have hu33 := Try.underlying33
  have fin : ∀ o p : Obj, Below w.heap.size w ((w.alloc o).alloc p) := fun o p => below_alloc (below_alloc (Below.refl _ _) o) p
  by_cases h0 : 0 ≤ old
  · have d0 : decide (0 ≤ old) = true := decide_eq_true h0
    by_cases h1 : 0 < rf.length
    · have d1 : decide (0 < rf.length) = true := decide_eq_true h1
      have d1' : decide (0 < (rf.length : Int)) = true := decide_eq_true (by omega)
      have b0 : 0 ≤ old % (rf.length : Int) := Int.emod_nonneg _ (by omega)
      have b1 : old % (rf.length : Int) < rf.length := Int.emod_lt_of_pos _ (by omega)
      have hm : old.tmod (rf.length : Int) = old % (rf.length : Int) := Int.tmod_eq_emod_of_nonneg h0
      have e : rfOf rf old (i, q) = rf.getD (old % (rf.length : Int)).toNat (0, 0) := by simp [rfOf, h0, h1]
      obtain ⟨gr, og, rfl, hc, hlt, _⟩ := h.at_ hv h1
      generalize old % (rf.length : Int) = m at b0 b1 hm e
      obtain ⟨p, hp⟩ : ∃ p, rf[m.toNat]? = some p := ⟨_, List.getElem?_eq_getElem (by omega)⟩
      have hr := refs_get rf _ p hp
      have z0 : ∀ o p', ((w.alloc o).alloc p').cell? ⟨gr, og + m.toNat * 2, none⟩ = some (.int .i64 p.1) := fun o p' => pw_cell_below (fin o p') (hc _ _ hr.1)
      have z1 : ∀ o p', ((w.alloc o).alloc p').cell? ⟨gr, og + m.toNat * 2 + 1, none⟩ = some (.int .i64 p.2) := fun o p' => pw_cell_below (fin o p') (by rw [Nat.add_assoc]; exact hc _ _ hr.2)
      have ee : rfOf rf old (i, q) = p := by rw [e, List.getD_eq_getElem?_getD, hp]; rfl
      have EE := Aside0.mk ee
      clear e ee hr hp hc h hv
      go_enter Try.func18, Try.ntmps18
      go_wp2_with fail
      exact bodyPost_ret (v := .agg #[.int .i64 p.1, .int .i64 p.2]) (by simp [results, Try.results18, go_sem]) rfl ⟨by rw [EE.out], by first | exact fin _ _ | exact pw_below_drewN (fin _ _) _⟩
    · have d1 : decide (0 < rf.length) = false := decide_eq_false h1
      have d1' : decide (0 < (rf.length : Int)) = false := decide_eq_false (by omega)
      have e : rfOf rf old (i, q) = (i, q) := by simp [rfOf, h1]
      clear h hv
      go_enter Try.func18, Try.ntmps18
      go_wp2_with fail
      exact bodyPost_ret (v := .agg #[.int .i64 i, .int .i64 q]) (by simp [results, Try.results18, go_sem]) rfl ⟨by first | rfl | rw [e], by first | exact fin _ _ | exact pw_below_drewN (fin _ _) _⟩
  · have d0 : decide (0 ≤ old) = false := decide_eq_false h0
    have e : rfOf rf old (i, q) = (i, q) := by simp [rfOf, h0]
    clear h hv
    go_enter Try.func18, Try.ntmps18
    go_wp2_with fail
    exact bodyPost_ret (v := .agg #[.int .i64 i, .int .i64 q]) (by simp [results, Try.results18, go_sem]) rfl ⟨by first | rfl | rw [e], by first | exact fin _ _ | exact pw_below_drewN (fin _ _) _⟩

theorem rTake (hv : Hv w0 w L) (h : RfA L s a1 c1 a2 c2 a3 c3) {m : Nat} {X : List Value → Prop} (hok : s.Ok m X) (x : List Value) {a b er : Int} {s' : Ar} (hr : tk s = (a, b, er)) (hs : s.took x = s') :
    Calls Try.prog 21 #[.agg #[.slice a1 s.n c1, .slice a2 s.n c2, .slice a3 s.back.length c3, .int .i64 s.ever]] w (Takes s' a b er L w) := by
  subst hs
  unfold tk at hr
  unfold Ar.took
  by_cases h0 : s.room = 0
  · rw [if_pos h0] at hr ⊢
    simp only [Prod.mk.injEq] at hr
    obtain ⟨rfl, rfl, rfl⟩ := hr
    exact R16.take0.calls hv h hok.most h0
  · rw [if_neg h0] at hr ⊢
    simp only [Prod.mk.injEq] at hr
    obtain ⟨rfl, rfl, rfl⟩ := hr
    by_cases hk : s.back = []
    · have := R16.take1.calls hv h hok h0 hk x
      rwa [show s.back.length = 0 by simp [hk]]
    · obtain ⟨k, hl⟩ : ∃ k, s.back.length = k + 1 := ⟨s.back.length - 1, by have : 0 < s.back.length := List.length_pos_iff.2 hk; omega⟩
      rw [hl]
      exact R16.take2.calls hv h hok h0 hl x
theorem rFree (hv : Hv w0 w L) (h : RfA L s a1 c1 a2 c2 a3 c3) {m : Nat} {X : List Value → Prop} (hok : s.Ok m X) (i q : Int) (z : List Value) {b : Bool} {s' : Ar} (hb : s.has i q = b) (hs : s.free i q z = s') :
    Calls Try.prog 24 #[.agg #[.slice a1 s.n c1, .slice a2 s.n c2, .slice a3 s.back.length c3, .int .i64 s.ever], .agg #[.int .i64 i, .int .i64 q]] w (Frees s' b L w) := by
  subst hs
  unfold Ar.free
  cases b with
  | true => rw [if_pos hb]; exact R16.free1.calls hv h hok i q hb z
  | false => rw [if_neg (by simp [hb])]; exact R16.free0.calls hv h hok.most i q hb
end Go.Proofs.Ytglbcfkmaamhaaa.ArI
