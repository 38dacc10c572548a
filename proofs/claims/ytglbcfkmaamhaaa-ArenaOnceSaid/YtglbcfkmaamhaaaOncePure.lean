/- ArenaOnce in plain Lean: what holds of an arena, of all refs that it gave, and of those that live. No condition. -/
import Derived.Test.YtglbcfkmaamhaaaArm
set_option linter.unusedVariables false
set_option linter.unusedSimpArgs false
namespace Go.Proofs.Ytglbcfkmaamhaaa.Arm
open Go Go.RowKit Go.Proofs.YtglbcfkmaamhaaaW.PrintWords Go.Proofs.Ytglbcfkmaamhaaa.Hv

structure OI (s : Ar) (all live : List (Int × Int)) (k : Nat) : Prop where
  g1 : ∀ p ∈ all, 0 ≤ p.1 ∧ p.2 ≤ (s.slot p.1).gen
  g2 : ∀ j, 0 ≤ (s.slot j).gen ∧ (s.slot j).gen ≤ k
  l1 : ∀ p ∈ live, s.has p.1 p.2 = true
  l2 : (live.map (·.1)).Nodup
  l3 : live.length = s.held
  l4 : all.length ≤ k
  l5 : live.length ≤ k
theorem slot_new (n : Nat) (z : List Value) (j : Int) : ((Ar.new n z).slot j).gen = 0 := by
  simp only [Ar.new, Ar.slot, List.getD_eq_getElem?_getD, List.getElem?_replicate]
  split <;> rfl
theorem oi_start (n : Nat) (z : List Value) : OI (Ar.new n z) [] [] 0 :=
  ⟨by simp, fun j => by rw [slot_new]; simp, by simp, by simp, by simp [Ar.new, Ar.held, List.countP_replicate], Nat.le_refl _, Nat.le_refl _⟩
variable {m : Nat} {X : List Value → Prop} {s : Ar} {all live : List (Int × Int)} {k : Nat}
theorem oi_more (h : OI s all live k) : OI s all live (k + 1) :=
  ⟨h.g1, fun j => by have := h.g2 j; omega, h.l1, h.l2, h.l3, by have := h.l4; omega, by have := h.l5; omega⟩
theorem oi_free (hk : s.Ok m X) {p : Int × Int} (h : OI s all (p :: live) k) (z : List Value) : OI (s.drop p.1 z) all live (k + 1) := by
  have hp := h.l1 p (by simp)
  obtain ⟨h1, h2, h3, h4⟩ := Ar.has_lt hp
  have hs : ∀ j : Int, ((s.drop p.1 z).slot j) = if j.toNat = p.1.toNat then ⟨z, (s.slot p.1).gen, false⟩ else s.slot j := fun j => by rw [Ar.drop, slot_set _ _ _ _ _ _ (by omega)]
  have hg : ∀ j : Int, ((s.drop p.1 z).slot j).gen = (s.slot j).gen := fun j => by
    rw [hs]
    by_cases e : j.toNat = p.1.toNat
    · rw [if_pos e]
      have : s.slot j = s.slot p.1 := by simp only [Ar.slot, e]
      rw [this]
    · rw [if_neg e]
  have hd := Ar.held_drop hp z
  have l2 := List.nodup_cons.1 h.l2
  have l3 := h.l3
  simp only [List.length_cons] at l3
  refine ⟨fun q hq => by rw [hg]; exact h.g1 q hq, fun j => by rw [hg]; have := h.g2 j; omega, fun q hq => ?_, l2.2, by omega, by have := h.l4; omega, by have := h.l5; simp at this; omega⟩
  have hq1 := h.l1 q (List.mem_cons_of_mem _ hq)
  obtain ⟨q1, q2, q3, q4⟩ := Ar.has_lt hq1
  have hne : q.1.toNat ≠ p.1.toNat := by
    intro e
    have : q.1 = p.1 := by omega
    exact l2.1 (List.mem_map.2 ⟨q, hq, this⟩)
  have hn : (s.drop p.1 z).n = s.n := by simp [Ar.n, Ar.drop]
  simp only [Ar.has, hn, hs, if_neg hne, q3, q4]
  simp [q1, q2]
theorem has_drop {p : Int × Int} (hp : s.has p.1 p.2 = true) (z : List Value) : (s.drop p.1 z).has p.1 p.2 = false := by
  obtain ⟨h1, h2, h3, h4⟩ := Ar.has_lt hp
  have : ((s.drop p.1 z).slot p.1).taken = false := by rw [Ar.drop, slot_set _ _ _ _ _ _ (by omega), if_pos rfl]
  simp [Ar.has, this]
theorem oi_gen (h : OI s all live k) (hk : k ≤ 1000) : s.gen = (s.slot s.next).gen + 1 := by
  have := h.g2 s.next
  unfold Ar.gen wrap64
  omega
theorem oi_fresh (h : OI s all live k) (hk : k ≤ 1000) : (s.next, s.gen) ∉ all := by
  intro hm
  have := (h.g1 _ hm).2
  rw [oi_gen h hk] at this
  simp at this
  omega
theorem oi_take (hok : s.Ok m X) (hr : ¬ s.room = 0) (h : OI s all live k) (hk : k ≤ 1000) (x : List Value) : OI (s.take x) (all ++ [(s.next, s.gen)]) (live ++ [(s.next, s.gen)]) (k + 1) := by
  obtain ⟨b0, b1⟩ := hok.next hr
  have e := oi_gen h hk
  have hs : ∀ j : Int, ((s.take x).slot j) = if j.toNat = s.next.toNat then ⟨x, s.gen, true⟩ else s.slot j := fun j => by rw [Ar.take, slot_set _ _ _ _ _ _ (by omega)]
  have hn : (s.take x).n = s.n := by simp [Ar.n, Ar.take]
  have hg : ∀ j : Int, (s.slot j).gen ≤ ((s.take x).slot j).gen ∧ 0 ≤ ((s.take x).slot j).gen ∧ ((s.take x).slot j).gen ≤ k + 1 := fun j => by
    have h2 := h.g2 j
    rw [hs]
    by_cases e2 : j.toNat = s.next.toNat
    · have : s.slot j = s.slot s.next := by simp only [Ar.slot, e2]
      rw [this] at h2
      rw [if_pos e2, this]
      simp only
      omega
    · rw [if_neg e2]; omega
  have hfree := hok.free
  have hnl : ∀ q ∈ live, q.1.toNat ≠ s.next.toNat := fun q hq e2 => by
    obtain ⟨q1, q2, q3, q4⟩ := Ar.has_lt (h.l1 q hq)
    have : s.slot q.1 = s.slot s.next := by simp only [Ar.slot, e2]
    rw [this, hfree] at q3
    cases q3
  refine ⟨fun q hq => ?_, fun j => ⟨(hg j).2.1, by have := (hg j).2.2; push_cast; exact this⟩, fun q hq => ?_, ?_, ?_, by have := h.l4; simp; omega, by have := h.l5; simp; omega⟩
  · rcases List.mem_append.1 hq with hq | hq
    · exact ⟨(h.g1 q hq).1, Int.le_trans (h.g1 q hq).2 (hg q.1).1⟩
    · rw [List.mem_singleton.1 hq]
      refine ⟨b0, ?_⟩
      simp only [hs, if_pos]
      exact Int.le_refl _
  · rcases List.mem_append.1 hq with hq | hq
    · obtain ⟨q1, q2, q3, q4⟩ := Ar.has_lt (h.l1 q hq)
      simp only [Ar.has, hn, hs, if_neg (hnl q hq), q3, q4]
      simp [q1, q2]
    · rw [List.mem_singleton.1 hq]
      simp only [Ar.has, hn, hs, if_pos]
      simp [b0, b1]
  · rw [List.map_append]
    refine List.nodup_append.2 ⟨h.l2, by simp, fun a ha b hb => ?_⟩
    obtain ⟨q, hq, rfl⟩ := List.mem_map.1 ha
    simp at hb
    rw [hb]
    intro e2
    exact hnl q hq (by rw [e2])
  · rw [hok.held_take hr, List.length_append, h.l3]
    rfl
end Go.Proofs.Ytglbcfkmaamhaaa.Arm
