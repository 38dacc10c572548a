/- EpochsKeeps: the walk; what is safe stays so. -/
import Derived.Test.YtdnfmfjaljkjkaaEpC
import Derived.Test.YtdnfmfjaljkjkaaQEpochsPlaysx1
set_option linter.unusedVariables false
set_option linter.unusedSimpArgs false
namespace Go.Proofs.Ytdnfmfjaljkjkaa.Ep
open Go Go.RowKit Go.Proofs.YtdnfmfjaljkjkaaW.PrintWords Go.Proofs.YtdnfmfjaljkjkaaW.PrintLast Go.Proofs.YtdnfmfjaljkjkaaW.PrintMore Go.Proofs.Ytdnfmfjaljkjkaa.PEpochsPlays

/-- One deed. -/
def St.step (s : St) (d : S36) : St := if d.f0 = 0 then s.pin d.f1 else if d.f0 = 1 then s.unpin d.f1 else if d.f0 = 2 then s.tick.2 else s
/-- Whoever is pinned is pinned to the epoch, or to the one ahead. -/
structure Inv (s : St) (a : Int) (sf : Bool) : Prop where
  pins : ∀ p ∈ s.pins, p = 0 ∨ p = s.now ∨ p = s.now - 1
  len : s.pins.length = 6
  pos : 1 ≤ s.now
  safe : sf = true → a < s.least
theorem mem_low {xs : List Int} {p : Int} : p ∈ (lowOf xs).reverse ↔ p ∈ xs ∧ p ≠ 0 := by simp [lowOf]
theorem least_spec (s : St) : s.least ≤ s.now ∧ (∀ p ∈ s.pins, p ≠ 0 → s.least ≤ p) ∧ (s.least = s.now ∨ (s.least ∈ s.pins ∧ s.least ≠ 0)) := by
  obtain ⟨h1, h2, h3⟩ := foldl_mn (lowOf s.pins).reverse s.now
  refine ⟨h1, fun p hp hz => h2 p (mem_low.2 ⟨hp, hz⟩), ?_⟩
  rcases h3 with h3 | h3
  · exact .inl h3
  · exact .inr (mem_low.1 h3)
theorem le_least {s : St} {n : Int} (h1 : n ≤ s.now) (h2 : ∀ p ∈ s.pins, p ≠ 0 → n ≤ p) : n ≤ s.least := by
  obtain ⟨_, _, h⟩ := least_spec s
  rcases h with h | ⟨h, hz⟩
  · omega
  · exact h2 _ h hz
theorem set_mem {xs : List Int} {i : Nat} {v p : Int} (h : p ∈ xs.set i v) : p = v ∨ p ∈ xs := by
  rcases List.mem_or_eq_of_mem_set h with h | h
  · exact .inr h
  · exact .inl h
theorem pin_least (s : St) (n : Int) : s.least ≤ (s.pin n).least := by
  obtain ⟨h1, h2, _⟩ := least_spec s
  unfold St.pin
  split
  · refine le_least h1 fun p hp hz => ?_
    rcases set_mem hp with rfl | hp
    · exact h1
    · exact h2 p hp hz
  · exact Int.le_refl _
theorem unpin_least (s : St) (n : Int) : s.least ≤ (s.unpin n).least := by
  obtain ⟨h1, h2, _⟩ := least_spec s
  unfold St.unpin
  split
  · refine le_least h1 fun p hp hz => ?_
    rcases set_mem hp with rfl | hp
    · exact absurd rfl hz
    · exact h2 p hp hz
  · exact Int.le_refl _
theorem tick_least (s : St) : s.least ≤ s.tick.2.least := by
  obtain ⟨h1, h2, _⟩ := least_spec s
  unfold St.tick
  split
  · exact Int.le_refl _
  · split
    · exact Int.le_refl _
    · exact le_least (show s.least ≤ s.now + 1 by omega) h2
theorem step_least (s : St) (d : S36) : s.least ≤ (s.step d).least := by
  unfold St.step
  split
  · exact pin_least s _
  · split
    · exact unpin_least s _
    · split
      · exact tick_least s
      · exact Int.le_refl _
theorem pin_now (s : St) (n : Int) : (s.pin n).now = s.now := by unfold St.pin; split <;> rfl
theorem unpin_now (s : St) (n : Int) : (s.unpin n).now = s.now := by unfold St.unpin; split <;> rfl
theorem tick_now (s : St) : s.tick.2.now = s.now ∨ s.tick.2.now = s.now + 1 := by
  unfold St.tick
  split
  · exact .inl rfl
  · split
    · exact .inl rfl
    · exact .inr rfl
theorem step_now (s : St) (d : S36) : s.now ≤ (s.step d).now ∧ (s.step d).now ≤ s.now + 1 := by
  unfold St.step
  split
  · rw [pin_now]; omega
  · split
    · rw [unpin_now]; omega
    · split
      · have := tick_now s; omega
      · omega
theorem Inv.step {s : St} {a : Int} {sf : Bool} (h : Inv s a sf) (d : S36) : Inv (s.step d) a (decide (a < (s.step d).least)) := by
  have hn := step_now s d
  have hp := h.pos
  refine ⟨?_, ?_, by omega, fun h => of_decide_eq_true h⟩
  · unfold St.step
    split
    · rw [pin_now]
      unfold St.pin
      split
      · intro p hp
        rcases set_mem hp with rfl | hp
        · exact .inr (.inl rfl)
        · exact h.pins p hp
      · exact h.pins
    · split
      · rw [unpin_now]
        unfold St.unpin
        split
        · intro p hp
          rcases set_mem hp with rfl | hp
          · exact .inl rfl
          · exact h.pins p hp
        · exact h.pins
      · split
        · unfold St.tick
          split
          · exact h.pins
          · split
            · exact h.pins
            · intro p hp
              rename_i h1 _
              have h2 := (least_spec s).2.1 p hp
              rcases h.pins p hp with h3 | h3 | h3
              · exact .inl h3
              · exact .inr (.inr (show p = s.now + 1 - 1 by omega))
              · by_cases hz : p = 0
                · exact .inl hz
                · have := h2 hz
                  omega
        · exact h.pins
  · unfold St.step
    split
    · unfold St.pin
      split
      · simpa using h.len
      · exact h.len
    · split
      · unfold St.unpin
        split
        · simpa using h.len
        · exact h.len
      · split
        · unfold St.tick
          split
          · exact h.len
          · split
            · exact h.len
            · exact h.len
        · exact h.len
theorem Inv.at_ {s : St} {a : Int} {sf : Bool} (h : Inv s a sf) (j : Nat) (hj : j < 6) : s.pinned (j : Int) = false ∨ (s.pinned (j : Int) = true ∧ (s.pinVal (j : Int) = s.now ∨ s.pinVal (j : Int) = s.now - 1)) := by
  cases e : s.pinned (j : Int) with
  | false => exact .inl rfl
  | true =>
    refine .inr ⟨rfl, ?_⟩
    have hv : s.pinVal (j : Int) = rd s.pins (j : Int) := by simp [St.pinVal, e]
    have hz : rd s.pins (j : Int) ≠ 0 := by simp [St.pinned] at e; exact e.2
    have hm : rd s.pins (j : Int) ∈ s.pins := by
      have hl := h.len
      have hj' : j < s.pins.length := by omega
      have : rd s.pins (j : Int) = s.pins[j] := by simp [rd, List.getD_eq_getElem?_getD, hj']
      rw [this]
      exact List.getElem_mem hj'
    rw [hv]
    rcases h.pins _ hm with h | h | h
    · exact absurd h hz
    · exact .inl h
    · exact .inr h

set_option maxHeartbeats 16000000 in
set_option maxRecDepth 100000 in
theorem keeps.calls {A0 : Option Addr} {c0 : Nat} {l : List S36} (a : Int) (W : World) (hl : l.length ≤ c0) (hC : Kd.C k36 W A0 l.length l) :
    Calls Try.prog 4 #[.slice A0 l.length c0, .int .i64 a] W fun e w' => e = .returned (.bool true) ∧ Below W.heap.size W w' := by
  have hnot : ∀ (x : Bool) (w : World), (Op.unary .not (.bool x)).run Try.prog w = .ok (.bool (!x)) w := fun _ _ => rfl
  have hu23 := Try.underlying23
  have hu36 := Try.underlying36
  have HR := Aside0.mk hC
  have HC := Aside0.mk hl
  by_cases hf : (l.length : Int) ≤ 200
  · have e1 : decide ((l.length : Int) ≤ 200) = true := decide_eq_true hf
    clear hC hl
    go_enter Try.func4, Try.ntmps4
    go_wp2_with fail
    refine (transomlaw19_few.calls A0 c0 l true _ HR.out HC.out (by simp [transomlaw19_few.f]; omega)).mono ?_
    rintro e w0 ⟨rfl, ⟨n0, rfl⟩⟩
    go_wp2_with fail
    refine (new.calls _ 6 100 (by omega)).mono ?_
    rintro e w1 ⟨g, b, rfl, h1, h2, h3, h4⟩
    have o1 := Aside0.mk (show Own W w1 g b (St.new 6 100) from ⟨h1, below_then (pw_below_drewN (Below.refl _ _) _) (Nat.le_refl _) h2, h3, h4⟩)
    clear h1 h2 h3 h4
    go_wp2_with fail
    have HN := Aside0.mk (show Inv (St.new 6 100) a false from ⟨by simp [St.new], by simp [St.new], by simp [St.new], by simp⟩)
    go_loopg [7, 8, 9] l.length (fun kq v7 v8 v9 w' => ∃ (i : Int) (s : St) (sf : Bool), v7 = .bool sf ∧ v8 = .int .i64 s.now ∧ v9 = .int .i64 i ∧ kq = l.length - i.toNat ∧ 0 ≤ i ∧ i ≤ l.length ∧ Aside0 (Inv s a sf) ∧ Aside0 (Own W w' g b s))
    case atStart => exact ⟨0, St.new 6 100, false, rfl, rfl, rfl, rfl, Int.le_refl _, by omega, HN, o1⟩
    case round =>
      clear o1 HN
      obtain ⟨i, s, sf, rfl, rfl, rfl, rfl, hi0, hi, HI, HO⟩ := hrel
      by_cases hlt : i < (l.length : Int)
      · have p1 : 0 ≤ i := by omega
        have q1 : i < (l.length : Int) := by omega
        have hx := Kd.C_below HR.out HO.out.bel
        obtain ⟨ad, ea, hx0, hx1⟩ := at_T36 hx i p1 q1
        cases ea
        clear hx
        have HI' := Aside0.mk (HI.out.step (rd_T36 l i))
        have HF := Aside0.mk (And.intro (step_least s (rd_T36 l i)) (And.intro (step_now s (rd_T36 l i)) HI.out.safe))
        have HI0 := Aside0.mk (And.intro hi0 hi)
        generalize hd : rd_T36 l i = d at hx0 hx1 HI' HF
        clear hd HI
        replace p1 := eq_true p1
        replace q1 := eq_true q1
        clear hlt hi hi0
        obtain ⟨d0, d1⟩ := d
        by_cases d0z : d0 = 0
        · subst d0z
          go_wp2_with fail
          refine (HO.out.Pin d1 (r := s.pinOk d1) (s' := s.step ⟨0, d1⟩) rfl (by simp [St.step])).mono ?_
          rintro e1 w1 ⟨rfl, h1⟩
          have HO0 := Aside0.mk HO.out
          replace HO := Aside0.mk h1
          clear h1

          generalize ht : s.step _ = t at HI' HF HO
          clear ht
          obtain ⟨f1, ⟨f2, f3⟩, f4⟩ := HF.out
          obtain ⟨n1, n2, n3⟩ := HO0.out.ep.num
          obtain ⟨m1, m2, m3⟩ := HO.out.ep.num
          have g1 : ¬ t.now < s.now := by omega
          have g2 : ¬ s.now + 1 < t.now := by omega
          have b1 : s.now ≤ 1048575 := by omega
          have b2 : t.now ≤ 1048575 := by omega
          clear HF f2 f3 HO0 n2 n3 m2 m3
          cases sf
          · clear f1 f4
            generalize hs : decide (a < t.least) = sf' at HI'
            have HS := Aside0.mk hs
            clear hs
            go_wp2_with (first | (go_at_call 18; refine (Own.Now (by first | exact HO.out | exact HO.out.drewN _ | exact HO.out.drew) rfl).mono ?_; rintro e1 w1 ⟨rfl, h1⟩; replace HO := Aside0.mk h1; clear h1) | (go_at_call 19; refine (Own.Safe (by first | exact HO.out | exact HO.out.drewN _ | exact HO.out.drew) a HS.out).mono ?_; rintro e1 w1 ⟨rfl, h1⟩; replace HO := Aside0.mk h1; clear h1))
            go_loopg [10] 6 (fun kq v10 w' => ∃ (j : Int), v10 = .int .i64 j ∧ kq = 6 - j.toNat ∧ 0 ≤ j ∧ j ≤ 6 ∧ Aside0 (Own W w' g b t))
            case atStart => exact ⟨0, rfl, rfl, Int.le_refl _, by omega, HO⟩
            case round =>
              clear HO
              obtain ⟨j, rfl, rfl, hj0, hj, HO⟩ := hrel
              by_cases jlt : j < 6
              · rcases (show t.pinned j = false ∨ (t.pinned j = true ∧ (t.pinVal j = t.now ∨ t.pinVal j = t.now - 1)) from by have := HI'.out.at_ j.toNat (by omega); rwa [Int.toNat_of_nonneg hj0] at this) with hp | ⟨hp, hv | hv⟩
                · have HP := Aside0.mk hp
                  clear hp
                  go_wp2_with (go_at_call 16; refine (Own.Pinned (by first | exact HO.out | exact HO.out.drewN _ | exact HO.out.drew) j rfl HP.out).mono ?_; rintro e1 w1 ⟨rfl, h1⟩; replace HO := Aside0.mk h1; clear h1)
                  go_roundg (6 - (j + 1).toNat)
                  case measure => omega
                  case rel => exact ⟨j + 1, by first | rfl | (simp; done), by first | rfl | omega, by omega, by omega, HO⟩
                · have HP := Aside0.mk hp
                  have HV := Aside0.mk hv
                  clear hp hv
                  go_wp2_with (go_at_call 16; refine (Own.Pinned (by first | exact HO.out | exact HO.out.drewN _ | exact HO.out.drew) j HV.out HP.out).mono ?_; rintro e1 w1 ⟨rfl, h1⟩; replace HO := Aside0.mk h1; clear h1)
                  go_roundg (6 - (j + 1).toNat)
                  case measure => omega
                  case rel => exact ⟨j + 1, by first | rfl | (simp; done), by first | rfl | omega, by omega, by omega, HO⟩
                · have HP := Aside0.mk hp
                  have HV := Aside0.mk hv
                  have hne : (t.now - 1 != t.now) = true := bne_iff_ne.mpr (by omega)
                  clear hp hv
                  go_wp2_with (go_at_call 16; refine (Own.Pinned (by first | exact HO.out | exact HO.out.drewN _ | exact HO.out.drew) j HV.out HP.out).mono ?_; rintro e1 w1 ⟨rfl, h1⟩; replace HO := Aside0.mk h1; clear h1)
                  go_roundg (6 - (j + 1).toNat)
                  case measure => omega
                  case rel => exact ⟨j + 1, by first | rfl | (simp; done), by first | rfl | omega, by omega, by omega, HO⟩
              · go_wp2_with fail
                have hi0 := HI0.out
                have q1' := of_eq_true q1
                go_roundg (l.length - (i + 1).toNat)
                case measure => omega
                case rel => exact ⟨i + 1, t, _, by first | rfl | (simp; done), by first | rfl | (simp; done), by rw [show wrap64 (i + 1) = i + 1 by unfold wrap64; omega], by first | rfl | omega, by omega, by omega, HI', HO⟩
          · have hs : decide (a < t.least) = true := decide_eq_true (by have := f4 rfl; omega)
            rw [hs] at HI'
            have HS := Aside0.mk hs
            clear f1 f4 hs
            go_wp2_with (first | (go_at_call 18; refine (Own.Now (by first | exact HO.out | exact HO.out.drewN _ | exact HO.out.drew) rfl).mono ?_; rintro e1 w1 ⟨rfl, h1⟩; replace HO := Aside0.mk h1; clear h1) | (go_at_call 19; refine (Own.Safe (by first | exact HO.out | exact HO.out.drewN _ | exact HO.out.drew) a HS.out).mono ?_; rintro e1 w1 ⟨rfl, h1⟩; replace HO := Aside0.mk h1; clear h1))
            go_loopg [10] 6 (fun kq v10 w' => ∃ (j : Int), v10 = .int .i64 j ∧ kq = 6 - j.toNat ∧ 0 ≤ j ∧ j ≤ 6 ∧ Aside0 (Own W w' g b t))
            case atStart => exact ⟨0, rfl, rfl, Int.le_refl _, by omega, HO⟩
            case round =>
              clear HO
              obtain ⟨j, rfl, rfl, hj0, hj, HO⟩ := hrel
              by_cases jlt : j < 6
              · rcases (show t.pinned j = false ∨ (t.pinned j = true ∧ (t.pinVal j = t.now ∨ t.pinVal j = t.now - 1)) from by have := HI'.out.at_ j.toNat (by omega); rwa [Int.toNat_of_nonneg hj0] at this) with hp | ⟨hp, hv | hv⟩
                · have HP := Aside0.mk hp
                  clear hp
                  go_wp2_with (go_at_call 16; refine (Own.Pinned (by first | exact HO.out | exact HO.out.drewN _ | exact HO.out.drew) j rfl HP.out).mono ?_; rintro e1 w1 ⟨rfl, h1⟩; replace HO := Aside0.mk h1; clear h1)
                  go_roundg (6 - (j + 1).toNat)
                  case measure => omega
                  case rel => exact ⟨j + 1, by first | rfl | (simp; done), by first | rfl | omega, by omega, by omega, HO⟩
                · have HP := Aside0.mk hp
                  have HV := Aside0.mk hv
                  clear hp hv
                  go_wp2_with (go_at_call 16; refine (Own.Pinned (by first | exact HO.out | exact HO.out.drewN _ | exact HO.out.drew) j HV.out HP.out).mono ?_; rintro e1 w1 ⟨rfl, h1⟩; replace HO := Aside0.mk h1; clear h1)
                  go_roundg (6 - (j + 1).toNat)
                  case measure => omega
                  case rel => exact ⟨j + 1, by first | rfl | (simp; done), by first | rfl | omega, by omega, by omega, HO⟩
                · have HP := Aside0.mk hp
                  have HV := Aside0.mk hv
                  have hne : (t.now - 1 != t.now) = true := bne_iff_ne.mpr (by omega)
                  clear hp hv
                  go_wp2_with (go_at_call 16; refine (Own.Pinned (by first | exact HO.out | exact HO.out.drewN _ | exact HO.out.drew) j HV.out HP.out).mono ?_; rintro e1 w1 ⟨rfl, h1⟩; replace HO := Aside0.mk h1; clear h1)
                  go_roundg (6 - (j + 1).toNat)
                  case measure => omega
                  case rel => exact ⟨j + 1, by first | rfl | (simp; done), by first | rfl | omega, by omega, by omega, HO⟩
              · go_wp2_with fail
                have hi0 := HI0.out
                have q1' := of_eq_true q1
                go_roundg (l.length - (i + 1).toNat)
                case measure => omega
                case rel => exact ⟨i + 1, t, _, by first | rfl | (simp; done), by first | rfl | (simp; done), by rw [show wrap64 (i + 1) = i + 1 by unfold wrap64; omega], by first | rfl | omega, by omega, by omega, HI', HO⟩
        · have d0b : (d0 == 0) = false := beq_eq_false_iff_ne.mpr d0z
          by_cases d1z : d0 = 1
          · subst d1z
            go_wp2_with fail
            refine (HO.out.Unpin d1 (r := s.pinned d1) (s' := s.step ⟨1, d1⟩) rfl (by simp [St.step])).mono ?_
            rintro e1 w1 ⟨rfl, h1⟩
            have HO0 := Aside0.mk HO.out
            replace HO := Aside0.mk h1
            clear h1

            generalize ht : s.step _ = t at HI' HF HO
            clear ht
            obtain ⟨f1, ⟨f2, f3⟩, f4⟩ := HF.out
            obtain ⟨n1, n2, n3⟩ := HO0.out.ep.num
            obtain ⟨m1, m2, m3⟩ := HO.out.ep.num
            have g1 : ¬ t.now < s.now := by omega
            have g2 : ¬ s.now + 1 < t.now := by omega
            have b1 : s.now ≤ 1048575 := by omega
            have b2 : t.now ≤ 1048575 := by omega
            clear HF f2 f3 HO0 n2 n3 m2 m3
            cases sf
            · clear f1 f4
              generalize hs : decide (a < t.least) = sf' at HI'
              have HS := Aside0.mk hs
              clear hs
              go_wp2_with (first | (go_at_call 18; refine (Own.Now (by first | exact HO.out | exact HO.out.drewN _ | exact HO.out.drew) rfl).mono ?_; rintro e1 w1 ⟨rfl, h1⟩; replace HO := Aside0.mk h1; clear h1) | (go_at_call 19; refine (Own.Safe (by first | exact HO.out | exact HO.out.drewN _ | exact HO.out.drew) a HS.out).mono ?_; rintro e1 w1 ⟨rfl, h1⟩; replace HO := Aside0.mk h1; clear h1))
              go_loopg [10] 6 (fun kq v10 w' => ∃ (j : Int), v10 = .int .i64 j ∧ kq = 6 - j.toNat ∧ 0 ≤ j ∧ j ≤ 6 ∧ Aside0 (Own W w' g b t))
              case atStart => exact ⟨0, rfl, rfl, Int.le_refl _, by omega, HO⟩
              case round =>
                clear HO
                obtain ⟨j, rfl, rfl, hj0, hj, HO⟩ := hrel
                by_cases jlt : j < 6
                · rcases (show t.pinned j = false ∨ (t.pinned j = true ∧ (t.pinVal j = t.now ∨ t.pinVal j = t.now - 1)) from by have := HI'.out.at_ j.toNat (by omega); rwa [Int.toNat_of_nonneg hj0] at this) with hp | ⟨hp, hv | hv⟩
                  · have HP := Aside0.mk hp
                    clear hp
                    go_wp2_with (go_at_call 16; refine (Own.Pinned (by first | exact HO.out | exact HO.out.drewN _ | exact HO.out.drew) j rfl HP.out).mono ?_; rintro e1 w1 ⟨rfl, h1⟩; replace HO := Aside0.mk h1; clear h1)
                    go_roundg (6 - (j + 1).toNat)
                    case measure => omega
                    case rel => exact ⟨j + 1, by first | rfl | (simp; done), by first | rfl | omega, by omega, by omega, HO⟩
                  · have HP := Aside0.mk hp
                    have HV := Aside0.mk hv
                    clear hp hv
                    go_wp2_with (go_at_call 16; refine (Own.Pinned (by first | exact HO.out | exact HO.out.drewN _ | exact HO.out.drew) j HV.out HP.out).mono ?_; rintro e1 w1 ⟨rfl, h1⟩; replace HO := Aside0.mk h1; clear h1)
                    go_roundg (6 - (j + 1).toNat)
                    case measure => omega
                    case rel => exact ⟨j + 1, by first | rfl | (simp; done), by first | rfl | omega, by omega, by omega, HO⟩
                  · have HP := Aside0.mk hp
                    have HV := Aside0.mk hv
                    have hne : (t.now - 1 != t.now) = true := bne_iff_ne.mpr (by omega)
                    clear hp hv
                    go_wp2_with (go_at_call 16; refine (Own.Pinned (by first | exact HO.out | exact HO.out.drewN _ | exact HO.out.drew) j HV.out HP.out).mono ?_; rintro e1 w1 ⟨rfl, h1⟩; replace HO := Aside0.mk h1; clear h1)
                    go_roundg (6 - (j + 1).toNat)
                    case measure => omega
                    case rel => exact ⟨j + 1, by first | rfl | (simp; done), by first | rfl | omega, by omega, by omega, HO⟩
                · go_wp2_with fail
                  have hi0 := HI0.out
                  have q1' := of_eq_true q1
                  go_roundg (l.length - (i + 1).toNat)
                  case measure => omega
                  case rel => exact ⟨i + 1, t, _, by first | rfl | (simp; done), by first | rfl | (simp; done), by rw [show wrap64 (i + 1) = i + 1 by unfold wrap64; omega], by first | rfl | omega, by omega, by omega, HI', HO⟩
            · have hs : decide (a < t.least) = true := decide_eq_true (by have := f4 rfl; omega)
              rw [hs] at HI'
              have HS := Aside0.mk hs
              clear f1 f4 hs
              go_wp2_with (first | (go_at_call 18; refine (Own.Now (by first | exact HO.out | exact HO.out.drewN _ | exact HO.out.drew) rfl).mono ?_; rintro e1 w1 ⟨rfl, h1⟩; replace HO := Aside0.mk h1; clear h1) | (go_at_call 19; refine (Own.Safe (by first | exact HO.out | exact HO.out.drewN _ | exact HO.out.drew) a HS.out).mono ?_; rintro e1 w1 ⟨rfl, h1⟩; replace HO := Aside0.mk h1; clear h1))
              go_loopg [10] 6 (fun kq v10 w' => ∃ (j : Int), v10 = .int .i64 j ∧ kq = 6 - j.toNat ∧ 0 ≤ j ∧ j ≤ 6 ∧ Aside0 (Own W w' g b t))
              case atStart => exact ⟨0, rfl, rfl, Int.le_refl _, by omega, HO⟩
              case round =>
                clear HO
                obtain ⟨j, rfl, rfl, hj0, hj, HO⟩ := hrel
                by_cases jlt : j < 6
                · rcases (show t.pinned j = false ∨ (t.pinned j = true ∧ (t.pinVal j = t.now ∨ t.pinVal j = t.now - 1)) from by have := HI'.out.at_ j.toNat (by omega); rwa [Int.toNat_of_nonneg hj0] at this) with hp | ⟨hp, hv | hv⟩
                  · have HP := Aside0.mk hp
                    clear hp
                    go_wp2_with (go_at_call 16; refine (Own.Pinned (by first | exact HO.out | exact HO.out.drewN _ | exact HO.out.drew) j rfl HP.out).mono ?_; rintro e1 w1 ⟨rfl, h1⟩; replace HO := Aside0.mk h1; clear h1)
                    go_roundg (6 - (j + 1).toNat)
                    case measure => omega
                    case rel => exact ⟨j + 1, by first | rfl | (simp; done), by first | rfl | omega, by omega, by omega, HO⟩
                  · have HP := Aside0.mk hp
                    have HV := Aside0.mk hv
                    clear hp hv
                    go_wp2_with (go_at_call 16; refine (Own.Pinned (by first | exact HO.out | exact HO.out.drewN _ | exact HO.out.drew) j HV.out HP.out).mono ?_; rintro e1 w1 ⟨rfl, h1⟩; replace HO := Aside0.mk h1; clear h1)
                    go_roundg (6 - (j + 1).toNat)
                    case measure => omega
                    case rel => exact ⟨j + 1, by first | rfl | (simp; done), by first | rfl | omega, by omega, by omega, HO⟩
                  · have HP := Aside0.mk hp
                    have HV := Aside0.mk hv
                    have hne : (t.now - 1 != t.now) = true := bne_iff_ne.mpr (by omega)
                    clear hp hv
                    go_wp2_with (go_at_call 16; refine (Own.Pinned (by first | exact HO.out | exact HO.out.drewN _ | exact HO.out.drew) j HV.out HP.out).mono ?_; rintro e1 w1 ⟨rfl, h1⟩; replace HO := Aside0.mk h1; clear h1)
                    go_roundg (6 - (j + 1).toNat)
                    case measure => omega
                    case rel => exact ⟨j + 1, by first | rfl | (simp; done), by first | rfl | omega, by omega, by omega, HO⟩
                · go_wp2_with fail
                  have hi0 := HI0.out
                  have q1' := of_eq_true q1
                  go_roundg (l.length - (i + 1).toNat)
                  case measure => omega
                  case rel => exact ⟨i + 1, t, _, by first | rfl | (simp; done), by first | rfl | (simp; done), by rw [show wrap64 (i + 1) = i + 1 by unfold wrap64; omega], by first | rfl | omega, by omega, by omega, HI', HO⟩
          · have d1b : (d0 == 1) = false := beq_eq_false_iff_ne.mpr d1z
            by_cases d2z : d0 = 2
            · subst d2z
              go_wp2_with fail
              refine (HO.out.Tick (r := s.tick.1) (s' := s.step ⟨2, d1⟩) (by simp [St.step])).mono ?_
              rintro e1 w1 ⟨rfl, h1⟩
              have HO0 := Aside0.mk HO.out
              replace HO := Aside0.mk h1
              clear h1

              generalize ht : s.step _ = t at HI' HF HO
              clear ht
              obtain ⟨f1, ⟨f2, f3⟩, f4⟩ := HF.out
              obtain ⟨n1, n2, n3⟩ := HO0.out.ep.num
              obtain ⟨m1, m2, m3⟩ := HO.out.ep.num
              have g1 : ¬ t.now < s.now := by omega
              have g2 : ¬ s.now + 1 < t.now := by omega
              have b1 : s.now ≤ 1048575 := by omega
              have b2 : t.now ≤ 1048575 := by omega
              clear HF f2 f3 HO0 n2 n3 m2 m3
              cases sf
              · clear f1 f4
                generalize hs : decide (a < t.least) = sf' at HI'
                have HS := Aside0.mk hs
                clear hs
                go_wp2_with (first | (go_at_call 18; refine (Own.Now (by first | exact HO.out | exact HO.out.drewN _ | exact HO.out.drew) rfl).mono ?_; rintro e1 w1 ⟨rfl, h1⟩; replace HO := Aside0.mk h1; clear h1) | (go_at_call 19; refine (Own.Safe (by first | exact HO.out | exact HO.out.drewN _ | exact HO.out.drew) a HS.out).mono ?_; rintro e1 w1 ⟨rfl, h1⟩; replace HO := Aside0.mk h1; clear h1))
                go_loopg [10] 6 (fun kq v10 w' => ∃ (j : Int), v10 = .int .i64 j ∧ kq = 6 - j.toNat ∧ 0 ≤ j ∧ j ≤ 6 ∧ Aside0 (Own W w' g b t))
                case atStart => exact ⟨0, rfl, rfl, Int.le_refl _, by omega, HO⟩
                case round =>
                  clear HO
                  obtain ⟨j, rfl, rfl, hj0, hj, HO⟩ := hrel
                  by_cases jlt : j < 6
                  · rcases (show t.pinned j = false ∨ (t.pinned j = true ∧ (t.pinVal j = t.now ∨ t.pinVal j = t.now - 1)) from by have := HI'.out.at_ j.toNat (by omega); rwa [Int.toNat_of_nonneg hj0] at this) with hp | ⟨hp, hv | hv⟩
                    · have HP := Aside0.mk hp
                      clear hp
                      go_wp2_with (go_at_call 16; refine (Own.Pinned (by first | exact HO.out | exact HO.out.drewN _ | exact HO.out.drew) j rfl HP.out).mono ?_; rintro e1 w1 ⟨rfl, h1⟩; replace HO := Aside0.mk h1; clear h1)
                      go_roundg (6 - (j + 1).toNat)
                      case measure => omega
                      case rel => exact ⟨j + 1, by first | rfl | (simp; done), by first | rfl | omega, by omega, by omega, HO⟩
                    · have HP := Aside0.mk hp
                      have HV := Aside0.mk hv
                      clear hp hv
                      go_wp2_with (go_at_call 16; refine (Own.Pinned (by first | exact HO.out | exact HO.out.drewN _ | exact HO.out.drew) j HV.out HP.out).mono ?_; rintro e1 w1 ⟨rfl, h1⟩; replace HO := Aside0.mk h1; clear h1)
                      go_roundg (6 - (j + 1).toNat)
                      case measure => omega
                      case rel => exact ⟨j + 1, by first | rfl | (simp; done), by first | rfl | omega, by omega, by omega, HO⟩
                    · have HP := Aside0.mk hp
                      have HV := Aside0.mk hv
                      have hne : (t.now - 1 != t.now) = true := bne_iff_ne.mpr (by omega)
                      clear hp hv
                      go_wp2_with (go_at_call 16; refine (Own.Pinned (by first | exact HO.out | exact HO.out.drewN _ | exact HO.out.drew) j HV.out HP.out).mono ?_; rintro e1 w1 ⟨rfl, h1⟩; replace HO := Aside0.mk h1; clear h1)
                      go_roundg (6 - (j + 1).toNat)
                      case measure => omega
                      case rel => exact ⟨j + 1, by first | rfl | (simp; done), by first | rfl | omega, by omega, by omega, HO⟩
                  · go_wp2_with fail
                    have hi0 := HI0.out
                    have q1' := of_eq_true q1
                    go_roundg (l.length - (i + 1).toNat)
                    case measure => omega
                    case rel => exact ⟨i + 1, t, _, by first | rfl | (simp; done), by first | rfl | (simp; done), by rw [show wrap64 (i + 1) = i + 1 by unfold wrap64; omega], by first | rfl | omega, by omega, by omega, HI', HO⟩
              · have hs : decide (a < t.least) = true := decide_eq_true (by have := f4 rfl; omega)
                rw [hs] at HI'
                have HS := Aside0.mk hs
                clear f1 f4 hs
                go_wp2_with (first | (go_at_call 18; refine (Own.Now (by first | exact HO.out | exact HO.out.drewN _ | exact HO.out.drew) rfl).mono ?_; rintro e1 w1 ⟨rfl, h1⟩; replace HO := Aside0.mk h1; clear h1) | (go_at_call 19; refine (Own.Safe (by first | exact HO.out | exact HO.out.drewN _ | exact HO.out.drew) a HS.out).mono ?_; rintro e1 w1 ⟨rfl, h1⟩; replace HO := Aside0.mk h1; clear h1))
                go_loopg [10] 6 (fun kq v10 w' => ∃ (j : Int), v10 = .int .i64 j ∧ kq = 6 - j.toNat ∧ 0 ≤ j ∧ j ≤ 6 ∧ Aside0 (Own W w' g b t))
                case atStart => exact ⟨0, rfl, rfl, Int.le_refl _, by omega, HO⟩
                case round =>
                  clear HO
                  obtain ⟨j, rfl, rfl, hj0, hj, HO⟩ := hrel
                  by_cases jlt : j < 6
                  · rcases (show t.pinned j = false ∨ (t.pinned j = true ∧ (t.pinVal j = t.now ∨ t.pinVal j = t.now - 1)) from by have := HI'.out.at_ j.toNat (by omega); rwa [Int.toNat_of_nonneg hj0] at this) with hp | ⟨hp, hv | hv⟩
                    · have HP := Aside0.mk hp
                      clear hp
                      go_wp2_with (go_at_call 16; refine (Own.Pinned (by first | exact HO.out | exact HO.out.drewN _ | exact HO.out.drew) j rfl HP.out).mono ?_; rintro e1 w1 ⟨rfl, h1⟩; replace HO := Aside0.mk h1; clear h1)
                      go_roundg (6 - (j + 1).toNat)
                      case measure => omega
                      case rel => exact ⟨j + 1, by first | rfl | (simp; done), by first | rfl | omega, by omega, by omega, HO⟩
                    · have HP := Aside0.mk hp
                      have HV := Aside0.mk hv
                      clear hp hv
                      go_wp2_with (go_at_call 16; refine (Own.Pinned (by first | exact HO.out | exact HO.out.drewN _ | exact HO.out.drew) j HV.out HP.out).mono ?_; rintro e1 w1 ⟨rfl, h1⟩; replace HO := Aside0.mk h1; clear h1)
                      go_roundg (6 - (j + 1).toNat)
                      case measure => omega
                      case rel => exact ⟨j + 1, by first | rfl | (simp; done), by first | rfl | omega, by omega, by omega, HO⟩
                    · have HP := Aside0.mk hp
                      have HV := Aside0.mk hv
                      have hne : (t.now - 1 != t.now) = true := bne_iff_ne.mpr (by omega)
                      clear hp hv
                      go_wp2_with (go_at_call 16; refine (Own.Pinned (by first | exact HO.out | exact HO.out.drewN _ | exact HO.out.drew) j HV.out HP.out).mono ?_; rintro e1 w1 ⟨rfl, h1⟩; replace HO := Aside0.mk h1; clear h1)
                      go_roundg (6 - (j + 1).toNat)
                      case measure => omega
                      case rel => exact ⟨j + 1, by first | rfl | (simp; done), by first | rfl | omega, by omega, by omega, HO⟩
                  · go_wp2_with fail
                    have hi0 := HI0.out
                    have q1' := of_eq_true q1
                    go_roundg (l.length - (i + 1).toNat)
                    case measure => omega
                    case rel => exact ⟨i + 1, t, _, by first | rfl | (simp; done), by first | rfl | (simp; done), by rw [show wrap64 (i + 1) = i + 1 by unfold wrap64; omega], by first | rfl | omega, by omega, by omega, HI', HO⟩
            · have d2b : (d0 == 2) = false := beq_eq_false_iff_ne.mpr d2z
              have HO0 := Aside0.mk HO.out
              have HO2 := Aside0.mk (show Own W wr g b (s.step ⟨d0, d1⟩) from by rw [show s.step ⟨d0, d1⟩ = s from by simp [St.step, d0z, d1z, d2z]]; exact HO.out)
              replace HO := HO2
              clear HO2 d0z d1z d2z
              generalize ht : s.step _ = t at HI' HF HO
              clear ht
              obtain ⟨f1, ⟨f2, f3⟩, f4⟩ := HF.out
              obtain ⟨n1, n2, n3⟩ := HO0.out.ep.num
              obtain ⟨m1, m2, m3⟩ := HO.out.ep.num
              have g1 : ¬ t.now < s.now := by omega
              have g2 : ¬ s.now + 1 < t.now := by omega
              have b1 : s.now ≤ 1048575 := by omega
              have b2 : t.now ≤ 1048575 := by omega
              clear HF f2 f3 HO0 n2 n3 m2 m3
              cases sf
              · clear f1 f4
                generalize hs : decide (a < t.least) = sf' at HI'
                have HS := Aside0.mk hs
                clear hs
                go_wp2_with (first | (go_at_call 18; refine (Own.Now (by first | exact HO.out | exact HO.out.drewN _ | exact HO.out.drew) rfl).mono ?_; rintro e1 w1 ⟨rfl, h1⟩; replace HO := Aside0.mk h1; clear h1) | (go_at_call 19; refine (Own.Safe (by first | exact HO.out | exact HO.out.drewN _ | exact HO.out.drew) a HS.out).mono ?_; rintro e1 w1 ⟨rfl, h1⟩; replace HO := Aside0.mk h1; clear h1))
                go_loopg [10] 6 (fun kq v10 w' => ∃ (j : Int), v10 = .int .i64 j ∧ kq = 6 - j.toNat ∧ 0 ≤ j ∧ j ≤ 6 ∧ Aside0 (Own W w' g b t))
                case atStart => exact ⟨0, rfl, rfl, Int.le_refl _, by omega, HO⟩
                case round =>
                  clear HO
                  obtain ⟨j, rfl, rfl, hj0, hj, HO⟩ := hrel
                  by_cases jlt : j < 6
                  · rcases (show t.pinned j = false ∨ (t.pinned j = true ∧ (t.pinVal j = t.now ∨ t.pinVal j = t.now - 1)) from by have := HI'.out.at_ j.toNat (by omega); rwa [Int.toNat_of_nonneg hj0] at this) with hp | ⟨hp, hv | hv⟩
                    · have HP := Aside0.mk hp
                      clear hp
                      go_wp2_with (go_at_call 16; refine (Own.Pinned (by first | exact HO.out | exact HO.out.drewN _ | exact HO.out.drew) j rfl HP.out).mono ?_; rintro e1 w1 ⟨rfl, h1⟩; replace HO := Aside0.mk h1; clear h1)
                      go_roundg (6 - (j + 1).toNat)
                      case measure => omega
                      case rel => exact ⟨j + 1, by first | rfl | (simp; done), by first | rfl | omega, by omega, by omega, HO⟩
                    · have HP := Aside0.mk hp
                      have HV := Aside0.mk hv
                      clear hp hv
                      go_wp2_with (go_at_call 16; refine (Own.Pinned (by first | exact HO.out | exact HO.out.drewN _ | exact HO.out.drew) j HV.out HP.out).mono ?_; rintro e1 w1 ⟨rfl, h1⟩; replace HO := Aside0.mk h1; clear h1)
                      go_roundg (6 - (j + 1).toNat)
                      case measure => omega
                      case rel => exact ⟨j + 1, by first | rfl | (simp; done), by first | rfl | omega, by omega, by omega, HO⟩
                    · have HP := Aside0.mk hp
                      have HV := Aside0.mk hv
                      have hne : (t.now - 1 != t.now) = true := bne_iff_ne.mpr (by omega)
                      clear hp hv
                      go_wp2_with (go_at_call 16; refine (Own.Pinned (by first | exact HO.out | exact HO.out.drewN _ | exact HO.out.drew) j HV.out HP.out).mono ?_; rintro e1 w1 ⟨rfl, h1⟩; replace HO := Aside0.mk h1; clear h1)
                      go_roundg (6 - (j + 1).toNat)
                      case measure => omega
                      case rel => exact ⟨j + 1, by first | rfl | (simp; done), by first | rfl | omega, by omega, by omega, HO⟩
                  · go_wp2_with fail
                    have hi0 := HI0.out
                    have q1' := of_eq_true q1
                    go_roundg (l.length - (i + 1).toNat)
                    case measure => omega
                    case rel => exact ⟨i + 1, t, _, by first | rfl | (simp; done), by first | rfl | (simp; done), by rw [show wrap64 (i + 1) = i + 1 by unfold wrap64; omega], by first | rfl | omega, by omega, by omega, HI', HO⟩
              · have hs : decide (a < t.least) = true := decide_eq_true (by have := f4 rfl; omega)
                rw [hs] at HI'
                have HS := Aside0.mk hs
                clear f1 f4 hs
                go_wp2_with (first | (go_at_call 18; refine (Own.Now (by first | exact HO.out | exact HO.out.drewN _ | exact HO.out.drew) rfl).mono ?_; rintro e1 w1 ⟨rfl, h1⟩; replace HO := Aside0.mk h1; clear h1) | (go_at_call 19; refine (Own.Safe (by first | exact HO.out | exact HO.out.drewN _ | exact HO.out.drew) a HS.out).mono ?_; rintro e1 w1 ⟨rfl, h1⟩; replace HO := Aside0.mk h1; clear h1))
                go_loopg [10] 6 (fun kq v10 w' => ∃ (j : Int), v10 = .int .i64 j ∧ kq = 6 - j.toNat ∧ 0 ≤ j ∧ j ≤ 6 ∧ Aside0 (Own W w' g b t))
                case atStart => exact ⟨0, rfl, rfl, Int.le_refl _, by omega, HO⟩
                case round =>
                  clear HO
                  obtain ⟨j, rfl, rfl, hj0, hj, HO⟩ := hrel
                  by_cases jlt : j < 6
                  · rcases (show t.pinned j = false ∨ (t.pinned j = true ∧ (t.pinVal j = t.now ∨ t.pinVal j = t.now - 1)) from by have := HI'.out.at_ j.toNat (by omega); rwa [Int.toNat_of_nonneg hj0] at this) with hp | ⟨hp, hv | hv⟩
                    · have HP := Aside0.mk hp
                      clear hp
                      go_wp2_with (go_at_call 16; refine (Own.Pinned (by first | exact HO.out | exact HO.out.drewN _ | exact HO.out.drew) j rfl HP.out).mono ?_; rintro e1 w1 ⟨rfl, h1⟩; replace HO := Aside0.mk h1; clear h1)
                      go_roundg (6 - (j + 1).toNat)
                      case measure => omega
                      case rel => exact ⟨j + 1, by first | rfl | (simp; done), by first | rfl | omega, by omega, by omega, HO⟩
                    · have HP := Aside0.mk hp
                      have HV := Aside0.mk hv
                      clear hp hv
                      go_wp2_with (go_at_call 16; refine (Own.Pinned (by first | exact HO.out | exact HO.out.drewN _ | exact HO.out.drew) j HV.out HP.out).mono ?_; rintro e1 w1 ⟨rfl, h1⟩; replace HO := Aside0.mk h1; clear h1)
                      go_roundg (6 - (j + 1).toNat)
                      case measure => omega
                      case rel => exact ⟨j + 1, by first | rfl | (simp; done), by first | rfl | omega, by omega, by omega, HO⟩
                    · have HP := Aside0.mk hp
                      have HV := Aside0.mk hv
                      have hne : (t.now - 1 != t.now) = true := bne_iff_ne.mpr (by omega)
                      clear hp hv
                      go_wp2_with (go_at_call 16; refine (Own.Pinned (by first | exact HO.out | exact HO.out.drewN _ | exact HO.out.drew) j HV.out HP.out).mono ?_; rintro e1 w1 ⟨rfl, h1⟩; replace HO := Aside0.mk h1; clear h1)
                      go_roundg (6 - (j + 1).toNat)
                      case measure => omega
                      case rel => exact ⟨j + 1, by first | rfl | (simp; done), by first | rfl | omega, by omega, by omega, HO⟩
                  · go_wp2_with fail
                    have hi0 := HI0.out
                    have q1' := of_eq_true q1
                    go_roundg (l.length - (i + 1).toNat)
                    case measure => omega
                    case rel => exact ⟨i + 1, t, _, by first | rfl | (simp; done), by first | rfl | (simp; done), by rw [show wrap64 (i + 1) = i + 1 by unfold wrap64; omega], by first | rfl | omega, by omega, by omega, HI', HO⟩
      · have q1 : ¬ i < (l.length : Int) := by omega
        go_wp2_with fail
        refine (awake.calls _).mono ?_
        rintro e1 w1 ⟨rfl, hb⟩
        have HB := Aside0.mk (HO.out.below hb).bel
        clear hb
        go_wp2_with fail
        exact bodyPost_ret (v := .bool true) (by simp [results, Try.results4, go_sem]) rfl ⟨rfl, HB.out⟩
  · have e1 : decide ((l.length : Int) ≤ 200) = false := decide_eq_false hf
    clear hC hl
    go_enter Try.func4, Try.ntmps4
    go_wp2_with fail
    refine (transomlaw19_few.calls A0 c0 l false _ HR.out HC.out (by simp [transomlaw19_few.f]; omega)).mono ?_
    rintro e w0 ⟨rfl, ⟨n0, rfl⟩⟩
    go_wp2_with fail
    refine (awake.calls _).mono ?_
    rintro e w1 ⟨rfl, hb⟩
    have HB := Aside0.mk hb
    clear hb
    go_wp2_with fail
    exact bodyPost_ret (v := .bool true) (by simp [results, Try.results4, go_sem]) rfl ⟨rfl, below_then (pw_below_drewN (Below.refl _ _) _) (Nat.le_refl _) HB.out⟩
end Go.Proofs.Ytdnfmfjaljkjkaa.Ep
