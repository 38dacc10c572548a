/- EpochsPlays: the walk. -/
import Derived.Test.YtdnfmfjaljkjkaaEpRef
set_option linter.unusedVariables false
set_option linter.unusedSimpArgs false
namespace Go.Proofs.Ytdnfmfjaljkjkaa.Ep
open Go Go.RowKit Go.Proofs.YtdnfmfjaljkjkaaW.PrintWords Go.Proofs.YtdnfmfjaljkjkaaW.PrintLast Go.Proofs.YtdnfmfjaljkjkaaW.PrintMore Go.Proofs.Ytdnfmfjaljkjkaa.PEpochsPlays

def TW (W : World) (g b xb : Nat) (A : Option Addr) (c : Nat) (t : St) (w' : World) : Prop := w'.cell? ⟨xb, 0, none⟩ = some (.int .i64 t.now) ∧ w'.cell? ⟨xb, 1, none⟩ = some (.int .i64 t.most) ∧ w'.cell? ⟨xb, 2, none⟩ = some (.slice A t.pins.length c) ∧ Two W w' g b xb (.slice A t.pins.length c) t
theorem TW.of {W w' : World} {g b xb c : Nat} {A : Option Addr} {t : St} (h : Two W w' g b xb (.slice A t.pins.length c) t) : TW W g b xb A c t w' := ⟨(blk_cell h.x.hx 0).trans rfl, (blk_cell h.x.hx 1).trans rfl, (blk_cell h.x.hx 2).trans rfl, h⟩
theorem TW.two {W w' : World} {g b xb c : Nat} {A : Option Addr} {t : St} (h : TW W g b xb A c t w') : Two W w' g b xb (.slice A t.pins.length c) t := h.2.2.2
theorem TW.drew {W w' : World} {g b xb c : Nat} {A : Option Addr} {t : St} (h : TW W g b xb A c t w') : TW W g b xb A c t w'.drew := TW.of h.two.drew
theorem TW.drewN {W w' : World} {g b xb c : Nat} {A : Option Addr} {t : St} (h : TW W g b xb A c t w') (n : Nat) : TW W g b xb A c t (w'.drewN n) := TW.of (h.two.drewN n)

theorem Two.same {W w : World} {g b xb : Nat} {u : Value} {t : St} (h : Two W w g b xb u t) :
    Two W (((w.setCell ⟨xb, 0, none⟩ (.int .i64 t.now)).setCell ⟨xb, 1, none⟩ (.int .i64 t.most)).setCell ⟨xb, 2, none⟩ u) g b xb u t := by
  have n1 := blk_ne h.o.ep.hg h.x.hx (by decide)
  have n2 := blk_ne h.o.ep.hb h.x.hx (by decide)
  have ht : ∀ q, q ∈ 3 :: (Kd.int .i64).E → q ≠ 32 := by intro q hq; have : q = 3 := List.mem_singleton.1 hq; omega
  have e1 := blk_put h.x.hx 0 (.int .i64 t.now) rfl
  have e2 := blk_put e1 1 (.int .i64 t.most) rfl
  exact ⟨((h.o.far n1 n2 h.x.nx _).far n1 n2 h.x.nx _).far n1 n2 h.x.nx _, blk_put e2 2 u rfl,
    Kd.R_set (Kd.R_set (Kd.R_set h.x.row h.x.hx ht 0 _) e1 ht 1 _) e2 ht 2 _, h.x.ne, h.x.nx⟩

theorem Two.first {W w w' : World} {g b : Nat} {n m : Int} {v : Value} (h : Own W w g b (St.new n m)) (hR : (Kd.int .i64).R 3 w' w.heap.size (fun _ => True) v (List.replicate n.toNat 0)) (hb : Below w.heap.size w w') :
    Two W (w'.alloc (.cells #[.int .i64 1, .int .i64 m, v] 32)) g b w'.heap.size v (St.new n m) := by
  have hB := Kd.R_bound hR
  have hb2 : Below w'.heap.size w' (w'.alloc (.cells #[.int .i64 1, .int .i64 m, v] 32)) := below_alloc (Below.refl _ _) _
  refine ⟨(h.below hb).below hb2, blk_new _ _, Kd.R_below (exactR (Kd.R_lower hR h.bel.size)) hb2, fun he => ?_, (h.below hb).bel.size⟩
  have := (hB.1 b he).2.1
  have := blk_lt h.ep.hb
  omega

set_option maxHeartbeats 16000000 in
set_option maxRecDepth 100000 in
theorem plays.calls {A0 : Option Addr} {c0 : Nat} {l : List S36} (n m a : Int) (W : World) (hl : l.length ≤ c0) (hC : Kd.C k36 W A0 l.length l) :
    Calls Try.prog 3 #[.agg #[.int .i64 n, .int .i64 m], .slice A0 l.length c0, .int .i64 a] W fun e w' => e = .returned (.bool true) ∧ Below W.heap.size W w' := by
  have hnot : ∀ (x : Bool) (w : World), (Op.unary .not (.bool x)).run Try.prog w = .ok (.bool (!x)) w := fun _ _ => rfl
  have hu23 := Try.underlying23
  have hu36 := Try.underlying36
  have hu32 := Try.underlying32
  have hu22 := Try.underlying22
  have HR := Aside0.mk hC
  have HC := Aside0.mk hl
  have HB0 := Aside0.mk (below_alloc (Below.refl W.heap.size W) (.cells #[.int .i64 n, .int .i64 m] 22))
  by_cases hf : (l.length : Int) ≤ 200
  · have e1 : decide ((l.length : Int) ≤ 200) = true := decide_eq_true hf
    clear hC hl
    by_cases hgood : 1 ≤ n ∧ n ≤ 7 ∧ 1 ≤ m ∧ m ≤ 1048575
    · go_enter Try.func3, Try.ntmps3
      go_wp2_with fail
      refine (transomlaw19_few.calls A0 c0 l true _ (Kd.C_below HR.out HB0.out) HC.out (by simp [transomlaw19_few.f]; omega)).mono ?_
      rintro e w0 ⟨rfl, hd0⟩
      have HD0 := Aside0.mk hd0
      have hc0 : w0.cell? ⟨W.heap.size, 0, none⟩ = some (.int .i64 n) := pw_cell_below hd0.below ((blk_cell (blk_new W _) 0).trans rfl)
      have hc1 : w0.cell? ⟨W.heap.size, 1, none⟩ = some (.int .i64 m) := pw_cell_below hd0.below ((blk_cell (blk_new W _) 1).trans rfl)
      clear hd0
      go_wp2_with fail
      refine (new.calls _ n m hgood).mono ?_
      rintro e w1 ⟨g, b, rfl, h1, h2, h3, h4⟩
      have hWW := below_then HB0.out (by simp) HD0.out.below
      have o1 := Aside0.mk (show Own W w1 g b (St.new n m) from ⟨h1, below_then hWW hWW.size h2, Nat.le_trans hWW.size h3, Nat.le_trans hWW.size h4⟩)
      have hc0' := pw_cell_below h2 hc0
      have hc1' := pw_cell_below h2 hc1
      clear h1 h2 h3 h4 hc0 hc1 hWW
      go_wp2_with fail
      refine (transomref19_New.calls n m _ _ _ _ _ (ref_new hgood)).mono ?_
      rintro e w2 ⟨v2, rfl, hR, hb2⟩
      have T0 := Two.first o1.out hR hb2
      obtain ⟨A2, c2, rfl, hl2, _⟩ := Kd.R_reads hR
      simp only [List.length_replicate] at T0
      have HT := Aside0.mk T0
      clear T0 hR hb2 hl2
      go_wp2_with fail
      clear hc0' hc1'
      go_loopg [11] l.length (fun kq v11 w' => ∃ (i : Int) (s : St) (A : Option Addr) (c : Nat), v11 = .int .i64 i ∧ kq = l.length - i.toNat ∧ 0 ≤ i ∧ i ≤ l.length ∧ Aside0 (Two W w' g b w2.heap.size (.slice A s.pins.length c) s))
      case atStart => exact ⟨0, St.new n m, A2, c2, rfl, rfl, Int.le_refl _, by omega, ⟨by have := HT.out; simpa [St.new] using this⟩⟩
      case round =>
        clear HT o1
        obtain ⟨i, s, A, c, rfl, rfl, hi0, hi, HT⟩ := hrel
        by_cases hlt : i < (l.length : Int)
        · have p1 : 0 ≤ i := by omega
          have q1 : i < (l.length : Int) := by omega
          have hx := Kd.C_below HR.out HT.out.o.bel
          obtain ⟨ad, ea, hx0, hx1⟩ := at_T36 hx i p1 q1
          cases ea
          clear hx
          have hblk := World.block_lt_of_cell? _ _ hx0
          have hblk' : ¬ (ad.add (i.toNat * 2)).block = wr.heap.size := by omega
          have hx0' := pw_cell_below (below_alloc (Below.refl wr.heap.size wr) (.cells #[.int .i64 s.now, .int .i64 s.most, .slice A s.pins.length c] 32)) hx0
          have hxbl := blk_lt HT.out.x.hx
          have hxb : ¬ w2.heap.size = wr.heap.size := by omega
          have HI0 := Aside0.mk (And.intro hi0 hi)
          have hnum := HT.out.o.ep.num
          have hlen := HT.out.o.ep.len
          have HNUM := Aside0.mk hnum
          have HLEN := Aside0.mk hlen
          have x0 := (blk_cell HT.out.x.hx 0).trans rfl
          have x1 := (blk_cell HT.out.x.hx 1).trans rfl
          have x2 := (blk_cell HT.out.x.hx 2).trans rfl
          have HM := Aside0.mk (Mid.start HT.out)
          generalize hd : rd_T36 l i = d at hx0 hx1 hx0'
          clear hd
          replace p1 := eq_true p1
          replace q1 := eq_true q1
          clear hlt hi hi0 hnum hlen
          obtain ⟨d0, d1⟩ := d
          by_cases d0z : d0 = 0
          · subst d0z
            go_wp2_with fail
            refine (transomref19_Pin.calls s.now s.most (fun k => (Value.slice A s.pins.length c).ownBlock = some k) _ s.pins d1 _ _ _ _ W _ HM.out.o.bel HM.out.row (ref_pin s d1 HLEN.out)).mono ?_
            rintro e1 w1 ⟨v2, rfl, hR, hB1, hK1⟩
            have HM1 := Aside0.mk (HM.out.ref hR hB1 hK1)
            obtain ⟨A3, c3, rfl, _, _⟩ := Kd.R_reads hR
            clear hR hB1 hK1
            have y0 := (blk_cell HM1.out.hy 0).trans rfl
            have y1 := (blk_cell HM1.out.hy 1).trans rfl
            have y2 := (blk_cell HM1.out.hy 2).trans rfl
            have z0 := blk_frozen HM1.out.hy 0
            have z1 := blk_frozen HM1.out.hy 1
            have z2 := blk_frozen HM1.out.hy 2
            have HM2 := Aside0.mk (HM1.out.putY (z0 := .int .i64 (s.pin d1).now) (z1 := .int .i64 (s.pin d1).most) (z2 := .slice A3 (s.pin d1).pins.length c3))
            go_wp2_with fail
            refine (Pin.calls _ g b s HM2.out.o.ep d1).mono ?_
            rintro e2 w3 ⟨rfl, hE, hO⟩
            have HM3 := Aside0.mk (HM2.out.off (HM2.out.o.off hE hO) hO)
            clear hE hO y0 y1 y2 z0 z1 z2
            generalize s.pin d1 = t at HM3 ⊢

            clear x0 x1 x2
            have x0 := (blk_cell HM3.out.hx 0).trans rfl
            have x1 := (blk_cell HM3.out.hx 1).trans rfl
            have x2 := (blk_cell HM3.out.hx 2).trans rfl
            have y0 := (blk_cell HM3.out.hy 0).trans rfl
            have y1 := (blk_cell HM3.out.hy 1).trans rfl
            have y2 := (blk_cell HM3.out.hy 2).trans rfl
            have z0 := blk_frozen HM3.out.hx 0
            have z1 := blk_frozen HM3.out.hx 1
            have z2 := blk_frozen HM3.out.hx 2
            have HM4 := Aside0.mk HM3.out.copy
            go_wp2_with fail
            refine (HM4.out.Pinned d1).mono ?_
            rintro e3 w4 ⟨rfl, h4⟩
            have HT4 := Aside0.mk h4
            clear h4 x0 x1 x2 y0 y1 y2 z0 z1 z2
            have x0 := (blk_cell HT4.out.x.hx 0).trans rfl
            have x1 := (blk_cell HT4.out.x.hx 1).trans rfl
            have x2 := (blk_cell HT4.out.x.hx 2).trans rfl
            go_wp2_with fail
            refine (HT4.out.rPinned d1).mono ?_
            rintro e4 w5 ⟨rfl, h5⟩
            have HT5 := Aside0.mk (TW.of h5)
            clear h5 x0 x1 x2
            go_wp2_with fail
            go_region_held3 (fun w' => w'.cell? ⟨w2.heap.size, 0, none⟩ = some (.int .i64 t.now) ∧ w'.cell? ⟨w2.heap.size, 1, none⟩ = some (.int .i64 t.most) ∧ w'.cell? ⟨w2.heap.size, 2, none⟩ = some (.slice A3 t.pins.length c3) ∧ Two W w' g b w2.heap.size (.slice A3 t.pins.length c3) t)
              (first | (show TW W g b w2.heap.size A3 c3 t _; first | assumption | exact HT5.out | exact HT5.out.drew | exact HT5.out.drewN _ | exact TW.of (by assumption) | exact TW.drew (by assumption) | exact TW.drewN (by assumption) _))
              (first
                | (go_at_call 18; refine (Two.Now (TW.two (by assumption))).mono ?_; rintro e5 w6 ⟨rfl, h6⟩)
                | (go_at_call 19; refine (Two.Safe (TW.two (by assumption)) _).mono ?_; rintro e5 w6 ⟨rfl, h6⟩)
                | (go_at_call 20; refine (Two.rSafe (TW.two (by assumption)) _).mono ?_; rintro e5 w6 ⟨rfl, h6⟩))
            go_wp2_with fail
            have hi0 := HI0.out
            have q1' := of_eq_true q1
            go_roundg (l.length - (i + 1).toNat)
            case measure => omega
            case rel =>
              exact ⟨i + 1, t, A3, c3, by rw [show wrap64 (i + 1) = i + 1 by unfold wrap64; omega], by first | rfl | omega, by omega, by omega, ⟨by first | exact TW.two (by assumption) | exact (TW.two (by assumption)).drewN _⟩⟩
          · have d0b : (d0 == 0) = false := beq_eq_false_iff_ne.mpr d0z
            by_cases d1z : d0 = 1
            · subst d1z
              go_wp2_with fail
              refine (transomref19_Unpin.calls s.now s.most (fun k => (Value.slice A s.pins.length c).ownBlock = some k) _ s.pins d1 _ _ _ _ W _ HM.out.o.bel HM.out.row (ref_unpin s d1 HLEN.out)).mono ?_
              rintro e1 w1 ⟨v2, rfl, hR, hB1, hK1⟩
              have HM1 := Aside0.mk (HM.out.ref hR hB1 hK1)
              obtain ⟨A3, c3, rfl, _, _⟩ := Kd.R_reads hR
              clear hR hB1 hK1
              have y0 := (blk_cell HM1.out.hy 0).trans rfl
              have y1 := (blk_cell HM1.out.hy 1).trans rfl
              have y2 := (blk_cell HM1.out.hy 2).trans rfl
              have z0 := blk_frozen HM1.out.hy 0
              have z1 := blk_frozen HM1.out.hy 1
              have z2 := blk_frozen HM1.out.hy 2
              have HM2 := Aside0.mk (HM1.out.putY (z0 := .int .i64 (s.unpin d1).now) (z1 := .int .i64 (s.unpin d1).most) (z2 := .slice A3 (s.unpin d1).pins.length c3))
              go_wp2_with fail
              refine (Unpin.calls _ g b s HM2.out.o.ep d1).mono ?_
              rintro e2 w3 ⟨rfl, hE, hO⟩
              have HM3 := Aside0.mk (HM2.out.off (HM2.out.o.off hE hO) hO)
              clear hE hO y0 y1 y2 z0 z1 z2
              generalize s.unpin d1 = t at HM3 ⊢

              clear x0 x1 x2
              have x0 := (blk_cell HM3.out.hx 0).trans rfl
              have x1 := (blk_cell HM3.out.hx 1).trans rfl
              have x2 := (blk_cell HM3.out.hx 2).trans rfl
              have y0 := (blk_cell HM3.out.hy 0).trans rfl
              have y1 := (blk_cell HM3.out.hy 1).trans rfl
              have y2 := (blk_cell HM3.out.hy 2).trans rfl
              have z0 := blk_frozen HM3.out.hx 0
              have z1 := blk_frozen HM3.out.hx 1
              have z2 := blk_frozen HM3.out.hx 2
              have HM4 := Aside0.mk HM3.out.copy
              go_wp2_with fail
              refine (HM4.out.Pinned d1).mono ?_
              rintro e3 w4 ⟨rfl, h4⟩
              have HT4 := Aside0.mk h4
              clear h4 x0 x1 x2 y0 y1 y2 z0 z1 z2
              have x0 := (blk_cell HT4.out.x.hx 0).trans rfl
              have x1 := (blk_cell HT4.out.x.hx 1).trans rfl
              have x2 := (blk_cell HT4.out.x.hx 2).trans rfl
              go_wp2_with fail
              refine (HT4.out.rPinned d1).mono ?_
              rintro e4 w5 ⟨rfl, h5⟩
              have HT5 := Aside0.mk (TW.of h5)
              clear h5 x0 x1 x2
              go_wp2_with fail
              go_region_held3 (fun w' => w'.cell? ⟨w2.heap.size, 0, none⟩ = some (.int .i64 t.now) ∧ w'.cell? ⟨w2.heap.size, 1, none⟩ = some (.int .i64 t.most) ∧ w'.cell? ⟨w2.heap.size, 2, none⟩ = some (.slice A3 t.pins.length c3) ∧ Two W w' g b w2.heap.size (.slice A3 t.pins.length c3) t)
                (first | (show TW W g b w2.heap.size A3 c3 t _; first | assumption | exact HT5.out | exact HT5.out.drew | exact HT5.out.drewN _ | exact TW.of (by assumption) | exact TW.drew (by assumption) | exact TW.drewN (by assumption) _))
                (first
                  | (go_at_call 18; refine (Two.Now (TW.two (by assumption))).mono ?_; rintro e5 w6 ⟨rfl, h6⟩)
                  | (go_at_call 19; refine (Two.Safe (TW.two (by assumption)) _).mono ?_; rintro e5 w6 ⟨rfl, h6⟩)
                  | (go_at_call 20; refine (Two.rSafe (TW.two (by assumption)) _).mono ?_; rintro e5 w6 ⟨rfl, h6⟩))
              go_wp2_with fail
              have hi0 := HI0.out
              have q1' := of_eq_true q1
              go_roundg (l.length - (i + 1).toNat)
              case measure => omega
              case rel =>
                exact ⟨i + 1, t, A3, c3, by rw [show wrap64 (i + 1) = i + 1 by unfold wrap64; omega], by first | rfl | omega, by omega, by omega, ⟨by first | exact TW.two (by assumption) | exact (TW.two (by assumption)).drewN _⟩⟩
            · have d1b : (d0 == 1) = false := beq_eq_false_iff_ne.mpr d1z
              by_cases d2z : d0 = 2
              · subst d2z
                go_wp2_with fail
                refine (transomref19_Tick.calls 9 s.now s.most (fun k => (Value.slice A s.pins.length c).ownBlock = some k) _ s.pins _ _ _ _ W _ HM.out.o.bel HM.out.row (ref_tick s HLEN.out (by have := HNUM.out; omega) HNUM.out.1)).mono ?_
                rintro e1 w1 ⟨v2, rfl, hR, hB1, hK1⟩
                have HM1 := Aside0.mk (HM.out.ref hR hB1 hK1)
                obtain ⟨A3, c3, rfl, _, _⟩ := Kd.R_reads hR
                clear hR hB1 hK1
                have y0 := (blk_cell HM1.out.hy 0).trans rfl
                have y1 := (blk_cell HM1.out.hy 1).trans rfl
                have y2 := (blk_cell HM1.out.hy 2).trans rfl
                have z0 := blk_frozen HM1.out.hy 0
                have z1 := blk_frozen HM1.out.hy 1
                have z2 := blk_frozen HM1.out.hy 2
                have HM2 := Aside0.mk (HM1.out.putY (z0 := .int .i64 (s.tick.2).now) (z1 := .int .i64 (s.tick.2).most) (z2 := .slice A3 (s.tick.2).pins.length c3))
                go_wp2_with fail
                refine (tick.calls _ g b s HM2.out.o.ep).mono ?_
                rintro e2 w3 ⟨rfl, hE, hO⟩
                have HM3 := Aside0.mk (HM2.out.off (HM2.out.o.off hE hO) hO)
                clear hE hO y0 y1 y2 z0 z1 z2
                generalize s.tick.2 = t at HM3 ⊢

                clear x0 x1 x2
                have x0 := (blk_cell HM3.out.hx 0).trans rfl
                have x1 := (blk_cell HM3.out.hx 1).trans rfl
                have x2 := (blk_cell HM3.out.hx 2).trans rfl
                have y0 := (blk_cell HM3.out.hy 0).trans rfl
                have y1 := (blk_cell HM3.out.hy 1).trans rfl
                have y2 := (blk_cell HM3.out.hy 2).trans rfl
                have z0 := blk_frozen HM3.out.hx 0
                have z1 := blk_frozen HM3.out.hx 1
                have z2 := blk_frozen HM3.out.hx 2
                have HM4 := Aside0.mk HM3.out.copy
                go_wp2_with fail
                refine (HM4.out.Pinned d1).mono ?_
                rintro e3 w4 ⟨rfl, h4⟩
                have HT4 := Aside0.mk h4
                clear h4 x0 x1 x2 y0 y1 y2 z0 z1 z2
                have x0 := (blk_cell HT4.out.x.hx 0).trans rfl
                have x1 := (blk_cell HT4.out.x.hx 1).trans rfl
                have x2 := (blk_cell HT4.out.x.hx 2).trans rfl
                go_wp2_with fail
                refine (HT4.out.rPinned d1).mono ?_
                rintro e4 w5 ⟨rfl, h5⟩
                have HT5 := Aside0.mk (TW.of h5)
                clear h5 x0 x1 x2
                go_wp2_with fail
                go_region_held3 (fun w' => w'.cell? ⟨w2.heap.size, 0, none⟩ = some (.int .i64 t.now) ∧ w'.cell? ⟨w2.heap.size, 1, none⟩ = some (.int .i64 t.most) ∧ w'.cell? ⟨w2.heap.size, 2, none⟩ = some (.slice A3 t.pins.length c3) ∧ Two W w' g b w2.heap.size (.slice A3 t.pins.length c3) t)
                  (first | (show TW W g b w2.heap.size A3 c3 t _; first | assumption | exact HT5.out | exact HT5.out.drew | exact HT5.out.drewN _ | exact TW.of (by assumption) | exact TW.drew (by assumption) | exact TW.drewN (by assumption) _))
                  (first
                    | (go_at_call 18; refine (Two.Now (TW.two (by assumption))).mono ?_; rintro e5 w6 ⟨rfl, h6⟩)
                    | (go_at_call 19; refine (Two.Safe (TW.two (by assumption)) _).mono ?_; rintro e5 w6 ⟨rfl, h6⟩)
                    | (go_at_call 20; refine (Two.rSafe (TW.two (by assumption)) _).mono ?_; rintro e5 w6 ⟨rfl, h6⟩))
                go_wp2_with fail
                have hi0 := HI0.out
                have q1' := of_eq_true q1
                go_roundg (l.length - (i + 1).toNat)
                case measure => omega
                case rel =>
                  exact ⟨i + 1, t, A3, c3, by rw [show wrap64 (i + 1) = i + 1 by unfold wrap64; omega], by first | rfl | omega, by omega, by omega, ⟨by first | exact TW.two (by assumption) | exact (TW.two (by assumption)).drewN _⟩⟩
              · have d2b : (d0 == 2) = false := beq_eq_false_iff_ne.mpr d2z
                clear d0z d1z d2z
                have HM3 := HM
                have z0 := blk_frozen HT.out.x.hx 0
                have z1 := blk_frozen HT.out.x.hx 1
                have z2 := blk_frozen HT.out.x.hx 2
                have HM4 := Aside0.mk (HT.out.same.below (below_alloc (Below.refl _ _) (.cells #[.int .i64 s.now, .int .i64 s.most, .slice A s.pins.length c] 32)))
                go_wp2_with fail
                refine (HM4.out.Pinned d1).mono ?_
                rintro e3 w4 ⟨rfl, h4⟩
                have HT4 := Aside0.mk h4
                clear h4 x0 x1 x2 z0 z1 z2
                have x0 := (blk_cell HT4.out.x.hx 0).trans rfl
                have x1 := (blk_cell HT4.out.x.hx 1).trans rfl
                have x2 := (blk_cell HT4.out.x.hx 2).trans rfl
                go_wp2_with fail
                refine (HT4.out.rPinned d1).mono ?_
                rintro e4 w5 ⟨rfl, h5⟩
                have HT5 := Aside0.mk (TW.of h5)
                clear h5 x0 x1 x2
                go_wp2_with fail
                go_region_held3 (fun w' => w'.cell? ⟨w2.heap.size, 0, none⟩ = some (.int .i64 s.now) ∧ w'.cell? ⟨w2.heap.size, 1, none⟩ = some (.int .i64 s.most) ∧ w'.cell? ⟨w2.heap.size, 2, none⟩ = some (.slice A s.pins.length c) ∧ Two W w' g b w2.heap.size (.slice A s.pins.length c) s)
                  (first | (show TW W g b w2.heap.size A c s _; first | assumption | exact HT5.out | exact HT5.out.drew | exact HT5.out.drewN _ | exact TW.of (by assumption) | exact TW.drew (by assumption) | exact TW.drewN (by assumption) _))
                  (first
                    | (go_at_call 18; refine (Two.Now (TW.two (by assumption))).mono ?_; rintro e5 w6 ⟨rfl, h6⟩)
                    | (go_at_call 19; refine (Two.Safe (TW.two (by assumption)) _).mono ?_; rintro e5 w6 ⟨rfl, h6⟩)
                    | (go_at_call 20; refine (Two.rSafe (TW.two (by assumption)) _).mono ?_; rintro e5 w6 ⟨rfl, h6⟩))
                go_wp2_with fail
                have hi0 := HI0.out
                have q1' := of_eq_true q1
                go_roundg (l.length - (i + 1).toNat)
                case measure => omega
                case rel =>
                  exact ⟨i + 1, s, A, c, by rw [show wrap64 (i + 1) = i + 1 by unfold wrap64; omega], by first | rfl | omega, by omega, by omega, ⟨by first | exact TW.two (by assumption) | exact (TW.two (by assumption)).drewN _⟩⟩
        · have q1 : ¬ i < (l.length : Int) := by omega
          go_wp2_with fail
          refine (awake.calls _).mono ?_
          rintro e1 w1 ⟨rfl, hb⟩
          have HB := Aside0.mk (HT.out.o.below hb).bel
          clear hb
          go_wp2_with fail
          exact bodyPost_ret (v := .bool true) (by simp [results, Try.results3, go_sem]) rfl ⟨rfl, HB.out⟩
    · go_enter Try.func3, Try.ntmps3
      go_wp2_with fail
      refine (transomlaw19_few.calls A0 c0 l true _ (Kd.C_below HR.out HB0.out) HC.out (by simp [transomlaw19_few.f]; omega)).mono ?_
      rintro e w0 ⟨rfl, hd0⟩
      have HD0 := Aside0.mk hd0
      have hc0 : w0.cell? ⟨W.heap.size, 0, none⟩ = some (.int .i64 n) := pw_cell_below hd0.below ((blk_cell (blk_new W _) 0).trans rfl)
      have hc1 : w0.cell? ⟨W.heap.size, 1, none⟩ = some (.int .i64 m) := pw_cell_below hd0.below ((blk_cell (blk_new W _) 1).trans rfl)
      clear hd0
      go_wp2_with fail
      refine (newBad.calls _ n m hgood).mono ?_
      rintro e w1 ⟨rfl, hd1⟩
      have hWW := Aside0.mk (below_then (below_then HB0.out (by simp) HD0.out.below) (below_then HB0.out (by simp) HD0.out.below).size hd1.below)
      have hc0' := pw_cell_below hd1.below hc0
      have hc1' := pw_cell_below hd1.below hc1
      clear hd1 hc0 hc1
      go_wp2_with fail
      refine (transomref19_New.calls n m _ _ _ _ _ (ref_new_bad hgood)).mono ?_
      rintro e w2 ⟨v2, rfl, hR, hb2⟩
      obtain ⟨A2, c2, rfl, hl2, _⟩ := Kd.R_reads hR
      have HB2 := Aside0.mk (below_then hWW.out hWW.out.size hb2)
      clear hR hb2 hl2 hc0' hc1' hgood
      go_wp2_with fail
      go_loopg [11] 0 (fun kq v11 w' => v11 = .int .i64 0 ∧ Aside0 (Below W.heap.size W w'))
      case atStart => exact ⟨rfl, ⟨HB2.out.alloc HB2.out.size _⟩⟩
      case round =>
        obtain ⟨rfl, HB3⟩ := hrel
        by_cases hz : 0 < l.length
        · go_wp2_with fail
          refine (awake.calls _).mono ?_
          rintro e1 w1 ⟨rfl, hb⟩
          have HB := Aside0.mk (below_then HB3.out HB3.out.size hb)
          clear hb
          go_wp2_with fail
          exact bodyPost_ret (v := .bool true) (by simp [results, Try.results3, go_sem]) rfl ⟨rfl, HB.out⟩
        · have hz' : l.length = 0 := by omega
          go_wp2_with fail
          refine (awake.calls _).mono ?_
          rintro e1 w1 ⟨rfl, hb⟩
          have HB := Aside0.mk (below_then HB3.out HB3.out.size hb)
          clear hb
          go_wp2_with fail
          exact bodyPost_ret (v := .bool true) (by simp [results, Try.results3, go_sem]) rfl ⟨rfl, HB.out⟩
  · have e1 : decide ((l.length : Int) ≤ 200) = false := decide_eq_false hf
    clear hC hl
    go_enter Try.func3, Try.ntmps3
    go_wp2_with fail
    refine (transomlaw19_few.calls A0 c0 l false _ (Kd.C_below HR.out HB0.out) HC.out (by simp [transomlaw19_few.f]; omega)).mono ?_
    rintro e w0 ⟨rfl, ⟨n0, rfl⟩⟩
    go_wp2_with fail
    refine (awake.calls _).mono ?_
    rintro e w1 ⟨rfl, hb⟩
    have HB := Aside0.mk (below_then (pw_below_drewN HB0.out n0) (by simp) hb)
    clear hb
    go_wp2_with fail
    exact bodyPost_ret (v := .bool true) (by simp [results, Try.results3, go_sem]) rfl ⟨rfl, HB.out⟩
end Go.Proofs.Ytdnfmfjaljkjkaa.Ep
