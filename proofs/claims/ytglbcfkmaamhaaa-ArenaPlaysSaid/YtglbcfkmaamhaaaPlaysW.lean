/- ArenaPlays: the walk. No condition. -/
import Derived.Test.YtglbcfkmaamhaaaPlaysA
set_option linter.unusedVariables false
set_option linter.unusedSimpArgs false
namespace Go.Proofs.Ytglbcfkmaamhaaa.ArI
open Go Go.RowKit Go.Proofs.YtglbcfkmaamhaaaW.PrintWords Go.Proofs.YtglbcfkmaamhaaaW.PrintLast Go.Proofs.YtglbcfkmaamhaaaW.PrintMore Go.Proofs.Ytglbcfkmaamhaaa.Hv Go.Proofs.Ytglbcfkmaamhaaa.Arm Go.Proofs.Ytglbcfkmaamhaaa.R16

/-- A deed: kind, number, old, ref. -/
abbrev Dd := Int × Int × Int × Int × Int
def dcells (d : Dd) : List Value := [.int .i64 d.1, .int .i64 d.2.1, .int .i64 d.2.2.1, .int .i64 d.2.2.2.1, .int .i64 d.2.2.2.2]
theorem dcells_at : ∀ (l : List Dd) (k j : Nat) (d : Dd) (u : Value), l[k]? = some d → (dcells d)[j]? = some u → (l.flatMap dcells)[k * 5 + j]? = some u
  | [], k, j, d, u, h, _ => by simp at h
  | a :: l, 0, j, d, u, h, hu => by
    have e : a = d := by simpa using h
    subst e
    have hj := (List.getElem?_eq_some_iff.1 hu).1
    rw [List.flatMap_cons, Nat.zero_mul, Nat.zero_add, List.getElem?_append_left hj]
    exact hu
  | a :: l, k + 1, j, d, u, h, hu => by
    have h1 := dcells_at l k j d u (by simpa using h) hu
    rw [List.flatMap_cons, List.getElem?_append_right (by simp [dcells]; omega), show (k + 1) * 5 + j - (dcells a).length = k * 5 + j by simp [dcells]; omega]
    exact h1

/-- Both arenas, what is held, the refs so far. -/
structure PL (W w : World) (g sb xb hb n : Nat) (rf : List (Int × Int)) (s : Ar) (held : List Int) (v7 : Value) (A R : List Ob) (a1 : Option Addr) (c1 : Nat) (a2 : Option Addr) (c2 : Nat) (a3 : Option Addr) (c3 : Nat) : Prop where
  arn : Arn W w g sb s (A ++ (cb xb 29 #[.slice a1 s.n c1, .slice a2 s.n c2, .slice a3 s.back.length c3, .int .i64 s.ever] :: cb hb 3 (nums .i64 held).toArray :: R))
  row : Gr 33 2 v7 rf.length (refs rf) A
  rfa : RfA R s a1 c1 a2 c2 a3 c3
  len : s.n = n
  hlen : held.length = n
  val : ∀ i : Int, 0 ≤ i → i < n → (s.slot i).taken = true → (s.slot i).x = [.int .i64 (held.getD i.toNat 0)]
theorem put_val {s : Ar} {n : Nat} {held : List Int} (hn : s.n = n) (hl : held.length = n) (hv : ∀ i : Int, 0 ≤ i → i < n → (s.slot i).taken = true → (s.slot i).x = [.int .i64 (held.getD i.toNat 0)]) {i q : Int} (hh : s.has i q = true) (v : Int) (j : Int) (h0 : 0 ≤ j) (h1 : j < n) (ht : ((s.put i [.int .i64 v]).slot j).taken = true) : ((s.put i [.int .i64 v]).slot j).x = [.int .i64 ((held.set i.toNat v).getD j.toNat 0)] := by
  obtain ⟨i0, i1, i2, i3⟩ := Ar.has_lt hh
  rw [Ar.put, slot_set _ _ _ _ _ _ (by omega)] at ht ⊢
  by_cases e : j.toNat = i.toNat
  · rw [if_pos e, e]
    simp [List.getD_eq_getElem?_getD, show i.toNat < held.length by omega]
  · rw [if_neg e] at ht ⊢
    rw [hv j h0 h1 ht]
    simp [List.getD_eq_getElem?_getD, List.getElem?_set_ne (fun h => e h.symm)]
theorem free_n {s s2 : Ar} {n : Nat} (hn : s.n = n) {i q : Int} {z : List Value} (h : s.free i q z = s2) : s2.n = n := by
  subst h
  unfold Ar.free
  split
  · simpa [Ar.n, Ar.drop] using hn
  · exact hn
theorem free_val {s s2 : Ar} {n : Nat} {held : List Int} (hn : s.n = n) (hv : ∀ i : Int, 0 ≤ i → i < n → (s.slot i).taken = true → (s.slot i).x = [.int .i64 (held.getD i.toNat 0)]) {i q : Int} {z : List Value} (h : s.free i q z = s2) (j : Int) (h0 : 0 ≤ j) (h1 : j < n) (ht : (s2.slot j).taken = true) : (s2.slot j).x = [.int .i64 (held.getD j.toNat 0)] := by
  subst h
  unfold Ar.free at ht ⊢
  split at ht
  · rename_i hh
    obtain ⟨i0, i1, i2, i3⟩ := Ar.has_lt hh
    rw [if_pos hh]
    rw [Ar.drop, slot_set _ _ _ _ _ _ (by omega)] at ht ⊢
    by_cases e : j.toNat = i.toNat
    · rw [if_pos e] at ht
      cases ht
    · rw [if_neg e] at ht ⊢
      exact hv j h0 h1 ht
  · rename_i hh
    rw [if_neg hh]
    exact hv j h0 h1 ht
theorem take_n {s s2 : Ar} {n : Nat} (hn : s.n = n) {x : List Value} (h : s.take x = s2) : s2.n = n := by
  subst h
  simpa [Ar.n, Ar.take] using hn
theorem take_val {s s2 : Ar} {n : Nat} {held : List Int} (hn : s.n = n) (hl : held.length = n) (hv : ∀ i : Int, 0 ≤ i → i < n → (s.slot i).taken = true → (s.slot i).x = [.int .i64 (held.getD i.toNat 0)]) {v a : Int} (h : s.take [.int .i64 v] = s2) (ea : s.next = a) (a0 : 0 ≤ a) (a1 : a < n) (j : Int) (h0 : 0 ≤ j) (h1 : j < n) (ht : (s2.slot j).taken = true) : (s2.slot j).x = [.int .i64 ((held.set a.toNat v).getD j.toNat 0)] := by
  subst h
  subst ea
  rw [Ar.take, slot_set _ _ _ _ _ _ (by omega)] at ht ⊢
  by_cases e : j.toNat = s.next.toNat
  · rw [if_pos e, e]
    simp [List.getD_eq_getElem?_getD, show s.next.toNat < held.length by omega]
  · rw [if_neg e] at ht ⊢
    rw [hv j h0 h1 ht]
    simp [List.getD_eq_getElem?_getD, List.getElem?_set_ne (fun h => e h.symm)]
theorem PL.call {W w w1 : World} {g sb xb hb n : Nat} {rf : List (Int × Int)} {s : Ar} {held : List Int} {v7 : Value} {A R : List Ob} {a1 : Option Addr} {c1 : Nat} {a2 : Option Addr} {c2 : Nat} {a3 : Option Addr} {c3 : Nat} (h : PL W w g sb xb hb n rf s held v7 A R a1 c1 a2 c2 a3 c3) (hk : Below w.heap.size w w1) : PL W w1 g sb xb hb n rf s held v7 A R a1 c1 a2 c2 a3 c3 :=
  ⟨h.arn.call hk, h.row, h.rfa, h.len, h.hlen, h.val⟩
theorem PL.drewN {W w : World} {g sb xb hb n : Nat} {rf : List (Int × Int)} {s : Ar} {held : List Int} {v7 : Value} {A R : List Ob} {a1 : Option Addr} {c1 : Nat} {a2 : Option Addr} {c2 : Nat} {a3 : Option Addr} {c3 : Nat} (h : PL W w g sb xb hb n rf s held v7 A R a1 c1 a2 c2 a3 c3) (m : Nat) : PL W (w.drewN m) g sb xb hb n rf s held v7 A R a1 c1 a2 c2 a3 c3 := h.call (pw_below_drewN (Below.refl _ _) m)
theorem PL.drew {W w : World} {g sb xb hb n : Nat} {rf : List (Int × Int)} {s : Ar} {held : List Int} {v7 : Value} {A R : List Ob} {a1 : Option Addr} {c1 : Nat} {a2 : Option Addr} {c2 : Nat} {a3 : Option Addr} {c3 : Nat} (h : PL W w g sb xb hb n rf s held v7 A R a1 c1 a2 c2 a3 c3) : PL W w.drew g sb xb hb n rf s held v7 A R a1 c1 a2 c2 a3 c3 := h.call (below_drew1 (Below.refl _ _))
theorem Arn.putM {w0 w : World} {g sb : Nat} {s : Ar} {X Y : List Ob} {b t : Nat} {cs cs' : Array Value} (h : Arn w0 w g sb s (X ++ (cb b t cs :: Y))) (j : Nat) (v : Value) (e : cs.setIfInBounds j v = cs') : Arn w0 (w.setCell ⟨b, j, none⟩ v) g sb s (X ++ (cb b t cs' :: Y)) := by
  obtain ⟨R, h1, back⟩ := Arn.lens (X := X) (A := [cb b t cs]) (Y := Y) h
  exact back _ [cb b t cs'] (h1.put0 j v e)
theorem Arn.putM1 {w0 w : World} {g sb : Nat} {s : Ar} {X Y : List Ob} {a : Ob} {b t : Nat} {cs cs' : Array Value} (h : Arn w0 w g sb s (X ++ (a :: cb b t cs :: Y))) (j : Nat) (v : Value) (e : cs.setIfInBounds j v = cs') : Arn w0 (w.setCell ⟨b, j, none⟩ v) g sb s (X ++ (a :: cb b t cs' :: Y)) := by
  have := Arn.putM (X := X ++ [a]) (by simpa using h) j v e
  simpa using this
theorem Arn.tuck {w0 w : World} {g sb : Nat} {s : Ar} {A R R2 : List Ob} {x y : Ob} (h : Arn w0 w g sb s (R2 ++ (A ++ (x :: y :: R)))) : Arn w0 w g sb s (A ++ (x :: y :: (R2 ++ R))) := by
  have e : (A ++ (x :: y :: (R2 ++ R))).Perm (R2 ++ (A ++ (x :: y :: R))) := by
    have := (List.perm_append_comm_assoc R2 (A ++ [x, y]) R).symm
    simpa using this
  exact h.perm e
theorem nums_put (l : List Int) (i : Nat) (v : Int) : (nums .i64 l).toArray.setIfInBounds i (.int .i64 v) = (nums .i64 (l.set i v)).toArray := by simp [nums, List.map_set]
theorem gens_put (s : Ar) {i q : Int} (h : s.has i q = true) (x : List Value) : gens (s.put i x) = gens s := by
  obtain ⟨h1, h2, h3, h4⟩ := Ar.has_lt h
  simp only [gens, Ar.put, List.map_set]
  exact set_same (by rw [List.getElem?_map, slot_eq (by omega)]; rfl)
theorem tks_put (s : Ar) {i q : Int} (h : s.has i q = true) (x : List Value) : tks (s.put i x) = tks s := by
  obtain ⟨h1, h2, h3, h4⟩ := Ar.has_lt h
  simp only [tks, Ar.put, List.map_set]
  exact set_same (by rw [List.getElem?_map, slot_eq (by omega), ← h3]; rfl)
theorem Arn.drop {w0 w : World} {g sb : Nat} {s : Ar} {L L' : List Ob} (h : Arn w0 w g sb s L) (hs : L'.Sublist L) : Arn w0 w g sb s L' := by
  obtain ⟨bv, B, h1, h2, h3⟩ := h
  exact ⟨bv, B, h1.drop (List.Sublist.append_left hs _), h2, h3⟩

set_option maxHeartbeats 16000000 in
set_option maxRecDepth 100000 in
theorem plays.calls {A0 : Option Addr} {c0 : Nat} {l : List Dd} (m0 : Int) (W : World) (hl : l.length ≤ c0) (hD : Rd 5 W A0 l.length (l.flatMap dcells)) (hold : ∀ d ∈ l, d.2.2.1 ≤ 9223372036854775807) :
    Calls Try.prog 3 #[.int .i64 m0, .slice A0 l.length c0] W fun e w' => e = .returned (.bool true) ∧ Below W.heap.size W w' := by
  have hu33 := Try.underlying33
  have hu24 := Try.underlying24
  have hu31 := Try.underlying31
  have hu35 := Try.underlying35
  have hu29 := Try.underlying29
  have hu22 := Try.underlying22
  have hnot : ∀ (x : Bool) (w : World), (Op.unary .not (.bool x)).run Try.prog w = .ok (.bool (!x)) w := fun _ _ => rfl
  have HD := Aside0.mk hD
  have HO := Aside0.mk hold
  clear hD hold
  by_cases q1 : (l.length : Int) > 80
  · have d1 : decide ((80 : Int) < l.length) = true := decide_eq_true q1
    have d1' : decide (80 < l.length) = true := decide_eq_true (by omega)
    clear q1
    go_enter Try.func3, Try.ntmps3
    go_wp2_with fail
    refine (awake.calls _).mono ?_
    rintro e w1 ⟨rfl, hb⟩
    have HB := Aside0.mk hb
    clear hb
    go_wp2_with fail
    exact bodyPost_ret (v := .bool true) (by simp [results, Try.results3, go_sem]) rfl ⟨rfl, HB.out⟩
  · have d1 : decide ((80 : Int) < l.length) = false := decide_eq_false q1
    have d1' : decide (80 < l.length) = false := decide_eq_false (by omega)
    by_cases q2 : m0 > 5000
    · have d2 : decide (5000 < m0) = true := decide_eq_true q2
      clear q1 q2
      go_enter Try.func3, Try.ntmps3
      go_wp2_with fail
      refine (awake.calls _).mono ?_
      rintro e w1 ⟨rfl, hb⟩
      have HB := Aside0.mk hb
      clear hb
      go_wp2_with fail
      exact bodyPost_ret (v := .bool true) (by simp [results, Try.results3, go_sem]) rfl ⟨rfl, HB.out⟩
    · have d2 : decide (5000 < m0) = false := decide_eq_false q2
      have HL := Aside0.mk (show l.length ≤ 80 by omega)
      clear q1 q2
      go_enter Try.func3, Try.ntmps3
      go_wp2_with fail
      refine (New (Hv.start W) m0).mono ?_
      rintro e w1 ⟨g, sb, rfl, h1⟩
      have H1 := Aside0.mk h1
      clear h1
      go_wp2_with fail
      refine (R16.new.calls m0 [.int .i64 0] _).mono ?_
      rintro e w2 ⟨a1, c1, a2, c2, a3, c3, R, rfl, hR, hA⟩
      have hn : many m0 ≤ 4096 := by unfold many; split <;> omega
      have eN : (Ar.new (many m0) [.int .i64 0]).n = many m0 := by simp [Ar.new, Ar.n]
      have eB : (Ar.new (many m0) [.int .i64 0]).back = [] := rfl
      have eE : (Ar.new (many m0) [.int .i64 0]).ever = 0 := rfl
      have hV : ∀ i : Int, 0 ≤ i → i < (many m0 : Int) → ((Ar.new (many m0) [.int .i64 0]).slot i).taken = true → ((Ar.new (many m0) [.int .i64 0]).slot i).x = [.int .i64 ((List.replicate (many m0) (0 : Int)).getD i.toNat 0)] := fun i _ _ ht => by
        simp only [Ar.new, Ar.slot, List.getD_eq_getElem?_getD, List.getElem?_replicate] at ht
        split at ht <;> cases ht
      have HV := Aside0.mk hV
      have HA := Aside0.mk hA
      have H2 := Aside0.mk (H1.out.join hR)
      clear H1 hR hA hV
      generalize hs0 : Ar.new (many m0) [.int .i64 0] = s0 at *
      generalize many m0 = n at *
      simp only [eN, eB, eE, List.length_nil]
      clear hs0
      have hmk := R16.make_ints n hn
      have HN := Aside0.mk eN
      have HB0 := Aside0.mk eB
      have HE := Aside0.mk eE
      clear eN eB eE
      have PL0 : PL W ((w2.alloc (.cells #[.slice a1 n c1, .slice a2 n c2, .slice a3 0 c3, .int .i64 0] 29)).alloc (.cells (nums .i64 (List.replicate n 0)).toArray 3)) g sb w2.heap.size (w2.heap.size + 1) n [] s0 (List.replicate n 0) (.slice none 0 0) [] (R ++ []) a1 c1 a2 c2 a3 c3 := by
        have h2 := (H2.out.alloc (.cells #[.slice a1 n c1, .slice a2 n c2, .slice a3 0 c3, .int .i64 0] 29)).alloc (.cells (nums .i64 (List.replicate n 0)).toArray 3)
        rw [World.size_alloc] at h2
        refine ⟨?_, Gr.nil _ _, HA.out, HN.out, by simp, HV.out⟩
        rw [HN.out, HB0.out, HE.out]
        exact h2.perm (List.Perm.swap _ _ _)
      have HPL := Aside0.mk PL0
      clear PL0
      go_wp2_with fail
      generalize (w2.alloc (.cells #[.slice a1 n c1, .slice a2 n c2, .slice a3 0 c3, .int .i64 0] 29)).alloc (.cells (nums .i64 (List.replicate n 0)).toArray 3) = wl at HPL ⊢
      generalize w2.heap.size = xb at HPL ⊢
      generalize hhb : xb + 1 = hb at HPL ⊢
      clear hhb
      go_loopg [7, 9] l.length (fun kq v7 v9 wr => ∃ (k : Nat) (rf : List (Int × Int)) (s : Ar) (held : List Int) (A R : List Ob) (a1 : Option Addr) (c1 : Nat) (a2 : Option Addr) (c2 : Nat) (a3 : Option Addr) (c3 : Nat), v9 = .int .i64 (k : Int) ∧ kq = l.length - k ∧ k ≤ l.length ∧ rf.length ≤ k ∧ Aside0 (PL W wr g sb xb hb n rf s held v7 A R a1 c1 a2 c2 a3 c3))
      case atStart => exact ⟨0, [], s0, _, [], _, a1, c1, a2, c2, a3, c3, rfl, rfl, Nat.zero_le _, Nat.le_refl _, HPL⟩
      case round =>
        clear HPL HA HV H2 HN HB0 HE hmk
        obtain ⟨k, rf, s, held, A, R, a1, c1, a2, c2, a3, c3, rfl, rfl, hk, hrf, HP⟩ := hrel
        obtain ⟨ad7, c7, rfl, hn7⟩ := HP.out.row.form
        by_cases hlt : k < l.length
        · have hlt' : (k : Int) < (l.length : Int) := by omega
          obtain ⟨adl, ea, hcl⟩ := (HD.out.below HP.out.arn.bel).2 (by omega)
          cases ea
          obtain ⟨⟨kd, nn, old, ri0, rq0⟩, hd⟩ : ∃ d, l[k]? = some d := ⟨_, List.getElem?_eq_getElem hlt⟩
          have z0 := hcl (k * 5) _ (dcells_at l k 0 _ (.int .i64 kd) hd rfl)
          have z1 := hcl (k * 5 + 1) _ (dcells_at l k 1 _ (.int .i64 nn) hd rfl)
          have z2 := hcl (k * 5 + 2) _ (dcells_at l k 2 _ (.int .i64 old) hd rfl)
          have z3 := hcl (k * 5 + 3) _ (dcells_at l k 3 _ (.int .i64 ri0) hd rfl)
          have z4 := hcl (k * 5 + 4) _ (dcells_at l k 4 _ (.int .i64 rq0) hd rfl)
          rw [add_next _ _ _ (by omega)] at z1 z2 z3 z4
          have hol := HO.out _ (List.mem_of_getElem? hd)
          have HOL := Aside0.mk hol
          have hll := HL.out
          have K1 := Aside0.mk (HP.out.arn.alloc (.cells #[.int .i64 kd, .int .i64 nn, .int .i64 old, .int .i64 ri0, .int .i64 rq0] 35))
          have HN7 := Aside0.mk hn7
          have hnm := HP.out.arn.ok.most
          have HNM := Aside0.mk hnm
          clear hcl hd hol hn7 hnm
          go_wp2_with fail
          refine (ref.calls rf (by omega) K1.out.other ((Rw.of_gr HP.out.row).mono (fun p hp => by simp [hp])) kd nn old ri0 rq0 HOL.out).mono ?_
          rintro e3 w3 ⟨rfl, hb3⟩
          clear z0 z1 z2 z3 z4
          generalize rfOf rf old (ri0, rq0) = rr
          obtain ⟨ri, rq⟩ := rr
          simp only
          have K3 := Aside0.mk ((K1.out.call hb3).alloc (.cells #[.int .i64 ri, .int .i64 rq] 33))
          obtain ⟨x0, x1, x2, x3, u0, u1, u2, u3⟩ := K3.out.other.c4 xb 29 (.slice a1 s.n c1) (.slice a2 s.n c2) (.slice a3 s.back.length c3) (.int .i64 s.ever) (by simp)
          clear hb3 K1
          go_wp2_with fail
          refine (R16.right.calls K3.out.other (HP.out.rfa.mono (fun p hp => by simp [hp])) HNM.out ri rq).mono ?_
          rintro e4 w4 ⟨rfl, hb4⟩
          have K4 := Aside0.mk (K3.out.call hb4)
          clear x0 x1 x2 x3 u0 u1 u2 u3 hb4 K3
          generalize w3.heap.size = rb at K4 ⊢
          generalize wr.heap.size = db at K4 ⊢
          obtain ⟨y0, y1, y2, y3, y4, t0, t1, t2, t3, t4⟩ := K4.out.other.c5 db 35 (.int .i64 kd) (.int .i64 nn) (.int .i64 old) (.int .i64 ri0) (.int .i64 rq0) (by simp)
          obtain ⟨r0, r1, v0, v1⟩ := K4.out.other.c2 rb 33 (.int .i64 ri) (.int .i64 rq) (by simp)
          clear t0 t1 t2 t3 t4 v0 v1
          by_cases k0 : kd = 0
          · subst k0
            obtain ⟨a, b, er, htk⟩ : ∃ a b er, tk s = (a, b, er) := ⟨_, _, _, rfl⟩
            obtain ⟨s2, hs2⟩ : ∃ s2, s.took [.int .i64 nn] = s2 := ⟨_, rfl⟩
            have HTK := Aside0.mk htk
            have HS2 := Aside0.mk hs2
            clear htk hs2
            go_wp2_with fail
            refine (K4.out.Take nn HTK.out HS2.out).mono ?_
            rintro e5 w5 ⟨rfl, h5⟩
            have K5 := Aside0.mk (h5.alloc (.cells #[.int .i64 a, .int .i64 b] 33))
            clear h5 y0 y1 y2 y3 y4 r0 r1
            obtain ⟨x0, x1, x2, x3, u0, u1, u2, u3⟩ := K5.out.other.c4 xb 29 (.slice a1 s.n c1) (.slice a2 s.n c2) (.slice a3 s.back.length c3) (.int .i64 s.ever) (by simp)
            clear u0 u1 u2 u3
            go_wp2_with fail
            refine (rTake (L := R) (K5.out.other.tail.tail.tail.right.tail.tail) HP.out.rfa HP.out.arn.ok [.int .i64 nn] HTK.out HS2.out).mono ?_
            rintro e6 w6 ⟨b1, d1, b2, d2, b3, d3, R2, rfl, hR2, hA2⟩
            have HA2 := Aside0.mk hA2
            have h6 := ((K5.out.join hR2).alloc (.cells #[.slice b1 s2.n d1, .slice b2 s2.n d2, .slice b3 s2.back.length d3, .int .i64 s2.ever] 29)).alloc (.cells #[.int .i64 a, .int .i64 b] 33)
            rw [World.size_alloc] at h6
            have K6 := Aside0.mk h6
            clear hR2 hA2 x0 x1 x2 x3 K5 h6
            generalize w5.heap.size = tb at K6 ⊢
            obtain ⟨x0, x1, x2, x3, u0, u1, u2, u3⟩ := K6.out.other.c4 xb 29 (.slice a1 s.n c1) (.slice a2 s.n c2) (.slice a3 s.back.length c3) (.int .i64 s.ever) (by simp)
            go_upto_region 19 with (fail)
            obtain ⟨w7, hw7, k7⟩ : ∃ w7, w7 = _ ∧ Arn W w7 g sb s2 ((w6.heap.size + 1, .cells #[.int .i64 a, .int .i64 b] 33) :: (w6.heap.size, .cells #[.slice b1 s2.n d1, .slice b2 s2.n d2, .slice b3 s2.back.length d3, .int .i64 s2.ever] 29) :: (R2 ++ (cb tb 33 #[.int .i64 a, .int .i64 b] :: cb rb 33 #[.int .i64 ri, .int .i64 rq] :: cb db 35 #[.int .i64 0, .int .i64 nn, .int .i64 old, .int .i64 ri0, .int .i64 rq0] :: (A ++ (cb xb 29 #[.slice b1 s2.n d1, .slice b2 s2.n d2, .slice b3 s2.back.length d3, .int .i64 s2.ever] :: cb hb 3 (nums .i64 held).toArray :: R))))) := by
              have h1 := K6.out
              have e : ∀ (z : Ob) (Y : List Ob), (w6.heap.size + 1, Obj.cells #[.int .i64 a, .int .i64 b] 33) :: (w6.heap.size, .cells #[.slice b1 s2.n d1, .slice b2 s2.n d2, .slice b3 s2.back.length d3, .int .i64 s2.ever] 29) :: (R2 ++ (cb tb 33 #[.int .i64 a, .int .i64 b] :: cb rb 33 #[.int .i64 ri, .int .i64 rq] :: cb db 35 #[.int .i64 0, .int .i64 nn, .int .i64 old, .int .i64 ri0, .int .i64 rq0] :: (A ++ (z :: Y)))) = ((w6.heap.size + 1, .cells #[.int .i64 a, .int .i64 b] 33) :: (w6.heap.size, .cells #[.slice b1 s2.n d1, .slice b2 s2.n d2, .slice b3 s2.back.length d3, .int .i64 s2.ever] 29) :: (R2 ++ (cb tb 33 #[.int .i64 a, .int .i64 b] :: cb rb 33 #[.int .i64 ri, .int .i64 rq] :: cb db 35 #[.int .i64 0, .int .i64 nn, .int .i64 old, .int .i64 ri0, .int .i64 rq0] :: A))) ++ (z :: Y) := fun z Y => by simp
              rw [e] at h1
              have h2 := (((h1.putM 0 (.slice b1 s2.n d1) rfl).putM 1 (.slice b2 s2.n d2) rfl).putM 2 (.slice b3 s2.back.length d3) rfl).putM 3 (.int .i64 s2.ever) rfl
              rw [← e] at h2
              exact ⟨_, rfl, h2⟩
            rw [← hw7]
            generalize w6.heap.size + 1 = t6 at k7 ⊢
            have K7 := Aside0.mk k7
            clear hw7 k7 x0 x1 x2 x3 u0 u1 u2 u3 K6
            obtain ⟨p0, p1, v0, v1⟩ := K7.out.other.c2 tb 33 (.int .i64 a) (.int .i64 b) (by simp)
            clear v0 v1
            obtain ⟨q0, q1, v0, v1⟩ := K7.out.other.c2 t6 33 (.int .i64 a) (.int .i64 b) (by simp)
            clear v0 v1
            obtain ⟨y0, y1, y2, y3, y4, t0, t1, t2, t3, t4⟩ := K7.out.other.c5 db 35 (.int .i64 0) (.int .i64 nn) (.int .i64 old) (.int .i64 ri0) (.int .i64 rq0) (by simp)
            clear t0 t1 t2 t3 t4
            have hne := R16.neq33 a b
            have K8 := Aside0.mk (show Arn W w7 g sb s2 ([(t6, .cells #[.int .i64 a, .int .i64 b] 33)] ++ (R2 ++ (cb db 35 #[.int .i64 0, .int .i64 nn, .int .i64 old, .int .i64 ri0, .int .i64 rq0] :: (A ++ (cb xb 29 #[.slice b1 s2.n d1, .slice b2 s2.n d2, .slice b3 s2.back.length d3, .int .i64 s2.ever] :: cb hb 3 (nums .i64 held).toArray :: R))))) from K7.out.drop (List.Sublist.cons_cons _ (List.Sublist.cons _ (List.Sublist.append_left (List.Sublist.cons _ (List.Sublist.cons _ (List.Sublist.refl _))) R2))))
            by_cases h0 : s.room = 0
            · have ht := HTK.out
              have hs := HS2.out
              unfold tk at ht
              unfold Ar.took at hs
              rw [if_pos h0] at ht hs
              simp only [Prod.mk.injEq] at ht
              obtain ⟨rfl, rfl, rfl⟩ := ht
              subst hs
              clear h0
              go_upto_region 38 with (fail)
              obtain ⟨wt, hwt, hPT⟩ : ∃ wt, wt = _ ∧ PL W wt g sb xb hb n (rf) (s) (held) (.slice ad7 rf.length c7) A (R2 ++ R) b1 d1 b2 d2 b3 d3 := ⟨_, rfl, ⟨Arn.tuck (K8.out.drop (List.Sublist.cons _ (List.Sublist.append_left (List.Sublist.cons _ (List.Sublist.refl _)) R2))), HP.out.row, HA2.out, HP.out.len, HP.out.hlen, HP.out.val⟩⟩
              rw [← hwt]
              have HT := Aside0.mk hPT
              clear hwt hPT p0 p1 q0 q1 y0 y1 y2 y3 y4 hne

              obtain ⟨x0, x1, x2, x3, u0, u1, u2, u3⟩ := HT.out.arn.other.c4 xb 29 _ _ _ _ (List.mem_append_right _ List.mem_cons_self)
              clear u0 u1 u2 u3
              have hT2 : ∀ W' : World, Below wt.heap.size wt W' → W'.cell? ⟨xb, 0, none⟩ = _ ∧ W'.cell? ⟨xb, 1, none⟩ = _ ∧ W'.cell? ⟨xb, 2, none⟩ = _ ∧ W'.cell? ⟨xb, 3, none⟩ = _ := fun W' hb => ⟨pw_cell_below hb x0, pw_cell_below hb x1, pw_cell_below hb x2, pw_cell_below hb x3⟩
              have HT2 := Aside0.mk hT2
              have B0 := Aside0.mk (Below.refl wt.heap.size wt)
              clear hT2
              go_region_with (first
                | (go_at_call 26; refine (room.calls (by first | exact HT.out.arn.call (pw_below_drewN (Below.refl _ _) _) | exact HT.out.arn.drew | exact HT.out.arn | exact HT.out.arn.call BB.out)).mono ?_; rintro e8 w8 ⟨rfl, ⟨m8, rfl⟩⟩)
                | (go_at_call 27; refine (R16.room.calls (L := R2 ++ R) (HT.out.arn.other.right.tail.tail.call (by first | exact Below.refl _ _ | exact below_drew1 (Below.refl _ _) | exact pw_below_drewN (Below.refl _ _) _)) HT.out.rfa (HT.out.arn.ok.most)).mono ?_; rintro e9 w9 ⟨rfl, hb9⟩; have BB := Aside0.mk (show Below wt.heap.size wt w9 by first | exact hb9 | exact (below_drew1 (Below.refl _ _)).trans hb9 | exact (pw_below_drewN (Below.refl _ _) _).trans hb9); clear hb9))
              all_goals go_wp2_with fail
              all_goals go_roundg (l.length - (k + 1))
              all_goals first
                | omega
                | exact ⟨k + 1, rf, s, held, A, R2 ++ R, b1, d1, b2, d2, b3, d3, by go_num, rfl, hlt, by first | omega | (simp; omega), ⟨by first | exact HT.out.call BB.out | exact (HT.out.call BB.out).drewN _⟩⟩
            · have ht := HTK.out
              have hs := HS2.out
              unfold tk at ht
              unfold Ar.took at hs
              rw [if_neg h0] at ht hs
              simp only [Prod.mk.injEq] at ht
              obtain ⟨ea, eb, rfl⟩ := ht
              obtain ⟨i0, i1⟩ := HP.out.arn.ok.next h0
              rw [ea] at i0 i1
              have EA := Aside0.mk ea
              have hin : a < (n : Int) := by have := HP.out.len; omega
              have HI0 := Aside0.mk i0
              have HIN := Aside0.mk hin
              have HS3 := Aside0.mk hs
              obtain ⟨RR, hr9, back⟩ := Arn.lens (X := [(t6, .cells #[.int .i64 a, .int .i64 b] 33)] ++ (R2 ++ [cb db 35 #[.int .i64 0, .int .i64 nn, .int .i64 old, .int .i64 ri0, .int .i64 rq0]])) (A := A) (Y := cb xb 29 #[.slice b1 s2.n d1, .slice b2 s2.n d2, .slice b3 s2.back.length d3, .int .i64 s2.ever] :: cb hb 3 (nums .i64 held).toArray :: R) (show Arn W w7 g sb s2 _ by simpa using K8.out)
              have HR9 := Aside0.mk hr9
              have HBK := Aside0.mk back
              have A16 := Aside0.mk (show (rf.length + 1) * 16 ≤ 140737488355328 by have := HL.out; omega)
              clear h0 ea eb hs hr9 back i1
              go_upto_region 23 with (at_builtin; refine append_list (w0 := W) (A := A) (L := RR) rfl (.tmp 84) (.tmp 86) 31 33 (.agg #[.int .i64 0, .int .i64 0]) 2 16 rfl Try.underlying31 info33 rfl (by decide) (by decide) _ _ _ rfl ⟨w7.heap.size, 0, none⟩ 1 1 [.int .i64 a, .int .i64 b] (by simp [Act.eval, Act.put]) rfl (news_new _ _ 33 _ (by simp)) (by intro u hu; simp at hu; rcases hu with rfl | rfl <;> rfl) HP.out.row (HR9.out.skip _) A16.out ?_; intro v9 w9 A9 hG1 hH1; have KG9 := Aside0.mk hG1; have KA9 := Aside0.mk (HBK.out _ _ hH1); clear hG1 hH1)
              obtain ⟨ad9, c9, rfl, _⟩ := KG9.out.form
              clear p0 p1 q0 q1 y0 y1 y2 y3 y4 hne
              obtain ⟨q0, q1, v0, v1⟩ := KA9.out.other.c2 t6 33 (.int .i64 a) (.int .i64 b) (by simp)
              obtain ⟨y0, y1, y2, y3, y4, t0, t1, t2, t3, t4⟩ := KA9.out.other.c5 db 35 (.int .i64 0) (.int .i64 nn) (.int .i64 old) (.int .i64 ri0) (.int .i64 rq0) (by simp)
              have hb0 := KA9.out.other.cell (g := hb) (t := 3) (cs := (nums .i64 held).toArray) (by simp) a.toNat (v := .int .i64 (held.getD a.toNat 0)) (by have := HP.out.hlen; have := HIN.out; simp [nums, List.getD_eq_getElem?_getD, show a.toNat < held.length by omega])
              have hf0 := KA9.out.other.frozen (g := hb) (t := 3) (cs := (nums .i64 held).toArray) (by simp) a.toNat
              clear v0 v1 t0 t1 t2 t3 t4
              go_upto_region 38 with (fail)
              obtain ⟨wt, hwt, hPT⟩ : ∃ wt, wt = _ ∧ PL W wt g sb xb hb n (rf ++ [(a, b)]) (s2) (held.set a.toNat nn) (.slice ad9 (rf.length + 1) c9) A9 (R2 ++ R) b1 d1 b2 d2 b3 d3 := ⟨_, rfl, ⟨Arn.tuck (Arn.drop (L := ([(t6, .cells #[.int .i64 a, .int .i64 b] 33)] ++ (R2 ++ [cb db 35 #[.int .i64 0, .int .i64 nn, .int .i64 old, .int .i64 ri0, .int .i64 rq0]])) ++ (A9 ++ (cb xb 29 #[.slice b1 s2.n d1, .slice b2 s2.n d2, .slice b3 s2.back.length d3, .int .i64 s2.ever] :: cb hb 3 (nums .i64 (held.set a.toNat nn)).toArray :: R))) (by have := Arn.putM1 (X := ([(t6, .cells #[.int .i64 a, .int .i64 b] 33)] ++ (R2 ++ [cb db 35 #[.int .i64 0, .int .i64 nn, .int .i64 old, .int .i64 ri0, .int .i64 rq0]])) ++ A9) (by rw [List.append_assoc]; exact KA9.out) a.toNat (.int .i64 nn) (nums_put _ _ _); rw [List.append_assoc] at this; exact this) (by simp only [List.cons_append, List.nil_append, List.append_assoc]; exact List.Sublist.cons _ (List.Sublist.append_left (List.Sublist.cons _ (List.Sublist.refl _)) R2))), by have := KG9.out; simpa [refs] using this, HA2.out, take_n HP.out.len HS3.out, by rw [List.length_set]; exact HP.out.hlen, fun j h0 h1 ht => take_val HP.out.len HP.out.hlen HP.out.val HS3.out EA.out HI0.out HIN.out j h0 h1 ht⟩⟩
              rw [← hwt]
              have HT := Aside0.mk hPT
              clear hwt hPT q0 q1 y0 y1 y2 y3 y4 hb0 hf0

              obtain ⟨x0, x1, x2, x3, u0, u1, u2, u3⟩ := HT.out.arn.other.c4 xb 29 _ _ _ _ (List.mem_append_right _ List.mem_cons_self)
              clear u0 u1 u2 u3
              have hT2 : ∀ W' : World, Below wt.heap.size wt W' → W'.cell? ⟨xb, 0, none⟩ = _ ∧ W'.cell? ⟨xb, 1, none⟩ = _ ∧ W'.cell? ⟨xb, 2, none⟩ = _ ∧ W'.cell? ⟨xb, 3, none⟩ = _ := fun W' hb => ⟨pw_cell_below hb x0, pw_cell_below hb x1, pw_cell_below hb x2, pw_cell_below hb x3⟩
              have HT2 := Aside0.mk hT2
              have B0 := Aside0.mk (Below.refl wt.heap.size wt)
              clear hT2
              go_region_with (first
                | (go_at_call 26; refine (room.calls (by first | exact HT.out.arn.call (pw_below_drewN (Below.refl _ _) _) | exact HT.out.arn.drew | exact HT.out.arn | exact HT.out.arn.call BB.out)).mono ?_; rintro e8 w8 ⟨rfl, ⟨m8, rfl⟩⟩)
                | (go_at_call 27; refine (R16.room.calls (L := R2 ++ R) (HT.out.arn.other.right.tail.tail.call (by first | exact Below.refl _ _ | exact below_drew1 (Below.refl _ _) | exact pw_below_drewN (Below.refl _ _) _)) HT.out.rfa (HT.out.arn.ok.most)).mono ?_; rintro e9 w9 ⟨rfl, hb9⟩; have BB := Aside0.mk (show Below wt.heap.size wt w9 by first | exact hb9 | exact (below_drew1 (Below.refl _ _)).trans hb9 | exact (pw_below_drewN (Below.refl _ _) _).trans hb9); clear hb9))
              all_goals go_wp2_with fail
              all_goals go_roundg (l.length - (k + 1))
              all_goals first
                | omega
                | exact ⟨k + 1, rf ++ [(a, b)], s2, held.set a.toNat nn, A9, R2 ++ R, b1, d1, b2, d2, b3, d3, by go_num, rfl, hlt, by first | omega | (simp; omega), ⟨by first | exact HT.out.call BB.out | exact (HT.out.call BB.out).drewN _⟩⟩
          · have e0 : (kd == 0) = false := beq_eq_false_iff_ne.mpr k0
            by_cases k1 : kd = 1
            · subst k1
              cases hh : s.has ri rq with
              | true =>
                have hx := HP.out.val ri (Ar.has_lt hh).1 (by have := (Ar.has_lt hh).2.1; have := HP.out.len; omega) (Ar.has_lt hh).2.2.1
                go_wp2_with fail
                refine (K4.out.Get ri rq hh (held.getD ri.toNat 0) hx).mono ?_
                rintro e5 w5 ⟨rfl, h5⟩
                have K5 := Aside0.mk h5
                clear h5 hx
                clear y0 y1 y2 y3 y4 r0 r1
                obtain ⟨y0, y1, y2, y3, y4, t0, t1, t2, t3, t4⟩ := K5.out.other.c5 db 35 _ _ _ _ _ (List.mem_cons_of_mem _ List.mem_cons_self)
                obtain ⟨r0, r1, v0, v1⟩ := K5.out.other.c2 rb 33 _ _ List.mem_cons_self
                clear t0 t1 t2 t3 t4 v0 v1

                obtain ⟨i0, i1, i2, i3⟩ := Ar.has_lt hh
                have hin : ri < (n : Int) := by have := HP.out.len; omega
                have hb0 := K5.out.other.cell (g := hb) (t := 3) (cs := (nums .i64 held).toArray) (by simp) ri.toNat (v := .int .i64 (held.getD ri.toNat 0)) (by have := HP.out.hlen; simp [nums, List.getD_eq_getElem?_getD, show ri.toNat < held.length by omega])
                have hf0 := K5.out.other.frozen (g := hb) (t := 3) (cs := (nums .i64 held).toArray) (by simp) ri.toNat
                clear hf0 i2 i3
                generalize held.getD ri.toNat 0 = xx at hb0 ⊢
                have HH := Aside0.mk hh
                clear hh
                go_upto_region 38 with (fail)
                obtain ⟨wt, hwt, hPT⟩ : ∃ wt, wt = _ ∧ PL W wt g sb xb hb n (rf) (s) (held) (.slice ad7 rf.length c7) A (R) a1 c1 a2 c2 a3 c3 := ⟨_, rfl, ⟨K5.out.drop (List.Sublist.cons _ (List.Sublist.cons _ (List.Sublist.refl _))), HP.out.row, HP.out.rfa, HP.out.len, HP.out.hlen, HP.out.val⟩⟩
                rw [← hwt]
                have HT := Aside0.mk hPT
                clear hwt hPT y0 y1 y2 y3 y4 r0 r1 hb0

                obtain ⟨x0, x1, x2, x3, u0, u1, u2, u3⟩ := HT.out.arn.other.c4 xb 29 _ _ _ _ (List.mem_append_right _ List.mem_cons_self)
                clear u0 u1 u2 u3
                have hT2 : ∀ W' : World, Below wt.heap.size wt W' → W'.cell? ⟨xb, 0, none⟩ = _ ∧ W'.cell? ⟨xb, 1, none⟩ = _ ∧ W'.cell? ⟨xb, 2, none⟩ = _ ∧ W'.cell? ⟨xb, 3, none⟩ = _ := fun W' hb => ⟨pw_cell_below hb x0, pw_cell_below hb x1, pw_cell_below hb x2, pw_cell_below hb x3⟩
                have HT2 := Aside0.mk hT2
                have B0 := Aside0.mk (Below.refl wt.heap.size wt)
                clear hT2
                go_region_with (first
                  | (go_at_call 26; refine (room.calls (by first | exact HT.out.arn.call (pw_below_drewN (Below.refl _ _) _) | exact HT.out.arn.drew | exact HT.out.arn | exact HT.out.arn.call BB.out)).mono ?_; rintro e8 w8 ⟨rfl, ⟨m8, rfl⟩⟩)
                  | (go_at_call 27; refine (R16.room.calls (L := R) (HT.out.arn.other.right.tail.tail.call (by first | exact Below.refl _ _ | exact below_drew1 (Below.refl _ _) | exact pw_below_drewN (Below.refl _ _) _)) HT.out.rfa (HT.out.arn.ok.most)).mono ?_; rintro e9 w9 ⟨rfl, hb9⟩; have BB := Aside0.mk (show Below wt.heap.size wt w9 by first | exact hb9 | exact (below_drew1 (Below.refl _ _)).trans hb9 | exact (pw_below_drewN (Below.refl _ _) _).trans hb9); clear hb9))
                all_goals go_wp2_with fail
                all_goals go_roundg (l.length - (k + 1))
                all_goals first
                  | omega
                  | exact ⟨k + 1, rf, s, held, A, R, a1, c1, a2, c2, a3, c3, by go_num, rfl, hlt, by first | omega | (simp; omega), ⟨by first | exact HT.out.call BB.out | exact (HT.out.call BB.out).drewN _⟩⟩
              | false =>
                go_wp2_with fail
                refine (K4.out.GetNo ri rq hh).mono ?_
                rintro e5 w5 ⟨rfl, h5⟩
                have K5 := Aside0.mk h5
                clear h5
                clear y0 y1 y2 y3 y4 r0 r1
                obtain ⟨y0, y1, y2, y3, y4, t0, t1, t2, t3, t4⟩ := K5.out.other.c5 db 35 _ _ _ _ _ (List.mem_cons_of_mem _ List.mem_cons_self)
                obtain ⟨r0, r1, v0, v1⟩ := K5.out.other.c2 rb 33 _ _ List.mem_cons_self
                clear t0 t1 t2 t3 t4 v0 v1
                go_upto_region 38 with (fail)
                obtain ⟨wt, hwt, hPT⟩ : ∃ wt, wt = _ ∧ PL W wt g sb xb hb n (rf) (s) (held) (.slice ad7 rf.length c7) A (R) a1 c1 a2 c2 a3 c3 := ⟨_, rfl, ⟨K5.out.drop (List.Sublist.cons _ (List.Sublist.cons _ (List.Sublist.refl _))), HP.out.row, HP.out.rfa, HP.out.len, HP.out.hlen, HP.out.val⟩⟩
                rw [← hwt]
                have HT := Aside0.mk hPT
                clear hwt hPT y0 y1 y2 y3 y4 r0 r1

                obtain ⟨x0, x1, x2, x3, u0, u1, u2, u3⟩ := HT.out.arn.other.c4 xb 29 _ _ _ _ (List.mem_append_right _ List.mem_cons_self)
                clear u0 u1 u2 u3
                have hT2 : ∀ W' : World, Below wt.heap.size wt W' → W'.cell? ⟨xb, 0, none⟩ = _ ∧ W'.cell? ⟨xb, 1, none⟩ = _ ∧ W'.cell? ⟨xb, 2, none⟩ = _ ∧ W'.cell? ⟨xb, 3, none⟩ = _ := fun W' hb => ⟨pw_cell_below hb x0, pw_cell_below hb x1, pw_cell_below hb x2, pw_cell_below hb x3⟩
                have HT2 := Aside0.mk hT2
                have B0 := Aside0.mk (Below.refl wt.heap.size wt)
                clear hT2
                go_region_with (first
                  | (go_at_call 26; refine (room.calls (by first | exact HT.out.arn.call (pw_below_drewN (Below.refl _ _) _) | exact HT.out.arn.drew | exact HT.out.arn | exact HT.out.arn.call BB.out)).mono ?_; rintro e8 w8 ⟨rfl, ⟨m8, rfl⟩⟩)
                  | (go_at_call 27; refine (R16.room.calls (L := R) (HT.out.arn.other.right.tail.tail.call (by first | exact Below.refl _ _ | exact below_drew1 (Below.refl _ _) | exact pw_below_drewN (Below.refl _ _) _)) HT.out.rfa (HT.out.arn.ok.most)).mono ?_; rintro e9 w9 ⟨rfl, hb9⟩; have BB := Aside0.mk (show Below wt.heap.size wt w9 by first | exact hb9 | exact (below_drew1 (Below.refl _ _)).trans hb9 | exact (pw_below_drewN (Below.refl _ _) _).trans hb9); clear hb9))
                all_goals go_wp2_with fail
                all_goals go_roundg (l.length - (k + 1))
                all_goals first
                  | omega
                  | exact ⟨k + 1, rf, s, held, A, R, a1, c1, a2, c2, a3, c3, by go_num, rfl, hlt, by first | omega | (simp; omega), ⟨by first | exact HT.out.call BB.out | exact (HT.out.call BB.out).drewN _⟩⟩
            · have e1 : (kd == 1) = false := beq_eq_false_iff_ne.mpr k1
              by_cases k2 : kd = 2
              · subst k2
                cases hh : s.has ri rq with
                | true =>
                  go_wp2_with fail
                  refine (K4.out.Set ri rq nn (b := true) (s' := s.put ri [.int .i64 nn]) hh (by simp [Ar.set, hh])).mono ?_
                  rintro e5 w5 ⟨rfl, h5⟩
                  have K5 := Aside0.mk h5
                  clear h5
                  clear y0 y1 y2 y3 y4 r0 r1
                  obtain ⟨y0, y1, y2, y3, y4, t0, t1, t2, t3, t4⟩ := K5.out.other.c5 db 35 _ _ _ _ _ (List.mem_cons_of_mem _ List.mem_cons_self)
                  obtain ⟨r0, r1, v0, v1⟩ := K5.out.other.c2 rb 33 _ _ List.mem_cons_self
                  clear t0 t1 t2 t3 t4 v0 v1

                  obtain ⟨i0, i1, i2, i3⟩ := Ar.has_lt hh
                  have hin : ri < (n : Int) := by have := HP.out.len; omega
                  have hb0 := K5.out.other.cell (g := hb) (t := 3) (cs := (nums .i64 held).toArray) (by simp) ri.toNat (v := .int .i64 (held.getD ri.toNat 0)) (by have := HP.out.hlen; simp [nums, List.getD_eq_getElem?_getD, show ri.toNat < held.length by omega])
                  have hf0 := K5.out.other.frozen (g := hb) (t := 3) (cs := (nums .i64 held).toArray) (by simp) ri.toNat
                  clear i2 i3
                  have eN : (s.put ri [.int .i64 nn]).n = s.n := by simp [Ar.n, Ar.put]
                  have EN := Aside0.mk eN
                  have HH := Aside0.mk hh
                  clear hh eN
                  go_upto_region 38 with (fail)
                  have eN := EN.out
                  obtain ⟨wt, hwt, hPT⟩ : ∃ wt, wt = _ ∧ PL W wt g sb xb hb n (rf) (s.put ri [.int .i64 nn]) (held.set ri.toNat nn) (.slice ad7 rf.length c7) A (R) a1 c1 a2 c2 a3 c3 := ⟨_, rfl, ⟨by rw [eN]; exact Arn.putM1 (K5.out.drop (List.Sublist.cons _ (List.Sublist.cons _ (List.Sublist.refl _)))) ri.toNat (.int .i64 nn) (nums_put _ _ _), HP.out.row, ⟨by rw [eN, gens_put s HH.out]; exact HP.out.rfa.g, by rw [eN, tks_put s HH.out]; exact HP.out.rfa.t, HP.out.rfa.b⟩, by rw [eN]; exact HP.out.len, by rw [List.length_set]; exact HP.out.hlen, fun j h0 h1 ht => put_val HP.out.len HP.out.hlen HP.out.val HH.out nn j h0 h1 ht⟩⟩
                  rw [← hwt]
                  have HT := Aside0.mk hPT
                  clear hwt hPT y0 y1 y2 y3 y4 r0 r1 hb0 hf0 eN

                  obtain ⟨x0, x1, x2, x3, u0, u1, u2, u3⟩ := HT.out.arn.other.c4 xb 29 _ _ _ _ (List.mem_append_right _ List.mem_cons_self)
                  clear u0 u1 u2 u3
                  have hT2 : ∀ W' : World, Below wt.heap.size wt W' → W'.cell? ⟨xb, 0, none⟩ = _ ∧ W'.cell? ⟨xb, 1, none⟩ = _ ∧ W'.cell? ⟨xb, 2, none⟩ = _ ∧ W'.cell? ⟨xb, 3, none⟩ = _ := fun W' hb => ⟨pw_cell_below hb x0, pw_cell_below hb x1, pw_cell_below hb x2, pw_cell_below hb x3⟩
                  have HT2 := Aside0.mk hT2
                  have B0 := Aside0.mk (Below.refl wt.heap.size wt)
                  clear hT2
                  go_region_with (first
                    | (go_at_call 26; refine (room.calls (by first | exact HT.out.arn.call (pw_below_drewN (Below.refl _ _) _) | exact HT.out.arn.drew | exact HT.out.arn | exact HT.out.arn.call BB.out)).mono ?_; rintro e8 w8 ⟨rfl, ⟨m8, rfl⟩⟩)
                    | (go_at_call 27; refine (R16.room.calls (L := R) (HT.out.arn.other.right.tail.tail.call (by first | exact Below.refl _ _ | exact below_drew1 (Below.refl _ _) | exact pw_below_drewN (Below.refl _ _) _)) HT.out.rfa (HT.out.arn.ok.most)).mono ?_; rintro e9 w9 ⟨rfl, hb9⟩; have BB := Aside0.mk (show Below wt.heap.size wt w9 by first | exact hb9 | exact (below_drew1 (Below.refl _ _)).trans hb9 | exact (pw_below_drewN (Below.refl _ _) _).trans hb9); clear hb9))
                  all_goals go_wp2_with fail
                  all_goals go_roundg (l.length - (k + 1))
                  all_goals first
                    | omega
                    | exact ⟨k + 1, rf, s.put ri [.int .i64 nn], held.set ri.toNat nn, A, R, a1, c1, a2, c2, a3, c3, by go_num, rfl, hlt, by first | omega | (simp; omega), ⟨by first | exact HT.out.call BB.out | exact (HT.out.call BB.out).drewN _⟩⟩
                | false =>
                  go_wp2_with fail
                  refine (K4.out.Set ri rq nn (b := false) (s' := s) hh (by simp [Ar.set, hh])).mono ?_
                  rintro e5 w5 ⟨rfl, h5⟩
                  have K5 := Aside0.mk h5
                  clear h5
                  clear y0 y1 y2 y3 y4 r0 r1
                  obtain ⟨y0, y1, y2, y3, y4, t0, t1, t2, t3, t4⟩ := K5.out.other.c5 db 35 _ _ _ _ _ (List.mem_cons_of_mem _ List.mem_cons_self)
                  obtain ⟨r0, r1, v0, v1⟩ := K5.out.other.c2 rb 33 _ _ List.mem_cons_self
                  clear t0 t1 t2 t3 t4 v0 v1
                  go_upto_region 38 with (fail)
                  obtain ⟨wt, hwt, hPT⟩ : ∃ wt, wt = _ ∧ PL W wt g sb xb hb n (rf) (s) (held) (.slice ad7 rf.length c7) A (R) a1 c1 a2 c2 a3 c3 := ⟨_, rfl, ⟨K5.out.drop (List.Sublist.cons _ (List.Sublist.cons _ (List.Sublist.refl _))), HP.out.row, HP.out.rfa, HP.out.len, HP.out.hlen, HP.out.val⟩⟩
                  rw [← hwt]
                  have HT := Aside0.mk hPT
                  clear hwt hPT y0 y1 y2 y3 y4 r0 r1

                  obtain ⟨x0, x1, x2, x3, u0, u1, u2, u3⟩ := HT.out.arn.other.c4 xb 29 _ _ _ _ (List.mem_append_right _ List.mem_cons_self)
                  clear u0 u1 u2 u3
                  have hT2 : ∀ W' : World, Below wt.heap.size wt W' → W'.cell? ⟨xb, 0, none⟩ = _ ∧ W'.cell? ⟨xb, 1, none⟩ = _ ∧ W'.cell? ⟨xb, 2, none⟩ = _ ∧ W'.cell? ⟨xb, 3, none⟩ = _ := fun W' hb => ⟨pw_cell_below hb x0, pw_cell_below hb x1, pw_cell_below hb x2, pw_cell_below hb x3⟩
                  have HT2 := Aside0.mk hT2
                  have B0 := Aside0.mk (Below.refl wt.heap.size wt)
                  clear hT2
                  go_region_with (first
                    | (go_at_call 26; refine (room.calls (by first | exact HT.out.arn.call (pw_below_drewN (Below.refl _ _) _) | exact HT.out.arn.drew | exact HT.out.arn | exact HT.out.arn.call BB.out)).mono ?_; rintro e8 w8 ⟨rfl, ⟨m8, rfl⟩⟩)
                    | (go_at_call 27; refine (R16.room.calls (L := R) (HT.out.arn.other.right.tail.tail.call (by first | exact Below.refl _ _ | exact below_drew1 (Below.refl _ _) | exact pw_below_drewN (Below.refl _ _) _)) HT.out.rfa (HT.out.arn.ok.most)).mono ?_; rintro e9 w9 ⟨rfl, hb9⟩; have BB := Aside0.mk (show Below wt.heap.size wt w9 by first | exact hb9 | exact (below_drew1 (Below.refl _ _)).trans hb9 | exact (pw_below_drewN (Below.refl _ _) _).trans hb9); clear hb9))
                  all_goals go_wp2_with fail
                  all_goals go_roundg (l.length - (k + 1))
                  all_goals first
                    | omega
                    | exact ⟨k + 1, rf, s, held, A, R, a1, c1, a2, c2, a3, c3, by go_num, rfl, hlt, by first | omega | (simp; omega), ⟨by first | exact HT.out.call BB.out | exact (HT.out.call BB.out).drewN _⟩⟩
              · have e2 : (kd == 2) = false := beq_eq_false_iff_ne.mpr k2
                by_cases k3 : kd = 3
                · subst k3
                  obtain ⟨bb, hh⟩ : ∃ bb, s.has ri rq = bb := ⟨_, rfl⟩
                  obtain ⟨s2, hs2⟩ : ∃ s2, s.free ri rq [.int .i64 0] = s2 := ⟨_, rfl⟩
                  have HH := Aside0.mk hh
                  have HS2 := Aside0.mk hs2

                  obtain ⟨x0, x1, x2, x3, u0, u1, u2, u3⟩ := K4.out.other.c4 xb 29 (.slice a1 s.n c1) (.slice a2 s.n c2) (.slice a3 s.back.length c3) (.int .i64 s.ever) (by simp)
                  clear u0 u1 u2 u3

                  clear hh hs2
                  go_wp2_with fail
                  refine (rFree (L := R) (K4.out.other.tail.tail.right.tail.tail) HP.out.rfa HP.out.arn.ok ri rq [.int .i64 0] (b := bb) (s' := s2) HH.out HS2.out).mono ?_
                  rintro e5 w5 ⟨b1, d1, b2, d2, b3, d3, R2, rfl, hR2, hA2⟩
                  have HA2 := Aside0.mk hA2
                  have K5 := Aside0.mk ((K4.out.join hR2).alloc (.cells #[.slice b1 s2.n d1, .slice b2 s2.n d2, .slice b3 s2.back.length d3, .int .i64 s2.ever] 29))
                  clear hR2 hA2 x0 x1 x2 x3 y0 y1 y2 y3 y4 r0 r1
                  obtain ⟨x0, x1, x2, x3, u0, u1, u2, u3⟩ := K5.out.other.c4 xb 29 (.slice a1 s.n c1) (.slice a2 s.n c2) (.slice a3 s.back.length c3) (.int .i64 s.ever) (by simp)
                  obtain ⟨r0, r1, v0, v1⟩ := K5.out.other.c2 rb 33 (.int .i64 ri) (.int .i64 rq) (by simp)
                  obtain ⟨j1, j2⟩ : ¬ w5.heap.size = xb ∧ ¬ rb = xb := by
                    have h1 := K5.out.other.nod
                    simp only [List.map_cons, List.map_append, List.nodup_cons, List.mem_append, List.mem_cons, not_or] at h1
                    have h2 := (List.nodup_append.1 h1.2).2.1
                    simp only [List.nodup_cons, List.mem_append, List.mem_cons, not_or] at h2
                    exact ⟨h1.1.2.2.2.2.1, h2.1.2.2.1⟩
                  clear v0 v1
                  go_upto_region 36 with (fail)
                  obtain ⟨w6, hw6, k6⟩ : ∃ w6, w6 = _ ∧ Arn W w6 g sb s ((w5.heap.size, .cells #[.slice b1 s2.n d1, .slice b2 s2.n d2, .slice b3 s2.back.length d3, .int .i64 s2.ever] 29) :: (R2 ++ (cb rb 33 #[.int .i64 ri, .int .i64 rq] :: cb db 35 #[.int .i64 3, .int .i64 nn, .int .i64 old, .int .i64 ri0, .int .i64 rq0] :: (A ++ (cb xb 29 #[.slice b1 s2.n d1, .slice b2 s2.n d2, .slice b3 s2.back.length d3, .int .i64 s2.ever] :: cb hb 3 (nums .i64 held).toArray :: R))))) := by
                    have h1 := K5.out
                    have e : ∀ (z : Ob) (Y : List Ob), (w5.heap.size, Obj.cells #[.slice b1 s2.n d1, .slice b2 s2.n d2, .slice b3 s2.back.length d3, .int .i64 s2.ever] 29) :: (R2 ++ (cb rb 33 #[.int .i64 ri, .int .i64 rq] :: cb db 35 #[.int .i64 3, .int .i64 nn, .int .i64 old, .int .i64 ri0, .int .i64 rq0] :: (A ++ (z :: Y)))) = ((w5.heap.size, Obj.cells #[.slice b1 s2.n d1, .slice b2 s2.n d2, .slice b3 s2.back.length d3, .int .i64 s2.ever] 29) :: (R2 ++ (cb rb 33 #[.int .i64 ri, .int .i64 rq] :: cb db 35 #[.int .i64 3, .int .i64 nn, .int .i64 old, .int .i64 ri0, .int .i64 rq0] :: A))) ++ (z :: Y) := fun z Y => by simp
                    rw [e] at h1
                    have h2 := (((h1.putM 0 (.slice b1 s2.n d1) rfl).putM 1 (.slice b2 s2.n d2) rfl).putM 2 (.slice b3 s2.back.length d3) rfl).putM 3 (.int .i64 s2.ever) rfl
                    rw [← e] at h2
                    exact ⟨_, rfl, h2⟩
                  rw [← hw6]
                  have K6 := Aside0.mk k6
                  clear hw6 k6 x0 x1 x2 x3 u0 u1 u2 u3 r0 r1 j1 j2
                  obtain ⟨r0, r1, v0, v1⟩ := K6.out.other.c2 rb 33 (.int .i64 ri) (.int .i64 rq) (by simp)
                  clear v0 v1
                  go_wp2_with fail
                  refine (K6.out.Free ri rq HH.out HS2.out).mono ?_
                  rintro e7 w7 ⟨rfl, h7⟩
                  have K7 := Aside0.mk h7
                  clear h7 r0 r1
                  go_upto_region 38 with (fail)

                  obtain ⟨wt, hwt, hPT⟩ : ∃ wt, wt = _ ∧ PL W wt g sb xb hb n (rf) (s2) (held) (.slice ad7 rf.length c7) A (R2 ++ R) b1 d1 b2 d2 b3 d3 := ⟨_, rfl, ⟨Arn.tuck (K7.out.drop (List.Sublist.cons _ (List.Sublist.append_left (List.Sublist.cons _ (List.Sublist.cons _ (List.Sublist.refl _))) R2))), HP.out.row, HA2.out, free_n HP.out.len HS2.out, HP.out.hlen, fun j h0 h1 ht => free_val HP.out.len HP.out.val HS2.out j h0 h1 ht⟩⟩
                  rw [← hwt]
                  have HT := Aside0.mk hPT
                  clear hwt hPT 

                  obtain ⟨x0, x1, x2, x3, u0, u1, u2, u3⟩ := HT.out.arn.other.c4 xb 29 _ _ _ _ (List.mem_append_right _ List.mem_cons_self)
                  clear u0 u1 u2 u3
                  have hT2 : ∀ W' : World, Below wt.heap.size wt W' → W'.cell? ⟨xb, 0, none⟩ = _ ∧ W'.cell? ⟨xb, 1, none⟩ = _ ∧ W'.cell? ⟨xb, 2, none⟩ = _ ∧ W'.cell? ⟨xb, 3, none⟩ = _ := fun W' hb => ⟨pw_cell_below hb x0, pw_cell_below hb x1, pw_cell_below hb x2, pw_cell_below hb x3⟩
                  have HT2 := Aside0.mk hT2
                  have B0 := Aside0.mk (Below.refl wt.heap.size wt)
                  clear hT2
                  go_region_with (first
                    | (go_at_call 26; refine (room.calls (by first | exact HT.out.arn.call (pw_below_drewN (Below.refl _ _) _) | exact HT.out.arn.drew | exact HT.out.arn | exact HT.out.arn.call BB.out)).mono ?_; rintro e8 w8 ⟨rfl, ⟨m8, rfl⟩⟩)
                    | (go_at_call 27; refine (R16.room.calls (L := R2 ++ R) (HT.out.arn.other.right.tail.tail.call (by first | exact Below.refl _ _ | exact below_drew1 (Below.refl _ _) | exact pw_below_drewN (Below.refl _ _) _)) HT.out.rfa (HT.out.arn.ok.most)).mono ?_; rintro e9 w9 ⟨rfl, hb9⟩; have BB := Aside0.mk (show Below wt.heap.size wt w9 by first | exact hb9 | exact (below_drew1 (Below.refl _ _)).trans hb9 | exact (pw_below_drewN (Below.refl _ _) _).trans hb9); clear hb9))
                  all_goals go_wp2_with fail
                  all_goals go_roundg (l.length - (k + 1))
                  all_goals first
                    | omega
                    | exact ⟨k + 1, rf, s2, held, A, R2 ++ R, b1, d1, b2, d2, b3, d3, by go_num, rfl, hlt, by first | omega | (simp; omega), ⟨by first | exact HT.out.call BB.out | exact (HT.out.call BB.out).drewN _⟩⟩
                · have e3 : (kd == 3) = false := beq_eq_false_iff_ne.mpr k3
                  go_upto_region 38 with (fail)

                  obtain ⟨wt, hwt, hPT⟩ : ∃ wt, wt = _ ∧ PL W wt g sb xb hb n (rf) (s) (held) (.slice ad7 rf.length c7) A (R) a1 c1 a2 c2 a3 c3 := ⟨_, rfl, ⟨K4.out.drop (List.Sublist.cons _ (List.Sublist.cons _ (List.Sublist.refl _))), HP.out.row, HP.out.rfa, HP.out.len, HP.out.hlen, HP.out.val⟩⟩
                  rw [← hwt]
                  have HT := Aside0.mk hPT
                  clear hwt hPT y0 y1 y2 y3 y4 r0 r1

                  obtain ⟨x0, x1, x2, x3, u0, u1, u2, u3⟩ := HT.out.arn.other.c4 xb 29 _ _ _ _ (List.mem_append_right _ List.mem_cons_self)
                  clear u0 u1 u2 u3
                  have hT2 : ∀ W' : World, Below wt.heap.size wt W' → W'.cell? ⟨xb, 0, none⟩ = _ ∧ W'.cell? ⟨xb, 1, none⟩ = _ ∧ W'.cell? ⟨xb, 2, none⟩ = _ ∧ W'.cell? ⟨xb, 3, none⟩ = _ := fun W' hb => ⟨pw_cell_below hb x0, pw_cell_below hb x1, pw_cell_below hb x2, pw_cell_below hb x3⟩
                  have HT2 := Aside0.mk hT2
                  have B0 := Aside0.mk (Below.refl wt.heap.size wt)
                  clear hT2
                  go_region_with (first
                    | (go_at_call 26; refine (room.calls (by first | exact HT.out.arn.call (pw_below_drewN (Below.refl _ _) _) | exact HT.out.arn.drew | exact HT.out.arn | exact HT.out.arn.call BB.out)).mono ?_; rintro e8 w8 ⟨rfl, ⟨m8, rfl⟩⟩)
                    | (go_at_call 27; refine (R16.room.calls (L := R) (HT.out.arn.other.right.tail.tail.call (by first | exact Below.refl _ _ | exact below_drew1 (Below.refl _ _) | exact pw_below_drewN (Below.refl _ _) _)) HT.out.rfa (HT.out.arn.ok.most)).mono ?_; rintro e9 w9 ⟨rfl, hb9⟩; have BB := Aside0.mk (show Below wt.heap.size wt w9 by first | exact hb9 | exact (below_drew1 (Below.refl _ _)).trans hb9 | exact (pw_below_drewN (Below.refl _ _) _).trans hb9); clear hb9))
                  all_goals go_wp2_with fail
                  all_goals go_roundg (l.length - (k + 1))
                  all_goals first
                    | omega
                    | exact ⟨k + 1, rf, s, held, A, R, a1, c1, a2, c2, a3, c3, by go_num, rfl, hlt, by first | omega | (simp; omega), ⟨by first | exact HT.out.call BB.out | exact (HT.out.call BB.out).drewN _⟩⟩
        · have hge : ¬ (k : Int) < (l.length : Int) := by omega
          have hlv : s.live.length ≤ 100000 := by
            have h1 : s.live.length = s.held := live_len _ _
            have h2 := s.held_le
            have h3 := HP.out.arn.ok.most
            omega
          have HLV := Aside0.mk hlv
          obtain ⟨x0, x1, x2, x3, u0, u1, u2, u3⟩ := HP.out.arn.other.c4 xb 29 (.slice a1 s.n c1) (.slice a2 s.n c2) (.slice a3 s.back.length c3) (.int .i64 s.ever) (by simp)
          clear u0 u1 u2 u3 hlv
          have hT2 : ∀ W' : World, Below wr.heap.size wr W' → W'.cell? ⟨xb, 0, none⟩ = _ ∧ W'.cell? ⟨xb, 1, none⟩ = _ ∧ W'.cell? ⟨xb, 2, none⟩ = _ ∧ W'.cell? ⟨xb, 3, none⟩ = _ := fun W' hb => ⟨pw_cell_below hb x0, pw_cell_below hb x1, pw_cell_below hb x2, pw_cell_below hb x3⟩
          have HT2 := Aside0.mk hT2
          clear hT2
          go_upto_region 40 with (fail)
          go_region_with (first
            | (go_at_call 29; refine (live.calls (by first | exact HP.out.arn.drew | exact HP.out.arn.call BB9.out | exact HP.out.arn)).mono ?_; rintro e8 w8 ⟨ad8, cc8, A8, rfl, hg8, hv8⟩; have G8 := Aside0.mk hg8; have V8 := Aside0.mk hv8; have BB8 := Aside0.mk (show Below wr.heap.size wr w8 by first | exact below_step (below_drew1 (Below.refl _ _)) hv8.bel | exact below_step BB9.out hv8.bel | exact hv8.bel); obtain ⟨xx0, xx1, xx2, xx3⟩ := HT2.out w8 BB8.out; clear hg8 hv8)
            | (go_at_call 30; refine (R16.live.calls (L := R) (HP.out.arn.other.right.tail.tail.call (by first | exact below_drew1 (Below.refl _ _) | exact BB8.out | exact Below.refl _ _)) HP.out.rfa (HP.out.arn.ok.most)).mono ?_; rintro e9 w9 ⟨ad9, cc9, A9, rfl, hg9, hv9⟩; have G9 := Aside0.mk hg9; have V9 := Aside0.mk hv9; have BB9 := Aside0.mk (show Below wr.heap.size wr w9 by first | exact below_step (below_drew1 (Below.refl _ _)) hv9.bel | exact below_step BB8.out hv9.bel | exact hv9.bel); clear hg9 hv9)
            | (go_at_call 28; refine (R16.refs.calls s.live HLV.out (by first | exact V8.out.join V9.out | exact V9.out.join V8.out) ((Rw.of_gr G8.out).mono (fun p hp => by simp [hp])) ((Rw.of_gr G9.out).mono (fun p hp => by simp [hp]))).mono ?_; rintro e10 w10 ⟨rfl, ⟨m10, rfl⟩⟩)
            | (go_at_call 15; refine (awake.calls _).mono ?_; rintro e11 w11 ⟨rfl, hb11⟩))
          all_goals go_wp2_with fail
          all_goals exact bodyPost_ret (v := .bool true) (by simp [results, Try.results3, go_sem]) rfl ⟨rfl, by first | exact below_then HP.out.arn.bel HP.out.arn.bel.size (below_step (pw_below_drewN BB9.out _) hb11) | exact below_then HP.out.arn.bel HP.out.arn.bel.size (below_step (pw_below_drewN BB8.out _) hb11)⟩
end Go.Proofs.Ytglbcfkmaamhaaa.ArI
