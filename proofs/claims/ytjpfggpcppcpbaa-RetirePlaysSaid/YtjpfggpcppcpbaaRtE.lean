/- retire.List: All. No condition. -/
import Derived.Test.YtjpfggpcppcpbaaRtB
import Derived.Test.YtjpfggpcppcpbaaShelf
import Derived.Sort.OwnSortedInts
set_option linter.unusedVariables false
set_option linter.unusedSimpArgs false
namespace Go.Proofs.Ytjpfggpcppcpbaa.Rt
open Go Go.RowKit Go.MapKept Go.Proofs.YtjpfggpcppcpbaaW.PrintWords Go.Proofs.YtjpfggpcppcpbaaW.PrintLast Go.Proofs.YtjpfggpcppcpbaaW.PrintMore Go.Proofs.Ytjpfggpcppcpbaa.Hv Go.Proofs.Ytjpfggpcppcpbaa.Mp
open Go.Sort (Holds grow putRow)
variable {w0 w w1 : World} {g m : Nat} {s : Ls} {L L' : List Ob}

def ints (l : List Int) : List Value := l.map (Value.int .i64)
def keys (q : List Et) : List Int := q.map (fun p => (p.1 : Int))
def cels (q : List Et) : List Value := q.flatMap (fun p => cel p.2)
theorem info3 : (Try.prog.info? 3).map (fun i => (i.zero, i.size, i.bytes)) = some (some (.int .i64 0), 1, 8) := by kernel_rfl
theorem info30 : (Try.prog.info? 30).map (fun i => (i.zero, i.size, i.bytes)) = some (some (.agg #[.bool false, .int .i64 0, .int .i64 0, .int .i64 0]), 4, 32) := by kernel_rfl
theorem ints_one (l : List Int) : ∀ u ∈ ints l, u.oneCell' = true := by
  intro u hu
  obtain ⟨x, _, rfl⟩ := List.mem_map.1 hu
  rfl
/-- The sort of a row of one's own. -/
theorem sort.calls {v : Value} {n : Nat} {ks : List Int} {A : List Ob} (hn : ks.length = n) (hk : ks.length ≤ 1000000) (hG : Gr 3 1 v n (ints ks) A) (hv : Hv w0 w (A ++ L)) :
    Calls Try.prog 15 #[v] w fun e w' => e = .returned (.tuple #[]) ∧ ∃ A', Gr 3 1 v n (ints (ks.mergeSort fun x y => decide (x ≤ y))) A' ∧ Hv w0 w' (A' ++ L) := by
  obtain ⟨ad, c, rfl, hnc⟩ := hG.form
  by_cases h0 : n = 0
  · subst h0
    have : ks = [] := List.length_eq_zero_iff.1 hn
    subst this
    refine (Try.slices_Sort_int_none ad c w).mono ?_
    rintro e w' ⟨rfl, rfl⟩
    exact ⟨rfl, A, by simpa using hG, hv⟩
  · obtain ⟨g1, cur, rfl, rfl, h1, h2, h3, h4⟩ := hG.addr (by omega)
    have hb := hv.box (cb g1 3 cur) (by simp)
    have ht : cur.toList.take ks.length = ks.map (Value.int .i64) := by
      apply List.ext_getElem?
      intro i
      by_cases hi : i < ks.length
      · rw [List.getElem?_take_of_lt hi, Array.getElem?_toList]
        exact h4 i (by omega)
      · rw [List.getElem?_eq_none (by simp; omega), List.getElem?_eq_none (by simp; omega)]
    subst hn
    refine (Try.slices_Sort_int g1 0 c ks w (holds_of_blockI hb ht) (hv.lt (cb g1 3 cur) (by simp)) (by omega)).mono ?_
    rintro e w' ⟨rfl, n1, os, rfl⟩
    refine ⟨rfl, ?_⟩
    have hs := ownsRow_sortedI (n := n1) (os := os) (ts := ks.mergeSort fun x y => decide (x ≤ y)) (by simp) (hv.new (cb g1 3 cur) (by simp)) hb h2 h3 (by omega)
    exact hG.step hv hs (grownBy_sortedI _) (.inl rfl)
theorem keys_sorted {q : List Et} {ks : List Int} (hq : (q.map Prod.fst).Pairwise (· < ·)) (hp : ks.Perm (keys q)) : ks.mergeSort (fun x y => decide (x ≤ y)) = keys q := by
  have h1 : (ks.mergeSort (fun x y => decide (x ≤ y))).Perm (keys q) := (List.mergeSort_perm _ _).trans hp
  have h2 : (ks.mergeSort (fun x y => decide (x ≤ y))).Pairwise (fun x y => x ≤ y) := by
    have := List.pairwise_mergeSort (le := fun (x y : Int) => decide (x ≤ y)) (fun a b c h1 h2 => by simp at *; omega) (fun a b => by simp; omega) ks
    exact this.imp (fun h => by simpa using h)
  have h3 : (keys q).Pairwise (fun x y => x ≤ y) := by
    unfold keys
    rw [List.pairwise_map] at hq ⊢
    exact hq.imp (fun h => by omega)
  exact h1.eq_of_pairwise (fun a b _ _ h1 h2 => by omega) h2 h3
theorem cels_take (q : List Et) (k : Nat) {p : Et} (h : q[k]? = some p) : cels (q.take (k + 1)) = cels (q.take k) ++ cel p.2 := by
  unfold cels
  rw [List.take_add_one, h, Option.toList_some, List.flatMap_append]
  simp
theorem Hv.rotA {w0 w : World} {A L : List Ob} {x : Ob} (h : Hv w0 w (A ++ (x :: L))) : Hv w0 w (x :: (A ++ L)) := h.perm List.perm_middle.symm
theorem Hv.unrotA {w0 w : World} {A L : List Ob} {x : Ob} (h : Hv w0 w (x :: (A ++ L))) : Hv w0 w (A ++ (x :: L)) := h.perm List.perm_middle
theorem Hv.dropAt {w0 w : World} {A B L : List Ob} {x : Ob} (h : Hv w0 w (A ++ (x :: L))) : Hv w0 w (A ++ L) := h.drop (List.Sublist.append_left (List.sublist_cons_self _ _) _)

def AllP (w0 : World) (g m : Nat) (s : Ls) (L : List Ob) (e : Ending) (w' : World) : Prop :=
  ∃ ad c A, e = .returned (.slice ad s.q.length c) ∧ Gr 30 4 (.slice ad s.q.length c) s.q.length (cels s.q) A ∧ Rtn w0 w' g m s (A ++ L)

set_option maxHeartbeats 8000000 in
set_option maxRecDepth 100000 in
theorem all.calls (h : Rtn w0 w g m s L) (hlen : s.q.length ≤ 100000) : Calls Try.prog 14 #[.pointer (some ⟨g, 0, none⟩)] w (AllP w0 g m s L) := by
  have hu47 := Try.underlying47
  have hu45 := Try.underlying45
  have hu30 := Try.underlying30
  have hu48 := Try.underlying48
  have hu22 := Try.underlying22
  obtain ⟨om, h1, h2, h3⟩ := h
  have H2 := Aside0.mk h2
  have H3 := Aside0.mk h3
  obtain ⟨c0, c1, f0, f1⟩ := h1.c2 g 47 (.map (some m)) (.int .i64 (s.ever : Int)) (by simp)
  have HH := Aside0.mk h1
  have HLN := Aside0.mk hlen
  clear h1 h2 h3 hlen
  go_enter Try.func14, Try.ntmps14
  go_wp2_with (at_range; refine range_at rfl _ rfl Try.underlying45 HH.out (om := om) (b := m) (by simp) H2.out rfl ?_; intro r oi w1 hI h1)
  have HI := Aside0.mk hI
  have H1 := Aside0.mk h1
  clear hI h1 f0 f1
  go_frame
  go_loopg [3] s.q.length (fun kq v3 wr => ∃ (left : List Et) (ks : List Int) (A : List Ob) (oi : Obj), kq = left.length ∧ ks.length + left.length = s.q.length ∧ (ks ++ keys left).Perm (keys s.q) ∧ Gr 3 1 v3 ks.length (ints ks) A ∧ Aside0 (HasI om oi m s left) ∧ Aside0 (Hv w0 wr (A ++ ((r, oi) :: cb g 47 #[.map (some m), .int .i64 (s.ever : Int)] :: (m, om) :: L))))
  case atStart => exact ⟨s.q, [], [], oi, rfl, by simp, List.Perm.refl _, Gr.nil _ _, ⟨HI.out⟩, ⟨H1.out⟩⟩
  case round =>
    obtain ⟨left, ks, A, oi1, rfl, hkl, hp, hG, HI1, HV⟩ := hrel
    have HP := Aside0.mk hp
    have HG := Aside0.mk hG
    have HKL := Aside0.mk hkl
    obtain ⟨ad, c, rfl, hnc⟩ := hG.form
    clear hp HI H1 oi c0 c1 hG hkl hnc
    cases left with
    | nil =>
      obtain ⟨c0, c1, f0, f1⟩ := HV.out.c2 g 47 (.map (some m)) (.int .i64 (s.ever : Int)) (by simp)
      have hks : ks.Perm (keys s.q) := by simpa [keys] using HP.out
      have hkl : ks.length = s.q.length := by simpa using HKL.out
      have hv1 := Hv.rotA HV.out
      go_wp2_with (at_next; refine next_none rfl _ rfl (Hv.rotA HV.out) (b := m) (om := om) (by simp) 0 rfl HI1.out rfl ?_)
      refine (sort.calls (v := .slice ad s.q.length c) (n := s.q.length) (ks := ks) hkl (by have := HLN.out; omega) (by have := HG.out; rw [hkl] at this; exact this) HV.out).mono ?_
      rintro e2 w2 ⟨rfl, A2, hG2, hv2⟩
      rw [keys_sorted H3.out.asc hks] at hG2
      have HG2 := Aside0.mk hG2
      have HV2 := Aside0.mk hv2
      clear hG2 hv2 c0 c1 f0 f1 hv1 hks hkl
      go_wp2_with fail
      go_loopg [5, 27] s.q.length (fun kq v5 v27 wq => ∃ (k : Nat) (B : List Ob), v27 = .int .i64 (k : Int) ∧ kq = s.q.length - k ∧ k ≤ s.q.length ∧ Gr 30 4 v5 k (cels (s.q.take k)) B ∧ Aside0 (Hv w0 wq (B ++ (A2 ++ ((r, oi1) :: cb g 47 #[.map (some m), .int .i64 (s.ever : Int)] :: (m, om) :: L)))))
      case atStart => exact ⟨0, [], rfl, rfl, Nat.zero_le _, Gr.nil _ _, ⟨HV2.out⟩⟩
      case round =>
        obtain ⟨k, B, rfl, rfl, hk, hB, HB⟩ := hrel
        obtain ⟨ad5, c5, rfl, hn5⟩ := hB.form
        have HGB := Aside0.mk hB
        clear hB HV HV2 hn5
        have hk7 : k ≤ 100000 := by have := HLN.out; omega
        by_cases hlt : k < s.q.length
        · have hlt' : (k : Int) < (s.q.length : Int) := by omega
          obtain ⟨g1, cur, e1, rfl, q1, q2, q3, q4⟩ := HG2.out.addr (by omega)
          cases e1
          obtain ⟨⟨key, b, x0, x1, x2⟩, hd⟩ : ∃ d, s.q[k]? = some d := ⟨_, List.getElem?_eq_getElem hlt⟩
          have z0 := HB.out.cell (g := g1) (t := 3) (cs := cur) (by simp) k ((q4 k (by omega)).trans (by simp [ints, keys, hd] : _ = some (Value.int .i64 (key : Int))))
          obtain ⟨c0, c1, f0, f1⟩ := HB.out.c2 g 47 (.map (some m)) (.int .i64 (s.ever : Int)) (by simp)
          have hlook := look_hasW (P := Try.prog) (mty := 45) (key := .int .i64 (key : Int)) (v := .agg #[.bool b, .int .i64 x0, .int .i64 x1, .int .i64 x2]) Try.underlying45 Try.underlying3 H2.out (keyK _) (List.mem_map.2 ⟨_, List.mem_of_getElem? hd, rfl⟩) false wr (HB.out.box (m, om) (by simp))
          simp only [Bool.false_eq_true, if_false] at hlook
          have HX := Aside0.mk hd
          clear hd q1 q2 q3 q4
          go_wp2_with (at_builtin; refine append_list (w0 := w0) (A := B) (L := [cb g1 3 cur] ++ ((r, oi1) :: cb g 47 #[.map (some m), .int .i64 (s.ever : Int)] :: (m, om) :: L)) rfl (.tmp 31) (.tmp 38) 22 30 (.agg #[.bool false, .int .i64 0, .int .i64 0, .int .i64 0]) 4 32 rfl Try.underlying22 info30 rfl (by decide) (by decide) _ _ _ rfl ⟨wr.heap.size, 0, none⟩ 1 1 (cel (b, x0, x1, x2)) (by simp [Act.eval, Act.put]) rfl (news_new _ _ 30 _ rfl) (by intro u hu; simp [cel] at hu; rcases hu with rfl | rfl | rfl | rfl <;> rfl) HGB.out (HB.out.skip _) (by omega) ?_; intro v1 w3 B1 hG3 hv3; obtain ⟨ad6, c6, rfl, hn6⟩ := hG3.form; have HG3 := Aside0.mk hG3; have HH3 := Aside0.mk hv3; clear hG3 hv3 hn6)
          go_roundg (s.q.length - (k + 1))
          case measure => omega
          case rel => exact ⟨k + 1, B1, by go_num, rfl, hlt, by rw [cels_take s.q k HX.out]; exact HG3.out, ⟨HH3.out⟩⟩
        · have hge : ¬ (k : Int) < (s.q.length : Int) := by omega
          have hkk : k = s.q.length := by omega
          subst hkk
          go_wp2_with fail
          have hf := HGB.out
          rw [List.take_length] at hf
          have e9 : ∀ X : List Ob, (X ++ (cb g 47 #[.map (some m), .int .i64 (s.ever : Int)] :: (m, om) :: L)).Perm (cb g 47 #[.map (some m), .int .i64 (s.ever : Int)] :: (m, om) :: (X ++ L)) := fun X => List.perm_middle.trans (List.Perm.cons _ List.perm_middle)
          have hw9 := HB.out.drop (L' := B ++ (cb g 47 #[.map (some m), .int .i64 (s.ever : Int)] :: (m, om) :: L)) (List.Sublist.append_left ((List.sublist_cons_self _ _).trans (List.sublist_append_right _ _)) _)
          exact bodyPost_ret (v := .slice ad5 s.q.length c5) (by simp [results, Try.results14, go_sem]) rfl ⟨ad5, c5, B, rfl, hf, om, hw9.perm (e9 B).symm, H2.out, H3.out⟩
    | cons p0 lf0 =>
      go_wp2_with (first | (at_next; refine next_some (fun x : Et => Value.int .i64 (x.1 : Int)) (fun x : Et => Value.agg #[.bool x.2.1, .int .i64 x.2.2.1, .int .i64 x.2.2.2.1, .int .i64 x.2.2.2.2]) rfl _ rfl (Hv.rotA HV.out) (b := m) (om := om) (by simp) 0 rfl (by simp) HI1.out rfl ?_; intro x left' oi' w1 hpl hI' hv' hen) | (at_builtin; refine append_list (w0 := w0) (A := A) (L := (r, oi') :: cb g 47 #[.map (some m), .int .i64 (s.ever : Int)] :: (m, om) :: L) rfl (.tmp 19) (.tmp 21) 48 3 (.int .i64 0) 1 8 rfl Try.underlying48 info3 rfl (by decide) (by decide) _ _ _ rfl ⟨w1.heap.size, 0, none⟩ 1 1 [.int .i64 (x.1 : Int)] (by simp [Act.eval, Act.put]) rfl (news_new _ _ 3 _ rfl) (by intro u hu; simp at hu; subst hu; rfl) HG.out ((Hv.unrotA hv').skip _) (by have := HLN.out; have := HKL.out; simp at *; omega) ?_; intro v1 w2 A1 hG2 hv2; obtain ⟨ad2, c2, rfl, hn2⟩ := hG2.form; have HG2 := Aside0.mk hG2; have HH2 := Aside0.mk hv2; clear hG2 hv2 hn2))
      go_roundg left'.length
      case measure => have := hpl.length_eq; simp at this ⊢; omega
      case rel =>
        refine ⟨left', ks ++ [(x.1 : Int)], A1, oi', rfl, ?_, ?_, ?_, ⟨hI'⟩, ⟨HH2.out⟩⟩
        · have := hpl.length_eq
          have := HKL.out
          simp at *
          omega
        · have h1 := (hpl.map (fun p : Et => (p.1 : Int))).append_left ks
          have h2 := h1.symm.trans HP.out
          simpa [keys] using h2
        · simpa [ints] using HG2.out
end Go.Proofs.Ytjpfggpcppcpbaa.Rt
