/- sets.Sets: Writes. No condition. -/
import Derived.Test.YtgecokldbkamlaaStF
import Derived.Maps.RangeWalk
set_option linter.unusedVariables false
set_option linter.unusedSimpArgs false
namespace Go.Proofs.Ytgecokldbkamlaa.St
open Go Go.RowKit Go.MapKept Go.Proofs.YtgecokldbkamlaaW.PrintWords Go.Proofs.YtgecokldbkamlaaW.PrintLast Go.Proofs.YtgecokldbkamlaaW.PrintMore Go.Proofs.Ytgecokldbkamlaa.Hv Go.Proofs.Ytgecokldbkamlaa.Mk Go.Proofs.Ytgecokldbkamlaa.Ka
variable {w0 w w1 : World} {g : Nat} {s : St} {L L' : List Ob}

theorem rotA {A L : List Ob} {x : Ob} (h : Hv w0 w (A ++ (x :: L))) : Hv w0 w (x :: (A ++ L)) := h.perm List.perm_middle.symm
theorem unrotA {A L : List Ob} {x : Ob} (h : Hv w0 w (x :: (A ++ L))) : Hv w0 w (A ++ (x :: L)) := h.perm List.perm_middle
def HasI (om oi : Obj) (m : Nat) (s : St) (left : List Wr) : Prop := IsI (IsKey .string) om oi m (s.writes.map wpr) (left.map (fun x => ((.string x.1 : Value), wval x)))
theorem info40 : (Try.prog.info? 40).map (fun i => (i.zero, i.size, i.bytes)) = some (some (.agg #[.string ⟨#[]⟩, .int .i64 0, .int .i64 0, .string ⟨#[]⟩, .bool false]), 5, 56) := by kernel_rfl
def WritesP (w0 : World) (g : Nat) (s : St) (L : List Ob) (e : Ending) (w' : World) : Prop :=
  ∃ (ws : List Wr) (ad : Option Addr) (c : Nat) (A : List Ob), ws.Perm s.writes ∧ ws.Pairwise (fun x y => bl y.1 x.1 = false) ∧ e = .returned (.slice ad s.writes.length c) ∧ Gr 40 5 (.slice ad s.writes.length c) s.writes.length (ws.flatMap wcel) A ∧ Sts w0 w' g s (A ++ L)
set_option maxHeartbeats 8000000 in
set_option maxRecDepth 100000 in
theorem writes.calls (h : Sts w0 w g s L) (hn : s.writes.length ≤ 100000) : Calls Try.prog 16 #[.pointer (some ⟨g, 0, none⟩)] w (WritesP w0 g s L) := by
  have hu63 := Try.underlying63
  have hu61 := Try.underlying61
  have hu40 := Try.underlying40
  have hu29 := Try.underlying29
  obtain ⟨mr, ms, mw, or, os, ow, vr, vn, A, B, h1, h2, h3, h4, h5, h6⟩ := h
  obtain ⟨c0, c1, c2, c3, c4, -, -, -, -, -⟩ := h1.c5 g 63 vr vn (.map (some mr)) (.map (some ms)) (.map (some mw)) (by simp)
  generalize hX : (cb g 63 #[vr, vn, .map (some mr), .map (some ms), .map (some mw)] :: (mr, or) :: (ms, os) :: (mw, ow) :: (A ++ (B ++ L))) = X at h1
  have hmw : (mw, ow) ∈ X := by rw [← hX]; simp
  have KX := Aside0.mk hX
  have KK := Aside0.mk (And.intro h2 (And.intro h3 (And.intro h4 (And.intro h5 h6))))
  have HN := Aside0.mk hn
  have HH := Aside0.mk h1
  clear h1 h2 h3 h4 h5 h6 hX hn c0 c1 c2 c3
  go_enter Try.func16, Try.ntmps16
  go_wp2_with (at_range; refine range_at rfl _ rfl Try.underlying61 HH.out (om := ow) (b := mw) hmw KK.out.2.2.2.2 rfl ?_; intro r oi w1 hI h1)
  have HI := Aside0.mk hI
  have H1 := Aside0.mk h1
  clear hI h1 c4
  go_frame
  go_loopg [3] s.writes.length (fun kq v3 wr => ∃ (left ws : List Wr) (C : List Ob) (oi : Obj), kq = left.length ∧ ws.length + left.length = s.writes.length ∧ (ws ++ left).Perm s.writes ∧ Gr 40 5 v3 ws.length (ws.flatMap wcel) C ∧ Aside0 (HasI ow oi mw s left) ∧ Aside0 (Hv w0 wr (C ++ ((r, oi) :: X))))
  case atStart => exact ⟨s.writes, [], [], oi, rfl, by simp, List.Perm.refl _, Gr.nil _ _, ⟨HI.out⟩, ⟨H1.out⟩⟩
  case round =>
    obtain ⟨left, ws, C, oi1, rfl, hkl, hp, hG, HI1, HV⟩ := hrel
    have HP := Aside0.mk hp
    have HG := Aside0.mk hG
    have HKL := Aside0.mk hkl
    obtain ⟨ad, c, rfl, hnc⟩ := hG.form
    clear hp HI H1 oi hG hkl hnc
    cases left with
    | nil =>
      have hws : ws.Perm s.writes := by simpa using HP.out
      have hkl : ws.length = s.writes.length := by simpa using HKL.out
      go_wp2_with (at_next; refine next_none rfl _ rfl (rotA HV.out) (b := mw) (om := ow) (by simp [hmw]) 0 rfl HI1.out rfl ?_)
      refine (sortW.calls (v := .slice ad s.writes.length c) (n := s.writes.length) (ws := ws) hkl (by have := HN.out; omega) (by have := HG.out; rw [hkl] at this; exact this) HV.out).mono ?_
      rintro e2 w2 ⟨rfl, ws2, A2, hp2, hs2, hG2, hv2⟩
      have HG2 := Aside0.mk (And.intro (hp2.trans hws) (And.intro hs2 hG2))
      have HV2 := Aside0.mk hv2
      clear hG2 hv2 hws hkl hp2 hs2
      go_wp2_with fail
      have hw9 := HV2.out.drop (L' := A2 ++ X) (List.Sublist.append_left (List.sublist_cons_self _ _) _)
      rw [← KX.out] at hw9
      refine bodyPost_ret (v := .slice ad s.writes.length c) (by simp [results, Try.results16, go_sem]) rfl ⟨ws2, ad, c, A2, HG2.out.1, HG2.out.2.1, rfl, HG2.out.2.2, mr, ms, mw, or, os, ow, vr, vn, A, B, ?_, KK.out.1, KK.out.2.1, KK.out.2.2.1, KK.out.2.2.2.1, KK.out.2.2.2.2⟩
      have := toFront A2 (cb g 63 #[vr, vn, .map (some mr), .map (some ms), .map (some mw)] :: (mr, or) :: (ms, os) :: (mw, ow) :: (A ++ B)) L rfl
      exact hw9.perm (by simpa [List.append_assoc] using this.symm)
    | cons p0 lf0 =>
      go_wp2_with (first | (at_next; refine next_some (fun x : Wr => Value.string x.1) (fun x : Wr => Value.agg #[.string x.1, .int .i64 x.2.1.1, .int .i64 x.2.1.2, .string x.2.2.1, .bool x.2.2.2]) rfl _ rfl (rotA HV.out) (b := mw) (om := ow) (by simp [hmw]) 0 rfl (by simp) HI1.out rfl ?_; intro x left' oi' w1 hpl hI' hv' hen) | (at_builtin; refine append_list (w0 := w0) (A := C) (L := (r, oi') :: X) rfl (.tmp 17) (.tmp 19) 29 40 (.agg #[.string ⟨#[]⟩, .int .i64 0, .int .i64 0, .string ⟨#[]⟩, .bool false]) 5 56 rfl Try.underlying29 info40 rfl (by decide) (by decide) _ _ _ rfl ⟨w1.heap.size + 1, 0, none⟩ 1 1 (wcel x) (by simp [Act.eval, Act.put]) rfl (news_new _ _ 40 _ (by simp)) (by intro u hu; simp [wcel] at hu; rcases hu with rfl | rfl | rfl | rfl | rfl <;> rfl) HG.out (((unrotA hv').skip _).skip _) (by have := HN.out; have := HKL.out; simp at *; omega) ?_; intro v1 w2 A1 hG2 hv2; obtain ⟨ad2, c2, rfl, hn2⟩ := hG2.form; have HG2 := Aside0.mk hG2; have HH2 := Aside0.mk hv2; clear hG2 hv2 hn2))
      go_roundg left'.length
      case measure => have := hpl.length_eq; simp at this ⊢; omega
      case rel =>
        refine ⟨left', ws ++ [x], A1, oi', rfl, ?_, ?_, ?_, ⟨hI'⟩, ⟨HH2.out⟩⟩
        · have := hpl.length_eq
          have := HKL.out
          simp at *
          omega
        · have h1 := hpl.append_left ws
          have h2 := h1.symm.trans HP.out
          simpa using h2
        · simpa [List.flatMap_append] using HG2.out
end Go.Proofs.Ytgecokldbkamlaa.St
