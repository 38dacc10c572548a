/- transomref21: Write. No condition. -/
import Derived.Test.YtgecokldbkamlaaStW
set_option linter.unusedVariables false
set_option linter.unusedSimpArgs false
namespace Go.Proofs.Ytgecokldbkamlaa.St
open Go Go.RowKit Go.MapKept Go.Proofs.YtgecokldbkamlaaW.PrintWords Go.Proofs.YtgecokldbkamlaaW.PrintLast Go.Proofs.YtgecokldbkamlaaW.PrintMore Go.Proofs.Ytgecokldbkamlaa.Hv Go.Proofs.Ytgecokldbkamlaa.Mk Go.Proofs.Ytgecokldbkamlaa.Ka
variable {w0 w w1 : World} {g : Nat} {s : St} {L L' : List Ob} {a1 a2 a3 : Option Addr} {c1 c2 c3 : Nat}
/-- One round of the reference's Write. -/
def stp (y : Wr) (p : List Wr × Bool) (x : Wr) : List Wr × Bool :=
  let q := if !p.2 && !(bl x.1 y.1) then (p.1 ++ [y], true) else p
  if !(x.1.toList == y.1.toList) then (q.1 ++ [x], q.2) else q
def rw0 (y : Wr) (l : List Wr) : List Wr × Bool := l.foldl (stp y) ([], false)
/-- What the reference's Write makes of a list. -/
def rwr (y : Wr) (l : List Wr) : List Wr := if (rw0 y l).2 then (rw0 y l).1 else (rw0 y l).1 ++ [y]
theorem rw0_snoc (y : Wr) (l : List Wr) (x : Wr) : rw0 y (l ++ [x]) = stp y (rw0 y l) x := by simp [rw0]
theorem stp_len (y x : Wr) (p : List Wr × Bool) : (stp y p x).1.length + p.2.toNat ≤ p.1.length + 1 + (stp y p x).2.toNat := by
  obtain ⟨p1, p2⟩ := p
  unfold stp
  cases p2 <;> simp only [Bool.not_false, Bool.not_true, Bool.true_and, Bool.false_and, Bool.false_eq_true, if_false] <;> (repeat' split) <;> simp <;> omega
theorem fold_len (y : Wr) : ∀ (l : List Wr) (p : List Wr × Bool), (l.foldl (stp y) p).1.length + p.2.toNat ≤ p.1.length + l.length + (l.foldl (stp y) p).2.toNat
  | [], p => by simp
  | x :: l, p => by
    have h1 := stp_len y x p
    have h2 := fold_len y l (stp y p x)
    simp only [List.foldl_cons, List.length_cons]
    omega
theorem rw0_len (y : Wr) (l : List Wr) : (rw0 y l).1.length ≤ l.length + 1 := by
  have := fold_len y l ([], false)
  have h2 := Bool.toNat_le (rw0 y l).2
  unfold rw0 at *
  simp only [List.length_nil, Bool.toNat_false] at this
  omega
theorem take_snoc {l : List Wr} {k : Nat} {x : Wr} (h : l[k]? = some x) : l.take (k + 1) = l.take k ++ [x] := by
  rw [List.take_add_one, h]; rfl
set_option maxHeartbeats 8000000 in
set_option maxRecDepth 100000 in
theorem rWrite.calls (hv : Hv w0 w L) (hl : s.writes.length ≤ 100000) (hR : RS L s a1 c1 a2 c2 a3 c3) (k0 d : ByteArray) (a b : Int) (t : Bool) :
    Calls Try.prog 23 #[.agg #[.slice a1 s.reads.length c1, .slice a2 s.nodes.length c2, .slice a3 s.writes.length c3], .agg #[.string k0, .int .i64 a, .int .i64 b, .string d, .bool t]] w fun e w' => ∃ (ad : Option Addr) (c : Nat) (A : List Ob), e = .returned (.agg #[.slice a1 s.reads.length c1, .slice a2 s.nodes.length c2, .slice ad (rwr (k0, (a, b), d, t) s.writes).length c]) ∧ Gr 40 5 (.slice ad (rwr (k0, (a, b), d, t) s.writes).length c) (rwr (k0, (a, b), d, t) s.writes).length ((rwr (k0, (a, b), d, t) s.writes).flatMap wcel) A ∧ Hv w0 w' (A ++ L) := by
  have hu31 := Try.underlying31
  have hu40 := Try.underlying40
  have hu29 := Try.underlying29
  have hleq := fun x y => Less.str_leq 9 x y
  generalize hy : ((k0, (a, b), d, t) : Wr) = y
  have HY := Aside0.mk hy
  have h1 : Hv w0 (((w.alloc (.cells #[.slice a1 s.reads.length c1, .slice a2 s.nodes.length c2, .slice a3 s.writes.length c3] 31)).alloc (.cells #[.string k0, .int .i64 a, .int .i64 b, .string d, .bool t] 40)).alloc (.cells #[.slice none 0 0, .slice none 0 0, .slice none 0 0] 31)) (cb (w.heap.size + 1 + 1) 31 #[.slice none 0 0, .slice none 0 0, .slice none 0 0] :: cb (w.heap.size + 1) 40 #[.string k0, .int .i64 a, .int .i64 b, .string d, .bool t] :: cb w.heap.size 31 #[.slice a1 s.reads.length c1, .slice a2 s.nodes.length c2, .slice a3 s.writes.length c3] :: L) := by
    have := ((hv.alloc (.cells #[.slice a1 s.reads.length c1, .slice a2 s.nodes.length c2, .slice a3 s.writes.length c3] 31)).alloc (.cells #[.string k0, .int .i64 a, .int .i64 b, .string d, .bool t] 40)).alloc (.cells #[.slice none 0 0, .slice none 0 0, .slice none 0 0] 31)
    simpa [cb] using this
  have HV := Aside0.mk h1
  have HR := Aside0.mk (hR.w.mono (L' := cb (w.heap.size + 1 + 1) 31 #[.slice none 0 0, .slice none 0 0, .slice none 0 0] :: cb (w.heap.size + 1) 40 #[.string k0, .int .i64 a, .int .i64 b, .string d, .bool t] :: cb w.heap.size 31 #[.slice a1 s.reads.length c1, .slice a2 s.nodes.length c2, .slice a3 s.writes.length c3] :: L) (fun p hp => by simp [hp]))
  have HL := Aside0.mk hl
  clear hv h1 hR hl hy
  go_enter Try.func23, Try.ntmps23
  go_wp2_with fail
  go_loopg [5, 6, 7, 8] s.writes.length (fun kq v5 v6 v7 v8 wr => ∃ (k : Nat) (C : List Ob), v7 = .int .i64 (k : Int) ∧ v6 = .bool (rw0 y (s.writes.take k)).2 ∧ kq = s.writes.length - k ∧ k ≤ s.writes.length ∧ Gr 40 5 v5 (rw0 y (s.writes.take k)).1.length ((rw0 y (s.writes.take k)).1.flatMap wcel) C ∧ Aside0 (Hv w0 wr (C ++ (cb (w.heap.size + 1 + 1) 31 #[.slice none 0 0, .slice none 0 0, .slice none 0 0] :: cb (w.heap.size + 1) 40 #[.string k0, .int .i64 a, .int .i64 b, .string d, .bool t] :: cb w.heap.size 31 #[.slice a1 s.reads.length c1, .slice a2 s.nodes.length c2, .slice a3 s.writes.length c3] :: L))))
  case atStart => exact ⟨0, [], rfl, by simp [rw0], rfl, Nat.zero_le _, by simpa [rw0] using Gr.nil 40 5, HV⟩
  case round =>
    obtain ⟨k, C, rfl, rfl, rfl, hk, hG, HP⟩ := hrel
    clear HV
    have hk7 : k ≤ 100000 := by have := HL.out; omega
    have hpl := rw0_len y (s.writes.take k)
    rw [List.length_take, Nat.min_eq_left hk] at hpl
    generalize hp : rw0 y (s.writes.take k) = p at hG hpl
    obtain ⟨p1, p2⟩ := p
    simp only at hG hpl
    have HPP := Aside0.mk hp
    obtain ⟨ad, c, rfl, hnc⟩ := hG.form
    have HG := Aside0.mk hG
    have HPL := Aside0.mk (show (p1.length + 1 + 1) * 56 ≤ 140737488355328 by omega)
    have HPM := Aside0.mk (show (p1.length + 1) * 56 ≤ 140737488355328 by omega)
    clear hG hp hnc hpl
    by_cases hltn : k < s.writes.length
    · have hlt' : (k : Int) < (s.writes.length : Int) := by omega
      obtain ⟨adl, ea, hcl⟩ := HR.out.cells HP.out.right (by omega)
      cases ea
      obtain ⟨⟨k1, ⟨x0, x1⟩, x2, x3⟩, hd⟩ : ∃ d, s.writes[k]? = some d := ⟨_, List.getElem?_eq_getElem hltn⟩
      have z0 := hcl (k * 5) _ (wcel_at s.writes k 0 _ (.string k1) hd rfl)
      have z1 := hcl (k * 5 + 1) _ (wcel_at s.writes k 1 _ (.int .i64 x0) hd rfl)
      have z2 := hcl (k * 5 + 2) _ (wcel_at s.writes k 2 _ (.int .i64 x1) hd rfl)
      have z3 := hcl (k * 5 + 3) _ (wcel_at s.writes k 3 _ (.string x2) hd rfl)
      have z4 := hcl (k * 5 + 4) _ (wcel_at s.writes k 4 _ (.bool x3) hd rfl)
      rw [add_next _ _ _ (by omega)] at z1 z2 z3 z4
      obtain ⟨b0, b1, b2, -, -, -⟩ := HP.out.right.c3 w.heap.size 31 (.slice a1 s.reads.length c1) (.slice a2 s.nodes.length c2) (.slice (some adl) s.writes.length c3) (by simp)
      have HX := Aside0.mk (unrotA (HP.out.alloc (.cells #[.string k1, .int .i64 x0, .int .i64 x1, .string x2, .bool x3] 40)))
      obtain ⟨q0, q1, q2, q3, q4, -, -, -, -, -⟩ := HX.out.right.c5 wr.heap.size 40 (.string k1) (.int .i64 x0) (.int .i64 x1) (.string x2) (.bool x3) (by simp)
      obtain ⟨y0, y1, y2, y3, y4, -, -, -, -, -⟩ := HX.out.right.c5 (w.heap.size + 1) 40 (.string k0) (.int .i64 a) (.int .i64 b) (.string d) (.bool t) (by simp)
      have HD := Aside0.mk (show rw0 y (s.writes.take (k + 1)) = stp y (p1, p2) (k1, (x0, x1), x2, x3) by rw [take_snoc hd, rw0_snoc, HPP.out])
      clear hcl hd
      have hc2 : (k1.toList == k0.toList) = true ∨ (k1.toList == k0.toList) = false := by cases (k1.toList == k0.toList) <;> simp
      have hc1 : p2 = true ∨ (p2 = false ∧ Op.bytesLess k1.toList k0.toList = true) ∨ (p2 = false ∧ Op.bytesLess k1.toList k0.toList = false) := by cases p2 <;> cases (Op.bytesLess k1.toList k0.toList) <;> simp
      rcases hc1 with rfl | ⟨rfl, hb⟩ | ⟨rfl, hb⟩ <;> rcases hc2 with he | he
      · go_wp2_with fail
        go_roundg (s.writes.length - (k + 1))
        case measure => omega
        case rel =>
          have hst : rw0 y (s.writes.take (k + 1)) = (p1, true) := by rw [HD.out, ← HY.out]; simp [stp, bl, *]
          exact ⟨k + 1, C, by go_num, by rw [hst], rfl, hltn, by rw [hst]; simpa [List.flatMap_append] using HG.out, ⟨HX.out.drop (List.Sublist.append_left (List.sublist_cons_self _ _) _)⟩⟩
      · go_wp2_with (at_builtin; go_loud (refine append_list (w0 := w0) (A := C) (L := cb wr.heap.size 40 #[.string k1, .int .i64 x0, .int .i64 x1, .string x2, .bool x3] :: cb (w.heap.size + 1 + 1) 31 #[.slice none 0 0, .slice none 0 0, .slice none 0 0] :: cb (w.heap.size + 1) 40 #[.string k0, .int .i64 a, .int .i64 b, .string d, .bool t] :: cb w.heap.size 31 #[.slice a1 s.reads.length c1, .slice a2 s.nodes.length c2, .slice (some adl) s.writes.length c3] :: L) rfl (.tmp 39) (.tmp 41) 29 40 (.agg #[.string ⟨#[]⟩, .int .i64 0, .int .i64 0, .string ⟨#[]⟩, .bool false]) 5 56 rfl Try.underlying29 info40 rfl (by decide) (by decide) _ _ _ rfl ⟨wr.heap.size + 1, 0, none⟩ 1 1 (wcel (k1, (x0, x1), x2, x3)) (by simp [Act.eval, Act.put]) rfl (news_new _ _ 40 _ (by simp)) (by intro u hu; simp [wcel] at hu; rcases hu with rfl | rfl | rfl | rfl | rfl <;> rfl) HG.out (HX.out.skip _) HPM.out ?_); intro v3 w3 A3 hG3 hv3; obtain ⟨ad3, e3, rfl, hn3⟩ := hG3.form; have HG3 := Aside0.mk hG3; have HH3 := Aside0.mk hv3; clear hG3 hv3 hn3)
        go_roundg (s.writes.length - (k + 1))
        case measure => omega
        case rel =>
          have hst : rw0 y (s.writes.take (k + 1)) = (p1 ++ [(k1, (x0, x1), x2, x3)], true) := by rw [HD.out, ← HY.out]; simp [stp, bl, *]
          exact ⟨k + 1, A3, by go_num, by rw [hst], rfl, hltn, by rw [hst]; simpa [List.flatMap_append] using HG3.out, ⟨HH3.out.drop (List.Sublist.append_left (List.sublist_cons_self _ _) _)⟩⟩
      · go_wp2_with fail
        go_roundg (s.writes.length - (k + 1))
        case measure => omega
        case rel =>
          have hst : rw0 y (s.writes.take (k + 1)) = (p1, false) := by rw [HD.out, ← HY.out]; simp [stp, bl, *]
          exact ⟨k + 1, C, by go_num, by rw [hst], rfl, hltn, by rw [hst]; simpa [List.flatMap_append] using HG.out, ⟨HX.out.drop (List.Sublist.append_left (List.sublist_cons_self _ _) _)⟩⟩
      · go_wp2_with (at_builtin; go_loud (refine append_list (w0 := w0) (A := C) (L := cb wr.heap.size 40 #[.string k1, .int .i64 x0, .int .i64 x1, .string x2, .bool x3] :: cb (w.heap.size + 1 + 1) 31 #[.slice none 0 0, .slice none 0 0, .slice none 0 0] :: cb (w.heap.size + 1) 40 #[.string k0, .int .i64 a, .int .i64 b, .string d, .bool t] :: cb w.heap.size 31 #[.slice a1 s.reads.length c1, .slice a2 s.nodes.length c2, .slice (some adl) s.writes.length c3] :: L) rfl (.tmp 39) (.tmp 41) 29 40 (.agg #[.string ⟨#[]⟩, .int .i64 0, .int .i64 0, .string ⟨#[]⟩, .bool false]) 5 56 rfl Try.underlying29 info40 rfl (by decide) (by decide) _ _ _ rfl ⟨wr.heap.size + 1, 0, none⟩ 1 1 (wcel (k1, (x0, x1), x2, x3)) (by simp [Act.eval, Act.put]) rfl (news_new _ _ 40 _ (by simp)) (by intro u hu; simp [wcel] at hu; rcases hu with rfl | rfl | rfl | rfl | rfl <;> rfl) HG.out (HX.out.skip _) HPM.out ?_); intro v3 w3 A3 hG3 hv3; obtain ⟨ad3, e3, rfl, hn3⟩ := hG3.form; have HG3 := Aside0.mk hG3; have HH3 := Aside0.mk hv3; clear hG3 hv3 hn3)
        go_roundg (s.writes.length - (k + 1))
        case measure => omega
        case rel =>
          have hst : rw0 y (s.writes.take (k + 1)) = (p1 ++ [(k1, (x0, x1), x2, x3)], false) := by rw [HD.out, ← HY.out]; simp [stp, bl, *]
          exact ⟨k + 1, A3, by go_num, by rw [hst], rfl, hltn, by rw [hst]; simpa [List.flatMap_append] using HG3.out, ⟨HH3.out.drop (List.Sublist.append_left (List.sublist_cons_self _ _) _)⟩⟩
      · go_wp2_with (at_builtin; refine append_list (w0 := w0) (A := C) (L := cb wr.heap.size 40 #[.string k1, .int .i64 x0, .int .i64 x1, .string x2, .bool x3] :: cb (w.heap.size + 1 + 1) 31 #[.slice none 0 0, .slice none 0 0, .slice none 0 0] :: cb (w.heap.size + 1) 40 #[.string k0, .int .i64 a, .int .i64 b, .string d, .bool t] :: cb w.heap.size 31 #[.slice a1 s.reads.length c1, .slice a2 s.nodes.length c2, .slice (some adl) s.writes.length c3] :: L) rfl (.tmp 30) (.tmp 32) 29 40 (.agg #[.string ⟨#[]⟩, .int .i64 0, .int .i64 0, .string ⟨#[]⟩, .bool false]) 5 56 rfl Try.underlying29 info40 rfl (by decide) (by decide) _ _ _ rfl ⟨wr.heap.size + 1, 0, none⟩ 1 1 (wcel (k0, (a, b), d, t)) (by simp [Act.eval, Act.put]) rfl (news_new _ _ 40 _ (by simp)) (by intro u hu; simp [wcel] at hu; rcases hu with rfl | rfl | rfl | rfl | rfl <;> rfl) HG.out (HX.out.skip _) HPM.out ?_; intro v1 w2 A1 hG2 hv2; obtain ⟨ad2, e2, rfl, hn2⟩ := hG2.form; have HG2 := Aside0.mk hG2; have HH2 := Aside0.mk hv2; clear hG2 hn2 q0 q1 q2 q3 q4 y0 y1 y2 y3 y4; obtain ⟨q0, q1, q2, q3, q4, -, -, -, -, -⟩ := hv2.right.c5 wr.heap.size 40 (.string k1) (.int .i64 x0) (.int .i64 x1) (.string x2) (.bool x3) (by simp); obtain ⟨y0, y1, y2, y3, y4, -, -, -, -, -⟩ := hv2.right.c5 (w.heap.size + 1) 40 (.string k0) (.int .i64 a) (.int .i64 b) (.string d) (.bool t) (by simp); clear hv2)
        go_roundg (s.writes.length - (k + 1))
        case measure => omega
        case rel =>
          have hst : rw0 y (s.writes.take (k + 1)) = (p1 ++ [(k0, (a, b), d, t)], true) := by rw [HD.out, ← HY.out]; simp [stp, bl, *]
          exact ⟨k + 1, A1, by go_num, by rw [hst], rfl, hltn, by rw [hst]; simpa [List.flatMap_append] using HG2.out, ⟨HH2.out.drop (List.Sublist.append_left (List.sublist_cons_self _ _) _)⟩⟩
      · go_wp2_with (first | (at_builtin; refine append_list (w0 := w0) (A := C) (L := cb wr.heap.size 40 #[.string k1, .int .i64 x0, .int .i64 x1, .string x2, .bool x3] :: cb (w.heap.size + 1 + 1) 31 #[.slice none 0 0, .slice none 0 0, .slice none 0 0] :: cb (w.heap.size + 1) 40 #[.string k0, .int .i64 a, .int .i64 b, .string d, .bool t] :: cb w.heap.size 31 #[.slice a1 s.reads.length c1, .slice a2 s.nodes.length c2, .slice (some adl) s.writes.length c3] :: L) rfl (.tmp 30) (.tmp 32) 29 40 (.agg #[.string ⟨#[]⟩, .int .i64 0, .int .i64 0, .string ⟨#[]⟩, .bool false]) 5 56 rfl Try.underlying29 info40 rfl (by decide) (by decide) _ _ _ rfl ⟨wr.heap.size + 1, 0, none⟩ 1 1 (wcel (k0, (a, b), d, t)) (by simp [Act.eval, Act.put]) rfl (news_new _ _ 40 _ (by simp)) (by intro u hu; simp [wcel] at hu; rcases hu with rfl | rfl | rfl | rfl | rfl <;> rfl) HG.out (HX.out.skip _) HPM.out ?_; intro v1 w2 A1 hG2 hv2; obtain ⟨ad2, e2, rfl, hn2⟩ := hG2.form; have HG2 := Aside0.mk hG2; have HH2 := Aside0.mk hv2; clear hG2 hn2 q0 q1 q2 q3 q4 y0 y1 y2 y3 y4; obtain ⟨q0, q1, q2, q3, q4, -, -, -, -, -⟩ := hv2.right.c5 wr.heap.size 40 (.string k1) (.int .i64 x0) (.int .i64 x1) (.string x2) (.bool x3) (by simp); obtain ⟨y0, y1, y2, y3, y4, -, -, -, -, -⟩ := hv2.right.c5 (w.heap.size + 1) 40 (.string k0) (.int .i64 a) (.int .i64 b) (.string d) (.bool t) (by simp); clear hv2) | (at_builtin; go_loud (refine append_list (w0 := w0) (A := A1) (L := cb wr.heap.size 40 #[.string k1, .int .i64 x0, .int .i64 x1, .string x2, .bool x3] :: cb (w.heap.size + 1 + 1) 31 #[.slice none 0 0, .slice none 0 0, .slice none 0 0] :: cb (w.heap.size + 1) 40 #[.string k0, .int .i64 a, .int .i64 b, .string d, .bool t] :: cb w.heap.size 31 #[.slice a1 s.reads.length c1, .slice a2 s.nodes.length c2, .slice (some adl) s.writes.length c3] :: L) rfl (.tmp 39) (.tmp 41) 29 40 (.agg #[.string ⟨#[]⟩, .int .i64 0, .int .i64 0, .string ⟨#[]⟩, .bool false]) 5 56 rfl Try.underlying29 info40 rfl (by decide) (by decide) _ _ _ rfl ⟨w2.heap.size, 0, none⟩ 1 1 (wcel (k1, (x0, x1), x2, x3)) (by simp [Act.eval, Act.put]) rfl (news_new _ _ 40 _ (by simp)) (by intro u hu; simp [wcel] at hu; rcases hu with rfl | rfl | rfl | rfl | rfl <;> rfl) HG2.out (HH2.out.skip _) HPL.out ?_); intro v3 w3 A3 hG3 hv3; obtain ⟨ad3, e3, rfl, hn3⟩ := hG3.form; have HG3 := Aside0.mk hG3; have HH3 := Aside0.mk hv3; clear hG3 hv3 hn3))
        go_roundg (s.writes.length - (k + 1))
        case measure => omega
        case rel =>
          have hst : rw0 y (s.writes.take (k + 1)) = (p1 ++ [(k0, (a, b), d, t)] ++ [(k1, (x0, x1), x2, x3)], true) := by rw [HD.out, ← HY.out]; simp [stp, bl, *]
          exact ⟨k + 1, A3, by go_num, by rw [hst], rfl, hltn, by rw [hst]; simpa [List.flatMap_append] using HG3.out, ⟨HH3.out.drop (List.Sublist.append_left (List.sublist_cons_self _ _) _)⟩⟩
    · have hge : ¬ (k : Int) < (s.writes.length : Int) := by omega
      have hkk : k = s.writes.length := by omega
      have HW := Aside0.mk (show rw0 y s.writes = (p1, p2) by have := HPP.out; rw [hkk, List.take_length] at this; exact this)
      obtain ⟨q0, q1, q2, f0, f1, f2⟩ := HP.out.right.c3 (w.heap.size + 1 + 1) 31 (.slice none 0 0) (.slice none 0 0) (.slice none 0 0) (by simp)
      obtain ⟨b0, b1, b2, fb0, fb1, fb2⟩ := HP.out.right.c3 w.heap.size 31 (.slice a1 s.reads.length c1) (.slice a2 s.nodes.length c2) (.slice a3 s.writes.length c3) (by simp)
      obtain ⟨y0, y1, y2, y3, y4, -, -, -, -, -⟩ := HP.out.right.c5 (w.heap.size + 1) 40 (.string k0) (.int .i64 a) (.int .i64 b) (.string d) (.bool t) (by simp)
      clear hkk
      cases p2
      · go_wp2_with (at_builtin; go_loud (refine append_list (w0 := w0) (A := C) (L := cb (w.heap.size + 1 + 1) 31 #[.slice none 0 0, .slice none 0 0, .slice none 0 0] :: cb (w.heap.size + 1) 40 #[.string k0, .int .i64 a, .int .i64 b, .string d, .bool t] :: cb w.heap.size 31 #[.slice a1 s.reads.length c1, .slice a2 s.nodes.length c2, .slice a3 s.writes.length c3] :: L) rfl (.tmp 45) (.tmp 47) 29 40 (.agg #[.string ⟨#[]⟩, .int .i64 0, .int .i64 0, .string ⟨#[]⟩, .bool false]) 5 56 rfl Try.underlying29 info40 rfl (by decide) (by decide) _ _ _ rfl ⟨wr.heap.size, 0, none⟩ 1 1 (wcel (k0, (a, b), d, t)) (by simp [Act.eval, Act.put]) rfl (news_new _ _ 40 _ (by simp)) (by intro u hu; simp [wcel] at hu; rcases hu with rfl | rfl | rfl | rfl | rfl <;> rfl) HG.out (HP.out.skip _) HPM.out ?_); intro v3 w3 A3 hG3 hv3; obtain ⟨ad3, e3, rfl, hn3⟩ := hG3.form; have HG3 := Aside0.mk hG3; have HH3 := Aside0.mk hv3; clear hG3 hn3 b0 b1 b2 fb0 fb1 fb2 q0 q1 q2 f0 f1 f2 y0 y1 y2 y3 y4; obtain ⟨q0, q1, q2, f0, f1, f2⟩ := hv3.right.c3 (w.heap.size + 1 + 1) 31 (.slice none 0 0) (.slice none 0 0) (.slice none 0 0) (by simp); obtain ⟨b0, b1, b2, fb0, fb1, fb2⟩ := hv3.right.c3 w.heap.size 31 (.slice a1 s.reads.length c1) (.slice a2 s.nodes.length c2) (.slice a3 s.writes.length c3) (by simp); clear hv3)
        have hwr : rwr y s.writes = p1 ++ [(k0, (a, b), d, t)] := by simp only [rwr, HW.out]; simp [HY.out]
        have K8 := (((((HH3.out.comm).put 2 rfl 2 (.slice ad3 (p1.length + 1) e3)).put 0 rfl 0 (.slice a1 s.reads.length c1)).put 0 rfl 1 (.slice a2 s.nodes.length c2)).put 0 rfl 2 (.slice ad3 (p1.length + 1) e3))
        obtain ⟨wg, hw, hg⟩ : ∃ wg, wg = _ ∧ Hv w0 wg (cb (w.heap.size + 1 + 1) 31 #[.slice a1 s.reads.length c1, .slice a2 s.nodes.length c2, .slice ad3 (p1.length + 1) e3] :: cb (w.heap.size + 1) 40 #[.string k0, .int .i64 a, .int .i64 b, .string d, .bool t] :: cb w.heap.size 31 #[.slice a1 s.reads.length c1, .slice a2 s.nodes.length c2, .slice ad3 (p1.length + 1) e3] :: (L ++ A3)) := ⟨_, rfl, by simpa using K8⟩
        rw [← hw]
        obtain ⟨e0, e1, e2, -, -, -⟩ := hg.c3 (w.heap.size + 1 + 1) 31 _ _ _ List.mem_cons_self
        rw [hwr]
        refine bodyPost_ret (v := .agg #[.slice a1 s.reads.length c1, .slice a2 s.nodes.length c2, .slice ad3 (p1.length + 1) e3]) (by simp [results, Try.results23, go_sem, e0, e1, e2, hu31]) rfl ⟨ad3, e3, by simp, A3, by simpa [List.flatMap_append] using HG3.out, hg.tail.tail.tail.comm⟩
      · go_wp2_with fail
        have hwr : rwr y s.writes = p1 := by simp only [rwr, HW.out]; simp
        have K8 := (((((HP.out.comm).put 2 rfl 2 (.slice ad p1.length c)).put 0 rfl 0 (.slice a1 s.reads.length c1)).put 0 rfl 1 (.slice a2 s.nodes.length c2)).put 0 rfl 2 (.slice ad p1.length c))
        obtain ⟨wg, hw, hg⟩ : ∃ wg, wg = _ ∧ Hv w0 wg (cb (w.heap.size + 1 + 1) 31 #[.slice a1 s.reads.length c1, .slice a2 s.nodes.length c2, .slice ad p1.length c] :: cb (w.heap.size + 1) 40 #[.string k0, .int .i64 a, .int .i64 b, .string d, .bool t] :: cb w.heap.size 31 #[.slice a1 s.reads.length c1, .slice a2 s.nodes.length c2, .slice ad p1.length c] :: (L ++ C)) := ⟨_, rfl, by simpa using K8⟩
        rw [← hw]
        obtain ⟨e0, e1, e2, -, -, -⟩ := hg.c3 (w.heap.size + 1 + 1) 31 _ _ _ List.mem_cons_self
        rw [hwr]
        refine bodyPost_ret (v := .agg #[.slice a1 s.reads.length c1, .slice a2 s.nodes.length c2, .slice ad p1.length c]) (by simp [results, Try.results23, go_sem, e0, e1, e2, hu31]) rfl ⟨ad, c, rfl, C, by simpa [List.flatMap_append] using HG.out, hg.tail.tail.tail.comm⟩
end Go.Proofs.Ytgecokldbkamlaa.St
