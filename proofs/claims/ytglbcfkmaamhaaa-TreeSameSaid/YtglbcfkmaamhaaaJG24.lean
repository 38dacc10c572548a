/- A text of this claim: parts TsS TuC Opens. No condition. -/
import Derived.Test.YtglbcfkmaamhaaaJG23
import Derived.Test.YtglbcfkmaamhaaaJG12
import Derived.Test.YtglbcfkmaamhaaaJG0
import Derived.OpenShut
import Derived.ChangeArms
import Derived.Deep.Slices
import Derived.WideShapes
set_option linter.unusedVariables false
set_option linter.unusedSimpArgs false
set_option maxHeartbeats 16000000
set_option maxRecDepth 100000
namespace Go.Proofs.Ytglbcfkmaamhaaa.Tr
open Go Go.RowKit Go.Proofs.YtglbcfkmaamhaaaW.PrintWords Go.Proofs.YtglbcfkmaamhaaaW.PrintLast Go.Proofs.YtglbcfkmaamhaaaW.PrintMore Go.Proofs.Ytglbcfkmaamhaaa.Hv Go.Proofs.Ytglbcfkmaamhaaa.Arm Go.Proofs.Ytglbcfkmaamhaaa.Nd Go.Proofs.Ytglbcfkmaamhaaa.ArN
section
variable {w0 w w1 : World} {L L' R : List Ob} {K : Nat × Nat × Nat} {on : Value}
theorem gcell {g : Nat} {cur : Array Value} {x y : Value} (h : Hv w0 w L) (hm : cb g 33 cur ∈ L) (h0 : cur[0]? = some x) (h1 : cur[1]? = some y) : w.cell? ⟨g, 0, none⟩ = some x ∧ w.cell? ⟨g, 1, none⟩ = some y := ⟨h.cell hm 0 h0, h.cell hm 1 h1⟩
def lst : Nat → Int
 | 0 => 0
 | 5 => 2
 | _ => 1
theorem aw_idx0 (w : World) : (Instr.index 144 (.agg #[.string ⟨#[97]⟩, .string ⟨#[98]⟩, .string ⟨#[99]⟩, .string ⟨#[100]⟩, .string ⟨#[101]⟩]) (.int .i64 0)).run Try.prog w = .ok (.string ⟨#[97]⟩) w := by kernel_rfl
theorem aw_idx1 (w : World) : (Instr.index 144 (.agg #[.string ⟨#[97]⟩, .string ⟨#[98]⟩, .string ⟨#[99]⟩, .string ⟨#[100]⟩, .string ⟨#[101]⟩]) (.int .i64 1)).run Try.prog w = .ok (.string ⟨#[98]⟩) w := by kernel_rfl
theorem aw_idx2 (w : World) : (Instr.index 144 (.agg #[.string ⟨#[97]⟩, .string ⟨#[98]⟩, .string ⟨#[99]⟩, .string ⟨#[100]⟩, .string ⟨#[101]⟩]) (.int .i64 2)).run Try.prog w = .ok (.string ⟨#[99]⟩) w := by kernel_rfl
theorem aw_idx3 (w : World) : (Instr.index 144 (.agg #[.string ⟨#[97]⟩, .string ⟨#[98]⟩, .string ⟨#[99]⟩, .string ⟨#[100]⟩, .string ⟨#[101]⟩]) (.int .i64 3)).run Try.prog w = .ok (.string ⟨#[100]⟩) w := by kernel_rfl
theorem aw_idx4 (w : World) : (Instr.index 144 (.agg #[.string ⟨#[97]⟩, .string ⟨#[98]⟩, .string ⟨#[99]⟩, .string ⟨#[100]⟩, .string ⟨#[101]⟩]) (.int .i64 4)).run Try.prog w = .ok (.string ⟨#[101]⟩) w := by kernel_rfl
theorem awake.calls (w : World) : Calls Try.prog 57 #[] w fun e w' => e = .returned (.bool true) ∧ Below w.heap.size w w' := by
 have hu33 := Try.underlying33
 have hu85 := Try.underlying85
 have hu31 := Try.underlying31
 have hu80 := Try.underlying80
 have hu144 := Try.underlying144
 go_enter Try.func57, Try.ntmps57
 go_wp2_with (first | (go_at_call 58; go_loud (refine (newOk.calls (Hv.start w) 20 (by decide) (by decide)).mono ?_); rintro e1 w1 ⟨K, rfl, h1⟩; have H1 := As (show Mt w w1 K (aT 0) .nilFunc [] [] from h1); clear h1))
 go_loopg [3, 41] 5 (fun kq v3 v41 wr => ∃ (k : Nat), v3 = .int .i64 (lst k) ∧ v41 = .int .i64 (k : Int) ∧ kq = 5 - k ∧ k ≤ 5 ∧ Aside0 (∃ R, Mt w wr K (aT k) .nilFunc R []))
 case atStart => exact ⟨0, rfl, rfl, rfl, by omega, ⟨[], H1.out⟩⟩
 case round =>
  obtain ⟨k, rfl, rfl, rfl, hk, HS⟩ := hrel
  clear H1
  obtain rfl | rfl | rfl | rfl | rfl | rfl : k = 0 ∨ k = 1 ∨ k = 2 ∨ k = 3 ∨ k = 4 ∨ k = 5 := by omega
  ·obtain ⟨R, hS⟩ := HS.out
   have HT := As hS
   clear hS HS
   have hi := aw_idx0
   go_wp2_with (first | (go_at_call 66; go_loud (refine (aput0 HT.out).mono ?_); rintro e2 w2 ⟨ad, c, R2, rfl, h2⟩; have H2 := As h2; clear h2))
   go_roundg (5 - (0 + 1))
   case measure => omega
   case rel => exact ⟨0 + 1, by rfl, by rfl, by omega, by omega, ⟨R2, H2.out⟩⟩
  ·obtain ⟨R, hS⟩ := HS.out
   have HT := As hS
   clear hS HS
   have hi := aw_idx1
   go_wp2_with (first | (go_at_call 66; go_loud (refine (aput1 HT.out).mono ?_); rintro e2 w2 ⟨ad, c, R2, rfl, h2⟩; have H2 := As h2; clear h2))
   go_roundg (5 - (1 + 1))
   case measure => omega
   case rel => exact ⟨1 + 1, by rfl, by rfl, by omega, by omega, ⟨R2, H2.out⟩⟩
  ·obtain ⟨R, hS⟩ := HS.out
   have HT := As hS
   clear hS HS
   have hi := aw_idx2
   go_wp2_with (first | (go_at_call 66; go_loud (refine (aput2 HT.out).mono ?_); rintro e2 w2 ⟨ad, c, R2, rfl, h2⟩; have H2 := As h2; clear h2))
   go_roundg (5 - (2 + 1))
   case measure => omega
   case rel => exact ⟨2 + 1, by rfl, by rfl, by omega, by omega, ⟨R2, H2.out⟩⟩
  ·obtain ⟨R, hS⟩ := HS.out
   have HT := As hS
   clear hS HS
   have hi := aw_idx3
   go_wp2_with (first | (go_at_call 66; go_loud (refine (aput3 HT.out).mono ?_); rintro e2 w2 ⟨ad, c, R2, rfl, h2⟩; have H2 := As h2; clear h2))
   go_roundg (5 - (3 + 1))
   case measure => omega
   case rel => exact ⟨3 + 1, by rfl, by rfl, by omega, by omega, ⟨R2, H2.out⟩⟩
  ·obtain ⟨R, hS⟩ := HS.out
   have HT := As hS
   clear hS HS
   have hi := aw_idx4
   go_wp2_with (first | (go_at_call 66; go_loud (refine (aput4 HT.out).mono ?_); rintro e2 w2 ⟨ad, c, R2, rfl, h2⟩; have H2 := As h2; clear h2))
   go_roundg (5 - (4 + 1))
   case measure => omega
   case rel => exact ⟨4 + 1, by rfl, by rfl, by omega, by omega, ⟨R2, H2.out⟩⟩
  ·obtain ⟨R, hS⟩ := HS.out
   have HT := As hS
   clear hS HS
   go_upto_region 14 with (go_at_call 71; go_loud (refine (afind HT.out).mono ?_); rintro e2 w2 ⟨rfl, h2⟩; have H2 := As h2; clear h2)
   obtain ⟨W2, hW, hw⟩ : ∃ W, W = (w2.alloc (.cells #[.int .i64 3, .int .i64 0] 33)).alloc (.cells #[.int .i64 1, .int .i64 1, .int .i64 1] 85) ∧ Mt w W K (aT 5) .nilFunc R ([cb (w2.heap.size + 1) 85 #[.int .i64 1, .int .i64 1, .int .i64 1], cb w2.heap.size 33 #[.int .i64 3, .int .i64 0]]) := ⟨_, rfl, by have := (H2.out.alloc (.cells #[.int .i64 3, .int .i64 0] 33)).alloc (.cells #[.int .i64 1, .int .i64 1, .int .i64 1] 85); simpa [cb] using this⟩
   rw [← hW]
   have H3 := As hw
   clear hW hw
   generalize w2.heap.size = b2 at H3 ⊢
   go_upto_region 15 with (go_at_call 72; go_loud (refine (aleaf H3.out).mono ?_); rintro e4 w4 ⟨xl, adl, cl, rfl, h4⟩; have H4 := As h4; clear h4)
   obtain ⟨W4, hW, hw⟩ : ∃ W, W = w4.alloc (.cells #[.int .i64 0, .int .i64 1, .int .i64 xl] 85) ∧ Mt w W K (aT 5) .nilFunc R (cb w4.heap.size 85 #[.int .i64 0, .int .i64 1, .int .i64 xl] :: [cb (b2 + 1) 85 #[.int .i64 1, .int .i64 1, .int .i64 1], cb b2 33 #[.int .i64 3, .int .i64 0]]) := ⟨_, rfl, H4.out.alloc _⟩
   rw [← hW]
   have H5 := As hw
   clear hW hw
   replace H5 := As H5.out.tail
   go_upto_region 16 with (go_at_call 68; go_loud (refine (anodes5 H5.out).mono ?_); rintro e6 w6 ⟨rfl, h6⟩; have H6 := As h6; clear h6)
   obtain ⟨s0, s1, s2, -, -, -⟩ := H6.out.other.c3 (b2 + 1) 85 (.int .i64 1) (.int .i64 1) (.int .i64 1) (by simp)
   obtain ⟨r0, r1, -, -⟩ := H6.out.other.c2 b2 33 (.int .i64 3) (.int .i64 0) (by simp)
   go_upto_region 17 with (go_at_call 61; go_loud (refine (afresh5 H6.out).mono ?_); rintro e7 w7 ⟨rfl, h7⟩; have H7 := As h7; clear h7; clear s0 s1 s2 r0 r1; obtain ⟨s0, s1, s2, -, -, -⟩ := H7.out.other.c3 (b2 + 1) 85 (.int .i64 1) (.int .i64 1) (.int .i64 1) (by simp); obtain ⟨r0, r1, -, -⟩ := H7.out.other.c2 b2 33 (.int .i64 3) (.int .i64 0) (by simp))
   go_upto_region 18 with (go_at_call 66; go_loud (refine (adup H7.out).mono ?_); rintro e8 w8 ⟨ad8, c8, R8, rfl, h8⟩; have H8 := As h8; clear h8; clear s0 s1 s2 r0 r1)
   go_upto_region 19 with (go_at_call 64; go_loud (refine (adel1 H8.out).mono ?_); rintro e9 w9 ⟨ad9, c9, A9, R9, rfl, hg9, h9⟩; obtain ⟨g9, cur, rfl, rfl, -, hnc9, -, hcu⟩ := hg9.addr (by decide); have HC0 := As (hcu 0 (by decide)); have HC1 := As (hcu 1 (by decide)); have H9 := As h9; clear h9 hg9 hcu)
   obtain ⟨W9, hW, hw⟩ : ∃ W, W = w9.alloc (.cells #[.int .i64 3, .int .i64 0] 33) ∧ Mt w W K (a8) .nilFunc R9 (cb w9.heap.size 33 #[.int .i64 3, .int .i64 0] :: ([cb g9 33 cur] ++ [cb (b2 + 1) 85 #[.int .i64 1, .int .i64 1, .int .i64 1], cb b2 33 #[.int .i64 3, .int .i64 0]])) := ⟨_, rfl, H9.out.alloc _⟩
   rw [← hW]
   have H10 := As hw
   clear hW hw
   generalize w9.heap.size = b9 at H10 ⊢
   go_upto_region 20 with (go_at_call 64; go_loud (refine (adel2 H10.out).mono ?_); rintro e11 w11 ⟨ad11, c11, R11, rfl, h11⟩; have H11 := As h11; clear h11)
   obtain ⟨W11, hW, hw⟩ : ∃ W, W = w11.alloc (.cells #[.int .i64 0, .int .i64 0] 33) ∧ Mt w W K (a9) .nilFunc R11 (cb w11.heap.size 33 #[.int .i64 0, .int .i64 0] :: cb b9 33 #[.int .i64 3, .int .i64 0] :: ([cb g9 33 cur] ++ [cb (b2 + 1) 85 #[.int .i64 1, .int .i64 1, .int .i64 1], cb b2 33 #[.int .i64 3, .int .i64 0]])) := ⟨_, rfl, H11.out.alloc _⟩
   rw [← hW]
   have H12 := As hw
   clear hW hw
   generalize w11.heap.size = b11 at H12 ⊢
   go_upto_region 21 with (go_at_call 64; go_loud (refine (adel3 H12.out).mono ?_); rintro e13 w13 ⟨ad13, c13, R13, rfl, h13⟩; have H13 := As h13; clear h13)
   obtain ⟨W13, hW, hw⟩ : ∃ W, W = w13.alloc (.cells #[.int .i64 1, .int .i64 0] 33) ∧ Mt w W K (a10) .nilFunc R13 (cb w13.heap.size 33 #[.int .i64 1, .int .i64 0] :: (cb b11 33 #[.int .i64 0, .int .i64 0] :: cb b9 33 #[.int .i64 3, .int .i64 0] :: ([cb g9 33 cur] ++ [cb (b2 + 1) 85 #[.int .i64 1, .int .i64 1, .int .i64 1], cb b2 33 #[.int .i64 3, .int .i64 0]]))) := ⟨_, rfl, H13.out.alloc _⟩
   rw [← hW]
   have H14 := As hw
   clear hW hw
   replace H14 := As H14.out.tail
   go_upto_region 22 with (go_at_call 68; go_loud (refine (anodes10 H14.out).mono ?_); rintro e15 w15 ⟨rfl, h15⟩; have H15 := As h15; clear h15)
   obtain ⟨s0, s1, s2, -, -, -⟩ := H15.out.other.c3 (b2 + 1) 85 (.int .i64 1) (.int .i64 1) (.int .i64 1) (by simp)
   obtain ⟨r0, r1, -, -⟩ := H15.out.other.c2 b2 33 (.int .i64 3) (.int .i64 0) (by simp)
   obtain ⟨d0, d1, -, -⟩ := H15.out.other.c2 b9 33 (.int .i64 3) (.int .i64 0) (by simp)
   obtain ⟨f0, f1, -, -⟩ := H15.out.other.c2 b11 33 (.int .i64 0) (.int .i64 0) (by simp)
   obtain ⟨g0, g1⟩ := gcell (g := g9) (cur := cur) H15.out.other (by simp) HC0.out HC1.out
   go_wp2_with (first
    | (go_at_call 70; have hx := HF2.out; clear hx; go_loud (refine (acheck HF2.out).mono ?_); rintro e19 w19 ⟨rfl, h19⟩; have HZ := As h19; clear h19; clear s0 s1 s2 r0 r1 d0 d1 f0 f1 g0 g1)
    | (go_at_call 65; have hx := HF1.out; clear hx; go_loud (refine (afree2 HF1.out).mono ?_); rintro e18 w18 ⟨rfl, h18⟩; have HF2 := As h18; clear h18; clear s0 s1 s2 r0 r1 d0 d1 f0 f1 g0 g1; obtain ⟨s0, s1, s2, -, -, -⟩ := HF2.out.other.c3 (b2 + 1) 85 (.int .i64 1) (.int .i64 1) (.int .i64 1) (by simp); obtain ⟨r0, r1, -, -⟩ := HF2.out.other.c2 b2 33 (.int .i64 3) (.int .i64 0) (by simp); obtain ⟨d0, d1, -, -⟩ := HF2.out.other.c2 b9 33 (.int .i64 3) (.int .i64 0) (by simp); obtain ⟨f0, f1, -, -⟩ := HF2.out.other.c2 b11 33 (.int .i64 0) (.int .i64 0) (by simp); obtain ⟨g0, g1⟩ := gcell (g := g9) (cur := cur) HF2.out.other (by simp) HC0.out HC1.out)
    | (go_at_call 65; go_loud (refine (afree1 H16.out).mono ?_); rintro e17 w17 ⟨rfl, h17⟩; have HF1 := As h17; clear h17; clear s0 s1 s2 r0 r1 d0 d1 f0 f1 g0 g1; obtain ⟨s0, s1, s2, -, -, -⟩ := HF1.out.other.c3 (b2 + 1) 85 (.int .i64 1) (.int .i64 1) (.int .i64 1) (by simp); obtain ⟨r0, r1, -, -⟩ := HF1.out.other.c2 b2 33 (.int .i64 3) (.int .i64 0) (by simp); obtain ⟨d0, d1, -, -⟩ := HF1.out.other.c2 b9 33 (.int .i64 3) (.int .i64 0) (by simp); obtain ⟨f0, f1, -, -⟩ := HF1.out.other.c2 b11 33 (.int .i64 0) (.int .i64 0) (by simp); obtain ⟨g0, g1⟩ := gcell (g := g9) (cur := cur) HF1.out.other (by simp) HC0.out HC1.out)
    | (go_at_call 61; go_loud (refine (afresh10 H15.out).mono ?_); rintro e16 w16 ⟨rfl, h16⟩; have H16 := As h16; clear h16; clear s0 s1 s2 r0 r1 d0 d1 f0 f1 g0 g1; obtain ⟨s0, s1, s2, -, -, -⟩ := H16.out.other.c3 (b2 + 1) 85 (.int .i64 1) (.int .i64 1) (.int .i64 1) (by simp); obtain ⟨r0, r1, -, -⟩ := H16.out.other.c2 b2 33 (.int .i64 3) (.int .i64 0) (by simp); obtain ⟨d0, d1, -, -⟩ := H16.out.other.c2 b9 33 (.int .i64 3) (.int .i64 0) (by simp); obtain ⟨f0, f1, -, -⟩ := H16.out.other.c2 b11 33 (.int .i64 0) (.int .i64 0) (by simp); obtain ⟨g0, g1⟩ := gcell (g := g9) (cur := cur) H16.out.other (by simp) HC0.out HC1.out))
   exact bodyPost_ret (v := .bool true) (by simp [results, Try.results57, go_sem]) rfl ⟨rfl, HZ.out.bel⟩
end
section
variable {w0 w w1 : World} {L L' R X : List Ob} {K : Nat × Nat × Nat}
theorem scel_at (t : Tm) : ∀ (l : List Lv) (k j : Nat) (x : Lv) (u : Value), l[k]? = some x → (scel t x)[j]? = some u → (l.flatMap (scel t))[k * 3 + j]? = some u
 | [], k, j, x, u, h, _ => by simp at h
 | a :: l, 0, j, x, u, h, hu => by
  have e : a = x := by simpa using h
  subst e
  have hj := (List.getElem?_eq_some_iff.1 hu).1
  rw [List.flatMap_cons, Nat.zero_mul, Nat.zero_add, List.getElem?_append_left hj]
  exact hu
 | a :: l, k + 1, j, x, u, h, hu => by
  have h1 := scel_at t l k j x u (by simpa using h) hu
  rw [List.flatMap_cons, List.getElem?_append_right (by simp [scel]; omega), show (k + 1) * 3 + j - (scel t a).length = k * 3 + j by simp [scel]; omega]
  exact h1
theorem scells {t : Tm} {l : List Lv} {a : Addr} {k : Nat} {x : Lv} (h : Rd 3 w (some a) l.length (l.flatMap (scel t))) (hx : l[k]? = some x) : w.cell? (a.add (k * 3)) = some (.int .i64 x.1.1) ∧ w.cell? { block := (a.add (k * 3)).block, off := (a.add (k * 3)).off + 1 } = some (.int .i64 x.1.2) ∧ w.cell? { block := (a.add (k * 3)).block, off := (a.add (k * 3)).off + 2 } = some (.int .i64 (t.at x.1).ver) := by
 have hk := (List.getElem?_eq_some_iff.1 hx).1
 obtain ⟨b, e, hc⟩ := h.2 (by omega)
 cases e
 have z0 := hc (k * 3) _ (scel_at t l k 0 x (.int .i64 x.1.1) hx rfl)
 have z1 := hc (k * 3 + 1) _ (scel_at t l k 1 x (.int .i64 x.1.2) hx rfl)
 have z2 := hc (k * 3 + 2) _ (scel_at t l k 2 x (.int .i64 (t.at x.1).ver) hx rfl)
 rw [← Addr.add_add] at z1 z2
 exact ⟨z0, z1, z2⟩
theorem rsubT {size n : Nat} {ad : Option Addr} {xs : List Value} (h : Rdy size w0 L ad n xs) (hs : ∀ p ∈ L, p ∈ L') : Rdy size w0 L' ad n xs := fun W L2 hv h2 => h W L2 hv (fun p hp => h2 p (hs p hp))
theorem rdyT {A : List Ob} {ad : Option Addr} {c n : Nat} {xs : List Value} (h : Gr 104 3 (.slice ad n c) n xs A) : Rdy 3 w0 A ad n xs := Rdy.of_rw (Rw.of_gr h)
theorem same.law (w : World) (l m : List Dd) (a b : ByteArray) {ad am : Option Addr} {c cm : Nat} (hl : l.length ≤ 9223372036854775807) (hR : DRow w ad l) (hlm : m.length ≤ 9223372036854775807) (hRm : DRow w am m) :
  Calls Try.prog 10 #[.slice ad l.length c, .slice am m.length cm, .agg #[.string a, .string b]] w fun e w' => e = .returned (.bool true) ∧ Below w.heap.size w w' := by
 have hu31 := Try.underlying31
 have hu33 := Try.underlying33
 have hu77 := Try.underlying77
 have hu78 := Try.underlying78
 have hu80 := Try.underlying80
 have hu85 := Try.underlying85
 have hu87 := Try.underlying87
 have hu88 := Try.underlying88
 have hu89 := Try.underlying89
 have hu104 := Try.underlying104
 have hu9 := Try.underlying9
 have HRl := As (And.intro hl hR)
 have HRm := As (And.intro hlm hRm)
 have HV := As (show Hv w (w.alloc (.cells #[.string a, .string b] 78)) [cb w.heap.size 78 #[.string a, .string b]] from (Hv.start w).alloc _)
 clear hR hl hRm hlm
 obtain ⟨b0, b1, -, -⟩ := HV.out.c2 w.heap.size 78 (.string a) (.string b) (by simp)
 by_cases ha : 500 < a.size
 ·have ha' : ((a.size : Int) > 500) := by omega
  clear ha
  go_enter Try.func10, Try.ntmps10
  go_wp2_with (first | (go_at_call 56; have hx := HV1.out; clear hx; refine (few.calls _ m HRm.out.1 (HRm.out.2.below HV1.out.bel)).mono ?_; rintro em wm hq; obtain ⟨bm, rfl, hbt, hbl⟩ := hq; have HV2 := As (HV1.out.call hbl); have HTm := As hbt; clear hbl hbt; clear b0 b1; obtain ⟨b0, b1, -, -⟩ := HV2.out.c2 w.heap.size 78 (.string a) (.string b) (by simp); cases bm) | (go_at_call 56; have hx := HV.out; clear hx; refine (few.calls _ l HRl.out.1 (HRl.out.2.below HV.out.bel)).mono ?_; rintro el wl hq; obtain ⟨bl, rfl, hbt, hbl⟩ := hq; have HV1 := As (HV.out.call hbl); have HTl := As hbt; clear hbl hbt; clear b0 b1; obtain ⟨b0, b1, -, -⟩ := HV1.out.c2 w.heap.size 78 (.string a) (.string b) (by simp); cases bl) | (go_at_call 57; first | (have hx := HV2.out; clear hx; refine (awake.calls _).mono ?_; rintro e w6 ⟨rfl, hb⟩; have H6 := As (HV2.out.call hb); clear hb) | (refine (awake.calls _).mono ?_; rintro e w6 ⟨rfl, hb⟩; have H6 := As (HV1.out.call hb); clear hb)))
  all_goals exact bodyPost_ret (v := .bool true) (by simp [results, Try.results10, go_sem]) rfl ⟨rfl, H6.out.bel⟩
 ·have ha' : ¬ ((a.size : Int) > 500) := by omega
  clear ha
  by_cases hb5 : 500 < b.size
  ·have hb' : ((b.size : Int) > 500) := by omega
   clear hb5
   go_enter Try.func10, Try.ntmps10
   go_wp2_with (first | (go_at_call 56; have hx := HV1.out; clear hx; refine (few.calls _ m HRm.out.1 (HRm.out.2.below HV1.out.bel)).mono ?_; rintro em wm hq; obtain ⟨bm, rfl, hbt, hbl⟩ := hq; have HV2 := As (HV1.out.call hbl); have HTm := As hbt; clear hbl hbt; clear b0 b1; obtain ⟨b0, b1, -, -⟩ := HV2.out.c2 w.heap.size 78 (.string a) (.string b) (by simp); cases bm) | (go_at_call 56; have hx := HV.out; clear hx; refine (few.calls _ l HRl.out.1 (HRl.out.2.below HV.out.bel)).mono ?_; rintro el wl hq; obtain ⟨bl, rfl, hbt, hbl⟩ := hq; have HV1 := As (HV.out.call hbl); have HTl := As hbt; clear hbl hbt; clear b0 b1; obtain ⟨b0, b1, -, -⟩ := HV1.out.c2 w.heap.size 78 (.string a) (.string b) (by simp); cases bl) | (go_at_call 57; first | (have hx := HV2.out; clear hx; refine (awake.calls _).mono ?_; rintro e w6 ⟨rfl, hb⟩; have H6 := As (HV2.out.call hb); clear hb) | (refine (awake.calls _).mono ?_; rintro e w6 ⟨rfl, hb⟩; have H6 := As (HV1.out.call hb); clear hb)))
   all_goals exact bodyPost_ret (v := .bool true) (by simp [results, Try.results10, go_sem]) rfl ⟨rfl, H6.out.bel⟩
  ·have hb' : ¬ ((b.size : Int) > 500) := by omega
   clear hb5
   go_enter Try.func10, Try.ntmps10
   go_upto_region 3 with (first | (go_at_call 56; have hx := HV1.out; clear hx; refine (few.calls _ m HRm.out.1 (HRm.out.2.below HV1.out.bel)).mono ?_; rintro em wm hq; obtain ⟨bm, rfl, hbt, hbl⟩ := hq; have HV2 := As (HV1.out.call hbl); have HTm := As hbt; clear hbl hbt; clear b0 b1; obtain ⟨b0, b1, -, -⟩ := HV2.out.c2 w.heap.size 78 (.string a) (.string b) (by simp); cases bm) | (go_at_call 56; have hx := HV.out; clear hx; refine (few.calls _ l HRl.out.1 (HRl.out.2.below HV.out.bel)).mono ?_; rintro el wl hq; obtain ⟨bl, rfl, hbt, hbl⟩ := hq; have HV1 := As (HV.out.call hbl); have HTl := As hbt; clear hbl hbt; clear b0 b1; obtain ⟨b0, b1, -, -⟩ := HV1.out.c2 w.heap.size 78 (.string a) (.string b) (by simp); cases bl) | (go_at_call 57; first | (have hx := HV2.out; clear hx; refine (awake.calls _).mono ?_; rintro e w6 ⟨rfl, hb⟩; have H6 := As (HV2.out.call hb); clear hb) | (refine (awake.calls _).mono ?_; rintro e w6 ⟨rfl, hb⟩; have H6 := As (HV1.out.call hb); clear hb)))
   ·exact bodyPost_ret (v := .bool true) (by simp [results, Try.results10, go_sem]) rfl ⟨rfl, H6.out.bel⟩
   ·exact bodyPost_ret (v := .bool true) (by simp [results, Try.results10, go_sem]) rfl ⟨rfl, H6.out.bel⟩
   ·have HFl := As (HTl.out (by simp))
    have HFm := As (HTm.out (by simp))
    clear b0 b1
    obtain ⟨gx, hgx⟩ : ∃ gx, gx = w.heap.size := ⟨_, rfl⟩
    rw [← hgx] at HV2 ⊢
    clear hgx HV HV1
    go_wp2_with (go_at_call 58; go_loud (refine (newOk.calls HV2.out 200 (by decide) (by decide)).mono ?_; rintro e1 w2 ⟨K, rfl, h1⟩; have H1 := As (Kt.new h1); clear h1))
    go_loopg [9] l.length (fun kq v9 wr => ∃ (k : Nat) (t : Tm) (h : Nat) (its : List It), v9 = .int .i64 (k : Int) ∧ kq = l.length - k ∧ k ≤ l.length ∧ Aside0 (Kt w wr K [cb gx 78 #[.string a, .string b]] k t h its))
    case atStart => exact ⟨0, _, _, _, rfl, rfl, Nat.zero_le _, H1⟩
    case round =>
     obtain ⟨k, t, h, its, rfl, rfl, hk, HK⟩ := hrel
     clear H1 HV2
     have hk7 : k ≤ 120 := by have := HFl.out; omega
     by_cases hltn : k < l.length
     ·have hlt' : (k : Int) < (l.length : Int) := by omega
      have ew : IntKind.i64.wrap ((k : Int) + 1) = ((k + 1 : Nat) : Int) := by rw [IntKind.wrap_i64]; omega
      have ew' : wrap64 ((k : Int) + 1) = ((k + 1 : Nat) : Int) := by unfold wrap64; omega
      obtain ⟨d, hd⟩ : ∃ d, l[k]? = some d := ⟨_, List.getElem?_eq_getElem hltn⟩
      obtain ⟨adl, ea, hcl⟩ := HRl.out.2 k d hd
      cases ea
      have z0 := pw_cell_below HK.out.bel (hcl 0 (.int .i64 d.1) rfl)
      have z1 := pw_cell_below HK.out.bel (hcl 1 (.string d.2.1) rfl)
      have z2 := pw_cell_below HK.out.bel (hcl 2 (.int .i64 d.2.2.1.1) rfl)
      have z3 := pw_cell_below HK.out.bel (hcl 3 (.int .i64 d.2.2.1.2) rfl)
      have z4 := pw_cell_below HK.out.bel (hcl 4 (.int .i64 d.2.2.2.1.1) rfl)
      have z5 := pw_cell_below HK.out.bel (hcl 5 (.int .i64 d.2.2.2.1.2) rfl)
      have z6 := pw_cell_below HK.out.bel (hcl 6 (.int .i64 d.2.2.2.2) rfl)
      rw [Nat.add_zero] at z0
      rw [add_next _ _ _ (by omega)] at z1 z2 z3 z4 z5 z6
      clear hcl hd
      go_wp2_with (go_at_call 59; go_loud (refine (do.calls HK.out (by omega) d).mono ?_; rintro e3 w3 ⟨rfl, t2, h2, its2, hh, hs⟩; have H3 := As hh; clear hh hs; clear z0 z1 z2 z3 z4 z5 z6))
      go_roundg (l.length - (k + 1))
      case measure => omega
      case rel => exact ⟨k + 1, t2, h2, its2, by first | rfl | go_num, rfl, hltn, H3⟩
     ·have hge : ¬ (k : Int) < (l.length : Int) := by omega
      have HK0 := As HK.out.inv
      have HKk := As hk7
      clear hk hk7 hltn
      obtain ⟨b0, b1, -, -⟩ := HK.out.other.c2 gx 78 (.string a) (.string b) (by simp)
      go_wp2_with (go_at_call 60; go_loud (refine (span.calls HK.out a b).mono ?_; rintro e4 w4 ⟨seg, s1, c1, A1, s2, c2, A2, rfl, hG1, hG2, hh, hsl, hsub, hcov⟩; have H4 := As hh; have HG1 := As hG1; have HG2 := As hG2; have HSC := As (And.intro hsl (And.intro hsub hcov)); clear hh hG1 hG2 hsl hsub hcov b0 b1))
      obtain ⟨was, hwas⟩ : ∃ was, its.filter (inR a b) = was := ⟨_, rfl⟩
      rw [hwas] at HG2 ⊢
      have HWAS := As hwas
      clear hwas
      have HWL := As (show was.length ≤ 900000 from by
       obtain ⟨ns, V, iv⟩ := HK0.out
       obtain ⟨p, lv, hpl⟩ := iv.lvs
       have h1 := itemsLen t p (fun y hy => by
        obtain ⟨l1, q1, hd1, _⟩ := iv.dn y.2.1
        have h2 := (lv.way y hy y.2.1 (lv.ch.nemp (.inl rfl) y hy) l1 q1 hd1).1
        obtain ⟨hm1, -, -⟩ := iv.leaf hd1
        have h3 := iv.sm q1 hm1
        unfold Small at h3
        rw [← h2]
        unfold itemsOf
        rw [List.length_zip]
        omega)
       rw [lv.its] at h1
       have h4 := List.length_filter_le (inR a b) its
       rw [HWAS.out] at h4
       omega)
      go_loopg [12] m.length (fun kq v12 wm => ∃ (j : Nat) (t2 : Tm) (h2 : Nat) (its2 : List It), v12 = .int .i64 (j : Int) ∧ kq = m.length - j ∧ j ≤ m.length ∧ Aside0 (Kt w wm K (A2 ++ (A1 ++ [cb gx 78 #[.string a, .string b]])) (k + j) t2 h2 its2) ∧ Aside0 (Step t h t2 h2))
      case atStart => exact ⟨0, t, h, its, rfl, rfl, Nat.zero_le _, H4, ⟨Step.refl t h⟩⟩
      case round =>
       obtain ⟨j, t2, h2, its2, rfl, rfl, hj, HK2, HST⟩ := hrel
       clear H4 HK
       have hj7 : j ≤ 120 := by have := HFm.out; omega
       by_cases hjlt : j < m.length
       ·have hjlt' : (j : Int) < (m.length : Int) := by omega
        have HJ := As hjlt
        have ew : IntKind.i64.wrap ((j : Int) + 1) = ((j + 1 : Nat) : Int) := by rw [IntKind.wrap_i64]; omega
        have ew' : wrap64 ((j : Int) + 1) = ((j + 1 : Nat) : Int) := by unfold wrap64; omega
        obtain ⟨d, hd⟩ : ∃ d, m[j]? = some d := ⟨_, List.getElem?_eq_getElem hjlt⟩
        obtain ⟨adl, ea, hcl⟩ := HRm.out.2 j d hd
        cases ea
        have z0 := pw_cell_below HK2.out.bel (hcl 0 (.int .i64 d.1) rfl)
        have z1 := pw_cell_below HK2.out.bel (hcl 1 (.string d.2.1) rfl)
        have z2 := pw_cell_below HK2.out.bel (hcl 2 (.int .i64 d.2.2.1.1) rfl)
        have z3 := pw_cell_below HK2.out.bel (hcl 3 (.int .i64 d.2.2.1.2) rfl)
        have z4 := pw_cell_below HK2.out.bel (hcl 4 (.int .i64 d.2.2.2.1.1) rfl)
        have z5 := pw_cell_below HK2.out.bel (hcl 5 (.int .i64 d.2.2.2.1.2) rfl)
        have z6 := pw_cell_below HK2.out.bel (hcl 6 (.int .i64 d.2.2.2.2) rfl)
        rw [Nat.add_zero] at z0
        rw [add_next _ _ _ (by omega)] at z1 z2 z3 z4 z5 z6
        clear hcl hd
        go_wp2_with (go_at_call 59; go_loud (refine (do.calls HK2.out (by have := HKk.out; omega) d).mono ?_; rintro e5 w5 ⟨rfl, t3, h3, its3, hh, hs⟩; have H5 := As hh; have HS5 := As (Step.after HK0.out HST.out hs); clear hh hs; clear z0 z1 z2 z3 z4 z5 z6))
        go_loopg [13, 14] seg.length (fun kq v13 v14 wf => ∃ (i : Nat) (fb : Bool), v13 = .bool fb ∧ v14 = .int .i64 (i : Int) ∧ kq = seg.length - i ∧ i ≤ seg.length ∧ Aside0 (fb = true → ∀ y ∈ seg.take i, t3.fresh y.1 (t.at y.1).ver = true) ∧ Aside0 (Kt w wf K (A2 ++ (A1 ++ [cb gx 78 #[.string a, .string b]])) (k + j + 1) t3 h3 its3))
        case atStart => exact ⟨0, true, rfl, rfl, rfl, Nat.zero_le _, ⟨fun _ y hy => by simp at hy⟩, H5⟩
        case round =>
         obtain ⟨i, fb, rfl, rfl, rfl, hi, HF, HKf⟩ := hrel
         clear H5 HK2
         have hi7 : i ≤ 200 := by have := HSC.out.1; omega
         by_cases hilt : i < seg.length
         ·have hilt' : (i : Int) < (seg.length : Int) := by omega
          have ei : IntKind.i64.wrap ((i : Int) + 1) = ((i + 1 : Nat) : Int) := by rw [IntKind.wrap_i64]; omega
          have ei' : wrap64 ((i : Int) + 1) = ((i + 1 : Nat) : Int) := by unfold wrap64; omega
          obtain ⟨y, hy⟩ : ∃ y, seg[i]? = some y := ⟨_, List.getElem?_eq_getElem hilt⟩
          have HYi := As (show seg.take (i + 1) = seg.take i ++ [y] by rw [List.take_succ_eq_append_getElem hilt, (List.getElem?_eq_some_iff.1 hy).2])
          cases fb
          ·clear hy
           go_wp2_with fail
           go_roundg (seg.length - (i + 1))
           case measure => exact Nat.sub_lt_sub_left hilt (Nat.lt_succ_self i)
           case rel => exact ⟨i + 1, false, rfl, by first | rfl | go_num, rfl, hilt, ⟨fun e => by cases e⟩, HKf⟩
          ·have hrd := (Rdy.of_rw (w0 := w) (Rw.of_gr HG1.out)).now HKf.out.other.right.left
           obtain ⟨g1, ea, -⟩ := hrd.2 (Nat.lt_of_le_of_lt (Nat.zero_le i) hilt)
           cases ea
           obtain ⟨y0, y1, y2⟩ := scells hrd hy
           clear hrd hy
           go_wp2_with (go_at_call 61; go_loud (refine (HKf.out.fresh y.1 (t.at y.1).ver).mono ?_; rintro e6 w6 ⟨rfl, hh⟩; have H6 := As hh; clear hh y0 y1 y2))
           go_roundg (seg.length - (i + 1))
           case measure => exact Nat.sub_lt_sub_left hilt (Nat.lt_succ_self i)
           case rel => exact ⟨i + 1, t3.fresh y.1 (t.at y.1).ver, rfl, by first | rfl | go_num, rfl, hilt, ⟨fun e z hz => by
            rw [HYi.out] at hz
            rcases List.mem_append.1 hz with hz | hz
            ·exact HF.out (by simp) z hz
            ·rw [List.mem_singleton.1 hz]; exact e⟩, H6⟩
         ·have hge2 : ¬ (i : Int) < (seg.length : Int) := by omega
          have HF2 := As (show fb = true → ∀ y ∈ seg, t3.fresh y.1 (t.at y.1).ver = true from fun e y hy => HF.out e y (by rw [List.take_of_length_le (by omega)]; exact hy))
          clear hi hilt hi7
          obtain ⟨b0, b1, -, -⟩ := HKf.out.other.c2 gx 78 (.string a) (.string b) (by simp)
          go_upto_region 21 with (go_at_call 60; go_loud (refine (span.calls HKf.out a b).mono ?_; rintro e7 w7 ⟨sg2, s3, c3, A3, s4, c4, A4, rfl, hG3, hG4, hh, -, -, -⟩; have H7 := As hh; have HG4 := As hG4; clear hh hG3 hG4 b0 b1))
          cases fb
          ·go_wp2_with fail
           go_roundg (m.length - (j + 1))
           case measure => have := HJ.out; omega
           case rel => exact ⟨j + 1, t3, h3, its3, by first | rfl | go_num, rfl, HJ.out, ⟨H7.out.drop ((List.sublist_append_right A3 _).trans (List.sublist_append_right A4 _))⟩, HS5⟩
          ·have HBT := As ((between HK0.out HKf.out.inv HS5.out HSC.out.2.1 HSC.out.2.2 (HF2.out rfl)).trans HWAS.out)
           rw [HBT.out] at HG4 ⊢
           go_wp2_with (go_at_call 62; go_loud (refine (H7.out.sameI (l := was) (by have := HWL.out; omega) (rsubT (rdyT HG2.out) (fun p hp => by simp [hp])) (rsubT (rdyT HG4.out) (fun p hp => by simp [hp]))).mono ?_; rintro e8 w8 ⟨rfl, hh⟩; have H8 := As hh; clear hh))
           go_roundg (m.length - (j + 1))
           case measure => have := HJ.out; omega
           case rel => exact ⟨j + 1, t3, h3, its3, by first | rfl | go_num, rfl, HJ.out, ⟨H8.out.drop ((List.sublist_append_right A3 _).trans (List.sublist_append_right A4 _))⟩, HS5⟩
       ·have hge2 : ¬ (j : Int) < (m.length : Int) := by omega
        go_wp2_with (go_at_call 57; go_loud (refine (awake.calls _).mono ?_; rintro e9 w9 ⟨rfl, hb⟩; have H9 := As (HK2.out.call hb); clear hb))
        exact bodyPost_ret (v := .bool true) (by simp [results, Try.results10, go_sem]) rfl ⟨rfl, H9.out.bel⟩
end
end Go.Proofs.Ytglbcfkmaamhaaa.Tr
namespace Go.Proofs.Ytglbcfkmaamhaaa.Opens
open Go.RowKit Go.Proofs.YtglbcfkmaamhaaaW.PrintWords Go.WideShapes
section
def Opens {α : Type} (P : Program) (d : Kd α) (good : α → Prop) (t : TypeId) : Prop :=
 ∀ (H : Type) (enc : TypeId × Value → H) (w : World) (base : Nat) (spare : Nat → Bool) (held : Bool) (fuel : Nat) (cs : List Value) (x : DataW H × List MemPlace),
  DataW.trod enc P w base spare held fuel t cs = some x → ∃ v, d.K w v cs ∧ good v
theorem Opens.imp {α : Type} {P : Program} {d : Kd α} {g g' : α → Prop} {t : TypeId} (h : Opens P d g t) (hg : ∀ x, g x → g' x) : Opens P d g' t := fun H enc w base spare held fuel cs x hx => by
 obtain ⟨v, hv, h1⟩ := h H enc w base spare held fuel cs x hx
 exact ⟨v, hv, hg v h1⟩
theorem opens_int {P : Program} {k : IntKind} {t : TypeId} (ht : P.underlying t = some (.int k)) : Opens P (Kd.int k) (fun n => (Lit.int k n).wf = true) t := fun H enc w base spare held fuel cs x hx => by
 obtain ⟨n, rfl, _, hw⟩ := DataW.trod_int ht hx
 exact ⟨n, rfl, hw⟩
theorem opens_string {P : Program} {t : TypeId} (ht : P.underlying t = some .string) : Opens P Kd.string (fun s => s.size ≤ maxLen) t := fun H enc w base spare held fuel cs x hx => by
 obtain ⟨s, rfl, _, hs⟩ := DataW.trod_string ht hx
 exact ⟨s, rfl, hs⟩
theorem cells_list (w : World) (base : Nat) (a : Addr) (n : Nat) {cs : List Value} (h : w.cells? base a n = some cs) : cs.length = n ∧ ∀ i u, cs[i]? = some u → w.cell? (a.add i) = some u := by
 obtain ⟨_, hl, hc⟩ := World.cells?_some h
 refine ⟨hl, fun i u hu => ?_⟩
 have hi : i < cs.length := (List.getElem?_eq_some_iff.1 hu).1
 exact (hc i (by omega)).trans hu
theorem choose_nat {α : Type} {p : Nat → α → Prop} : ∀ m : Nat, (∀ i, i < m → ∃ x, p i x) → ∃ xs : List α, xs.length = m ∧ ∀ i x, xs[i]? = some x → p i x
 | 0, _ => ⟨[], rfl, fun i x h => by simp at h⟩
 | m + 1, h => by
  obtain ⟨xs, hl, hx⟩ := choose_nat m (fun i hi => h i (by omega))
  obtain ⟨y, hy⟩ := h m (by omega)
  refine ⟨xs ++ [y], by simp [hl], fun i x hix => ?_⟩
  rcases Nat.lt_or_ge i xs.length with h1 | h1
  ·rw [List.getElem?_append_left h1] at hix
   exact hx i x hix
  ·have hi : i = m := by
    have := (List.getElem?_eq_some_iff.1 hix).1
    rw [List.length_append, List.length_singleton] at this
    omega
   subst hi
   rw [← hl, List.getElem?_append_right (Nat.le_refl _), Nat.sub_self] at hix
   have : y = x := by simpa using hix
   subst this
   exact hy
theorem addr_add (a : Addr) (i j : Nat) : (a.add i).add j = a.add (i + j) := by
 unfold Addr.add
 by_cases hi : i = 0 <;> by_cases hj : j = 0 <;> simp [hi, hj, Nat.add_assoc]
theorem opens_slice {α : Type} {P : Program} {d : Kd α} {g : α → Prop} {t e : TypeId} {q : Nat} (ht : P.underlying t = some (.slice e)) (hc : P.cellsOf e = d.sz) (he : Opens P d g e) :
  Opens P (Kd.slice q d) (fun xs => xs.length ≤ maxLen ∧ ∀ x ∈ xs, g x) t := fun H enc w base spare held fuel cs x hx => by
 rcases Go.Deep.open_slice ht hx with ⟨rfl, _⟩ | ⟨a, len, cap, m, n, D, Pl, rfl, _, hl, hm, hmm, _, hel⟩
 ·exact ⟨[], ⟨none, 0, rfl, Nat.le_refl _, ⟨rfl, by simp, fun h => absurd h (Nat.lt_irrefl 0)⟩⟩, by simp, by simp⟩
 ·have hlm : len ≤ m := by rw [hmm]; split <;> omega
  obtain ⟨xs, hxl, hxs⟩ := choose_nat (p := fun i (z : α) => g z ∧ ∃ c : List Value, c.length = d.sz ∧ d.K w z c ∧ ∀ j u, c[j]? = some u → w.cell? (a.add (i * d.sz + j)) = some u) len (fun i hi => by
   obtain ⟨cs', h1, h2⟩ := hel i (by omega)
   rw [hc] at h1
   obtain ⟨hcl, hcc⟩ := cells_list w base _ _ h1
   obtain ⟨z, hz, hg⟩ := he H enc w base spare held n cs' _ h2
   exact ⟨z, hg, cs', hcl, hz, fun j u hu => by rw [← addr_add]; exact hcc j u hu⟩)
  have hm' : len ≤ 9223372036854775807 := by unfold maxLen at hm; omega
  refine ⟨xs, ⟨some a, cap, by rw [hxl], by omega, ⟨rfl, by omega, fun _ => ⟨a, rfl, fun j p hj => ?_⟩⟩⟩, by omega, fun z hz => ?_⟩
  ·obtain ⟨_, c, h1, h2, h3⟩ := hxs j p hj
   exact ⟨c, h1, h2, h3⟩
  ·obtain ⟨i, hi⟩ := List.mem_iff_getElem?.1 hz
   exact (hxs i z hi).1
def Fields {α : Type} (P : Program) (d : Kd α) (good : α → Prop) (fs : Array Field) (i o : Nat) : Prop :=
 ∀ (H : Type) (enc : TypeId × Value → H) (w : World) (base : Nat) (spare : Nat → Bool) (held : Bool) (n : Nat) (cs : List Value) (xs : List (DataW H × List MemPlace)), xs.length = fs.size → cs.length = o + d.sz →
  (∀ (i : Nat) (f : Field), fs[i]? = some f → DataW.trod enc P w base spare held n f.type ((cs.drop f.offset).take (P.cellsOf f.type)) = xs[i]?) → ∃ v, d.K w v (cs.drop o) ∧ good v
theorem fields_last {α : Type} {P : Program} {d : Kd α} {g : α → Prop} {fs : Array Field} {i o : Nat} {f : Field} (hf : fs[i]? = some f) (ho : f.offset = o) (hs : P.cellsOf f.type = d.sz) (h : Opens P d g f.type) : Fields P d g fs i o :=
 fun H enc w base spare held n cs xs hx hl hr => by
  have hi : i < xs.length := by rw [hx]; exact (Array.getElem?_eq_some_iff.1 hf).1
  have h1 := hr i f hf
  rw [List.getElem?_eq_getElem hi, ho, hs, List.take_of_length_le (by rw [List.length_drop]; omega)] at h1
  exact h H enc w base spare held n _ _ h1
theorem fields_cons {α β : Type} {P : Program} {a : Kd α} {b : Kd β} {g : α → Prop} {g' : β → Prop} {fs : Array Field} {i o : Nat} {f : Field} (hf : fs[i]? = some f) (ho : f.offset = o) (hs : P.cellsOf f.type = a.sz) (h : Opens P a g f.type)
  (hr : Fields P b g' fs (i + 1) (o + a.sz)) : Fields P (Kd.pair a b) (fun x => g x.1 ∧ g' x.2) fs i o :=
 fun H enc w base spare held n cs xs hx hl hrd => by
  have hi : i < xs.length := by rw [hx]; exact (Array.getElem?_eq_some_iff.1 hf).1
  have h1 := hrd i f hf
  rw [List.getElem?_eq_getElem hi, ho, hs] at h1
  obtain ⟨v, hv, hg⟩ := h H enc w base spare held n _ _ h1
  obtain ⟨u, hu, hg'⟩ := hr H enc w base spare held n cs xs hx (by rw [hl]; show o + (a.sz + b.sz) = _; omega) hrd
  refine ⟨(v, u), ⟨_, _, ?_, hv, hu⟩, hg, hg'⟩
  rw [← List.drop_drop, List.take_append_drop]
theorem opens_struct {α β : Type} {P : Program} {d : Kd α} {g : α → Prop} {t : TypeId} {fs : Array Field} (ht : P.underlying t = some (.struct fs)) (hs : P.cellsOf t = d.sz) (h : Fields P d g fs 0 0) (f : β → α) (inv : α → β) (hfi : ∀ y, f (inv y) = y) :
  Opens P (Kd.iso d f) (fun x => g (f x)) t := fun H enc w base spare held fuel cs x hx => by
 obtain ⟨xs, n, _, _, hl, hxl, hr⟩ := DataW.trod_struct ht hx
 obtain ⟨v, hv, hg⟩ := h H enc w base spare held n cs xs hxl (by rw [hl, hs]; omega) hr
 refine ⟨inv v, ?_, by show g (f (inv v)); rw [hfi]; exact hg⟩
 show d.K w (f (inv v)) cs
 rw [hfi]
 exact hv
theorem opens_array {α : Type} {P : Program} {d : Kd α} {g : α → Prop} {t e : TypeId} {n : Nat} (ht : P.underlying t = some (.array n e)) (hc : P.cellsOf e = d.sz) (he : Opens P d g e)
  (H : Type) (enc : TypeId × Value → H) (w : World) (base : Nat) (spare : Nat → Bool) (held : Bool) (fuel : Nat) (cs : List Value) (x : DataW H × List MemPlace) (hx : DataW.trod enc P w base spare held fuel t cs = some x) :
  ∃ xs : List α, xs.length = n ∧ (∀ z ∈ xs, g z) ∧ ∀ i z, xs[i]? = some z → d.K w z ((cs.drop (i * d.sz)).take d.sz) := by
 obtain ⟨ys, m, _, _, _, hyl, hi⟩ := DataW.trod_array ht hx
 obtain ⟨xs, hxl, hxs⟩ := choose_nat (p := fun i (z : α) => g z ∧ d.K w z ((cs.drop (i * d.sz)).take d.sz)) n (fun i hin => by
  have h1 := hi i hin
  rw [hc, List.getElem?_eq_getElem (by omega)] at h1
  obtain ⟨z, hz, hg⟩ := he H enc w base spare held m _ _ h1
  exact ⟨z, hg, hz⟩)
 refine ⟨xs, hxl, fun z hz => ?_, fun i z hz => (hxs i z hz).2⟩
 obtain ⟨i, hi⟩ := List.mem_iff_getElem?.1 hz
 exact (hxs i z hi).1
theorem arg_slice {α : Type} {P : Program} {d : Kd α} {g : α → Prop} {t e : TypeId} (ht : P.underlying t = some (.slice e)) (hc : P.cellsOf e = d.sz) (he : Opens P d g e)
  {H : Type} {enc : TypeId × Value → H} {w : World} {base b0 : Nat} {spare : Nat → Bool} {held : Bool} {r : Reach} {v : Value} {x : DataW H} {p : List MemPlace} (hv : Value.okWide P w r b0 t v) (h : DataW.Trod enc P w base spare held t v x p) :
  ∃ (A : Option Addr) (c : Nat) (xs : List α), v = .slice A xs.length c ∧ xs.length ≤ c ∧ d.C w A xs.length xs ∧ xs.length ≤ maxLen ∧ ∀ z ∈ xs, g z := by
 obtain ⟨a, len, cap, rfl⟩ := okWide_slice ht hv
 obtain ⟨fuel, hf⟩ := h
 obtain ⟨xs, ⟨A, c, hcs, hl, hC⟩, hm, hg⟩ := opens_slice (q := 0) ht hc he H enc w base spare held fuel _ _ hf
 simp [Value.cells] at hcs
 obtain ⟨rfl, rfl, rfl⟩ := hcs
 exact ⟨_, _, xs, rfl, hl, hC, hm, hg⟩
theorem okWide_array {P : Program} {w : World} {r : Reach} {b0 : Nat} {n : Nat} {t e : TypeId} {v : Value} (ht : P.underlying t = some (.array n e)) (h : Value.okWide P w r b0 t v) : ∃ cs, v = .agg cs ∧ cs.size = P.cellsOf t := by
 simp only [Value.okWide, ht] at h
 obtain ⟨cs, h1, h2, _⟩ := h
 exact ⟨cs, h1, h2⟩
theorem arg_array {α : Type} {P : Program} {d : Kd α} {g : α → Prop} {t e : TypeId} {n : Nat} (ht : P.underlying t = some (.array n e)) (hn : P.cellsOf t = n * d.sz) (hc : P.cellsOf e = d.sz) (he : Opens P d g e)
  {H : Type} {enc : TypeId × Value → H} {w : World} {base b0 : Nat} {spare : Nat → Bool} {held : Bool} {r : Reach} {v : Value} {x : DataW H} {p : List MemPlace} (hv : Value.okWide P w r b0 t v) (h : DataW.Trod enc P w base spare held t v x p) :
  ∃ (xs : List α) (cs : List Value), v = .agg cs.toArray ∧ cs.length = n * d.sz ∧ xs.length = n ∧ (∀ z ∈ xs, g z) ∧ ∀ i z, xs[i]? = some z → d.K w z ((cs.drop (i * d.sz)).take d.sz) := by
 obtain ⟨cs, rfl, hs⟩ := okWide_array ht hv
 obtain ⟨fuel, hf⟩ := h
 obtain ⟨xs, h1, h2, h3⟩ := opens_array ht hc he H enc w base spare held fuel _ _ hf
 exact ⟨xs, cs.toList, by simp, by simpa [hn] using hs, h1, h2, h3⟩
theorem two_scalars {α : Type} {enc : α → Value} {h1 : ∀ x, (enc x).oneCell' = true} {g : α → Prop} {w : World} {xs : List α} {cs : List Value} (hcl : cs.length = 2 * (Kd.scalar enc h1).sz) (hxl : xs.length = 2) (hg : ∀ z ∈ xs, g z)
  (hK : ∀ i z, xs[i]? = some z → (Kd.scalar enc h1).K w z ((cs.drop (i * (Kd.scalar enc h1).sz)).take (Kd.scalar enc h1).sz)) : ∃ a b, xs = [a, b] ∧ cs = [enc a, enc b] ∧ g a ∧ g b := by
 match xs, hxl with
 | [a, b], _ =>
  have e0 : (cs.drop (0 * 1)).take 1 = [enc a] := hK 0 a rfl
  have e1 : (cs.drop (1 * 1)).take 1 = [enc b] := hK 1 b rfl
  have hl : cs.length = 2 := hcl
  match cs, hl with
  | [c, d], _ =>
   simp at e0 e1
   exact ⟨a, b, rfl, by rw [e0, e1], hg a (by simp), hg b (by simp)⟩
end
end Go.Proofs.Ytglbcfkmaamhaaa.Opens
