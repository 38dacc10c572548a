/- A text of this claim: parts TsR TsS TtD Opens. No condition. -/
import Derived.Test.YtglbcfkmaamhaaaHG20
import Derived.Test.YtglbcfkmaamhaaaHG23
import Derived.Test.YtglbcfkmaamhaaaHG12
import Derived.Test.YtglbcfkmaamhaaaHG0
import Derived.BigQuiet
import Derived.OpenShut
import Derived.ChangeArms
import Derived.Deep.Slices
import Derived.WideShapes
set_option linter.unusedVariables false
set_option linter.unusedSimpArgs false
set_option maxHeartbeats 16000000
set_option maxRecDepth 100000
namespace Go.Proofs.Ytglbcfkmaamhaaa.Tr
open Go Go.RowKit Go.Proofs.YtglbcfkmaamhaaaW.PrintWords Go.Proofs.Ytglbcfkmaamhaaa.Hv Go.Proofs.Ytglbcfkmaamhaaa.Arm Go.Proofs.Ytglbcfkmaamhaaa.Nd Go.Proofs.Ytglbcfkmaamhaaa.ArN
section
variable {w0 w w1 : World} {L L' R : List Ob} {K : Nat × Nat × Nat} {on : Value}
theorem aput0 (h : Mt w0 w K (aT 0) on R L) : Calls Try.prog 66 #[.pointer (some ⟨K.1, 0, none⟩), .string ⟨#[97]⟩, .agg #[.int .i64 0, .int .i64 0]] w fun e w' => ∃ ad c R', e = .returned (.tuple #[.slice ad 1 c, .int .i64 0]) ∧ Mt w0 w' K (aT 1) .nilFunc R' L := by
 have hr : (aT 0).root = (0, 1) := by kernel_rfl
 have hl : ((aT 0).putW ⟨#[97]⟩ (0, 0) [] (0, 1)).2.1.length = 1 := by kernel_rfl
 have he : ((aT 0).putW ⟨#[97]⟩ (0, 0) [] (0, 1)).2.2 = 0 := by kernel_rfl
 refine (tput.calls h ⟨#[97]⟩ (0, 0) (l := []) (q := (0, 1)) (by rw [hr]; exact Dn.leaf _ (by kernel_rfl)) (ok_of (by kernel_rfl)) (mb := 10) (by decide) (bd_of (by kernel_rfl)) (by decide)).mono ?_
 rintro e w' ⟨ad, c, A, R', rfl, hG, hh⟩
 exact ⟨ad, c, R', by rw [hl, he], hh.drop (List.sublist_append_right _ _)⟩
theorem aput1 (h : Mt w0 w K (aT 1) on R L) : Calls Try.prog 66 #[.pointer (some ⟨K.1, 0, none⟩), .string ⟨#[98]⟩, .agg #[.int .i64 1, .int .i64 0]] w fun e w' => ∃ ad c R', e = .returned (.tuple #[.slice ad 1 c, .int .i64 0]) ∧ Mt w0 w' K (aT 2) .nilFunc R' L := by
 have hr : (aT 1).root = (0, 1) := by kernel_rfl
 have hl : ((aT 1).putW ⟨#[98]⟩ (1, 0) [] (0, 1)).2.1.length = 1 := by kernel_rfl
 have he : ((aT 1).putW ⟨#[98]⟩ (1, 0) [] (0, 1)).2.2 = 0 := by kernel_rfl
 refine (tput.calls h ⟨#[98]⟩ (1, 0) (l := []) (q := (0, 1)) (by rw [hr]; exact Dn.leaf _ (by kernel_rfl)) (ok_of (by kernel_rfl)) (mb := 10) (by decide) (bd_of (by kernel_rfl)) (by decide)).mono ?_
 rintro e w' ⟨ad, c, A, R', rfl, hG, hh⟩
 exact ⟨ad, c, R', by rw [hl, he], hh.drop (List.sublist_append_right _ _)⟩
theorem aput2 (h : Mt w0 w K (aT 2) on R L) : Calls Try.prog 66 #[.pointer (some ⟨K.1, 0, none⟩), .string ⟨#[99]⟩, .agg #[.int .i64 2, .int .i64 0]] w fun e w' => ∃ ad c R', e = .returned (.tuple #[.slice ad 1 c, .int .i64 0]) ∧ Mt w0 w' K (aT 3) .nilFunc R' L := by
 have hr : (aT 2).root = (0, 1) := by kernel_rfl
 have hl : ((aT 2).putW ⟨#[99]⟩ (2, 0) [] (0, 1)).2.1.length = 1 := by kernel_rfl
 have he : ((aT 2).putW ⟨#[99]⟩ (2, 0) [] (0, 1)).2.2 = 0 := by kernel_rfl
 refine (tput.calls h ⟨#[99]⟩ (2, 0) (l := []) (q := (0, 1)) (by rw [hr]; exact Dn.leaf _ (by kernel_rfl)) (ok_of (by kernel_rfl)) (mb := 10) (by decide) (bd_of (by kernel_rfl)) (by decide)).mono ?_
 rintro e w' ⟨ad, c, A, R', rfl, hG, hh⟩
 exact ⟨ad, c, R', by rw [hl, he], hh.drop (List.sublist_append_right _ _)⟩
theorem aput3 (h : Mt w0 w K (aT 3) on R L) : Calls Try.prog 66 #[.pointer (some ⟨K.1, 0, none⟩), .string ⟨#[100]⟩, .agg #[.int .i64 3, .int .i64 0]] w fun e w' => ∃ ad c R', e = .returned (.tuple #[.slice ad 1 c, .int .i64 0]) ∧ Mt w0 w' K (aT 4) .nilFunc R' L := by
 have hr : (aT 3).root = (0, 1) := by kernel_rfl
 have hl : ((aT 3).putW ⟨#[100]⟩ (3, 0) [] (0, 1)).2.1.length = 1 := by kernel_rfl
 have he : ((aT 3).putW ⟨#[100]⟩ (3, 0) [] (0, 1)).2.2 = 0 := by kernel_rfl
 refine (tput.calls h ⟨#[100]⟩ (3, 0) (l := []) (q := (0, 1)) (by rw [hr]; exact Dn.leaf _ (by kernel_rfl)) (ok_of (by kernel_rfl)) (mb := 10) (by decide) (bd_of (by kernel_rfl)) (by decide)).mono ?_
 rintro e w' ⟨ad, c, A, R', rfl, hG, hh⟩
 exact ⟨ad, c, R', by rw [hl, he], hh.drop (List.sublist_append_right _ _)⟩
theorem aput4 (h : Mt w0 w K (aT 4) on R L) : Calls Try.prog 66 #[.pointer (some ⟨K.1, 0, none⟩), .string ⟨#[101]⟩, .agg #[.int .i64 4, .int .i64 0]] w fun e w' => ∃ ad c R', e = .returned (.tuple #[.slice ad 2 c, .int .i64 0]) ∧ Mt w0 w' K (aT 5) .nilFunc R' L := by
 have hr : (aT 4).root = (0, 1) := by kernel_rfl
 have hl : ((aT 4).putW ⟨#[101]⟩ (4, 0) [] (0, 1)).2.1.length = 2 := by kernel_rfl
 have he : ((aT 4).putW ⟨#[101]⟩ (4, 0) [] (0, 1)).2.2 = 0 := by kernel_rfl
 refine (tput.calls h ⟨#[101]⟩ (4, 0) (l := []) (q := (0, 1)) (by rw [hr]; exact Dn.leaf _ (by kernel_rfl)) (ok_of (by kernel_rfl)) (mb := 10) (by decide) (bd_of (by kernel_rfl)) (by decide)).mono ?_
 rintro e w' ⟨ad, c, A, R', rfl, hG, hh⟩
 exact ⟨ad, c, R', by rw [hl, he], hh.drop (List.sublist_append_right _ _)⟩
theorem a5root : (aT 5).root = (2, 1) := by kernel_rfl
theorem a5dn_d : Dn (aT 5) ⟨#[100]⟩ (aT 5).root [((2, 1), 1)] (1, 1) := by
 rw [a5root]
 have hc : ((aT 5).at (2, 1)).child ⟨#[100]⟩ = 1 := by kernel_rfl
 have := Dn.step (t := aT 5) (key := ⟨#[100]⟩) (2, 1) (1, 1) [] (1, 1) (by kernel_rfl) (ok_of (by kernel_rfl)) (by kernel_rfl) (Dn.leaf (1, 1) (by kernel_rfl))
 rw [hc] at this
 exact this
theorem a5dn_b : Dn (aT 5) ⟨#[98]⟩ (aT 5).root [((2, 1), 0)] (0, 1) := by
 rw [a5root]
 have hc : ((aT 5).at (2, 1)).child ⟨#[98]⟩ = 0 := by kernel_rfl
 have := Dn.step (t := aT 5) (key := ⟨#[98]⟩) (2, 1) (0, 1) [] (0, 1) (by kernel_rfl) (ok_of (by kernel_rfl)) (by kernel_rfl) (Dn.leaf (0, 1) (by kernel_rfl))
 rw [hc] at this
 exact this
theorem afind (h : Mt w0 w K (aT 5) on R L) : Calls Try.prog 71 #[.pointer (some ⟨K.1, 0, none⟩), .string ⟨#[100]⟩] w fun e w' => e = .returned (.tuple #[.agg #[.int .i64 3, .int .i64 0], .bool true, .agg #[.int .i64 1, .int .i64 1, .int .i64 1]]) ∧ Mt w0 w' K (aT 5) .nilFunc R L := by
 have hf : (aT 5).find ⟨#[100]⟩ (1, 1) = ((3, 0), true) := by kernel_rfl
 have hv : ((aT 5).at (1, 1)).ver = 1 := by kernel_rfl
 refine (find.calls h ⟨#[100]⟩ a5dn_d (ok_of (by kernel_rfl))).mono ?_
 rintro e w' ⟨rfl, hh⟩
 exact ⟨by rw [hf, hv], hh⟩
theorem aleaf (h : Mt w0 w K (aT 5) on R L) : Calls Try.prog 72 #[.pointer (some ⟨K.1, 0, none⟩), .string ⟨#[98]⟩] w fun e w' => ∃ x ad c, e = .returned (.tuple #[.agg #[.int .i64 0, .int .i64 1, .int .i64 x], .slice ad 3 c, .string ⟨#[100]⟩]) ∧ Mt w0 w' K (aT 5) .nilFunc R L := by
 have hl : (itemsOf ((aT 5).at (0, 1))).length = 3 := by kernel_rfl
 have he : endF (aT 5) ⟨#[]⟩ [((2, 1), 0)] = ⟨#[100]⟩ := by kernel_rfl
 refine (leaf.calls h ⟨#[98]⟩ a5dn_b (by decide) (by kernel_rfl) (Nat.le_of_ble_eq_true (by kernel_rfl))).mono ?_
 rw [he]
 rintro e w' ⟨ad, c, A, rfl, hG, hh⟩
 exact ⟨_, ad, c, by rw [hl], hh.drop (List.sublist_append_right _ _)⟩
theorem anodes5 (h : Mt w0 w K (aT 5) on R L) : Calls Try.prog 68 #[.pointer (some ⟨K.1, 0, none⟩)] w fun e w' => e = .returned (.tuple #[.int .i64 3, .int .i64 0]) ∧ Mt w0 w' K (aT 5) on R L := by
 have h1 : (((aT 5).p.held : Int) - ((aT 5).gone.length : Int)) = 3 := by kernel_rfl
 have h2 : ((aT 5).gone.length : Int) = 0 := by kernel_rfl
 refine (nodes.calls h (Nat.le_of_ble_eq_true (by kernel_rfl))).mono ?_
 rintro e w' ⟨rfl, hh⟩
 exact ⟨by rw [h1, h2], hh⟩
theorem afresh5 (h : Mt w0 w K (aT 5) on R L) : Calls Try.prog 61 #[.pointer (some ⟨K.1, 0, none⟩), .agg #[.int .i64 1, .int .i64 1, .int .i64 1]] w fun e w' => e = .returned (.bool true) ∧ Mt w0 w' K (aT 5) on R L := by
 have h1 : (aT 5).fresh (1, 1) 1 = true := by kernel_rfl
 refine (fresh.calls h (1, 1) 1).mono ?_
 rintro e w' ⟨rfl, hh⟩
 exact ⟨by rw [h1], hh⟩
theorem adup (h : Mt w0 w K (aT 5) on R L) : Calls Try.prog 66 #[.pointer (some ⟨K.1, 0, none⟩), .string ⟨#[100]⟩, .agg #[.int .i64 3, .int .i64 0]] w fun e w' => ∃ ad c R', e = .returned (.tuple #[.slice ad 0 c, .int .i64 13]) ∧ Mt w0 w' K (aT 5) .nilFunc R' L := by
 have hp : (aT 5).putW ⟨#[100]⟩ (3, 0) [((2, 1), 1)] (1, 1) = (aT 5, [], 13) := by
  have hf : ((aT 5).find ⟨#[100]⟩ (1, 1)).2 = true := by kernel_rfl
  unfold Tm.putW
  rw [hf]
  rfl
 refine (tput.calls h ⟨#[100]⟩ (3, 0) a5dn_d (ok_of (by kernel_rfl)) (mb := 10) (by decide) (bd_of (by kernel_rfl)) (by decide)).mono ?_
 rw [hp]
 rintro e w' ⟨ad, c, A, R', rfl, hG, hh⟩
 exact ⟨ad, c, R', rfl, hh.drop (List.sublist_append_right _ _)⟩
def a6 : Tm := (aT 5).set (1, 1) (((aT 5).at (1, 1)).delete ⟨#[100]⟩).1
def a7 : Tm := (a6.merge (2, 1) (1, 1)).1
def a8 : Tm := a7.sink
def a9 : Tm := a8.set (0, 1) ((a8.at (0, 1)).delete ⟨#[97]⟩).1
def a10 : Tm := a9.set (0, 1) ((a9.at (0, 1)).delete ⟨#[98]⟩).1
def a11 : Tm := (a10.free (1, 1)).1
theorem ajok : JOk a6 (2, 1) := ⟨ok_of (by kernel_rfl), by kernel_rfl, bd_of (by kernel_rfl), Nat.lt_of_lt_of_le (Nat.lt_of_le_of_lt (Nat.le_of_ble_eq_true (by kernel_rfl) : a6.gone.length ≤ 0) (by decide : 0 < 1)) (by decide)⟩
theorem adel1 (h : Mt w0 w K (aT 5) on R L) : Calls Try.prog 64 #[.pointer (some ⟨K.1, 0, none⟩), .string ⟨#[100]⟩] w fun e w' => ∃ ad c A R', e = .returned (.tuple #[.agg #[.int .i64 3, .int .i64 0], .slice ad 2 c, .bool true]) ∧ Gr 33 2 (.slice ad 2 c) 2 (([(1, 1), (2, 1)] : List Rf).flatMap rcel) A ∧ Mt w0 w' K a8 .nilFunc R' (A ++ L) := by
 have hd1 : (((aT 5).at (1, 1)).delete ⟨#[100]⟩).2 = ((3, 0), true) := by kernel_rfl
 have hm2 : (a6.merge (2, 1) (1, 1)).2.2 = true := by kernel_rfl
 have hg1 : (a6.merge (2, 1) (1, 1)).2.1 = (1, 1) := by kernel_rfl
 have hr7 : a7.root = (2, 1) := by kernel_rfl
 have hu1 : Up1 (wayL [((2, 1), 1)] (1, 1)) 1 (a6, []) (a7, [] ++ [(1, 1)]) := by
  have := Up1.yes (s := wayL [((2, 1), 1)] (1, 1)) 0 (a6, []) ((a6.merge (2, 1) (1, 1)).1, [] ++ [(a6.merge (2, 1) (1, 1)).2.1]) (by show (a6.at (1, 1)).refs.length < 2; exact Nat.lt_of_le_of_lt (Nat.le_of_ble_eq_true (by kernel_rfl) : _ ≤ 1) (by decide)) ajok hm2 (Up1.top _)
  rw [hg1] at this
  exact this
 have hu2 : Up2 1 (a7, [] ++ [(1, 1)]) (a8, ([] ++ [(1, 1)]) ++ [(2, 1)]) := by
  have := Up2.step 0 (a7, ([] ++ [(1, 1)] : List Rf)) (a7.sink, ([] ++ [(1, 1)]) ++ [a7.root]) (by kernel_rfl) (by kernel_rfl) (Nat.lt_of_le_of_lt (Nat.le_of_ble_eq_true (by kernel_rfl) : a7.gone.length ≤ 1) (by decide)) (Up2.stop 0 _ (.inl (by kernel_rfl)))
  rw [hr7] at this
  exact this
 refine (delT.yes h ⟨#[100]⟩ a5dn_d (ok_of (by kernel_rfl)) (by decide) (m := (((aT 5).at (1, 1)).delete ⟨#[100]⟩).1) (r := (3, 0)) (Prod.ext rfl hd1) hu1 hu2 (by decide)).mono ?_
 rintro e w' ⟨ad, c, A, R', rfl, hG, hh⟩
 exact ⟨ad, c, A, R', rfl, hG, hh⟩
theorem adel2 (h : Mt w0 w K a8 on R L) : Calls Try.prog 64 #[.pointer (some ⟨K.1, 0, none⟩), .string ⟨#[97]⟩] w fun e w' => ∃ ad c R', e = .returned (.tuple #[.agg #[.int .i64 0, .int .i64 0], .slice ad 0 c, .bool true]) ∧ Mt w0 w' K a9 .nilFunc R' L := by
 have hr : a8.root = (0, 1) := by kernel_rfl
 have hd1 : ((a8.at (0, 1)).delete ⟨#[97]⟩).2 = ((0, 0), true) := by kernel_rfl
 refine (delT.yes h ⟨#[97]⟩ (l := []) (q := (0, 1)) (by rw [hr]; exact Dn.leaf _ (by kernel_rfl)) (ok_of (by kernel_rfl)) (by decide) (m := ((a8.at (0, 1)).delete ⟨#[97]⟩).1) (r := (0, 0)) (Prod.ext rfl hd1) (p1 := (a9, [])) (p2 := (a9, [])) (k2 := 0) (Up1.top _) (Up2.stop 0 _ (.inl (by kernel_rfl))) (by decide)).mono ?_
 rintro e w' ⟨ad, c, A, R', rfl, hG, hh⟩
 exact ⟨ad, c, R', rfl, hh.drop (List.sublist_append_right _ _)⟩
theorem adel3 (h : Mt w0 w K a9 on R L) : Calls Try.prog 64 #[.pointer (some ⟨K.1, 0, none⟩), .string ⟨#[98]⟩] w fun e w' => ∃ ad c R', e = .returned (.tuple #[.agg #[.int .i64 1, .int .i64 0], .slice ad 0 c, .bool true]) ∧ Mt w0 w' K a10 .nilFunc R' L := by
 have hr : a9.root = (0, 1) := by kernel_rfl
 have hd1 : ((a9.at (0, 1)).delete ⟨#[98]⟩).2 = ((1, 0), true) := by kernel_rfl
 refine (delT.yes h ⟨#[98]⟩ (l := []) (q := (0, 1)) (by rw [hr]; exact Dn.leaf _ (by kernel_rfl)) (ok_of (by kernel_rfl)) (by decide) (m := ((a9.at (0, 1)).delete ⟨#[98]⟩).1) (r := (1, 0)) (Prod.ext rfl hd1) (p1 := (a10, [])) (p2 := (a10, [])) (k2 := 0) (Up1.top _) (Up2.stop 0 _ (.inl (by kernel_rfl))) (by decide)).mono ?_
 rintro e w' ⟨ad, c, A, R', rfl, hG, hh⟩
 exact ⟨ad, c, R', rfl, hh.drop (List.sublist_append_right _ _)⟩
theorem anodes10 (h : Mt w0 w K a10 on R L) : Calls Try.prog 68 #[.pointer (some ⟨K.1, 0, none⟩)] w fun e w' => e = .returned (.tuple #[.int .i64 1, .int .i64 2]) ∧ Mt w0 w' K a10 on R L := by
 have h1 : ((a10.p.held : Int) - (a10.gone.length : Int)) = 1 := by kernel_rfl
 have h2 : (a10.gone.length : Int) = 2 := by kernel_rfl
 refine (nodes.calls h (Nat.le_of_ble_eq_true (by kernel_rfl))).mono ?_
 rintro e w' ⟨rfl, hh⟩
 exact ⟨by rw [h1, h2], hh⟩
theorem afresh10 (h : Mt w0 w K a10 on R L) : Calls Try.prog 61 #[.pointer (some ⟨K.1, 0, none⟩), .agg #[.int .i64 1, .int .i64 1, .int .i64 1]] w fun e w' => e = .returned (.bool false) ∧ Mt w0 w' K a10 on R L := by
 have h1 : a10.fresh (1, 1) 1 = false := by kernel_rfl
 refine (fresh.calls h (1, 1) 1).mono ?_
 rintro e w' ⟨rfl, hh⟩
 exact ⟨by rw [h1], hh⟩
theorem afree1 (h : Mt w0 w K a10 on R L) : Calls Try.prog 65 #[.pointer (some ⟨K.1, 0, none⟩), .agg #[.int .i64 1, .int .i64 1]] w fun e w' => e = .returned (.bool true) ∧ Mt w0 w' K a11 on R L := by
 have h1 : (a10.free (1, 1)).2 = true := by kernel_rfl
 refine (tfree.calls h (1, 1) (Nat.le_of_ble_eq_true (by kernel_rfl))).mono ?_
 rintro e w' ⟨rfl, hh⟩
 exact ⟨by rw [h1], hh⟩
theorem afree2 (h : Mt w0 w K a11 on R L) : Calls Try.prog 65 #[.pointer (some ⟨K.1, 0, none⟩), .agg #[.int .i64 1, .int .i64 1]] w fun e w' => e = .returned (.bool false) ∧ Mt w0 w' K a11 on R L := by
 have hi : Nat.ble a11.gone.length (idxF (1, 1) a11.gone) = true := by kernel_rfl
 have h1 : a11.free (1, 1) = (a11, false) := by
  unfold Tm.free
  rw [if_neg (Nat.not_lt.2 (Nat.le_of_ble_eq_true hi))]
 refine (tfree.calls h (1, 1) (Nat.le_of_ble_eq_true (by kernel_rfl))).mono ?_
 rw [h1]
 exact fun e w' hh => hh
theorem acheck (h : Mt w0 w K a11 on R L) : Calls Try.prog 70 #[.pointer (some ⟨K.1, 0, none⟩)] w fun e w' => e = .returned (.bool true) ∧ Mt w0 w' K a11 on R L := by
 have hr : a11.root = (0, 1) := by kernel_rfl
 have hb : ((visits a11 0 a11.root 0 ⟨#[]⟩ ⟨#[]⟩).foldl chkS chk0).ok = true := by kernel_rfl
 have hc : ((visits a11 0 a11.root 0 ⟨#[]⟩ ⟨#[]⟩).foldl chkS chk0).cnt = 1 := by kernel_rfl
 have hh1 : ((a11.p.held : Int) - (a11.gone.length : Int)) = 1 := by kernel_rfl
 have hs : Nd.Sm (a11.at a11.root) := (ok_of (by rw [hr]; kernel_rfl)).sm
 exact tcheck.calls h (hh := 0) (m := 10) (by decide) ⟨by rw [hr]; kernel_rfl, hs⟩ (by show 1 ≤ 10; decide) (by decide) (Nat.le_of_ble_eq_true (by kernel_rfl)) rfl (by rw [hb, hc, hh1]; rfl)
end
end Go.Proofs.Ytglbcfkmaamhaaa.Tr
namespace Go.Proofs.Ytglbcfkmaamhaaa.Tr
open Go Go.RowKit Go.Proofs.YtglbcfkmaamhaaaW.PrintWords Go.Proofs.YtglbcfkmaamhaaaW.PrintLast Go.Proofs.YtglbcfkmaamhaaaW.PrintMore Go.Proofs.Ytglbcfkmaamhaaa.Hv Go.Proofs.Ytglbcfkmaamhaaa.Arm Go.Proofs.Ytglbcfkmaamhaaa.Nd Go.Proofs.Ytglbcfkmaamhaaa.ArN
section
variable {w0 w w1 : World} {L L' R : List Ob} {K : Nat × Nat × Nat} {on : Value}
theorem gcell {g : Nat} {cur : Array Value} {x y : Value} (h : Hv w0 w L) (hm : cb g 33 cur ∈ L) (h0 : cur[0]? = some x) (h1 : cur[1]? = some y) : w.cell? ⟨g, 0, none⟩ = some x ∧ w.cell? ⟨g, 1, none⟩ = some y := ⟨h.cell hm 0 h0, h.cell hm 1 h1⟩
def lst : Nat → Int
 | 0 => 0
 | 5 => 2
 | _ => 1
theorem aw_idx0 (w : World) : (Instr.index 144 (.agg #[.string ⟨#[97]⟩, .string ⟨#[98]⟩, .string ⟨#[99]⟩, .string ⟨#[100]⟩, .string ⟨#[101]⟩]) (.int .i64 0)).run Try.prog w = .ok (.string ⟨#[97]⟩) w := by kernel_rfl
theorem aw_idx1 (w : World) : (Instr.index 144 (.agg #[.string ⟨#[97]⟩, .string ⟨#[98]⟩, .string ⟨#[99]⟩, .string ⟨#[100]⟩, .string ⟨#[101]⟩]) (.int .i64 1)).run Try.prog w = .ok (.string ⟨#[98]⟩) w := by kernel_rfl
theorem aw_idx2 (w : World) : (Instr.index 144 (.agg #[.string ⟨#[97]⟩, .string ⟨#[98]⟩, .string ⟨#[99]⟩, .string ⟨#[100]⟩, .string ⟨#[101]⟩]) (.int .i64 2)).run Try.prog w = .ok (.string ⟨#[99]⟩) w := by kernel_rfl
theorem aw_idx3 (w : World) : (Instr.index 144 (.agg #[.string ⟨#[97]⟩, .string ⟨#[98]⟩, .string ⟨#[99]⟩, .string ⟨#[100]⟩, .string ⟨#[101]⟩]) (.int .i64 3)).run Try.prog w = .ok (.string ⟨#[100]⟩) w := by kernel_rfl
theorem aw_idx4 (w : World) : (Instr.index 144 (.agg #[.string ⟨#[97]⟩, .string ⟨#[98]⟩, .string ⟨#[99]⟩, .string ⟨#[100]⟩, .string ⟨#[101]⟩]) (.int .i64 4)).run Try.prog w = .ok (.string ⟨#[101]⟩) w := by kernel_rfl
theorem awake.calls (w : World) : Calls Try.prog 57 #[] w fun e w' => e = .returned (.bool true) ∧ Below w.heap.size w w' := by
 have hu33 := Try.underlying33
 have hu85 := Try.underlying85
 have hu31 := Try.underlying31
 have hu80 := Try.underlying80
 have hu144 := Try.underlying144
 go_enter Try.func57, Try.ntmps57
 go_wp2_with (first | (go_at_call 58; go_loud (refine (newOk.calls (Hv.start w) 20 (by decide) (by decide)).mono ?_); rintro e1 w1 ⟨K, rfl, h1⟩; have H1 := As (show Mt w w1 K (aT 0) .nilFunc [] [] from h1); clear h1))
 go_loopg [3, 41] 5 (fun kq v3 v41 wr => ∃ (k : Nat), v3 = .int .i64 (lst k) ∧ v41 = .int .i64 (k : Int) ∧ kq = 5 - k ∧ k ≤ 5 ∧ Aside0 (∃ R, Mt w wr K (aT k) .nilFunc R []))
 case atStart => exact ⟨0, rfl, rfl, rfl, by omega, ⟨[], H1.out⟩⟩
 case round =>
  obtain ⟨k, rfl, rfl, rfl, hk, HS⟩ := hrel
  clear H1
  obtain rfl | rfl | rfl | rfl | rfl | rfl : k = 0 ∨ k = 1 ∨ k = 2 ∨ k = 3 ∨ k = 4 ∨ k = 5 := by omega
  ·obtain ⟨R, hS⟩ := HS.out
   have HT := As hS
   clear hS HS
   have hi := aw_idx0
   go_wp2_with (first | (go_at_call 66; go_loud (refine (aput0 HT.out).mono ?_); rintro e2 w2 ⟨ad, c, R2, rfl, h2⟩; have H2 := As h2; clear h2))
   go_roundg (5 - (0 + 1))
   case measure => omega
   case rel => exact ⟨0 + 1, by rfl, by rfl, by omega, by omega, ⟨R2, H2.out⟩⟩
  ·obtain ⟨R, hS⟩ := HS.out
   have HT := As hS
   clear hS HS
   have hi := aw_idx1
   go_wp2_with (first | (go_at_call 66; go_loud (refine (aput1 HT.out).mono ?_); rintro e2 w2 ⟨ad, c, R2, rfl, h2⟩; have H2 := As h2; clear h2))
   go_roundg (5 - (1 + 1))
   case measure => omega
   case rel => exact ⟨1 + 1, by rfl, by rfl, by omega, by omega, ⟨R2, H2.out⟩⟩
  ·obtain ⟨R, hS⟩ := HS.out
   have HT := As hS
   clear hS HS
   have hi := aw_idx2
   go_wp2_with (first | (go_at_call 66; go_loud (refine (aput2 HT.out).mono ?_); rintro e2 w2 ⟨ad, c, R2, rfl, h2⟩; have H2 := As h2; clear h2))
   go_roundg (5 - (2 + 1))
   case measure => omega
   case rel => exact ⟨2 + 1, by rfl, by rfl, by omega, by omega, ⟨R2, H2.out⟩⟩
  ·obtain ⟨R, hS⟩ := HS.out
   have HT := As hS
   clear hS HS
   have hi := aw_idx3
   go_wp2_with (first | (go_at_call 66; go_loud (refine (aput3 HT.out).mono ?_); rintro e2 w2 ⟨ad, c, R2, rfl, h2⟩; have H2 := As h2; clear h2))
   go_roundg (5 - (3 + 1))
   case measure => omega
   case rel => exact ⟨3 + 1, by rfl, by rfl, by omega, by omega, ⟨R2, H2.out⟩⟩
  ·obtain ⟨R, hS⟩ := HS.out
   have HT := As hS
   clear hS HS
   have hi := aw_idx4
   go_wp2_with (first | (go_at_call 66; go_loud (refine (aput4 HT.out).mono ?_); rintro e2 w2 ⟨ad, c, R2, rfl, h2⟩; have H2 := As h2; clear h2))
   go_roundg (5 - (4 + 1))
   case measure => omega
   case rel => exact ⟨4 + 1, by rfl, by rfl, by omega, by omega, ⟨R2, H2.out⟩⟩
  ·obtain ⟨R, hS⟩ := HS.out
   have HT := As hS
   clear hS HS
   go_upto_region 14 with (go_at_call 71; go_loud (refine (afind HT.out).mono ?_); rintro e2 w2 ⟨rfl, h2⟩; have H2 := As h2; clear h2)
   obtain ⟨W2, hW, hw⟩ : ∃ W, W = (w2.alloc (.cells #[.int .i64 3, .int .i64 0] 33)).alloc (.cells #[.int .i64 1, .int .i64 1, .int .i64 1] 85) ∧ Mt w W K (aT 5) .nilFunc R ([cb (w2.heap.size + 1) 85 #[.int .i64 1, .int .i64 1, .int .i64 1], cb w2.heap.size 33 #[.int .i64 3, .int .i64 0]]) := ⟨_, rfl, by have := (H2.out.alloc (.cells #[.int .i64 3, .int .i64 0] 33)).alloc (.cells #[.int .i64 1, .int .i64 1, .int .i64 1] 85); simpa [cb] using this⟩
   rw [← hW]
   have H3 := As hw
   clear hW hw
   generalize w2.heap.size = b2 at H3 ⊢
   go_upto_region 15 with (go_at_call 72; go_loud (refine (aleaf H3.out).mono ?_); rintro e4 w4 ⟨xl, adl, cl, rfl, h4⟩; have H4 := As h4; clear h4)
   obtain ⟨W4, hW, hw⟩ : ∃ W, W = w4.alloc (.cells #[.int .i64 0, .int .i64 1, .int .i64 xl] 85) ∧ Mt w W K (aT 5) .nilFunc R (cb w4.heap.size 85 #[.int .i64 0, .int .i64 1, .int .i64 xl] :: [cb (b2 + 1) 85 #[.int .i64 1, .int .i64 1, .int .i64 1], cb b2 33 #[.int .i64 3, .int .i64 0]]) := ⟨_, rfl, H4.out.alloc _⟩
   rw [← hW]
   have H5 := As hw
   clear hW hw
   replace H5 := As H5.out.tail
   go_upto_region 16 with (go_at_call 68; go_loud (refine (anodes5 H5.out).mono ?_); rintro e6 w6 ⟨rfl, h6⟩; have H6 := As h6; clear h6)
   obtain ⟨s0, s1, s2, -, -, -⟩ := H6.out.other.c3 (b2 + 1) 85 (.int .i64 1) (.int .i64 1) (.int .i64 1) (by simp)
   obtain ⟨r0, r1, -, -⟩ := H6.out.other.c2 b2 33 (.int .i64 3) (.int .i64 0) (by simp)
   go_upto_region 17 with (go_at_call 61; go_loud (refine (afresh5 H6.out).mono ?_); rintro e7 w7 ⟨rfl, h7⟩; have H7 := As h7; clear h7; clear s0 s1 s2 r0 r1; obtain ⟨s0, s1, s2, -, -, -⟩ := H7.out.other.c3 (b2 + 1) 85 (.int .i64 1) (.int .i64 1) (.int .i64 1) (by simp); obtain ⟨r0, r1, -, -⟩ := H7.out.other.c2 b2 33 (.int .i64 3) (.int .i64 0) (by simp))
   go_upto_region 18 with (go_at_call 66; go_loud (refine (adup H7.out).mono ?_); rintro e8 w8 ⟨ad8, c8, R8, rfl, h8⟩; have H8 := As h8; clear h8; clear s0 s1 s2 r0 r1)
   go_upto_region 19 with (go_at_call 64; go_loud (refine (adel1 H8.out).mono ?_); rintro e9 w9 ⟨ad9, c9, A9, R9, rfl, hg9, h9⟩; obtain ⟨g9, cur, rfl, rfl, -, hnc9, -, hcu⟩ := hg9.addr (by decide); have HC0 := As (hcu 0 (by decide)); have HC1 := As (hcu 1 (by decide)); have H9 := As h9; clear h9 hg9 hcu)
   obtain ⟨W9, hW, hw⟩ : ∃ W, W = w9.alloc (.cells #[.int .i64 3, .int .i64 0] 33) ∧ Mt w W K (a8) .nilFunc R9 (cb w9.heap.size 33 #[.int .i64 3, .int .i64 0] :: ([cb g9 33 cur] ++ [cb (b2 + 1) 85 #[.int .i64 1, .int .i64 1, .int .i64 1], cb b2 33 #[.int .i64 3, .int .i64 0]])) := ⟨_, rfl, H9.out.alloc _⟩
   rw [← hW]
   have H10 := As hw
   clear hW hw
   generalize w9.heap.size = b9 at H10 ⊢
   go_upto_region 20 with (go_at_call 64; go_loud (refine (adel2 H10.out).mono ?_); rintro e11 w11 ⟨ad11, c11, R11, rfl, h11⟩; have H11 := As h11; clear h11)
   obtain ⟨W11, hW, hw⟩ : ∃ W, W = w11.alloc (.cells #[.int .i64 0, .int .i64 0] 33) ∧ Mt w W K (a9) .nilFunc R11 (cb w11.heap.size 33 #[.int .i64 0, .int .i64 0] :: cb b9 33 #[.int .i64 3, .int .i64 0] :: ([cb g9 33 cur] ++ [cb (b2 + 1) 85 #[.int .i64 1, .int .i64 1, .int .i64 1], cb b2 33 #[.int .i64 3, .int .i64 0]])) := ⟨_, rfl, H11.out.alloc _⟩
   rw [← hW]
   have H12 := As hw
   clear hW hw
   generalize w11.heap.size = b11 at H12 ⊢
   go_upto_region 21 with (go_at_call 64; go_loud (refine (adel3 H12.out).mono ?_); rintro e13 w13 ⟨ad13, c13, R13, rfl, h13⟩; have H13 := As h13; clear h13)
   obtain ⟨W13, hW, hw⟩ : ∃ W, W = w13.alloc (.cells #[.int .i64 1, .int .i64 0] 33) ∧ Mt w W K (a10) .nilFunc R13 (cb w13.heap.size 33 #[.int .i64 1, .int .i64 0] :: (cb b11 33 #[.int .i64 0, .int .i64 0] :: cb b9 33 #[.int .i64 3, .int .i64 0] :: ([cb g9 33 cur] ++ [cb (b2 + 1) 85 #[.int .i64 1, .int .i64 1, .int .i64 1], cb b2 33 #[.int .i64 3, .int .i64 0]]))) := ⟨_, rfl, H13.out.alloc _⟩
   rw [← hW]
   have H14 := As hw
   clear hW hw
   replace H14 := As H14.out.tail
   go_upto_region 22 with (go_at_call 68; go_loud (refine (anodes10 H14.out).mono ?_); rintro e15 w15 ⟨rfl, h15⟩; have H15 := As h15; clear h15)
   obtain ⟨s0, s1, s2, -, -, -⟩ := H15.out.other.c3 (b2 + 1) 85 (.int .i64 1) (.int .i64 1) (.int .i64 1) (by simp)
   obtain ⟨r0, r1, -, -⟩ := H15.out.other.c2 b2 33 (.int .i64 3) (.int .i64 0) (by simp)
   obtain ⟨d0, d1, -, -⟩ := H15.out.other.c2 b9 33 (.int .i64 3) (.int .i64 0) (by simp)
   obtain ⟨f0, f1, -, -⟩ := H15.out.other.c2 b11 33 (.int .i64 0) (.int .i64 0) (by simp)
   obtain ⟨g0, g1⟩ := gcell (g := g9) (cur := cur) H15.out.other (by simp) HC0.out HC1.out
   go_wp2_with (first
    | (go_at_call 70; have hx := HF2.out; clear hx; go_loud (refine (acheck HF2.out).mono ?_); rintro e19 w19 ⟨rfl, h19⟩; have HZ := As h19; clear h19; clear s0 s1 s2 r0 r1 d0 d1 f0 f1 g0 g1)
    | (go_at_call 65; have hx := HF1.out; clear hx; go_loud (refine (afree2 HF1.out).mono ?_); rintro e18 w18 ⟨rfl, h18⟩; have HF2 := As h18; clear h18; clear s0 s1 s2 r0 r1 d0 d1 f0 f1 g0 g1; obtain ⟨s0, s1, s2, -, -, -⟩ := HF2.out.other.c3 (b2 + 1) 85 (.int .i64 1) (.int .i64 1) (.int .i64 1) (by simp); obtain ⟨r0, r1, -, -⟩ := HF2.out.other.c2 b2 33 (.int .i64 3) (.int .i64 0) (by simp); obtain ⟨d0, d1, -, -⟩ := HF2.out.other.c2 b9 33 (.int .i64 3) (.int .i64 0) (by simp); obtain ⟨f0, f1, -, -⟩ := HF2.out.other.c2 b11 33 (.int .i64 0) (.int .i64 0) (by simp); obtain ⟨g0, g1⟩ := gcell (g := g9) (cur := cur) HF2.out.other (by simp) HC0.out HC1.out)
    | (go_at_call 65; go_loud (refine (afree1 H16.out).mono ?_); rintro e17 w17 ⟨rfl, h17⟩; have HF1 := As h17; clear h17; clear s0 s1 s2 r0 r1 d0 d1 f0 f1 g0 g1; obtain ⟨s0, s1, s2, -, -, -⟩ := HF1.out.other.c3 (b2 + 1) 85 (.int .i64 1) (.int .i64 1) (.int .i64 1) (by simp); obtain ⟨r0, r1, -, -⟩ := HF1.out.other.c2 b2 33 (.int .i64 3) (.int .i64 0) (by simp); obtain ⟨d0, d1, -, -⟩ := HF1.out.other.c2 b9 33 (.int .i64 3) (.int .i64 0) (by simp); obtain ⟨f0, f1, -, -⟩ := HF1.out.other.c2 b11 33 (.int .i64 0) (.int .i64 0) (by simp); obtain ⟨g0, g1⟩ := gcell (g := g9) (cur := cur) HF1.out.other (by simp) HC0.out HC1.out)
    | (go_at_call 61; go_loud (refine (afresh10 H15.out).mono ?_); rintro e16 w16 ⟨rfl, h16⟩; have H16 := As h16; clear h16; clear s0 s1 s2 r0 r1 d0 d1 f0 f1 g0 g1; obtain ⟨s0, s1, s2, -, -, -⟩ := H16.out.other.c3 (b2 + 1) 85 (.int .i64 1) (.int .i64 1) (.int .i64 1) (by simp); obtain ⟨r0, r1, -, -⟩ := H16.out.other.c2 b2 33 (.int .i64 3) (.int .i64 0) (by simp); obtain ⟨d0, d1, -, -⟩ := H16.out.other.c2 b9 33 (.int .i64 3) (.int .i64 0) (by simp); obtain ⟨f0, f1, -, -⟩ := H16.out.other.c2 b11 33 (.int .i64 0) (.int .i64 0) (by simp); obtain ⟨g0, g1⟩ := gcell (g := g9) (cur := cur) H16.out.other (by simp) HC0.out HC1.out))
   exact bodyPost_ret (v := .bool true) (by simp [results, Try.results57, go_sem]) rfl ⟨rfl, HZ.out.bel⟩
end
section
variable {w0 w w1 : World} {L L' R A B : List Ob} {K : Nat × Nat × Nat} {t : Tm} {on : Value} {N k : Nat} {its l : List It}
theorem rsub {size n : Nat} {ad : Option Addr} {xs : List Value} (h : Rdy size w0 L ad n xs) (hs : ∀ p ∈ L, p ∈ L') : Rdy size w0 L' ad n xs := fun W L2 hv h2 => h W L2 hv (fun p hp => h2 p (hs p hp))
theorem rdyA {ad : Option Addr} {c n : Nat} {xs : List Value} (h : Gr 104 3 (.slice ad n c) n xs A) : Rdy 3 w0 A ad n xs := Rdy.of_rw (Rw.of_gr h)
theorem Kp.less (H : Kp w0 w K N L its k) (hl : l.length ≤ 100000) {a0 : Option Addr} {c0 : Nat} (hR : Rdy 3 w0 L a0 l.length (l.flatMap icel)) (key : ByteArray) : Calls Try.prog 63 #[.slice a0 l.length c0, .string key] w fun e w' => ∃ ad c B, e = .returned (.tuple #[.slice ad (delI key l).length c, .bool (hit key l)]) ∧ Gr 104 3 (.slice ad (delI key l).length c) (delI key l).length ((delI key l).flatMap icel) B ∧ Kp w0 w' K N (B ++ L) its k := by
 obtain ⟨Q, h1, h2, h3⟩ := H.any
 refine (less.calls h1 l hl (rsub hR h2) key).mono ?_
 rintro e w' ⟨ad, c, B, rfl, hG, hv⟩
 exact ⟨ad, c, B, rfl, hG, h3 w' B hv⟩
theorem Kp.list (H : Kp w0 w K N L its k) (hl : l.length ≤ 100000) {a0 : Option Addr} {c0 : Nat} (hR : Rdy 3 w0 L a0 l.length (l.flatMap icel)) (x : It) : Calls Try.prog 67 #[.slice a0 l.length c0, .agg #[.string x.1, .int .i64 x.2.1, .int .i64 x.2.2]] w fun e w' => ∃ ad c B, e = .returned (.slice ad (insI x l).length c) ∧ Gr 104 3 (.slice ad (insI x l).length c) (insI x l).length ((insI x l).flatMap icel) B ∧ Kp w0 w' K N (B ++ L) its k := by
 obtain ⟨Q, h1, h2, h3⟩ := H.any
 refine (list.calls h1 l hl (rsub hR h2) x).mono ?_
 rintro e w' ⟨ad, c, B, rfl, hG, hv⟩
 exact ⟨ad, c, B, rfl, hG, h3 w' B hv⟩
theorem Kp.sameI (H : Kp w0 w K N L its k) (hl : l.length ≤ 1000000) {b1 b2 : Option Addr} {d1 d2 : Nat} (hR1 : Rdy 3 w0 L b1 l.length (l.flatMap icel)) (hR2 : Rdy 3 w0 L b2 l.length (l.flatMap icel)) : Calls Try.prog 62 #[.slice b1 l.length d1, .slice b2 l.length d2] w fun e w' => e = .returned (.bool true) ∧ Kp w0 w' K N L its k := by
 obtain ⟨Q, h1, h2, h3⟩ := H.any
 exact (sameItems.calls h1 l hl (rsub hR1 h2) (rsub hR2 h2)).mono (fun e w' hh => ⟨hh.1, h3 w' [] hh.2⟩)
theorem insI_length (x : It) : ∀ l : List It, (insI x l).length = l.length + 1
 | [] => rfl
 | y :: l => by
  rw [insI]
  split
  ·rfl
  ·rw [List.length_cons, insI_length x l, List.length_cons]
theorem lists.calls (w : World) (most : Int) (l : List Dd) {ad : Option Addr} {c : Nat} (hl : l.length ≤ 9223372036854775807) (hR : DRow w ad l) :
  Calls Try.prog 11 #[.int .i64 most, .slice ad l.length c] w fun e w' => e = .returned (.bool true) ∧ Below w.heap.size w w' := by
 have hu31 := Try.underlying31
 have hu33 := Try.underlying33
 have hu77 := Try.underlying77
 have hu80 := Try.underlying80
 have hu87 := Try.underlying87
 have hu89 := Try.underlying89
 have hu104 := Try.underlying104
 have hu9 := Try.underlying9
 have HR := As (And.intro hl hR)
 clear hR hl
 by_cases hm : 1 ≤ most ∧ most ≤ 1024
 ·obtain ⟨N, hN⟩ : ∃ N : Nat, most = (N : Int) := ⟨most.toNat, by omega⟩
  subst hN
  have HN := As (show 1 ≤ N ∧ N ≤ 1024 by omega)
  have HM := As hm
  clear hm
  go_enter Try.func11, Try.ntmps11
  go_upto_region 3 with (first | (go_at_call 56; go_loud (refine (few.calls w l HR.out.1 HR.out.2).mono ?_); rintro e w1 hq; obtain ⟨b, rfl, hbt, hbl⟩ := hq; have HB := As hbl; have HT := As hbt; clear hbl hbt; cases b) | (go_at_call 57; go_loud (refine (awake.calls _).mono ?_); rintro e w6 ⟨rfl, hb⟩; have H6 := As ((HB.out.trans (hb.mono HB.out.size))); clear hb))
  ·exact bodyPost_ret (v := .bool true) (by simp [results, Try.results11, go_sem]) rfl ⟨rfl, H6.out⟩
  ·have HF := As (HT.out (by simp))
   go_wp2_with (go_at_call 58; go_loud (refine (newOk.calls ((Hv.start w).call HB.out) (N : Int) HM.out.1 HM.out.2).mono ?_; rintro e1 w2 ⟨K, rfl, h1⟩; have H1 := As (Kp.new (K := K) (m := N) HN.out.1 (by have := HN.out.2; omega) (by rw [Int.toNat_natCast] at h1; exact h1)); clear h1))
   go_loopg [7, 8] l.length (fun kq v7 v8 wr => ∃ (k n : Nat) (its : List It) (wa : Option Addr) (wc : Nat) (A : List Ob), v7 = .slice wa n wc ∧ v8 = .int .i64 (k : Int) ∧ kq = l.length - k ∧ k ≤ l.length ∧ Aside0 (n = its.length ∧ its.length ≤ k ∧ Gr 104 3 (.slice wa n wc) n (its.flatMap icel) A) ∧ Aside0 (Kp w wr K N A its k))
   case atStart => exact ⟨0, 0, [], none, 0, [], rfl, rfl, rfl, Nat.zero_le _, ⟨rfl, Nat.le_refl _, Gr.nil 104 3⟩, H1⟩
   case round =>
    obtain ⟨k, n, its, wa, wc, A, rfl, rfl, rfl, hk, HG, HK⟩ := hrel
    clear H1
    have hk7 : k ≤ 120 := by have := HF.out; omega
    have HK7 := As hk7
    obtain ⟨hn1, hn2, hgw⟩ := HG.out
    subst hn1
    have HW := As hgw
    have HL := As hn2
    clear hn2 hgw HG
    by_cases hltn : k < l.length
    ·have hlt' : (k : Int) < (l.length : Int) := by omega
     have HLT := As hltn
     have ew : IntKind.i64.wrap ((k : Int) + 1) = ((k + 1 : Nat) : Int) := by rw [IntKind.wrap_i64]; omega
     have ew' : wrap64 ((k : Int) + 1) = ((k + 1 : Nat) : Int) := by unfold wrap64; omega
     obtain ⟨d, hd⟩ : ∃ d, l[k]? = some d := ⟨_, List.getElem?_eq_getElem hltn⟩
     obtain ⟨adl, ea, hcl⟩ := HR.out.2 k d hd
     cases ea
     obtain ⟨kd, key, r, sn⟩ := d
     have z0 := hcl 0 (.int .i64 kd) rfl
     have z1 := hcl 1 (.string key) rfl
     have z2 := hcl 2 (.int .i64 r.1) rfl
     have z3 := hcl 3 (.int .i64 r.2) rfl
     rw [Nat.add_zero] at z0
     rw [add_next _ _ _ (by omega)] at z1 z2 z3
     have HZ := As (show ∀ w' : World, Below w.heap.size w w' → (w'.cell? (adl.add (k * 7)) = some (.int .i64 kd) ∧ w'.cell? { block := (adl.add (k * 7)).block, off := (adl.add (k * 7)).off + 1 } = some (.string key) ∧ w'.cell? { block := (adl.add (k * 7)).block, off := (adl.add (k * 7)).off + 2 } = some (.int .i64 r.1) ∧ w'.cell? { block := (adl.add (k * 7)).block, off := (adl.add (k * 7)).off + 3 } = some (.int .i64 r.2)) from fun w' hb => ⟨pw_cell_below hb z0, pw_cell_below hb z1, pw_cell_below hb z2, pw_cell_below hb z3⟩)
     clear z0 z1 z2 z3 hcl hd
     obtain ⟨z0, z1, z2, z3⟩ := HZ.out _ HK.out.bel
     by_cases hkd : kd = 2
     ·have hkd1 : (kd == 2) = true := by simp [hkd]
      go_upto_region 12 with (go_at_call 63; go_loud (refine (HK.out.less (by have := HL.out; omega) (rdyA HW.out) key).mono ?_; rintro e3 w3 ⟨ad3, c3, B, rfl, hG3, hh⟩; have HG3 := As hG3; have H3 := As hh; clear hG3 hh; clear z0 z1 z2 z3; obtain ⟨z0, z1, z2, z3⟩ := HZ.out _ H3.out.bel))
      go_upto_region 13 with (go_at_call 64; go_loud (refine (H3.out.del HK7.out HN.out.2 key).mono ?_; rintro e4 w4 ⟨rr, ad4, c4, G, Ag, rfl, hG4, hh, hGl⟩; have HG4 := As (And.intro hG4 hGl); have H4 := As hh; clear hG4 hh hGl; clear z0 z1 z2 z3))
      obtain ⟨W5, hW, hw⟩ : ∃ W, W = w4.alloc (.cells #[.int .i64 rr.1, .int .i64 rr.2] 33) ∧ Kq w W K N (Ag ++ (B ++ A)) (delI key its) (k + 1) G := ⟨_, rfl, (H4.out.alloc _).drop (List.sublist_cons_self _ _)⟩
      rw [← hW]
      have H5 := As hw
      clear hW hw
      obtain ⟨hb, hhb⟩ : ∃ b, hit key its = b := ⟨_, rfl⟩
      rw [hhb]
      have hne : (!(hb == hb)) = false := by cases hb <;> rfl
      have hne2 : (hb == hb) = true := by cases hb <;> rfl
      have hne3 : (hb != hb) = false := by cases hb <;> rfl
      clear hhb
      go_wp2_with fail
      clear hne hne2 hne3
      go_loopg [14] G.length (fun kq2 v14 wi => ∃ (j : Nat), v14 = .int .i64 (j : Int) ∧ kq2 = G.length - j ∧ j ≤ G.length ∧ Aside0 (Kq w wi K N (Ag ++ (B ++ A)) (delI key its) (k + 1) (G.drop j)))
      case atStart => exact ⟨0, rfl, rfl, Nat.zero_le _, H5⟩
      case round =>
       obtain ⟨j, rfl, rfl, hj, HQ⟩ := hrel
       clear H5 H4
       have hj7 : j ≤ 1024 := by have := HG4.out.2; have := HN.out.2; omega
       by_cases hjlt : j < G.length
       ·have hjlt' : (j : Int) < (G.length : Int) := by omega
        have ew2 : IntKind.i64.wrap ((j : Int) + 1) = ((j + 1 : Nat) : Int) := by rw [IntKind.wrap_i64]; omega
        have ew2' : wrap64 ((j : Int) + 1) = ((j + 1 : Nat) : Int) := by unfold wrap64; omega
        obtain ⟨g, hg⟩ : ∃ g, G[j]? = some g := ⟨_, List.getElem?_eq_getElem hjlt⟩
        have hdr : G.drop j = g :: G.drop (j + 1) := by rw [List.drop_eq_getElem_cons hjlt, (List.getElem?_eq_some_iff.1 hg).2]
        have HQ2 := As (show Kq w _ K N (Ag ++ (B ++ A)) (delI key its) (k + 1) (g :: G.drop (j + 1)) from by rw [← hdr]; exact HQ.out)
        obtain ⟨g1, ea, hc1⟩ := ((Rdy.of_rw (w0 := w) (Rw.of_gr HG4.out.1)).now HQ.out.other.left).2 (by omega)
        cases ea
        obtain ⟨r0, r1⟩ := rcel_get G j g hg
        have y0 := hc1 _ _ r0
        have y1' := hc1 _ _ r1
        rw [← Addr.add_add] at y1'
        have y1 : World.cell? _ { block := (g1.add (j * 2)).block, off := (g1.add (j * 2)).off + 1 } = some (.int .i64 g.2) := y1'
        clear r0 r1 y1' hc1 hg hdr
        go_wp2_with (go_at_call 65; go_loud (refine (HQ2.out.free HN.out.2).mono ?_; rintro e7 w7 ⟨rfl, hh⟩; have H7 := As hh; clear hh y0 y1))
        go_roundg (G.length - (j + 1))
        case measure => omega
        case rel => exact ⟨j + 1, by first | rfl | go_num, rfl, hjlt, H7⟩
       ·have hge2 : ¬ (j : Int) < (G.length : Int) := by omega
        have hdr : G.drop j = [] := List.drop_eq_nil_of_le (by omega)
        have HK2 := As (show Kp w _ K N B (delI key its) (k + 1) from ((by have := HQ.out; rw [hdr] at this; exact this.done : Kp w _ K N (Ag ++ (B ++ A)) (delI key its) (k + 1))).drop ((List.sublist_append_left B A).trans (List.sublist_append_right Ag _)))
        clear hdr hj hjlt
        go_wp2_with fail
        go_roundg (l.length - (k + 1))
        case measure => have := HLT.out; omega
        case rel => exact ⟨k + 1, _, delI key its, ad3, c3, B, rfl, by first | rfl | go_num, rfl, HLT.out, ⟨rfl, by have := delI_len key its; have := HL.out; omega, HG3.out⟩, HK2⟩
     ·have hkd1 : (kd == 2) = false := by simp [hkd]
      go_upto_region 22 with (go_at_call 63; go_loud (refine (HK.out.less (by have := HL.out; omega) (rdyA HW.out) key).mono ?_; rintro e3 w3 ⟨ad3, c3, B, rfl, hG3, hh⟩; have HG3 := As hG3; have H3 := As hh; clear hG3 hh; clear z0 z1 z2 z3; obtain ⟨z0, z1, z2, z3⟩ := HZ.out _ H3.out.bel))
      have H3b := As (H3.out.drop (List.sublist_append_right B A))
      go_region_with (go_at_call 66; go_loud (refine ((H3b.out.call (by first | exact pw_below_drewN (Below.refl _ _) _ | exact below_drew1 (Below.refl _ _) | exact Below.refl _ _)).put HK7.out HN.out.2 key r).mono ?_; rintro e4 w4 ⟨ad4, n4, c4, er, Ag, its2, rfl, hh, hcs⟩; have H4 := As hh; have HC := As hcs; clear hh hcs; clear z0 z1 z2 z3; obtain ⟨z0, z1, z2, z3⟩ := HZ.out _ H4.out.bel))
      all_goals
       have HW4 := As (show Rdy 3 w (Ag ++ A) wa its.length (its.flatMap icel) from rsub (rdyA HW.out) (fun p hp => List.mem_append_right Ag hp))
       obtain ⟨hb, hhb⟩ : ∃ b, hit key its = b := ⟨_, rfl⟩
       have hcs := HC.out
       rw [hhb] at hcs ⊢
       rcases hcs with ⟨rfl, rfl, rfl⟩ | ⟨rfl, rfl, rfl⟩ | ⟨rfl, rfl, hi2⟩
       ·go_wp2_with fail
        go_roundg (l.length - (k + 1))
        case measure => have := HLT.out; omega
        case rel => exact ⟨k + 1, _, its2, wa, wc, A, rfl, by first | rfl | go_num, rfl, HLT.out, ⟨rfl, by have := HL.out; omega, HW.out⟩, ⟨H4.out.drop (List.sublist_append_right Ag A)⟩⟩
       ·go_wp2_with fail
        go_roundg (l.length - (k + 1))
        case measure => have := HLT.out; omega
        case rel => exact ⟨k + 1, _, its2, wa, wc, A, rfl, by first | rfl | go_num, rfl, HLT.out, ⟨rfl, by have := HL.out; omega, HW.out⟩, ⟨H4.out.drop (List.sublist_append_right Ag A)⟩⟩
       ·have HI2 := As hi2
        clear hi2
        go_upto_region 26 with (fail)
        go_region_with (go_at_call 67; go_loud (refine ((H4.out.call (by first | exact pw_below_drewN (Below.refl _ _) _ | exact below_drew1 (Below.refl _ _) | exact Below.refl _ _)).list (l := its) (by have := HL.out; omega) HW4.out (key, r)).mono ?_; rintro e5 w5 ⟨ad5, c5, Bn, rfl, hG5, hh⟩; have H5 := As hh; have HG5 := As hG5; clear hh hG5; clear z0 z1 z2 z3))
        all_goals
         go_wp2_with fail
         go_roundg (l.length - (k + 1))
         case measure => have := HLT.out; omega
         case rel => exact ⟨k + 1, _, insI (key, r) its, ad5, c5, Bn, rfl, by first | rfl | go_num, rfl, HLT.out, ⟨rfl, by rw [insI_length]; have := HL.out; omega, HG5.out⟩, ⟨by have h := H5.out.drop (List.sublist_append_left Bn (Ag ++ A)); rw [HI2.out] at h; exact h⟩⟩
    ·have hge : ¬ (k : Int) < (l.length : Int) := by omega
     go_upto_region 28 with (go_at_call 68; go_loud (refine (HK.out.nodes HN.out.2).mono ?_; rintro e3 w3 ⟨nn, rfl, hnn, hh⟩; have H3 := As hh; have HNN := As hnn; clear hh hnn))
     have hle : (nn : Int) ≤ (N : Int) := by have := HNN.out; omega
     have HW3 := As (rdyA (w0 := w) HW.out)
     go_wp2_with (first | (go_at_call 69; go_loud (refine (H3.out.items HN.out.2).mono ?_; rintro e4 w4 ⟨ad4, c4, A4, rfl, hG4, hh⟩; have H4 := As hh; have HG4 := As hG4; clear hh hG4)) | (go_at_call 62; go_loud (refine (H4.out.sameI (l := its) (by have := HL.out; omega) (rsub (rdyA HG4.out) (fun p hp => List.mem_append_left A hp)) (rsub HW3.out (fun p hp => List.mem_append_right A4 hp))).mono ?_; rintro e5 w5 ⟨rfl, hh⟩; have H5 := As hh; clear hh)) | (go_at_call 70; go_loud (refine (H5.out.check HN.out.2).mono ?_; rintro e7 w7 ⟨rfl, hh⟩; have H7 := As hh; clear hh)) | (go_at_call 57; go_loud (refine (awake.calls _).mono ?_; rintro e8 w8 ⟨rfl, hb⟩; have H8 := As (H7.out.call hb); clear hb)))
     exact bodyPost_ret (v := .bool true) (by simp [results, Try.results11, go_sem]) rfl ⟨rfl, H8.out.bel⟩
 ·have HM := As (show most < 1 ∨ most > 1024 by omega)
  clear hm
  go_enter Try.func11, Try.ntmps11
  go_wp2_with (first | (go_at_call 56; go_loud (refine (few.calls w l HR.out.1 HR.out.2).mono ?_); rintro e w1 hq; obtain ⟨b, rfl, hbt, hbl⟩ := hq; have HB := As hbl; have HT := As hbt; clear hbl hbt; cases b) | (go_at_call 58; go_loud (refine (newNo.calls _ most HM.out).mono ?_; rintro e1 w2 ⟨rfl, hb⟩; have HB2 := As (HB.out.trans (hb.mono HB.out.size)); clear hb HB; have HB := HB2; clear HB2)) | (go_at_call 57; go_loud (refine (awake.calls _).mono ?_); rintro e w6 ⟨rfl, hb⟩; have H6 := As ((HB.out.trans (hb.mono HB.out.size))); clear hb))
  all_goals exact bodyPost_ret (v := .bool true) (by simp [results, Try.results11, go_sem]) rfl ⟨rfl, H6.out⟩
end
end Go.Proofs.Ytglbcfkmaamhaaa.Tr
namespace Go.Proofs.Ytglbcfkmaamhaaa.Opens
open Go.RowKit Go.Proofs.YtglbcfkmaamhaaaW.PrintWords Go.WideShapes
section
def Opens {α : Type} (P : Program) (d : Kd α) (good : α → Prop) (t : TypeId) : Prop :=
 ∀ (H : Type) (enc : TypeId × Value → H) (w : World) (base : Nat) (spare : Nat → Bool) (held : Bool) (fuel : Nat) (cs : List Value) (x : DataW H × List MemPlace),
  DataW.trod enc P w base spare held fuel t cs = some x → ∃ v, d.K w v cs ∧ good v
theorem Opens.imp {α : Type} {P : Program} {d : Kd α} {g g' : α → Prop} {t : TypeId} (h : Opens P d g t) (hg : ∀ x, g x → g' x) : Opens P d g' t := fun H enc w base spare held fuel cs x hx => by
 obtain ⟨v, hv, h1⟩ := h H enc w base spare held fuel cs x hx
 exact ⟨v, hv, hg v h1⟩
theorem opens_int {P : Program} {k : IntKind} {t : TypeId} (ht : P.underlying t = some (.int k)) : Opens P (Kd.int k) (fun n => (Lit.int k n).wf = true) t := fun H enc w base spare held fuel cs x hx => by
 obtain ⟨n, rfl, _, hw⟩ := DataW.trod_int ht hx
 exact ⟨n, rfl, hw⟩
theorem opens_string {P : Program} {t : TypeId} (ht : P.underlying t = some .string) : Opens P Kd.string (fun s => s.size ≤ maxLen) t := fun H enc w base spare held fuel cs x hx => by
 obtain ⟨s, rfl, _, hs⟩ := DataW.trod_string ht hx
 exact ⟨s, rfl, hs⟩
theorem cells_list (w : World) (base : Nat) (a : Addr) (n : Nat) {cs : List Value} (h : w.cells? base a n = some cs) : cs.length = n ∧ ∀ i u, cs[i]? = some u → w.cell? (a.add i) = some u := by
 obtain ⟨_, hl, hc⟩ := World.cells?_some h
 refine ⟨hl, fun i u hu => ?_⟩
 have hi : i < cs.length := (List.getElem?_eq_some_iff.1 hu).1
 exact (hc i (by omega)).trans hu
theorem choose_nat {α : Type} {p : Nat → α → Prop} : ∀ m : Nat, (∀ i, i < m → ∃ x, p i x) → ∃ xs : List α, xs.length = m ∧ ∀ i x, xs[i]? = some x → p i x
 | 0, _ => ⟨[], rfl, fun i x h => by simp at h⟩
 | m + 1, h => by
  obtain ⟨xs, hl, hx⟩ := choose_nat m (fun i hi => h i (by omega))
  obtain ⟨y, hy⟩ := h m (by omega)
  refine ⟨xs ++ [y], by simp [hl], fun i x hix => ?_⟩
  rcases Nat.lt_or_ge i xs.length with h1 | h1
  ·rw [List.getElem?_append_left h1] at hix
   exact hx i x hix
  ·have hi : i = m := by
    have := (List.getElem?_eq_some_iff.1 hix).1
    rw [List.length_append, List.length_singleton] at this
    omega
   subst hi
   rw [← hl, List.getElem?_append_right (Nat.le_refl _), Nat.sub_self] at hix
   have : y = x := by simpa using hix
   subst this
   exact hy
theorem addr_add (a : Addr) (i j : Nat) : (a.add i).add j = a.add (i + j) := by
 unfold Addr.add
 by_cases hi : i = 0 <;> by_cases hj : j = 0 <;> simp [hi, hj, Nat.add_assoc]
theorem opens_slice {α : Type} {P : Program} {d : Kd α} {g : α → Prop} {t e : TypeId} {q : Nat} (ht : P.underlying t = some (.slice e)) (hc : P.cellsOf e = d.sz) (he : Opens P d g e) :
  Opens P (Kd.slice q d) (fun xs => xs.length ≤ maxLen ∧ ∀ x ∈ xs, g x) t := fun H enc w base spare held fuel cs x hx => by
 rcases Go.Deep.open_slice ht hx with ⟨rfl, _⟩ | ⟨a, len, cap, m, n, D, Pl, rfl, _, hl, hm, hmm, _, hel⟩
 ·exact ⟨[], ⟨none, 0, rfl, Nat.le_refl _, ⟨rfl, by simp, fun h => absurd h (Nat.lt_irrefl 0)⟩⟩, by simp, by simp⟩
 ·have hlm : len ≤ m := by rw [hmm]; split <;> omega
  obtain ⟨xs, hxl, hxs⟩ := choose_nat (p := fun i (z : α) => g z ∧ ∃ c : List Value, c.length = d.sz ∧ d.K w z c ∧ ∀ j u, c[j]? = some u → w.cell? (a.add (i * d.sz + j)) = some u) len (fun i hi => by
   obtain ⟨cs', h1, h2⟩ := hel i (by omega)
   rw [hc] at h1
   obtain ⟨hcl, hcc⟩ := cells_list w base _ _ h1
   obtain ⟨z, hz, hg⟩ := he H enc w base spare held n cs' _ h2
   exact ⟨z, hg, cs', hcl, hz, fun j u hu => by rw [← addr_add]; exact hcc j u hu⟩)
  have hm' : len ≤ 9223372036854775807 := by unfold maxLen at hm; omega
  refine ⟨xs, ⟨some a, cap, by rw [hxl], by omega, ⟨rfl, by omega, fun _ => ⟨a, rfl, fun j p hj => ?_⟩⟩⟩, by omega, fun z hz => ?_⟩
  ·obtain ⟨_, c, h1, h2, h3⟩ := hxs j p hj
   exact ⟨c, h1, h2, h3⟩
  ·obtain ⟨i, hi⟩ := List.mem_iff_getElem?.1 hz
   exact (hxs i z hi).1
def Fields {α : Type} (P : Program) (d : Kd α) (good : α → Prop) (fs : Array Field) (i o : Nat) : Prop :=
 ∀ (H : Type) (enc : TypeId × Value → H) (w : World) (base : Nat) (spare : Nat → Bool) (held : Bool) (n : Nat) (cs : List Value) (xs : List (DataW H × List MemPlace)), xs.length = fs.size → cs.length = o + d.sz →
  (∀ (i : Nat) (f : Field), fs[i]? = some f → DataW.trod enc P w base spare held n f.type ((cs.drop f.offset).take (P.cellsOf f.type)) = xs[i]?) → ∃ v, d.K w v (cs.drop o) ∧ good v
theorem fields_last {α : Type} {P : Program} {d : Kd α} {g : α → Prop} {fs : Array Field} {i o : Nat} {f : Field} (hf : fs[i]? = some f) (ho : f.offset = o) (hs : P.cellsOf f.type = d.sz) (h : Opens P d g f.type) : Fields P d g fs i o :=
 fun H enc w base spare held n cs xs hx hl hr => by
  have hi : i < xs.length := by rw [hx]; exact (Array.getElem?_eq_some_iff.1 hf).1
  have h1 := hr i f hf
  rw [List.getElem?_eq_getElem hi, ho, hs, List.take_of_length_le (by rw [List.length_drop]; omega)] at h1
  exact h H enc w base spare held n _ _ h1
theorem fields_cons {α β : Type} {P : Program} {a : Kd α} {b : Kd β} {g : α → Prop} {g' : β → Prop} {fs : Array Field} {i o : Nat} {f : Field} (hf : fs[i]? = some f) (ho : f.offset = o) (hs : P.cellsOf f.type = a.sz) (h : Opens P a g f.type)
  (hr : Fields P b g' fs (i + 1) (o + a.sz)) : Fields P (Kd.pair a b) (fun x => g x.1 ∧ g' x.2) fs i o :=
 fun H enc w base spare held n cs xs hx hl hrd => by
  have hi : i < xs.length := by rw [hx]; exact (Array.getElem?_eq_some_iff.1 hf).1
  have h1 := hrd i f hf
  rw [List.getElem?_eq_getElem hi, ho, hs] at h1
  obtain ⟨v, hv, hg⟩ := h H enc w base spare held n _ _ h1
  obtain ⟨u, hu, hg'⟩ := hr H enc w base spare held n cs xs hx (by rw [hl]; show o + (a.sz + b.sz) = _; omega) hrd
  refine ⟨(v, u), ⟨_, _, ?_, hv, hu⟩, hg, hg'⟩
  rw [← List.drop_drop, List.take_append_drop]
theorem opens_struct {α β : Type} {P : Program} {d : Kd α} {g : α → Prop} {t : TypeId} {fs : Array Field} (ht : P.underlying t = some (.struct fs)) (hs : P.cellsOf t = d.sz) (h : Fields P d g fs 0 0) (f : β → α) (inv : α → β) (hfi : ∀ y, f (inv y) = y) :
  Opens P (Kd.iso d f) (fun x => g (f x)) t := fun H enc w base spare held fuel cs x hx => by
 obtain ⟨xs, n, _, _, hl, hxl, hr⟩ := DataW.trod_struct ht hx
 obtain ⟨v, hv, hg⟩ := h H enc w base spare held n cs xs hxl (by rw [hl, hs]; omega) hr
 refine ⟨inv v, ?_, by show g (f (inv v)); rw [hfi]; exact hg⟩
 show d.K w (f (inv v)) cs
 rw [hfi]
 exact hv
theorem arg_slice {α : Type} {P : Program} {d : Kd α} {g : α → Prop} {t e : TypeId} (ht : P.underlying t = some (.slice e)) (hc : P.cellsOf e = d.sz) (he : Opens P d g e)
  {H : Type} {enc : TypeId × Value → H} {w : World} {base b0 : Nat} {spare : Nat → Bool} {held : Bool} {r : Reach} {v : Value} {x : DataW H} {p : List MemPlace} (hv : Value.okWide P w r b0 t v) (h : DataW.Trod enc P w base spare held t v x p) :
  ∃ (A : Option Addr) (c : Nat) (xs : List α), v = .slice A xs.length c ∧ xs.length ≤ c ∧ d.C w A xs.length xs ∧ xs.length ≤ maxLen ∧ ∀ z ∈ xs, g z := by
 obtain ⟨a, len, cap, rfl⟩ := okWide_slice ht hv
 obtain ⟨fuel, hf⟩ := h
 obtain ⟨xs, ⟨A, c, hcs, hl, hC⟩, hm, hg⟩ := opens_slice (q := 0) ht hc he H enc w base spare held fuel _ _ hf
 simp [Value.cells] at hcs
 obtain ⟨rfl, rfl, rfl⟩ := hcs
 exact ⟨_, _, xs, rfl, hl, hC, hm, hg⟩
end
end Go.Proofs.Ytglbcfkmaamhaaa.Opens
