/- A text of this claim: parts BsM BsJ BsO Opens. No condition. -/
import Derived.Test.YtglbcfkmaamhaaaFG23
import Derived.Test.YtglbcfkmaamhaaaFG22
import Derived.Test.YtglbcfkmaamhaaaFG16
import Derived.Test.YtglbcfkmaamhaaaFG0
import Derived.OpenShut
import Derived.ChangeArms
import Derived.Deep.Slices
import Derived.WideShapes
set_option linter.unusedVariables false
set_option linter.unusedSimpArgs false
set_option maxHeartbeats 16000000
set_option maxRecDepth 100000
section
namespace Go.Proofs.Ytglbcfkmaamhaaa.Bs
open Go Go.RowKit Go.Proofs.YtglbcfkmaamhaaaW.PrintWords Go.Proofs.YtglbcfkmaamhaaaW.PrintLast Go.Proofs.YtglbcfkmaamhaaaW.PrintMore Go.Proofs.Ytglbcfkmaamhaaa.Hv Go.Proofs.Ytglbcfkmaamhaaa.Arm Go.Proofs.Ytglbcfkmaamhaaa.Nd Go.Proofs.Ytglbcfkmaamhaaa.Tr
variable {w0 w w1 : World} {L L' R : List Ob} {t : Tm} {s : Ar} {f : Int} {on : Value} {J : Jx}
namespace Go1
abbrev q : Rf := (0, 1)
def n1 (key : ByteArray) : Nd.Nd := ⟨true, 2, [key], [(0, 1)]⟩
def n2 : Nd.Nd := ⟨true, 3, [], []⟩
def T0 : Tm := Tm.new 300
def T1 (key : ByteArray) : Tm := T0.set q (n1 key)
def T2 (key : ByteArray) : Tm := (T1 key).set q n2
theorem i0 : Inv T0 300 0 [q] [] 1 := (Inv.new 300 (by decide) (by decide)).1
theorem r0 : T0.root = q := (Inv.new 300 (by decide) (by decide)).2.1
theorem o0 : T0.gone = [] := (Inv.new 300 (by decide) (by decide)).2.2.1
theorem a0 : T0.at q = ⟨true, 1, [], []⟩ := (Inv.new 300 (by decide) (by decide)).2.2.2
theorem i1' (key : ByteArray) : Inv (T1 key) 300 0 [q] (itemsOf (n1 key)) 2 ∧ (T1 key).at q = n1 key := i0.lone (n := n1 key) rfl rfl (List.pairwise_singleton (fun x y => bl x y = true) key) (show 1 ≤ 4 by decide) ⟨show (0 : Int) ≤ 2 by decide, Int.le_refl _⟩
theorem i1 (key : ByteArray) : Inv (T1 key) 300 0 [q] (itemsOf (n1 key)) 2 := (i1' key).1
theorem a1 (key : ByteArray) : (T1 key).at q = n1 key := (i1' key).2
theorem i2' (key : ByteArray) : Inv (T2 key) 300 0 [q] [] 3 ∧ (T2 key).at q = n2 := (i1 key).lone (n := n2) rfl rfl List.Pairwise.nil (show 0 ≤ 4 by decide) ⟨show (0 : Int) ≤ 3 by decide, Int.le_refl _⟩
theorem i2 (key : ByteArray) : Inv (T2 key) 300 0 [q] [] 3 := (i2' key).1
theorem a2 (key : ByteArray) : (T2 key).at q = n2 := (i2' key).2
theorem sroot (t : Tm) (r : Rf) (n : Nd.Nd) : (t.set r n).root = t.root ∧ (t.set r n).gone = t.gone := by unfold Tm.set; split <;> exact ⟨rfl, rfl⟩
theorem r1 (key : ByteArray) : (T1 key).root = q := (sroot T0 q (n1 key)).1.trans r0
theorem r2 (key : ByteArray) : (T2 key).root = q := (sroot (T1 key) q n2).1.trans (r1 key)
theorem o2 (key : ByteArray) : (T2 key).gone = [] := (sroot (T1 key) q n2).2.trans ((sroot T0 q (n1 key)).2.trans o0)
theorem d0 (key : ByteArray) : Dn T0 key T0.root [] q := by rw [r0]; exact Dn.leaf _ (by rw [a0])
theorem d1 (key : ByteArray) : Dn (T1 key) key (T1 key).root [] q := by rw [r1]; exact Dn.leaf _ (by rw [a1]; rfl)
theorem d2 (key : ByteArray) : Dn (T2 key) key (T2 key).root [] q := by rw [r2]; exact Dn.leaf _ (by rw [a2]; rfl)
theorem f0 (key : ByteArray) : (T0.find key q).2 = false := by rw [(i0.leaf (d0 key)).2.2, a0]; rfl
theorem f2 (key : ByteArray) : (T2 key).find key q = ((0, 0), false) := by
 have h := ((i2 key).leaf (d2 key)).2.2
 rw [a2] at h
 have h2 : ((T2 key).find key q).2 = false := h
 unfold Tm.find at h2 ⊢
 split
 ·rename_i e
  rw [if_pos e] at h2
  cases h2
 ·rfl
theorem bnew (k : Nat) : Bd (Tm.new k) 10 := by
 have h0 : Bd (Tm.new0 k) 10 := fun n hn => by
  rw [(List.mem_replicate.1 hn).2]
  exact ⟨by decide, by decide⟩
 have := h0.take (n := ⟨true, 1, [], []⟩) ⟨by decide, by decide⟩
 exact this
theorem b0 : Bd T0 10 := bnew 300
theorem b1 (key : ByteArray) : Bd (T1 key) 10 := b0.set q (n := n1 key) ⟨show 1 ≤ 10 by decide, show 1 ≤ 10 by decide⟩
theorem b2 (key : ByteArray) : Bd (T2 key) 10 := (b1 key).set q (n := n2) ⟨by decide, by decide⟩
theorem rm0 : T0.roomFor (wayL [] q) = true := by
 have h1 := cntB_cons T0 q []
 have h2 : cntB T0 [] = 0 := rfl
 have h3 : big T0 q = false := by unfold big; rw [a0]; rfl
 rw [h2, h3] at h1
 have h4 : cntB T0 (wayL [] q) = 0 := h1
 have h5 := i0.cnt
 rw [o0] at h5
 unfold Tm.roomFor Tm.need
 rw [h4, if_neg (by decide), decide_eq_true_eq]
 simp at h5
 omega
theorem p0 (key : ByteArray) : ((T0.at q).put key (0, 1)).1 = n1 key := by
 rw [a0]
 have hw : wrap64 (1 + 1) = 2 := by unfold wrap64; omega
 unfold Nd.Nd.put n1
 simp only [List.length_nil, beq_self_eq_true, Bool.and_self, if_true]
 rw [if_neg (by intro h; cases h), hw]
 rfl
theorem putW_ok {t : Tm} {key : ByteArray} {r : Rf} {l : List (Rf × Nat)} {q : Rf} (hf : (t.find key q).2 = false) (hr : t.roomFor (wayL l q) = true) : (t.putW key r l q).1 = (runsI (wayL l q) q (ixL (wayL l q).length (wayL l q).length (Nat.le_refl _)) (t.set q ((t.at q).put key r).1, [])).1 ∧ (t.putW key r l q).2.2 = 0 := by
 unfold Tm.putW
 rw [hf, hr]
 exact ⟨rfl, rfl⟩
theorem putW0 (key : ByteArray) : (T0.putW key (0, 1) [] q).1 = T1 key ∧ (T0.putW key (0, 1) [] q).2.2 = 0 := by
 obtain ⟨e1, e2⟩ := putW_ok (r := (0, 1)) (f0 key) rm0
 have e3 := runs_climb q q [] (T0.set q ((T0.at q).put key (0, 1)).1)
 refine ⟨?_, e2⟩
 rw [e1]
 refine (congrArg Prod.fst e3).trans ?_
 rw [p0]
 have hc : climb q (T1 key) (q :: []) = ((T1 key, []), false) := rfl
 show (rootStep q q (climb q (T1 key) (q :: []))).1 = T1 key
 rw [hc]
 unfold rootStep
 rw [if_neg (by simp), if_pos (by simp only []; rw [a1]; exact (show 1 ≤ 4 by decide))]
theorem pc0 (key : ByteArray) (K : Nat × Nat × Nat) : PutC w0 K T0 (T1 key) (T0.putW key (0, 1) [] q).2.1.length 0 key (0, 1) := by
 have h := putC (w0 := w0) i0 b0 (by decide) (by decide) K key (0, 1) (d0 key) rfl
 obtain ⟨e1, e2⟩ := putW0 key
 rw [e1, e2] at h
 exact h
theorem fk (key : ByteArray) : (n1 key).delete key = (n2, (0, 1), true) := by
 have hp : plc key [key] = 0 := by rw [plc, if_neg (by rw [bl_irr]; simp)]
 have hf : fnd key [key] = true := (fnd_at key [key]).2 (by rw [hp]; rfl)
 have hfi : (n1 key).find key = (0, true) := by
  unfold Nd.Nd.find n1
  simp [hp, hf]
 unfold Nd.Nd.delete
 rw [hfi, if_pos rfl]
 have hw : wrap64 (2 + 1) = 3 := by unfold wrap64; omega
 unfold n1
 simp only [hp, hw]
 rfl
theorem dc1 (key : ByteArray) (K : Nat × Nat × Nat) : DelC w0 K (T1 key) (T2 key) 0 key := fun w on R Lx h => by
 refine (delT.lone h key (d1 key) ((i1 key).leaf (d1 key)).2.1 (by decide) (hl0 := rfl) (m := n2) (r := (0, 1)) (by rw [a1]; exact fk key) (p1 := (T2 key, [])) (p2 := (T2 key, [])) (k2 := 0) (Up1.top _) (Up2.stop 0 _ (.inl (by simp only []; rw [r2, a2]; rfl))) (Nat.zero_le _)).mono ?_
 rintro e w' ⟨ad, c, A, R', rfl, hG, hh⟩
 exact ⟨ad, c, A, R', (0, 1), true, rfl, hh⟩
def S0 : Ar := Ar.new 300 rz
def S1 (key : ByteArray) : Ar := S0.take (rcell (key, 2, ⟨#[]⟩))
def S2 (key : ByteArray) : Ar := (S1 key).put 0 (rcell (key, 6, ⟨#[]⟩))
def S3 (key : ByteArray) : Ar := (S2 key).drop 0 rz
theorem new_n (k : Nat) : (Ar.new k rz).n = k := by simp [Ar.new, Ar.n]
theorem new_held (k : Nat) : (Ar.new k rz).held = 0 := by simp [Ar.new, Ar.held, List.countP_replicate]
theorem new_slot (k : Nat) (j : Int) : ((Ar.new k rz).slot j).gen = 0 ∧ ((Ar.new k rz).slot j).taken = false := by
 simp only [Ar.new, Ar.slot, List.getD_eq_getElem?_getD, List.getElem?_replicate]
 split <;> exact ⟨rfl, rfl⟩
theorem put_n (s : Ar) (i : Int) (x : List Value) : (s.put i x).n = s.n := by simp [Ar.put, Ar.n]
theorem take_n (s : Ar) (x : List Value) : (s.take x).n = s.n := by simp [Ar.take, Ar.n]
theorem drop_n (s : Ar) (i : Int) (x : List Value) : (s.drop i x).n = s.n := by simp [Ar.drop, Ar.n]
theorem ok0 : S0.Ok 3 ArR.XP := new_ok 300 (by decide) rz rfl (xp_cell _)
theorem sl0 (j : Int) : (S0.slot j).gen = 0 ∧ (S0.slot j).taken = false := new_slot 300 j
theorem rm : ¬ S0.room = 0 := by
 have h1 : S0.n = 300 := new_n 300
 have h2 : S0.held = 0 := new_held 300
 unfold Ar.room
 rw [h1, h2]
 decide
theorem nx0 : S0.next = 0 := rfl
theorem gn0 : S0.gen = 1 := by unfold Ar.gen; rw [nx0, (sl0 0).1]; unfold wrap64; omega
theorem h1 (key : ByteArray) : (S1 key).has 0 1 = true := by
 unfold S1
 rw [has_take ok0 rm, nx0, gn0]
 rfl
theorem x1 (key : ByteArray) : ((S1 key).slot 0).x = rcell (key, 2, ⟨#[]⟩) ∧ ((S1 key).slot 0).gen = 1 := by
 unfold S1
 rw [slot_take ok0 rm, nx0, if_pos rfl, gn0]
 exact ⟨rfl, rfl⟩
theorem h2 (key : ByteArray) : (S2 key).has 0 1 = true := by unfold S2; rw [has_put (h1 key)]; exact h1 key
theorem x2 (key : ByteArray) : ((S2 key).slot 0).x = rcell (key, 6, ⟨#[]⟩) ∧ ((S2 key).slot 0).gen = 1 := by
 unfold S2
 rw [slot_put (h1 key), if_pos rfl]
 exact ⟨rfl, (x1 key).2⟩
theorem ok1 (key : ByteArray) : (S1 key).Ok 3 ArR.XP := ok0.take rm rfl (xp_cell _)
theorem ok2 (key : ByteArray) : (S2 key).Ok 3 ArR.XP := (ok1 key).put (h1 key) rfl (xp_cell _)
theorem ok3 (key : ByteArray) : (S3 key).Ok 3 ArR.XP := (ok2 key).drop (h2 key) rfl (xp_cell _)
theorem gen3 (key : ByteArray) (j : Int) : ((S3 key).slot j).gen = if j.toNat = 0 then 1 else 0 := by
 unfold S3
 rw [slot_drop (h2 key)]
 by_cases e : j.toNat = 0
 ·rw [if_pos (by rw [e]; rfl), if_pos e]
  exact (x2 key).2
 ·rw [if_neg (by rw [show (0 : Int).toNat = 0 from rfl]; exact e), if_neg e]
  unfold S2
  rw [slot_put (h1 key), if_neg (by rw [show (0 : Int).toNat = 0 from rfl]; exact e)]
  unfold S1
  rw [slot_take ok0 rm, nx0, if_neg (by rw [show (0 : Int).toNat = 0 from rfl]; exact e)]
  exact (sl0 j).1
theorem rin (key : ByteArray) : Rin (S3 key) 1 [] := by
 refine ⟨ok3 key, (drop_n _ _ _).trans ((put_n _ _ _).trans ((take_n _ _).trans (new_n 300))), fun j => ?_, ?_, ?_, by simp, ?_⟩
 ·rw [gen3]
  split <;> decide
 ·rw [gen3]
  decide
 ·unfold Ar.has S3
  rw [slot_drop (h2 key), if_pos rfl]
  simp
 ·have e1 := Ar.held_drop (h2 key) rz
  have e2 : (S2 key).held = (S1 key).held := Ar.held_put (h1 key) _
  have e3 := ok0.held_take rm (rcell (key, 2, ⟨#[]⟩))
  have e4 : S0.held = 0 := new_held 300
  have e5 : (S1 key).held = S0.held + 1 := e3
  have e6 : (S3 key).held + 1 = (S2 key).held := e1
  show (S3 key).held = 0
  omega
theorem gt1 (key : ByteArray) : Got (S1 key) (0, 1) (key, 2, ⟨#[]⟩) true := .inl ⟨rfl, h1 key, (x1 key).1⟩
theorem gt2 (key : ByteArray) : Got (S2 key) (0, 1) (key, 6, ⟨#[]⟩) true := .inl ⟨rfl, h2 key, (x2 key).1⟩
theorem set1 (key : ByteArray) : (S1 key).set 0 1 (rcell (key, 6, ⟨#[]⟩)) = S2 key := by unfold Ar.set; rw [if_pos (h1 key)]; rfl
theorem free2 (key : ByteArray) : (S2 key).free 0 1 rz = S3 key := by unfold Ar.free; rw [if_pos (h2 key)]; rfl
theorem cnew (hv : Hv w0 w L) : Calls Try.prog 75 #[.int .i64 300, .int .i64 300] w fun e w' => ∃ J, e = .returned (.tuple #[.pointer (some ⟨J.b, 0, none⟩), .int .i64 0]) ∧ Bt w0 w' J T0 S0 0 .nilFunc [] L := new.calls hv 300 300 (by decide) (by decide) (by decide) (by decide)
theorem cplace (h : Bt w0 w J T0 S0 0 on R L) (key : ByteArray) : Calls Try.prog 76 #[.pointer (some ⟨J.b, 0, none⟩), .string key] w fun e w' => ∃ ad n cp R', e = .returned (.tuple #[.agg #[.int .i64 0, .int .i64 1], .slice ad n cp, .int .i64 0]) ∧ Bt w0 w' J (T1 key) (S1 key) 0 .nilFunc R' L := by
 refine (place.ok h key (d0 key) (i0.leaf (d0 key)).2.1 (f0 key) rm (r := (0, 1)) ((tk_of rm).trans (by rw [nx0, gn0])) (took_of rm _) (pc0 key J.K)).mono ?_
 rintro e w' ⟨ad, cp, R', rfl, hB⟩
 exact ⟨ad, _, cp, R', rfl, hB⟩
theorem cunl {key : ByteArray} (h : Bt w0 w J (T1 key) (S1 key) 0 on R L) : Calls Try.prog 77 #[.pointer (some ⟨J.b, 0, none⟩), .agg #[.int .i64 0, .int .i64 1]] w fun e w' => ∃ ad cp R', e = .returned (.tuple #[.slice ad 0 cp, .bool true]) ∧ Bt w0 w' J (T2 key) (S2 key) 0 .nilFunc R' L := unlink.ok h (0, 1) (gt1 key) locked2 dead2 absent2 with2ftt (h1 key) (set1 key) (dc1 key J.K) (by decide) (by decide)
theorem cfind {key : ByteArray} (h : Bt w0 w J (T2 key) (S2 key) 0 on R L) : Calls Try.prog 78 #[.pointer (some ⟨J.b, 0, none⟩), .string key] w fun e w' => e = .returned (.tuple #[.agg #[.int .i64 0, .int .i64 0], .bool false, .agg #[.int .i64 0, .int .i64 1, .int .i64 3]]) ∧ Bt w0 w' J (T2 key) (S2 key) 0 .nilFunc R L := by
 have hc := find.calls h key (d2 key) ((i2 key).leaf (d2 key)).2.1
 rw [f2, a2] at hc
 exact hc
theorem clock {key : ByteArray} (h : Bt w0 w J (T2 key) (S2 key) 0 on R L) : Calls Try.prog 79 #[.pointer (some ⟨J.b, 0, none⟩), .agg #[.int .i64 0, .int .i64 1]] w fun e w' => e = .returned (.bool false) ∧ Bt w0 w' J (T2 key) (S2 key) 0 on R L := lock.dead h (0, 1) (gt2 key) locked6 dead6 (by decide) (by decide)
theorem cfree {key : ByteArray} (h : Bt w0 w J (T2 key) (S2 key) 0 on R L) : Calls Try.prog 80 #[.pointer (some ⟨J.b, 0, none⟩), .agg #[.int .i64 0, .int .i64 1]] w fun e w' => e = .returned (.bool true) ∧ Keep w0 w' J L 0 := by
 refine (freeRec.dead h (0, 1) (gt2 key) dead6 (h2 key) (free2 key) (by decide) (by decide)).mono ?_
 rintro e w' ⟨rfl, hB⟩
 exact ⟨rfl, T2 key, S3 key, on, R, 0, _, _, 3, hB, i2 key, by decide, by decide, b2 key, rin key, by decide, o2 key⟩
end Go1
end Go.Proofs.Ytglbcfkmaamhaaa.Bs
end
namespace Go.Proofs.Ytglbcfkmaamhaaa.Bs
open Go Go.RowKit Go.Proofs.YtglbcfkmaamhaaaW.PrintWords Go.Proofs.YtglbcfkmaamhaaaW.PrintLast Go.Proofs.YtglbcfkmaamhaaaW.PrintMore Go.Proofs.Ytglbcfkmaamhaaa.Hv Go.Proofs.Ytglbcfkmaamhaaa.Arm Go.Proofs.Ytglbcfkmaamhaaa.Nd Go.Proofs.Ytglbcfkmaamhaaa.Tr
section
variable {w0 w w1 : World} {L L' R : List Ob} {t : Tm} {s : Ar} {f : Int} {on : Value} {J : Jx}
def ka : ByteArray := ⟨#[97]⟩
def kx : ByteArray := ⟨#[120]⟩
def t0 : Tm := Tm.new 5
def t1 : Tm := (t0.putW ka (0, 1) [] (0, 1)).1
def t2 : Tm := t1.set (0, 1) ((t1.at (0, 1)).delete ka).1
def s0 : Ar := Ar.new 3 (rcell (⟨#[]⟩, 0, ⟨#[]⟩))
def s1 : Ar := s0.took (rcell (ka, 2, ⟨#[]⟩))
def s2 : Ar := s1.set 0 1 (rcell (ka, 3, ⟨#[]⟩))
def s3 : Ar := s2.set 0 1 (rcell (ka, 8, kx))
def s4 : Ar := s3.set 0 1 (rcell (ka, 12, kx))
def s5 : Ar := s4.free 0 1 (rcell (⟨#[]⟩, 0, ⟨#[]⟩))
abbrev r0 : Rf := (0, 1)
theorem g1 : Got s1 r0 (ka, 2, ⟨#[]⟩) true := .inl ⟨rfl, by kernel_rfl, by kernel_rfl⟩
theorem g2 : Got s2 r0 (ka, 3, ⟨#[]⟩) true := .inl ⟨rfl, by kernel_rfl, by kernel_rfl⟩
theorem g3 : Got s3 r0 (ka, 8, kx) true := .inl ⟨rfl, by kernel_rfl, by kernel_rfl⟩
theorem g4 : Got s4 r0 (ka, 12, kx) true := .inl ⟨rfl, by kernel_rfl, by kernel_rfl⟩
theorem g5 : Got s5 r0 (⟨#[]⟩, 0, ⟨#[]⟩) false := .inr ⟨rfl, by kernel_rfl, rfl⟩
theorem dn0 : Dn t0 ka t0.root [] (0, 1) := by
 have hr : t0.root = (0, 1) := by kernel_rfl
 rw [hr]; exact Dn.leaf _ (by kernel_rfl)
theorem dn1 : Dn t1 ka t1.root [] (0, 1) := by
 have hr : t1.root = (0, 1) := by kernel_rfl
 rw [hr]; exact Dn.leaf _ (by kernel_rfl)
theorem put1 (K : Nat × Nat × Nat) : PutC w0 K t0 t1 1 0 ka r0 := fun w on R Lx h => by
 have hl : (t0.putW ka (0, 1) [] (0, 1)).2.1.length = 1 := by kernel_rfl
 have he : (t0.putW ka (0, 1) [] (0, 1)).2.2 = 0 := by kernel_rfl
 refine (tput.calls h ka (0, 1) dn0 (ok_of (by kernel_rfl)) (mb := 10) (by decide) (bd_of (by kernel_rfl)) (by decide)).mono ?_
 rintro e w' ⟨ad, c, A, R', rfl, hG, hh⟩
 exact ⟨ad, c, A, R', by rw [hl, he], hh⟩
theorem del1 (K : Nat × Nat × Nat) : DelC w0 K t1 t2 0 ka := fun w on R Lx h => by
 have hd1 : ((t1.at (0, 1)).delete ka).2 = ((0, 1), true) := by kernel_rfl
 refine (delT.lone h ka dn1 (ok_of (by kernel_rfl)) (by decide) (hl0 := rfl) (m := ((t1.at (0, 1)).delete ka).1) (r := (0, 1)) (Prod.ext rfl hd1) (p1 := (t2, [])) (p2 := (t2, [])) (k2 := 0) (Up1.top _) (Up2.stop 0 _ (.inl (by kernel_rfl))) (by decide)).mono ?_
 rintro e w' ⟨ad, c, A, R', rfl, hG, hh⟩
 exact ⟨ad, c, A, R', (0, 1), true, rfl, hh⟩
theorem chk2 (K : Nat × Nat × Nat) : CheckC w0 K t2 := fun w on R Lx h => by
 have hr : t2.root = (0, 1) := by kernel_rfl
 have hb : ((visits t2 0 t2.root 0 ⟨#[]⟩ ⟨#[]⟩).foldl chkS chk0).ok = true := by kernel_rfl
 have hc : ((visits t2 0 t2.root 0 ⟨#[]⟩ ⟨#[]⟩).foldl chkS chk0).cnt = 1 := by kernel_rfl
 have hh1 : ((t2.p.held : Int) - (t2.gone.length : Int)) = 1 := by kernel_rfl
 have hs : Nd.Sm (t2.at t2.root) := (ok_of (by rw [hr]; kernel_rfl)).sm
 exact tcheck.calls h (hh := 0) (m := 10) (by decide) ⟨by rw [hr]; kernel_rfl, hs⟩ (by show 1 ≤ 10; decide) (by decide) (Nat.le_of_ble_eq_true (by kernel_rfl)) rfl (by rw [hb, hc, hh1]; rfl)
theorem its2 (K : Nat × Nat × Nat) : ItemsC w0 K t2 [] := fun w on R Lx h => by
 have hr : t2.root = (0, 1) := by kernel_rfl
 have hci : CI (t2.at t2.root) := fun _ => by
  rw [hr]
  exact ⟨by kernel_rfl, Nat.le_of_ble_eq_true (by kernel_rfl)⟩
 have hv : (visits t2 0 t2.root 0 ⟨#[]⟩ ⟨#[]⟩).flatMap visI = [] := by kernel_rfl
 exact titems.calls h (hh := 0) (m := 10) (by decide) ⟨by rw [hr]; kernel_rfl, hci⟩ (by show 1 ≤ 10; decide) (by decide) hv
theorem cplace (h : Bt w0 w J t0 s0 0 on R L) : Calls Try.prog 76 #[.pointer (some ⟨J.b, 0, none⟩), .string ⟨#[97]⟩] w fun e w' => ∃ ad cp R', e = .returned (.tuple #[.agg #[.int .i64 0, .int .i64 1], .slice ad 1 cp, .int .i64 0]) ∧ Bt w0 w' J t1 s1 0 .nilFunc R' L := by
  have hf : (t0.find ka (0, 1)).2 = false := by kernel_rfl
  have hr : ¬ s0.room = 0 := by have : s0.room = 3 := by kernel_rfl
                                rw [this]; decide
  have ht : tk s0 = ((0 : Int), (1 : Int), (0 : Int)) := by kernel_rfl
  exact place.ok h ka dn0 (ok_of (by kernel_rfl)) hf hr (r := (0, 1)) ht (s1 := s1) rfl (put1 J.K)
theorem cdup (h : Bt w0 w J t1 s1 0 on R L) : Calls Try.prog 76 #[.pointer (some ⟨J.b, 0, none⟩), .string ⟨#[97]⟩] w fun e w' => e = .returned (.tuple #[.agg #[.int .i64 0, .int .i64 0], .slice none 0 0, .int .i64 13]) ∧ Bt w0 w' J t1 s1 0 .nilFunc R L := by
 have hf : (t1.find ka (0, 1)).2 = true := by kernel_rfl
 exact place.dup h ka dn1 (ok_of (by kernel_rfl)) hf
theorem clock (h : Bt w0 w J t1 s1 0 on R L) : Calls Try.prog 79 #[.pointer (some ⟨J.b, 0, none⟩), .agg #[.int .i64 0, .int .i64 1]] w fun e w' => e = .returned (.bool true) ∧ Bt w0 w' J t1 s2 0 on R L := lock.ok h r0 g1 locked2 dead2 absent2 with2ttf (by kernel_rfl) rfl (by decide) (by decide)
theorem clock2 (h : Bt w0 w J t1 s2 0 on R L) : Calls Try.prog 79 #[.pointer (some ⟨J.b, 0, none⟩), .agg #[.int .i64 0, .int .i64 1]] w fun e w' => e = .returned (.bool false) ∧ Bt w0 w' J t1 s2 0 on R L := lock.locked h r0 g2 locked3 (by decide) (by decide)
theorem cinst (h : Bt w0 w J t1 s2 0 on R L) : Calls Try.prog 84 #[.pointer (some ⟨J.b, 0, none⟩), .agg #[.int .i64 0, .int .i64 1], .int .i64 8, .string ⟨#[120]⟩, .bool false] w fun e w' => e = .returned (.bool true) ∧ Bt w0 w' J t1 s3 0 on R L := install.ok h r0 8 kx false g2 locked3 with8fff (by kernel_rfl) rfl (by decide) (by decide)
theorem cget (h : Bt w0 w J t1 s3 0 on R L) : Calls Try.prog 82 #[.pointer (some ⟨J.b, 0, none⟩), .agg #[.int .i64 0, .int .i64 1]] w fun e w' => e = .returned (.tuple #[.agg #[.string ⟨#[97]⟩, .int .i64 8, .string ⟨#[120]⟩], .bool true]) ∧ Bt w0 w' J t1 s3 0 on R L := get.calls h r0 g3 (by decide) (by decide)
theorem cearly (h : Bt w0 w J t1 s3 0 on R L) : Calls Try.prog 80 #[.pointer (some ⟨J.b, 0, none⟩), .agg #[.int .i64 0, .int .i64 1]] w fun e w' => e = .returned (.bool false) ∧ Bt w0 w' J t1 s3 0 on R L := freeRec.live h r0 g3 dead8 (by decide) (by decide)
theorem cunl (h : Bt w0 w J t1 s3 0 on R L) : Calls Try.prog 77 #[.pointer (some ⟨J.b, 0, none⟩), .agg #[.int .i64 0, .int .i64 1]] w fun e w' => ∃ ad cp R', e = .returned (.tuple #[.slice ad 0 cp, .bool true]) ∧ Bt w0 w' J t2 s4 0 .nilFunc R' L := unlink.ok h r0 g3 locked8 dead8 absent8 with8fft (by kernel_rfl) rfl (del1 J.K) (by decide) (by decide)
theorem cfree (h : Bt w0 w J t2 s4 0 on R L) : Calls Try.prog 80 #[.pointer (some ⟨J.b, 0, none⟩), .agg #[.int .i64 0, .int .i64 1]] w fun e w' => e = .returned (.bool true) ∧ Bt w0 w' J t2 s5 0 on R L := freeRec.dead h r0 g4 dead12 (by kernel_rfl) rfl (by decide) (by decide)
theorem cgone (h : Bt w0 w J t2 s5 0 on R L) : Calls Try.prog 82 #[.pointer (some ⟨J.b, 0, none⟩), .agg #[.int .i64 0, .int .i64 1]] w fun e w' => e = .returned (.tuple #[.agg #[.string ⟨#[]⟩, .int .i64 0, .string ⟨#[]⟩], .bool false]) ∧ Bt w0 w' J t2 s5 1 on R L := get.calls h r0 g5 (by decide) (by decide)
theorem ccounts (h : Bt w0 w J t2 s5 1 on R L) : Calls Try.prog 86 #[.pointer (some ⟨J.b, 0, none⟩)] w fun e w' => e = .returned (.tuple #[.int .i64 0, .int .i64 1, .int .i64 0]) ∧ Bt w0 w' J t2 s5 1 on R L := by
 have h1 : (s5.live.length : Int) = 0 := by kernel_rfl
 have h2 : ((t2.p.held : Int) - (t2.gone.length : Int)) = 1 := by kernel_rfl
 have h3 : (t2.gone.length : Int) = 0 := by kernel_rfl
 have := counts.calls h (Nat.le_of_ble_eq_true (by kernel_rfl))
 rwa [h1, h2, h3] at this
theorem cfaults (h : Bt w0 w J t2 s5 1 on R L) : Calls Try.prog 81 #[.pointer (some ⟨J.b, 0, none⟩)] w fun e w' => e = .returned (.int .i64 1) ∧ Bt w0 w' J t2 s5 1 on R L := faults.calls h
theorem ccheck (h : Bt w0 w J t2 s5 1 on R L) : Calls Try.prog 85 #[.pointer (some ⟨J.b, 0, none⟩)] w fun e w' => e = .returned (.bool true) ∧ Bt w0 w' J t2 s5 1 on R L := check.calls h (l := []) (by decide) (chk2 J.K) (its2 J.K) (fun k x hx => by simp at hx)
theorem eq126x (w : World) : (binOp .eql 126 (.agg #[.string ⟨#[97]⟩, .int .i64 8, .string ⟨#[120]⟩]) (.agg #[.string ⟨#[97]⟩, .int .i64 8, .string ⟨#[120]⟩])).run Try.prog w = .ok (.bool true) w := by kernel_rfl
theorem awake.calls (w : World) : Calls Try.prog 74 #[] w fun e w' => e = .returned (.bool true) ∧ Below w.heap.size w w' := by
 have hu33 := Try.underlying33
 have hu31 := Try.underlying31
 have hu116 := Try.underlying116
 have hu126 := Try.underlying126
 have hz := eq126x
 go_enter Try.func74, Try.ntmps74
 go_upto_region 4 with (go_at_call 75; go_loud (refine (new.calls (Hv.start w) 3 5 (by decide) (by decide) (by decide) (by decide)).mono ?_; rintro e1 w1 ⟨J, rfl, h1⟩; have H1 := As (show Bt w w1 J t0 s0 0 .nilFunc [] [] from h1); clear h1))
 go_upto_region 5 with (go_at_call 76; go_loud (refine (cplace H1.out).mono ?_; rintro e2 w2 ⟨ad, cp, R1, rfl, hh⟩; have H2 := As hh; clear hh))
 obtain ⟨W3, hW, hw⟩ : ∃ W, W = w2.alloc (.cells #[.int .i64 0, .int .i64 1] 33) ∧ Bt w W J t1 s1 0 .nilFunc R1 ([cb w2.heap.size 33 #[.int .i64 0, .int .i64 1]]) := ⟨_, rfl, H2.out.alloc _⟩
 rw [← hW]
 have H3 := As hw
 clear hW hw
 generalize w2.heap.size = b3 at H3 ⊢
 go_upto_region 6 with (go_at_call 76; go_loud (refine (cdup H3.out).mono ?_; rintro e4 w4 ⟨rfl, hh⟩; have H4 := As hh; clear hh))
 obtain ⟨W5, hW, hw⟩ : ∃ W, W = w4.alloc (.cells #[.int .i64 0, .int .i64 0] 33) ∧ Bt w W J t1 s1 0 .nilFunc R1 ([cb b3 33 #[.int .i64 0, .int .i64 1]]) := ⟨_, rfl, (H4.out.alloc _).tail⟩
 rw [← hW]
 have H5 := As hw
 clear hW hw
 obtain ⟨a0, a1, -, -⟩ := H5.out.other.c2 b3 33 (.int .i64 0) (.int .i64 1) (by simp)
 go_upto_region 7 with (go_at_call 79; go_loud (refine (clock H5.out).mono ?_; rintro e6 w6 ⟨rfl, hh⟩; have H6 := As hh; clear hh; clear a0 a1; obtain ⟨a0, a1, -, -⟩ := H6.out.other.c2 b3 33 (.int .i64 0) (.int .i64 1) (by simp)))
 go_upto_region 8 with (go_at_call 79; go_loud (refine (clock2 H6.out).mono ?_; rintro e7 w7 ⟨rfl, hh⟩; have H7 := As hh; clear hh; clear a0 a1; obtain ⟨a0, a1, -, -⟩ := H7.out.other.c2 b3 33 (.int .i64 0) (.int .i64 1) (by simp)))
 go_upto_region 9 with (go_at_call 84; go_loud (refine (cinst H7.out).mono ?_; rintro e8 w8 ⟨rfl, hh⟩; have H8 := As hh; clear hh; clear a0 a1; obtain ⟨a0, a1, -, -⟩ := H8.out.other.c2 b3 33 (.int .i64 0) (.int .i64 1) (by simp)))
 go_upto_region 10 with (go_at_call 82; go_loud (refine (cget H8.out).mono ?_; rintro e9 w9 ⟨rfl, hh⟩; have H9 := As hh; clear hh; clear a0 a1))
 obtain ⟨W10, hW, hw⟩ : ∃ W, W = w9.alloc (.cells #[.string ⟨#[97]⟩, .int .i64 8, .string ⟨#[120]⟩] 126) ∧ Bt w W J t1 s3 0 .nilFunc R1 (cb w9.heap.size 126 #[.string ⟨#[97]⟩, .int .i64 8, .string ⟨#[120]⟩] :: [cb b3 33 #[.int .i64 0, .int .i64 1]]) := ⟨_, rfl, H9.out.alloc _⟩
 rw [← hW]
 have H10 := As hw
 clear hW hw
 generalize w9.heap.size = b10 at H10 ⊢
 obtain ⟨a0, a1, -, -⟩ := H10.out.other.c2 b3 33 (.int .i64 0) (.int .i64 1) (by simp)
 obtain ⟨x0, x1, x2, -, -, -⟩ := H10.out.other.c3 b10 126 (.string ⟨#[97]⟩) (.int .i64 8) (.string ⟨#[120]⟩) (by simp)
 go_upto_region 11 with (go_at_call 80; go_loud (refine (cearly H10.out).mono ?_; rintro e11 w11 ⟨rfl, hh⟩; have H11 := As hh; clear hh; clear a0 a1 x0 x1 x2; obtain ⟨a0, a1, -, -⟩ := H11.out.other.c2 b3 33 (.int .i64 0) (.int .i64 1) (by simp); obtain ⟨x0, x1, x2, -, -, -⟩ := H11.out.other.c3 b10 126 (.string ⟨#[97]⟩) (.int .i64 8) (.string ⟨#[120]⟩) (by simp)))
 go_upto_region 12 with (go_at_call 77; go_loud (refine (cunl H11.out).mono ?_; rintro e12 w12 ⟨ad2, cp2, R2, rfl, hh⟩; have H12 := As hh; clear hh; clear a0 a1 x0 x1 x2; obtain ⟨a0, a1, -, -⟩ := H12.out.other.c2 b3 33 (.int .i64 0) (.int .i64 1) (by simp); obtain ⟨x0, x1, x2, -, -, -⟩ := H12.out.other.c3 b10 126 (.string ⟨#[97]⟩) (.int .i64 8) (.string ⟨#[120]⟩) (by simp)))
 go_upto_region 13 with (go_at_call 80; go_loud (refine (cfree H12.out).mono ?_; rintro e13 w13 ⟨rfl, hh⟩; have H13 := As hh; clear hh; clear a0 a1 x0 x1 x2; obtain ⟨a0, a1, -, -⟩ := H13.out.other.c2 b3 33 (.int .i64 0) (.int .i64 1) (by simp); obtain ⟨x0, x1, x2, -, -, -⟩ := H13.out.other.c3 b10 126 (.string ⟨#[97]⟩) (.int .i64 8) (.string ⟨#[120]⟩) (by simp)))
 go_upto_region 14 with (go_at_call 82; go_loud (refine (cgone H13.out).mono ?_; rintro e14 w14 ⟨rfl, hh⟩; have H14 := As hh; clear hh; clear a0 a1 x0 x1 x2))
 obtain ⟨W15, hW, hw⟩ : ∃ W, W = w14.alloc (.cells #[.string ⟨#[]⟩, .int .i64 0, .string ⟨#[]⟩] 126) ∧ Bt w W J t2 s5 1 .nilFunc R2 (cb b10 126 #[.string ⟨#[97]⟩, .int .i64 8, .string ⟨#[120]⟩] :: [cb b3 33 #[.int .i64 0, .int .i64 1]]) := ⟨_, rfl, (H14.out.alloc _).tail⟩
 rw [← hW]
 have H15 := As hw
 clear hW hw
 obtain ⟨a0, a1, -, -⟩ := H15.out.other.c2 b3 33 (.int .i64 0) (.int .i64 1) (by simp)
 obtain ⟨x0, x1, x2, -, -, -⟩ := H15.out.other.c3 b10 126 (.string ⟨#[97]⟩) (.int .i64 8) (.string ⟨#[120]⟩) (by simp)
 go_upto_region 15 with (go_at_call 86; go_loud (refine (ccounts H15.out).mono ?_; rintro e16 w16 ⟨rfl, hh⟩; have H16 := As hh; clear hh; clear a0 a1 x0 x1 x2; obtain ⟨a0, a1, -, -⟩ := H16.out.other.c2 b3 33 (.int .i64 0) (.int .i64 1) (by simp); obtain ⟨x0, x1, x2, -, -, -⟩ := H16.out.other.c3 b10 126 (.string ⟨#[97]⟩) (.int .i64 8) (.string ⟨#[120]⟩) (by simp)))
 go_wp2_with (first | (go_at_call 85; have hx := H17.out; clear hx; go_loud (refine (ccheck H17.out).mono ?_; rintro e18 w18 ⟨rfl, hh⟩; have H18 := As hh; clear hh)) | (go_at_call 81; go_loud (refine (cfaults H16.out).mono ?_; rintro e17 w17 ⟨rfl, hh⟩; have H17 := As hh; clear hh; clear a0 a1 x0 x1 x2; obtain ⟨a0, a1, -, -⟩ := H17.out.other.c2 b3 33 (.int .i64 0) (.int .i64 1) (by simp); obtain ⟨x0, x1, x2, -, -, -⟩ := H17.out.other.c3 b10 126 (.string ⟨#[97]⟩) (.int .i64 8) (.string ⟨#[120]⟩) (by simp))))
 exact bodyPost_ret (v := .bool true) (by simp [results, Try.results74, go_sem]) rfl ⟨rfl, H18.out.bel⟩
end
section
variable {w0 w w1 : World} {L L' R : List Ob} {t : Tm} {s : Ar} {f : Int} {on : Value} {J : Jx}
abbrev Dd := Int × Int × Int × ByteArray × ByteArray × Bool × (Int × Int)
def dcel (z : Dd) : List Value := [.int .i64 z.1, .int .i64 z.2.1, .int .i64 z.2.2.1, .string z.2.2.2.1, .string z.2.2.2.2.1, .bool z.2.2.2.2.2.1, .int .i64 z.2.2.2.2.2.2.1, .int .i64 z.2.2.2.2.2.2.2]
def DRow (w : World) (ad : Option Addr) (l : List Dd) : Prop := ∀ k d, l[k]? = some d → ∃ a, ad = some a ∧ ∀ j u, (dcel d)[j]? = some u → w.cell? (a.add (k * 8 + j)) = some u
theorem DRow.below {ad : Option Addr} {l : List Dd} (h : DRow w ad l) (hb : Below w.heap.size w w1) : DRow w1 ad l := fun k d hk => by
 obtain ⟨a, e, h2⟩ := h k d hk
 exact ⟨a, e, fun j u hu => pw_cell_below hb (h2 j u hu)⟩
def FewP (w : World) (l : List Dd) (e : Ending) (w' : World) : Prop := ∃ b : Bool, e = .returned (.bool b) ∧ (b = true → l.length ≤ 100) ∧ Below w.heap.size w w'
theorem few.calls (w : World) (l : List Dd) {ad : Option Addr} {c : Nat} (hl : l.length ≤ 9223372036854775807) (hR : DRow w ad l) : Calls Try.prog 73 #[.slice ad l.length c] w (FewP w l) := by
 have hu114 := Try.underlying114
 have hu124 := Try.underlying124
 have hu9 := Try.underlying9
 have HR := As hR
 clear hR
 by_cases hbig : 100 < l.length
 ·have hb : ((l.length : Int) > 100) := by omega
  go_enter Try.func73, Try.ntmps73
  go_wp2_with fail
  exact bodyPost_ret (v := .bool false) (by simp [results, Try.results73, go_sem]) rfl ⟨false, rfl, by simp, Below.refl _ _⟩
 ·have hb : ¬ ((l.length : Int) > 100) := by omega
  have hl60 : l.length ≤ 100 := by omega
  have HL := As hl60
  clear hbig hl hl60
  go_enter Try.func73, Try.ntmps73
  go_wp2_with fail
  go_loopg [3] l.length (fun kq v3 wr => ∃ (k : Nat), v3 = .int .i64 (k : Int) ∧ kq = l.length - k ∧ k ≤ l.length ∧ wr = w)
  case atStart => exact ⟨0, rfl, rfl, Nat.zero_le _, rfl⟩
  case round =>
   obtain ⟨k, rfl, rfl, hk, rfl⟩ := hrel
   by_cases hltn : k < l.length
   ·have hlt' : (k : Int) < (l.length : Int) := by omega
    obtain ⟨d, hd⟩ : ∃ d, l[k]? = some d := ⟨_, List.getElem?_eq_getElem hltn⟩
    obtain ⟨a, rfl, hcl⟩ := HR.out k d hd
    have z3 := hcl 3 (.string d.2.2.2.1) rfl
    have z4 := hcl 4 (.string d.2.2.2.2.1) rfl
    rw [add_next _ _ _ (by omega)] at z3 z4
    clear hcl hd
    obtain ⟨kd, od, wd, k0, d0, ab, rr⟩ := d
    simp only at z3 z4
    have hk7 : k ≤ 100 := by have := HL.out; omega
    by_cases g2 : 500 < k0.size
    ·have g2' : ((k0.size : Int) > 500) := by omega
     go_wp2_with fail
     exact bodyPost_ret (v := .bool false) (by simp [results, Try.results73, go_sem]) rfl ⟨false, rfl, by simp, Below.refl _ _⟩
    ·have g2' : ¬ ((k0.size : Int) > 500) := by omega
     by_cases g3 : 2000 < d0.size
     ·have g3' : ((d0.size : Int) > 2000) := by omega
      go_wp2_with fail
      exact bodyPost_ret (v := .bool false) (by simp [results, Try.results73, go_sem]) rfl ⟨false, rfl, by simp, Below.refl _ _⟩
     ·have g3' : ¬ ((d0.size : Int) > 2000) := by omega
      go_wp2_with fail
      go_roundg (l.length - (k + 1))
      case measure => omega
      case rel => exact ⟨k + 1, by go_num, rfl, hltn, rfl⟩
   ·have hge : ¬ (k : Int) < (l.length : Int) := by omega
    go_wp2_with fail
    exact bodyPost_ret (v := .bool true) (by simp [results, Try.results73, go_sem]) rfl ⟨true, rfl, fun _ => HL.out, Below.refl _ _⟩
theorem neqRef (r : Rf) (h : r ≠ (0, 1)) (w : World) : (binOp .eql 33 (.agg #[.int .i64 r.1, .int .i64 r.2]) (.agg #[.int .i64 0, .int .i64 1])).run Try.prog w = .ok (.bool false) w := by
 rw [eql33]
 have : (r.1 == 0 && (r.2 == 1)) = false := by
  cases h1 : (r.1 == 0 && (r.2 == 1))
  ·rfl
  ·simp only [Bool.and_eq_true, beq_iff_eq] at h1
   exact absurd (Prod.ext h1.1 h1.2) h
 rw [this]
theorem gone.calls (w : World) (l : List Dd) (key : ByteArray) {ad : Option Addr} {c : Nat} (hl : l.length ≤ 9223372036854775807) (hR : DRow w ad l) :
  Calls Try.prog 13 #[.slice ad l.length c, .string key] w fun e w' => e = .returned (.bool true) ∧ Below w.heap.size w w' := by
 have hu33 := Try.underlying33
 have hu85 := Try.underlying85
 have hu114 := Try.underlying114
 have hu116 := Try.underlying116
 have hu124 := Try.underlying124
 have hu126 := Try.underlying126
 have hu9 := Try.underlying9
 have HR := As (And.intro hl hR)
 clear hR hl
 by_cases hkey : 500 < key.size
 ·have hkey' : ((key.size : Int) > 500) := by omega
  go_enter Try.func13, Try.ntmps13
  go_wp2_with (first | (go_at_call 73; go_loud (refine (few.calls w l HR.out.1 HR.out.2).mono ?_); rintro e w1 hq; obtain ⟨b, rfl, hbt, hbl⟩ := hq; have HB := As hbl; clear hbl hbt; cases b) | (go_at_call 74; go_loud (refine (awake.calls _).mono ?_); rintro e w6 ⟨rfl, hb⟩; have H6 := As ((HB.out.trans (hb.mono HB.out.size))); clear hb))
  all_goals exact bodyPost_ret (v := .bool true) (by simp [results, Try.results13, go_sem]) rfl ⟨rfl, H6.out⟩
 ·have hkey' : ¬ ((key.size : Int) > 500) := by omega
  clear hkey
  go_enter Try.func13, Try.ntmps13
  go_upto_region 3 with (first | (go_at_call 73; go_loud (refine (few.calls w l HR.out.1 HR.out.2).mono ?_); rintro e w1 hq; obtain ⟨b, rfl, hbt, hbl⟩ := hq; have HB := As hbl; have HT := As hbt; clear hbl hbt; cases b) | (go_at_call 74; go_loud (refine (awake.calls _).mono ?_); rintro e w6 ⟨rfl, hb⟩; have H6 := As ((HB.out.trans (hb.mono HB.out.size))); clear hb))
  ·exact bodyPost_ret (v := .bool true) (by simp [results, Try.results13, go_sem]) rfl ⟨rfl, H6.out⟩
  ·have HF := As (HT.out (by simp))
   go_upto_region 6 with (go_at_call 75; go_loud (refine (Go1.cnew ((Hv.start w).call HB.out)).mono ?_; rintro e1 w2 ⟨J, rfl, h1⟩; have H1 := As h1; clear h1))
   go_upto_region 7 with (go_at_call 76; go_loud (refine (Go1.cplace H1.out key).mono ?_; rintro e2 w3 ⟨ad2, n2, cp2, R2, rfl, hh⟩; have H2 := As hh; clear hh))
   obtain ⟨W3, hW, hw⟩ : ∃ W, W = w3.alloc (.cells #[.int .i64 0, .int .i64 1] 33) ∧ Bt w W J (Go1.T1 key) (Go1.S1 key) 0 .nilFunc R2 ([cb w3.heap.size 33 #[.int .i64 0, .int .i64 1]]) := ⟨_, rfl, H2.out.alloc _⟩
   rw [← hW]
   have H3 := As hw
   clear hW hw
   generalize w3.heap.size = b7 at H3 ⊢
   obtain ⟨a0, a1, -, -⟩ := H3.out.other.c2 b7 33 (.int .i64 0) (.int .i64 1) (by simp)
   go_upto_region 10 with (go_at_call 77; go_loud (refine (Go1.cunl H3.out).mono ?_; rintro e3 w4 ⟨ad3, cp3, R3, rfl, hh⟩; have H4 := As hh; clear hh; clear a0 a1))
   go_upto_region 11 with (go_at_call 78; go_loud (refine (Go1.cfind H4.out).mono ?_; rintro e4 w5 ⟨rfl, hh⟩; have H5 := As hh; clear hh))
   obtain ⟨W6, hW, hw⟩ : ∃ W, W = (w5.alloc (.cells #[.int .i64 0, .int .i64 0] 33)).alloc (.cells #[.int .i64 0, .int .i64 1, .int .i64 3] 85) ∧ Bt w W J (Go1.T2 key) (Go1.S2 key) 0 .nilFunc R3 ([cb b7 33 #[.int .i64 0, .int .i64 1]]) := ⟨_, rfl, ((H5.out.alloc _).alloc _).tail.tail⟩
   rw [← hW]
   have H6 := As hw
   clear hW hw
   obtain ⟨a0, a1, -, -⟩ := H6.out.other.c2 b7 33 (.int .i64 0) (.int .i64 1) (by simp)
   go_upto_region 13 with (first | (go_at_call 79; go_loud (refine (Go1.clock H6.out).mono ?_; rintro e7 w7 ⟨rfl, hh⟩; have H7 := As hh; clear hh; clear a0 a1; obtain ⟨a0, a1, -, -⟩ := H7.out.other.c2 b7 33 (.int .i64 0) (.int .i64 1) (by simp))) | (go_at_call 80; go_loud (refine (Go1.cfree H7.out).mono ?_; rintro e8 w8 ⟨rfl, hh⟩; have H8 := As hh; clear hh; clear a0 a1; obtain ⟨a0, a1, -, -⟩ := H8.out.other.c2 b7 33 (.int .i64 0) (.int .i64 1) (by simp))))
   clear a0 a1
   go_wp2_with fail
   go_loopg [15] l.length (fun kq v15 wr => ∃ (k : Nat), v15 = .int .i64 (k : Int) ∧ kq = l.length - k ∧ k ≤ l.length ∧ Aside0 (Keep w wr J [cb b7 33 #[.int .i64 0, .int .i64 1]] k))
   case atStart => exact ⟨0, rfl, rfl, Nat.zero_le _, H8⟩
   case round =>
    obtain ⟨k, rfl, rfl, hk, HK⟩ := hrel
    clear H8 H7
    have hk100 : k ≤ 100 := by have := HF.out; omega
    by_cases hltn : k < l.length
    ·have hlt' : (k : Int) < (l.length : Int) := by omega
     obtain ⟨d, hd⟩ : ∃ d, l[k]? = some d := ⟨_, List.getElem?_eq_getElem hltn⟩
     obtain ⟨adl, ea, hcl⟩ := HR.out.2 k d hd
     cases ea
     have z3 := hcl 3 (.string d.2.2.2.1) rfl
     rw [add_next _ _ _ (by omega)] at z3
     have HBel := As (show Below w.heap.size w wr from by obtain ⟨t, s, on, R, h, ns, its, V, hB, hr⟩ := HK.out; exact hB.bel)
     have z3w := pw_cell_below HBel.out z3
     clear hcl hd z3
     obtain ⟨kd, od, wd, k0, d0, ab, rr⟩ := d
     simp only at z3w
     go_upto_region 17 with (go_at_call 76; go_loud (refine (HK.out.place hk100 k0).mono ?_; rintro e9 w9 ⟨r, ad9, n9, cp9, er9, rfl, hne, hh⟩; have H9 := As hh; have HNE := As hne; clear hh hne z3w))
     obtain ⟨W10, hW, hw⟩ : ∃ W, W = w9.alloc (.cells #[.int .i64 r.1, .int .i64 r.2] 33) ∧ Keep w W J (cb w9.heap.size 33 #[.int .i64 r.1, .int .i64 r.2] :: [cb b7 33 #[.int .i64 0, .int .i64 1]]) (k + 1) := ⟨_, rfl, H9.out.alloc _⟩
     rw [← hW]
     have H10 := As hw
     clear hW hw
     generalize w9.heap.size = b16 at H10 ⊢
     obtain ⟨a0, a1, -, -⟩ := H10.out.other.c2 b7 33 (.int .i64 0) (.int .i64 1) (by simp)
     obtain ⟨x0, x1, -, -⟩ := H10.out.other.c2 b16 33 (.int .i64 r.1) (.int .i64 r.2) (by simp)
     have heq := neqRef r HNE.out
     go_wp2_with fail
     go_roundg (l.length - (k + 1))
     case measure => omega
     case rel => exact ⟨k + 1, by first | rfl | go_num, rfl, hltn, ⟨H10.out.drop (List.sublist_cons_self _ _)⟩⟩
    ·have hge : ¬ (k : Int) < (l.length : Int) := by omega
     have HE := As (HK.out.end (by omega))
     obtain ⟨a0, a1, -, -⟩ := HE.out.other.c2 b7 33 (.int .i64 0) (.int .i64 1) (by simp)
     go_upto_region 20 with (go_at_call 81; go_loud (refine (HE.out.faults).mono ?_; rintro ea wa ⟨rfl, hh⟩; have H11 := As hh; clear hh; clear a0 a1; obtain ⟨a0, a1, -, -⟩ := H11.out.other.c2 b7 33 (.int .i64 0) (.int .i64 1) (by simp)))
     go_upto_region 21 with (go_at_call 82; go_loud (refine (H11.out.get (by decide) (by decide)).mono ?_; rintro eb wb ⟨rfl, hh⟩; have H12 := As hh; clear hh; clear a0 a1))
     obtain ⟨W13, hW, hw⟩ : ∃ W, W = wb.alloc (.cells #[.string ⟨#[]⟩, .int .i64 0, .string ⟨#[]⟩] 126) ∧ Keep3 w W J [cb b7 33 #[.int .i64 0, .int .i64 1]] 1 := ⟨_, rfl, (H12.out.alloc _).drop (List.sublist_cons_self _ _)⟩
     rw [← hW]
     have H13 := As hw
     clear hW hw
     obtain ⟨a0, a1, -, -⟩ := H13.out.other.c2 b7 33 (.int .i64 0) (.int .i64 1) (by simp)
     go_wp2_with (first | (go_at_call 83; go_loud (refine (H13.out.unlock (by decide) (by decide)).mono ?_; rintro ec wc ⟨rfl, hh⟩; have H14 := As (show Keep3 w wc J _ 2 from hh); clear hh; clear a0 a1; obtain ⟨a0, a1, -, -⟩ := H14.out.other.c2 b7 33 (.int .i64 0) (.int .i64 1) (by simp))) | (go_at_call 84; go_loud (refine (H14.out.install (by decide) (by decide) 8 ⟨#[]⟩ false).mono ?_; rintro ed wd ⟨rfl, hh⟩; have H15 := As (show Keep3 w wd J _ 3 from hh); clear hh; clear a0 a1; obtain ⟨a0, a1, -, -⟩ := H15.out.other.c2 b7 33 (.int .i64 0) (.int .i64 1) (by simp))) | (go_at_call 81; have hx := H15.out; clear hx; go_loud (refine (H15.out.faults).mono ?_; rintro ee we ⟨rfl, hh⟩; have H16 := As hh; clear hh)) | (go_at_call 85; go_loud (refine (H16.out.check).mono ?_; rintro ef wf ⟨rfl, hh⟩; have H17 := As hh; clear hh)) | (go_at_call 74; go_loud (refine (awake.calls _).mono ?_; rintro eg wh ⟨rfl, hb⟩; have H18 := As (H17.out.call hb); clear hb)))
     exact bodyPost_ret (v := .bool true) (by simp [results, Try.results13, go_sem]) rfl ⟨rfl, H18.out.bel⟩
end
end Go.Proofs.Ytglbcfkmaamhaaa.Bs
namespace Go.Proofs.Ytglbcfkmaamhaaa.Opens
open Go.RowKit Go.Proofs.YtglbcfkmaamhaaaW.PrintWords Go.WideShapes
section
def Opens {α : Type} (P : Program) (d : Kd α) (good : α → Prop) (t : TypeId) : Prop :=
 ∀ (H : Type) (enc : TypeId × Value → H) (w : World) (base : Nat) (spare : Nat → Bool) (held : Bool) (fuel : Nat) (cs : List Value) (x : DataW H × List MemPlace),
  DataW.trod enc P w base spare held fuel t cs = some x → ∃ v, d.K w v cs ∧ good v
theorem Opens.imp {α : Type} {P : Program} {d : Kd α} {g g' : α → Prop} {t : TypeId} (h : Opens P d g t) (hg : ∀ x, g x → g' x) : Opens P d g' t := fun H enc w base spare held fuel cs x hx => by
 obtain ⟨v, hv, h1⟩ := h H enc w base spare held fuel cs x hx
 exact ⟨v, hv, hg v h1⟩
theorem opens_int {P : Program} {k : IntKind} {t : TypeId} (ht : P.underlying t = some (.int k)) : Opens P (Kd.int k) (fun n => (Lit.int k n).wf = true) t := fun H enc w base spare held fuel cs x hx => by
 obtain ⟨n, rfl, _, hw⟩ := DataW.trod_int ht hx
 exact ⟨n, rfl, hw⟩
theorem opens_bool {P : Program} {t : TypeId} (ht : P.underlying t = some .bool) : Opens P Kd.bool (fun _ => True) t := fun H enc w base spare held fuel cs x hx => by
 obtain ⟨b, rfl, _⟩ := DataW.trod_bool ht hx
 exact ⟨b, rfl, trivial⟩
theorem opens_string {P : Program} {t : TypeId} (ht : P.underlying t = some .string) : Opens P Kd.string (fun s => s.size ≤ maxLen) t := fun H enc w base spare held fuel cs x hx => by
 obtain ⟨s, rfl, _, hs⟩ := DataW.trod_string ht hx
 exact ⟨s, rfl, hs⟩
theorem cells_list (w : World) (base : Nat) (a : Addr) (n : Nat) {cs : List Value} (h : w.cells? base a n = some cs) : cs.length = n ∧ ∀ i u, cs[i]? = some u → w.cell? (a.add i) = some u := by
 obtain ⟨_, hl, hc⟩ := World.cells?_some h
 refine ⟨hl, fun i u hu => ?_⟩
 have hi : i < cs.length := (List.getElem?_eq_some_iff.1 hu).1
 exact (hc i (by omega)).trans hu
theorem choose_nat {α : Type} {p : Nat → α → Prop} : ∀ m : Nat, (∀ i, i < m → ∃ x, p i x) → ∃ xs : List α, xs.length = m ∧ ∀ i x, xs[i]? = some x → p i x
 | 0, _ => ⟨[], rfl, fun i x h => by simp at h⟩
 | m + 1, h => by
  obtain ⟨xs, hl, hx⟩ := choose_nat m (fun i hi => h i (by omega))
  obtain ⟨y, hy⟩ := h m (by omega)
  refine ⟨xs ++ [y], by simp [hl], fun i x hix => ?_⟩
  rcases Nat.lt_or_ge i xs.length with h1 | h1
  ·rw [List.getElem?_append_left h1] at hix
   exact hx i x hix
  ·have hi : i = m := by
    have := (List.getElem?_eq_some_iff.1 hix).1
    rw [List.length_append, List.length_singleton] at this
    omega
   subst hi
   rw [← hl, List.getElem?_append_right (Nat.le_refl _), Nat.sub_self] at hix
   have : y = x := by simpa using hix
   subst this
   exact hy
theorem addr_add (a : Addr) (i j : Nat) : (a.add i).add j = a.add (i + j) := by
 unfold Addr.add
 by_cases hi : i = 0 <;> by_cases hj : j = 0 <;> simp [hi, hj, Nat.add_assoc]
theorem opens_slice {α : Type} {P : Program} {d : Kd α} {g : α → Prop} {t e : TypeId} {q : Nat} (ht : P.underlying t = some (.slice e)) (hc : P.cellsOf e = d.sz) (he : Opens P d g e) :
  Opens P (Kd.slice q d) (fun xs => xs.length ≤ maxLen ∧ ∀ x ∈ xs, g x) t := fun H enc w base spare held fuel cs x hx => by
 rcases Go.Deep.open_slice ht hx with ⟨rfl, _⟩ | ⟨a, len, cap, m, n, D, Pl, rfl, _, hl, hm, hmm, _, hel⟩
 ·exact ⟨[], ⟨none, 0, rfl, Nat.le_refl _, ⟨rfl, by simp, fun h => absurd h (Nat.lt_irrefl 0)⟩⟩, by simp, by simp⟩
 ·have hlm : len ≤ m := by rw [hmm]; split <;> omega
  obtain ⟨xs, hxl, hxs⟩ := choose_nat (p := fun i (z : α) => g z ∧ ∃ c : List Value, c.length = d.sz ∧ d.K w z c ∧ ∀ j u, c[j]? = some u → w.cell? (a.add (i * d.sz + j)) = some u) len (fun i hi => by
   obtain ⟨cs', h1, h2⟩ := hel i (by omega)
   rw [hc] at h1
   obtain ⟨hcl, hcc⟩ := cells_list w base _ _ h1
   obtain ⟨z, hz, hg⟩ := he H enc w base spare held n cs' _ h2
   exact ⟨z, hg, cs', hcl, hz, fun j u hu => by rw [← addr_add]; exact hcc j u hu⟩)
  have hm' : len ≤ 9223372036854775807 := by unfold maxLen at hm; omega
  refine ⟨xs, ⟨some a, cap, by rw [hxl], by omega, ⟨rfl, by omega, fun _ => ⟨a, rfl, fun j p hj => ?_⟩⟩⟩, by omega, fun z hz => ?_⟩
  ·obtain ⟨_, c, h1, h2, h3⟩ := hxs j p hj
   exact ⟨c, h1, h2, h3⟩
  ·obtain ⟨i, hi⟩ := List.mem_iff_getElem?.1 hz
   exact (hxs i z hi).1
def Fields {α : Type} (P : Program) (d : Kd α) (good : α → Prop) (fs : Array Field) (i o : Nat) : Prop :=
 ∀ (H : Type) (enc : TypeId × Value → H) (w : World) (base : Nat) (spare : Nat → Bool) (held : Bool) (n : Nat) (cs : List Value) (xs : List (DataW H × List MemPlace)), xs.length = fs.size → cs.length = o + d.sz →
  (∀ (i : Nat) (f : Field), fs[i]? = some f → DataW.trod enc P w base spare held n f.type ((cs.drop f.offset).take (P.cellsOf f.type)) = xs[i]?) → ∃ v, d.K w v (cs.drop o) ∧ good v
theorem fields_last {α : Type} {P : Program} {d : Kd α} {g : α → Prop} {fs : Array Field} {i o : Nat} {f : Field} (hf : fs[i]? = some f) (ho : f.offset = o) (hs : P.cellsOf f.type = d.sz) (h : Opens P d g f.type) : Fields P d g fs i o :=
 fun H enc w base spare held n cs xs hx hl hr => by
  have hi : i < xs.length := by rw [hx]; exact (Array.getElem?_eq_some_iff.1 hf).1
  have h1 := hr i f hf
  rw [List.getElem?_eq_getElem hi, ho, hs, List.take_of_length_le (by rw [List.length_drop]; omega)] at h1
  exact h H enc w base spare held n _ _ h1
theorem fields_cons {α β : Type} {P : Program} {a : Kd α} {b : Kd β} {g : α → Prop} {g' : β → Prop} {fs : Array Field} {i o : Nat} {f : Field} (hf : fs[i]? = some f) (ho : f.offset = o) (hs : P.cellsOf f.type = a.sz) (h : Opens P a g f.type)
  (hr : Fields P b g' fs (i + 1) (o + a.sz)) : Fields P (Kd.pair a b) (fun x => g x.1 ∧ g' x.2) fs i o :=
 fun H enc w base spare held n cs xs hx hl hrd => by
  have hi : i < xs.length := by rw [hx]; exact (Array.getElem?_eq_some_iff.1 hf).1
  have h1 := hrd i f hf
  rw [List.getElem?_eq_getElem hi, ho, hs] at h1
  obtain ⟨v, hv, hg⟩ := h H enc w base spare held n _ _ h1
  obtain ⟨u, hu, hg'⟩ := hr H enc w base spare held n cs xs hx (by rw [hl]; show o + (a.sz + b.sz) = _; omega) hrd
  refine ⟨(v, u), ⟨_, _, ?_, hv, hu⟩, hg, hg'⟩
  rw [← List.drop_drop, List.take_append_drop]
theorem opens_struct {α β : Type} {P : Program} {d : Kd α} {g : α → Prop} {t : TypeId} {fs : Array Field} (ht : P.underlying t = some (.struct fs)) (hs : P.cellsOf t = d.sz) (h : Fields P d g fs 0 0) (f : β → α) (inv : α → β) (hfi : ∀ y, f (inv y) = y) :
  Opens P (Kd.iso d f) (fun x => g (f x)) t := fun H enc w base spare held fuel cs x hx => by
 obtain ⟨xs, n, _, _, hl, hxl, hr⟩ := DataW.trod_struct ht hx
 obtain ⟨v, hv, hg⟩ := h H enc w base spare held n cs xs hxl (by rw [hl, hs]; omega) hr
 refine ⟨inv v, ?_, by show g (f (inv v)); rw [hfi]; exact hg⟩
 show d.K w (f (inv v)) cs
 rw [hfi]
 exact hv
theorem arg_slice {α : Type} {P : Program} {d : Kd α} {g : α → Prop} {t e : TypeId} (ht : P.underlying t = some (.slice e)) (hc : P.cellsOf e = d.sz) (he : Opens P d g e)
  {H : Type} {enc : TypeId × Value → H} {w : World} {base b0 : Nat} {spare : Nat → Bool} {held : Bool} {r : Reach} {v : Value} {x : DataW H} {p : List MemPlace} (hv : Value.okWide P w r b0 t v) (h : DataW.Trod enc P w base spare held t v x p) :
  ∃ (A : Option Addr) (c : Nat) (xs : List α), v = .slice A xs.length c ∧ xs.length ≤ c ∧ d.C w A xs.length xs ∧ xs.length ≤ maxLen ∧ ∀ z ∈ xs, g z := by
 obtain ⟨a, len, cap, rfl⟩ := okWide_slice ht hv
 obtain ⟨fuel, hf⟩ := h
 obtain ⟨xs, ⟨A, c, hcs, hl, hC⟩, hm, hg⟩ := opens_slice (q := 0) ht hc he H enc w base spare held fuel _ _ hf
 simp [Value.cells] at hcs
 obtain ⟨rfl, rfl, rfl⟩ := hcs
 exact ⟨_, _, xs, rfl, hl, hC, hm, hg⟩
end
end Go.Proofs.Ytglbcfkmaamhaaa.Opens
