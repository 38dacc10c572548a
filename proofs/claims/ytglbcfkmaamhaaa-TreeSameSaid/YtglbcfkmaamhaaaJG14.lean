/- A text of this claim: parts TsD TsE. No condition. -/
import Derived.Test.YtglbcfkmaamhaaaJG13
import Derived.Test.YtglbcfkmaamhaaaJG12
import Derived.Test.YtglbcfkmaamhaaaJG9
import Derived.Test.YtglbcfkmaamhaaaJG0
set_option linter.unusedVariables false
set_option linter.unusedSimpArgs false
set_option maxHeartbeats 16000000
set_option maxRecDepth 100000
namespace Go.Proofs.Ytglbcfkmaamhaaa.Tr
open Go Go.RowKit Go.Shelf Go.Proofs.YtglbcfkmaamhaaaW.PrintWords Go.Proofs.Ytglbcfkmaamhaaa.Hv Go.Proofs.Ytglbcfkmaamhaaa.Arm Go.Proofs.Ytglbcfkmaamhaaa.Nd Go.Proofs.Ytglbcfkmaamhaaa.ArN
section
structure Trn where
 node : Rf
 src : Rf
 old : Int
 new : Int
 fresh : Bool
def tcel (x : Trn) : List Value := [.int .i64 x.node.1, .int .i64 x.node.2, .int .i64 x.src.1, .int .i64 x.src.2, .int .i64 x.old, .int .i64 x.new, .bool x.fresh]
theorem tcel_inj (x y : Trn) (h : tcel x = tcel y) : x = y := by
 simp only [tcel, List.cons.injEq, Value.int.injEq, Value.bool.injEq, true_and, and_true] at h
 obtain ⟨h1, h2, h3, h4, h5, h6, h7⟩ := h
 cases x; cases y
 simp only [Trn.mk.injEq] at *
 exact ⟨Prod.ext h1 h2, Prod.ext h3 h4, h5, h6, h7⟩
theorem infoT : (Try.prog.info? 173).map (fun i => (i.zero, i.size, i.bytes)) = some (some (.agg #[.int .i64 0, .int .i64 0, .int .i64 0, .int .i64 0, .int .i64 0, .int .i64 0, .bool false]), 7, 56) := by kernel_rfl
def stp (leaf : Rf) (s : Tm × List Trn) (x : Rf) (up : Option Rf) : Tm × List Trn :=
 ((s.1.split x up).1, if x = leaf then s.2 ++ [⟨(s.1.split x up).2, leaf, 0, ((s.1.split x up).1.at (s.1.split x up).2).ver, true⟩] else s.2)
def atI (s : List Rf) (x : Ix s.length) : Rf := s.getD x.1 (0, 0)
def upI (s : List Rf) (x : Ix s.length) : Option Rf := if x.1 = 0 then none else some (s.getD (x.1 - 1) (0, 0))
def stpI (s : List Rf) (leaf : Rf) (p : Tm × List Trn) (x : Ix s.length) : Tm × List Trn := stp leaf p (atI s x) (upI s x)
def foldI (s : List Rf) (leaf : Rf) (p : Tm × List Trn) (xs : List (Ix s.length)) : Tm × List Trn := xs.foldl (stpI s leaf) p
theorem foldI_snoc (s : List Rf) (leaf : Rf) (p : Tm × List Trn) (xs : List (Ix s.length)) (x : Ix s.length) : foldI s leaf p (xs ++ [x]) = stpI s leaf (foldI s leaf p xs) x := by simp [foldI]
def smallI (s : List Rf) (p : Tm × List Trn) (x : Ix s.length) : Bool := decide ((p.1.at (atI s x)).refs.length ≤ 4)
def runsI (s : List Rf) (leaf : Rf) : List (Ix s.length) → Tm × List Trn → Tm × List Trn
 | [], p => p
 | x :: xs, p => if smallI s p x then p else runsI s leaf xs (stpI s leaf p x)
def Along (s : List Rf) (leaf : Rf) : Tm × List Trn → List (Ix s.length) → Prop
 | _, [] => True
 | p, x :: xs => smallI s p x = false ∧ Along s leaf (stpI s leaf p x) xs
theorem Along.snoc {s : List Rf} {leaf : Rf} : ∀ {xs : List (Ix s.length)} {p : Tm × List Trn} {x : Ix s.length}, Along s leaf p xs → smallI s (foldI s leaf p xs) x = false → Along s leaf p (xs ++ [x])
 | [], p, x, _, h => ⟨h, trivial⟩
 | y :: xs, p, x, ⟨h1, h2⟩, h => ⟨h1, Along.snoc h2 h⟩
theorem runsI_app {s : List Rf} {leaf : Rf} : ∀ {xs ys : List (Ix s.length)} {p : Tm × List Trn}, Along s leaf p xs → runsI s leaf (xs ++ ys) p = runsI s leaf ys (foldI s leaf p xs)
 | [], ys, p, _ => rfl
 | x :: xs, ys, p, ⟨h1, h2⟩ => by
  rw [List.cons_append, runsI, h1, if_neg (by simp), runsI_app h2]
  rfl
theorem ixL_rest (n : Nat) : ∀ (k : Nat) (hk : k ≤ n) (m : Nat) (hm : m ≤ n), k ≤ m → ∃ rest, ixL n m hm = ixL n k hk ++ rest
  | k, hk, m, hm, h => by
    induction m with
    | zero => have e : k = 0 := by omega
              subst e
              exact ⟨[], by simp⟩
    | succ m ih =>
      by_cases e : k = m + 1
      · subst e
        exact ⟨[], by simp⟩
      · obtain ⟨rest, hr⟩ := ih (by omega) (by omega)
        exact ⟨rest ++ [ixf n m (by omega)], by rw [ixL, hr, List.append_assoc]⟩
theorem runs_done {s : List Rf} {leaf : Rf} {p : Tm × List Trn} (h : Along s leaf p (ixL s.length s.length (Nat.le_refl _))) : runsI s leaf (ixL s.length s.length (Nat.le_refl _)) p = foldI s leaf p (ixL s.length s.length (Nat.le_refl _)) := by
 have := runsI_app (ys := []) h
 rw [List.append_nil] at this
 exact this
theorem runs_stop {s : List Rf} {leaf : Rf} {p : Tm × List Trn} {pre : List (Ix s.length)} {x : Ix s.length} {k : Nat} (hk : k ≤ s.length) (e : ixL s.length k hk = pre ++ [x]) (h : Along s leaf p pre) (hx : smallI s (foldI s leaf p pre) x = true) : runsI s leaf (ixL s.length s.length (Nat.le_refl _)) p = foldI s leaf p pre := by
 obtain ⟨rest, hr⟩ := ixL_rest s.length k hk s.length (Nat.le_refl _) hk
 rw [hr, e, List.append_assoc, runsI_app h, List.singleton_append, runsI, hx, if_pos rfl]
def Bd (t : Tm) (m : Nat) : Prop := ∀ n ∈ t.ns, n.keys.length ≤ m ∧ n.refs.length ≤ m
theorem Bd.at {t : Tm} {m : Nat} (h : Bd t m) (r : Rf) : (t.at r).keys.length ≤ m ∧ (t.at r).refs.length ≤ m := by
 unfold Tm.at
 split
 ·rw [List.getD_eq_getElem?_getD]
  cases e : t.ns[r.1.toNat]? with
  | none => exact ⟨Nat.zero_le _, Nat.zero_le _⟩
  | some n => exact h n (List.mem_of_getElem? e)
 ·exact ⟨Nat.zero_le _, Nat.zero_le _⟩
theorem Bd.mono {t : Tm} {m k : Nat} (h : Bd t m) (hk : m ≤ k) : Bd t k := fun n hn => ⟨Nat.le_trans (h n hn).1 hk, Nat.le_trans (h n hn).2 hk⟩
theorem Bd.sm {t : Tm} {m : Nat} (h : Bd t m) (hm : m ≤ 1000000) (r : Rf) : Nd.Sm (t.at r) := ⟨Nat.le_trans (h.at r).1 hm, Nat.le_trans (h.at r).2 hm⟩
theorem Bd.set {t : Tm} {m : Nat} (h : Bd t m) (r : Rf) {n : Nd.Nd} (hn : n.keys.length ≤ m ∧ n.refs.length ≤ m) : Bd (t.set r n) m := by
 unfold Tm.set
 split
 ·intro x hx
  rcases List.mem_or_eq_of_mem_set hx with hx | rfl
  ·exact h x hx
  ·exact hn
 ·exact h
theorem Bd.take {t : Tm} {m : Nat} (h : Bd t m) {n : Nd.Nd} (hn : n.keys.length ≤ m ∧ n.refs.length ≤ m) : Bd (t.take n) m := by
 unfold Tm.take
 split
 ·exact h
 ·intro x hx
  rcases List.mem_or_eq_of_mem_set hx with hx | rfl
  ·exact h x hx
  ·exact hn
theorem split_bd {n : Nd.Nd} {m : Nat} (h : n.keys.length ≤ m ∧ n.refs.length ≤ m) : (n.split.1.keys.length ≤ m ∧ n.split.1.refs.length ≤ m) ∧ n.split.2.2.keys.length ≤ m ∧ n.split.2.2.refs.length ≤ m := by
 unfold Nd.Nd.split
 split
 ·simp only [List.length_take, List.length_drop]
  omega
 ·exact ⟨h, by simp⟩
theorem insert_bd {n : Nd.Nd} {m : Nat} (h : n.keys.length ≤ m ∧ n.refs.length ≤ m) (i : Int) (k : ByteArray) (r : Rf) : (n.insert i k r).keys.length ≤ m + 1 ∧ (n.insert i k r).refs.length ≤ m + 1 := by
 unfold Nd.Nd.insert
 split
 ·simp only [List.length_append, List.length_take, List.length_drop, List.length_singleton]
  omega
 ·omega
theorem put_bd {n : Nd.Nd} {m : Nat} (h : n.keys.length ≤ m ∧ n.refs.length ≤ m) (k : ByteArray) (r : Rf) : (n.put k r).1.keys.length ≤ m + 1 ∧ (n.put k r).1.refs.length ≤ m + 1 := by
 have hle := plc_le k n.keys
 unfold Nd.Nd.put
 split
 ·split
  ·simp only [List.length_append, List.length_take, List.length_drop, List.length_singleton]
   omega
  ·simp only [List.length_append, List.length_take, List.length_drop, List.length_singleton]
   omega
 ·simp only []
  omega
theorem Bd.split {t : Tm} {m : Nat} (h : Bd t m) (hm : 2 ≤ m) (r : Rf) (up : Option Rf) : Bd (t.split r up).1 (m + 1) := by
 obtain ⟨h1, h2⟩ := split_bd (h.at r)
 have h3 : Bd (((t.set r (t.at r).split.1).take (t.at r).split.2.2)) m := (h.set r h1).take h2
 unfold Tm.split
 cases up with
 | none =>
  have := h3.take (n := ⟨false, 1, [(t.at r).split.2.1], [r, (t.set r (t.at r).split.1).tk]⟩) (by simp; omega)
  exact fun n hn => ⟨Nat.le_succ_of_le (this n hn).1, Nat.le_succ_of_le (this n hn).2⟩
 | some u => exact (h3.mono (Nat.le_succ m)).set u (insert_bd (h3.at u) _ _ _)
theorem Bd.fold {s : List Rf} {leaf : Rf} : ∀ {xs : List (Ix s.length)} {p : Tm × List Trn} {m : Nat}, Bd p.1 m → 2 ≤ m → Bd (foldI s leaf p xs).1 (m + xs.length)
 | [], p, m, h, _ => h
 | x :: xs, p, m, h, hm => by
  have := Bd.fold (leaf := leaf) (xs := xs) (p := stpI s leaf p x) (Bd.split h hm _ _) (by omega)
  rw [List.length_cons, show m + (xs.length + 1) = m + 1 + xs.length by omega]
  exact this
theorem fold_len {s : List Rf} {leaf : Rf} : ∀ {xs : List (Ix s.length)} {p : Tm × List Trn}, (foldI s leaf p xs).2.length ≤ p.2.length + xs.length
 | [], p => Nat.le_refl _
 | x :: xs, p => by
  have := fold_len (s := s) (leaf := leaf) (xs := xs) (p := stpI s leaf p x)
  have h2 : (stpI s leaf p x).2.length ≤ p.2.length + 1 := by
   unfold stpI stp
   simp only []
   split <;> simp
  show (foldI s leaf (stpI s leaf p x) xs).2.length ≤ _
  rw [List.length_cons]
  omega
theorem stpI_leaf {s : List Rf} {leaf : Rf} {p : Tm × List Trn} {x : Ix s.length} (h : atI s x = leaf) : stpI s leaf p x = ((p.1.split (atI s x) (upI s x)).1, p.2 ++ [⟨(p.1.split (atI s x) (upI s x)).2, leaf, 0, ((p.1.split (atI s x) (upI s x)).1.at (p.1.split (atI s x) (upI s x)).2).ver, true⟩]) := by
 unfold stpI stp
 rw [if_pos h]
theorem stpI_else {s : List Rf} {leaf : Rf} {p : Tm × List Trn} {x : Ix s.length} (h : atI s x ≠ leaf) : stpI s leaf p x = ((p.1.split (atI s x) (upI s x)).1, p.2) := by
 unfold stpI stp
 rw [if_neg h]
def Tm.putW (t : Tm) (key : ByteArray) (r : Rf) (l : List (Rf × Nat)) (q : Rf) : Tm × List Trn × Int :=
 if (t.find key q).2 then (t, [], 13)
 else if t.roomFor (wayL l q) then
  let s := runsI (wayL l q) q (ixL (wayL l q).length (wayL l q).length (Nat.le_refl _)) (t.set q ((t.at q).put key r).1, [])
  (s.1, ⟨q, (0, 0), (t.at q).ver, (s.1.at q).ver, false⟩ :: s.2, 0)
 else (t, [], 20)
def TPutP (w0 : World) (K : Nat × Nat × Nat) (L : List Ob) (p : Tm × List Trn × Int) (e : Ending) (w' : World) : Prop :=
 ∃ ad c A R, e = .returned (.tuple #[.slice ad p.2.1.length c, .int .i64 p.2.2]) ∧ Gr 173 7 (.slice ad p.2.1.length c) p.2.1.length (p.2.1.flatMap tcel) A ∧ Mt w0 w' K p.1 .nilFunc R (A ++ L)
end
end Go.Proofs.Ytglbcfkmaamhaaa.Tr
namespace Go.Proofs.Ytglbcfkmaamhaaa.Tr
open Go Go.RowKit Go.Proofs.YtglbcfkmaamhaaaW.PrintWords Go.Proofs.YtglbcfkmaamhaaaW.PrintLast Go.Proofs.YtglbcfkmaamhaaaW.PrintMore Go.Proofs.Ytglbcfkmaamhaaa.Hv Go.Proofs.Ytglbcfkmaamhaaa.Arm Go.Proofs.Ytglbcfkmaamhaaa.Nd Go.Proofs.Ytglbcfkmaamhaaa.ArN
section
variable {w0 w w1 : World} {L L' R : List Ob} {K : Nat × Nat × Nat} {t : Tm} {on : Value}
theorem putT.dup (h : Mt w0 w K t on R L) (key : ByteArray) (r : Rf) {l : List (Rf × Nat)} {q : Rf} (hd : Dn t key t.root l q) (ho : Nd.Ok (t.at q)) (hm : l.length < 1000000) (hf : (t.find key q).2 = true) : Calls Try.prog 66 #[.pointer (some ⟨K.1, 0, none⟩), .string key, .agg #[.int .i64 r.1, .int .i64 r.2]] w (TPutP w0 K L (t, [], 13)) := by
 have hu59 := Try.underlying59
 have hu33 := Try.underlying33
 have hu31 := Try.underlying31
 have hu85 := Try.underlying85
 have hu80 := Try.underlying80
 have hu173 := Try.underlying173
 have HM := As (show Mt w0 _ K t on R (cb (w.heap.size + 1) 33 #[.int .i64 r.1, .int .i64 r.2] :: cb w.heap.size 80 #[.pointer (some ⟨K.1, 0, none⟩)] :: L) by
  have := (h.alloc (.cells #[.pointer (some ⟨K.1, 0, none⟩)] 80)).alloc (.cells #[.int .i64 r.1, .int .i64 r.2] 33)
  simpa [cb] using this)
 obtain ⟨fr, hfr⟩ : ∃ fr, t.find key q = (fr, true) := ⟨_, Prod.ext rfl hf⟩
 have HD := As (And.intro hd (And.intro ho hfr))
 clear h hd ho hm hf hfr
 obtain ⟨y0, yf⟩ := HM.out.other.c1 w.heap.size 80 (.pointer (some ⟨K.1, 0, none⟩)) (by simp)
 go_enter Try.func66, Try.ntmps66
 go_wp2_with (go_at_call 71; go_loud (refine (find.calls HM.out key HD.out.1 HD.out.2.1).mono ?_); rw [HD.out.2.2]; rintro e2 w2 ⟨rfl, hh⟩; have H2 := As hh; clear hh)
 exact bodyPost_ret (v := .tuple #[.slice none 0 0, .int .i64 13]) (by simp [results, Try.results66, go_sem]) rfl ⟨none, 0, [], R, rfl, Gr.nil 173 7, ((H2.out.alloc _).alloc _).tail.tail.tail.tail⟩
theorem putT.full (h : Mt w0 w K t on R L) (key : ByteArray) (r : Rf) {l : List (Rf × Nat)} {q : Rf} (hd : Dn t key t.root l q) (ho : Nd.Ok (t.at q)) (hm : l.length < 1000000) (hf : (t.find key q).2 = false) (hr : t.roomFor (wayL l q) = false) : Calls Try.prog 66 #[.pointer (some ⟨K.1, 0, none⟩), .string key, .agg #[.int .i64 r.1, .int .i64 r.2]] w (TPutP w0 K L (t, [], 20)) := by
 have hu59 := Try.underlying59
 have hu33 := Try.underlying33
 have hu31 := Try.underlying31
 have hu85 := Try.underlying85
 have hu80 := Try.underlying80
 have hu173 := Try.underlying173
 have HM := As (show Mt w0 _ K t on R (cb (w.heap.size + 1) 33 #[.int .i64 r.1, .int .i64 r.2] :: cb w.heap.size 80 #[.pointer (some ⟨K.1, 0, none⟩)] :: L) by
  have := (h.alloc (.cells #[.pointer (some ⟨K.1, 0, none⟩)] 80)).alloc (.cells #[.int .i64 r.1, .int .i64 r.2] 33)
  simpa [cb] using this)
 obtain ⟨fr, hfr⟩ : ∃ fr, t.find key q = (fr, false) := ⟨_, Prod.ext rfl hf⟩
 have HD := As (And.intro hd (And.intro ho hfr))
 have HL := As (And.intro hm hr)
 have hwl : (wayL l q).length = l.length + 1 := by simp [wayL]
 have HWL := As hwl
 clear h hd ho hm hf hfr hr hwl
 obtain ⟨y0, yf⟩ := HM.out.other.c1 w.heap.size 80 (.pointer (some ⟨K.1, 0, none⟩)) (by simp)
 go_enter Try.func66, Try.ntmps66
 go_upto_region 6 with (go_at_call 71; go_loud (refine (find.calls HM.out key HD.out.1 HD.out.2.1).mono ?_); rw [HD.out.2.2]; rintro e2 w2 ⟨rfl, hh⟩; have H2 := As hh; clear hh)
 obtain ⟨W3, hW, hM⟩ : ∃ W, W = _ ∧ Mt w0 W K t .nilFunc R (cb (w.heap.size + 1) 33 #[.int .i64 r.1, .int .i64 r.2] :: cb w.heap.size 80 #[.pointer (some ⟨K.1, 0, none⟩)] :: L) := ⟨_, rfl, ((H2.out.alloc _).alloc _).tail.tail⟩
 rw [← hW]
 have H3 := As hM
 clear hW hM y0 yf
 obtain ⟨y0, yf⟩ := H3.out.other.c1 w.heap.size 80 (.pointer (some ⟨K.1, 0, none⟩)) (by simp)
 go_upto_region 7 with (go_at_call 110; go_loud (refine (way.calls H3.out key HD.out.1 HL.out.1).mono ?_); rintro e4 w4 ⟨ad, c, A, rfl, hG, hh⟩; have H4 := As hh; have HG := As hG; clear hh hG)
 obtain ⟨W5, hW, hM⟩ : ∃ W, W = _ ∧ Mt w0 W K t .nilFunc R (cb w4.heap.size 31 #[.slice ad (wayL l q).length c] :: (A ++ (cb (w.heap.size + 1) 33 #[.int .i64 r.1, .int .i64 r.2] :: cb w.heap.size 80 #[.pointer (some ⟨K.1, 0, none⟩)] :: L))) := ⟨_, rfl, H4.out.alloc _⟩
 rw [← hW]
 have H5 := As hM
 clear hW hM y0 yf
 generalize w4.heap.size = g11 at H5 ⊢
 obtain ⟨y0, yf⟩ := H5.out.other.c1 w.heap.size 80 (.pointer (some ⟨K.1, 0, none⟩)) (by simp)
 obtain ⟨z0, zf⟩ := H5.out.other.c1 g11 31 (.slice ad (wayL l q).length c) (by simp)
 go_wp2_with (go_at_call 118; go_loud (refine (room.calls H5.out (wayL l q) (by rw [HWL.out]; have := HL.out.1; omega) ((Rdy.of_rw (Rw.of_gr HG.out)).mono (fun p hp => by simp [hp]))).mono ?_); rw [HL.out.2]; rintro e6 w6 ⟨rfl, hh⟩; have H6 := As hh; clear hh)
 exact bodyPost_ret (v := .tuple #[.slice none 0 0, .int .i64 20]) (by simp [results, Try.results66, go_sem]) rfl ⟨none, 0, [], R, rfl, Gr.nil 173 7, (H6.out.drop (L' := L) (by
  refine List.Sublist.trans ?_ (List.sublist_cons_self _ _)
  refine List.Sublist.trans ?_ (List.sublist_append_right _ _)
  exact (List.sublist_cons_self _ _).trans (List.sublist_cons_self _ _)))⟩
end
end Go.Proofs.Ytglbcfkmaamhaaa.Tr
