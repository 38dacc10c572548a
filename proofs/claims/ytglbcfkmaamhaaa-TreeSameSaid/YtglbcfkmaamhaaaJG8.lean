/- A text of this claim: parts NdO WEqStruct NdP TrA TrB TrC TrD. No condition. -/
import Derived.Test.YtglbcfkmaamhaaaJG7
import Derived.Test.YtglbcfkmaamhaaaJG0
import Derived.Laws.StructEq
import Derived.Test.YtglbcfkmaamhaaaJG2
import Derived.Defers
import Derived.Laws.EntriesVeiled
set_option linter.unusedVariables false
set_option linter.unusedSimpArgs false
set_option maxHeartbeats 16000000
set_option maxRecDepth 100000
namespace Go.Proofs.Ytglbcfkmaamhaaa.Nd
open Go Go.RowKit Go.Proofs.YtglbcfkmaamhaaaW.PrintWords Go.Proofs.YtglbcfkmaamhaaaW.PrintLast Go.Proofs.YtglbcfkmaamhaaaW.PrintMore Go.Proofs.Ytglbcfkmaamhaaa.Hv
section
variable {w0 w w1 : World} {g : Nat} {L L' : List Ob}
def asc : List ByteArray → Bool
 | x :: y :: l => bl x y && asc (y :: l)
 | _ => true
theorem asc_iff : ∀ l : List ByteArray, asc l = true ↔ ∀ j x y, l[j]? = some x → l[j+1]? = some y → bl x y = true
 | [] => by simp [asc]
 | [a] => by simp [asc]
 | a :: b :: l => by
  have ih := asc_iff (b :: l)
  simp only [asc, Bool.and_eq_true, ih]
  constructor
  ·rintro ⟨h1, h2⟩ j x y hx hy
   cases j with
   | zero => simp at hx hy; subst hx hy; exact h1
   | succ j => exact h2 j x y (by simpa using hx) (by simpa using hy)
  ·intro h
   exact ⟨h 0 a b rfl rfl, fun j x y hx hy => h (j+1) x y (by simpa using hx) (by simpa using hy)⟩
def Nd.check (n : Nd) : Bool := asc n.keys && n.shape && decide (n.refs.length ≤ 4) && decide (0 ≤ n.ver)
def AscTo (l : List ByteArray) (k : Nat) : Prop := ∀ j x y, j + 1 < k → l[j]? = some x → l[j+1]? = some y → bl x y = true
theorem leq_str (a b : ByteArray) {c : Bool} (h : bl b a = c) : binOp .leq 9 (.string a) (.string b) = pure (.bool (!c)) := by rw [Less.str_leq]; unfold bl at h; rw [h]
theorem check.calls (hv : Hv w0 w L) {n : Nd} {v : Value} (hn : NV w0 L n v) (hb : n.refs.length < 4611686018427387904) (hkl : n.keys.length ≤ 1000000) :
  Calls Try.prog 33 #[v] w fun e w' => e = .returned (.bool n.check) ∧ Hv w0 w' L := by
 have hu59 := Try.underlying59
 have hu57 := Try.underlying57
 have hu31 := Try.underlying31
 obtain ⟨ka, kc, ra, rc, rfl, hr⟩ := hn
 have HV := As (hv.alloc (.cells #[.bool n.leaf, .int .i64 n.ver, .slice ka n.keys.length kc, .slice ra n.refs.length rc] 59))
 have HR := As hr
 have HB := As (And.intro hb hkl)
 obtain ⟨y0, y1, y2, y3, -, -, -, -⟩ := HV.out.c4 w.heap.size 59 (.bool n.leaf) (.int .i64 n.ver) (.slice ka n.keys.length kc) (.slice ra n.refs.length rc) List.mem_cons_self
 clear hv hr hb hkl
 unfold nval
 go_enter Try.func33, Try.ntmps33
 go_wp2_with fail
 clear y0 y1 y2 y3
 go_loopg [7] n.keys.length (fun kq v7 wr => ∃ (k : Nat), v7 = .int .i64 (k : Int) ∧ kq = n.keys.length - k ∧ k ≤ n.keys.length ∧ Aside0 (AscTo n.keys k) ∧ Aside0 (Hv w0 wr (cb w.heap.size 59 #[.bool n.leaf, .int .i64 n.ver, .slice ka n.keys.length kc, .slice ra n.refs.length rc] :: L)))
 case atStart => exact ⟨0, rfl, rfl, Nat.zero_le _, ⟨fun j x y h => by omega⟩, HV⟩
 case round =>
  obtain ⟨k, rfl, rfl, hk, HP, HW⟩ := hrel
  clear HV
  obtain ⟨y0, y1, y2, y3, -, -, -, -⟩ := HW.out.c4 w.heap.size 59 (.bool n.leaf) (.int .i64 n.ver) (.slice ka n.keys.length kc) (.slice ra n.refs.length rc) List.mem_cons_self
  have hk7 : k ≤ 1000000 := by have := HB.out.2; omega
  by_cases hltn : k < n.keys.length
  ·have hlt' : (k : Int) < (n.keys.length : Int) := by omega
   have ew : IntKind.i64.wrap ((k : Int) + 1) = ((k + 1 : Nat) : Int) := by rw [IntKind.wrap_i64]; omega
   have ew' : wrap64 ((k : Int) + 1) = ((k + 1 : Nat) : Int) := by unfold wrap64; omega
   rcases Nat.eq_zero_or_pos k with h0 | h0
   ·have d0 : decide ((k : Int) > 0) = false := by simp [h0]
    have d1 : decide (0 < k) = false := by simp [h0]
    go_wp2_with fail
    go_quiet (fail)
    go_wp2_with fail
    go_roundg (n.keys.length - (k + 1))
    case measure => omega
    case rel => exact ⟨k + 1, by go_num, rfl, hltn, ⟨fun j x y h => by omega⟩, ⟨HW.out.call (by repeat (first | exact Below.refl _ _ | apply below_drew1 | apply pw_below_drewN))⟩⟩
   ·have d0 : decide ((k : Int) > 0) = true := by simp [h0]
    have d1 : decide (0 < k) = true := by simp [h0]
    obtain ⟨ad, ea, hcl⟩ := (HR.out.k _ _ HW.out (fun x hx => List.mem_cons_of_mem _ hx)).2 (by omega)
    cases ea
    obtain ⟨j, hj⟩ : ∃ j, j + 1 = k := ⟨k - 1, by omega⟩
    obtain ⟨x, hx⟩ : ∃ x, n.keys[k]? = some x := ⟨_, List.getElem?_eq_getElem hltn⟩
    obtain ⟨y, hy⟩ : ∃ y, n.keys[j]? = some y := ⟨_, List.getElem?_eq_getElem (by omega)⟩
    have z0 := hcl k _ (by rw [List.getElem?_map, hx]; rfl : (n.keys.map Value.string)[k]? = some (.string x))
    have z1 := hcl j _ (by rw [List.getElem?_map, hy]; rfl : (n.keys.map Value.string)[j]? = some (.string y))
    have ew2 : IntKind.i64.wrap ((k : Int) - 1) = (j : Int) := by rw [IntKind.wrap_i64]; omega
    have ew3 : wrap64 ((k : Int) - 1) = (j : Int) := by unfold wrap64; omega
    have hjl : (j : Int) < (n.keys.length : Int) := by omega
    have hjn : j < n.keys.length := by omega
    have HX := As (And.intro hx (And.intro hy hj))
    clear hcl hx hy
    cases hlx : bl y x
    ·have hcmp := leq_str x y hlx
     have HF := As (show n.check = false by
      unfold Nd.check
      cases he : asc n.keys with
      | false => rfl
      | true =>
       have h1 := (asc_iff _).1 he j y x HX.out.2.1 (by rw [HX.out.2.2]; exact HX.out.1)
       rw [hlx] at h1; cases h1)
     clear hj
     go_wp2_with fail
     go_quiet (fail)
     go_wp2_with fail
     exact bodyPost_ret (v := .bool false) (by simp [results, Try.results33, go_sem]) rfl ⟨by rw [HF.out], (HW.out.call (by repeat (first | exact Below.refl _ _ | apply below_drew1 | apply pw_below_drewN))).tail⟩
    ·have hcmp := leq_str x y hlx
     clear hj
     go_wp2_with fail
     go_quiet (fail)
     go_wp2_with fail
     go_roundg (n.keys.length - (k + 1))
     case measure => omega
     case rel => exact ⟨k + 1, by go_num, rfl, hltn, ⟨fun i a b h ha hb => by
      by_cases hi : i + 1 = k
      ·have hij : i = j := by have := HX.out.2.2; omega
       subst hij
       rw [HX.out.2.1] at ha
       rw [hi, HX.out.1] at hb
       cases ha; cases hb
       exact hlx
      ·exact HP.out i a b (by omega) ha hb⟩, ⟨HW.out.call (by repeat (first | exact Below.refl _ _ | apply below_drew1 | apply pw_below_drewN))⟩⟩
  ·have hge : ¬ (k : Int) < (n.keys.length : Int) := by omega
   have hkk : k = n.keys.length := by omega
   have HA := As (show asc n.keys = true from (asc_iff _).2 (fun j x y hx hy => HP.out j x y (by have := (List.getElem?_eq_some_iff.1 hy).1; omega) hx hy))
   clear hltn hk hk7 hkk
   cases hs' : n.shape
   ·have hs : shp n.leaf n.keys.length n.refs.length = false := hs'
    have HF := As (show n.check = false by unfold Nd.check; rw [hs']; simp)
    clear hs'
    go_wp2_with (go_at_call 93; go_loud (refine (shape.calls HW.out n.leaf n.ver ka ra n.keys.length kc n.refs.length rc HB.out.1).mono ?_); rw [hs]; rintro e2 w2 ⟨rfl, hh⟩; have H2 := As hh; clear hh)
    exact bodyPost_ret (v := .bool false) (by simp [results, Try.results33, go_sem]) rfl ⟨by rw [HF.out], H2.out.tail⟩
   ·have hs : shp n.leaf n.keys.length n.refs.length = true := hs'
    by_cases h4 : n.refs.length ≤ 4
    ·have h4' : ((n.refs.length : Int) ≤ 4) := by omega
     by_cases h5 : 0 ≤ n.ver
     ·have HF := As (show n.check = true by unfold Nd.check; rw [hs', HA.out]; simp [h4, h5])
      have h5' : n.ver ≥ 0 := h5
      clear hs' h4
      go_wp2_with (go_at_call 93; go_loud (refine (shape.calls HW.out n.leaf n.ver ka ra n.keys.length kc n.refs.length rc HB.out.1).mono ?_); rw [hs]; rintro e2 w2 ⟨rfl, hh⟩; have H2 := As hh; clear y0 y1 y2 y3; obtain ⟨y0, y1, y2, y3, -, -, -, -⟩ := hh.c4 w.heap.size 59 (.bool n.leaf) (.int .i64 n.ver) (.slice ka n.keys.length kc) (.slice ra n.refs.length rc) List.mem_cons_self; clear hh)
      exact bodyPost_ret (v := .bool true) (by simp [results, Try.results33, go_sem]) rfl ⟨by rw [HF.out], H2.out.tail⟩
     ·have HF := As (show n.check = false by unfold Nd.check; simp; intros; omega)
      have h5' : ¬ n.ver ≥ 0 := h5
      clear hs' h4
      go_wp2_with (go_at_call 93; go_loud (refine (shape.calls HW.out n.leaf n.ver ka ra n.keys.length kc n.refs.length rc HB.out.1).mono ?_); rw [hs]; rintro e2 w2 ⟨rfl, hh⟩; have H2 := As hh; clear y0 y1 y2 y3; obtain ⟨y0, y1, y2, y3, -, -, -, -⟩ := hh.c4 w.heap.size 59 (.bool n.leaf) (.int .i64 n.ver) (.slice ka n.keys.length kc) (.slice ra n.refs.length rc) List.mem_cons_self; clear hh)
      exact bodyPost_ret (v := .bool false) (by simp [results, Try.results33, go_sem]; omega) rfl ⟨by rw [HF.out], H2.out.tail⟩
    ·have h4' : ¬ ((n.refs.length : Int) ≤ 4) := by omega
     have HF := As (show n.check = false by unfold Nd.check; simp [h4])
     clear hs' h4
     go_wp2_with (go_at_call 93; go_loud (refine (shape.calls HW.out n.leaf n.ver ka ra n.keys.length kc n.refs.length rc HB.out.1).mono ?_); rw [hs]; rintro e2 w2 ⟨rfl, hh⟩; have H2 := As hh; clear y0 y1 y2 y3; obtain ⟨y0, y1, y2, y3, -, -, -, -⟩ := hh.c4 w.heap.size 59 (.bool n.leaf) (.int .i64 n.ver) (.slice ka n.keys.length kc) (.slice ra n.refs.length rc) List.mem_cons_self; clear hh)
     exact bodyPost_ret (v := .bool false) (by simp [results, Try.results33, go_sem]) rfl ⟨by rw [HF.out], H2.out.tail⟩
end
end Go.Proofs.Ytglbcfkmaamhaaa.Nd
namespace Go.Proofs.YtglbcfkmaamhaaaW.PrintWords
open Go.RowKit
section
section
variable {P : Program} {d : Nat} {xs ys : Array Value} {f : Field} {fs : List Field} {a b : Value} {r s : Bool} {w : World}
theorem eqf_last (hn : (f.name == "_") = false) (ha : (part f.type xs f.offset).run P w = .ok a w) (hb : (part f.type ys f.offset).run P w = .ok b w) (he : (Op.equalIn d f.type a b).run P w = .ok r w) : (Op.eqFields d xs ys [f]).run P w = .ok r w := by
 have hn' : f.name ≠ "_" := by simpa using hn
 simp only [Op.eqFields, if_pos hn', Sem.run_bind, ha, hb, he, Result.andThen_ok]
 cases r <;> simp
theorem eqf_cons (hn : (f.name == "_") = false) (ha : (part f.type xs f.offset).run P w = .ok a w) (hb : (part f.type ys f.offset).run P w = .ok b w) (he : (Op.equalIn d f.type a b).run P w = .ok r w) (hr : (Op.eqFields d xs ys fs).run P w = .ok s w) : (Op.eqFields d xs ys (f :: fs)).run P w = .ok (r && s) w := by
 have hn' : f.name ≠ "_" := by simpa using hn
 rw [Op.eqFields]
 simp only [if_pos hn', Sem.run_bind, ha, hb, he, Result.andThen_ok]
 cases r
 ·simp
 ·simpa using hr
theorem eqA_of {t : TypeId} {fs : Array Field} (hu : P.underlying t = some (.struct fs)) (hp : P.stoodInHeld t = false) (h : (Op.eqFields d xs ys fs.toList).run P w = .ok r w) : (Op.equalIn (d + 1) t (.agg xs) (.agg ys)).run P w = .ok r w := by
 have hf : P.fieldsOf t = fs := by simp [Program.fieldsOf, hu]
 rw [run_equalIn_struct (P := P) w d t xs ys (by rw [hf]; exact hu) hp, hf]
 exact h
end
end
end Go.Proofs.YtglbcfkmaamhaaaW.PrintWords
namespace Go.Proofs.Ytglbcfkmaamhaaa.Nd
open Go Go.RowKit Go.Proofs.YtglbcfkmaamhaaaW.PrintWords Go.Proofs.YtglbcfkmaamhaaaW.PrintLast Go.Proofs.YtglbcfkmaamhaaaW.PrintMore Go.Proofs.Ytglbcfkmaamhaaa.Hv
section
variable {w0 w w1 : World} {g : Nat} {L L' : List Ob}
theorem eqA33 (d : Nat) (w : World) (x0 y0 : Int) (x1 y1 : Int) :
  (Op.equalIn (d + 2) 33 (.agg #[.int .i64 x0, .int .i64 x1]) (.agg #[.int .i64 y0, .int .i64 y1])).run Try.prog w = .ok (x0 == y0 && (x1 == y1)) w := by
 refine eqA_of Try.underlying33 (by kernel_rfl) ?_
 refine eqf_cons (by rfl) (by go_simp; rfl) (by go_simp; rfl) (by go_simp) ?_
 exact eqf_last (by rfl) (by go_simp; rfl) (by go_simp; rfl) (by go_simp)
theorem eql33 (x0 y0 x1 y1 : Int) (w : World) : (binOp .eql 33 (.agg #[.int .i64 x0, .int .i64 x1]) (.agg #[.int .i64 y0, .int .i64 y1])).run Try.prog w = .ok (.bool (x0 == y0 && (x1 == y1))) w := by
 simp only [binOp]
 simp [Op.equal, Op.maxDepth, eqA33 9998 w x0 y0 x1 y1]
theorem bb (x : ByteArray) : (x == x) = true := by
 cases x with | mk d =>
 show (d == d) = true
 simp
end
end Go.Proofs.Ytglbcfkmaamhaaa.Nd
section
namespace Go.Proofs.Ytglbcfkmaamhaaa.Tr
open Go Go.RowKit Go.Proofs.YtglbcfkmaamhaaaW.PrintWords Go.Proofs.YtglbcfkmaamhaaaW.PrintLast Go.Proofs.YtglbcfkmaamhaaaW.PrintMore Go.Proofs.Ytglbcfkmaamhaaa.Hv Go.Proofs.Ytglbcfkmaamhaaa.Arm Go.Proofs.Ytglbcfkmaamhaaa.Nd Go.Proofs.Ytglbcfkmaamhaaa.ArN
variable {w0 w w1 : World} {L L' R : List Ob} {s : Ar}
def bareS (q : Sl) : Sl := ⟨[], q.gen, q.taken⟩
def bare (s : Ar) : Ar := { s with slots := s.slots.map bareS }
theorem bare_n (s : Ar) : (bare s).n = s.n := by simp [bare, Ar.n]
theorem bare_held (s : Ar) : (bare s).held = s.held := by
 simp only [bare, Ar.held, List.countP_map]
 rfl
theorem bare_room (s : Ar) : (bare s).room = s.room := by simp only [Ar.room, bare_n, bare_held]
theorem bare_slot (s : Ar) (i : Int) : (bare s).slot i = bareS (s.slot i) := by
 simp only [bare, Ar.slot, List.getD_eq_getElem?_getD, List.getElem?_map]
 cases s.slots[i.toNat]? <;> rfl
theorem bare_has (s : Ar) (i q : Int) : (bare s).has i q = s.has i q := by simp only [Ar.has, bare_n, bare_slot, bareS]
theorem bare_next (s : Ar) : (bare s).next = s.next := rfl
theorem bare_gen (s : Ar) : (bare s).gen = s.gen := by simp only [Ar.gen, bare_slot, bare_next, bareS]
theorem bare_put (s : Ar) (i : Int) (x : List Value) : bare (s.put i x) = (bare s).put i [] := by simp [bare, Ar.put, List.map_set, bareS, ← bare_slot, Ar.slot, List.getD_eq_getElem?_getD]; cases s.slots[i.toNat]? <;> rfl
theorem bare_take (s : Ar) (x : List Value) : bare (s.take x) = (bare s).take [] := by
 have e := bare_gen s
 simp only [Ar.take, bare_next, e]
 simp [bare, List.map_set, bareS]
 rfl
theorem bare_drop (s : Ar) (i : Int) (x : List Value) : bare (s.drop i x) = (bare s).drop i [] := by
 simp only [Ar.drop, bare_slot]
 simp [bare, List.map_set, bareS]
def nd0 : Nd := ⟨false, 0, [], []⟩
structure Tm where
 p : Ar
 ns : List Nd
 root : Rf
 gone : List Rf
def Tm.has (t : Tm) (r : Rf) : Bool := t.p.has r.1 r.2
def Tm.at (t : Tm) (r : Rf) : Nd := if t.has r then t.ns.getD r.1.toNat nd0 else nd0
def Tm.set (t : Tm) (r : Rf) (n : Nd) : Tm := if t.has r then { t with p := t.p.put r.1 [], ns := t.ns.set r.1.toNat n } else t
def Tm.take (t : Tm) (n : Nd) : Tm := if t.p.room = 0 then t else { t with p := t.p.take [], ns := t.ns.set t.p.next.toNat n }
def Tm.tk (t : Tm) : Rf := if t.p.room = 0 then (0, 0) else (t.p.next, t.p.gen)
def slv (n : Nd) (ka : Option Addr) (kc : Nat) (ra : Option Addr) (rc : Nat) : List Value := [.bool n.leaf, .int .i64 n.ver, .slice ka n.keys.length kc, .slice ra n.refs.length rc]
structure NsR (w0 : World) (R : List Ob) (s : Ar) (ns : List Nd) : Prop where
 len : ns.length = s.n
 row : ∀ (i : Nat) (n : Nd), ns[i]? = some n → ∃ ka kc ra rc, (s.slot (i : Int)).x = slv n ka kc ra rc ∧ NR w0 R n ka kc ra rc
abbrev tb (K : Nat × Nat × Nat) (t : Tm) (gv on : Value) : Ob := cb K.1 160 #[.pointer (some ⟨K.2.1, 0, none⟩), .int .i64 t.root.1, .int .i64 t.root.2, gv, on]
def Mt (w0 w : World) (K : Nat × Nat × Nat) (t : Tm) (on : Value) (R L : List Ob) : Prop :=
 ∃ s gv G, bare s = t.p ∧ Arn w0 w K.2.1 K.2.2 s (tb K t gv on :: (G ++ (R ++ L))) ∧ Gr 33 2 gv t.gone.length (t.gone.flatMap rcel) G ∧ NsR w0 R s t.ns
theorem NsR.mono {ns : List Nd} {R' : List Ob} (h : NsR w0 R s ns) (hR : ∀ p ∈ R, p ∈ R') : NsR w0 R' s ns := ⟨h.len, fun i n hn => by
 obtain ⟨ka, kc, ra, rc, e, h1⟩ := h.row i n hn
 exact ⟨ka, kc, ra, rc, e, h1.mono hR⟩⟩
namespace Mt
variable {K : Nat × Nat × Nat} {t : Tm} {on : Value} {A : List Ob}
theorem call (h : Mt w0 w K t on R L) (hb : Below w.heap.size w w1) : Mt w0 w1 K t on R L := by
 obtain ⟨s, gv, G, e, h1, h2, h3⟩ := h
 exact ⟨s, gv, G, e, h1.call hb, h2, h3⟩
theorem drew (h : Mt w0 w K t on R L) : Mt w0 w.drew K t on R L := h.call (below_drew1 (Below.refl _ _))
theorem drewN (h : Mt w0 w K t on R L) (n : Nat) : Mt w0 (w.drewN n) K t on R L := h.call (pw_below_drewN (Below.refl _ _) n)
theorem bel (h : Mt w0 w K t on R L) : Below w0.heap.size w0 w := by
 obtain ⟨s, gv, G, e, h1, h2, h3⟩ := h
 exact h1.bel
theorem other (h : Mt w0 w K t on R L) : Hv w0 w L := by
 obtain ⟨s, gv, G, e, h1, h2, h3⟩ := h
 exact h1.other.tail.right.right
theorem alloc (h : Mt w0 w K t on R L) (o : Obj) : Mt w0 (w.alloc o) K t on R ((w.heap.size, o) :: L) := by
 obtain ⟨s, gv, G, e, h1, h2, h3⟩ := h
 refine ⟨s, gv, G, e, (h1.alloc o).perm ?_, h2, h3⟩
 refine List.Perm.trans ?_ (List.Perm.swap _ _ _)
 refine List.Perm.cons _ ?_
 rw [← List.append_assoc, ← List.append_assoc]
 exact List.perm_middle
theorem drop (h : Mt w0 w K t on R L) (hs : L'.Sublist L) : Mt w0 w K t on R L' := by
 obtain ⟨s, gv, G, e, ⟨bv, B, h1, h1', h1''⟩, h2, h3⟩ := h
 exact ⟨s, gv, G, e, ⟨bv, B, h1.drop (List.Sublist.append_left (List.Sublist.cons_cons _ (List.Sublist.append_left (List.Sublist.append_left hs R) G)) _), h1', h1''⟩, h2, h3⟩
theorem tail {a : Ob} (h : Mt w0 w K t on R (a :: L)) : Mt w0 w K t on R L := h.drop (List.sublist_cons_self _ _)
theorem lens (h : Mt w0 w K t on R L) : ∃ Lf, Hv w0 w Lf ∧ (∀ p ∈ R, p ∈ Lf) ∧ (∀ p ∈ L, p ∈ Lf) ∧ ∀ w' A, Hv w0 w' (A ++ Lf) → Mt w0 w' K t on (A ++ R) L := by
 obtain ⟨s, gv, G, e, ⟨bv, B, h1, h1', h1''⟩, h2, h3⟩ := h
 refine ⟨_, h1, fun p hp => by simp [hp], fun p hp => by simp [hp], fun w' A hA => ⟨s, gv, G, e, ⟨bv, B, hA.perm ?_, h1', h1''⟩, h2, h3.mono (fun p hp => List.mem_append_right A hp)⟩⟩
 have key : ∀ P : List Ob, (P ++ ((A ++ R) ++ L)).Perm (A ++ (P ++ (R ++ L))) := fun P => by
  rw [List.append_assoc, ← List.append_assoc P, ← List.append_assoc A]
  exact List.Perm.append_right _ List.perm_append_comm
 have := key (AL K.2.1 K.2.2 bv B s ++ (tb K t gv on :: G))
 simpa [List.append_assoc] using this
theorem lensL {X Y : List Ob} {a : Ob} (h : Mt w0 w K t on R (X ++ a :: Y)) : ∃ Q, Hv w0 w (a :: Q) ∧ ∀ w' a', Hv w0 w' (a' :: Q) → Mt w0 w' K t on R (X ++ a' :: Y) := by
 obtain ⟨s, gv, G, e, ⟨bv, B, h1, h1', h1''⟩, h2, h3⟩ := h
 have key : ∀ a' : Ob, (AL K.2.1 K.2.2 bv B s ++ (tb K t gv on :: (G ++ (R ++ (X ++ a' :: Y))))).Perm (a' :: (AL K.2.1 K.2.2 bv B s ++ (tb K t gv on :: (G ++ (R ++ (X ++ Y)))))) := fun a' => by
  have := List.perm_middle (a := a') (l₁ := AL K.2.1 K.2.2 bv B s ++ (tb K t gv on :: (G ++ (R ++ X)))) (l₂ := Y)
  simpa [List.append_assoc] using this
 exact ⟨_, h1.perm (key a).symm, fun w' a' h' => ⟨s, gv, G, e, ⟨bv, B, h'.perm (key a'), h1', h1''⟩, h2, h3⟩⟩
theorem put {X Y : List Ob} {g ty : Nat} {cs : Array Value} (h : Mt w0 w K t on R (X ++ cb g ty cs :: Y)) (i : Nat) (u : Value) {cs' : Array Value} (e : cs.setIfInBounds i u = cs') : Mt w0 (w.setCell ⟨g, i, none⟩ u) K t on R (X ++ cb g ty cs' :: Y) := by
 obtain ⟨Q, h1, h2⟩ := h.lensL
 exact h2 _ _ (h1.put0 i u e)
theorem putB0 {Y : List Ob} {g ty : Nat} {cs : Array Value} (h : Mt w0 w K t on R (cb g ty cs :: Y)) (i : Nat) (u : Value) {cs' : Array Value} (e : cs.setIfInBounds i u = cs') : Mt w0 (w.setCell ⟨g, i, none⟩ u) K t on R (cb g ty cs' :: Y) := put (X := []) h i u e
theorem putB1 {Y : List Ob} {a : Ob} {g ty : Nat} {cs : Array Value} (h : Mt w0 w K t on R (a :: cb g ty cs :: Y)) (i : Nat) (u : Value) {cs' : Array Value} (e : cs.setIfInBounds i u = cs') : Mt w0 (w.setCell ⟨g, i, none⟩ u) K t on R (a :: cb g ty cs' :: Y) := put (X := [a]) h i u e
theorem putB2 {Y : List Ob} {a b : Ob} {g ty : Nat} {cs : Array Value} (h : Mt w0 w K t on R (a :: b :: cb g ty cs :: Y)) (i : Nat) (u : Value) {cs' : Array Value} (e : cs.setIfInBounds i u = cs') : Mt w0 (w.setCell ⟨g, i, none⟩ u) K t on R (a :: b :: cb g ty cs' :: Y) := put (X := [a, b]) h i u e
theorem lensT (h : Mt w0 w K t on R L) : ∃ gv Q, Hv w0 w (tb K t gv on :: Q) ∧ (∀ p ∈ L, p ∈ Q) ∧ ∀ w' on' r', Hv w0 w' (tb K { t with root := r' } gv on' :: Q) → Mt w0 w' K { t with root := r' } on' R L := by
 obtain ⟨s, gv, G, e, ⟨bv, B, h1, h1', h1''⟩, h2, h3⟩ := h
 have key : ∀ a' : Ob, (AL K.2.1 K.2.2 bv B s ++ (a' :: (G ++ (R ++ L)))).Perm (a' :: (AL K.2.1 K.2.2 bv B s ++ (G ++ (R ++ L)))) := fun a' => List.perm_middle
 exact ⟨gv, _, h1.perm (key _).symm, fun p hp => by simp [hp], fun w' on' r' h' => ⟨s, gv, G, e, ⟨bv, B, h'.perm (key _), h1', h1''⟩, h2, h3⟩⟩
theorem cells (h : Mt w0 w K t on R L) : w.cell? ⟨K.1, 0, none⟩ = some (.pointer (some ⟨K.2.1, 0, none⟩)) ∧ w.cell? ⟨K.1, 1, none⟩ = some (.int .i64 t.root.1) ∧ w.cell? ⟨K.1, 2, none⟩ = some (.int .i64 t.root.2) ∧ w.cell? ⟨K.1, 4, none⟩ = some on ∧ w.frozen? ⟨K.1, 1, none⟩ = false ∧ w.frozen? ⟨K.1, 2, none⟩ = false ∧ w.frozen? ⟨K.1, 4, none⟩ = false := by
 obtain ⟨gv, Q, h1, h2, h3⟩ := h.lensT
 obtain ⟨x0, x1, x2, x3, x4, f0, f1, f2, f3, f4⟩ := h1.c5 _ _ _ _ _ _ _ List.mem_cons_self
 exact ⟨x0, x1, x2, x4, f1, f2, f4⟩
theorem setOn (h : Mt w0 w K t on R L) (v : Value) : Mt w0 (w.setCell ⟨K.1, 4, none⟩ v) K t v R L := by
 obtain ⟨gv, Q, h1, h2, h3⟩ := h.lensT
 exact h3 _ v t.root (h1.put0 4 v rfl)
theorem setRoot (h : Mt w0 w K t on R L) (r : Rf) : Mt w0 ((w.setCell ⟨K.1, 1, none⟩ (.int .i64 r.1)).setCell ⟨K.1, 2, none⟩ (.int .i64 r.2)) K { t with root := r } on R L := by
 obtain ⟨gv, Q, h1, h2, h3⟩ := h.lensT
 exact h3 _ on r ((h1.put0 1 (.int .i64 r.1) rfl).put0 2 (.int .i64 r.2) rfl)
theorem ne (h : Mt w0 w K t on R L) : ¬ K.1 = w.heap.size ∧ ¬ w.heap.size = K.1 := by
 obtain ⟨gv, Q, h1, h2, h3⟩ := h.lensT
 have := h1.ne (g := K.1) List.mem_cons_self
 exact ⟨this, fun e => this e.symm⟩
theorem apart (h : Mt w0 w K t on R L) {p : Ob} (hp : p ∈ L) : ¬ K.1 = p.1 ∧ ¬ p.1 = K.1 := by
 obtain ⟨gv, Q, h1, h2, h3⟩ := h.lensT
 obtain ⟨j, hj⟩ := List.getElem?_of_mem (h2 p hp)
 have := h1.apart (i := 0) (j := j + 1) (p := tb K t gv on) (q := p) rfl (by simpa using hj) (by omega)
 exact ⟨this, fun e => this e.symm⟩
theorem ok (h : Mt w0 w K t on R L) : ∃ s, bare s = t.p ∧ s.Ok 4 XP ∧ NsR w0 R s t.ns := by
 obtain ⟨s, gv, G, e, h1, h2, h3⟩ := h
 exact ⟨s, e, h1.ok, h3⟩
theorem row (h : NsR w0 R s t.ns) (e : bare s = t.p) {r : Rf} (hr : t.has r = true) : ∃ ka kc ra rc, (s.slot r.1).x = slv (t.at r) ka kc ra rc ∧ NR w0 R (t.at r) ka kc ra rc := by
 have hh : s.has r.1 r.2 = true := by unfold Tm.has at hr; rw [← e, bare_has] at hr; exact hr
 obtain ⟨b0, b1, -, -⟩ := Ar.has_lt hh
 have hl : r.1.toNat < t.ns.length := by rw [h.len]; omega
 obtain ⟨ka, kc, ra, rc, h1, h2⟩ := h.row r.1.toNat _ (List.getElem?_eq_getElem hl)
 have ea : t.at r = t.ns[r.1.toNat] := by
  unfold Tm.at
  rw [if_pos hr, List.getD_eq_getElem?_getD, List.getElem?_eq_getElem hl]
  rfl
 rw [ea]
 refine ⟨ka, kc, ra, rc, ?_, h2⟩
 have : s.slot ((r.1.toNat : Nat) : Int) = s.slot r.1 := by simp only [Ar.slot, Int.toNat_natCast]
 rw [← this]
 exact h1
theorem get (h : Mt w0 w K t on R L) (r : Rf) : Calls Try.prog 109 #[.pointer (some ⟨K.2.1, 0, none⟩), .agg #[.int .i64 r.1, .int .i64 r.2]] w fun e w' => ∃ v, e = .returned (.tuple #[v, .bool (t.has r)]) ∧ NV w0 R (t.at r) v ∧ Mt w0 w' K t on R L := by
 obtain ⟨s, gv, G, e, h1, h2, h3⟩ := h
 have hh : s.has r.1 r.2 = t.has r := by unfold Tm.has; rw [← e, bare_has]
 cases hb : t.has r
 ·rw [hb] at hh
  refine (h1.GetNo r.1 r.2 hh).mono ?_
  rintro e1 w1 ⟨rfl, h4⟩
  refine ⟨_, rfl, ?_, s, gv, G, e, h4, h2, h3⟩
  unfold Tm.at
  rw [hb]
  exact ⟨none, 0, none, 0, rfl, Rdy.nil _ _, Rdy.nil _ _, Nat.le_refl _, Nat.le_refl _⟩
 ·rw [hb] at hh
  obtain ⟨ka, kc, ra, rc, hx, hn⟩ := row h3 e hb
  refine (h1.Get r.1 r.2 hh _ _ _ _ _ _ _ _ hx).mono ?_
  rintro e1 w1 ⟨rfl, h4⟩
  exact ⟨_, rfl, ⟨ka, kc, ra, rc, rfl, hn⟩, s, gv, G, e, h4, h2, h3⟩
theorem rows_set {ns : List Nd} {i : Nat} {n : Nd} {ka ra : Option Addr} {kc rc : Nat} {s' : Ar} (h : NsR w0 R s ns) (hi : i < s.n) (hn : NR w0 R n ka kc ra rc) (hs : ∀ j : Nat, (s'.slot (j : Int)).x = if j = i then slv n ka kc ra rc else (s.slot (j : Int)).x) (hl : s'.n = s.n) : NsR w0 R s' (ns.set i n) := by
 refine ⟨by rw [List.length_set, h.len, hl], fun j m hj => ?_⟩
 rw [hs j]
 by_cases e : i = j
 ·subst e
  rw [List.getElem?_set_self (by rw [h.len]; exact hi)] at hj
  cases hj
  exact ⟨ka, kc, ra, rc, if_pos rfl, hn⟩
 ·rw [List.getElem?_set_ne e] at hj
  obtain ⟨a, b, c, d, h1, h2⟩ := h.row j m hj
  exact ⟨a, b, c, d, by rw [if_neg (fun e1 => e e1.symm)]; exact h1, h2⟩
theorem set (h : Mt w0 w K t on R L) (r : Rf) {n : Nd} {v : Value} (hn : NV w0 R n v) : Calls Try.prog 112 #[.pointer (some ⟨K.2.1, 0, none⟩), .agg #[.int .i64 r.1, .int .i64 r.2], v] w fun e w' => e = .returned (.bool (t.has r)) ∧ Mt w0 w' K (t.set r n) on R L := by
 obtain ⟨s, gv, G, e, h1, h2, h3⟩ := h
 obtain ⟨ka, kc, ra, rc, rfl, hr⟩ := hn
 have hh : s.has r.1 r.2 = t.has r := by unfold Tm.has; rw [← e, bare_has]
 refine (h1.Set r.1 r.2 n.leaf n.ver ka n.keys.length kc ra n.refs.length rc hh rfl).mono ?_
 rintro e1 w1 ⟨rfl, h4⟩
 refine ⟨rfl, ?_⟩
 unfold Ar.set at h4
 unfold Tm.set
 rw [hh] at h4
 cases hb : t.has r
 ·rw [hb] at h4
  exact ⟨s, gv, G, e, h4, h2, h3⟩
 ·rw [hb] at h4 hh
  rw [if_pos rfl] at h4
  obtain ⟨b0, b1, -, -⟩ := Ar.has_lt hh
  refine ⟨_, gv, G, ?_, h4, h2, ?_⟩
  ·simp only [if_true]
   rw [bare_put, e]
  ·refine rows_set h3 (by omega) hr (fun j => ?_) (by simp [Ar.put, Ar.n])
   simp only [Ar.put]
   rw [slot_set _ _ _ _ _ _ (by omega)]
   simp only [Int.toNat_natCast]
   split <;> rfl
theorem Take (h : Mt w0 w K t on R L) {n : Nd} {v : Value} (hn : NV w0 R n v) : Calls Try.prog 108 #[.pointer (some ⟨K.2.1, 0, none⟩), v] w fun e w' => ∃ er, e = .returned (.tuple #[.agg #[.int .i64 t.tk.1, .int .i64 t.tk.2], .int .i64 er]) ∧ Mt w0 w' K (t.take n) on R L := by
 obtain ⟨s, gv, G, e, h1, h2, h3⟩ := h
 obtain ⟨ka, kc, ra, rc, rfl, hr⟩ := hn
 have hrm : s.room = t.p.room := by rw [← e, bare_room]
 have hnx : s.next = t.p.next := by rw [← e, bare_next]
 have hgn : s.gen = t.p.gen := by rw [← e, bare_gen]
 obtain ⟨q, hq⟩ : ∃ q, tk s = q := ⟨_, rfl⟩
 refine (h1.Take n.leaf n.ver ka n.keys.length kc ra n.refs.length rc (a := q.1) (b := q.2.1) (er := q.2.2) hq rfl).mono ?_
 rintro e1 w1 ⟨rfl, h4⟩
 unfold Ar.took at h4
 unfold Tm.take Tm.tk
 unfold tk at hq
 by_cases h0 : s.room = 0
 ·rw [if_pos h0] at h4 hq
  rw [← hrm, if_pos h0, if_pos h0]
  subst hq
  exact ⟨20, rfl, s, gv, G, e, h4, h2, h3⟩
 ·rw [if_neg h0] at h4 hq
  rw [← hrm, if_neg h0, if_neg h0]
  subst hq
  refine ⟨0, by rw [hnx, hgn], _, gv, G, ?_, h4, h2, ?_⟩
  ·show bare _ = t.p.take []
   rw [bare_take, e]
  ·obtain ⟨b0, b1⟩ := h1.ok.next h0
   rw [← hnx]
   refine rows_set h3 (by omega) hr (fun j => ?_) (by simp [Ar.take, Ar.n])
   simp only [Ar.take]
   rw [slot_set _ _ _ _ _ _ (by omega)]
   simp only [Int.toNat_natCast]
   split <;> rfl
end Mt
end Go.Proofs.Ytglbcfkmaamhaaa.Tr
end
namespace Go.Proofs.Ytglbcfkmaamhaaa.Tr
open Go Go.RowKit Go.Proofs.YtglbcfkmaamhaaaW.PrintWords Go.Proofs.YtglbcfkmaamhaaaW.PrintLast Go.Proofs.YtglbcfkmaamhaaaW.PrintMore Go.Proofs.Ytglbcfkmaamhaaa.Hv Go.Proofs.Ytglbcfkmaamhaaa.Arm Go.Proofs.Ytglbcfkmaamhaaa.Nd Go.Proofs.Ytglbcfkmaamhaaa.ArN
section
variable {w0 w w1 : World} {L L' R : List Ob} {K : Nat × Nat × Nat} {t : Tm} {on : Value}
theorem at.calls (h : Mt w0 w K t on R L) (r : Rf) : Calls Try.prog 111 #[.pointer (some ⟨K.1, 0, none⟩), .agg #[.int .i64 r.1, .int .i64 r.2]] w fun e w' => ∃ v, e = .returned v ∧ NV w0 R (t.at r) v ∧ Mt w0 w' K t on R L := by
 have hu59 := Try.underlying59
 have hu33 := Try.underlying33
 have hu160 := Try.underlying160
 have HM := As (show Mt w0 _ K t on R (cb (w.heap.size + 1) 59 #[.bool false, .int .i64 0, .slice none 0 0, .slice none 0 0] :: cb w.heap.size 33 #[.int .i64 r.1, .int .i64 r.2] :: L) by
  have := (h.alloc (.cells #[.int .i64 r.1, .int .i64 r.2] 33)).alloc (.cells #[.bool false, .int .i64 0, .slice none 0 0, .slice none 0 0] 59)
  simpa [cb] using this)
 obtain ⟨n, hn⟩ : ∃ n, t.at r = n := ⟨_, rfl⟩
 have HE := As hn
 clear h
 have SP := As (show ∀ (w' : World) (L' : List Ob), Mt w0 w' K t on R L' → cb w.heap.size 33 #[.int .i64 r.1, .int .i64 r.2] ∈ L' → (w'.cell? ⟨K.1, 0, none⟩ = some (.pointer (some ⟨K.2.1, 0, none⟩)) ∧ w'.cell? ⟨w.heap.size, 0, none⟩ = some (.int .i64 r.1) ∧ w'.cell? ⟨w.heap.size, 1, none⟩ = some (.int .i64 r.2)) from fun w' L' h m => by
  obtain ⟨c0, -, -, -, -, -, -⟩ := h.cells
  obtain ⟨p0, p1, -, -⟩ := h.other.c2 _ _ _ _ m
  exact ⟨c0, p0, p1⟩)
 go_enter Try.func111, Try.ntmps111
 go_upto_region 1 with (fail)
 obtain ⟨W0, hW, hM⟩ : ∃ W, W = _ ∧ Mt w0 W K t on R (cb (w.heap.size + 1) 59 #[.bool false, .int .i64 0, .slice none 0 0, .slice none 0 0] :: cb w.heap.size 33 #[.int .i64 r.1, .int .i64 r.2] :: L) := ⟨_, rfl, HM.out⟩
 rw [← hW]
 have HD := As hM.drew
 clear hW hM HM
 refine start_ (n := 12) (S := fun w' => w'.cell? ⟨K.1, 0, none⟩ = some (.pointer (some ⟨K.2.1, 0, none⟩)) ∧ w'.cell? ⟨w.heap.size, 0, none⟩ = some (.int .i64 r.1) ∧ w'.cell? ⟨w.heap.size, 1, none⟩ = some (.int .i64 r.2)) (ds := [10]) #[false, false, false, false, false, false, false, false, false, false, false, false] (by kernel_rfl) rfl rfl (SP.out _ _ HD.out (by simp)) (fun hHeld => ?_)
 generalize W0.drew = wr0 at HD hHeld ⊢
 refine pu_ 0 (some 8) ?_
 refine pu_ 1 (some 9) ?_
 refine pu_ 2 (some 10) ?_
 refine ta_ 3 (some 11) hHeld ?_ (hy := Or.inl ⟨by rfl, by rintro w' ⟨s0, s1, s2⟩; go_simp; with_reducible rfl⟩)
 refine ta_ 4 (some 12) hHeld ?_ (hy := Or.inl ⟨by rfl, by rintro w' ⟨s0, s1, s2⟩; go_simp; with_reducible rfl⟩)
 refine two_ (i := 5) (j := 9) (Ni := some 13) (Nj := some 5) #[true, true, true, true, true, true, false, false, false, false, false, false] #[true, true, true, true, true, false, false, false, false, true, false, false] rfl rfl rfl rfl (by kernel_rfl) (by decide) (by decide) (fun K_ hK => ?_) (fun K_ hK => ?_)
 ·refine gs_ Try.func109 #[.pointer (some ⟨K.2.1, 0, none⟩), .agg #[.int .i64 r.1, .int .i64 r.2]] ?_
  refine (HD.out.get r).mono ?_
  rintro e9 wr1 ⟨v, rfl, hnv, hh⟩
  refine ⟨_, rfl, ?_⟩
  rw [hn] at hnv
  obtain ⟨ka, kc, ra, rc, ev, hr⟩ := hnv
  have ev' : v = .agg #[.bool n.leaf, .int .i64 n.ver, .slice ka n.keys.length kc, .slice ra n.refs.length rc] := ev
  subst ev'
  clear ev
  have HN := As hr
  have HR1 := As (show Mt w0 wr1 K t on R (cb (w.heap.size + 1) 59 #[.bool false, .int .i64 0, .slice none 0 0, .slice none 0 0] :: cb w.heap.size 33 #[.int .i64 r.1, .int .i64 r.2] :: L) from hh)
  clear hh hr
  refine hK.out _ _ (SP.out _ _ HR1.out (by simp)) (fun hHeld => ?_)
  clear hK K_
  refine nm_ ?_
  refine pu_ 6 (some 7) ?_
  refine pu_ 7 (some 14) ?_
  refine pu_ 8 (some 15) ?_
  refine on_ 9 (some 5) fun K_ hK => ?_
  refine value_ (v := .pointer (some ⟨wr1.heap.size, 0, none⟩)) (w1 := wr1.alloc (.cells #[.bool false, .int .i64 0, .slice none 0 0, .slice none 0 0] 59)) (by rfl) rfl ?_ ?_
  ·go_simp
  obtain ⟨wr2, hW, hvv⟩ : ∃ wr2, wr2 = wr1.alloc (.cells #[.bool false, .int .i64 0, .slice none 0 0, .slice none 0 0] 59) ∧ Mt w0 wr2 K t on R (cb wr1.heap.size 59 #[.bool false, .int .i64 0, .slice none 0 0, .slice none 0 0] :: cb (w.heap.size + 1) 59 #[.bool false, .int .i64 0, .slice none 0 0, .slice none 0 0] :: cb w.heap.size 33 #[.int .i64 r.1, .int .i64 r.2] :: L) := ⟨_, rfl, HR1.out.alloc _⟩
  rw [← hW]
  have HR2 := As hvv
  clear hW hvv
  refine hK.out _ _ (SP.out _ _ HR2.out (by simp)) (fun hHeld => ?_)
  clear hK K_
  refine nm_ ?_
  refine la_ 10 none fun K_ hK => ?_
  obtain ⟨b0, b1, b2, b3, d0, d1, d2, d3⟩ := HR2.out.other.c4 wr1.heap.size 59 (.bool false) (.int .i64 0) (.slice none 0 0) (.slice none 0 0) List.mem_cons_self
  refine sk_ (hK.out _ _ ?_)
  clear hK K_ b0 b1 b2 b3 d0 d1 d2 d3
  obtain ⟨wr3, hW, hvv⟩ : ∃ wr3, wr3 = _ ∧ Mt w0 wr3 K t on R (cb wr1.heap.size 59 #[.bool n.leaf, .int .i64 n.ver, .slice ka n.keys.length kc, .slice ra n.refs.length rc] :: cb (w.heap.size + 1) 59 #[.bool false, .int .i64 0, .slice none 0 0, .slice none 0 0] :: cb w.heap.size 33 #[.int .i64 r.1, .int .i64 r.2] :: L) := ⟨_, rfl, (Mt.putB0 (Mt.putB0 (Mt.putB0 (Mt.putB0 HR2.out 0 (.bool n.leaf) rfl) 1 (.int .i64 n.ver) rfl) 2 (.slice ka n.keys.length kc) rfl) 3 (.slice ra n.refs.length rc) rfl)⟩
  rw [← hW]
  have HR3 := As hvv
  clear hW hvv
  refine pu_ 11 (some 6) ?_
  refine done_ (by kernel_rfl) ?_
  obtain ⟨b0, b1, b2, b3, -, -, -, -⟩ := HR3.out.other.c4 wr1.heap.size 59 (.bool n.leaf) (.int .i64 n.ver) (.slice ka n.keys.length kc) (.slice ra n.refs.length rc) List.mem_cons_self
  obtain ⟨y0, y1, y2, y3, f0, f1, f2, f3⟩ := HR3.out.other.c4 (w.heap.size + 1) 59 (.bool false) (.int .i64 0) (.slice none 0 0) (.slice none 0 0) (by simp)
  go_wp2_with fail
  obtain ⟨wg, hw, hg⟩ : ∃ wg, wg = _ ∧ Mt w0 wg K t on R (cb wr1.heap.size 59 #[.bool n.leaf, .int .i64 n.ver, .slice ka n.keys.length kc, .slice ra n.refs.length rc] :: cb (w.heap.size + 1) 59 #[.bool n.leaf, .int .i64 n.ver, .slice ka n.keys.length kc, .slice ra n.refs.length rc] :: cb w.heap.size 33 #[.int .i64 r.1, .int .i64 r.2] :: L) := ⟨_, rfl, (Mt.putB1 (Mt.putB1 (Mt.putB1 (Mt.putB1 HR3.out 0 (.bool n.leaf) rfl) 1 (.int .i64 n.ver) rfl) 2 (.slice ka n.keys.length kc) rfl) 3 (.slice ra n.refs.length rc) rfl)⟩
  rw [← hw]
  obtain ⟨e0, e1, e2, e3, -, -, -, -⟩ := hg.other.c4 (w.heap.size + 1) 59 (.bool n.leaf) (.int .i64 n.ver) (.slice ka n.keys.length kc) (.slice ra n.refs.length rc) (by simp)
  exact bodyPost_ret (v := .agg #[.bool n.leaf, .int .i64 n.ver, .slice ka n.keys.length kc, .slice ra n.refs.length rc]) (by simp [results, Try.results111, go_sem, e0, e1, e2, e3, hu59]) rfl ⟨_, rfl, by rw [HE.out]; exact ⟨ka, kc, ra, rc, rfl, HN.out⟩, hg.tail.tail.tail⟩
 ·refine value_ (v := .pointer (some ⟨wr0.heap.size, 0, none⟩)) (w1 := wr0.alloc (.cells #[.bool false, .int .i64 0, .slice none 0 0, .slice none 0 0] 59)) (by rfl) rfl ?_ ?_
  ·go_simp
  obtain ⟨wr1, hW, hvv⟩ : ∃ wr1, wr1 = wr0.alloc (.cells #[.bool false, .int .i64 0, .slice none 0 0, .slice none 0 0] 59) ∧ Mt w0 wr1 K t on R (cb wr0.heap.size 59 #[.bool false, .int .i64 0, .slice none 0 0, .slice none 0 0] :: cb (w.heap.size + 1) 59 #[.bool false, .int .i64 0, .slice none 0 0, .slice none 0 0] :: cb w.heap.size 33 #[.int .i64 r.1, .int .i64 r.2] :: L) := ⟨_, rfl, HD.out.alloc _⟩
  rw [← hW]
  have HR1 := As hvv
  clear hW hvv
  refine hK.out _ _ (SP.out _ _ HR1.out (by simp)) (fun hHeld => ?_)
  clear hK K_
  refine nm_ ?_
  refine on_ 5 (some 13) fun K_ hK => ?_
  refine gs_ Try.func109 #[.pointer (some ⟨K.2.1, 0, none⟩), .agg #[.int .i64 r.1, .int .i64 r.2]] ?_
  refine (HR1.out.get r).mono ?_
  rintro e9 wr2 ⟨v, rfl, hnv, hh⟩
  refine ⟨_, rfl, ?_⟩
  rw [hn] at hnv
  obtain ⟨ka, kc, ra, rc, ev, hr⟩ := hnv
  have ev' : v = .agg #[.bool n.leaf, .int .i64 n.ver, .slice ka n.keys.length kc, .slice ra n.refs.length rc] := ev
  subst ev'
  clear ev
  have HN := As hr
  have HR2 := As (show Mt w0 wr2 K t on R (cb wr0.heap.size 59 #[.bool false, .int .i64 0, .slice none 0 0, .slice none 0 0] :: cb (w.heap.size + 1) 59 #[.bool false, .int .i64 0, .slice none 0 0, .slice none 0 0] :: cb w.heap.size 33 #[.int .i64 r.1, .int .i64 r.2] :: L) from hh)
  clear hh hr
  refine hK.out _ _ (SP.out _ _ HR2.out (by simp)) (fun hHeld => ?_)
  clear hK K_
  refine nm_ ?_
  refine pu_ 6 (some 7) ?_
  refine pu_ 7 (some 14) ?_
  refine pu_ 8 (some 15) ?_
  refine la_ 10 none fun K_ hK => ?_
  obtain ⟨b0, b1, b2, b3, d0, d1, d2, d3⟩ := HR2.out.other.c4 wr0.heap.size 59 (.bool false) (.int .i64 0) (.slice none 0 0) (.slice none 0 0) List.mem_cons_self
  refine sk_ (hK.out _ _ ?_)
  clear hK K_ b0 b1 b2 b3 d0 d1 d2 d3
  obtain ⟨wr3, hW, hvv⟩ : ∃ wr3, wr3 = _ ∧ Mt w0 wr3 K t on R (cb wr0.heap.size 59 #[.bool n.leaf, .int .i64 n.ver, .slice ka n.keys.length kc, .slice ra n.refs.length rc] :: cb (w.heap.size + 1) 59 #[.bool false, .int .i64 0, .slice none 0 0, .slice none 0 0] :: cb w.heap.size 33 #[.int .i64 r.1, .int .i64 r.2] :: L) := ⟨_, rfl, (Mt.putB0 (Mt.putB0 (Mt.putB0 (Mt.putB0 HR2.out 0 (.bool n.leaf) rfl) 1 (.int .i64 n.ver) rfl) 2 (.slice ka n.keys.length kc) rfl) 3 (.slice ra n.refs.length rc) rfl)⟩
  rw [← hW]
  have HR3 := As hvv
  clear hW hvv
  refine pu_ 11 (some 6) ?_
  refine done_ (by kernel_rfl) ?_
  obtain ⟨b0, b1, b2, b3, -, -, -, -⟩ := HR3.out.other.c4 wr0.heap.size 59 (.bool n.leaf) (.int .i64 n.ver) (.slice ka n.keys.length kc) (.slice ra n.refs.length rc) List.mem_cons_self
  obtain ⟨y0, y1, y2, y3, f0, f1, f2, f3⟩ := HR3.out.other.c4 (w.heap.size + 1) 59 (.bool false) (.int .i64 0) (.slice none 0 0) (.slice none 0 0) (by simp)
  go_wp2_with fail
  obtain ⟨wg, hw, hg⟩ : ∃ wg, wg = _ ∧ Mt w0 wg K t on R (cb wr0.heap.size 59 #[.bool n.leaf, .int .i64 n.ver, .slice ka n.keys.length kc, .slice ra n.refs.length rc] :: cb (w.heap.size + 1) 59 #[.bool n.leaf, .int .i64 n.ver, .slice ka n.keys.length kc, .slice ra n.refs.length rc] :: cb w.heap.size 33 #[.int .i64 r.1, .int .i64 r.2] :: L) := ⟨_, rfl, (Mt.putB1 (Mt.putB1 (Mt.putB1 (Mt.putB1 HR3.out 0 (.bool n.leaf) rfl) 1 (.int .i64 n.ver) rfl) 2 (.slice ka n.keys.length kc) rfl) 3 (.slice ra n.refs.length rc) rfl)⟩
  rw [← hw]
  obtain ⟨e0, e1, e2, e3, -, -, -, -⟩ := hg.other.c4 (w.heap.size + 1) 59 (.bool n.leaf) (.int .i64 n.ver) (.slice ka n.keys.length kc) (.slice ra n.refs.length rc) (by simp)
  exact bodyPost_ret (v := .agg #[.bool n.leaf, .int .i64 n.ver, .slice ka n.keys.length kc, .slice ra n.refs.length rc]) (by simp [results, Try.results111, go_sem, e0, e1, e2, e3, hu59]) rfl ⟨_, rfl, by rw [HE.out]; exact ⟨ka, kc, ra, rc, rfl, HN.out⟩, hg.tail.tail.tail⟩
theorem fld1 (a : Value) (x : Int) (c d : Value) (w : World) : (Instr.field 59 (.agg #[a, .int .i64 x, c, d]) 1).run Try.prog w = .ok (.int .i64 x) w := by kernel_rfl
theorem seen.calls (h : Mt w0 w K t on R L) (r : Rf) : Calls Try.prog 127 #[.pointer (some ⟨K.1, 0, none⟩), .agg #[.int .i64 r.1, .int .i64 r.2]] w fun e w' => e = .returned (.agg #[.int .i64 r.1, .int .i64 r.2, .int .i64 (t.at r).ver]) ∧ Mt w0 w' K t on R L := by
 have hu59 := Try.underlying59
 have hu33 := Try.underlying33
 have hu85 := Try.underlying85
 have hf1 := fld1
 have HM := As (show Mt w0 _ K t on R (cb (w.heap.size + 1) 85 #[.int .i64 0, .int .i64 0, .int .i64 0] :: cb w.heap.size 33 #[.int .i64 r.1, .int .i64 r.2] :: L) by
  have := (h.alloc (.cells #[.int .i64 r.1, .int .i64 r.2] 33)).alloc (.cells #[.int .i64 0, .int .i64 0, .int .i64 0] 85)
  simpa [cb] using this)
 obtain ⟨n, hn⟩ : ∃ n, t.at r = n := ⟨_, rfl⟩
 have HE := As hn
 clear h
 have SP := As (show ∀ (w' : World) (L' : List Ob), Mt w0 w' K t on R L' → cb w.heap.size 33 #[.int .i64 r.1, .int .i64 r.2] ∈ L' → (w'.cell? ⟨w.heap.size, 0, none⟩ = some (.int .i64 r.1) ∧ w'.cell? ⟨w.heap.size, 1, none⟩ = some (.int .i64 r.2)) from fun w' L' h m => by
  obtain ⟨p0, p1, -, -⟩ := h.other.c2 _ _ _ _ m
  exact ⟨p0, p1⟩)
 go_enter Try.func127, Try.ntmps127
 go_upto_region 1 with (fail)
 obtain ⟨W0, hW, hM⟩ : ∃ W, W = _ ∧ Mt w0 W K t on R (cb (w.heap.size + 1) 85 #[.int .i64 0, .int .i64 0, .int .i64 0] :: cb w.heap.size 33 #[.int .i64 r.1, .int .i64 r.2] :: L) := ⟨_, rfl, HM.out⟩
 rw [← hW]
 have HD := As hM.drew
 clear hW hM HM
 refine start_ (n := 7) (S := fun w' => w'.cell? ⟨w.heap.size, 0, none⟩ = some (.int .i64 r.1) ∧ w'.cell? ⟨w.heap.size, 1, none⟩ = some (.int .i64 r.2)) (ds := [6]) #[false, false, false, false, false, false, false] (by kernel_rfl) rfl rfl (SP.out _ _ HD.out (by simp)) (fun hHeld => ?_)
 generalize W0.drew = wr0 at HD hHeld ⊢
 refine pu_ 1 (some 6) ?_
 refine ta_ 0 (some 5) hHeld ?_ (hy := Or.inl ⟨by rfl, by rintro w' ⟨s0, s1⟩; go_simp; with_reducible rfl⟩)
 refine ta_ 2 (some 7) hHeld ?_ (hy := Or.inl ⟨by rfl, by rintro w' ⟨s0, s1⟩; go_simp; with_reducible rfl⟩)
 refine on_ 3 (some 8) fun K_ hK => ?_
 refine gs_ Try.func111 #[.pointer (some ⟨K.1, 0, none⟩), .agg #[.int .i64 r.1, .int .i64 r.2]] ?_
 refine (at.calls HD.out r).mono ?_
 rintro e9 wr1 ⟨v, rfl, hnv, hh⟩
 refine ⟨_, rfl, ?_⟩
 rw [hn] at hnv
 obtain ⟨ka, kc, ra, rc, ev, hr⟩ := hnv
 have ev' : v = .agg #[.bool n.leaf, .int .i64 n.ver, .slice ka n.keys.length kc, .slice ra n.refs.length rc] := ev
 subst ev'
 clear ev hr
 have HR1 := As hh
 clear hh
 refine hK.out _ _ (SP.out _ _ HR1.out (by simp)) (fun hHeld => ?_)
 clear hK K_
 refine nm_ ?_
 refine pu_ 4 (some 9) ?_
 refine pu_ 5 (some 10) ?_
 refine la_ 6 none fun K_ hK => ?_
 obtain ⟨b0, b1, b2, d0, d1, d2⟩ := HR1.out.other.c3 (w.heap.size + 1) 85 (.int .i64 0) (.int .i64 0) (.int .i64 0) List.mem_cons_self
 refine sk_ (hK.out _ _ ?_)
 clear hK K_ b0 b1 b2 d0 d1 d2
 obtain ⟨wr2, hW, hvv⟩ : ∃ wr2, wr2 = _ ∧ Mt w0 wr2 K t on R (cb (w.heap.size + 1) 85 #[.int .i64 r.1, .int .i64 r.2, .int .i64 n.ver] :: cb w.heap.size 33 #[.int .i64 r.1, .int .i64 r.2] :: L) := ⟨_, rfl, (Mt.putB0 (Mt.putB0 (Mt.putB0 HR1.out 0 (.int .i64 r.1) rfl) 1 (.int .i64 r.2) rfl) 2 (.int .i64 n.ver) rfl)⟩
 rw [← hW]
 have HR2 := As hvv
 clear hW hvv
 refine done_ (by kernel_rfl) ?_
 obtain ⟨e0, e1, e2, -, -, -⟩ := HR2.out.other.c3 (w.heap.size + 1) 85 (.int .i64 r.1) (.int .i64 r.2) (.int .i64 n.ver) List.mem_cons_self
 go_wp2_with fail
 exact bodyPost_ret (v := .agg #[.int .i64 r.1, .int .i64 r.2, .int .i64 n.ver]) (by simp [results, Try.results127, go_sem, e0, e1, e2, hu85, hu33]) rfl ⟨by rw [HE.out], HR2.out.tail.tail⟩
end
section
variable {w0 w w1 : World} {L L' R : List Ob} {K : Nat × Nat × Nat} {t : Tm} {on : Value}
inductive Dn (t : Tm) (key : ByteArray) : Rf → List (Rf × Nat) → Rf → Prop
 | leaf (r : Rf) (h : (t.at r).leaf = true) : Dn t key r [] r
 | step (r r' : Rf) (l : List (Rf × Nat)) (q : Rf) (h : (t.at r).leaf = false) (ho : Nd.Ok (t.at r)) (hk : (t.at r).refs[(t.at r).child key]? = some r') (hd : Dn t key r' l q) : Dn t key r ((r, (t.at r).child key) :: l) q
theorem Dn.inv {t : Tm} {key : ByteArray} {r q : Rf} {l : List (Rf × Nat)} : Dn t key r l q → ((t.at r).leaf = true ∧ l = [] ∧ q = r) ∨ (∃ r' l2, (t.at r).leaf = false ∧ Nd.Ok (t.at r) ∧ (t.at r).refs[(t.at r).child key]? = some r' ∧ Dn t key r' l2 q ∧ l = (r, (t.at r).child key) :: l2)
 | .leaf _ h => .inl ⟨h, rfl, rfl⟩
 | .step _ r' l2 _ h ho hk hd => .inr ⟨r', l2, h, ho, hk, hd, rfl⟩
theorem off.calls (u : FrameMode) (w : World) (a : Addr) (g : Nat) (v : Value) (hp : w.cell? a = some (.pointer (some ⟨g, 0, none⟩))) (hc : w.cell? ⟨g, 4, none⟩ = some v) (hf : w.frozen? ⟨g, 4, none⟩ = false) :
  CallsD Try.prog 148 #[.pointer (some a)] u w fun e u' w' => u' = u ∧ (e = .returned (.tuple #[]) ∧ w' = w.setCell ⟨g, 4, none⟩ .nilFunc) := by
 have hu160 := Try.underlying160
 go_enter_d Try.func148, Try.ntmps148
 go_wp2
 all_goals go_end0
 all_goals exact ⟨rfl, rfl⟩
theorem downN.calls (h : Mt w0 w K t on R L) (key : ByteArray) {l : List (Rf × Nat)} {q : Rf} (hd : Dn t key t.root l q) : Calls Try.prog 126 #[.pointer (some ⟨K.1, 0, none⟩), .string key, .nilFunc] w fun e w' => e = .returned (.agg #[.int .i64 q.1, .int .i64 q.2]) ∧ Mt w0 w' K t .nilFunc R L := by
 have hu59 := Try.underlying59
 have hu33 := Try.underlying33
 have hu31 := Try.underlying31
 have hu80 := Try.underlying80
 have hu160 := Try.underlying160
 have hmf : ∀ (fn : Fn) (first cap : Array Value) (w : World), (Instr.makeFunc fn first cap).run Try.prog w = .ok (.func fn first cap) w := fun _ _ _ _ => rfl
 have HM := As (show Mt w0 _ K t on R (cb (w.heap.size + 1) 33 #[.int .i64 0, .int .i64 0] :: cb w.heap.size 80 #[.pointer (some ⟨K.1, 0, none⟩)] :: L) by
  have := (h.alloc (.cells #[.pointer (some ⟨K.1, 0, none⟩)] 80)).alloc (.cells #[.int .i64 0, .int .i64 0] 33)
  simpa [cb] using this)
 have hne := h.ne
 have x1 := hne.1
 have x2 := hne.2
 have x3 := (HM.out.apart (p := cb (w.heap.size + 1) 33 #[.int .i64 0, .int .i64 0]) (by simp)).1
 have x4 := (HM.out.apart (p := cb (w.heap.size + 1) 33 #[.int .i64 0, .int .i64 0]) (by simp)).2
 simp only [cb] at x3 x4
 clear hne h
 obtain ⟨c0, c1, c2, c4, cf1, cf2, cf4⟩ := HM.out.cells
 go_enter_defers Try.func126, Try.ntmps126
 go_upto_region 4 with (fail)
 obtain ⟨WL, hW, hM⟩ : ∃ W, W = _ ∧ Mt w0 W K t .nilFunc R (cb (w.heap.size + 1 + 1) 33 #[.int .i64 t.root.1, .int .i64 t.root.2] :: cb (w.heap.size + 1) 33 #[.int .i64 0, .int .i64 0] :: cb w.heap.size 80 #[.pointer (some ⟨K.1, 0, none⟩)] :: L) := ⟨_, rfl, by have := (HM.out.setOn .nilFunc).alloc (.cells #[.int .i64 t.root.1, .int .i64 t.root.2] 33); simpa [cb] using this⟩
 rw [← hW]
 have HM := As hM
 clear hW hM c0 c1 c2 c4 cf1 cf2 cf4 x1 x2 x3 x4
 go_loopg [] l.length (fun kq wr => ∃ (r : Rf) (l' : List (Rf × Nat)), Dn t key r l' q ∧ kq = l'.length ∧ Aside0 (Mt w0 wr K t .nilFunc R (cb (w.heap.size + 1 + 1) 33 #[.int .i64 r.1, .int .i64 r.2] :: cb (w.heap.size + 1) 33 #[.int .i64 0, .int .i64 0] :: cb w.heap.size 80 #[.pointer (some ⟨K.1, 0, none⟩)] :: L)))
 case atStart => exact ⟨t.root, l, hd, rfl, HM⟩
 case round =>
  obtain ⟨r, l', hdn, rfl, HW⟩ := hrel
  clear HM hd
  obtain ⟨n, hn⟩ : ∃ n, t.at r = n := ⟨_, rfl⟩
  obtain ⟨c0, c1, c2, c4, cf1, cf2, cf4⟩ := HW.out.cells
  obtain ⟨p0, p1, pf0, pf1⟩ := HW.out.other.c2 (w.heap.size + 1 + 1) 33 (.int .i64 r.1) (.int .i64 r.2) (by simp)
  obtain ⟨s0, s1, sf0, sf1⟩ := HW.out.other.c2 (w.heap.size + 1) 33 (.int .i64 0) (.int .i64 0) (by simp)
  obtain ⟨t0, tf0⟩ := HW.out.other.c1 w.heap.size 80 (.pointer (some ⟨K.1, 0, none⟩)) (by simp)
  rcases hdn.inv with ⟨hl, rfl, hq⟩ | ⟨r', l2, hl, ho, hk, hd', rfl⟩
  ·clear hdn
   have HL := As (show n.leaf = true by rw [← hn]; exact hl)
   have HQ := As hq
   clear hl hq
   go_upto_region 5 with (go_at_call 111; go_loud (refine (at.calls HW.out r).mono ?_); rintro e2 w2 ⟨v, rfl, hnv, hm⟩; rw [hn] at hnv; obtain ⟨ka, kc, ra, rc, ev, hr⟩ := hnv; have ev' : v = .agg #[.bool n.leaf, .int .i64 n.ver, .slice ka n.keys.length kc, .slice ra n.refs.length rc] := ev; subst ev'; clear ev; have HN := As hr; have H2 := As hm; clear hm hr; clear c0 c1 c2 c4 cf1 cf2 cf4 p0 p1 pf0 pf1 s0 s1 sf0 sf1 t0 tf0; obtain ⟨c0, c1, c2, c4, cf1, cf2, cf4⟩ := H2.out.cells; obtain ⟨p0, p1, pf0, pf1⟩ := H2.out.other.c2 (w.heap.size + 1 + 1) 33 (.int .i64 r.1) (.int .i64 r.2) (by simp); obtain ⟨s0, s1, sf0, sf1⟩ := H2.out.other.c2 (w.heap.size + 1) 33 (.int .i64 0) (.int .i64 0) (by simp); obtain ⟨t0, tf0⟩ := H2.out.other.c1 w.heap.size 80 (.pointer (some ⟨K.1, 0, none⟩)) (by simp))
   obtain ⟨W3, hW, hM⟩ : ∃ W, W = w2.alloc (.cells #[.bool n.leaf, .int .i64 n.ver, .slice ka n.keys.length kc, .slice ra n.refs.length rc] 59) ∧ Mt w0 W K t .nilFunc R (cb w2.heap.size 59 #[.bool n.leaf, .int .i64 n.ver, .slice ka n.keys.length kc, .slice ra n.refs.length rc] :: cb (w.heap.size + 1 + 1) 33 #[.int .i64 r.1, .int .i64 r.2] :: cb (w.heap.size + 1) 33 #[.int .i64 0, .int .i64 0] :: cb w.heap.size 80 #[.pointer (some ⟨K.1, 0, none⟩)] :: L) := ⟨_, rfl, H2.out.alloc _⟩
   rw [← hW]
   have H3 := As hM
   clear hW hM
   clear c0 c1 c2 c4 cf1 cf2 cf4 p0 p1 pf0 pf1 s0 s1 sf0 sf1 t0 tf0
   generalize w2.heap.size = g8 at H3 ⊢
   obtain ⟨c0, c1, c2, c4, cf1, cf2, cf4⟩ := H3.out.cells
   obtain ⟨p0, p1, pf0, pf1⟩ := H3.out.other.c2 (w.heap.size + 1 + 1) 33 (.int .i64 r.1) (.int .i64 r.2) (by simp)
   obtain ⟨s0, s1, sf0, sf1⟩ := H3.out.other.c2 (w.heap.size + 1) 33 (.int .i64 0) (.int .i64 0) (by simp)
   obtain ⟨t0, tf0⟩ := H3.out.other.c1 w.heap.size 80 (.pointer (some ⟨K.1, 0, none⟩)) (by simp)
   obtain ⟨n0, n1, n2, n3, -, -, -, -⟩ := H3.out.other.c4 g8 59 (.bool n.leaf) (.int .i64 n.ver) (.slice ka n.keys.length kc) (.slice ra n.refs.length rc) (by simp)
   have hlf := HL.out
   go_wp2_with fail
   obtain ⟨W5, hW, hM⟩ : ∃ W, W = (W3.setCell ⟨w.heap.size + 1, 0, none⟩ (.int .i64 r.1)).setCell ⟨w.heap.size + 1, 1, none⟩ (.int .i64 r.2) ∧ Mt w0 W K t .nilFunc R (cb g8 59 #[.bool n.leaf, .int .i64 n.ver, .slice ka n.keys.length kc, .slice ra n.refs.length rc] :: cb (w.heap.size + 1 + 1) 33 #[.int .i64 r.1, .int .i64 r.2] :: cb (w.heap.size + 1) 33 #[.int .i64 r.1, .int .i64 r.2] :: cb w.heap.size 80 #[.pointer (some ⟨K.1, 0, none⟩)] :: L) := ⟨_, rfl, (H3.out.putB2 0 (.int .i64 r.1) rfl).putB2 1 (.int .i64 r.2) rfl⟩
   rw [← hW]
   clear c0 c1 c2 c4 cf1 cf2 cf4 p0 p1 pf0 pf1 s0 s1 sf0 sf1 t0 tf0 n0 n1 n2 n3
   obtain ⟨t0, -⟩ := hM.other.c1 w.heap.size 80 (.pointer (some ⟨K.1, 0, none⟩)) (by simp)
   obtain ⟨-, -, -, c4, -, -, cf4⟩ := hM.cells
   refine leaves_cons (f := 148) (args := #[.pointer (some ⟨w.heap.size, 0, none⟩)]) (by simp) (by simp [go_sem]) ?_
   refine (off.calls .returning W5 ⟨w.heap.size, 0, none⟩ K.1 .nilFunc t0 c4 cf4).mono ?_
   rintro e u' w'' ⟨rfl, rfl, rfl⟩
   have hM2 := hM.setOn .nilFunc
   obtain ⟨e0, e1, -, -⟩ := hM2.other.c2 (w.heap.size + 1) 33 (.int .i64 r.1) (.int .i64 r.2) (by simp)
   exact ⟨.agg #[.int .i64 r.1, .int .i64 r.2], by simp [results, Try.results126, go_sem, e0, e1, hu33], by rw [HQ.out], hM2.tail.tail.tail.tail⟩
  ·clear hdn
   rw [hn] at hl ho hk
   have HL := As (And.intro hl (And.intro ho (And.intro hk hd')))
   clear hl ho hk hd'
   go_upto_region 5 with (go_at_call 111; go_loud (refine (at.calls HW.out r).mono ?_); rintro e2 w2 ⟨v, rfl, hnv, hm⟩; rw [hn] at hnv; obtain ⟨ka, kc, ra, rc, ev, hr⟩ := hnv; have ev' : v = .agg #[.bool n.leaf, .int .i64 n.ver, .slice ka n.keys.length kc, .slice ra n.refs.length rc] := ev; subst ev'; clear ev; have HN := As hr; have H2 := As hm; clear hm hr; clear c0 c1 c2 c4 cf1 cf2 cf4 p0 p1 pf0 pf1 s0 s1 sf0 sf1 t0 tf0; obtain ⟨c0, c1, c2, c4, cf1, cf2, cf4⟩ := H2.out.cells; obtain ⟨p0, p1, pf0, pf1⟩ := H2.out.other.c2 (w.heap.size + 1 + 1) 33 (.int .i64 r.1) (.int .i64 r.2) (by simp); obtain ⟨s0, s1, sf0, sf1⟩ := H2.out.other.c2 (w.heap.size + 1) 33 (.int .i64 0) (.int .i64 0) (by simp); obtain ⟨t0, tf0⟩ := H2.out.other.c1 w.heap.size 80 (.pointer (some ⟨K.1, 0, none⟩)) (by simp))
   obtain ⟨W3, hW, hM⟩ : ∃ W, W = w2.alloc (.cells #[.bool n.leaf, .int .i64 n.ver, .slice ka n.keys.length kc, .slice ra n.refs.length rc] 59) ∧ Mt w0 W K t .nilFunc R (cb w2.heap.size 59 #[.bool n.leaf, .int .i64 n.ver, .slice ka n.keys.length kc, .slice ra n.refs.length rc] :: cb (w.heap.size + 1 + 1) 33 #[.int .i64 r.1, .int .i64 r.2] :: cb (w.heap.size + 1) 33 #[.int .i64 0, .int .i64 0] :: cb w.heap.size 80 #[.pointer (some ⟨K.1, 0, none⟩)] :: L) := ⟨_, rfl, H2.out.alloc _⟩
   rw [← hW]
   have H3 := As hM
   clear hW hM
   clear c0 c1 c2 c4 cf1 cf2 cf4 p0 p1 pf0 pf1 s0 s1 sf0 sf1 t0 tf0
   generalize w2.heap.size = g8 at H3 ⊢
   obtain ⟨c0, c1, c2, c4, cf1, cf2, cf4⟩ := H3.out.cells
   obtain ⟨p0, p1, pf0, pf1⟩ := H3.out.other.c2 (w.heap.size + 1 + 1) 33 (.int .i64 r.1) (.int .i64 r.2) (by simp)
   obtain ⟨s0, s1, sf0, sf1⟩ := H3.out.other.c2 (w.heap.size + 1) 33 (.int .i64 0) (.int .i64 0) (by simp)
   obtain ⟨t0, tf0⟩ := H3.out.other.c1 w.heap.size 80 (.pointer (some ⟨K.1, 0, none⟩)) (by simp)
   obtain ⟨n0, n1, n2, n3, -, -, -, -⟩ := H3.out.other.c4 g8 59 (.bool n.leaf) (.int .i64 n.ver) (.slice ka n.keys.length kc) (.slice ra n.refs.length rc) (by simp)
   have hlf := HL.out.1
   go_upto_region 7 with (fail)
   clear hlf
   obtain ⟨k, hkk⟩ : ∃ k, n.child key = k := ⟨_, rfl⟩
   have HK := As hkk
   obtain ⟨Lf, hL, hRf, hLf, back⟩ := H3.out.lens
   have HLf := As (And.intro hL (And.intro hRf (And.intro hLf back)))
   clear hL hRf hLf back hkk
   go_upto_region 8 with (go_at_call 40; go_loud (refine (child.calls (w0 := w0) HLf.out.1 (NV.mono ⟨ka, kc, ra, rc, rfl, HN.out⟩ HLf.out.2.1) HL.out.2.1 key).mono ?_); rw [HK.out]; rintro e4 w4 ⟨rfl, hh⟩; have H4 := As (show Mt w0 w4 K t .nilFunc R (cb g8 59 #[.bool n.leaf, .int .i64 n.ver, .slice ka n.keys.length kc, .slice ra n.refs.length rc] :: cb (w.heap.size + 1 + 1) 33 #[.int .i64 r.1, .int .i64 r.2] :: cb (w.heap.size + 1) 33 #[.int .i64 0, .int .i64 0] :: cb w.heap.size 80 #[.pointer (some ⟨K.1, 0, none⟩)] :: L) from HLf.out.2.2.2 w4 [] hh); clear hh; clear c0 c1 c2 c4 cf1 cf2 cf4 p0 p1 pf0 pf1 s0 s1 sf0 sf1 t0 tf0 n0 n1 n2 n3; obtain ⟨c0, c1, c2, c4, cf1, cf2, cf4⟩ := H4.out.cells; obtain ⟨p0, p1, pf0, pf1⟩ := H4.out.other.c2 (w.heap.size + 1 + 1) 33 (.int .i64 r.1) (.int .i64 r.2) (by simp); obtain ⟨s0, s1, sf0, sf1⟩ := H4.out.other.c2 (w.heap.size + 1) 33 (.int .i64 0) (.int .i64 0) (by simp); obtain ⟨t0, tf0⟩ := H4.out.other.c1 w.heap.size 80 (.pointer (some ⟨K.1, 0, none⟩)) (by simp); obtain ⟨n0, n1, n2, n3, -, -, -, -⟩ := H4.out.other.c4 g8 59 (.bool n.leaf) (.int .i64 n.ver) (.slice ka n.keys.length kc) (.slice ra n.refs.length rc) (by simp))
   have hk := HL.out.2.2.1
   rw [HK.out] at hk
   have hkl := (List.getElem?_eq_some_iff.1 hk).1
   have hki : (k : Int) < (n.refs.length : Int) := by omega
   obtain ⟨Lf2, hL2, hRf2, -, -⟩ := H4.out.lens
   obtain ⟨ad, ea, hc⟩ := (HN.out.r w4 Lf2 hL2 hRf2).2 (by omega)
   cases ea
   obtain ⟨g1, g2⟩ := rcel_get _ _ _ hk
   have z0 := hc _ _ g1
   have z1' := hc _ _ g2
   rw [← Addr.add_add] at z1'
   have z1 : w4.cell? { block := (ad.add (k * 2)).block, off := (ad.add (k * 2)).off + 1 } = some (.int .i64 r'.2) := z1'
   clear hc g1 g2 hL2 hRf2 z1' hk
   have hnf : ∀ w : World, (binOp .neq 158 .nilFunc .nilFunc).run Try.prog w = .ok (.bool false) w := fun w => by kernel_rfl
   go_wp2_with fail
   go_roundg l2.length
   case measure => simp
   case rel => exact ⟨r', l2, HL.out.2.2.2, rfl, ⟨((H4.out.putB1 0 (.int .i64 r'.1) rfl).putB1 1 (.int .i64 r'.2) rfl).tail⟩⟩
end
section
variable {w0 w w1 : World} {L L' R : List Ob} {K : Nat × Nat × Nat} {t : Tm} {on : Value}
theorem Mt.lensX {B X : List Ob} (h : Mt w0 w K t on R (B ++ (X ++ L))) : ∃ Q, Hv w0 w (X ++ Q) ∧ ∀ w' X', Hv w0 w' (X' ++ Q) → Mt w0 w' K t on R (B ++ (X' ++ L)) := by
 obtain ⟨s, gv, G, e, ⟨bv, Bb, h1, h1', h1''⟩, h2, h3⟩ := h
 have key : ∀ X' : List Ob, (AL K.2.1 K.2.2 bv Bb s ++ (tb K t gv on :: (G ++ (R ++ (B ++ (X' ++ L)))))).Perm (X' ++ (AL K.2.1 K.2.2 bv Bb s ++ (tb K t gv on :: (G ++ (R ++ (B ++ L)))))) := fun X' => by
  have e1 : ∀ P : List Ob, (P ++ (X' ++ L)).Perm (X' ++ (P ++ L)) := fun P => by
   rw [← List.append_assoc, ← List.append_assoc]
   exact List.Perm.append_right L List.perm_append_comm
  have := e1 (AL K.2.1 K.2.2 bv Bb s ++ (tb K t gv on :: (G ++ (R ++ B))))
  simpa [List.append_assoc] using this
 exact ⟨_, h1.perm (key X).symm, fun w' X' h' => ⟨s, gv, G, e, ⟨bv, Bb, h'.perm (key X'), h1', h1''⟩, h2, h3⟩⟩
section
variable {P : Program} {ops : Array Oper} {Q : Exit → Act → World → Prop}
theorem goesF_ {oi : Oper} {N : Option Tmp} {a : Act} {w : World} {K : Act → World → Prop} {f : FuncId} {fn : Func} {x : Operand} {ars : Array Operand} {ts : Array TypeId} {cap : Array Value} (hf : P.funcs[f]? = some fn) (hname : (fn.name == "runtime.NumGoroutine") = false) (hb : fn.body.isSome = true) (args : Array Value)
  (hw : Region.wanted oi (yielded ops a.tmps) = true) (hN : oi.dst = N) (hop : oi.op = .call { callee := .value x, args := ars, argTypes := ts }) (hx : a.eval x = .func (.func f) #[] cap) (hargs : ars.map a.eval ++ cap = args)
  (h : Calls P f args w fun e w' => ∃ v, e = .returned v ∧ K (a.put N v) w') : if Region.wanted oi (yielded ops a.tmps) = true then Oper.wp P oi a w K Q else K (a.put N undef) w := by
 refine call_ f args hw hN ?_ h
 have he := enters_ hf hname hb args w
 unfold execOp
 simp [hop, resolve, Deferred.ofValue, invoke, hx, hargs, he]
end
theorem infoR : (Try.prog.info? 33).map (fun i => (i.zero, i.size, i.bytes)) = some (some (.agg #[.int .i64 0, .int .i64 0]), 2, 16) := by kernel_rfl
theorem way1.calls {g n : Nat} {v : Value} {xs : List Value} {A : List Ob} (hv : Hv w0 w (cb g 31 #[v] :: (A ++ L))) (hG : Gr 33 2 v n xs A) (r : Rf) (x0 : Bool) (x1 : Int) (x2 : Option Addr) (x3 x4 : Nat) (x5 : Option Addr) (x6 x7 : Nat) (k : Int) (hb : n < 1000000) :
  Calls Try.prog 146 #[.agg #[.int .i64 r.1, .int .i64 r.2], .agg #[.bool x0, .int .i64 x1, .slice x2 x3 x4, .slice x5 x6 x7], .int .i64 k, .pointer (some ⟨g, 0, none⟩)] w fun e w' => e = .returned (.tuple #[]) ∧ ∃ v' A', Gr 33 2 v' (n + 1) (xs ++ rcel r) A' ∧ Hv w0 w' (cb g 31 #[v'] :: (A' ++ L)) := by
 have hu33 := Try.underlying33
 have hu31 := Try.underlying31
 obtain ⟨ad, c, rfl, hnc⟩ := hG.form
 have HV := As (show Hv w0 _ (cb (w.heap.size + 1) 59 #[.bool x0, .int .i64 x1, .slice x2 x3 x4, .slice x5 x6 x7] :: cb w.heap.size 33 #[.int .i64 r.1, .int .i64 r.2] :: cb g 31 #[.slice ad n c] :: (A ++ L)) by
  have := (hv.alloc (.cells #[.int .i64 r.1, .int .i64 r.2] 33)).alloc (.cells #[.bool x0, .int .i64 x1, .slice x2 x3 x4, .slice x5 x6 x7] 59)
  simpa [cb] using this)
 have HG := As hG
 have HB := As (show (n + 1) * 16 ≤ 140737488355328 by omega)
 clear hv hG hnc hb
 obtain ⟨y0, y1, -, -⟩ := HV.out.c2 w.heap.size 33 (.int .i64 r.1) (.int .i64 r.2) (by simp)
 obtain ⟨g0, gf⟩ := HV.out.c1 g 31 (.slice ad n c) (by simp)
 go_enter Try.func146, Try.ntmps146
 go_wp2_with ((with_reducible refine gate_builtin (b := .append) (xs := #[.tmp 7, .tmp 9]) rfl ?_); at_builtin; go_loud (refine append_rows (w0 := w0) (A := A) (L := cb g 31 #[.slice ad n c] :: L) rfl (.tmp 7) (.tmp 9) 31 33 (.agg #[.int .i64 0, .int .i64 0]) 2 16 rfl Try.underlying31 infoR rfl (by decide) (by decide) (.slice ad n c) n xs rfl (some ⟨w.heap.size + 1 + 1, 0, none⟩) 1 1 (rcel r) rfl (by intro u hu; simp [rcel] at hu; rcases hu with rfl | rfl <;> rfl) HG.out (by have h1 := (HV.out.tail.tail.perm (L' := A ++ (cb g 31 #[.slice ad n c] :: L)) List.perm_middle).alloc (.cells #[.int .i64 r.1, .int .i64 r.2] 33); first | exact h1.tail | exact h1.tail.drew) (by have h1 := HV.out.alloc (.cells #[.int .i64 r.1, .int .i64 r.2] 33); exact (Rdy.of_rw (w0 := w0) (size := 2) (n := 1) (e := 33) (c := 1) (xs := rcel r) ⟨rfl, Nat.le_refl _, fun _ => ⟨w.heap.size + 1 + 1, 0, #[.int .i64 r.1, .int .i64 r.2], rfl, by simp [cb], fun i _ => by rw [Nat.zero_add]; simp [rcel]⟩⟩).now h1) HB.out ?_); intro v1 w5 A1 hG1 hv5; obtain ⟨ad1, c1, rfl, -⟩ := hG1.form; have HG1 := As hG1; have H5 := As (show Hv w0 w5 (cb g 31 #[.slice ad n c] :: (A1 ++ L)) from hv5.perm List.perm_middle.symm); clear hG1 hv5 g0 gf; obtain ⟨g0, gf⟩ := H5.out.c1 g 31 (.slice ad n c) (by simp))
 go_end0
 exact ⟨rfl, _, A1, HG1.out, H5.out.put0 0 _ rfl⟩
end
end Go.Proofs.Ytglbcfkmaamhaaa.Tr
