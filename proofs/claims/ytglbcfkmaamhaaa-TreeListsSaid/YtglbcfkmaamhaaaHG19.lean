/- A text of this claim: parts TsM TsN. No condition. -/
import Derived.Test.YtglbcfkmaamhaaaHG18
import Derived.Laws.EntriesVeiled
import Derived.Test.YtglbcfkmaamhaaaHG0
import Derived.Test.YtglbcfkmaamhaaaHG12
import Derived.Test.YtglbcfkmaamhaaaHG2
set_option linter.unusedVariables false
set_option linter.unusedSimpArgs false
set_option maxHeartbeats 16000000
set_option maxRecDepth 100000
namespace Go.Proofs.Ytglbcfkmaamhaaa.Tr
open Go Go.RowKit Go.Proofs.YtglbcfkmaamhaaaW.PrintWords Go.Proofs.YtglbcfkmaamhaaaW.PrintLast Go.Proofs.YtglbcfkmaamhaaaW.PrintMore Go.Proofs.Ytglbcfkmaamhaaa.Hv Go.Proofs.Ytglbcfkmaamhaaa.Arm Go.Proofs.Ytglbcfkmaamhaaa.Nd Go.Proofs.Ytglbcfkmaamhaaa.ArN
section
variable {w0 w w1 : World} {L L' R : List Ob} {K : Nat × Nat × Nat} {t : Tm} {on : Value}
section
variable {P : Program} {ops : Array Oper} {Q : Exit → Act → World → Prop} {rest : List Oper} {o : Oper} {a : Act}
theorem gate_clo {x : Tmp} {xs : Array Operand} {ts : Array TypeId} (_ho : o.op = .call { callee := .value (.tmp x), args := xs, argTypes := ts }) (h : wpList P ops Q (o :: rest) a w) : wpList P ops Q (o :: rest) a w := h
theorem list_clo (hgd : o.guard = none) {x : Operand} {ars : Array Operand} {ts : Array TypeId} (hop : o.op = .call { callee := .value x, args := ars, argTypes := ts }) {f : FuncId} {fn : Func} (hf : P.funcs[f]? = some fn) (hname : (fn.name == "runtime.NumGoroutine") = false) (hb : fn.body.isSome = true) (cap : Array Value) (hx : a.eval x = .func (.func f) #[] cap)
  (args : Array Value) (hargs : ars.map a.eval ++ cap = args) (h : Calls P f args w fun e w' => ∃ v, e = .returned v ∧ wpList P ops Q rest (a.put o.dst v) w') : wpList P ops Q (o :: rest) a w := by
 refine wpList_plain hgd fun K hK => ?_
 have hw : Region.wanted o (yielded ops a.tmps) = true := by simp [Region.wanted, hgd]
 have := goesF_ (oi := o) (N := o.dst) (ops := ops) (Q := Q) (K := K) hf hname hb args hw rfl hop hx hargs (h.mono fun e w' ⟨v, e1, h1⟩ => ⟨v, e1, hK _ _ h1⟩)
 rw [if_pos hw] at this
 exact this
end
structure Vis where
 n : Nd.Nd
 d : Int
 lo : ByteArray
 hi : ByteArray
def loI (n : Nd.Nd) (lo : ByteArray) (i : Nat) : ByteArray := if 0 < i then n.keys.getD (i - 1) ⟨#[]⟩ else lo
def hiI (n : Nd.Nd) (hi : ByteArray) (i : Nat) : ByteArray := if i < n.keys.length then n.keys.getD i ⟨#[]⟩ else hi
def visits (t : Tm) : Nat → Rf → Int → ByteArray → ByteArray → List Vis
 | 0, r, d, lo, hi => [⟨t.at r, d, lo, hi⟩]
 | h + 1, r, d, lo, hi => ⟨t.at r, d, lo, hi⟩ :: (if (t.at r).leaf then [] else (List.range (t.at r).refs.length).flatMap fun i => visits t h (refI (t.at r) i) (d + 1) (loI (t.at r) lo i) (hiI (t.at r) hi i))
def WOk (t : Tm) (C : Nd.Nd → Prop) : Nat → Rf → Prop
 | 0, r => (t.at r).leaf = true ∧ C (t.at r)
 | h + 1, r => C (t.at r) ∧ ((t.at r).leaf = true ∨ ((t.at r).refs.length ≤ (t.at r).keys.length + 1 ∧ (t.at r).refs.length ≤ 1000000 ∧ ∀ x ∈ (t.at r).refs, WOk t C h x))
theorem walkI.calls {gc : Nat} {J : List Vis → List Ob → Prop} {C : Nd.Nd → Prop} {m : Nat} (hCB : ∀ (W : World) (B X : List Ob) (p : List Vis) (n : Nd.Nd) (d : Int) (lo hi : ByteArray) (ka : Option Addr) (kc : Nat) (ra : Option Addr) (rc : Nat), Mt w0 W K t on R (B ++ (X ++ L)) → J p X → C n → p.length < m → NR w0 R n ka kc ra rc → Calls Try.prog 123 #[.agg #[.bool n.leaf, .int .i64 n.ver, .slice ka n.keys.length kc, .slice ra n.refs.length rc], .int .i64 d, .string lo, .string hi, .pointer (some ⟨gc, 0, none⟩)] W fun e w' => e = .returned (.tuple #[]) ∧ ∃ X', J (p ++ [⟨n, d, lo, hi⟩]) X' ∧ Mt w0 w' K t on R (B ++ (X' ++ L))) : ∀ (h : Nat) (r : Rf) (d : Int) (lo hi : ByteArray) (p : List Vis) (X B : List Ob) (w : World), WOk t C h r → Mt w0 w K t on R (B ++ (X ++ L)) → J p X → (p ++ visits t h r d lo hi).length ≤ m → 0 ≤ d → d + h ≤ 1000000 →
  Calls Try.prog 122 #[.pointer (some ⟨K.1, 0, none⟩), .agg #[.int .i64 r.1, .int .i64 r.2], .int .i64 d, .string lo, .string hi, (.func (.func 123) #[] #[.pointer (some ⟨gc, 0, none⟩)])] w fun e w' => e = .returned (.tuple #[]) ∧ ∃ X', J (p ++ visits t h r d lo hi) X' ∧ Mt w0 w' K t on R (B ++ (X' ++ L)) := by
 intro h
 have HCB := As hCB
 clear hCB
 induction h with
 | zero =>
  intro r d lo hi p X B w hok hM hJ hlen hd0 hdm
  have hu59 := Try.underlying59
  have hu33 := Try.underlying33
  have hu31 := Try.underlying31
  have hu57 := Try.underlying57
  obtain ⟨n, hn⟩ : ∃ n, t.at r = n := ⟨_, rfl⟩
  have HM := As (show Mt w0 (w.alloc (.cells #[.int .i64 r.1, .int .i64 r.2] 33)) K t on R ((cb w.heap.size 33 #[.int .i64 r.1, .int .i64 r.2] :: B) ++ (X ++ L)) from hM.alloc (.cells #[.int .i64 r.1, .int .i64 r.2] 33))
  obtain ⟨hlf, hc⟩ := hok
  rw [hn] at hlf hc
  have HN := As hn
  have HC := As hc
  have HJ := As hJ
  have HLf := As hlf
  have HP := As (show p.length < m by rw [List.length_append] at hlen; have : (visits t 0 r d lo hi).length = 1 := rfl; omega)
  clear hM hn hc hJ hlen hd0 hdm hlf
  obtain ⟨y0, y1, -, -⟩ := HM.out.other.c2 w.heap.size 33 (.int .i64 r.1) (.int .i64 r.2) (by simp)
  go_enter Try.func122, Try.ntmps122
  go_upto_region 2 with (go_at_call 111; go_loud (refine (at.calls HM.out r).mono ?_; rintro e2 w2 ⟨v, rfl, hnv, hh⟩; rw [HN.out] at hnv; obtain ⟨ka, kc, ra, rc, ev, hr⟩ := hnv; have ev' : v = .agg #[.bool n.leaf, .int .i64 n.ver, .slice ka n.keys.length kc, .slice ra n.refs.length rc] := ev; subst ev'; clear ev; have HR := As hr; have H2 := As hh; clear hh hr))
  obtain ⟨W3, hW, hM⟩ : ∃ W, W = _ ∧ Mt w0 W K t on R ((cb w2.heap.size 59 #[.bool n.leaf, .int .i64 n.ver, .slice ka n.keys.length kc, .slice ra n.refs.length rc] :: cb w.heap.size 33 #[.int .i64 r.1, .int .i64 r.2] :: B) ++ (X ++ L)) := ⟨_, rfl, H2.out.alloc _⟩
  rw [← hW]
  have H3 := As hM
  clear hW hM y0 y1
  generalize w2.heap.size = g12 at H3 ⊢
  obtain ⟨n0, n1, n2, n3, -, -, -, -⟩ := H3.out.other.c4 g12 59 (.bool n.leaf) (.int .i64 n.ver) (.slice ka n.keys.length kc) (.slice ra n.refs.length rc) (by simp)
  go_wp2_with ((with_reducible refine gate_clo (x := 20) (xs := #[.tmp 21, .tmp 22, .tmp 23, .tmp 24]) rfl ?_); go_loud (refine list_clo rfl (x := .tmp 20) rfl Try.func123 (by kernel_rfl) rfl #[.pointer (some ⟨gc, 0, none⟩)] rfl #[.agg #[.bool n.leaf, .int .i64 n.ver, .slice ka n.keys.length kc, .slice ra n.refs.length rc], .int .i64 d, .string lo, .string hi, .pointer (some ⟨gc, 0, none⟩)] (by simp only [List.map_toArray, List.map_cons, List.map_nil]; first | rfl | (go_simp; done) | (go_simp; rfl)) ?_; refine (HCB.out _ (cb g12 59 #[.bool n.leaf, .int .i64 n.ver, .slice ka n.keys.length kc, .slice ra n.refs.length rc] :: cb w.heap.size 33 #[.int .i64 r.1, .int .i64 r.2] :: B) X p n d lo hi ka kc ra rc H3.out HJ.out HC.out HP.out HR.out).mono ?_; rintro e4 w4 ⟨rfl, X4, hj4, hh⟩; refine ⟨_, rfl, ?_⟩; have HJ4 := As hj4; have H4 := As hh; clear hj4 hh; clear n0 n1 n2 n3; obtain ⟨n0, n1, n2, n3, -, -, -, -⟩ := H4.out.other.c4 g12 59 (.bool n.leaf) (.int .i64 n.ver) (.slice ka n.keys.length kc) (.slice ra n.refs.length rc) (by simp); rw [HLf.out] at n0))
  refine bodyPost_ret (results_none rfl _ _ _) rfl ?_
  exact ⟨rfl, X4, by unfold visits; rw [HN.out]; exact HJ4.out, H4.out.drop (by rw [List.cons_append, List.cons_append]; exact (List.sublist_cons_self _ _).trans (List.sublist_cons_self _ _))⟩
 | succ h ih =>
  intro r d lo hi p X B w hok hM hJ hlen hd0 hdm
  have hu59 := Try.underlying59
  have hu33 := Try.underlying33
  have hu31 := Try.underlying31
  have hu57 := Try.underlying57
  obtain ⟨n, hn⟩ : ∃ n, t.at r = n := ⟨_, rfl⟩
  have HM := As (show Mt w0 (w.alloc (.cells #[.int .i64 r.1, .int .i64 r.2] 33)) K t on R ((cb w.heap.size 33 #[.int .i64 r.1, .int .i64 r.2] :: B) ++ (X ++ L)) from hM.alloc (.cells #[.int .i64 r.1, .int .i64 r.2] 33))
  obtain ⟨hc, hcase⟩ := hok
  rw [hn] at hc hcase
  have HN := As hn
  have HC := As hc
  have HJ := As hJ
  have HIH := As ih
  have HP := As (show p.length < m by rw [List.length_append] at hlen; unfold visits at hlen; rw [List.length_cons] at hlen; omega)
  have HLen := As (And.intro hlen (And.intro hd0 hdm))
  clear hM hc hJ hlen hn ih
  obtain ⟨y0, y1, -, -⟩ := HM.out.other.c2 w.heap.size 33 (.int .i64 r.1) (.int .i64 r.2) (by simp)
  go_enter Try.func122, Try.ntmps122
  go_upto_region 2 with (go_at_call 111; go_loud (refine (at.calls HM.out r).mono ?_; rintro e2 w2 ⟨v, rfl, hnv, hh⟩; rw [HN.out] at hnv; obtain ⟨ka, kc, ra, rc, ev, hr⟩ := hnv; have ev' : v = .agg #[.bool n.leaf, .int .i64 n.ver, .slice ka n.keys.length kc, .slice ra n.refs.length rc] := ev; subst ev'; clear ev; have HR := As hr; have H2 := As hh; clear hh hr))
  obtain ⟨W3, hW, hM⟩ : ∃ W, W = _ ∧ Mt w0 W K t on R ((cb w2.heap.size 59 #[.bool n.leaf, .int .i64 n.ver, .slice ka n.keys.length kc, .slice ra n.refs.length rc] :: cb w.heap.size 33 #[.int .i64 r.1, .int .i64 r.2] :: B) ++ (X ++ L)) := ⟨_, rfl, H2.out.alloc _⟩
  rw [← hW]
  have H3 := As hM
  clear hW hM y0 y1
  generalize w2.heap.size = g12 at H3 ⊢
  obtain ⟨n0, n1, n2, n3, -, -, -, -⟩ := H3.out.other.c4 g12 59 (.bool n.leaf) (.int .i64 n.ver) (.slice ka n.keys.length kc) (.slice ra n.refs.length rc) (by simp)
  rcases (Bool.eq_false_or_eq_true n.leaf).symm with hlf | hlf
  ·have hcase2 : n.refs.length ≤ n.keys.length + 1 ∧ n.refs.length ≤ 1000000 ∧ ∀ x ∈ n.refs, WOk t C h x := hcase.elim (fun e => by rw [hlf] at e; cases e) id
   have HK := As hcase2
   clear hcase hcase2
   obtain ⟨f, hf⟩ : ∃ f : Nat → List Vis, f = fun i => visits t h (refI n i) (d + 1) (loI n lo i) (hiI n hi i) := ⟨_, rfl⟩
   have hvis : visits t (h + 1) r d lo hi = ⟨n, d, lo, hi⟩ :: (List.range n.refs.length).flatMap f := by rw [visits, HN.out, hlf, hf]; rfl
   have ewd : wrap64 (d + 1) = d + 1 := by unfold wrap64; omega
   have HV := As (And.intro hvis (And.intro hf hlf))
   clear hvis hf hd0 hdm hlf
   go_wp2_with ((with_reducible refine gate_clo (x := 20) (xs := #[.tmp 21, .tmp 22, .tmp 23, .tmp 24]) rfl ?_); go_loud (refine list_clo rfl (x := .tmp 20) rfl Try.func123 (by kernel_rfl) rfl #[.pointer (some ⟨gc, 0, none⟩)] rfl #[.agg #[.bool n.leaf, .int .i64 n.ver, .slice ka n.keys.length kc, .slice ra n.refs.length rc], .int .i64 d, .string lo, .string hi, .pointer (some ⟨gc, 0, none⟩)] (by simp only [List.map_toArray, List.map_cons, List.map_nil]; first | rfl | (go_simp; done) | (go_simp; rfl)) ?_; refine (HCB.out _ (cb g12 59 #[.bool n.leaf, .int .i64 n.ver, .slice ka n.keys.length kc, .slice ra n.refs.length rc] :: cb w.heap.size 33 #[.int .i64 r.1, .int .i64 r.2] :: B) X p n d lo hi ka kc ra rc H3.out HJ.out HC.out HP.out HR.out).mono ?_; rintro e4 w4 ⟨rfl, X4, hj4, hh⟩; refine ⟨_, rfl, ?_⟩; have HJ4 := As hj4; have H4 := As hh; clear hj4 hh; clear n0 n1 n2 n3; obtain ⟨n0, n1, n2, n3, -, -, -, -⟩ := H4.out.other.c4 g12 59 (.bool n.leaf) (.int .i64 n.ver) (.slice ka n.keys.length kc) (.slice ra n.refs.length rc) (by simp); rw [HV.out.2.2] at n0))
   clear n0 n1 n2 n3
   go_loopg [31] n.refs.length (fun kq v31 wr => ∃ (k : Nat) (X' : List Ob), v31 = .int .i64 (k : Int) ∧ kq = n.refs.length - k ∧ k ≤ n.refs.length ∧ Aside0 (J ((p ++ [⟨n, d, lo, hi⟩]) ++ (List.range k).flatMap f) X') ∧ Aside0 (Mt w0 wr K t on R ((cb g12 59 #[.bool n.leaf, .int .i64 n.ver, .slice ka n.keys.length kc, .slice ra n.refs.length rc] :: cb w.heap.size 33 #[.int .i64 r.1, .int .i64 r.2] :: B) ++ (X' ++ L))))
   case atStart => exact ⟨0, X4, rfl, rfl, Nat.zero_le _, ⟨by simpa using HJ4.out⟩, H4⟩
   case round =>
    clear HM HJ4 H4 H3 H2
    obtain ⟨k, X', rfl, rfl, hk, HJ5, HW⟩ := hrel
    by_cases hlt : k < n.refs.length
    ·have hlt2 : (k : Int) < (n.refs.length : Int) := by omega
     have hk7 : k < 1000000 := by have := HK.out.2.1; omega
     have ew : IntKind.i64.wrap ((k : Int) + 1) = ((k + 1 : Nat) : Int) := by rw [IntKind.wrap_i64]; omega
     have ew' : wrap64 ((k : Int) + 1) = ((k + 1 : Nat) : Int) := by unfold wrap64; omega
     obtain ⟨q, hq⟩ : ∃ q, n.refs[k]? = some q := ⟨_, List.getElem?_eq_getElem hlt⟩
     have hqi : refI n k = q := by unfold refI; rw [List.getD_eq_getElem?_getD, hq]; rfl
     obtain ⟨n0, n1, n2, n3, -, -, -, -⟩ := HW.out.other.c4 g12 59 (.bool n.leaf) (.int .i64 n.ver) (.slice ka n.keys.length kc) (.slice ra n.refs.length rc) (by simp)
     rw [HV.out.2.2] at n0
     obtain ⟨ar, ear, hcr⟩ := (HW.out.rd HR.out.r).2 (by omega)
     subst ear
     obtain ⟨s0, s1⟩ := rcel_get n.refs k q hq
     have v0 := hcr _ _ s0
     have v1' := hcr _ _ s1
     rw [← Addr.add_add] at v1'
     have v1 : wr.cell? { block := (ar.add (k * 2)).block, off := (ar.add (k * 2)).off + 1 } = some (.int .i64 q.2) := v1'
     obtain ⟨lo2, hlo2⟩ : ∃ z, loI n lo k = z := ⟨_, rfl⟩
     obtain ⟨hi2, hhi2⟩ : ∃ z, hiI n hi k = z := ⟨_, rfl⟩
     have hfk : f k = visits t h q (d + 1) lo2 hi2 := by rw [HV.out.2.1, ← hqi, ← hlo2, ← hhi2]
     have hrk : (List.range (k + 1)).flatMap f = (List.range k).flatMap f ++ visits t h q (d + 1) lo2 hi2 := by rw [List.range_succ, List.flatMap_append, ← hfk]; simp
     have hlen2 : (((p ++ [(⟨n, d, lo, hi⟩ : Vis)]) ++ (List.range k).flatMap f) ++ visits t h q (d + 1) lo2 hi2).length ≤ m := by
      have h1 := HLen.out.1
      rw [HV.out.1] at h1
      have h2 : ((List.range (k + 1)).flatMap f).length ≤ ((List.range n.refs.length).flatMap f).length := by
       obtain ⟨j, hj⟩ : ∃ j, n.refs.length = k + 1 + j := ⟨n.refs.length - (k + 1), by omega⟩
       rw [hj, show List.range (k + 1 + j) = _ from List.range_add, List.flatMap_append, List.length_append]
       omega
      rw [hrk] at h2
      simp only [List.length_append, List.length_cons, List.length_nil] at h1 h2 ⊢
      omega
     have HX := As (And.intro (HK.out.2.2 q (List.mem_of_getElem? hq)) (And.intro hrk (And.intro hlen2 hlt)))
     have HLK := As (And.intro hlo2 hhi2)
     have HA := As (HW.out.alloc (.cells #[.int .i64 q.1, .int .i64 q.2] 33))
     obtain ⟨-, -, m2, -, -, -, -, -⟩ := HA.out.other.c4 g12 59 (.bool n.leaf) (.int .i64 n.ver) (.slice ka n.keys.length kc) (.slice (some ar) n.refs.length rc) (by simp)
     have hm2 := m2.trans n2.symm
     clear m2
     clear hq hqi hcr s0 s1 v1' hfk hrk hlen2 hlo2 hhi2
     by_cases ha : 0 < k
     ·by_cases hb : k < n.keys.length
      ·have hg0 : (0 : Int) < (k : Int) := by omega
       obtain ⟨k1, hk1⟩ : ∃ x, n.keys[k - 1]? = some x := ⟨_, List.getElem?_eq_getElem (by have := HK.out.1; omega)⟩
       have hkl : ((k - 1 : Nat) : Int) < (n.keys.length : Int) := by have := HK.out.1; omega
       have ewk : wrap64 ((k : Int) - 1) = ((k - 1 : Nat) : Int) := by unfold wrap64; omega
       have hlo3 : lo2 = k1 := by rw [← HLK.out.1]; unfold loI; rw [if_pos ha, List.getD_eq_getElem?_getD, hk1]; rfl
       obtain ⟨ak, eak, hck⟩ := (HW.out.rd HR.out.k).2 (by have := HK.out.1; omega)
       obtain ⟨ak2, eak2, hck2⟩ := (HA.out.rd HR.out.k).2 (by have := HK.out.1; omega)
       subst eak
       cases eak2
       have u0 := hck (k - 1) _ (by rw [List.getElem?_map, hk1]; rfl : (n.keys.map Value.string)[k - 1]? = some (.string k1))
       have hu0 := (hck2 (k - 1) _ (by rw [List.getElem?_map, hk1]; rfl : (n.keys.map Value.string)[k - 1]? = some (.string k1))).trans u0.symm
       subst hlo3
       clear hk1 ha
       have hkb : (k : Int) < (n.keys.length : Int) := by omega
       obtain ⟨k2, hk2⟩ : ∃ x, n.keys[k]? = some x := ⟨_, List.getElem?_eq_getElem hb⟩
       have hhi3 : hi2 = k2 := by rw [← HLK.out.2]; unfold hiI; rw [if_pos hb, List.getD_eq_getElem?_getD, hk2]; rfl
       have u1 := hck k _ (by rw [List.getElem?_map, hk2]; rfl : (n.keys.map Value.string)[k]? = some (.string k2))
       have hu1 := (hck2 k _ (by rw [List.getElem?_map, hk2]; rfl : (n.keys.map Value.string)[k]? = some (.string k2))).trans u1.symm
       subst hhi3
       clear hk2 hb
       clear hck hck2
       go_wp2_with (go_at_call 122; go_loud (refine (HIH.out q (d + 1) lo2 hi2 ((p ++ [⟨n, d, lo, hi⟩]) ++ (List.range k).flatMap f) X' (cb wr.heap.size 33 #[.int .i64 q.1, .int .i64 q.2] :: cb g12 59 #[.bool n.leaf, .int .i64 n.ver, .slice (some ak) n.keys.length kc, .slice (some ar) n.refs.length rc] :: cb w.heap.size 33 #[.int .i64 r.1, .int .i64 r.2] :: B) _ HX.out.1 HA.out HJ5.out HX.out.2.2.1 (by have := HLen.out.2.1; omega) (by have := HLen.out.2.2; omega)).mono ?_; rintro e7 w7 ⟨rfl, X7, hj7, hh⟩; have HJ7 := As hj7; have H7 := As hh; clear hj7 hh))
       go_roundg (n.refs.length - (k + 1))
       case measure => have := HX.out.2.2.2; omega
       case rel => exact ⟨k + 1, X7, by first | rfl | go_num, rfl, HX.out.2.2.2, ⟨by rw [HX.out.2.1, ← List.append_assoc]; exact HJ7.out⟩, ⟨H7.out.drop (by rw [List.cons_append]; exact List.sublist_cons_self _ _)⟩⟩
      ·have hg0 : (0 : Int) < (k : Int) := by omega
       obtain ⟨k1, hk1⟩ : ∃ x, n.keys[k - 1]? = some x := ⟨_, List.getElem?_eq_getElem (by have := HK.out.1; omega)⟩
       have hkl : ((k - 1 : Nat) : Int) < (n.keys.length : Int) := by have := HK.out.1; omega
       have ewk : wrap64 ((k : Int) - 1) = ((k - 1 : Nat) : Int) := by unfold wrap64; omega
       have hlo3 : lo2 = k1 := by rw [← HLK.out.1]; unfold loI; rw [if_pos ha, List.getD_eq_getElem?_getD, hk1]; rfl
       obtain ⟨ak, eak, hck⟩ := (HW.out.rd HR.out.k).2 (by have := HK.out.1; omega)
       obtain ⟨ak2, eak2, hck2⟩ := (HA.out.rd HR.out.k).2 (by have := HK.out.1; omega)
       subst eak
       cases eak2
       have u0 := hck (k - 1) _ (by rw [List.getElem?_map, hk1]; rfl : (n.keys.map Value.string)[k - 1]? = some (.string k1))
       have hu0 := (hck2 (k - 1) _ (by rw [List.getElem?_map, hk1]; rfl : (n.keys.map Value.string)[k - 1]? = some (.string k1))).trans u0.symm
       subst hlo3
       clear hk1 ha
       have hkb : ¬ (k : Int) < (n.keys.length : Int) := by omega
       have hhi3 : hi = hi2 := by rw [← HLK.out.2]; unfold hiI; rw [if_neg hb]
       subst hhi3
       clear hb
       clear hck hck2
       go_wp2_with (go_at_call 122; go_loud (refine (HIH.out q (d + 1) lo2 hi ((p ++ [⟨n, d, lo, hi⟩]) ++ (List.range k).flatMap f) X' (cb wr.heap.size 33 #[.int .i64 q.1, .int .i64 q.2] :: cb g12 59 #[.bool n.leaf, .int .i64 n.ver, .slice (some ak) n.keys.length kc, .slice (some ar) n.refs.length rc] :: cb w.heap.size 33 #[.int .i64 r.1, .int .i64 r.2] :: B) _ HX.out.1 HA.out HJ5.out HX.out.2.2.1 (by have := HLen.out.2.1; omega) (by have := HLen.out.2.2; omega)).mono ?_; rintro e7 w7 ⟨rfl, X7, hj7, hh⟩; have HJ7 := As hj7; have H7 := As hh; clear hj7 hh))
       go_roundg (n.refs.length - (k + 1))
       case measure => have := HX.out.2.2.2; omega
       case rel => exact ⟨k + 1, X7, by first | rfl | go_num, rfl, HX.out.2.2.2, ⟨by rw [HX.out.2.1, ← List.append_assoc]; exact HJ7.out⟩, ⟨H7.out.drop (by rw [List.cons_append]; exact List.sublist_cons_self _ _)⟩⟩
     ·by_cases hb : k < n.keys.length
      ·have hg0 : ¬ (0 : Int) < (k : Int) := by omega
       have hlo3 : lo = lo2 := by rw [← HLK.out.1]; unfold loI; rw [if_neg ha]
       subst hlo3
       clear ha
       have hkb : (k : Int) < (n.keys.length : Int) := by omega
       obtain ⟨k2, hk2⟩ : ∃ x, n.keys[k]? = some x := ⟨_, List.getElem?_eq_getElem hb⟩
       have hhi3 : hi2 = k2 := by rw [← HLK.out.2]; unfold hiI; rw [if_pos hb, List.getD_eq_getElem?_getD, hk2]; rfl
       obtain ⟨ak, eak, hck⟩ := (HW.out.rd HR.out.k).2 (by omega)
       obtain ⟨ak2, eak2, hck2⟩ := (HA.out.rd HR.out.k).2 (by omega)
       subst eak
       cases eak2
       have u1 := hck k _ (by rw [List.getElem?_map, hk2]; rfl : (n.keys.map Value.string)[k]? = some (.string k2))
       have hu1 := (hck2 k _ (by rw [List.getElem?_map, hk2]; rfl : (n.keys.map Value.string)[k]? = some (.string k2))).trans u1.symm
       subst hhi3
       clear hk2 hb
       clear hck hck2
       go_wp2_with (go_at_call 122; go_loud (refine (HIH.out q (d + 1) lo hi2 ((p ++ [⟨n, d, lo, hi⟩]) ++ (List.range k).flatMap f) X' (cb wr.heap.size 33 #[.int .i64 q.1, .int .i64 q.2] :: cb g12 59 #[.bool n.leaf, .int .i64 n.ver, .slice (some ak) n.keys.length kc, .slice (some ar) n.refs.length rc] :: cb w.heap.size 33 #[.int .i64 r.1, .int .i64 r.2] :: B) _ HX.out.1 HA.out HJ5.out HX.out.2.2.1 (by have := HLen.out.2.1; omega) (by have := HLen.out.2.2; omega)).mono ?_; rintro e7 w7 ⟨rfl, X7, hj7, hh⟩; have HJ7 := As hj7; have H7 := As hh; clear hj7 hh))
       go_roundg (n.refs.length - (k + 1))
       case measure => have := HX.out.2.2.2; omega
       case rel => exact ⟨k + 1, X7, by first | rfl | go_num, rfl, HX.out.2.2.2, ⟨by rw [HX.out.2.1, ← List.append_assoc]; exact HJ7.out⟩, ⟨H7.out.drop (by rw [List.cons_append]; exact List.sublist_cons_self _ _)⟩⟩
      ·have hg0 : ¬ (0 : Int) < (k : Int) := by omega
       have hlo3 : lo = lo2 := by rw [← HLK.out.1]; unfold loI; rw [if_neg ha]
       subst hlo3
       clear ha
       have hkb : ¬ (k : Int) < (n.keys.length : Int) := by omega
       have hhi3 : hi = hi2 := by rw [← HLK.out.2]; unfold hiI; rw [if_neg hb]
       subst hhi3
       clear hb
       go_wp2_with (go_at_call 122; go_loud (refine (HIH.out q (d + 1) lo hi ((p ++ [⟨n, d, lo, hi⟩]) ++ (List.range k).flatMap f) X' (cb wr.heap.size 33 #[.int .i64 q.1, .int .i64 q.2] :: cb g12 59 #[.bool n.leaf, .int .i64 n.ver, .slice ka n.keys.length kc, .slice (some ar) n.refs.length rc] :: cb w.heap.size 33 #[.int .i64 r.1, .int .i64 r.2] :: B) _ HX.out.1 HA.out HJ5.out HX.out.2.2.1 (by have := HLen.out.2.1; omega) (by have := HLen.out.2.2; omega)).mono ?_; rintro e7 w7 ⟨rfl, X7, hj7, hh⟩; have HJ7 := As hj7; have H7 := As hh; clear hj7 hh))
       go_roundg (n.refs.length - (k + 1))
       case measure => have := HX.out.2.2.2; omega
       case rel => exact ⟨k + 1, X7, by first | rfl | go_num, rfl, HX.out.2.2.2, ⟨by rw [HX.out.2.1, ← List.append_assoc]; exact HJ7.out⟩, ⟨H7.out.drop (by rw [List.cons_append]; exact List.sublist_cons_self _ _)⟩⟩
    ·have hge : ¬ (k : Int) < (n.refs.length : Int) := by omega
     have hkk : k = n.refs.length := by omega
     have HKK := As hkk
     clear hkk hlt hk
     go_wp2_with fail
     go_end0
     exact ⟨rfl, X', by rw [HV.out.1]; have := HJ5.out; rw [HKK.out] at this; simpa [List.append_assoc] using this, HW.out.drop (by rw [List.cons_append, List.cons_append]; exact (List.sublist_cons_self _ _).trans (List.sublist_cons_self _ _))⟩
  ·clear hcase hd0 hdm
   have HLf := As hlf
   clear hlf
   go_wp2_with ((with_reducible refine gate_clo (x := 20) (xs := #[.tmp 21, .tmp 22, .tmp 23, .tmp 24]) rfl ?_); go_loud (refine list_clo rfl (x := .tmp 20) rfl Try.func123 (by kernel_rfl) rfl #[.pointer (some ⟨gc, 0, none⟩)] rfl #[.agg #[.bool n.leaf, .int .i64 n.ver, .slice ka n.keys.length kc, .slice ra n.refs.length rc], .int .i64 d, .string lo, .string hi, .pointer (some ⟨gc, 0, none⟩)] (by simp only [List.map_toArray, List.map_cons, List.map_nil]; first | rfl | (go_simp; done) | (go_simp; rfl)) ?_; refine (HCB.out _ (cb g12 59 #[.bool n.leaf, .int .i64 n.ver, .slice ka n.keys.length kc, .slice ra n.refs.length rc] :: cb w.heap.size 33 #[.int .i64 r.1, .int .i64 r.2] :: B) X p n d lo hi ka kc ra rc H3.out HJ.out HC.out HP.out HR.out).mono ?_; rintro e4 w4 ⟨rfl, X4, hj4, hh⟩; refine ⟨_, rfl, ?_⟩; have HJ4 := As hj4; have H4 := As hh; clear hj4 hh; clear n0 n1 n2 n3; obtain ⟨n0, n1, n2, n3, -, -, -, -⟩ := H4.out.other.c4 g12 59 (.bool n.leaf) (.int .i64 n.ver) (.slice ka n.keys.length kc) (.slice ra n.refs.length rc) (by simp); rw [HLf.out] at n0))
   refine bodyPost_ret (results_none rfl _ _ _) rfl ?_
   exact ⟨rfl, X4, by rw [visits, HN.out, HLf.out, if_pos rfl]; exact HJ4.out, H4.out.drop (by rw [List.cons_append, List.cons_append]; exact (List.sublist_cons_self _ _).trans (List.sublist_cons_self _ _))⟩
theorem walkC.calls {g3 g4 g5 : Nat} {J : List Vis → List Ob → Prop} {C : Nd.Nd → Prop} {m : Nat} (hCB : ∀ (W : World) (B X : List Ob) (p : List Vis) (n : Nd.Nd) (d : Int) (lo hi : ByteArray) (ka : Option Addr) (kc : Nat) (ra : Option Addr) (rc : Nat), Mt w0 W K t on R (B ++ (X ++ L)) → J p X → C n → p.length < m → NR w0 R n ka kc ra rc → Calls Try.prog 125 #[.agg #[.bool n.leaf, .int .i64 n.ver, .slice ka n.keys.length kc, .slice ra n.refs.length rc], .int .i64 d, .string lo, .string hi, .pointer (some ⟨g5, 0, none⟩), .pointer (some ⟨g3, 0, none⟩), .pointer (some ⟨g4, 0, none⟩)] W fun e w' => e = .returned (.tuple #[]) ∧ ∃ X', J (p ++ [⟨n, d, lo, hi⟩]) X' ∧ Mt w0 w' K t on R (B ++ (X' ++ L))) : ∀ (h : Nat) (r : Rf) (d : Int) (lo hi : ByteArray) (p : List Vis) (X B : List Ob) (w : World), WOk t C h r → Mt w0 w K t on R (B ++ (X ++ L)) → J p X → (p ++ visits t h r d lo hi).length ≤ m → 0 ≤ d → d + h ≤ 1000000 →
  Calls Try.prog 122 #[.pointer (some ⟨K.1, 0, none⟩), .agg #[.int .i64 r.1, .int .i64 r.2], .int .i64 d, .string lo, .string hi, (.func (.func 125) #[] #[.pointer (some ⟨g5, 0, none⟩), .pointer (some ⟨g3, 0, none⟩), .pointer (some ⟨g4, 0, none⟩)])] w fun e w' => e = .returned (.tuple #[]) ∧ ∃ X', J (p ++ visits t h r d lo hi) X' ∧ Mt w0 w' K t on R (B ++ (X' ++ L)) := by
 intro h
 have HCB := As hCB
 clear hCB
 induction h with
 | zero =>
  intro r d lo hi p X B w hok hM hJ hlen hd0 hdm
  have hu59 := Try.underlying59
  have hu33 := Try.underlying33
  have hu31 := Try.underlying31
  have hu57 := Try.underlying57
  obtain ⟨n, hn⟩ : ∃ n, t.at r = n := ⟨_, rfl⟩
  have HM := As (show Mt w0 (w.alloc (.cells #[.int .i64 r.1, .int .i64 r.2] 33)) K t on R ((cb w.heap.size 33 #[.int .i64 r.1, .int .i64 r.2] :: B) ++ (X ++ L)) from hM.alloc (.cells #[.int .i64 r.1, .int .i64 r.2] 33))
  obtain ⟨hlf, hc⟩ := hok
  rw [hn] at hlf hc
  have HN := As hn
  have HC := As hc
  have HJ := As hJ
  have HLf := As hlf
  have HP := As (show p.length < m by rw [List.length_append] at hlen; have : (visits t 0 r d lo hi).length = 1 := rfl; omega)
  clear hM hn hc hJ hlen hd0 hdm hlf
  obtain ⟨y0, y1, -, -⟩ := HM.out.other.c2 w.heap.size 33 (.int .i64 r.1) (.int .i64 r.2) (by simp)
  go_enter Try.func122, Try.ntmps122
  go_upto_region 2 with (go_at_call 111; go_loud (refine (at.calls HM.out r).mono ?_; rintro e2 w2 ⟨v, rfl, hnv, hh⟩; rw [HN.out] at hnv; obtain ⟨ka, kc, ra, rc, ev, hr⟩ := hnv; have ev' : v = .agg #[.bool n.leaf, .int .i64 n.ver, .slice ka n.keys.length kc, .slice ra n.refs.length rc] := ev; subst ev'; clear ev; have HR := As hr; have H2 := As hh; clear hh hr))
  obtain ⟨W3, hW, hM⟩ : ∃ W, W = _ ∧ Mt w0 W K t on R ((cb w2.heap.size 59 #[.bool n.leaf, .int .i64 n.ver, .slice ka n.keys.length kc, .slice ra n.refs.length rc] :: cb w.heap.size 33 #[.int .i64 r.1, .int .i64 r.2] :: B) ++ (X ++ L)) := ⟨_, rfl, H2.out.alloc _⟩
  rw [← hW]
  have H3 := As hM
  clear hW hM y0 y1
  generalize w2.heap.size = g12 at H3 ⊢
  obtain ⟨n0, n1, n2, n3, -, -, -, -⟩ := H3.out.other.c4 g12 59 (.bool n.leaf) (.int .i64 n.ver) (.slice ka n.keys.length kc) (.slice ra n.refs.length rc) (by simp)
  go_wp2_with ((with_reducible refine gate_clo (x := 20) (xs := #[.tmp 21, .tmp 22, .tmp 23, .tmp 24]) rfl ?_); go_loud (refine list_clo rfl (x := .tmp 20) rfl Try.func125 (by kernel_rfl) rfl #[.pointer (some ⟨g5, 0, none⟩), .pointer (some ⟨g3, 0, none⟩), .pointer (some ⟨g4, 0, none⟩)] rfl #[.agg #[.bool n.leaf, .int .i64 n.ver, .slice ka n.keys.length kc, .slice ra n.refs.length rc], .int .i64 d, .string lo, .string hi, .pointer (some ⟨g5, 0, none⟩), .pointer (some ⟨g3, 0, none⟩), .pointer (some ⟨g4, 0, none⟩)] (by simp only [List.map_toArray, List.map_cons, List.map_nil]; first | rfl | (go_simp; done) | (go_simp; rfl)) ?_; refine (HCB.out _ (cb g12 59 #[.bool n.leaf, .int .i64 n.ver, .slice ka n.keys.length kc, .slice ra n.refs.length rc] :: cb w.heap.size 33 #[.int .i64 r.1, .int .i64 r.2] :: B) X p n d lo hi ka kc ra rc H3.out HJ.out HC.out HP.out HR.out).mono ?_; rintro e4 w4 ⟨rfl, X4, hj4, hh⟩; refine ⟨_, rfl, ?_⟩; have HJ4 := As hj4; have H4 := As hh; clear hj4 hh; clear n0 n1 n2 n3; obtain ⟨n0, n1, n2, n3, -, -, -, -⟩ := H4.out.other.c4 g12 59 (.bool n.leaf) (.int .i64 n.ver) (.slice ka n.keys.length kc) (.slice ra n.refs.length rc) (by simp); rw [HLf.out] at n0))
  refine bodyPost_ret (results_none rfl _ _ _) rfl ?_
  exact ⟨rfl, X4, by unfold visits; rw [HN.out]; exact HJ4.out, H4.out.drop (by rw [List.cons_append, List.cons_append]; exact (List.sublist_cons_self _ _).trans (List.sublist_cons_self _ _))⟩
 | succ h ih =>
  intro r d lo hi p X B w hok hM hJ hlen hd0 hdm
  have hu59 := Try.underlying59
  have hu33 := Try.underlying33
  have hu31 := Try.underlying31
  have hu57 := Try.underlying57
  obtain ⟨n, hn⟩ : ∃ n, t.at r = n := ⟨_, rfl⟩
  have HM := As (show Mt w0 (w.alloc (.cells #[.int .i64 r.1, .int .i64 r.2] 33)) K t on R ((cb w.heap.size 33 #[.int .i64 r.1, .int .i64 r.2] :: B) ++ (X ++ L)) from hM.alloc (.cells #[.int .i64 r.1, .int .i64 r.2] 33))
  obtain ⟨hc, hcase⟩ := hok
  rw [hn] at hc hcase
  have HN := As hn
  have HC := As hc
  have HJ := As hJ
  have HIH := As ih
  have HP := As (show p.length < m by rw [List.length_append] at hlen; unfold visits at hlen; rw [List.length_cons] at hlen; omega)
  have HLen := As (And.intro hlen (And.intro hd0 hdm))
  clear hM hc hJ hlen hn ih
  obtain ⟨y0, y1, -, -⟩ := HM.out.other.c2 w.heap.size 33 (.int .i64 r.1) (.int .i64 r.2) (by simp)
  go_enter Try.func122, Try.ntmps122
  go_upto_region 2 with (go_at_call 111; go_loud (refine (at.calls HM.out r).mono ?_; rintro e2 w2 ⟨v, rfl, hnv, hh⟩; rw [HN.out] at hnv; obtain ⟨ka, kc, ra, rc, ev, hr⟩ := hnv; have ev' : v = .agg #[.bool n.leaf, .int .i64 n.ver, .slice ka n.keys.length kc, .slice ra n.refs.length rc] := ev; subst ev'; clear ev; have HR := As hr; have H2 := As hh; clear hh hr))
  obtain ⟨W3, hW, hM⟩ : ∃ W, W = _ ∧ Mt w0 W K t on R ((cb w2.heap.size 59 #[.bool n.leaf, .int .i64 n.ver, .slice ka n.keys.length kc, .slice ra n.refs.length rc] :: cb w.heap.size 33 #[.int .i64 r.1, .int .i64 r.2] :: B) ++ (X ++ L)) := ⟨_, rfl, H2.out.alloc _⟩
  rw [← hW]
  have H3 := As hM
  clear hW hM y0 y1
  generalize w2.heap.size = g12 at H3 ⊢
  obtain ⟨n0, n1, n2, n3, -, -, -, -⟩ := H3.out.other.c4 g12 59 (.bool n.leaf) (.int .i64 n.ver) (.slice ka n.keys.length kc) (.slice ra n.refs.length rc) (by simp)
  rcases (Bool.eq_false_or_eq_true n.leaf).symm with hlf | hlf
  ·have hcase2 : n.refs.length ≤ n.keys.length + 1 ∧ n.refs.length ≤ 1000000 ∧ ∀ x ∈ n.refs, WOk t C h x := hcase.elim (fun e => by rw [hlf] at e; cases e) id
   have HK := As hcase2
   clear hcase hcase2
   obtain ⟨f, hf⟩ : ∃ f : Nat → List Vis, f = fun i => visits t h (refI n i) (d + 1) (loI n lo i) (hiI n hi i) := ⟨_, rfl⟩
   have hvis : visits t (h + 1) r d lo hi = ⟨n, d, lo, hi⟩ :: (List.range n.refs.length).flatMap f := by rw [visits, HN.out, hlf, hf]; rfl
   have ewd : wrap64 (d + 1) = d + 1 := by unfold wrap64; omega
   have HV := As (And.intro hvis (And.intro hf hlf))
   clear hvis hf hd0 hdm hlf
   go_wp2_with ((with_reducible refine gate_clo (x := 20) (xs := #[.tmp 21, .tmp 22, .tmp 23, .tmp 24]) rfl ?_); go_loud (refine list_clo rfl (x := .tmp 20) rfl Try.func125 (by kernel_rfl) rfl #[.pointer (some ⟨g5, 0, none⟩), .pointer (some ⟨g3, 0, none⟩), .pointer (some ⟨g4, 0, none⟩)] rfl #[.agg #[.bool n.leaf, .int .i64 n.ver, .slice ka n.keys.length kc, .slice ra n.refs.length rc], .int .i64 d, .string lo, .string hi, .pointer (some ⟨g5, 0, none⟩), .pointer (some ⟨g3, 0, none⟩), .pointer (some ⟨g4, 0, none⟩)] (by simp only [List.map_toArray, List.map_cons, List.map_nil]; first | rfl | (go_simp; done) | (go_simp; rfl)) ?_; refine (HCB.out _ (cb g12 59 #[.bool n.leaf, .int .i64 n.ver, .slice ka n.keys.length kc, .slice ra n.refs.length rc] :: cb w.heap.size 33 #[.int .i64 r.1, .int .i64 r.2] :: B) X p n d lo hi ka kc ra rc H3.out HJ.out HC.out HP.out HR.out).mono ?_; rintro e4 w4 ⟨rfl, X4, hj4, hh⟩; refine ⟨_, rfl, ?_⟩; have HJ4 := As hj4; have H4 := As hh; clear hj4 hh; clear n0 n1 n2 n3; obtain ⟨n0, n1, n2, n3, -, -, -, -⟩ := H4.out.other.c4 g12 59 (.bool n.leaf) (.int .i64 n.ver) (.slice ka n.keys.length kc) (.slice ra n.refs.length rc) (by simp); rw [HV.out.2.2] at n0))
   clear n0 n1 n2 n3
   go_loopg [31] n.refs.length (fun kq v31 wr => ∃ (k : Nat) (X' : List Ob), v31 = .int .i64 (k : Int) ∧ kq = n.refs.length - k ∧ k ≤ n.refs.length ∧ Aside0 (J ((p ++ [⟨n, d, lo, hi⟩]) ++ (List.range k).flatMap f) X') ∧ Aside0 (Mt w0 wr K t on R ((cb g12 59 #[.bool n.leaf, .int .i64 n.ver, .slice ka n.keys.length kc, .slice ra n.refs.length rc] :: cb w.heap.size 33 #[.int .i64 r.1, .int .i64 r.2] :: B) ++ (X' ++ L))))
   case atStart => exact ⟨0, X4, rfl, rfl, Nat.zero_le _, ⟨by simpa using HJ4.out⟩, H4⟩
   case round =>
    clear HM HJ4 H4 H3 H2
    obtain ⟨k, X', rfl, rfl, hk, HJ5, HW⟩ := hrel
    by_cases hlt : k < n.refs.length
    ·have hlt2 : (k : Int) < (n.refs.length : Int) := by omega
     have hk7 : k < 1000000 := by have := HK.out.2.1; omega
     have ew : IntKind.i64.wrap ((k : Int) + 1) = ((k + 1 : Nat) : Int) := by rw [IntKind.wrap_i64]; omega
     have ew' : wrap64 ((k : Int) + 1) = ((k + 1 : Nat) : Int) := by unfold wrap64; omega
     obtain ⟨q, hq⟩ : ∃ q, n.refs[k]? = some q := ⟨_, List.getElem?_eq_getElem hlt⟩
     have hqi : refI n k = q := by unfold refI; rw [List.getD_eq_getElem?_getD, hq]; rfl
     obtain ⟨n0, n1, n2, n3, -, -, -, -⟩ := HW.out.other.c4 g12 59 (.bool n.leaf) (.int .i64 n.ver) (.slice ka n.keys.length kc) (.slice ra n.refs.length rc) (by simp)
     rw [HV.out.2.2] at n0
     obtain ⟨ar, ear, hcr⟩ := (HW.out.rd HR.out.r).2 (by omega)
     subst ear
     obtain ⟨s0, s1⟩ := rcel_get n.refs k q hq
     have v0 := hcr _ _ s0
     have v1' := hcr _ _ s1
     rw [← Addr.add_add] at v1'
     have v1 : wr.cell? { block := (ar.add (k * 2)).block, off := (ar.add (k * 2)).off + 1 } = some (.int .i64 q.2) := v1'
     obtain ⟨lo2, hlo2⟩ : ∃ z, loI n lo k = z := ⟨_, rfl⟩
     obtain ⟨hi2, hhi2⟩ : ∃ z, hiI n hi k = z := ⟨_, rfl⟩
     have hfk : f k = visits t h q (d + 1) lo2 hi2 := by rw [HV.out.2.1, ← hqi, ← hlo2, ← hhi2]
     have hrk : (List.range (k + 1)).flatMap f = (List.range k).flatMap f ++ visits t h q (d + 1) lo2 hi2 := by rw [List.range_succ, List.flatMap_append, ← hfk]; simp
     have hlen2 : (((p ++ [(⟨n, d, lo, hi⟩ : Vis)]) ++ (List.range k).flatMap f) ++ visits t h q (d + 1) lo2 hi2).length ≤ m := by
      have h1 := HLen.out.1
      rw [HV.out.1] at h1
      have h2 : ((List.range (k + 1)).flatMap f).length ≤ ((List.range n.refs.length).flatMap f).length := by
       obtain ⟨j, hj⟩ : ∃ j, n.refs.length = k + 1 + j := ⟨n.refs.length - (k + 1), by omega⟩
       rw [hj, show List.range (k + 1 + j) = _ from List.range_add, List.flatMap_append, List.length_append]
       omega
      rw [hrk] at h2
      simp only [List.length_append, List.length_cons, List.length_nil] at h1 h2 ⊢
      omega
     have HX := As (And.intro (HK.out.2.2 q (List.mem_of_getElem? hq)) (And.intro hrk (And.intro hlen2 hlt)))
     have HLK := As (And.intro hlo2 hhi2)
     have HA := As (HW.out.alloc (.cells #[.int .i64 q.1, .int .i64 q.2] 33))
     obtain ⟨-, -, m2, -, -, -, -, -⟩ := HA.out.other.c4 g12 59 (.bool n.leaf) (.int .i64 n.ver) (.slice ka n.keys.length kc) (.slice (some ar) n.refs.length rc) (by simp)
     have hm2 := m2.trans n2.symm
     clear m2
     clear hq hqi hcr s0 s1 v1' hfk hrk hlen2 hlo2 hhi2
     by_cases ha : 0 < k
     ·by_cases hb : k < n.keys.length
      ·have hg0 : (0 : Int) < (k : Int) := by omega
       obtain ⟨k1, hk1⟩ : ∃ x, n.keys[k - 1]? = some x := ⟨_, List.getElem?_eq_getElem (by have := HK.out.1; omega)⟩
       have hkl : ((k - 1 : Nat) : Int) < (n.keys.length : Int) := by have := HK.out.1; omega
       have ewk : wrap64 ((k : Int) - 1) = ((k - 1 : Nat) : Int) := by unfold wrap64; omega
       have hlo3 : lo2 = k1 := by rw [← HLK.out.1]; unfold loI; rw [if_pos ha, List.getD_eq_getElem?_getD, hk1]; rfl
       obtain ⟨ak, eak, hck⟩ := (HW.out.rd HR.out.k).2 (by have := HK.out.1; omega)
       obtain ⟨ak2, eak2, hck2⟩ := (HA.out.rd HR.out.k).2 (by have := HK.out.1; omega)
       subst eak
       cases eak2
       have u0 := hck (k - 1) _ (by rw [List.getElem?_map, hk1]; rfl : (n.keys.map Value.string)[k - 1]? = some (.string k1))
       have hu0 := (hck2 (k - 1) _ (by rw [List.getElem?_map, hk1]; rfl : (n.keys.map Value.string)[k - 1]? = some (.string k1))).trans u0.symm
       subst hlo3
       clear hk1 ha
       have hkb : (k : Int) < (n.keys.length : Int) := by omega
       obtain ⟨k2, hk2⟩ : ∃ x, n.keys[k]? = some x := ⟨_, List.getElem?_eq_getElem hb⟩
       have hhi3 : hi2 = k2 := by rw [← HLK.out.2]; unfold hiI; rw [if_pos hb, List.getD_eq_getElem?_getD, hk2]; rfl
       have u1 := hck k _ (by rw [List.getElem?_map, hk2]; rfl : (n.keys.map Value.string)[k]? = some (.string k2))
       have hu1 := (hck2 k _ (by rw [List.getElem?_map, hk2]; rfl : (n.keys.map Value.string)[k]? = some (.string k2))).trans u1.symm
       subst hhi3
       clear hk2 hb
       clear hck hck2
       go_wp2_with (go_at_call 122; go_loud (refine (HIH.out q (d + 1) lo2 hi2 ((p ++ [⟨n, d, lo, hi⟩]) ++ (List.range k).flatMap f) X' (cb wr.heap.size 33 #[.int .i64 q.1, .int .i64 q.2] :: cb g12 59 #[.bool n.leaf, .int .i64 n.ver, .slice (some ak) n.keys.length kc, .slice (some ar) n.refs.length rc] :: cb w.heap.size 33 #[.int .i64 r.1, .int .i64 r.2] :: B) _ HX.out.1 HA.out HJ5.out HX.out.2.2.1 (by have := HLen.out.2.1; omega) (by have := HLen.out.2.2; omega)).mono ?_; rintro e7 w7 ⟨rfl, X7, hj7, hh⟩; have HJ7 := As hj7; have H7 := As hh; clear hj7 hh))
       go_roundg (n.refs.length - (k + 1))
       case measure => have := HX.out.2.2.2; omega
       case rel => exact ⟨k + 1, X7, by first | rfl | go_num, rfl, HX.out.2.2.2, ⟨by rw [HX.out.2.1, ← List.append_assoc]; exact HJ7.out⟩, ⟨H7.out.drop (by rw [List.cons_append]; exact List.sublist_cons_self _ _)⟩⟩
      ·have hg0 : (0 : Int) < (k : Int) := by omega
       obtain ⟨k1, hk1⟩ : ∃ x, n.keys[k - 1]? = some x := ⟨_, List.getElem?_eq_getElem (by have := HK.out.1; omega)⟩
       have hkl : ((k - 1 : Nat) : Int) < (n.keys.length : Int) := by have := HK.out.1; omega
       have ewk : wrap64 ((k : Int) - 1) = ((k - 1 : Nat) : Int) := by unfold wrap64; omega
       have hlo3 : lo2 = k1 := by rw [← HLK.out.1]; unfold loI; rw [if_pos ha, List.getD_eq_getElem?_getD, hk1]; rfl
       obtain ⟨ak, eak, hck⟩ := (HW.out.rd HR.out.k).2 (by have := HK.out.1; omega)
       obtain ⟨ak2, eak2, hck2⟩ := (HA.out.rd HR.out.k).2 (by have := HK.out.1; omega)
       subst eak
       cases eak2
       have u0 := hck (k - 1) _ (by rw [List.getElem?_map, hk1]; rfl : (n.keys.map Value.string)[k - 1]? = some (.string k1))
       have hu0 := (hck2 (k - 1) _ (by rw [List.getElem?_map, hk1]; rfl : (n.keys.map Value.string)[k - 1]? = some (.string k1))).trans u0.symm
       subst hlo3
       clear hk1 ha
       have hkb : ¬ (k : Int) < (n.keys.length : Int) := by omega
       have hhi3 : hi = hi2 := by rw [← HLK.out.2]; unfold hiI; rw [if_neg hb]
       subst hhi3
       clear hb
       clear hck hck2
       go_wp2_with (go_at_call 122; go_loud (refine (HIH.out q (d + 1) lo2 hi ((p ++ [⟨n, d, lo, hi⟩]) ++ (List.range k).flatMap f) X' (cb wr.heap.size 33 #[.int .i64 q.1, .int .i64 q.2] :: cb g12 59 #[.bool n.leaf, .int .i64 n.ver, .slice (some ak) n.keys.length kc, .slice (some ar) n.refs.length rc] :: cb w.heap.size 33 #[.int .i64 r.1, .int .i64 r.2] :: B) _ HX.out.1 HA.out HJ5.out HX.out.2.2.1 (by have := HLen.out.2.1; omega) (by have := HLen.out.2.2; omega)).mono ?_; rintro e7 w7 ⟨rfl, X7, hj7, hh⟩; have HJ7 := As hj7; have H7 := As hh; clear hj7 hh))
       go_roundg (n.refs.length - (k + 1))
       case measure => have := HX.out.2.2.2; omega
       case rel => exact ⟨k + 1, X7, by first | rfl | go_num, rfl, HX.out.2.2.2, ⟨by rw [HX.out.2.1, ← List.append_assoc]; exact HJ7.out⟩, ⟨H7.out.drop (by rw [List.cons_append]; exact List.sublist_cons_self _ _)⟩⟩
     ·by_cases hb : k < n.keys.length
      ·have hg0 : ¬ (0 : Int) < (k : Int) := by omega
       have hlo3 : lo = lo2 := by rw [← HLK.out.1]; unfold loI; rw [if_neg ha]
       subst hlo3
       clear ha
       have hkb : (k : Int) < (n.keys.length : Int) := by omega
       obtain ⟨k2, hk2⟩ : ∃ x, n.keys[k]? = some x := ⟨_, List.getElem?_eq_getElem hb⟩
       have hhi3 : hi2 = k2 := by rw [← HLK.out.2]; unfold hiI; rw [if_pos hb, List.getD_eq_getElem?_getD, hk2]; rfl
       obtain ⟨ak, eak, hck⟩ := (HW.out.rd HR.out.k).2 (by omega)
       obtain ⟨ak2, eak2, hck2⟩ := (HA.out.rd HR.out.k).2 (by omega)
       subst eak
       cases eak2
       have u1 := hck k _ (by rw [List.getElem?_map, hk2]; rfl : (n.keys.map Value.string)[k]? = some (.string k2))
       have hu1 := (hck2 k _ (by rw [List.getElem?_map, hk2]; rfl : (n.keys.map Value.string)[k]? = some (.string k2))).trans u1.symm
       subst hhi3
       clear hk2 hb
       clear hck hck2
       go_wp2_with (go_at_call 122; go_loud (refine (HIH.out q (d + 1) lo hi2 ((p ++ [⟨n, d, lo, hi⟩]) ++ (List.range k).flatMap f) X' (cb wr.heap.size 33 #[.int .i64 q.1, .int .i64 q.2] :: cb g12 59 #[.bool n.leaf, .int .i64 n.ver, .slice (some ak) n.keys.length kc, .slice (some ar) n.refs.length rc] :: cb w.heap.size 33 #[.int .i64 r.1, .int .i64 r.2] :: B) _ HX.out.1 HA.out HJ5.out HX.out.2.2.1 (by have := HLen.out.2.1; omega) (by have := HLen.out.2.2; omega)).mono ?_; rintro e7 w7 ⟨rfl, X7, hj7, hh⟩; have HJ7 := As hj7; have H7 := As hh; clear hj7 hh))
       go_roundg (n.refs.length - (k + 1))
       case measure => have := HX.out.2.2.2; omega
       case rel => exact ⟨k + 1, X7, by first | rfl | go_num, rfl, HX.out.2.2.2, ⟨by rw [HX.out.2.1, ← List.append_assoc]; exact HJ7.out⟩, ⟨H7.out.drop (by rw [List.cons_append]; exact List.sublist_cons_self _ _)⟩⟩
      ·have hg0 : ¬ (0 : Int) < (k : Int) := by omega
       have hlo3 : lo = lo2 := by rw [← HLK.out.1]; unfold loI; rw [if_neg ha]
       subst hlo3
       clear ha
       have hkb : ¬ (k : Int) < (n.keys.length : Int) := by omega
       have hhi3 : hi = hi2 := by rw [← HLK.out.2]; unfold hiI; rw [if_neg hb]
       subst hhi3
       clear hb
       go_wp2_with (go_at_call 122; go_loud (refine (HIH.out q (d + 1) lo hi ((p ++ [⟨n, d, lo, hi⟩]) ++ (List.range k).flatMap f) X' (cb wr.heap.size 33 #[.int .i64 q.1, .int .i64 q.2] :: cb g12 59 #[.bool n.leaf, .int .i64 n.ver, .slice ka n.keys.length kc, .slice (some ar) n.refs.length rc] :: cb w.heap.size 33 #[.int .i64 r.1, .int .i64 r.2] :: B) _ HX.out.1 HA.out HJ5.out HX.out.2.2.1 (by have := HLen.out.2.1; omega) (by have := HLen.out.2.2; omega)).mono ?_; rintro e7 w7 ⟨rfl, X7, hj7, hh⟩; have HJ7 := As hj7; have H7 := As hh; clear hj7 hh))
       go_roundg (n.refs.length - (k + 1))
       case measure => have := HX.out.2.2.2; omega
       case rel => exact ⟨k + 1, X7, by first | rfl | go_num, rfl, HX.out.2.2.2, ⟨by rw [HX.out.2.1, ← List.append_assoc]; exact HJ7.out⟩, ⟨H7.out.drop (by rw [List.cons_append]; exact List.sublist_cons_self _ _)⟩⟩
    ·have hge : ¬ (k : Int) < (n.refs.length : Int) := by omega
     have hkk : k = n.refs.length := by omega
     have HKK := As hkk
     clear hkk hlt hk
     go_wp2_with fail
     go_end0
     exact ⟨rfl, X', by rw [HV.out.1]; have := HJ5.out; rw [HKK.out] at this; simpa [List.append_assoc] using this, HW.out.drop (by rw [List.cons_append, List.cons_append]; exact (List.sublist_cons_self _ _).trans (List.sublist_cons_self _ _))⟩
  ·clear hcase hd0 hdm
   have HLf := As hlf
   clear hlf
   go_wp2_with ((with_reducible refine gate_clo (x := 20) (xs := #[.tmp 21, .tmp 22, .tmp 23, .tmp 24]) rfl ?_); go_loud (refine list_clo rfl (x := .tmp 20) rfl Try.func125 (by kernel_rfl) rfl #[.pointer (some ⟨g5, 0, none⟩), .pointer (some ⟨g3, 0, none⟩), .pointer (some ⟨g4, 0, none⟩)] rfl #[.agg #[.bool n.leaf, .int .i64 n.ver, .slice ka n.keys.length kc, .slice ra n.refs.length rc], .int .i64 d, .string lo, .string hi, .pointer (some ⟨g5, 0, none⟩), .pointer (some ⟨g3, 0, none⟩), .pointer (some ⟨g4, 0, none⟩)] (by simp only [List.map_toArray, List.map_cons, List.map_nil]; first | rfl | (go_simp; done) | (go_simp; rfl)) ?_; refine (HCB.out _ (cb g12 59 #[.bool n.leaf, .int .i64 n.ver, .slice ka n.keys.length kc, .slice ra n.refs.length rc] :: cb w.heap.size 33 #[.int .i64 r.1, .int .i64 r.2] :: B) X p n d lo hi ka kc ra rc H3.out HJ.out HC.out HP.out HR.out).mono ?_; rintro e4 w4 ⟨rfl, X4, hj4, hh⟩; refine ⟨_, rfl, ?_⟩; have HJ4 := As hj4; have H4 := As hh; clear hj4 hh; clear n0 n1 n2 n3; obtain ⟨n0, n1, n2, n3, -, -, -, -⟩ := H4.out.other.c4 g12 59 (.bool n.leaf) (.int .i64 n.ver) (.slice ka n.keys.length kc) (.slice ra n.refs.length rc) (by simp); rw [HLf.out] at n0))
   refine bodyPost_ret (results_none rfl _ _ _) rfl ?_
   exact ⟨rfl, X4, by rw [visits, HN.out, HLf.out, if_pos rfl]; exact HJ4.out, H4.out.drop (by rw [List.cons_append, List.cons_append]; exact (List.sublist_cons_self _ _).trans (List.sublist_cons_self _ _))⟩
end
section
variable {w0 w w1 : World} {L L' R : List Ob} {K : Nat × Nat × Nat} {t : Tm} {on : Value}
def visN (n : Nd.Nd) : List It := if n.leaf then itemsOf n else []
def visI (v : Vis) : List It := visN v.n
def CI (n : Nd.Nd) : Prop := n.leaf = true → n.keys.length = n.refs.length ∧ n.keys.length ≤ 4
def JI (g : Nat) (p : List Vis) (X : List Ob) : Prop := (∀ v ∈ p, CI v.n) ∧ ∃ ad c A, X = cb g 89 #[.slice ad (p.flatMap visI).length c] :: A ∧ Gr 104 3 (.slice ad (p.flatMap visI).length c) (p.flatMap visI).length ((p.flatMap visI).flatMap icel) A
theorem visI_len (v : Vis) (h : CI v.n) : (visI v).length ≤ 4 := by
 unfold visI visN
 split
 ·rename_i e
  obtain ⟨h1, h2⟩ := h e
  simp [itemsOf]
  omega
 ·simp
theorem visI_all : ∀ (p : List Vis), (∀ v ∈ p, CI v.n) → (p.flatMap visI).length ≤ 4 * p.length
 | [], _ => by simp
 | v :: p, h => by
  have h1 := visI_len v (h v (by simp))
  have h2 := visI_all p (fun x hx => h x (by simp [hx]))
  rw [List.flatMap_cons, List.length_append, List.length_cons]
  omega
theorem icel_one (l : List It) : ∀ u ∈ l.flatMap icel, u.oneCell' = true := by
 intro u hu
 obtain ⟨x, _, hx⟩ := List.mem_flatMap.1 hu
 simp only [icel, List.mem_cons, List.not_mem_nil, or_false] at hx
 rcases hx with rfl | rfl | rfl <;> rfl
theorem items1.calls {g : Nat} {A Q : List Ob} {l : List It} {ad : Option Addr} {c : Nat} (hl : l.length ≤ 900000) (hG : Gr 104 3 (.slice ad l.length c) l.length (l.flatMap icel) A) (hv : Hv w0 w (cb g 89 #[.slice ad l.length c] :: (A ++ Q))) (hRQ : ∀ p ∈ R, p ∈ Q) {n : Nd.Nd} {ka : Option Addr} {kc : Nat} {ra : Option Addr} {rc : Nat} (hn : NR w0 R n ka kc ra rc) (hc : CI n) (d : Int) (lo hi : ByteArray) :
  Calls Try.prog 123 #[.agg #[.bool n.leaf, .int .i64 n.ver, .slice ka n.keys.length kc, .slice ra n.refs.length rc], .int .i64 d, .string lo, .string hi, .pointer (some ⟨g, 0, none⟩)] w fun e w' => e = .returned (.tuple #[]) ∧ ∃ ad' c' A', Gr 104 3 (.slice ad' (l ++ visN n).length c') (l ++ visN n).length ((l ++ visN n).flatMap icel) A' ∧ Hv w0 w' (cb g 89 #[.slice ad' (l ++ visN n).length c'] :: (A' ++ Q)) := by
 have hu59 := Try.underlying59
 have hu57 := Try.underlying57
 have hu31 := Try.underlying31
 have hu89 := Try.underlying89
 have HV := As (show Hv w0 (w.alloc (.cells #[.bool n.leaf, .int .i64 n.ver, .slice ka n.keys.length kc, .slice ra n.refs.length rc] 59)) (cb w.heap.size 59 #[.bool n.leaf, .int .i64 n.ver, .slice ka n.keys.length kc, .slice ra n.refs.length rc] :: cb g 89 #[.slice ad l.length c] :: (A ++ Q)) from hv.alloc _)
 have HG := As hG
 have HN := As (And.intro hn (And.intro hRQ (And.intro hc hl)))
 obtain ⟨y0, y1, y2, y3, -, -, -, -⟩ := HV.out.c4 w.heap.size 59 (.bool n.leaf) (.int .i64 n.ver) (.slice ka n.keys.length kc) (.slice ra n.refs.length rc) (by simp)
 clear hn hRQ hc hl hv hG
 go_enter Try.func123, Try.ntmps123
 go_upto_region 2 with (fail)
 ·rename_i hlf
  have HLf := As hlf
  have hvn : visN n = itemsOf n := by unfold visN; rw [if_pos hlf]
  have HVn := As hvn
  clear hlf hvn
  clear y0 y1 y2 y3
  have HD := As HV.out.drew
  have SP := As (show ∀ (w' : World) (L' : List Ob), Hv w0 w' L' → cb w.heap.size 59 #[.bool n.leaf, .int .i64 n.ver, .slice ka n.keys.length kc, .slice ra n.refs.length rc] ∈ L' → cb g 89 #[.slice ad l.length c] ∈ L' → (w'.cell? ⟨g, 0, none⟩ = some (.slice ad l.length c) ∧ w'.cell? ⟨w.heap.size, 0, none⟩ = some (.bool n.leaf) ∧ w'.cell? ⟨w.heap.size, 1, none⟩ = some (.int .i64 n.ver) ∧ w'.cell? ⟨w.heap.size, 2, none⟩ = some (.slice ka n.keys.length kc) ∧ w'.cell? ⟨w.heap.size, 3, none⟩ = some (.slice ra n.refs.length rc)) from fun w' L' h m1 m2 => by
   obtain ⟨n0, n1, n2, n3, -, -, -, -⟩ := h.c4 _ _ _ _ _ _ m1
   obtain ⟨s0, -⟩ := h.c1 _ _ _ m2
   exact ⟨s0, n0, n1, n2, n3⟩)
  generalize hW1 : w.alloc (.cells #[.bool n.leaf, .int .i64 n.ver, .slice ka n.keys.length kc, .slice ra n.refs.length rc] 59) = W1 at HD HV ⊢
  clear hW1
  refine start_ (n := 5) (S := fun w' => w'.cell? ⟨g, 0, none⟩ = some (.slice ad l.length c) ∧ w'.cell? ⟨w.heap.size, 0, none⟩ = some (.bool n.leaf) ∧ w'.cell? ⟨w.heap.size, 1, none⟩ = some (.int .i64 n.ver) ∧ w'.cell? ⟨w.heap.size, 2, none⟩ = some (.slice ka n.keys.length kc) ∧ w'.cell? ⟨w.heap.size, 3, none⟩ = some (.slice ra n.refs.length rc)) (ds := [4]) #[false, false, false, false, false] (by kernel_rfl) rfl rfl (SP.out _ _ HD.out (by simp) (by simp)) (fun hHeld => ?_)
  generalize W1.drew = wr0 at HD hHeld ⊢
  refine ta_ 0 (some 11) hHeld ?_ (hy := Or.inl ⟨by rfl, by rintro w' ⟨s0, s1, s2, s3, s4⟩; go_simp; with_reducible rfl⟩)
  refine ta_ 1 (some 12) hHeld ?_ (hy := Or.inl ⟨by rfl, by rintro w' ⟨s0, s1, s2, s3, s4⟩; go_simp; with_reducible rfl⟩)
  refine on_ 2 (some 13) fun K_ hK => ?_
  refine gs_ Try.func124 #[.agg #[.bool n.leaf, .int .i64 n.ver, .slice ka n.keys.length kc, .slice ra n.refs.length rc]] ?_
  obtain ⟨hs1, hs2⟩ := HN.out.2.2.1 HLf.out
  refine (items.calls (w0 := w0) (R := R) HD.out (fun z hz => by simp [HN.out.2.1 z hz]) ⟨ka, kc, ra, rc, rfl, HN.out.1⟩ hs1 (by omega)).mono ?_
  rintro e2 w2 ⟨ad2, c2, A2, rfl, hG2, hv2⟩
  refine ⟨_, rfl, ?_⟩
  have HG2 := As hG2
  have H2 := As hv2
  clear hG2 hv2 hs1 hs2
  refine hK.out _ _ (SP.out _ _ H2.out (by simp) (by simp)) (fun hHeld => ?_)
  clear hK K_
  refine nm_ ?_
  refine on_ 3 (some 14) fun K_ hK => ?_
  have hq : Hv w0 w2 (A ++ (A2 ++ (cb w.heap.size 59 #[.bool n.leaf, .int .i64 n.ver, .slice ka n.keys.length kc, .slice ra n.refs.length rc] :: cb g 89 #[.slice ad l.length c] :: Q))) := by
   refine H2.out.perm ?_
   have p1 : (A ++ (A2 ++ ([cb w.heap.size 59 #[.bool n.leaf, .int .i64 n.ver, .slice ka n.keys.length kc, .slice ra n.refs.length rc], cb g 89 #[.slice ad l.length c]] ++ Q))).Perm (A2 ++ (A ++ ([cb w.heap.size 59 #[.bool n.leaf, .int .i64 n.ver, .slice ka n.keys.length kc, .slice ra n.refs.length rc], cb g 89 #[.slice ad l.length c]] ++ Q))) := by
    rw [← List.append_assoc, ← List.append_assoc A2]
    exact List.Perm.append_right _ List.perm_append_comm
   have p2 : (A ++ ([cb w.heap.size 59 #[.bool n.leaf, .int .i64 n.ver, .slice ka n.keys.length kc, .slice ra n.refs.length rc], cb g 89 #[.slice ad l.length c]] ++ Q)).Perm ([cb w.heap.size 59 #[.bool n.leaf, .int .i64 n.ver, .slice ka n.keys.length kc, .slice ra n.refs.length rc], cb g 89 #[.slice ad l.length c]] ++ (A ++ Q)) := by
    rw [← List.append_assoc, ← List.append_assoc]
    exact List.Perm.append_right _ List.perm_append_comm
   exact p1.trans (List.Perm.append_left _ p2)
  have hil : (itemsOf n).length ≤ 4 := by have h4 := HN.out.2.2.1 HLf.out; simp [itemsOf]; omega
  refine append_rows_step (w0 := w0) (A := A) (L := A2 ++ (cb w.heap.size 59 #[.bool n.leaf, .int .i64 n.ver, .slice ka n.keys.length kc, .slice ra n.refs.length rc] :: cb g 89 #[.slice ad l.length c] :: Q)) (by rfl) (.tmp 11) (.tmp 13) 89 104 (.agg #[.string ⟨#[]⟩, .int .i64 0, .int .i64 0]) 3 32 rfl Try.underlying89 infoI rfl (by decide) (by decide) (.slice ad l.length c) l.length (l.flatMap icel) (by first | rfl | (go_simp; done) | (go_simp; rfl)) ad2 (itemsOf n).length c2 ((itemsOf n).flatMap icel) (by first | rfl | (go_simp; done) | (go_simp; rfl)) (icel_one _) HG.out hq ((Rdy.of_rw (w0 := w0) (Rw.of_gr HG2.out)).now H2.out.left) (by have := HN.out.2.2.2; omega) ?_
  intro v3 w3 A3 hG3 hv3
  have HG3 := As hG3
  have H3 := As hv3
  obtain ⟨ad3, c3, rfl, -⟩ := hG3.form
  clear hG3 hv3 hq hil
  refine hK.out _ _ (SP.out _ _ H3.out (by simp) (by simp)) (fun hHeld => ?_)
  clear hK K_
  refine nm_ ?_
  refine la_ 4 none fun K_ hK => ?_
  obtain ⟨s3, cf3⟩ := H3.out.c1 g 89 (.slice ad l.length c) (by simp)
  refine sk_ (hK.out _ _ ?_)
  clear hK K_ s3 cf3
  refine done_ (by kernel_rfl) ?_
  go_wp2_with fail
  go_end0
  rw [HVn.out]
  have hF : Hv w0 w3 ((A3 ++ (A2 ++ [cb w.heap.size 59 #[.bool n.leaf, .int .i64 n.ver, .slice ka n.keys.length kc, .slice ra n.refs.length rc]])) ++ cb g 89 #[.slice ad l.length c] :: Q) := by have := H3.out; simpa [List.append_assoc] using this
  have hF2 := Hv.putA0 hF 0 (.slice ad3 (l.length + (itemsOf n).length) c3) rfl
  refine ⟨rfl, ad3, c3, A3, ?_, ?_⟩
  ·rw [List.length_append, List.flatMap_append]
   exact HG3.out
  ·rw [List.length_append]
   have h5 : Hv w0 (w3.setCell ⟨g, 0, none⟩ (.slice ad3 (l.length + (itemsOf n).length) c3)) (A3 ++ ((A2 ++ [cb w.heap.size 59 #[.bool n.leaf, .int .i64 n.ver, .slice ka n.keys.length kc, .slice ra n.refs.length rc]]) ++ (cb g 89 #[.slice ad3 (l.length + (itemsOf n).length) c3] :: Q))) := by have := hF2; simpa [List.append_assoc] using this
   refine (h5.drop (L' := A3 ++ (cb g 89 #[.slice ad3 (l.length + (itemsOf n).length) c3] :: Q)) (List.Sublist.append_left (List.sublist_append_right _ _) A3)).perm ?_
   exact List.perm_middle.symm
 ·rename_i hlf
  have hvn : visN n = [] := by unfold visN; rw [hlf]; rfl
  rw [hvn, List.append_nil]
  clear hlf hvn
  go_wp2_with fail
  go_end0
  exact ⟨rfl, ad, c, A, HG.out, HV.out.tail⟩
theorem itemsCB {g m : Nat} (hm : m ≤ 200000) (W : World) (B X : List Ob) (p : List Vis) (n : Nd.Nd) (d : Int) (lo hi : ByteArray) (ka : Option Addr) (kc : Nat) (ra : Option Addr) (rc : Nat) (hM : Mt w0 W K t on R (B ++ (X ++ L))) (hJ : JI g p X) (hc : CI n) (hp : p.length < m) (hn : NR w0 R n ka kc ra rc) :
  Calls Try.prog 123 #[.agg #[.bool n.leaf, .int .i64 n.ver, .slice ka n.keys.length kc, .slice ra n.refs.length rc], .int .i64 d, .string lo, .string hi, .pointer (some ⟨g, 0, none⟩)] W fun e w' => e = .returned (.tuple #[]) ∧ ∃ X', JI g (p ++ [⟨n, d, lo, hi⟩]) X' ∧ Mt w0 w' K t on R (B ++ (X' ++ L)) := by
 obtain ⟨hall, ad, c, A, rfl, hG⟩ := hJ
 obtain ⟨Q, hq, hRQ, back⟩ := hM.lensY (X := cb g 89 #[.slice ad (p.flatMap visI).length c] :: A)
 have hlen := visI_all p hall
 refine (items1.calls (Q := Q) (l := p.flatMap visI) (by omega) hG hq hRQ hn hc d lo hi).mono ?_
 rintro e w' ⟨rfl, ad', c', A', hG', hv'⟩
 have e1 : (p ++ [(⟨n, d, lo, hi⟩ : Vis)]).flatMap visI = p.flatMap visI ++ visN n := by
  rw [List.flatMap_append]
  simp [visI]
 refine ⟨rfl, cb g 89 #[.slice ad' (p.flatMap visI ++ visN n).length c'] :: A', ⟨fun v hv => ?_, ad', c', A', by rw [e1], by rw [e1]; exact hG'⟩, back w' _ hv'⟩
 rcases List.mem_append.1 hv with hv | hv
 ·exact hall v hv
 ·rw [List.mem_singleton.1 hv]; exact hc
theorem titems.calls (h : Mt w0 w K t on R L) {hh m : Nat} (hm : m ≤ 200000) (hok : WOk t CI hh t.root) (hlen : (visits t hh t.root 0 ⟨#[]⟩ ⟨#[]⟩).length ≤ m) (hhm : hh ≤ 1000000) {its : List It} (hits : (visits t hh t.root 0 ⟨#[]⟩ ⟨#[]⟩).flatMap visI = its) :
  Calls Try.prog 69 #[.pointer (some ⟨K.1, 0, none⟩)] w fun e w' => ∃ ad c A, e = .returned (.slice ad its.length c) ∧ Gr 104 3 (.slice ad its.length c) its.length (its.flatMap icel) A ∧ Mt w0 w' K t on R (A ++ L) := by
 have hu33 := Try.underlying33
 have hu160 := Try.underlying160
 have hmf : ∀ (fn : Fn) (first cap : Array Value) (w : World), (Instr.makeFunc fn first cap).run Try.prog w = .ok (.func fn first cap) w := fun _ _ _ _ => rfl
 have HM := As (show Mt w0 (w.alloc (.cells #[.slice none 0 0] 89)) K t on R ([] ++ ([cb w.heap.size 89 #[.slice none 0 0]] ++ L)) from h.alloc _)
 have HH := As (And.intro hok (And.intro hlen (And.intro hits (And.intro hm hhm))))
 clear h hok hlen hits hm hhm
 obtain ⟨c0, c1, c2, -, -, -, -⟩ := HM.out.cells
 go_enter Try.func69, Try.ntmps69
 go_upto_region 5 with (go_at_call 122; go_loud (refine (walkI.calls (J := JI w.heap.size) (C := CI) (m := m) (itemsCB HH.out.2.2.2.1) hh t.root 0 ⟨#[]⟩ ⟨#[]⟩ [] [cb w.heap.size 89 #[.slice none 0 0]] [] _ HH.out.1 HM.out ⟨by simp, none, 0, [], rfl, Gr.nil 104 3⟩ (by simpa using HH.out.2.1) (Int.le_refl _) (by have := HH.out.2.2.2.2; omega)).mono ?_; rintro e2 w2 ⟨rfl, X, ⟨hall, ad, c, A, rfl, hG⟩, hh2⟩; simp only [List.nil_append, HH.out.2.2.1] at hG hh2; have HG := As hG; have H2 := As (show Mt w0 w2 K t on R (cb w.heap.size 89 #[.slice ad its.length c] :: (A ++ L)) from hh2); clear hG hh2 hall))
 clear c0 c1 c2
 obtain ⟨s0, -⟩ := H2.out.other.c1 w.heap.size 89 (.slice ad its.length c) (by simp)
 go_wp2_with fail
 exact bodyPost_ret (v := .slice ad its.length c) (by simp [results, Try.results69, go_sem]) rfl ⟨ad, c, A, rfl, HG.out, H2.out.tail⟩
end
end Go.Proofs.Ytglbcfkmaamhaaa.Tr
