/- A text of this claim: parts TpF TpG TpH TpI TtA. No condition. -/
import Derived.Test.YtglbcfkmaamhaaaJG20
import Derived.Test.YtglbcfkmaamhaaaJG18
import Derived.Test.YtglbcfkmaamhaaaJG12
import Derived.BigQuiet
import Derived.Test.YtglbcfkmaamhaaaJG0
set_option linter.unusedVariables false
set_option linter.unusedSimpArgs false
set_option maxHeartbeats 16000000
set_option maxRecDepth 100000
namespace Go.Proofs.Ytglbcfkmaamhaaa.Tr
open Go Go.RowKit Go.Proofs.YtglbcfkmaamhaaaW.PrintWords Go.Proofs.Ytglbcfkmaamhaaa.Hv Go.Proofs.Ytglbcfkmaamhaaa.Arm Go.Proofs.Ytglbcfkmaamhaaa.Nd Go.Proofs.Ytglbcfkmaamhaaa.ArN
section
attribute [local irreducible] bl
variable {N : Nat} {P : NP} {rs : List Rf} {ks : List ByteArray} {lo hi : ByteArray} {ns : List Rf} {its : List It}
def loK (ks : List ByteArray) (lo : ByteArray) (i : Nat) : ByteArray := if 0 < i then ks.getD (i - 1) ⟨#[]⟩ else lo
def hiK (ks : List ByteArray) (hi : ByteArray) (i : Nat) : ByteArray := if i < ks.length then ks.getD i ⟨#[]⟩ else hi
def rowF {α : Type} (F : Rf → ByteArray → ByteArray → List α) : List Rf → List ByteArray → ByteArray → ByteArray → List α
 | [], _, _, _ => []
 | r :: _, [], lo, hi => F r lo hi
 | r :: rs, k :: ks, lo, hi => F r lo k ++ rowF F rs ks k hi
theorem range_row {α : Type} (F : Rf → ByteArray → ByteArray → List α) : ∀ (rs : List Rf) (ks : List ByteArray) (lo hi : ByteArray), ks.length + 1 = rs.length → (List.range rs.length).flatMap (fun i => F (rs.getD i (0, 0)) (loK ks lo i) (hiK ks hi i)) = rowF F rs ks lo hi
 | [], ks, lo, hi, h => by simp at h
 | r :: rs, [], lo, hi, h => by
  have e : rs = [] := List.eq_nil_of_length_eq_zero (by simpa using h.symm)
  subst e
  simp [rowF, loK, hiK]
 | r :: rs, k :: ks, lo, hi, h => by
  have ih := range_row F rs ks k hi (by simpa using h)
  rw [List.length_cons, List.range_succ_eq_map, List.flatMap_cons, List.flatMap_map, rowF, ← ih]
  have e1 : ∀ i, loK (k :: ks) lo (i + 1) = loK ks k i := fun i => by unfold loK; cases i <;> simp
  have e2 : ∀ i, hiK (k :: ks) hi (i + 1) = hiK ks hi i := fun i => by unfold hiK; simp
  have e3 : loK (k :: ks) lo 0 = lo := rfl
  have e4 : hiK (k :: ks) hi 0 = k := rfl
  simp only [Nat.succ_eq_add_one, e1, e2, e3, e4, List.getD_cons_succ, List.getD_cons_zero]
structure NOk (n : Nd.Nd) : Prop where
 sh : n.shape = true
 a : Asc n.keys
 len : n.keys.length ≤ n.refs.length
 lf : n.leaf = true → n.keys.length = n.refs.length
theorem Rep.nok {t : Tm} : ∀ {h : Nat} {r : Rf} {lo hi : ByteArray} {ns : List Rf} {its : List It}, Rep t.map h r lo hi ns its → ∀ x ∈ ns, NOk (t.at x)
 | 0, r, lo, hi, ns, its, ⟨n, a, b, c, d, e, f, g⟩ => fun x hx => by
  rw [f] at hx
  rw [List.mem_singleton.1 hx, Tm.map_at a]
  exact ⟨Rep.shape (h := 0) (lo := lo) (hi := hi) (ns := ns) (its := its) ⟨n, a, b, c, d, e, f, g⟩ a, d, by omega, fun _ => c⟩
 | h + 1, r, lo, hi, ns, its, ⟨n, ns', a, b, c, d⟩ => fun x hx => by
  rw [c] at hx
  rcases List.mem_cons.1 hx with rfl | hx
  ·rw [Tm.map_at a]
   have := d.len
   exact ⟨Rep.shape (h := h + 1) ⟨n, ns', a, b, c, d⟩ a, d.keys.1, by omega, fun e => by rw [b] at e; cases e⟩
  ·exact d.all (Q := fun x => NOk (t.at x)) (fun r lo hi ns its h1 => h1.nok) x hx
theorem Dn.lf {t : Tm} {key : ByteArray} {r q : Rf} {l : List (Rf × Nat)} (h : Dn t key r l q) : (t.at q).leaf = true := by
 induction h with
 | leaf _ h => exact h
 | step _ _ _ _ _ _ _ _ ih => exact ih
theorem Rep.mem {t : Tm} {key : ByteArray} : ∀ {h : Nat} {r : Rf} {lo hi : ByteArray} {ns : List Rf} {its : List It}, Rep t.map h r lo hi ns its → ∀ {l : List (Rf × Nat)} {q : Rf}, Dn t key r l q → q ∈ ns
 | 0, r, lo, hi, ns, its, ⟨n, a, b, c, d, e, f, g⟩, l, q, hd => by
  rcases hd.inv with ⟨_, _, rfl⟩ | ⟨r', l2, h1, _⟩
  ·rw [f]; simp
  ·rw [Tm.map_at a, b] at h1; cases h1
 | h + 1, r, lo, hi, ns, its, ⟨n, ns', a, b, c, d⟩, l, q, hd => by
  rcases hd.inv with ⟨h1, _⟩ | ⟨r', l2, _, _, hk, hd', _⟩
  ·rw [Tm.map_at a, b] at h1; cases h1
  ·rw [Tm.map_at a] at hk
   obtain ⟨lo', hi', ns1, its1, e1, e2⟩ := d.each r' (List.mem_of_getElem? hk)
   rw [c]
   exact List.mem_cons_of_mem _ (e2 q (e1.mem hd'))
theorem Rep.wok {t : Tm} {C : Nd.Nd → Prop} : ∀ {h : Nat} {r : Rf} {lo hi : ByteArray} {ns : List Rf} {its : List It}, Rep t.map h r lo hi ns its → (∀ x ∈ ns, C (t.at x)) → (∀ x ∈ ns, Small t x) → WOk t C h r
 | 0, r, lo, hi, ns, its, ⟨n, a, b, c, d, e, f, g⟩, hC, hs => ⟨by rw [Tm.map_at a]; exact b, hC r (by rw [f]; simp)⟩
 | h + 1, r, lo, hi, ns, its, ⟨n, ns', a, b, c, d⟩, hC, hs => by
  have hl := d.len
  have h4 := hs r (by rw [c]; simp)
  unfold Small at h4
  refine ⟨hC r (by rw [c]; simp), .inr ⟨by rw [Tm.map_at a]; omega, by omega, fun x hx => ?_⟩⟩
  rw [Tm.map_at a] at hx
  obtain ⟨lo', hi', ns1, its1, e1, e2⟩ := d.each x hx
  have hsub : ∀ y ∈ ns1, y ∈ ns := fun y hy => by rw [c]; exact List.mem_cons_of_mem _ (e2 y hy)
  exact e1.wok (fun y hy => hC y (hsub y hy)) (fun y hy => hs y (hsub y hy))
theorem emp_nil : emp ⟨#[]⟩ = true := by unfold emp; rw [Lib.toList_data]; rfl
theorem inK_of {lo hi k : ByteArray} (h1 : bl k lo = false) (h2 : blw k hi) : inK lo hi k = true := by
 unfold inK
 rw [h1]
 rcases h2 with rfl | h2
 ·rw [emp_nil]; rfl
 ·rw [h2]; simp
theorem okN_true {lo hi : ByteArray} : ∀ {l : List ByteArray}, (∀ k ∈ l, bl k lo = false ∧ blw k hi) → okN true lo hi l = true
 | [], _ => rfl
 | k :: l, h => by
  obtain ⟨h1, h2⟩ := h k (by simp)
  have e : okN true lo hi (k :: l) = okN (true && inK lo hi k) lo hi l := rfl
  rw [e, inK_of h1 h2]
  exact okN_true (fun x hx => h x (by simp [hx]))
theorem asc_of : ∀ {l : List ByteArray}, Asc l → asc l = true
 | [], _ => rfl
 | [a], _ => rfl
 | a :: b :: l, h => by
  obtain ⟨h1, h2⟩ := List.pairwise_cons.1 h
  simp only [asc, Bool.and_eq_true]
  exact ⟨h1 b (by simp), asc_of h2⟩
theorem NOk.check {n : Nd.Nd} (h : NOk n) (h4 : n.refs.length ≤ 4) (hv : 0 ≤ n.ver) : n.check = true := by
 unfold Nd.Nd.check
 rw [asc_of h.a, h.sh]
 simp [h4, hv]
def SeesAs (p : List Vis) (D : Int) (ns : List Rf) (its : List It) : Prop :=
 p.length = ns.length ∧ p.flatMap visI = its ∧ ∀ c : Chk, c.ok = true → (c.dp = -1 ∨ c.dp = D) → p.foldl chkS c = ⟨c.cnt + (ns.length : Int), true, D⟩
theorem Row.sees {F : Rf → ByteArray → ByteArray → List Vis} {D : Int} (h : Row P rs ks lo hi ns its) : (∀ r lo hi ns' its', (∀ x ∈ ns', x ∈ ns) → P r lo hi ns' its' → SeesAs (F r lo hi) D ns' its') → SeesAs (rowF F rs ks lo hi) D ns its := by
 induction h with
 | one h => exact fun hF => hF _ _ _ _ _ (fun x hx => hx) h
 | @cons r rs k ks lo hi n1 n2 i1 i2 h h1 h2 h3 ih =>
  intro hF
  obtain ⟨a1, a2, a3⟩ := hF _ _ _ _ _ (fun x hx => List.mem_append_left _ hx) h
  obtain ⟨b1, b2, b3⟩ := ih (fun r lo hi ns' its' hs hp => hF r lo hi ns' its' (fun x hx => List.mem_append_right _ (hs x hx)) hp)
  refine ⟨?_, ?_, fun c hc hd => ?_⟩
  ·rw [rowF, List.length_append, List.length_append, a1, b1]
  ·rw [rowF, List.flatMap_append, a2, b2]
  ·rw [rowF, List.foldl_append, a3 c hc hd, b3 _ rfl (.inr rfl)]
   simp only [List.length_append, Int.natCast_add, Int.add_assoc]
theorem Rep.sees {t : Tm} : ∀ {h : Nat} {r : Rf} {lo hi : ByteArray} {ns : List Rf} {its : List It}, Rep t.map h r lo hi ns its → (∀ x ∈ ns, Small t x ∧ 0 ≤ (t.at x).ver) → ∀ d : Int, 0 ≤ d → SeesAs (visits t h r d lo hi) (d + h) ns its
 | 0, r, lo, hi, ns, its, hr, hs, d, hd => by
  have hn := hr.nok
  obtain ⟨n, a, b, c, e, f, g, i⟩ := hr
  have hat := Tm.map_at a
  have hrn : r ∈ ns := by rw [g]; simp
  have hck : n.check = true := by rw [← hat]; exact (hn r hrn).check (hs r hrn).1 (hs r hrn).2
  refine ⟨by rw [g]; rfl, ?_, fun cc hc hdp => ?_⟩
  ·show [(⟨t.at r, d, lo, hi⟩ : Vis)].flatMap visI = its
   rw [i, hat]
   simp [visI, visN, b]
  ·show chkS cc ⟨t.at r, d, lo, hi⟩ = _
   rw [hat]
   unfold chkS
   simp only [hc, hck, Bool.and_self]
   rw [okN_true f]
   unfold chkN
   rw [if_pos b]
   have hdp1 : cc.dp1 d = d := by
    unfold Chk.dp1
    rcases hdp with hdp | hdp
    ·rw [if_pos (by omega)]
    ·rw [if_neg (by omega)]; omega
   rw [hdp1, g]
   simp
 | h + 1, r, lo, hi, ns, its, hr, hs, d, hd => by
  have hn := hr.nok
  obtain ⟨n, ns', a, b, c, e⟩ := hr
  have hat := Tm.map_at a
  have hrn : r ∈ ns := by rw [c]; simp
  have hck : n.check = true := by rw [← hat]; exact (hn r hrn).check (hs r hrn).1 (hs r hrn).2
  have hl := e.len
  have hv : visits t (h + 1) r d lo hi = ⟨n, d, lo, hi⟩ :: rowF (fun r lo hi => visits t h r (d + 1) lo hi) n.refs n.keys lo hi := by
   rw [← range_row _ _ _ _ _ hl]
   rw [visits, hat, b]
   rfl
  have hk := e.keys
  obtain ⟨a1, a2, a3⟩ := e.sees (F := fun r lo hi => visits t h r (d + 1) lo hi) (D := d + 1 + h) (fun r lo hi ns1 its1 hsub hp => hp.sees (fun x hx => hs x (by rw [c]; exact List.mem_cons_of_mem _ (hsub x hx))) (d + 1) (by omega))
  rw [hv]
  refine ⟨by rw [c, List.length_cons, List.length_cons, a1], ?_, fun cc hc hdp => ?_⟩
  ·rw [List.flatMap_cons, a2]
   simp [visI, visN, b]
  ·have h1 : chkS cc ⟨n, d, lo, hi⟩ = ⟨cc.cnt + 1, true, cc.dp⟩ := by
    unfold chkS
    simp only [hc, hck, Bool.and_self]
    rw [okN_true (fun k hk' => ⟨bl_ble (hk.2 k hk').1, (hk.2 k hk').2⟩)]
    unfold chkN
    rw [if_neg (by rw [b]; simp)]
   rw [List.foldl_cons, h1, a3 _ rfl (by rcases hdp with hdp | hdp; exact .inl hdp; right; show cc.dp = _; rw [hdp]; push_cast; omega)]
   rw [c]
   simp only [List.length_cons, Chk.mk.injEq, true_and]
   push_cast
   omega
variable {t : Tm} {h : Nat} {V : Int}
theorem Inv.nok (iv : Inv t N h ns its V) : ∀ x ∈ ns, NOk (t.at x) := iv.rep.nok
theorem Inv.leaf (iv : Inv t N h ns its V) {key : ByteArray} {l : List (Rf × Nat)} {q : Rf} (hd : Dn t key t.root l q) : q ∈ ns ∧ Nd.Ok (t.at q) ∧ (t.find key q).2 = fnd key (t.at q).keys := by
 have hm := iv.rep.mem hd
 have ho := iv.nok q hm
 have hs := iv.sm q hm
 unfold Small at hs
 have hlf := hd.lf
 have hl := ho.lf hlf
 refine ⟨hm, ⟨by omega, by omega, ho.a⟩, ?_⟩
 have hf : (t.at q).find key = (plc key (t.at q).keys, fnd key (t.at q).keys) := by
  unfold Nd.Nd.find
  rw [hlf, hl]
  simp
 unfold Tm.find
 rw [hf]
 cases fnd key (t.at q).keys <;> rfl
theorem Inv.sees (iv : Inv t N h ns its V) : SeesAs (visits t h t.root 0 ⟨#[]⟩ ⟨#[]⟩) (0 + h) ns its := iv.rep.sees (fun x hx => ⟨iv.sm x hx, (iv.ver x hx).1⟩) 0 (Int.le_refl _)
theorem Inv.height (iv : Inv t N h ns its V) : h < N := by
 have h1 := iv.rep.height
 have h2 := iv.len
 omega
theorem Inv.wokS (iv : Inv t N h ns its V) : WOk t Nd.Sm h t.root := iv.rep.wok (fun x hx => by
 have h1 := iv.sm x hx
 have h2 := (iv.nok x hx).len
 unfold Small at h1
 exact ⟨by omega, by omega⟩) iv.sm
theorem Inv.held (iv : Inv t N h ns its V) : (t.p.held : Int) = ns.length + t.gone.length := by
 have h1 := iv.cnt
 unfold Ar.room at h1
 have h3 := iv.wf.2.2
 omega
theorem Inv.checked {w0 w : World} {K : Nat × Nat × Nat} {on : Value} {R L : List Ob} (iv : Inv t N h ns its V) (hN : N ≤ 100000) (hM : Mt w0 w K t on R L) : Calls Try.prog 70 #[.pointer (some ⟨K.1, 0, none⟩)] w fun e w' => e = .returned (.bool true) ∧ Mt w0 w' K t on R L := by
 have h1 := iv.len
 have h2 := iv.height
 obtain ⟨a, b, c⟩ := iv.sees
 have h3 := iv.held
 refine tcheck.calls hM (m := 1000000) (Nat.le_refl _) iv.wokS (by omega) (by omega) (by omega) (c chk0 rfl (.inl rfl)) ?_
 rw [Bool.and_eq_true, decide_eq_true_eq]
 exact ⟨rfl, by show (t.p.held : Int) - t.gone.length = 0 + (ns.length : Int); omega⟩
theorem Inv.new (m : Nat) (h1 : 1 ≤ m) (h2 : m ≤ 4096) : Inv (Tm.new m) m 0 [(0, 1)] [] 1 ∧ (Tm.new m).root = (0, 1) ∧ (Tm.new m).gone = [] ∧ (Tm.new m).at (0, 1) = ⟨true, 1, [], []⟩ := by
 have hn : (Ar.new m []).n = m := by simp [Ar.new, Ar.n]
 have hw : (Tm.new0 m).Wf m := ⟨new_ok m h2 [] rfl trivial, by simp [Tm.new0], hn⟩
 have hheld : (Ar.new m []).held = 0 := by simp [Ar.new, Ar.held, List.countP_replicate]
 have hroom : (Tm.new0 m).p.room = m := by
  show (Ar.new m []).room = m
  unfold Ar.room
  rw [hn, hheld]
  omega
 have hr : ¬ (Tm.new0 m).p.room = 0 := by omega
 have hz : ((Ar.new m []).slot 0).gen = 0 := by
  simp only [Ar.new, Ar.slot, List.getD_eq_getElem?_getD, List.getElem?_replicate]
  split <;> rfl
 have hnx : (Ar.new m []).next = 0 := by simp [Ar.new, Ar.next]
 have htk : (Tm.new0 m).tk = (0, 1) := by
  unfold Tm.tk
  rw [if_neg hr]
  show ((Ar.new m []).next, (Ar.new m []).gen) = _
  unfold Ar.gen
  rw [hnx, hz]
  have hw1 : wrap64 (0 + 1) = 1 := by unfold wrap64; omega
  rw [hw1]
 obtain ⟨a1, a2, a3, a4, a5, a6⟩ := Tm.mtake (n := ⟨true, 1, [], []⟩) hw hr
 rw [htk] at a1
 have hroot : (Tm.new m).root = (0, 1) := by unfold Tm.new; exact htk
 have hmap : (Tm.new m).map = upd (Tm.new0 m).map (0, 1) ⟨true, 1, [], []⟩ := a1
 have hat : (Tm.new m).at (0, 1) = ⟨true, 1, [], []⟩ := Tm.map_at (by rw [hmap]; exact upd_self _ _ _)
 have hgone : (Tm.new m).gone = [] := by show ((Tm.new0 m).take _).gone = []; rw [a4]; rfl
 refine ⟨⟨a2, ?_, by simp, fun x hx => ?_, fun x hx => ?_, ?_⟩, hroot, hgone, hat⟩
 ·rw [hroot]
  exact ⟨⟨true, 1, [], []⟩, by rw [hmap]; exact upd_self _ _ _, rfl, rfl, List.Pairwise.nil, fun k hk => by simp at hk, rfl, rfl⟩
 ·rw [List.mem_singleton.1 hx]
  unfold Small
  rw [hat]
  simp
 ·rw [List.mem_singleton.1 hx]
  unfold Ver
  rw [hat]
  simp
 ·rw [hgone]
  show ((Tm.new0 m).take _).p.room = _
  rw [a5, hroom]
  simp
end
section
attribute [local irreducible] bl
variable {N : Nat}
theorem Rep.joinNode {m m' : Mm} {h : Nat} {x0 x1 : Rf} {A k B : ByteArray} {nA nB : List Rf} {itA itB : List It} {a b : Nd.Nd} (hA : Rep m h x0 A k nA itA) (hB : Rep m h x1 k B nB itB) (h1 : bl A k = true) (h2 : blw k B) (ha : m x0 = some a) (hb : m x1 = some b) :
  ∃ nl nr, nA = x0 :: nl ∧ nB = x1 :: nr ∧ (a.join k b).refs = a.refs ++ b.refs ∧ (a.join k b).ver = wrap64 (a.ver + 1) ∧ ((m' x0 = some (a.join k b)) → (∀ x ∈ nl ++ nr, m' x = m x) → Rep m' h x0 A B (x0 :: (nl ++ nr)) (itA ++ itB)) := by
 have sa := hA.shape ha
 have sb := hB.shape hb
 cases h with
 | zero =>
  obtain ⟨a', e1, e2, e3, e4, e5, e6, e7⟩ := hA
  rw [ha] at e1; cases e1
  obtain ⟨b', f1, f2, f3, f4, f5, f6, f7⟩ := hB
  rw [hb] at f1; cases f1
  have hj : a.join k b = { a with ver := wrap64 (a.ver + 1), keys := a.keys ++ b.keys, refs := a.refs ++ b.refs } := by
   unfold Nd.Nd.join
   rw [sa, sb, e2, f2]
   simp
  refine ⟨[], [], e6, f6, by rw [hj], by rw [hj], fun hm _ => ?_⟩
  rw [hj] at hm
  refine ⟨_, hm, e2, by simp only [List.length_append]; omega, ?_, fun x hx => ?_, rfl, ?_⟩
  ·refine List.pairwise_append.2 ⟨e4, f4, fun x hx y hy => ?_⟩
   exact bl_of_ble (blw_bl (e5 x hx).2 h1) (f5 y hy).1
  ·rcases List.mem_append.1 hx with hx | hx
   ·exact ⟨(e5 x hx).1, blw_of (blw_bl (e5 x hx).2 h1) h2⟩
   ·exact ⟨ble_trans (bl_ble h1) (f5 x hx).1, (f5 x hx).2⟩
  ·rw [e7, f7]
   unfold itemsOf
   rw [← List.zip_append e3]
 | succ h =>
  obtain ⟨a', nl, e1, e2, e3, e4⟩ := hA
  rw [ha] at e1; cases e1
  obtain ⟨b', nr, f1, f2, f3, f4⟩ := hB
  rw [hb] at f1; cases f1
  have hj : a.join k b = { a with ver := wrap64 (a.ver + 1), keys := a.keys ++ [k] ++ b.keys, refs := a.refs ++ b.refs } := by
   unfold Nd.Nd.join
   rw [sa, sb, e2, f2]
   simp
  refine ⟨nl, nr, e3, f3, by rw [hj], by rw [hj], fun hm hf => ?_⟩
  rw [hj] at hm
  refine ⟨_, nl ++ nr, hm, e2, rfl, ?_⟩
  have g1 := e4.mono (P' := Rep m' h) (fun r lo hi ns' its' hs hp => hp.frame (fun x hx => hf x (List.mem_append_left _ (hs x hx))))
  have g2 := f4.mono (P' := Rep m' h) (fun r lo hi ns' its' hs hp => hp.frame (fun x hx => hf x (List.mem_append_right _ (hs x hx))))
  have g3 := g1.join g2 h1 h2
  simpa [List.append_assoc] using g3
structure JP (N m : Nat) (t t' : Tm) (h : Nat) (r x0 x1 : Rf) (lo hi : ByteArray) (ns ns' : List Rf) (its : List It) : Prop where
 wf : t'.Wf N
 room : t'.p.room = t.p.room
 root : t'.root = t.root
 gone : t'.gone = t.gone ++ [x1]
 rep : Rep t'.map h r lo hi ns' its
 perm : (ns' ++ [x1]).Perm ns
 off : ∀ x, x ∉ ns → t'.map x = t.map x
 has : t'.map x1 ≠ none
 rr : (t'.at r).refs.length + 1 = (t.at r).refs.length
 rv : (t'.at r).ver = wrap64 ((t.at r).ver + 1)
 xr : (t'.at x0).refs.length ≤ 4
 xv : (t'.at x0).ver = wrap64 ((t.at x0).ver + 1)
 same : ∀ x ∈ ns', x ≠ r → x ≠ x0 → t'.at x = t.at x
 bd : Bd t' m
 ne : x0 ≠ r ∧ x0 ∈ ns
 lk : ∀ c, look t'.map c h r = look t.map c h r ∨ look t.map c h r = x1
 evo : Evo t.map t'.map
 bump : Bump t.map t'.map x1
theorem Rep.joinStep {t : Tm} (hw : t.Wf N) {h : Nat} {r : Rf} {lo hi : ByteArray} {ns : List Rf} {its : List It} (hr : Rep t.map (h + 1) r lo hi ns its) (hnd : ns.Nodup) {i : Nat} {x0 x1 : Rf} (h0 : (t.at r).refs[i]? = some x0) (h1 : (t.at r).refs[i + 1]? = some x1) (hs : (t.at x0).refs.length + (t.at x1).refs.length ≤ 4) {m : Nat} (hb : Bd t m) (hm : 4 ≤ m) (hv : ∀ x ∈ ns, 0 ≤ (t.at x).ver ∧ (t.at x).ver ≤ 4611686018427387902) :
  ∃ t' ns', t.join r (i : Int) = (t', x1, true) ∧ JP N m t t' (h + 1) r x0 x1 lo hi ns ns' its := by
 obtain ⟨p, ns0, a, b, c, d⟩ := id hr
 have hat := Tm.map_at a
 have hsh := hr.shape a
 have hl := d.len
 rw [hat] at h0 h1
 have hlt := (List.getElem?_eq_some_iff.1 h1).1
 obtain ⟨kx, hkx⟩ : ∃ kx, p.keys[i]? = some kx := ⟨_, List.getElem?_eq_getElem (by omega)⟩
 obtain ⟨A, B, n1, n2, n3, t1, t2, t3, e1, e2, e3, e4, e5, e6, e7, e8⟩ := d.focus (fun _ _ _ _ _ h => h.range) i 2 (by omega) (by omega)
 have hd1 : (p.refs.drop i).take 2 = [x0, x1] := by
  rw [List.drop_eq_getElem_cons (by omega), (List.getElem?_eq_some_iff.1 h0).2, List.drop_eq_getElem_cons (by omega), (List.getElem?_eq_some_iff.1 h1).2]
  rfl
 have hd2 : (p.keys.drop i).take (2 - 1) = [kx] := by
  rw [List.drop_eq_getElem_cons (by omega), (List.getElem?_eq_some_iff.1 hkx).2]
  rfl
 rw [hd1, hd2] at e1
 obtain ⟨nA, nB, itA, itB, q1, q2, q3, q4, q5, q6⟩ : ∃ nA nB itA itB, Rep t.map h x0 A kx nA itA ∧ Rep t.map h x1 kx B nB itB ∧ bl A kx = true ∧ blw kx B ∧ n2 = nA ++ nB ∧ t2 = itA ++ itB := by
  cases e1 with
  | cons g1 g2 g3 g4 =>
   cases g4 with
   | one g4 => exact ⟨_, _, _, _, g1, g4, g2, g3, rfl, rfl⟩
 obtain ⟨na, _, ha, _⟩ := q1.head
 obtain ⟨nb, _, hbm, _⟩ := q2.head
 have hata := Tm.map_at ha
 have hatb := Tm.map_at hbm
 obtain ⟨jn, hj⟩ : ∃ jn, na.join kx nb = jn := ⟨_, rfl⟩
 obtain ⟨rm, hrm⟩ : ∃ rm, p.remove ((i : Int) + 1) = rm := ⟨_, rfl⟩
 obtain ⟨T1, hT1⟩ : ∃ T, t.set x0 jn = T := ⟨_, rfl⟩
 obtain ⟨T2, hT2⟩ : ∃ T, T1.set r rm = T := ⟨_, rfl⟩
 obtain ⟨T3, hT3⟩ : ∃ T, T2.leave x1 = T := ⟨_, rfl⟩
 have hjoin := join_ok (t := t) (up := r) (i := i) hat h0 h1 hkx hata hatb (by rw [hat]; omega) (by rw [← hata, ← hatb]; omega) hj hrm hT1 hT2 hT3
 have hkid : p.kid ((i : Int) + 1) = true := by
  unfold Nd.Nd.kid
  rw [b, hsh]
  simp
  omega
 have hrme : rm = { p with ver := wrap64 (p.ver + 1), keys := p.keys.take i ++ p.keys.drop (i + 1), refs := p.refs.take (i + 1) ++ p.refs.drop (i + 2) } := by
  rw [← hrm]
  unfold Nd.Nd.remove
  rw [if_pos hkid, if_neg (by omega), show ((i : Int) + 1).toNat = i + 1 by omega, Nat.add_sub_cancel]
 -- who is who
 have hnd0 := hnd
 rw [c, e2, q5] at hnd
 obtain ⟨hnr, hnd1⟩ := List.nodup_cons.1 hnd
 obtain ⟨nl, nr, j1, j2, j3, j4, j5⟩ := q1.joinNode (m' := T3.map) q2 q3 q4 ha hbm
 rw [hj] at j3 j4 j5
 rw [j1, j2] at hnd1 hnr
 have mem_ns : ∀ x, x ∈ ns ↔ x = r ∨ x ∈ n1 ∨ x = x0 ∨ x ∈ nl ∨ x = x1 ∨ x ∈ nr ∨ x ∈ n3 := fun x => by rw [c, e2, q5, j1, j2]; simp only [List.mem_cons, List.mem_append, or_assoc]
 have hx0r : x0 ≠ r := fun e => hnr (by rw [← e]; simp)
 have hx1r : x1 ≠ r := fun e => hnr (by rw [← e]; simp)
 have hnd2 := List.nodup_append.1 hnd1
 have hnd3 := List.nodup_append.1 hnd2.1
 have hnd4 := List.nodup_append.1 hnd3.2.1
 have hx01 : x1 ≠ x0 := fun e => hnd4.2.2 x0 (by simp) x1 (by simp) e.symm
 -- maps
 obtain ⟨a1, a2, a3, a4, a5⟩ := Tm.mset (n := jn) hw ha
 rw [hT1] at a1 a2 a3 a4 a5
 have hr1 : T1.map r = some p := by rw [a1, upd_ne (Ne.symm hx0r), a]
 obtain ⟨b1, b2, b3, b4, b5⟩ := Tm.mset (n := rm) a2 hr1
 rw [hT2] at b1 b2 b3 b4 b5
 have hx1m : T2.map x1 = some nb := by rw [b1, upd_ne hx1r, a1, upd_ne hx01, hbm]
 obtain ⟨c1, c2, c3, c4, c5⟩ := Tm.mset (n := up1 (T2.at x1)) b2 hx1m
 have hT3m : T3.map = upd T2.map x1 (up1 (T2.at x1)) := by rw [← hT3]; exact c1
 have hT3w : T3.Wf N := by rw [← hT3]; exact c2
 have hT3r : T3.root = t.root := by rw [← hT3]; show (T2.set x1 _).root = _; rw [c3, b3, a3]
 have hT3p : T3.p.room = t.p.room := by rw [← hT3]; show (T2.set x1 _).p.room = _; rw [c5, b5, a5]
 have hT3g : T3.gone = t.gone ++ [x1] := by rw [← hT3]; show T2.gone ++ [x1] = _; rw [b4, a4]
 have hmap : ∀ x, x ≠ x0 → x ≠ r → x ≠ x1 → T3.map x = t.map x := fun x g1 g2 g3 => by rw [hT3m, upd_ne g3, b1, upd_ne g2, a1, upd_ne g1]
 have hm0 : T3.map x0 = some jn := by rw [hT3m, upd_ne (Ne.symm hx01), b1, upd_ne hx0r, a1]; exact upd_self _ _ _
 have hmr : T3.map r = some rm := by rw [hT3m, upd_ne (Ne.symm hx1r), b1]; exact upd_self _ _ _
 have hn13 : ∀ x, x ∈ n1 ∨ x ∈ n3 ∨ x ∈ nl ∨ x ∈ nr → x ≠ x0 ∧ x ≠ r ∧ x ≠ x1 := by
  intro x hx
  refine ⟨?_, fun e => hnr (by rw [← e]; rcases hx with hx | hx | hx | hx <;> simp [hx]), ?_⟩
  ·rcases hx with hx | hx | hx | hx
   ·exact fun e => hnd3.2.2 x hx x0 (by simp) e
   ·exact fun e => hnd2.2.2 x0 (by simp) x hx e.symm
   ·exact fun e => (List.nodup_cons.1 hnd4.1).1 (by rw [← e]; exact hx)
   ·exact fun e => hnd4.2.2 x0 (by simp) x (by simp [hx]) e.symm
  ·rcases hx with hx | hx | hx | hx
   ·exact fun e => hnd3.2.2 x hx x1 (by simp) e
   ·exact fun e => hnd2.2.2 x1 (by simp) x hx e.symm
   ·exact fun e => hnd4.2.2 x (by simp [hx]) x1 (by simp) e
   ·exact fun e => (List.nodup_cons.1 hnd4.2.1).1 (by rw [← e]; exact hx)
 have hoff : ∀ x, x ∈ n1 ∨ x ∈ n3 ∨ x ∈ nl ∨ x ∈ nr → T3.map x = t.map x := fun x hx => by
  obtain ⟨g1, g2, g3⟩ := hn13 x hx
  exact hmap x g1 g2 g3
 have hjrep := j5 hm0 (fun x hx => hoff x ((List.mem_append.1 hx).elim (fun h => .inr (.inr (.inl h))) (fun h => .inr (.inr (.inr h)))))
 have hrow := e8 (Rep T3.map h) [x0] [] (x0 :: (nl ++ nr)) (itA ++ itB) (fun r lo hi ns' its' hx hp => hp.frame (fun x hx' => hoff x ((hx x hx').elim .inl (fun h => .inr (.inl h))))) (.one hjrep)
 have hS : ∀ x ∈ ns, t.map x ≠ none := fun x hx => isS_of (hr.isS x hx)
 have hjl : jn.refs.length ≤ 4 := by rw [j3, List.length_append, ← hata, ← hatb]; exact hs
 have hjk : jn.keys.length ≤ jn.refs.length := by
  obtain ⟨_, _, hh, _⟩ := hjrep.head
  have h1 := hjrep.nok x0 (by simp)
  rw [Tm.map_at hm0] at h1
  exact h1.len
 have hbr := hb.at r
 rw [hat] at hbr
 have hB1 : Bd T1 m := by rw [← hT1]; exact hb.set x0 ⟨by omega, by omega⟩
 have hB2 : Bd T2 m := by
  rw [← hT2]
  refine hB1.set r ?_
  rw [hrme]
  simp only [List.length_append, List.length_take, List.length_drop]
  omega
 have hB3 : Bd T3 m := by
  rw [← hT3]
  show Bd (T2.set x1 (up1 (T2.at x1))) m
  exact hB2.set x1 (hB2.at x1)
 have v0 := hv x0 ((mem_ns x0).2 (by simp))
 have v1 := hv x1 ((mem_ns x1).2 (by simp))
 have vr := hv r ((mem_ns r).2 (by simp))
 rw [hata] at v0
 rw [hatb] at v1
 rw [hat] at vr
 have w0 := wrap_up v0.1 v0.2 (by omega)
 have w1 := wrap_up v1.1 v1.2 (by omega)
 have wr := wrap_up vr.1 vr.2 (by omega)
 have hat1 : T2.at x1 = nb := Tm.map_at hx1m
 have hm1 : T3.map x1 = some (up1 nb) := by rw [hT3m, upd_self, hat1]
 have hevo : Evo t.map T3.map := by
  have e1 : Evo t.map T1.map := by rw [a1]; exact Evo.upd ha (.inr (by rw [j4, w0]; omega))
  have e2 : Evo T1.map T2.map := by rw [b1]; exact Evo.upd hr1 (.inr (by rw [hrme]; simp only []; rw [wr]; omega))
  have e3 : Evo T2.map T3.map := by rw [hT3m, hat1]; exact Evo.upd hx1m (.inr (by unfold up1; simp only []; rw [w1]; omega))
  exact (e1.trans e2).trans e3
 have hbump : Bump t.map T3.map x1 := ⟨nb, up1 nb, hbm, hm1, by unfold up1; simp only []; rw [w1]; omega⟩
 have hrefs : p.refs.Nodup := (List.nodup_cons.1 (by rw [c] at hnd0; exact hnd0)).2.sublist (d.heads (fun r lo hi ns its hp => by obtain ⟨_, ns', _, e⟩ := hp.head; exact ⟨ns', e⟩))
 have hkr : ∀ c, kd c rm.refs rm.keys = if kd c p.refs p.keys = x1 then x0 else kd c p.refs p.keys := fun c => by
  rw [hrme]
  exact kd_rem c i p.refs p.keys h0 h1 hl hrefs d.keys.1
 have hsd : ∀ c, (kd c p.refs p.keys = x0 → bl c kx = true) ∧ (kd c p.refs p.keys = x1 → bl c kx = false) := fun c => kd_side c i p.refs p.keys h0 h1 hkx hl hrefs d.keys.1
 have hloc := e8 (fun x _ _ _ _ => x = x0 ∨ x = x1 ∨ ∃ lo hi ns' its', Rep t.map h x lo hi ns' its' ∧ ∀ y ∈ ns', y ∈ n1 ∨ y ∈ n3) [x0, x1] [kx] ([] ++ []) ([] ++ []) (fun x lo hi ns' its' hx hp => .inr (.inr ⟨lo, hi, ns', its', hp, hx⟩)) (.cons (.inl rfl) q3 q4 (.one (.inr (.inl rfl))))
 have hg1 : p.refs.take i ++ [x0, x1] ++ p.refs.drop (i + 2) = p.refs := by
  rw [← hd1, List.append_assoc]
  conv => rhs; rw [← List.take_append_drop i p.refs, ← List.take_append_drop 2 (p.refs.drop i)]
  rw [List.drop_drop]
 have loc : ∀ x ∈ p.refs, x = x0 ∨ x = x1 ∨ ∃ lo hi ns' its', Rep t.map h x lo hi ns' its' ∧ ∀ y ∈ ns', y ∈ n1 ∨ y ∈ n3 := fun x hx => by
  obtain ⟨_, _, _, _, h1, _⟩ := hloc.each x (by rw [hg1]; exact hx)
  exact h1
 refine ⟨T3, r :: (n1 ++ (x0 :: (nl ++ nr)) ++ n3), hjoin, hT3w, hT3p, hT3r, hT3g, ?_, ?_, fun x hx => ?_, ?_, ?_, ?_, ?_, ?_, fun x hx g1 g2 => ?_, hB3, ⟨hx0r, (mem_ns x0).2 (.inr (.inr (.inl rfl)))⟩, fun c => ?_, hevo, hbump⟩
 ·refine ⟨rm, n1 ++ (x0 :: (nl ++ nr)) ++ n3, hmr, by rw [hrme]; exact b, rfl, ?_⟩
  rw [e3, q6]
  have g1 : p.refs.take i ++ [x0] ++ p.refs.drop (i + 2) = rm.refs := by
   rw [hrme]
   simp only []
   rw [List.take_add_one, h0]
   simp
  have g2 : p.keys.take i ++ [] ++ p.keys.drop (i + 2 - 1) = rm.keys := by
   rw [hrme, List.append_nil]
   rfl
  rw [g1, g2] at hrow
  exact hrow
 ·rw [c, e2, q5, j1, j2, List.cons_append]
  refine List.Perm.cons _ ?_
  have g1 : (n1 ++ (x0 :: (nl ++ nr)) ++ n3 ++ [x1]).Perm (x1 :: (n1 ++ (x0 :: (nl ++ nr)) ++ n3)) := List.perm_append_comm
  refine g1.trans ?_
  have g2 := List.perm_middle (a := x1) (l₁ := n1 ++ (x0 :: nl)) (l₂ := nr ++ n3)
  have g3 := g2.symm
  simpa [List.append_assoc] using g3
 ·have hx' := fun h => hx ((mem_ns x).2 h)
  exact hmap x (fun e => hx' (.inr (.inr (.inl e)))) (fun e => hx' (.inl e)) (fun e => hx' (by simp [e]))
 ·rw [hT3m, upd_self]
  simp
 ·rw [Tm.map_at hmr, hat, hrme]
  simp only [List.length_append, List.length_take, List.length_drop]
  omega
 ·rw [Tm.map_at hmr, hat, hrme]
 ·rw [Tm.map_at hm0]; exact hjl
 ·rw [Tm.map_at hm0, hata]; exact j4
 ·have hx2 : x ∈ n1 ∨ x ∈ n3 ∨ x ∈ nl ∨ x ∈ nr := by
   simp only [List.mem_cons, List.mem_append] at hx
   grind
  refine at_of (hoff x hx2) (hS x ((mem_ns x).2 ?_))
  grind
 ·rw [look_succ hmr, look_succ a, hkr c]
  have hlr : ∀ y, y ∈ nl ∨ y ∈ nr → T3.map y = t.map y := fun y hy => hoff y (hy.elim (fun h => .inr (.inr (.inl h))) (fun h => .inr (.inr (.inr h))))
  cases h with
  | zero =>
   by_cases e : kd c p.refs p.keys = x1
   ·right; rw [e]; rfl
   ·left; rw [if_neg e]; rfl
  | succ h =>
   left
   obtain ⟨na', nla, qa1, qa2, qa3, qa4⟩ := q1
   rw [ha] at qa1; cases qa1
   obtain ⟨nb', nrb, qb1, qb2, qb3, qb4⟩ := q2
   rw [hbm] at qb1; cases qb1
   have el : nla = nl := (List.cons.inj (qa3.symm.trans j1)).2
   have er : nrb = nr := (List.cons.inj (qb3.symm.trans j2)).2
   subst el er
   have sa := Rep.shape (h := h + 1) (lo := A) (hi := kx) (ns := nA) (its := itA) ⟨na, nla, ha, qa2, qa3, qa4⟩ ha
   have sb := Rep.shape (h := h + 1) (lo := kx) (hi := B) (ns := nB) (its := itB) ⟨nb, nrb, hbm, qb2, qb3, qb4⟩ hbm
   have hjk : jn.keys = na.keys ++ kx :: nb.keys := by
    rw [← hj]
    unfold Nd.Nd.join
    rw [sa, sb, qa2, qb2]
    simp
   have hkj : kd c jn.refs jn.keys = if bl c kx = true then kd c na.refs na.keys else kd c nb.refs nb.keys := by
    rw [j3, hjk]
    exact kd_app c qa4.len (fun k hk => blw_bl ((qa4.keys.2 k hk).2) q3 |> fun z => z)
   have fa : look T3.map c h (kd c na.refs na.keys) = look t.map c h (kd c na.refs na.keys) := by
    obtain ⟨_, _, ns1, _, g1, g2⟩ := qa4.each _ (kd_mem c qa4.len)
    exact g1.look_frame c (fun y hy => hlr y (.inl (g2 y hy)))
   have fb : look T3.map c h (kd c nb.refs nb.keys) = look t.map c h (kd c nb.refs nb.keys) := by
    obtain ⟨_, _, ns1, _, g1, g2⟩ := qb4.each _ (kd_mem c qb4.len)
    exact g1.look_frame c (fun y hy => hlr y (.inr (g2 y hy)))
   by_cases e : kd c p.refs p.keys = x1
   ·rw [if_pos e, e, look_succ hm0, hkj, if_neg (by rw [(hsd c).2 e]; simp), fb, look_succ hbm]
   ·rw [if_neg e]
    by_cases e0 : kd c p.refs p.keys = x0
    ·rw [e0, look_succ hm0, hkj, if_pos ((hsd c).1 e0), fa, look_succ ha]
    ·rcases loc _ (kd_mem c hl) with e2 | e2 | ⟨lo', hi', ns', its', k1, k2⟩
     ·exact absurd e2 e0
     ·exact absurd e2 e
     ·exact k1.look_frame c (fun y hy => hoff y ((k2 y hy).elim .inl (fun h => .inr (.inl h))))
theorem Rep.delLeaf {m : Mm} {r : Rf} {lo hi : ByteArray} {ns : List Rf} {its : List It} {n : Nd.Nd} {key : ByteArray} (h : Rep m 0 r lo hi ns its) (hn : m r = some n) (hf : fnd key n.keys = true) :
  Rep (upd m r (n.delete key).1) 0 r lo hi ns (delI key its) ∧ (n.delete key).1.refs.length + 1 = n.refs.length ∧ (n.delete key).1.keys.length ≤ n.keys.length ∧ (n.delete key).1.ver = wrap64 (n.ver + 1) ∧ (n.delete key).2.2 = true := by
 obtain ⟨n', a, b, c, d, e, f, g⟩ := h
 rw [hn] at a; cases a
 have hk := (fnd_at _ _).1 hf
 have hlt := (List.getElem?_eq_some_iff.1 hk).1
 have hfi : (n.find key).2 = true := by
  unfold Nd.Nd.find
  rw [b, c]
  simpa using hf
 have hp : n.delete key = ({ n with ver := wrap64 (n.ver + 1), keys := n.keys.take (plc key n.keys) ++ n.keys.drop (plc key n.keys + 1), refs := n.refs.take (plc key n.keys) ++ n.refs.drop (plc key n.keys + 1) }, (n.refs[plc key n.keys]?).getD (0, 0), true) := by
  unfold Nd.Nd.delete
  rw [if_pos hfi]
 obtain ⟨rr, hrr⟩ : ∃ rr, n.refs[plc key n.keys]? = some rr := ⟨_, List.getElem?_eq_getElem (by omega)⟩
 have hks : n.keys = n.keys.take (plc key n.keys) ++ [key] ++ n.keys.drop (plc key n.keys + 1) := by
  conv => lhs; rw [← List.take_append_drop (plc key n.keys) n.keys]
  rw [List.drop_eq_getElem_cons hlt, (List.getElem?_eq_some_iff.1 hk).2]
  simp
 have hrs : n.refs = n.refs.take (plc key n.keys) ++ [rr] ++ n.refs.drop (plc key n.keys + 1) := by
  conv => lhs; rw [← List.take_append_drop (plc key n.keys) n.refs]
  rw [List.drop_eq_getElem_cons (by omega), (List.getElem?_eq_some_iff.1 hrr).2]
  simp
 have hsub : (n.keys.take (plc key n.keys) ++ n.keys.drop (plc key n.keys + 1)).Sublist n.keys := by
  conv => rhs; rw [hks]
  rw [List.append_assoc]
  exact List.Sublist.append_left (List.sublist_cons_self _ _) _
 rw [hp]
 refine ⟨⟨_, upd_self _ _ _, b, ?_, d.sublist hsub, fun k hk' => e k (hsub.mem hk'), f, ?_⟩, ?_, hsub.length_le, rfl, rfl⟩
 ·simp only [List.length_append, List.length_take, List.length_drop]; omega
 ·rw [g]
  unfold itemsOf
  simp only []
  have hz : n.keys.zip n.refs = (n.keys.take (plc key n.keys)).zip (n.refs.take (plc key n.keys)) ++ [(key, rr)] ++ (n.keys.drop (plc key n.keys + 1)).zip (n.refs.drop (plc key n.keys + 1)) := by
   conv => lhs; rw [hks, hrs]
   rw [zip_cut _ _ _ _ _ _ (by rw [List.length_take, List.length_take, c])]
   simp
  rw [hz, delI_mid (fun y hy => ?_) (fun y hy => ?_), List.zip_append (by rw [List.length_take, List.length_take, c])]
  ·simp [delI]
  ·have hm := (List.of_mem_zip (a := y.1) (b := y.2) hy).1
   obtain ⟨j, hj⟩ := List.getElem?_of_mem hm
   have hl := (List.getElem?_eq_some_iff.1 hj).1
   rw [List.length_take] at hl
   rw [List.getElem?_take, if_pos (by omega)] at hj
   have h3 : j < plc key n.keys := by omega
   exact plc_ahead h3 hj
  ·have hm := (List.of_mem_zip (a := y.1) (b := y.2) hy).1
   obtain ⟨j, hj⟩ := List.getElem?_of_mem hm
   rw [List.getElem?_drop] at hj
   have h3 : plc key n.keys < plc key n.keys + 1 + j := by omega
   exact asc_lt d h3 hk hj
 ·simp only [List.length_append, List.length_take, List.length_drop]; omega
end
section
attribute [local irreducible] bl
variable {N : Nat}
structure DP (N m : Nat) (t t' : Tm) (h : Nat) (r : Rf) (lo hi : ByteArray) (ns : List Rf) (its' : List It) (V : Int) (G ns' : List Rf) : Prop where
 wf : t'.Wf N
 room : t'.p.room = t.p.room
 root : t'.root = t.root
 gone : t'.gone = t.gone ++ G
 rep : Rep t'.map h r lo hi ns' its'
 perm : (ns' ++ G).Perm ns
 off : ∀ x, x ∉ ns → t'.map x = t.map x
 has : ∀ x ∈ G, t'.map x ≠ none
 small : ∀ x ∈ ns', Small t' x
 ver : ∀ x ∈ ns', Ver t' (V + 2) x
 verR : Ver t' (V + 1) r
 bd : Bd t' m
 lk : ∀ c, look t'.map c h r = look t.map c h r ∨ look t.map c h r ∈ G
 evo : Evo t.map t'.map
 bump : ∀ x ∈ G, Bump t.map t'.map x
theorem DP.join {m : Nat} {t t1 t2 : Tm} {h : Nat} {r x0 x1 : Rf} {lo hi : ByteArray} {ns nsS ns' G : List Rf} {its : List It} {V : Int} (d : DP N m t t1 h r lo hi ns its V G nsS) (j : JP N m t1 t2 h r x0 x1 lo hi nsS ns' its) (hnd : ns.Nodup) (h0 : Ver t1 (V + 1) x0) (hr : 0 ≤ (t1.at r).ver ∧ (t1.at r).ver ≤ V) (hV2 : V ≤ 4611686018427387000) (hS : ∀ x ∈ ns, t.map x ≠ none) : DP N m t t2 h r lo hi ns its V (G ++ [x1]) ns' := by
 have hw0 := wrap_up (v := (t1.at x0).ver) h0.1 h0.2 (by omega)
 have hwr := wrap_up (v := (t1.at r).ver) hr.1 hr.2 (by omega)
 have hsub : ∀ x ∈ ns', x ∈ nsS := fun x hx => j.perm.mem_iff.1 (List.mem_append_left _ hx)
 have hsub2 : ∀ x ∈ nsS, x ∈ ns := fun x hx => d.perm.mem_iff.1 (List.mem_append_left _ hx)
 have hrS : r ∈ nsS := by
  obtain ⟨_, _, _, e⟩ := j.rep.head
  exact hsub r (by rw [e]; simp)
 have hndS : (nsS ++ G).Nodup := d.perm.nodup_iff.2 hnd
 have hrs := d.small r hrS
 unfold Small at hrs
 have hrr := j.rr
 refine ⟨j.wf, j.room.trans d.room, j.root.trans d.root, by rw [j.gone, d.gone, List.append_assoc], j.rep, ?_, fun x hx => ?_, fun x hx => ?_, fun x hx => ?_, fun x hx => ?_, ?_, j.bd, fun c => ?_, d.evo.trans j.evo, fun x hx => ?_⟩
 ·have p1 : (ns' ++ (G ++ [x1])).Perm ((ns' ++ [x1]) ++ G) := by
   rw [List.append_assoc]
   exact List.Perm.append_left _ List.perm_append_comm
  exact p1.trans ((j.perm.append_right G).trans d.perm)
 ·rw [j.off x (fun hm => hx (hsub2 x hm)), d.off x hx]
 ·rcases List.mem_append.1 hx with hx | hx
  ·rw [j.off x (fun hm => (List.nodup_append.1 hndS).2.2 x hm x hx rfl)]
   exact d.has x hx
  ·rw [List.mem_singleton.1 hx]
   exact j.has
 ·unfold Small
  by_cases e : x = r
  ·rw [e]; omega
  ·by_cases e2 : x = x0
   ·rw [e2]; exact j.xr
   ·rw [j.same x hx e e2]; exact d.small x (hsub x hx)
 ·unfold Ver
  by_cases e : x = r
  ·rw [e, j.rv, hwr]; omega
  ·by_cases e2 : x = x0
   ·have := h0; unfold Ver at this
    rw [e2, j.xv, hw0]; omega
   ·rw [j.same x hx e e2]; exact d.ver x (hsub x hx)
 ·unfold Ver
  rw [j.rv, hwr]; omega
 ·rcases j.lk c with e | e
  ·rw [e]
   exact (d.lk c).elim .inl (fun h => .inr (List.mem_append_left _ h))
  ·rcases d.lk c with e2 | e2
   ·right
    rw [← e2, e]
    simp
   ·exact .inr (List.mem_append_left _ e2)
 ·rcases List.mem_append.1 hx with hx | hx
  ·exact (d.bump x hx).evo j.evo
  ·have hx1 : x1 ∈ nsS := j.perm.mem_iff.1 (by simp)
   rw [List.mem_singleton.1 hx]
   exact d.evo.bump j.bump (hS x1 (hsub2 x1 hx1))
theorem join_small {t : Tm} {up : Rf} {i : Int} (h : i < 0 ∨ ((t.at up).refs.length : Int) ≤ i + 1) : (t.join up i).2.2 = false := by
 unfold Tm.join
 rw [if_pos h]
theorem join_big {t : Tm} {up : Rf} {i : Nat} {x0 x1 : Rf} (h0 : (t.at up).refs[i]? = some x0) (h1 : (t.at up).refs[i + 1]? = some x1) (h : 4 < (t.at x0).refs.length + (t.at x1).refs.length) : (t.join up (i : Int)).2.2 = false := by
 have e0 : refI (t.at up) i = x0 := by unfold refI; rw [List.getD_eq_getElem?_getD, h0]; rfl
 have e1 : refI (t.at up) (i + 1) = x1 := by unfold refI; rw [List.getD_eq_getElem?_getD, h1]; rfl
 unfold Tm.join
 split
 ·rfl
 ·rw [Int.toNat_natCast, e0, e1, if_pos h]
theorem merge_fst {t t' : Tm} {up x x1 : Rf} {i : Int} (hi : idx x (t.at up).refs = i) (h : t.join up (i - 1) = (t', x1, true)) : t.merge up x = (t', x1, true) := by
 unfold Tm.merge
 simp only []
 rw [hi, h]
 rfl
theorem merge_snd {t : Tm} {up x : Rf} {i : Int} (hi : idx x (t.at up).refs = i) (h : (t.join up (i - 1)).2.2 = false) : t.merge up x = t.join up i := by
 unfold Tm.merge
 simp only []
 rw [hi, h]
 rfl
theorem Rep.del (t : Tm) (hw : t.Wf N) (key : ByteArray) (V : Int) (hV : 1 ≤ V) (hV2 : V ≤ 4611686018427387000) {m : Nat} (hb : Bd t m) (hm : 4 ≤ m) (hm2 : m ≤ 1000000) (hg : t.gone.length + N + 10 ≤ 1000000) :
  ∀ (h : Nat) (r : Rf) (lo hi : ByteArray) (ns : List Rf) (its : List It), Rep t.map h r lo hi ns its → ns.Nodup → (∀ x ∈ ns, Small t x) → (∀ x ∈ ns, Ver t V x) → bl key lo = false → blw key hi → ns.length ≤ N →
  ∀ (l : List (Rf × Nat)) (q : Rf) (tl : List Rf), Dn t key r l q → wayL l q = r :: tl → fnd key (t.at q).keys = true →
  ∃ t' G ns' b, DP N m t t' h r lo hi ns (delI key its) V G ns' ∧ ∀ (pre : List Rf) (p' : Tm × List Rf) (g0 : List Rf), (b = true → p' = (t', g0 ++ G)) → (b = false → Up1 (pre ++ r :: tl) pre.length (t', g0 ++ G) p') → Up1 (pre ++ r :: tl) (pre.length + tl.length) (t.set q ((t.at q).delete key).1, g0) p'
 | 0, r, lo, hi, ns, its, hr, hnd, hsm, hv, hlo, hhi, hnl, l, q, tl, hd, hway, hf => by
  obtain ⟨n, a, b, c, d, e, f, g⟩ := id hr
  have hat := Tm.map_at a
  rcases hd.inv with ⟨_, rfl, rfl⟩ | ⟨r', l2, h1, _⟩
  ·have htl : tl = [] := by simpa [wayL] using hway.symm
   subst htl
   rw [hat] at hf ⊢
   obtain ⟨p1, p2, p3, p4, p5⟩ := hr.delLeaf a hf
   obtain ⟨m1, m2, m3, m4, m5⟩ := Tm.mset (n := (n.delete key).1) hw a
   have hr1 : (t.set q (n.delete key).1).at q = (n.delete key).1 := Tm.map_at (by rw [m1]; exact upd_self _ _ _)
   have hqn : q ∈ ns := by rw [f]; simp
   have hvr := hv q hqn
   have hsq := hsm q hqn
   unfold Ver at hvr
   unfold Small at hsq
   rw [hat] at hvr hsq
   have hw1 := wrap_up hvr.1 hvr.2 (by omega)
   have hbq := hb.at q
   rw [hat] at hbq
   have hver : Ver (t.set q (n.delete key).1) (V + 1) q := by unfold Ver; rw [hr1, p4, hw1]; omega
   refine ⟨t.set q (n.delete key).1, [], ns, false, ⟨m2, m5, m3, by rw [m4, List.append_nil], by rw [m1]; exact p1, by rw [List.append_nil], fun x hx => ?_, fun x hx => by simp at hx, fun x hx => ?_, fun x hx => ?_, hver, hb.set q ⟨by omega, by omega⟩, fun c => .inl rfl, by rw [m1]; exact Evo.upd a (.inr (by rw [p4, hw1]; omega)), fun x hx => by simp at hx⟩, fun pre p' g0 h1 h2 => ?_⟩
   ·rw [m1]
    exact upd_ne (fun e => hx (by rw [e]; exact hqn))
   ·rw [f] at hx
    rw [List.mem_singleton.1 hx]
    unfold Small
    rw [hr1]; omega
   ·rw [f] at hx
    rw [List.mem_singleton.1 hx]
    have h1 := hver.1
    have h2 := hver.2
    exact ⟨h1, by omega⟩
   ·have := h2 rfl
    rw [List.append_nil] at this
    exact this
  ·rw [hat, b] at h1; cases h1
 | h + 1, r, lo, hi, ns, its, hr, hnd, hsm, hv, hlo, hhi, hnl, l, q, tl, hd, hway, hf => by
  obtain ⟨n, ns0, a, b, c, d⟩ := id hr
  have hat := Tm.map_at a
  have hsh := hr.shape a
  have hk := d.keys
  have hl := d.len
  rcases hd.inv with ⟨h1, _⟩ | ⟨r', l2, _, _, hk', hd', rfl⟩
  ·rw [hat, b] at h1; cases h1
  obtain ⟨tl', htl'⟩ := hd'.way
  have htl : tl = r' :: tl' := by
   have : wayL ((r, (t.at r).child key) :: l2) q = r :: wayL l2 q := rfl
   rw [this, htl'] at hway
   exact (List.cons.inj hway).2.symm
  subst htl
  obtain ⟨i, hie⟩ : ∃ i, plc key n.keys + (if fnd key n.keys then 1 else 0) = i := ⟨_, rfl⟩
  have hc : (t.at r).child key = i := by rw [hat]; unfold Nd.Nd.child; rw [b, hsh]; simpa using hie
  rw [hc, hat] at hk'
  obtain ⟨h1, h2, h3⟩ := child_facts hk.1 hie
  obtain ⟨A, B, n1, n2, n3, t1, t2, t3, e1, e2, e3, e4, e5, e6, e7, e8⟩ := d.focus (fun _ _ _ _ _ h => h.range) i 1 (Nat.le_refl _) (by omega)
  have hd1 : (n.refs.drop i).take 1 = [r'] := by
   rw [List.drop_eq_getElem_cons (by omega), (List.getElem?_eq_some_iff.1 hk').2]
   rfl
  rw [hd1] at e1
  have e1' : Rep t.map h r' A B n2 t2 := by
   cases e1 with
   | one e1 => exact e1
  have hA : bl key A = false := by
   rcases e4 with ⟨_, rfl⟩ | ⟨e4, e4', _⟩
   ·exact hlo
   ·exact h2 A e4 e4'
  have hB : blw key B := by
   rcases e5 with ⟨_, rfl⟩ | ⟨_, e5', _⟩
   ·exact hhi
   ·rw [Nat.add_sub_cancel] at e5'
    exact .inr (h3 B e5')
  have hsub : ∀ x ∈ n2, x ∈ ns := fun x hx => by rw [c, e2]; simp [hx]
  have hnd0 := hnd
  rw [c, e2] at hnd
  obtain ⟨hnr, hnd1⟩ := List.nodup_cons.1 hnd
  have hnd2 : n2.Nodup := (List.nodup_append.1 (List.nodup_append.1 hnd1).1).2.1
  have hn2l : n2.length ≤ N := by rw [c, e2] at hnl; simp only [List.length_cons, List.length_append] at hnl; omega
  obtain ⟨s, G1, ns2, b1, dp, cps⟩ := Rep.del t hw key V hV hV2 hb hm hm2 hg h r' A B n2 t2 e1' hnd2 (fun x hx => hsm x (hsub x hx)) (fun x hx => hv x (hsub x hx)) hA hB hn2l l2 q tl' hd' htl' hf
  have hdel : delI key its = t1 ++ delI key t2 ++ t3 := by
   rw [e3]
   refine delI_mid (fun y hy => bl_of_ble (e6 y hy) hA) (fun y hy => ?_)
   obtain ⟨hb1, hb2⟩ := e7 y hy
   exact bl_of_ble (hB.elim (fun e => absurd e hb1) id) hb2
  have hS : ∀ x ∈ ns, t.map x ≠ none := fun x hx => isS_of (hr.isS x hx)
  have hrns : r ∈ ns := by rw [c]; simp
  have hrn2 : r ∉ n2 := fun hm => hnr (by simp [hm])
  have hr's : r' ∈ n2 := by obtain ⟨_, _, _, e⟩ := e1'.head; rw [e]; simp
  have hn13 : ∀ x, x ∈ n1 ∨ x ∈ n3 → x ∈ ns ∧ x ∉ n2 ∧ x ≠ r := by
   intro x hx
   have hd1 := List.nodup_append.1 hnd1
   have hd2 := List.nodup_append.1 hd1.1
   refine ⟨by rw [c, e2]; rcases hx with hx | hx <;> simp [hx], fun hm => ?_, fun e => hnr (by rw [← e]; rcases hx with hx | hx <;> simp [hx])⟩
   rcases hx with hx | hx
   ·exact hd2.2.2 x hx x hm rfl
   ·exact hd1.2.2 x (by simp [hm]) x hx rfl
  have off : ∀ x, x ∈ n1 ∨ x ∈ n3 → s.map x = t.map x := fun x hx => dp.off x (hn13 x hx).2.1
  have offr : s.map r = t.map r := dp.off r hrn2
  have hmem2 : ∀ x ∈ ns2, x ∈ n2 := fun x hx => dp.perm.mem_iff.1 (List.mem_append_left _ hx)
  have hrest : ∀ x, x ∈ n1 ∨ x ∈ n3 → s.at x = t.at x := fun x hx => at_of (off x hx) (hS x (hn13 x hx).1)
  have hratr : s.at r = n := by rw [at_of offr (hS r hrns), hat]
  have hr'2 : r' ∈ ns2 := by obtain ⟨_, _, _, e⟩ := dp.rep.head; rw [e]; simp
  have hperm : ((r :: (n1 ++ ns2 ++ n3)) ++ G1).Perm ns := by
   rw [c, e2, List.cons_append]
   refine List.Perm.cons _ ?_
   have p1 : (n1 ++ ns2 ++ n3 ++ G1).Perm (n1 ++ (ns2 ++ G1) ++ n3) := by
    simp only [List.append_assoc]
    exact List.Perm.append_left _ (List.Perm.append_left _ List.perm_append_comm)
   exact p1.trans (List.Perm.append_right _ (List.Perm.append_left _ dp.perm))
  have hrow := e8 (Rep s.map h) [r'] [] ns2 (delI key t2) (fun r lo hi ns' its' hx hp => hp.frame (fun x hx' => off x (hx x hx'))) (.one dp.rep)
  have g1 : n.refs.take i ++ [r'] ++ n.refs.drop (i + 1) = n.refs := by
   rw [← hd1, List.append_assoc]
   conv => rhs; rw [← List.take_append_drop i n.refs, ← List.take_append_drop 1 (n.refs.drop i)]
   rw [List.drop_drop]
  have g2 : n.keys.take i ++ [] ++ n.keys.drop (i + 1 - 1) = n.keys := by
   rw [List.append_nil, Nat.add_sub_cancel, List.take_append_drop]
  rw [g1, g2, ← hdel] at hrow
  have hvr := hv r hrns
  unfold Ver at hvr
  rw [hat] at hvr
  have hloc := e8 (fun x _ _ _ _ => x = r' ∨ ∃ lo hi ns' its', Rep t.map h x lo hi ns' its' ∧ ∀ y ∈ ns', y ∈ n1 ∨ y ∈ n3) [r'] [] [] [] (fun x lo hi ns' its' hx hp => .inr ⟨lo, hi, ns', its', hp, hx⟩) (.one (.inl rfl))
  rw [g1, g2] at hloc
  have lkS : ∀ c, look s.map c (h + 1) r = look t.map c (h + 1) r ∨ look t.map c (h + 1) r ∈ G1 := fun c => by
   rw [look_succ a, look_succ (offr.trans a)]
   obtain ⟨_, _, _, _, h1, _⟩ := hloc.each _ (kd_mem c hl)
   rcases h1 with e | ⟨lo', hi', ns', its', k1, k2⟩
   ·rw [e]; exact dp.lk c
   ·left
    exact k1.look_frame c (fun y hy => off y (k2 y hy))
  have dpS : DP N m t s (h + 1) r lo hi ns (delI key its) V G1 (r :: (n1 ++ ns2 ++ n3)) := by
   refine ⟨dp.wf, dp.room, dp.root, dp.gone, ⟨n, n1 ++ ns2 ++ n3, offr.trans a, b, rfl, hrow⟩, hperm, fun x hx => dp.off x (fun hm => hx (hsub x hm)), dp.has, fun x hx => ?_, fun x hx => ?_, ?_, dp.bd, lkS, dp.evo, dp.bump⟩
   ·rcases List.mem_cons.1 hx with rfl | hx
    ·unfold Small; rw [hratr]; have := hsm x hrns; unfold Small at this; rw [hat] at this; exact this
    ·simp only [List.mem_append] at hx
     rcases hx with (hx | hx) | hx
     ·unfold Small; rw [hrest x (.inl hx)]; exact hsm x (hn13 x (.inl hx)).1
     ·exact dp.small x hx
     ·unfold Small; rw [hrest x (.inr hx)]; exact hsm x (hn13 x (.inr hx)).1
   ·rcases List.mem_cons.1 hx with rfl | hx
    ·unfold Ver; rw [hratr]; omega
    ·simp only [List.mem_append] at hx
     rcases hx with (hx | hx) | hx
     ·have := hv x (hn13 x (.inl hx)).1
      unfold Ver at this ⊢
      rw [hrest x (.inl hx)]; omega
     ·exact dp.ver x hx
     ·have := hv x (hn13 x (.inr hx)).1
      unfold Ver at this ⊢
      rw [hrest x (.inr hx)]; omega
   ·unfold Ver; rw [hratr]; omega
  have hndS : (r :: (n1 ++ ns2 ++ n3)).Nodup := (List.nodup_append.1 (hperm.nodup_iff.2 hnd0)).1
  have cps1 : ∀ (pre : List Rf) (p' : Tm × List Rf) (g0 : List Rf), (b1 = true → p' = (s, g0 ++ G1)) → (b1 = false → Up1 (pre ++ r :: r' :: tl') (pre.length + 1) (s, g0 ++ G1) p') → Up1 (pre ++ r :: r' :: tl') (pre.length + (r' :: tl').length) (t.set q ((t.at q).delete key).1, g0) p' := fun pre p' g0 k1 k2 => by
   have := cps (pre ++ [r]) p' g0 k1 (fun e => by
    have := k2 e
    simpa [List.append_assoc] using this)
   have e1 : (pre ++ [r]) ++ r' :: tl' = pre ++ r :: r' :: tl' := by simp
   have e2 : (pre ++ [r]).length + tl'.length = pre.length + (r' :: tl').length := by simp only [List.length_append, List.length_cons, List.length_nil]; omega
   rw [e1, e2] at this
   exact this
  have gA : ∀ pre : List Rf, (pre ++ r :: r' :: tl').getD pre.length (0, 0) = r := fun pre => by simp [List.getD_eq_getElem?_getD]
  have gB : ∀ pre : List Rf, (pre ++ r :: r' :: tl').getD (pre.length + 1) (0, 0) = r' := fun pre => by simp [List.getD_eq_getElem?_getD]
  cases hb1 : b1
  ·by_cases hsz : (s.at r').refs.length < 2
   ·have hil : i < n.refs.length := (List.getElem?_eq_some_iff.1 hk').1
    have hrl := hsm r hrns
    unfold Small at hrl
    rw [hat] at hrl
    have hGl : G1.length ≤ N := by
     have := dp.perm.length_eq
     rw [List.length_append] at this
     omega
    have ho : JOk s r := ⟨by rw [hratr]; exact ⟨by omega, by omega, hk.1⟩, by rw [hratr]; exact hl, dp.bd.mono hm2, by rw [dp.gone, List.length_append]; omega⟩
    have hrefs : n.refs.Nodup := (List.nodup_cons.1 (by rw [c] at hnd0; exact hnd0)).2.sublist (d.heads (fun r lo hi ns its hp => by obtain ⟨_, ns', _, e⟩ := hp.head; exact ⟨ns', e⟩))
    have hidx : idx r' (s.at r).refs = (i : Int) := by
     rw [hratr]
     have hF : idxF r' n.refs = i := idxF_hit hk' (fun j x hj hx e => by
      subst e
      have := (List.getElem?_inj (List.getElem?_eq_some_iff.1 hx).1 hrefs).1 (hx.trans hk'.symm)
      omega)
     unfold idx
     rw [hF, if_pos (by omega)]
    -- what a join gives
    have fin : ∀ (x0 x1 : Rf) (t2 : Tm) (ns' : List Rf), s.merge r r' = (t2, x1, true) → JP N m s t2 (h + 1) r x0 x1 lo hi (r :: (n1 ++ ns2 ++ n3)) ns' (delI key its) → Ver s (V + 1) x0 → ∃ t' G ns' b, DP N m t t' (h + 1) r lo hi ns (delI key its) V G ns' ∧ ∀ (pre : List Rf) (p' : Tm × List Rf) (g0 : List Rf), (b = true → p' = (t', g0 ++ G)) → (b = false → Up1 (pre ++ r :: r' :: tl') pre.length (t', g0 ++ G) p') → Up1 (pre ++ r :: r' :: tl') (pre.length + (r' :: tl').length) (t.set q ((t.at q).delete key).1, g0) p' := fun x0 x1 t2 ns' hmg jp hv0 => by
     refine ⟨t2, G1 ++ [x1], ns', false, dpS.join jp hnd0 hv0 (by rw [hratr]; exact hvr) hV2 hS, fun pre p' g0 k1 k2 => cps1 pre p' g0 (fun e => by rw [hb1] at e; cases e) (fun _ => ?_)⟩
     refine Up1.yes pre.length _ _ (by rw [gB]; exact hsz) (by rw [gA]; exact ho) (by rw [gA, gB]; simp only []; rw [hmg]) ?_
     rw [gA, gB]
     simp only []
     rw [hmg]
     have := k2 rfl
     rw [← List.append_assoc] at this
     exact this
    have hR := e8 (fun x _ _ _ _ => x = r' ∨ x ∈ n1 ∨ x ∈ n3) [r'] [] [] [] (fun x lo hi ns' its' hx hp => by obtain ⟨_, _, _, e⟩ := hp.head; exact .inr (hx x (by rw [e]; simp))) (.one (.inl rfl))
    rw [g1, g2] at hR
    have sib : ∀ (j : Nat) (x : Rf), j ≠ i → n.refs[j]? = some x → Ver s (V + 1) x := fun j x hj hx => by
     have hxr : x ≠ r' := fun e => by
      subst e
      have := (List.getElem?_inj (List.getElem?_eq_some_iff.1 hx).1 hrefs).1 (hx.trans hk'.symm)
      omega
     obtain ⟨_, _, _, _, h13, _⟩ := hR.each x (List.mem_of_getElem? hx)
     have h13 : x ∈ n1 ∨ x ∈ n3 := h13.resolve_left hxr
     have := hv x (hn13 x h13).1
     unfold Ver at this ⊢
     rw [hrest x h13]; omega
    have nof : (s.merge r r').2.2 = false → ∃ t' G ns' b, DP N m t t' (h + 1) r lo hi ns (delI key its) V G ns' ∧ ∀ (pre : List Rf) (p' : Tm × List Rf) (g0 : List Rf), (b = true → p' = (t', g0 ++ G)) → (b = false → Up1 (pre ++ r :: r' :: tl') pre.length (t', g0 ++ G) p') → Up1 (pre ++ r :: r' :: tl') (pre.length + (r' :: tl').length) (t.set q ((t.at q).delete key).1, g0) p' := fun hno => by
     refine ⟨s, G1, _, true, dpS, fun pre p' g0 k1 k2 => cps1 pre p' g0 (fun e => by rw [hb1] at e; cases e) (fun _ => ?_)⟩
     rw [k1 rfl]
     exact Up1.no _ _ (by rw [gB]; exact hsz) (by rw [gA]; exact ho) (by rw [gA, gB]; exact hno)
    have hvS : ∀ x ∈ r :: (n1 ++ ns2 ++ n3), 0 ≤ (s.at x).ver ∧ (s.at x).ver ≤ 4611686018427387902 := fun x hx => by
     have h1 := (dpS.ver x hx).1
     have h2 := (dpS.ver x hx).2
     exact ⟨h1, by omega⟩
    have first : (∃ x0 t2 ns', s.join r ((i : Int) - 1) = (t2, r', true) ∧ JP N m s t2 (h + 1) r x0 r' lo hi (r :: (n1 ++ ns2 ++ n3)) ns' (delI key its) ∧ Ver s (V + 1) x0) ∨ (s.join r ((i : Int) - 1)).2.2 = false := by
     by_cases hi0 : i = 0
     ·exact .inr (join_small (.inl (by omega)))
     ·obtain ⟨j, hj⟩ : ∃ j, i = j + 1 := ⟨i - 1, by omega⟩
      obtain ⟨x0, hx0⟩ : ∃ x0, n.refs[j]? = some x0 := ⟨_, List.getElem?_eq_getElem (by omega)⟩
      have hk2 : n.refs[j + 1]? = some r' := by rw [← hj]; exact hk'
      rw [show (i : Int) - 1 = (j : Int) by omega]
      by_cases hs4 : (s.at x0).refs.length + (s.at r').refs.length ≤ 4
      ·obtain ⟨t2, ns', k1, k2⟩ := dpS.rep.joinStep dpS.wf hndS (i := j) (by rw [hratr]; exact hx0) (by rw [hratr]; exact hk2) hs4 dpS.bd hm hvS
       exact .inl ⟨x0, t2, ns', k1, k2, sib j x0 (by omega) hx0⟩
      ·exact .inr (join_big (by rw [hratr]; exact hx0) (by rw [hratr]; exact hk2) (by omega))
    rcases first with ⟨x0, t2, ns', k1, k2, k3⟩ | first
    ·exact fin x0 r' t2 ns' (merge_fst hidx k1) k2 k3
    ·have hmg := merge_snd hidx first
     by_cases hlast : i + 1 < n.refs.length
     ·obtain ⟨x1, hx1⟩ : ∃ x1, n.refs[i + 1]? = some x1 := ⟨_, List.getElem?_eq_getElem hlast⟩
      by_cases hs4 : (s.at r').refs.length + (s.at x1).refs.length ≤ 4
      ·obtain ⟨t2, ns', k1, k2⟩ := dpS.rep.joinStep dpS.wf hndS (i := i) (by rw [hratr]; exact hk') (by rw [hratr]; exact hx1) hs4 dpS.bd hm hvS
       exact fin r' x1 t2 ns' (hmg.trans k1) k2 dp.verR
      ·exact nof (by rw [hmg]; exact join_big (by rw [hratr]; exact hk') (by rw [hratr]; exact hx1) (by omega))
     ·exact nof (by rw [hmg]; exact join_small (.inr (by rw [hratr]; omega)))
   ·refine ⟨s, G1, _, true, dpS, fun pre p' g0 k1 k2 => cps1 pre p' g0 (fun e => by rw [hb1] at e; cases e) (fun _ => ?_)⟩
    rw [k1 rfl]
    exact Up1.big _ _ (by rw [gB]; exact hsz)
  ·exact ⟨s, G1, _, true, dpS, fun pre p' g0 k1 k2 => cps1 pre p' g0 (fun _ => k1 rfl) (fun e => by rw [hb1] at e; cases e)⟩
end
section
attribute [local irreducible] bl
variable {N : Nat}
structure SP (N m : Nat) (t : Tm) (h : Nat) (ns : List Rf) (its : List It) (V : Int) (G g0 ns0 : List Rf) (R : Int) : Prop where
 wf : t.Wf N
 rep : Rep t.map h t.root ⟨#[]⟩ ⟨#[]⟩ ns its
 small : ∀ x ∈ ns, Small t x
 ver : ∀ x ∈ ns, Ver t V x
 perm : (ns ++ G).Perm ns0
 has : ∀ x ∈ G, t.map x ≠ none
 gone : t.gone = g0 ++ G
 room : t.p.room = R
 bd : Bd t m
theorem SP.sink {m : Nat} {V : Int} (hV : V ≤ 4611686018427387902) {g0 ns0 : List Rf} {R : Int} (hnd : ns0.Nodup) (hg : g0.length + ns0.length < 1000000) : ∀ (h : Nat) (t : Tm) (ns : List Rf) (its : List It) (G : List Rf), SP N m t h ns its V G g0 ns0 R → ∃ k p2 h' ns', Up2 k (t, G) p2 ∧ SP N m p2.1 h' ns' its V p2.2 g0 ns0 R ∧ h' ≤ h ∧ (∀ c, look p2.1.map c h' p2.1.root = look t.map c h t.root) ∧ Evo t.map p2.1.map
 | 0, t, ns, its, G, sp => by
  obtain ⟨n, a, b, _⟩ := id sp.rep
  exact ⟨0, (t, G), 0, ns, Up2.stop 0 _ (.inl (by simp only []; rw [Tm.map_at a]; exact b)), sp, Nat.le_refl _, fun _ => rfl, Evo.refl _⟩
 | h + 1, t, ns, its, G, sp => by
  obtain ⟨n, ns1, a, b, c, d⟩ := id sp.rep
  have hat := Tm.map_at a
  by_cases h1 : n.refs.length = 1
  ·obtain ⟨x, hx⟩ : ∃ x, n.refs = [x] := List.length_eq_one_iff.1 h1
   have hl := d.len
   have hk : n.keys = [] := List.eq_nil_of_length_eq_zero (by omega)
   rw [hx, hk] at d
   have d' : Rep t.map h x ⟨#[]⟩ ⟨#[]⟩ ns1 its := by
    cases d with
    | one d => exact d
   have hndG : (ns ++ G).Nodup := sp.perm.nodup_iff.2 hnd
   have hnd1 := (List.nodup_append.1 hndG).1
   rw [c] at hnd1
   obtain ⟨hr1, hnd2⟩ := List.nodup_cons.1 hnd1
   obtain ⟨m1, m2, m3, m4, m5⟩ := Tm.mset (n := up1 (t.at t.root)) sp.wf a
   have hsm : t.sink.map = upd t.map t.root (up1 (t.at t.root)) := m1
   have hsr : t.sink.root = x := by
    show refI (t.at t.root) 0 = x
    unfold refI
    rw [hat, hx]
    rfl
   have hsg : t.sink.gone = t.gone ++ [t.root] := rfl
   have hne : ∀ y ∈ ns1, y ≠ t.root := fun y hy e => hr1 (by rw [← e]; exact hy)
   have hat1 : ∀ y ∈ ns1, t.sink.at y = t.at y := fun y hy => at_of (by rw [hsm, upd_ne (hne y hy)]) (isS_of (d'.isS y hy))
   have sp' : SP N m t.sink h ns1 its V (G ++ [t.root]) g0 ns0 R := by
    refine ⟨m2, by rw [hsr]; exact d'.frame (fun y hy => by rw [hsm, upd_ne (hne y hy)]), fun y hy => ?_, fun y hy => ?_, ?_, fun y hy => ?_, by rw [hsg, sp.gone, List.append_assoc], m5.trans sp.room, ?_⟩
    ·unfold Small; rw [hat1 y hy]; exact sp.small y (by rw [c]; exact List.mem_cons_of_mem _ hy)
    ·unfold Ver; rw [hat1 y hy]; exact sp.ver y (by rw [c]; exact List.mem_cons_of_mem _ hy)
    ·refine List.Perm.trans ?_ sp.perm
     rw [c, ← List.append_assoc]
     exact List.perm_append_comm
    ·rw [hsm]
     by_cases e : y = t.root
     ·rw [e, upd_self]; simp
     ·rw [upd_ne e]
      rcases List.mem_append.1 hy with hy | hy
      ·exact sp.has y hy
      ·exact absurd (List.mem_singleton.1 hy) e
    ·show Bd (t.set t.root (up1 (t.at t.root))) m
     exact sp.bd.set t.root (sp.bd.at t.root)
   obtain ⟨k, p2, h', ns', u1, u2, u3, u4, u5⟩ := SP.sink hV hnd hg h t.sink ns1 its (G ++ [t.root]) sp'
   have hlen := sp.perm.length_eq
   rw [List.length_append] at hlen
   have hvr := sp.ver t.root (by rw [c]; simp)
   unfold Ver at hvr
   rw [hat] at hvr
   have hw := wrap_up hvr.1 hvr.2 (by omega)
   have hevo : Evo t.map t.sink.map := by rw [hsm, hat]; exact Evo.upd a (.inr (by unfold up1; simp only []; rw [hw]; omega))
   refine ⟨k + 1, p2, h', ns', Up2.step k _ _ (by simp only []; rw [hat]; exact b) (by simp only []; rw [hat]; exact h1) (by simp only []; rw [sp.gone, List.length_append]; omega) u1, u2, by omega, fun c => ?_, hevo.trans u5⟩
   rw [u4 c, hsr, look_succ a, hx, hk]
   show look t.sink.map c h x = look t.map c h x
   exact d'.look_frame c (fun y hy => by rw [hsm, upd_ne (hne y hy)])
  ·exact ⟨0, (t, G), h + 1, ns, Up2.stop 0 _ (.inr (by simp only []; rw [hat]; exact h1)), sp, Nat.le_refl _, fun _ => rfl, Evo.refl _⟩
variable {t : Tm} {h : Nat} {ns : List Rf} {its : List It} {V : Int}
theorem Inv.del (iv : Inv t N h ns its V) (hV : 1 ≤ V) (hV2 : V ≤ 4611686018427387000) {m : Nat} (hb : Bd t m) (hm : 4 ≤ m) (hm2 : m ≤ 1000000) (hN : t.gone.length + N + 10 ≤ 900000) (key : ByteArray) {l : List (Rf × Nat)} {q : Rf} (hd : Dn t key t.root l q) (hf : fnd key (t.at q).keys = true) :
  ∃ p1 p2 k2 h' ns', Up1 (wayL l q) l.length (t.set q ((t.at q).delete key).1, []) p1 ∧ Up2 k2 p1 p2 ∧ Inv p2.1 N h' ns' (delI key its) (V + 2) ∧ p2.1.gone = t.gone ++ p2.2 ∧ (ns' ++ p2.2).Perm ns ∧ (∀ x ∈ p2.2, p2.1.map x ≠ none) ∧ Bd p2.1 m ∧ h' ≤ h ∧ (∀ c, look p2.1.map c h' p2.1.root = look t.map c h t.root ∨ Bump t.map p2.1.map (look t.map c h t.root)) ∧ Evo t.map p2.1.map := by
 obtain ⟨tl, htl⟩ := hd.way
 have hlen := iv.len
 obtain ⟨t1, G, ns1, b, dp, cps⟩ := Rep.del t iv.wf key V hV hV2 hb hm hm2 (by omega) h t.root ⟨#[]⟩ ⟨#[]⟩ ns its iv.rep iv.nod iv.sm iv.ver (bl_nil key) (.inl rfl) (by omega) l q tl hd htl hf
 have hll : l.length = tl.length := by
  have := congrArg List.length htl
  simp [wayL] at this
  exact this
 have hu1 := cps [] (t1, G) [] (fun _ => rfl) (fun _ => Up1.top _)
 simp only [List.nil_append, List.length_nil, Nat.zero_add] at hu1
 have sp : SP N m t1 h ns1 (delI key its) (V + 2) G t.gone ns t.p.room := ⟨dp.wf, by rw [dp.root]; exact dp.rep, dp.small, dp.ver, dp.perm, dp.has, dp.gone, dp.room, dp.bd⟩
 obtain ⟨k, p2, h', ns', u1, u2, u3, u4, u5⟩ := SP.sink (by omega) iv.nod (by omega) h t1 ns1 _ G sp
 refine ⟨(t1, G), p2, k, h', ns', by rw [htl, hll]; exact hu1, u1, ⟨u2.wf, u2.rep, (List.nodup_append.1 (u2.perm.nodup_iff.2 iv.nod)).1, u2.small, u2.ver, ?_⟩, u2.gone, u2.perm, u2.has, u2.bd, u3, fun c => ?_, dp.evo.trans u5⟩
 have e1 := u2.perm.length_eq
 rw [List.length_append] at e1
 ·rw [u2.room, iv.cnt, u2.gone, List.length_append]
  omega
 ·rw [u4 c, dp.root]
  exact (dp.lk c).elim .inl (fun h => .inr ((dp.bump _ h).evo u5))
theorem has_drop {s : Ar} {i q : Int} (h : s.has i q = true) (z : List Value) (j g : Int) : (s.drop i z).has j g = if j = i then false else s.has j g := by
 obtain ⟨h1, h2, h3, h4⟩ := Ar.has_lt h
 have hn : (s.drop i z).n = s.n := by simp [Ar.n, Ar.drop]
 have hs : (s.drop i z).slot j = if j.toNat = i.toNat then ⟨z, (s.slot i).gen, false⟩ else s.slot j := by
  rw [Ar.drop, slot_set _ _ _ _ _ _ (by omega)]
 unfold Ar.has
 rw [hn, hs]
 by_cases e : j = i
 ·rw [if_pos e, if_pos (by rw [e])]
  simp
 ·rw [if_neg e]
  by_cases e2 : j.toNat = i.toNat
  ·have : ¬ (0 ≤ j ∧ j < (s.n : Int)) := by omega
   simp [this]
  ·rw [if_neg e2]
theorem Tm.map_free {r : Rf} {n0 : Nd.Nd} (hw : t.Wf N) (h : t.map r = some n0) : (∀ x, x ≠ r → (t.freeN r).map x = t.map x) ∧ (t.freeN r).Wf N ∧ (t.freeN r).root = t.root ∧ (t.freeN r).gone = t.gone ∧ (t.freeN r).p.room = t.p.room + 1 := by
 have hh := Tm.map_has h
 have hh' : t.p.has r.1 r.2 = true := hh
 obtain ⟨h1, h2, h3, h4⟩ := Ar.has_lt hh'
 obtain ⟨w1, w2, w3⟩ := hw
 have e : t.freeN r = { t with p := t.p.drop r.1 [], ns := t.ns.set r.1.toNat nd0 } := by unfold Tm.freeN; rw [if_pos hh]
 have hhas : ∀ x, (t.freeN r).has x = if x.1 = r.1 then false else t.has x := fun x => by rw [e]; exact has_drop hh' [] x.1 x.2
 have hns : (t.freeN r).ns = t.ns.set r.1.toNat nd0 := by rw [e]
 have hn : (t.p.drop r.1 []).n = t.p.n := by simp [Ar.n, Ar.drop]
 have hheld := Ar.held_drop hh' []
 refine ⟨fun x ex => ?_, ⟨by rw [e]; exact w1.drop hh' rfl trivial, by rw [hns, List.length_set, w2], by rw [e, ← w3]; exact hn⟩, by rw [e], by rw [e], by rw [e]; simp only [Ar.room, hn]; omega⟩
 unfold Tm.map
 rw [hhas]
 by_cases e1 : x.1 = r.1
 ·rw [if_pos e1]
  cases hx : t.has x
  ·rfl
  ·obtain ⟨k1, k2, k3, k4⟩ := Ar.has_lt (show t.p.has x.1 x.2 = true from hx)
   exact absurd (Prod.ext e1 (by rw [← k4, ← h4, e1])) ex
 ·rw [if_neg e1]
  cases hx : t.has x
  ·rfl
  ·obtain ⟨k1, k2, k3, k4⟩ := Ar.has_lt (show t.p.has x.1 x.2 = true from hx)
   have hxh : (t.freeN r).has x = true := by rw [hhas, if_neg e1]; exact hx
   rw [if_pos rfl, if_pos rfl, Tm.at_ns hxh, Tm.at_ns hx, hns, List.getD_eq_getElem?_getD, List.getElem?_set_ne (by omega), ← List.getD_eq_getElem?_getD]
structure FI (t : Tm) (N h : Nat) (ns : List Rf) (its : List It) (V : Int) (m : Nat) (G : List Rf) : Prop where
 iv : Inv t N h ns its V
 gone : t.gone = G
 nod : (ns ++ G).Nodup
 has : ∀ x ∈ G, t.map x ≠ none
 bd : Bd t m
theorem FI.free {m : Nat} {g : Rf} {G : List Rf} (f : FI t N h ns its V m (g :: G)) : (t.free g).2 = true ∧ FI (t.free g).1 N h ns its V m G := by
 have hmg := f.has g (by simp)
 obtain ⟨n0, hn0⟩ := Option.ne_none_iff_exists'.1 hmg
 obtain ⟨T, hT⟩ : ∃ T : Tm, ({ t with gone := G } : Tm) = T := ⟨_, rfl⟩
 have hTm : T.map = t.map := by rw [← hT]; rfl
 have hTw : T.Wf N := by rw [← hT]; exact f.iv.wf
 have hTr : T.root = t.root := by rw [← hT]
 have hTg : T.gone = G := by rw [← hT]
 have hTp : T.p = t.p := by rw [← hT]
 have hTn : T.ns = t.ns := by rw [← hT]
 have e : t.free g = (T.freeN g, true) := by
  unfold Tm.free
  rw [f.gone]
  have h0 : idxF g (g :: G) = 0 := by simp [idxF]
  rw [h0, if_pos (by simp), List.eraseIdx_cons_zero, hT, Tm.map_has hn0]
 obtain ⟨a1, a2, a3, a4, a5⟩ := Tm.map_free hTw (by rw [hTm]; exact hn0)
 have hne : ∀ x ∈ ns, x ≠ g := fun x hx e => (List.nodup_append.1 f.nod).2.2 x hx g (by simp) e
 have hmap : ∀ x, x ≠ g → (T.freeN g).map x = t.map x := fun x hx => by rw [a1 x hx, hTm]
 have hat : ∀ x ∈ ns, (T.freeN g).at x = t.at x := fun x hx => at_of (hmap x (hne x hx)) (isS_of (f.iv.rep.isS x hx))
 obtain ⟨q1, q2, q3⟩ := List.nodup_append.1 f.nod
 obtain ⟨q4, q5⟩ := List.nodup_cons.1 q2
 rw [e]
 refine ⟨rfl, ⟨⟨a2, ?_, f.iv.nod, fun x hx => ?_, fun x hx => ?_, ?_⟩, by simp only []; rw [a4, hTg], List.nodup_append.2 ⟨q1, q5, fun x hx y hy => q3 x hx y (List.mem_cons_of_mem _ hy)⟩, fun x hx => ?_, ?_⟩⟩
 ·simp only []
  rw [a3, hTr]
  exact f.iv.rep.frame (fun x hx => hmap x (hne x hx))
 ·simp only []; unfold Small; rw [hat x hx]; exact f.iv.sm x hx
 ·simp only []; unfold Ver; rw [hat x hx]; exact f.iv.ver x hx
 ·simp only []
  have := f.iv.cnt
  rw [f.gone, List.length_cons] at this
  rw [a5, hTp, a4, hTg, this]
  omega
 ·simp only []
  rw [hmap x (fun e => q4 (by rw [← e]; exact hx))]
  exact f.has x (List.mem_cons_of_mem _ hx)
 ·simp only []
  have hb : Bd T m := fun n hn => f.bd n (by rw [← hTn]; exact hn)
  unfold Tm.freeN
  split
  ·intro x hx
   rcases List.mem_or_eq_of_mem_set hx with hx | rfl
   ·exact hb x hx
   ·exact ⟨Nat.zero_le _, Nat.zero_le _⟩
  ·exact hb
end
end Go.Proofs.Ytglbcfkmaamhaaa.Tr
namespace Go.Proofs.Ytglbcfkmaamhaaa.Tr
open Go Go.RowKit Go.Proofs.YtglbcfkmaamhaaaW.PrintWords Go.Proofs.YtglbcfkmaamhaaaW.PrintLast Go.Proofs.YtglbcfkmaamhaaaW.PrintMore Go.Proofs.Ytglbcfkmaamhaaa.Hv Go.Proofs.Ytglbcfkmaamhaaa.Arm Go.Proofs.Ytglbcfkmaamhaaa.Nd Go.Proofs.Ytglbcfkmaamhaaa.ArN
section
variable {w0 w w1 : World} {L L' R : List Ob} {K : Nat × Nat × Nat} {t : Tm} {on : Value}
theorem icelT_at : ∀ (l : List It) (k j : Nat) (x : It) (u : Value), l[k]? = some x → (icel x)[j]? = some u → (l.flatMap icel)[k * 3 + j]? = some u
 | [], k, j, x, u, h, _ => by simp at h
 | a :: l, 0, j, x, u, h, hu => by
  have e : a = x := by simpa using h
  subst e
  have hj := (List.getElem?_eq_some_iff.1 hu).1
  rw [List.flatMap_cons, Nat.zero_mul, Nat.zero_add, List.getElem?_append_left hj]
  exact hu
 | a :: l, k + 1, j, x, u, h, hu => by
  have h1 := icelT_at l k j x u (by simpa using h) hu
  rw [List.flatMap_cons, List.getElem?_append_right (by simp [icel]; omega), show (k + 1) * 3 + j - (icel a).length = k * 3 + j by simp [icel]; omega]
  exact h1
theorem icellsT {l : List It} {a : Addr} {k : Nat} {x : It} (h : Rd 3 w (some a) l.length (l.flatMap icel)) (hx : l[k]? = some x) : w.cell? (a.add (k * 3)) = some (.string x.1) ∧ w.cell? { block := (a.add (k * 3)).block, off := (a.add (k * 3)).off + 1 } = some (.int .i64 x.2.1) ∧ w.cell? { block := (a.add (k * 3)).block, off := (a.add (k * 3)).off + 2 } = some (.int .i64 x.2.2) := by
 have hk := (List.getElem?_eq_some_iff.1 hx).1
 obtain ⟨b, e, hc⟩ := h.2 (by omega)
 cases e
 have z0 := hc (k * 3) _ (icelT_at l k 0 x (.string x.1) hx rfl)
 have z1 := hc (k * 3 + 1) _ (icelT_at l k 1 x (.int .i64 x.2.1) hx rfl)
 have z2 := hc (k * 3 + 2) _ (icelT_at l k 2 x (.int .i64 x.2.2) hx rfl)
 rw [← Addr.add_add] at z1 z2
 exact ⟨z0, z1, z2⟩
abbrev Dd := Int × ByteArray × Rf × (Rf × Int)
def dcel (z : Dd) : List Value := [.int .i64 z.1, .string z.2.1, .int .i64 z.2.2.1.1, .int .i64 z.2.2.1.2, .int .i64 z.2.2.2.1.1, .int .i64 z.2.2.2.1.2, .int .i64 z.2.2.2.2]
def DRow (w : World) (ad : Option Addr) (l : List Dd) : Prop := ∀ k d, l[k]? = some d → ∃ a, ad = some a ∧ ∀ j u, (dcel d)[j]? = some u → w.cell? (a.add (k * 7 + j)) = some u
theorem DRow.below {ad : Option Addr} {l : List Dd} (h : DRow w ad l) (hb : Below w.heap.size w w1) : DRow w1 ad l := fun k d hk => by
 obtain ⟨a, e, h2⟩ := h k d hk
 exact ⟨a, e, fun j u hu => pw_cell_below hb (h2 j u hu)⟩
def FewP (w : World) (l : List Dd) (e : Ending) (w' : World) : Prop := ∃ b : Bool, e = .returned (.bool b) ∧ (b = true → l.length ≤ 120) ∧ Below w.heap.size w w'
theorem few.calls (w : World) (l : List Dd) {ad : Option Addr} {c : Nat} (hl : l.length ≤ 9223372036854775807) (hR : DRow w ad l) : Calls Try.prog 56 #[.slice ad l.length c] w (FewP w l) := by
 have hu77 := Try.underlying77
 have hu87 := Try.underlying87
 have hu9 := Try.underlying9
 have HR := As hR
 clear hR
 by_cases hbig : 120 < l.length
 ·have hb : ((l.length : Int) > 120) := by omega
  go_enter Try.func56, Try.ntmps56
  go_wp2_with fail
  exact bodyPost_ret (v := .bool false) (by simp [results, Try.results56, go_sem]) rfl ⟨false, rfl, by simp, Below.refl _ _⟩
 ·have hb : ¬ ((l.length : Int) > 120) := by omega
  have hl60 : l.length ≤ 120 := by omega
  have HL := As hl60
  clear hbig hl hl60
  go_enter Try.func56, Try.ntmps56
  go_wp2_with fail
  go_loopg [3] l.length (fun kq v3 wr => ∃ (k : Nat), v3 = .int .i64 (k : Int) ∧ kq = l.length - k ∧ k ≤ l.length ∧ wr = w)
  case atStart => exact ⟨0, rfl, rfl, Nat.zero_le _, rfl⟩
  case round =>
   obtain ⟨k, rfl, rfl, hk, rfl⟩ := hrel
   by_cases hltn : k < l.length
   ·have hlt' : (k : Int) < (l.length : Int) := by omega
    obtain ⟨d, hd⟩ : ∃ d, l[k]? = some d := ⟨_, List.getElem?_eq_getElem hltn⟩
    obtain ⟨a, rfl, hcl⟩ := HR.out k d hd
    have z1 := hcl 1 (.string d.2.1) rfl
    rw [add_next _ _ _ (by omega)] at z1
    clear hcl hd
    obtain ⟨kd, k0, r, sn⟩ := d
    simp only at z1
    have hk7 : k ≤ 120 := by have := HL.out; omega
    by_cases g2 : 500 < k0.size
    ·have g2' : ((k0.size : Int) > 500) := by omega
     go_wp2_with fail
     exact bodyPost_ret (v := .bool false) (by simp [results, Try.results56, go_sem]) rfl ⟨false, rfl, by simp, Below.refl _ _⟩
    ·have g2' : ¬ ((k0.size : Int) > 500) := by omega
     go_wp2_with fail
     go_roundg (l.length - (k + 1))
     case measure => omega
     case rel => exact ⟨k + 1, by go_num, rfl, hltn, rfl⟩
   ·have hge : ¬ (k : Int) < (l.length : Int) := by omega
    go_wp2_with fail
    exact bodyPost_ret (v := .bool true) (by simp [results, Try.results56, go_sem]) rfl ⟨true, rfl, fun _ => HL.out, Below.refl _ _⟩
theorem tl_inj {a b : ByteArray} (h : a.toList = b.toList) : a = b := by
 rw [Lib.toList_data, Lib.toList_data] at h
 cases a; cases b
 simp only [ByteArray.mk.injEq]
 exact Array.toList_inj.1 h
end
end Go.Proofs.Ytglbcfkmaamhaaa.Tr
