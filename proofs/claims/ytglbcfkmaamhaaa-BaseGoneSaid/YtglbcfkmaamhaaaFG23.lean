/- A text of this claim: parts TpD TpE TpF BsL. No condition. -/
import Derived.Test.YtglbcfkmaamhaaaFG22
import Derived.Test.YtglbcfkmaamhaaaFG16
set_option linter.unusedVariables false
set_option linter.unusedSimpArgs false
set_option maxHeartbeats 16000000
set_option maxRecDepth 100000
namespace Go.Proofs.Ytglbcfkmaamhaaa.Tr
open Go Go.RowKit Go.Proofs.YtglbcfkmaamhaaaW.PrintWords Go.Proofs.Ytglbcfkmaamhaaa.Hv Go.Proofs.Ytglbcfkmaamhaaa.Arm Go.Proofs.Ytglbcfkmaamhaaa.Nd Go.Proofs.Ytglbcfkmaamhaaa.ArN
section
attribute [local irreducible] bl
variable {N : Nat} {P : NP} {rs : List Rf} {ks : List ByteArray} {lo hi : ByteArray} {ns : List Rf} {its : List It}
theorem Tm.mset {t : Tm} {r : Rf} {n0 n : Nd.Nd} (hw : t.Wf N) (h : t.map r = some n0) : (t.set r n).map = upd t.map r n ∧ (t.set r n).Wf N ∧ (t.set r n).root = t.root ∧ (t.set r n).gone = t.gone ∧ (t.set r n).p.room = t.p.room := by
 exact Tm.map_set hw h
theorem Tm.mtake {t : Tm} {n : Nd.Nd} (hw : t.Wf N) (h : ¬ t.p.room = 0) : (t.take n).map = upd t.map t.tk n ∧ (t.take n).Wf N ∧ (t.take n).root = t.root ∧ (t.take n).gone = t.gone ∧ (t.take n).p.room = t.p.room - 1 ∧ t.map t.tk = none := by
 obtain ⟨a, b, c, d, e, f⟩ := Tm.map_take (n := n) hw h
 exact ⟨a, b, c, d, e, by unfold Tm.map; rw [f]; rfl⟩
def climb (leaf : Rf) (t1 : Tm) : List Rf → (Tm × List Trn) × Bool
 | [] => ((t1, []), true)
 | [x] => ((t1, []), false)
 | r :: x :: w => if (climb leaf t1 (x :: w)).2 = true then climb leaf t1 (x :: w) else if ((climb leaf t1 (x :: w)).1.1.at x).refs.length ≤ 4 then ((climb leaf t1 (x :: w)).1, true) else (stp leaf (climb leaf t1 (x :: w)).1 x (some r), false)
theorem cntB_le (t : Tm) (l : List Rf) : cntB t l ≤ l.length := by
 unfold cntB
 have := (List.takeWhile_sublist (big t) (l := l.reverse)).length_le
 simpa using this
theorem tw_snoc {α : Type} (p : α → Bool) (x : α) : ∀ l : List α, ((l ++ [x]).takeWhile p).length = if (l.takeWhile p).length = l.length then (if p x then (l.takeWhile p).length + 1 else (l.takeWhile p).length) else (l.takeWhile p).length
 | [] => by cases h : p x <;> simp [List.takeWhile, h]
 | y :: l => by
  rw [List.cons_append, List.takeWhile_cons, List.takeWhile_cons]
  cases h : p y
  ·simp
  ·have ih := tw_snoc p x l
   simp only [if_true, List.length_cons, ih]
   by_cases e : (l.takeWhile p).length = l.length
   ·have e1 : (l.takeWhile p).length + 1 = l.length + 1 := by omega
    simp only [if_pos e, if_pos e1]
    split <;> rfl
   ·have e1 : ¬ (l.takeWhile p).length + 1 = l.length + 1 := by omega
    simp only [if_neg e, if_neg e1]
theorem cntB_cons (t : Tm) (x : Rf) (l : List Rf) : cntB t (x :: l) = if cntB t l = l.length then (if big t x then cntB t l + 1 else cntB t l) else cntB t l := by
 unfold cntB
 rw [List.reverse_cons, tw_snoc, List.length_reverse]
structure Up (N : Nat) (t t' : Tm) (ns fr : List Rf) : Prop where
 wf : t'.Wf N
 room : t'.p.room = t.p.room - fr.length
 root : t'.root = t.root
 gone : t'.gone = t.gone
 fresh : ∀ f ∈ fr, t.map f = none
 nod : fr.Nodup
 off : ∀ x, x ∉ ns → x ∉ fr → t'.map x = t.map x
theorem Row.heads (hP : ∀ r lo hi ns its, P r lo hi ns its → ∃ ns', ns = r :: ns') (h : Row P rs ks lo hi ns its) : rs.Sublist ns := by
 induction h with
 | one h => obtain ⟨ns', rfl⟩ := hP _ _ _ _ _ h; exact List.Sublist.cons_cons _ (List.nil_sublist _)
 | cons h _ _ _ ih => obtain ⟨ns', rfl⟩ := hP _ _ _ _ _ h; exact List.Sublist.cons_cons _ (ih.trans (List.sublist_append_right _ _))
theorem Dn.way {t : Tm} {key : ByteArray} {r q : Rf} {l : List (Rf × Nat)} (h : Dn t key r l q) : ∃ tl, wayL l q = r :: tl := by
 rcases h.inv with ⟨_, rfl, rfl⟩ | ⟨r', l2, _, _, _, _, rfl⟩
 ·exact ⟨[], rfl⟩
 ·exact ⟨wayL l2 q, rfl⟩
theorem isS_of {m : Mm} {x : Rf} (h : (m x).isSome = true) : m x ≠ none := fun e => by rw [e] at h; cases h
theorem wrap_up {v V : Int} (h0 : 0 ≤ v) (h1 : v ≤ V) (hV : V ≤ 4611686018427387904) : wrap64 (v + 1) = v + 1 := by unfold wrap64; omega
theorem Row.two {a b mid : ByteArray} {r q : Rf} {n1 n2 : List Rf} {t1 t2 : List It} (h1 : P r a mid n1 t1) (h2 : P q mid b n2 t2) (h3 : bl a mid = true) (h4 : blw mid b) : Row P [r, q] [mid] a b (n1 ++ n2) (t1 ++ t2) := .cons h1 h3 h4 (.one h2)
def Small (t : Tm) (x : Rf) : Prop := (t.at x).refs.length ≤ 4
def Ver (t : Tm) (V : Int) (x : Rf) : Prop := 0 ≤ (t.at x).ver ∧ (t.at x).ver ≤ V
theorem at_of {t t' : Tm} {x : Rf} (h : t'.map x = t.map x) (hs : t.map x ≠ none) : t'.at x = t.at x := by
 obtain ⟨n, hn⟩ := Option.ne_none_iff_exists'.1 hs
 rw [Tm.map_at hn, Tm.map_at (h.trans hn)]
structure CP (N : Nat) (t : Tm) (s : (Tm × List Trn) × Bool) (h : Nat) (r : Rf) (lo hi : ByteArray) (ns : List Rf) (its : List It) (tl : List Rf) (V : Int) (fr ns' : List Rf) : Prop where
 up : Up N t s.1.1 ns fr
 cnt : fr.length = cntB t tl
 rep : Rep s.1.1.map h r lo hi ns' its
 perm : ns'.Perm (ns ++ fr)
 small : ∀ x ∈ ns', x ≠ r → Small s.1.1 x
 ver : ∀ x ∈ ns', Ver s.1.1 (V + 2) x
 verR : Ver s.1.1 (V + 1) r
 stop : s.2 = true → Small s.1.1 r
 iff : s.2 = true ↔ cntB t tl < tl.length
 more : s.2 = false → (s.1.1.at r).refs.length = (t.at r).refs.length + 1
theorem climb_rep (t : Tm) (hw : t.Wf N) (key : ByteArray) (r0 : Rf) (V : Int) (hV : 1 ≤ V) (hV2 : V ≤ 4611686018427387000) :
  ∀ (h : Nat) (r : Rf) (lo hi : ByteArray) (ns : List Rf) (its : List It), Rep t.map h r lo hi ns its → ns.Nodup → (∀ x ∈ ns, Small t x) → (∀ x ∈ ns, Ver t V x) → bl key lo = false → blw key hi →
  ∀ (l : List (Rf × Nat)) (q : Rf) (tl : List Rf), Dn t key r l q → wayL l q = r :: tl → fnd key (t.at q).keys = false → (cntB t tl : Int) ≤ t.p.room →
  ∃ fr ns', CP N t (climb q (t.set q ((t.at q).put key r0).1) (r :: tl)) h r lo hi ns (insI (key, r0) its) tl V fr ns'
 | 0, r, lo, hi, ns, its, hr, hnd, hsm, hv, hlo, hhi, l, q, tl, hd, hway, hf, hrm => by
  obtain ⟨n, a, b, c, d, e, f, g⟩ := id hr
  have hat := Tm.map_at a
  rcases hd.inv with ⟨_, rfl, rfl⟩ | ⟨r', l2, h1, _⟩
  ·have htl : tl = [] := by simpa [wayL] using hway.symm
   subst htl
   rw [hat] at hf ⊢
   obtain ⟨p1, p2, p3⟩ := hr.putLeaf (r0 := r0) a hlo hhi hf
   obtain ⟨m1, m2, m3, m4, m5⟩ := Tm.mset (n := (n.put key r0).1) hw a
   have hr1 : (t.set q (n.put key r0).1).at q = (n.put key r0).1 := Tm.map_at (by rw [m1]; exact upd_self _ _ _)
   have hvr := hv q (by rw [f]; simp)
   unfold Ver at hvr
   rw [hat] at hvr
   have hw1 := wrap_up hvr.1 hvr.2 (by omega)
   have hver : Ver (t.set q (n.put key r0).1) (V + 1) q := by unfold Ver; rw [hr1, p3, hw1]; omega
   refine ⟨[], ns, ⟨m2, by show (t.set q (n.put key r0).1).p.room = _; simp [m5], m3, m4, by simp, .nil, fun x hx _ => ?_⟩, rfl, (show Rep (t.set q (n.put key r0).1).map _ _ _ _ _ _ from by rw [m1]; exact p1), by simp, fun x hx hne => ?_, fun x hx => ?_, hver, (fun e => by cases e), ⟨fun e => (by cases e), fun e => (by simp at e)⟩, fun _ => ?_⟩
   ·show (t.set q (n.put key r0).1).map x = _
    rw [m1]
    exact upd_ne (fun e => hx (by rw [e, f]; simp))
   ·rw [f] at hx
    exact absurd (List.mem_singleton.1 hx) hne
   ·rw [f] at hx
    rw [List.mem_singleton.1 hx]
    exact ⟨hver.1, by have := hver.2; show _ ≤ V + 2; simp only [climb]; omega⟩
   ·show ((t.set q (n.put key r0).1).at q).refs.length = _
    rw [hr1, p2, hat]
  ·rw [hat, b] at h1; cases h1
 | h + 1, r, lo, hi, ns, its, hr, hnd, hsm, hv, hlo, hhi, l, q, tl, hd, hway, hf, hrm => by
  obtain ⟨n, ns0, a, b, c, d⟩ := id hr
  have hat := Tm.map_at a
  have hsh := hr.shape a
  have hk := d.keys
  have hl := d.len
  rcases hd.inv with ⟨h1, _⟩ | ⟨r', l2, _, _, hk', hd', rfl⟩
  ·rw [hat, b] at h1; cases h1
  obtain ⟨tl', htl'⟩ := hd'.way
  have htl : tl = r' :: tl' := by
   have : wayL ((r, (t.at r).child key) :: l2) q = r :: wayL l2 q := rfl
   rw [this, htl'] at hway
   exact (List.cons.inj hway).2.symm
  subst htl
  obtain ⟨i, hie⟩ : ∃ i, plc key n.keys + (if fnd key n.keys then 1 else 0) = i := ⟨_, rfl⟩
  have hc : (t.at r).child key = i := by rw [hat]; unfold Nd.Nd.child; rw [b, hsh]; simpa using hie
  rw [hc, hat] at hk'
  obtain ⟨h1, h2, h3⟩ := child_facts hk.1 hie
  obtain ⟨A, B, n1, n2, n3, t1, t2, t3, e1, e2, e3, e4, e5, e6, e7, e8⟩ := d.focus (fun _ _ _ _ _ h => h.range) i 1 (Nat.le_refl _) (by omega)
  have hd1 : (n.refs.drop i).take 1 = [r'] := by
   rw [List.drop_eq_getElem_cons (by omega), (List.getElem?_eq_some_iff.1 hk').2]
   rfl
  rw [hd1] at e1
  have e1' : Rep t.map h r' A B n2 t2 := by
   cases e1 with
   | one e1 => exact e1
  have hA : bl key A = false := by
   rcases e4 with ⟨_, rfl⟩ | ⟨e4, e4', _⟩
   ·exact hlo
   ·exact h2 A e4 e4'
  have hB : blw key B := by
   rcases e5 with ⟨_, rfl⟩ | ⟨_, e5', _⟩
   ·exact hhi
   ·rw [Nat.add_sub_cancel] at e5'
    exact .inr (h3 B e5')
  have hsub : ∀ x ∈ n2, x ∈ ns := fun x hx => by rw [c, e2]; simp [hx]
  have hnd0 := hnd
  rw [c, e2] at hnd
  obtain ⟨hnr, hnd1⟩ := List.nodup_cons.1 hnd
  have hnd2 : n2.Nodup := (List.nodup_append.1 (List.nodup_append.1 hnd1).1).2.1
  have hle := cntB_cons t r' tl'
  have hlt := cntB_le t tl'
  have hrm' : (cntB t tl' : Int) ≤ t.p.room := by
   rw [hle] at hrm
   split at hrm
   ·split at hrm <;> omega
   ·exact hrm
  obtain ⟨fr, ns2, cp⟩ := climb_rep t hw key r0 V hV hV2 h r' A B n2 t2 e1' hnd2 (fun x hx => hsm x (hsub x hx)) (fun x hx => hv x (hsub x hx)) hA hB l2 q tl' hd' htl' hf hrm'
  obtain ⟨s, hs⟩ : ∃ s, climb q (t.set q ((t.at q).put key r0).1) (r' :: tl') = s := ⟨_, rfl⟩
  rw [hs] at cp
  have hcl : climb q (t.set q ((t.at q).put key r0).1) (r :: r' :: tl') = if s.2 = true then s else if (s.1.1.at r').refs.length ≤ 4 then (s.1, true) else (stp q s.1 r' (some r), false) := by rw [← hs]; rfl
  have hins : insI (key, r0) its = t1 ++ insI (key, r0) t2 ++ t3 := by
   rw [e3]
   refine insI_mid (fun y hy => bl_of_ble (e6 y hy) hA) (fun y hy => ?_)
   obtain ⟨hb1, hb2⟩ := e7 y hy
   exact bl_of_ble (hB.elim (fun e => absurd e hb1) id) hb2
  -- what is off the kid
  have hS : ∀ x ∈ ns, t.map x ≠ none := fun x hx => isS_of (hr.isS x hx)
  have hfr : ∀ x ∈ ns, x ∉ fr := fun x hx hm => hS x hx (cp.up.fresh x hm)
  have hrns : r ∈ ns := by rw [c]; simp
  have hrn2 : r ∉ n2 := fun hm => hnr (by simp [hm])
  have hr's : r' ∈ n2 := by obtain ⟨_, _, _, e⟩ := e1'.head; rw [e]; simp
  have hn13 : ∀ x, x ∈ n1 ∨ x ∈ n3 → x ∈ ns ∧ x ∉ n2 ∧ x ≠ r := by
   intro x hx
   have hd1 := List.nodup_append.1 hnd1
   have hd2 := List.nodup_append.1 hd1.1
   refine ⟨by rw [c, e2]; rcases hx with hx | hx <;> simp [hx], fun hm => ?_, fun e => hnr (by rw [← e]; rcases hx with hx | hx <;> simp [hx])⟩
   rcases hx with hx | hx
   ·exact hd2.2.2 x hx x hm rfl
   ·exact hd1.2.2 x (by simp [hm]) x hx rfl
  have off : ∀ x, x ∈ n1 ∨ x ∈ n3 → s.1.1.map x = t.map x := fun x hx => cp.up.off x (hn13 x hx).2.1 (hfr x (hn13 x hx).1)
  have offr : s.1.1.map r = t.map r := cp.up.off r hrn2 (hfr r hrns)
  have hperm : (r :: (n1 ++ ns2 ++ n3)).Perm (ns ++ fr) := by
   rw [c, e2, List.cons_append]
   refine List.Perm.cons _ ?_
   have p1 : (n1 ++ ns2 ++ n3).Perm (n1 ++ (n2 ++ fr) ++ n3) := List.Perm.append_right _ (List.Perm.append_left _ cp.perm)
   refine p1.trans ?_
   simp only [List.append_assoc]
   exact List.Perm.append_left _ (List.Perm.append_left _ List.perm_append_comm)
  have hmem2 : ∀ x, x ∈ ns2 → x ∈ n2 ∨ x ∈ fr := fun x hx => by have := cp.perm.mem_iff.1 hx; simpa using this
  have hrest : ∀ x, x ∈ n1 ∨ x ∈ n3 → s.1.1.at x = t.at x := fun x hx => at_of (off x hx) (hS x (hn13 x hx).1)
  have hratr : s.1.1.at r = n := by rw [at_of offr (hS r hrns), hat]
  have upS : Up N t s.1.1 ns fr := ⟨cp.up.wf, cp.up.room, cp.up.root, cp.up.gone, cp.up.fresh, cp.up.nod, fun x hx hx2 => cp.up.off x (fun hm => hx (hsub x hm)) hx2⟩
  -- nothing more is parted
  have one : ∀ b0 : Bool, Small s.1.1 r' → b0 = true → (cntB t (r' :: tl') = cntB t tl') → (cntB t (r' :: tl') < (r' :: tl').length) → CP N t (s.1, b0) (h + 1) r lo hi ns (insI (key, r0) its) (r' :: tl') V fr (r :: (n1 ++ ns2 ++ n3)) := by
   intro b0 hsm' hb hcnt hlt'
   have hrow := e8 (Rep s.1.1.map h) [r'] [] ns2 (insI (key, r0) t2) (fun r lo hi ns' its' hx hp => hp.frame (fun x hx' => off x (hx x hx'))) (.one cp.rep)
   refine ⟨upS, by rw [cp.cnt, hcnt], ⟨n, n1 ++ ns2 ++ n3, offr.trans a, b, rfl, ?_⟩, hperm, fun x hx hne => ?_, fun x hx => ?_, ?_, fun _ => ?_, ⟨fun _ => hlt', fun _ => hb⟩, fun e => by rw [hb] at e; cases e⟩
   ·rw [hins]
    have g1 : n.refs.take i ++ [r'] ++ n.refs.drop (i + 1) = n.refs := by
     rw [← hd1, List.append_assoc]
     conv => rhs; rw [← List.take_append_drop i n.refs, ← List.take_append_drop 1 (n.refs.drop i)]
     rw [List.drop_drop]
    have g2 : n.keys.take i ++ [] ++ n.keys.drop (i + 1 - 1) = n.keys := by
     rw [List.append_nil, Nat.add_sub_cancel, List.take_append_drop]
    rw [g1, g2] at hrow
    exact hrow
   ·rcases List.mem_cons.1 hx with rfl | hx
    ·exact absurd rfl hne
    ·simp only [List.mem_append] at hx
     rcases hx with (hx | hx) | hx
     ·unfold Small; rw [hrest x (.inl hx)]; exact hsm x (hn13 x (.inl hx)).1
     ·by_cases e : x = r'
      ·rw [e]; exact hsm'
      ·exact cp.small x hx e
     ·unfold Small; rw [hrest x (.inr hx)]; exact hsm x (hn13 x (.inr hx)).1
   ·rcases List.mem_cons.1 hx with rfl | hx
    ·have := hv x hrns
     unfold Ver at this ⊢
     rw [hratr]; rw [hat] at this; omega
    ·simp only [List.mem_append] at hx
     rcases hx with (hx | hx) | hx
     ·have := hv x (hn13 x (.inl hx)).1
      unfold Ver at this ⊢
      rw [hrest x (.inl hx)]; omega
     ·exact cp.ver x hx
     ·have := hv x (hn13 x (.inr hx)).1
      unfold Ver at this ⊢
      rw [hrest x (.inr hx)]; omega
   ·have := hv r hrns
    unfold Ver at this ⊢
    rw [hratr]; rw [hat] at this; omega
   ·unfold Small; rw [hratr]; have := hsm r hrns; unfold Small at this; rw [hat] at this; exact this
  rw [hcl]
  by_cases hs2 : s.2 = true
  ·rw [if_pos hs2]
   have := cp.iff.1 hs2
   have hcnt : cntB t (r' :: tl') = cntB t tl' := by rw [hle, if_neg (by omega)]
   exact ⟨fr, _, one s.2 (cp.stop hs2) hs2 hcnt (by rw [hcnt, List.length_cons]; omega)⟩
  ·rw [if_neg hs2]
   have hs2' : s.2 = false := by simpa using hs2
   have hfull : cntB t tl' = tl'.length := by
    have : ¬ cntB t tl' < tl'.length := fun h => hs2 (cp.iff.2 h)
    omega
   have hmore := cp.more hs2'
   have hr'S := hsm r' (hsub r' hr's)
   unfold Small at hr'S
   by_cases h4 : (s.1.1.at r').refs.length ≤ 4
   ·rw [if_pos h4]
    have hcnt : cntB t (r' :: tl') = cntB t tl' := by
     rw [hle, if_pos hfull, if_neg]
     unfold big
     simp
     omega
    exact ⟨fr, _, one true h4 rfl hcnt (by rw [hcnt, List.length_cons]; omega)⟩
   ·rw [if_neg h4]
    have hcnt : cntB t (r' :: tl') = cntB t tl' + 1 := by
     rw [hle, if_pos hfull, if_pos]
     unfold big
     simp
     omega
    have hrm1 : ¬ s.1.1.p.room = 0 := by
     have := cp.up.room
     rw [cp.cnt] at this
     rw [hcnt] at hrm
     omega
    obtain ⟨nn, nns, hnn, hns2⟩ := cp.rep.head
    have hnat := Tm.map_at hnn
    have hns2nd : ns2.Nodup := by
     refine cp.perm.nodup_iff.2 (List.nodup_append.2 ⟨hnd2, cp.up.nod, fun x hx y hy e => ?_⟩)
     exact hfr x (hsub x hx) (by rw [e]; exact hy)
    obtain ⟨am, mid, bm, hsp⟩ : ∃ a mid b, nn.split = (a, mid, b) := ⟨_, _, _, rfl⟩
    obtain ⟨T1, hT1⟩ : ∃ T, s.1.1.set r' am = T := ⟨_, rfl⟩
    obtain ⟨a1, a2, a3, a4, a5⟩ := Tm.mset (n := am) cp.up.wf hnn
    rw [hT1] at a1 a2 a3 a4 a5
    obtain ⟨q0, hq0⟩ : ∃ q0, T1.tk = q0 := ⟨_, rfl⟩
    obtain ⟨T2, hT2⟩ : ∃ T, T1.take bm = T := ⟨_, rfl⟩
    obtain ⟨b1, b2, b3, b4, b5, b6⟩ := Tm.mtake (n := bm) a2 (by rw [a5]; exact hrm1)
    rw [hT2] at b1 b2 b3 b4 b5
    rw [hq0, a1] at b6
    rw [hq0, a1] at b1
    have hqr' : q0 ≠ r' := fun e => by rw [e, upd_self] at b6; cases b6
    rw [upd_ne hqr'] at b6
    have hq2 : q0 ∉ ns2 := fun hm => isS_of (cp.rep.isS q0 hm) b6
    have hq2' : q0 ∉ n2 ∧ q0 ∉ fr := ⟨fun hm => hq2 (cp.perm.mem_iff.2 (by simp [hm])), fun hm => hq2 (cp.perm.mem_iff.2 (by simp [hm]))⟩
    have hqt : t.map q0 = none := by rw [← cp.up.off q0 hq2'.1 hq2'.2]; exact b6
    have hqns : q0 ∉ ns := fun hm => hS q0 hm hqt
    have hqr : q0 ≠ r := fun e => hqns (by rw [e]; exact hrns)
    have hrr' : r ≠ r' := fun e => hrn2 (by rw [e]; exact hr's)
    have hlen5 : nn.refs.length = 5 := by rw [← hnat]; omega
    obtain ⟨am', mid', bm', k1, k2, k3, k4, k5, k6, k7, k8, k9, nsA, nsB, itA, itB, k10, k11, k12, nl, nr, k13, k14, k15⟩ := cp.rep.cutNode (q := q0) hnn (by omega) hq2 hns2nd
    rw [hsp] at k1
    cases k1
    have hhalf : nn.half = 3 := by unfold Nd.Nd.half; rw [hlen5]
    have hT2r : T2.map r = some n := by rw [b1, upd_ne (Ne.symm hqr), upd_ne hrr', offr, a]
    have hT2at := Tm.map_at hT2r
    obtain ⟨ni, hni⟩ : ∃ ni, n.insert (idx r' n.refs) mid q0 = ni := ⟨_, rfl⟩
    obtain ⟨c1, c2, c3, c4, c5⟩ := Tm.mset (n := ni) b2 hT2r
    obtain ⟨T3, hT3⟩ : ∃ T, T2.set r ni = T := ⟨_, rfl⟩
    rw [hT3] at c1 c2 c3 c4 c5
    have hsplit : s.1.1.split r' (some r) = (T3, q0) := by
     unfold Tm.split
     simp only []
     rw [hnat, hsp]
     simp only []
     rw [hT1, hT2, hT2at, hq0, hni, hT3]
    have hst : (stp q s.1 r' (some r)).1 = T3 := by unfold stp; rw [hsplit]
    have hrefs : n.refs.Nodup := (List.nodup_cons.1 (by rw [c] at hnd0; exact hnd0)).2.sublist (d.heads (fun r lo hi ns its hp => by obtain ⟨_, ns', _, e⟩ := hp.head; exact ⟨ns', e⟩))
    have hidx : idx r' n.refs = (i : Int) := by
     have hF : idxF r' n.refs = i := idxF_hit hk' (fun j x hj hx e => by
      subst e
      have := (List.getElem?_inj (List.getElem?_eq_some_iff.1 hx).1 hrefs).1 (hx.trans hk'.symm)
      omega)
     unfold idx
     rw [hF, if_pos (by omega)]
    have hnie : ni = { n with ver := wrap64 (n.ver + 1), keys := n.keys.take i ++ [mid] ++ n.keys.drop i, refs := n.refs.take (i + 1) ++ [q0] ++ n.refs.drop (i + 1) } := by
     rw [← hni, hidx]
     have hkid : n.kid (i : Int) = true := by
      unfold Nd.Nd.kid
      rw [b, hsh]
      simp
      omega
     unfold Nd.Nd.insert
     rw [if_pos hkid]
     rfl
    have hvr := hv r hrns
    unfold Ver at hvr
    rw [hat] at hvr
    have hwr := wrap_up hvr.1 hvr.2 (by omega)
    have hvr' := cp.verR
    unfold Ver at hvr'
    rw [hnat] at hvr'
    have hwr' := wrap_up hvr'.1 hvr'.2 (by omega)
    have hfr2 : ∀ x, x ≠ r → T3.map x = upd (upd s.1.1.map r' am) q0 bm x := fun x hx => by rw [c1, upd_ne hx, b1]
    have hA3 : ∀ x ∈ nsA ++ nsB, x ≠ r := fun x hx e => by
     subst e
     rw [k14, k15] at hx
     have : x = r' ∨ x = q0 ∨ x ∈ ns2 := by rw [k13]; simp only [List.mem_append, List.mem_cons] at hx ⊢; grind
     rcases this with e | e | hm
     ·exact hrr' e
     ·exact hqr e.symm
     ·rcases hmem2 x hm with h | h
      ·exact hrn2 h
      ·exact hfr x hrns h
    have at3 : ∀ x, x ≠ r → x ≠ q0 → x ≠ r' → s.1.1.map x ≠ none → T3.at x = s.1.1.at x := fun x h1 h2 h3 h4 => at_of (by rw [hfr2 x h1, upd_ne h2, upd_ne h3]) h4
    have hr3 : T3.at r = ni := Tm.map_at (by rw [c1]; exact upd_self _ _ _)
    have hr'3 : T3.at r' = am := Tm.map_at (by rw [hfr2 r' (Ne.symm hrr'), upd_ne (Ne.symm hqr')]; exact upd_self _ _ _)
    have hq3 : T3.at q0 = bm := Tm.map_at (by rw [hfr2 q0 hqr]; exact upd_self _ _ _)
    have h13 : ∀ x, x ∈ n1 ∨ x ∈ n3 → T3.at x = t.at x := fun x hx => by
     obtain ⟨g1, g2, g3⟩ := hn13 x hx
     rw [at3 x g3 (fun e => hqns (by rw [← e]; exact g1)) (fun e => g2 (by rw [e]; exact hr's)) (by rw [off x hx]; exact hS x g1), hrest x hx]
    have hns3 : ∀ x, x ∈ nl ++ nr → x ∈ ns2 ∧ x ≠ r' ∧ x ≠ q0 ∧ x ≠ r := fun x hx => by
     have hm : x ∈ ns2 := by rw [k13]; exact List.mem_cons_of_mem _ hx
     refine ⟨hm, fun e => ?_, fun e => hq2 (by rw [← e]; exact hm), fun e => ?_⟩
     ·rw [k13] at hns2nd
      exact (List.nodup_cons.1 hns2nd).1 (by rw [← e]; exact hx)
     ·rcases hmem2 x hm with h | h
      ·exact hrn2 (by rw [← e]; exact h)
      ·exact hfr r hrns (by rw [← e]; exact h)
    have hns3at : ∀ x, x ∈ nl ++ nr → T3.at x = s.1.1.at x := fun x hx => by
     obtain ⟨g1, g2, g3, g4⟩ := hns3 x hx
     exact at3 x g4 g3 g2 (isS_of (cp.rep.isS x g1))
    have hrow := e8 (Rep T3.map h) [r', q0] [mid] (nsA ++ nsB) (itA ++ itB) (fun r lo hi ns' its' hx hp => hp.frame (fun x hx' => by
     obtain ⟨g1, g2, g3⟩ := hn13 x (hx x hx')
     rw [hfr2 x g3, upd_ne (fun e => hqns (by rw [← e]; exact g1)), upd_ne (fun e => g2 (by rw [e]; exact hr's)), off x (hx x hx')])) (Row.two (k10.frame (fun x hx => hfr2 x (hA3 x (List.mem_append_left _ hx)))) (k11.frame (fun x hx => hfr2 x (hA3 x (List.mem_append_right _ hx)))) k2 k3)
    refine ⟨q0 :: fr, r :: (n1 ++ (nsA ++ nsB) ++ n3), ?_⟩
    have hcp : ∀ S : (Tm × List Trn) × Bool, S.1.1 = T3 → S.2 = false → CP N t S (h + 1) r lo hi ns (insI (key, r0) its) (r' :: tl') V (q0 :: fr) (r :: (n1 ++ (nsA ++ nsB) ++ n3)) := by
     intro S hS1 hS2
     refine ⟨⟨by rw [hS1]; exact c2, ?_, by rw [hS1, c3, b3, a3, cp.up.root], by rw [hS1, c4, b4, a4, cp.up.gone], fun f hf => ?_, List.nodup_cons.2 ⟨hq2'.2, cp.up.nod⟩, fun x hx hx2 => ?_⟩, ?_, ?_, ?_, fun x hx hne => ?_, fun x hx => ?_, ?_, (fun e => by rw [hS2] at e; cases e), ⟨(fun e => by rw [hS2] at e; cases e), fun e => ?_⟩, fun _ => ?_⟩
     ·rw [hS1, c5, b5, a5, cp.up.room, List.length_cons]; omega
     ·rcases List.mem_cons.1 hf with rfl | hf
      ·exact hqt
      ·exact cp.up.fresh f hf
     ·rw [hS1, hfr2 x (fun e => hx (by rw [e]; exact hrns)), upd_ne (fun e => hx2 (by rw [e]; simp)), upd_ne (fun e => hx (by rw [e]; exact hsub r' hr's))]
      exact upS.off x hx (fun hm => hx2 (List.mem_cons_of_mem _ hm))
     ·rw [List.length_cons, cp.cnt, hcnt]
     ·rw [hS1]
      refine ⟨ni, n1 ++ (nsA ++ nsB) ++ n3, by rw [c1]; exact upd_self _ _ _, by rw [hnie]; exact b, rfl, ?_⟩
      rw [hins, k12]
      have g1 : n.refs.take i ++ [r', q0] ++ n.refs.drop (i + 1) = ni.refs := by
       rw [hnie]
       simp only []
       rw [List.take_add_one, hk']
       simp
      have g2 : n.keys.take i ++ [mid] ++ n.keys.drop (i + 1 - 1) = ni.keys := by
       rw [hnie, Nat.add_sub_cancel]
      rw [g1, g2] at hrow
      exact hrow
     ·have p1 : (r :: (n1 ++ (nsA ++ nsB) ++ n3)).Perm (q0 :: (r :: (n1 ++ ns2 ++ n3))) := by
       rw [k13, k14, k15]
       have := List.perm_middle (a := q0) (l₁ := r :: (n1 ++ (r' :: nl))) (l₂ := nr ++ n3)
       simpa [List.append_assoc] using this
      exact p1.trans ((List.Perm.cons _ hperm).trans List.perm_middle.symm)
     ·unfold Small
      rw [hS1]
      rcases List.mem_cons.1 hx with rfl | hx
      ·exact absurd rfl hne
      ·rw [k14, k15] at hx
       have : x = r' ∨ x = q0 ∨ x ∈ nl ++ nr ∨ x ∈ n1 ∨ x ∈ n3 := by simp only [List.mem_append, List.mem_cons] at hx ⊢; grind
       rcases this with rfl | rfl | hx | hx
       ·rw [hr'3, k4, hhalf]; omega
       ·rw [hq3, k5, hhalf, hlen5]; omega
       ·rw [hns3at x hx]; exact cp.small x (hns3 x hx).1 (hns3 x hx).2.1
       ·rw [h13 x hx]; exact hsm x (hn13 x hx).1
     ·unfold Ver
      rw [hS1]
      have : x = r ∨ x = r' ∨ x = q0 ∨ x ∈ nl ++ nr ∨ x ∈ n1 ∨ x ∈ n3 := by rw [k14, k15] at hx; simp only [List.mem_append, List.mem_cons] at hx ⊢; grind
      rcases this with rfl | rfl | rfl | hx | hx
      ·rw [hr3, hnie]; simp only []; rw [hwr]; omega
      ·rw [hr'3, k6, hwr']; omega
      ·rw [hq3, k7]; omega
      ·rw [hns3at x hx]; exact cp.ver x (hns3 x hx).1
      ·rw [h13 x hx]; have := hv x (hn13 x hx).1; unfold Ver at this; omega
     ·unfold Ver
      rw [hS1, hr3, hnie]; simp only []; rw [hwr]; omega
     ·rw [hcnt, List.length_cons] at e; omega
     ·rw [hS1, hr3, hat, hnie]
      simp only [List.length_append, List.length_take, List.length_drop, List.length_singleton]
      omega
    exact hcp _ hst rfl
end
section
attribute [local irreducible] bl
variable {N : Nat}
def runsB (s : List Rf) (leaf : Rf) : List (Ix s.length) → Tm × List Trn → (Tm × List Trn) × Bool
 | [], p => (p, false)
 | x :: xs, p => if smallI s p x = true then (p, true) else runsB s leaf xs (stpI s leaf p x)
theorem runsB_snoc (s : List Rf) (leaf : Rf) (x : Ix s.length) : ∀ (xs : List (Ix s.length)) (p : Tm × List Trn), runsB s leaf (xs ++ [x]) p = if (runsB s leaf xs p).2 = true then runsB s leaf xs p else if smallI s (runsB s leaf xs p).1 x = true then ((runsB s leaf xs p).1, true) else (stpI s leaf (runsB s leaf xs p).1 x, false)
 | [], p => rfl
 | y :: xs, p => by
  rw [List.cons_append, runsB, runsB]
  by_cases h : smallI s p y = true
  ·rw [if_pos h, if_pos h]
   rfl
  ·rw [if_neg h, if_neg h]
   exact runsB_snoc s leaf x xs _
theorem runs_eq (s : List Rf) (leaf : Rf) : ∀ (xs : List (Ix s.length)) (p : Tm × List Trn), runsI s leaf xs p = (runsB s leaf xs p).1
 | [], p => rfl
 | x :: xs, p => by
  rw [runsI, runsB]
  by_cases h : smallI s p x = true
  ·rw [if_pos h, if_pos h]
  ·rw [if_neg h, if_neg h]
   exact runs_eq s leaf xs _
theorem climb_two (leaf : Rf) (t1 : Tm) (r x : Rf) (w : List Rf) : climb leaf t1 (r :: x :: w) = if (climb leaf t1 (x :: w)).2 = true then climb leaf t1 (x :: w) else if ((climb leaf t1 (x :: w)).1.1.at x).refs.length ≤ 4 then ((climb leaf t1 (x :: w)).1, true) else (stp leaf (climb leaf t1 (x :: w)).1 x (some r), false) := rfl
theorem runsB_climb (s : List Rf) (leaf : Rf) (t1 : Tm) : ∀ (k : Nat) (hk : k < s.length), runsB s leaf (ixL s.length k (by omega)) (t1, []) = climb leaf t1 (s.drop (s.length - 1 - k))
 | 0, hk => by
  have e : s.drop (s.length - 1 - 0) = [s[s.length - 1]'(by omega)] := by
   rw [Nat.sub_zero, List.drop_eq_getElem_cons (by omega), List.drop_of_length_le (by omega)]
  rw [e]
  rfl
 | k + 1, hk => by
  have ih := runsB_climb s leaf t1 k (by omega)
  obtain ⟨x, hx⟩ : ∃ x, s[s.length - 1 - k]? = some x := ⟨_, List.getElem?_eq_getElem (by omega)⟩
  obtain ⟨r, hr⟩ : ∃ r, s[s.length - 1 - (k + 1)]? = some r := ⟨_, List.getElem?_eq_getElem (by omega)⟩
  have e2 : s.drop (s.length - 1 - k) = x :: s.drop (s.length - 1 - k + 1) := by
   rw [List.drop_eq_getElem_cons (by omega), (List.getElem?_eq_some_iff.1 hx).2]
  have e1 : s.drop (s.length - 1 - (k + 1)) = r :: s.drop (s.length - 1 - k) := by
   rw [List.drop_eq_getElem_cons (by omega), (List.getElem?_eq_some_iff.1 hr).2, show s.length - 1 - (k + 1) + 1 = s.length - 1 - k by omega]
  have hat : atI s (ixf s.length k (by omega)) = x := by
   unfold atI ixf
   rw [List.getD_eq_getElem?_getD, hx]
   rfl
  have hup : upI s (ixf s.length k (by omega)) = some r := by
   unfold upI ixf
   simp only []
   rw [if_neg (by omega), List.getD_eq_getElem?_getD, show s.length - 1 - k - 1 = s.length - 1 - (k + 1) by omega, hr]
   rfl
  rw [ixL, runsB_snoc, ih, e1, e2, climb_two]
  simp only [smallI, stpI, hat, hup, decide_eq_true_eq]
def rootStep (leaf root : Rf) (s : (Tm × List Trn) × Bool) : Tm × List Trn := if s.2 = true then s.1 else if (s.1.1.at root).refs.length ≤ 4 then s.1 else stp leaf s.1 root none
theorem runs_climb (leaf root : Rf) (tl : List Rf) (t1 : Tm) : runsI (root :: tl) leaf (ixL (root :: tl).length (root :: tl).length (Nat.le_refl _)) (t1, []) = rootStep leaf root (climb leaf t1 (root :: tl)) := by
 have h := runsB_climb (root :: tl) leaf t1 tl.length (by simp)
 rw [show (root :: tl).length - 1 - tl.length = 0 by simp, List.drop_zero] at h
 have hL : ixL (root :: tl).length (root :: tl).length (Nat.le_refl _) = ixL (root :: tl).length tl.length (by simp) ++ [ixf (root :: tl).length tl.length (by simp)] := rfl
 have hat : atI (root :: tl) (ixf (root :: tl).length tl.length (by simp)) = root := by
  unfold atI ixf
  simp
 have hup : upI (root :: tl) (ixf (root :: tl).length tl.length (by simp)) = none := by
  unfold upI ixf
  simp
 rw [hL, runs_eq, runsB_snoc, h]
 unfold rootStep
 simp only [smallI, stpI, hat, hup, decide_eq_true_eq]
 split
 ·rfl
 ·split <;> rfl
structure Inv (t : Tm) (N h : Nat) (ns : List Rf) (its : List It) (V : Int) : Prop where
 wf : t.Wf N
 rep : Rep t.map h t.root ⟨#[]⟩ ⟨#[]⟩ ns its
 nod : ns.Nodup
 sm : ∀ x ∈ ns, Small t x
 ver : ∀ x ∈ ns, Ver t V x
 cnt : t.p.room = (N : Int) - ns.length - t.gone.length
theorem Inv.len {t : Tm} {h : Nat} {ns : List Rf} {its : List It} {V : Int} (iv : Inv t N h ns its V) : ns.length + t.gone.length ≤ N := by
 have h1 := iv.cnt
 have h2 := t.p.held_le
 unfold Ar.room at h1
 have h3 := iv.wf.2.2
 omega
theorem Inv.mono {t : Tm} {h : Nat} {ns : List Rf} {its : List It} {V V' : Int} (iv : Inv t N h ns its V) (hV : V ≤ V') : Inv t N h ns its V' :=
 ⟨iv.wf, iv.rep, iv.nod, iv.sm, fun x hx => ⟨(iv.ver x hx).1, Int.le_trans (iv.ver x hx).2 hV⟩, iv.cnt⟩
theorem Inv.dn {t : Tm} {h : Nat} {ns : List Rf} {its : List It} {V : Int} (iv : Inv t N h ns its V) (key : ByteArray) : ∃ l q, Dn t key t.root l q ∧ l.length = h := iv.rep.dn (fun x hx => by have := iv.sm x hx; unfold Small at this; omega)
theorem Inv.put {t : Tm} {h : Nat} {ns : List Rf} {its : List It} {V : Int} (iv : Inv t N h ns its V) (hV : 1 ≤ V) (hV2 : V ≤ 4611686018427387000) (key : ByteArray) (r0 : Rf) {l : List (Rf × Nat)} {q : Rf} (hd : Dn t key t.root l q) (hf : fnd key (t.at q).keys = false) (hr : t.roomFor (wayL l q) = true) :
  ∃ h' ns', Inv (runsI (wayL l q) q (ixL (wayL l q).length (wayL l q).length (Nat.le_refl _)) (t.set q ((t.at q).put key r0).1, [])).1 N h' ns' (insI (key, r0) its) (V + 2) ∧ h ≤ h' ∧ h' ≤ h + 1 ∧ (runsI (wayL l q) q (ixL (wayL l q).length (wayL l q).length (Nat.le_refl _)) (t.set q ((t.at q).put key r0).1, [])).1.gone = t.gone := by
 obtain ⟨tl, htl⟩ := hd.way
 unfold Tm.roomFor Tm.need at hr
 rw [decide_eq_true_eq] at hr
 rw [htl] at hr
 have hc := cntB_cons t t.root tl
 have hle := cntB_le t tl
 have hle2 := cntB_le t (t.root :: tl)
 have hrm : (cntB t tl : Int) ≤ t.p.room := by
  rw [List.length_cons] at hr
  by_cases e : cntB t tl = tl.length
  ·rw [if_pos e] at hc
   split at hc
   ·rw [if_pos (by omega)] at hr; omega
   ·rw [if_neg (by omega)] at hr; omega
  ·rw [if_neg e] at hc
   rw [if_neg (by omega)] at hr; omega
 obtain ⟨fr, ns', cp⟩ := climb_rep t iv.wf key r0 V hV hV2 h t.root ⟨#[]⟩ ⟨#[]⟩ ns its iv.rep iv.nod iv.sm iv.ver (bl_nil key) (.inl rfl) l q tl hd htl hf hrm
 rw [htl, runs_climb]
 obtain ⟨s, hs⟩ : ∃ s, climb q (t.set q ((t.at q).put key r0).1) (t.root :: tl) = s := ⟨_, rfl⟩
 rw [hs] at cp ⊢
 have hS : ∀ x ∈ ns, t.map x ≠ none := fun x hx => isS_of (iv.rep.isS x hx)
 have hnd : ns'.Nodup := by
  refine cp.perm.nodup_iff.2 (List.nodup_append.2 ⟨iv.nod, cp.up.nod, fun x hx y hy e => ?_⟩)
  subst e
  exact hS x hx (cp.up.fresh x hy)
 have hlen : ns'.length = ns.length + fr.length := by rw [cp.perm.length_eq, List.length_append]
 have hcnt := iv.cnt
 have hroom := cp.up.room
 have hgone := cp.up.gone
 have easy : Small s.1.1 t.root → Inv s.1.1 N h ns' (insI (key, r0) its) (V + 2) := fun hsm => by
  refine ⟨cp.up.wf, by rw [cp.up.root]; exact cp.rep, hnd, fun x hx => ?_, cp.ver, by rw [hgone]; omega⟩
  by_cases e : x = t.root
  ·rw [e]; exact hsm
  ·exact cp.small x hx e
 unfold rootStep
 by_cases hs2 : s.2 = true
 ·rw [if_pos hs2]
  exact ⟨h, ns', easy (cp.stop hs2), Nat.le_refl _, Nat.le_succ _, hgone⟩
 rw [if_neg hs2]
 by_cases h4 : (s.1.1.at t.root).refs.length ≤ 4
 ·rw [if_pos h4]
  exact ⟨h, ns', easy h4, Nat.le_refl _, Nat.le_succ _, hgone⟩
 rw [if_neg h4]
 have hs2' : s.2 = false := by simpa using hs2
 have hfull : cntB t tl = tl.length := by
  have : ¬ cntB t tl < tl.length := fun h => hs2 (cp.iff.2 h)
  omega
 have hmore := cp.more hs2'
 have hrns : t.root ∈ ns := by obtain ⟨_, _, _, e⟩ := iv.rep.head; rw [e]; simp
 have hrS := iv.sm t.root hrns
 unfold Small at hrS
 have hbig : big t t.root = true := by unfold big; simp; omega
 rw [if_pos hfull, if_pos hbig] at hc
 rw [if_pos (by rw [List.length_cons]; omega), List.length_cons] at hr
 have hfr := cp.cnt
 have hrm1 : ¬ s.1.1.p.room = 0 := by omega
 obtain ⟨nn, nns, hnn, hns2⟩ := cp.rep.head
 have hnat := Tm.map_at hnn
 obtain ⟨am, mid, bm, hsp⟩ : ∃ a mid b, nn.split = (a, mid, b) := ⟨_, _, _, rfl⟩
 obtain ⟨T1, hT1⟩ : ∃ T, s.1.1.set t.root am = T := ⟨_, rfl⟩
 obtain ⟨a1, a2, a3, a4, a5⟩ := Tm.mset (n := am) cp.up.wf hnn
 rw [hT1] at a1 a2 a3 a4 a5
 obtain ⟨q0, hq0⟩ : ∃ q0, T1.tk = q0 := ⟨_, rfl⟩
 obtain ⟨T2, hT2⟩ : ∃ T, T1.take bm = T := ⟨_, rfl⟩
 obtain ⟨b1, b2, b3, b4, b5, b6⟩ := Tm.mtake (n := bm) a2 (by rw [a5]; exact hrm1)
 rw [hT2] at b1 b2 b3 b4 b5
 rw [hq0, a1] at b6
 rw [hq0, a1] at b1
 have hqr : q0 ≠ t.root := fun e => by rw [e, upd_self] at b6; cases b6
 rw [upd_ne hqr] at b6
 have hq2 : q0 ∉ ns' := fun hm => isS_of (cp.rep.isS q0 hm) b6
 obtain ⟨r2, hr2⟩ : ∃ r2, T2.tk = r2 := ⟨_, rfl⟩
 obtain ⟨nr, hnr⟩ : ∃ nr : Nd.Nd, (⟨false, 1, [mid], [t.root, q0]⟩ : Nd.Nd) = nr := ⟨_, rfl⟩
 obtain ⟨T3, hT3⟩ : ∃ T, T2.take nr = T := ⟨_, rfl⟩
 obtain ⟨c1, c2, c3, c4, c5, c6⟩ := Tm.mtake (n := nr) b2 (by rw [b5, a5]; omega)
 rw [hT3] at c1 c2 c3 c4 c5
 rw [hr2] at c1 c6
 have hlen5 : nn.refs.length = 5 := by rw [← hnat]; omega
 obtain ⟨am', mid', bm', k1, k2, k3, k4, k5, k6, k7, k8, k9, nsA, nsB, itA, itB, k10, k11, k12, nl, nr', k13, k14, k15⟩ := cp.rep.cutNode (q := q0) hnn (by omega) hq2 hnd
 rw [hsp] at k1
 cases k1
 have hhalf : nn.half = 3 := by unfold Nd.Nd.half; rw [hlen5]
 have hsplit : s.1.1.split t.root none = ({ T3 with root := r2 }, q0) := by
  unfold Tm.split
  simp only []
  rw [hnat, hsp]
  simp only []
  rw [hT1, hT2, hq0, hnr, hT3, hr2]
 have hst : (stp q s.1 t.root none).1 = { T3 with root := r2 } := by unfold stp; rw [hsplit]
 rw [hst]
 rw [← b1] at k10 k11
 have hA : ∀ x ∈ nsA ++ nsB, x ≠ r2 := fun x hx e => by
  rcases List.mem_append.1 hx with hx | hx
  ·exact isS_of (k10.isS x hx) (by rw [e]; exact c6)
  ·exact isS_of (k11.isS x hx) (by rw [e]; exact c6)
 have hfr3 : ∀ x ∈ nsA ++ nsB, T3.map x = T2.map x := fun x hx => by rw [c1, upd_ne (hA x hx)]
 have hp : (nsA ++ nsB).Perm (q0 :: ns') := by
  rw [k13, k14, k15]
  have := List.perm_middle (a := q0) (l₁ := t.root :: nl) (l₂ := nr')
  simpa [List.append_assoc] using this
 have hr3 : T3.at r2 = nr := Tm.map_at (by rw [c1]; exact upd_self _ _ _)
 have hrt3 : T3.at t.root = am := Tm.map_at (by rw [hfr3 t.root (by rw [k14]; simp), b1, upd_ne (Ne.symm hqr)]; exact upd_self _ _ _)
 have hq3 : T3.at q0 = bm := Tm.map_at (by rw [hfr3 q0 (by rw [k15]; simp), b1]; exact upd_self _ _ _)
 have hrest : ∀ x ∈ ns', x ≠ t.root → T3.at x = s.1.1.at x := fun x hx hne => by
  have hm : x ∈ nsA ++ nsB := hp.mem_iff.2 (List.mem_cons_of_mem _ hx)
  refine at_of ?_ (isS_of (cp.rep.isS x hx))
  rw [hfr3 x hm, b1, upd_ne (fun e => hq2 (by rw [← e]; exact hx)), upd_ne hne]
 have hvr := cp.verR
 unfold Ver at hvr
 rw [hnat] at hvr
 have hwr := wrap_up hvr.1 hvr.2 (by omega)
 refine ⟨h + 1, r2 :: (nsA ++ nsB), ⟨c2, ?_, List.nodup_cons.2 ⟨fun hm => hA r2 hm rfl, hp.nodup_iff.2 (List.nodup_cons.2 ⟨hq2, hnd⟩)⟩, fun x hx => ?_, fun x hx => ?_, ?_⟩, Nat.le_succ _, Nat.le_refl _, by show T3.gone = t.gone; rw [c4, b4, a4, hgone]⟩
 ·show Rep T3.map (h + 1) r2 ⟨#[]⟩ ⟨#[]⟩ (r2 :: (nsA ++ nsB)) (insI (key, r0) its)
  refine ⟨nr, nsA ++ nsB, by rw [c1]; exact upd_self _ _ _, by rw [← hnr], rfl, ?_⟩
  rw [k12, ← hnr]
  exact Row.two (k10.frame (fun x hx => hfr3 x (List.mem_append_left _ hx))) (k11.frame (fun x hx => hfr3 x (List.mem_append_right _ hx))) k2 k3
 ·show (T3.at x).refs.length ≤ 4
  rcases List.mem_cons.1 hx with rfl | hx
  ·rw [hr3, ← hnr]; simp
  ·rcases List.mem_cons.1 (hp.mem_iff.1 hx) with rfl | hx
   ·rw [hq3, k5, hhalf, hlen5]; omega
   ·by_cases e : x = t.root
    ·rw [e, hrt3, k4, hhalf]; omega
    ·rw [hrest x hx e]; exact cp.small x hx e
 ·show 0 ≤ (T3.at x).ver ∧ (T3.at x).ver ≤ V + 2
  rcases List.mem_cons.1 hx with rfl | hx
  ·rw [hr3, ← hnr]; simp only []; omega
  ·rcases List.mem_cons.1 (hp.mem_iff.1 hx) with rfl | hx
   ·rw [hq3, k7]; omega
   ·by_cases e : x = t.root
    ·rw [e, hrt3, k6, hwr]; omega
    ·rw [hrest x hx e]; exact cp.ver x hx
 ·show T3.p.room = (N : Int) - ((r2 :: (nsA ++ nsB)).length : Int) - (T3.gone.length : Int)
  have h5 := hp.length_eq
  rw [c5, b5, a5, hroom, c4, b4, a4, hgone, List.length_cons, h5, List.length_cons, hlen]
  omega
theorem Bd.runs {s : List Rf} {leaf : Rf} : ∀ {xs : List (Ix s.length)} {p : Tm × List Trn} {m : Nat}, Bd p.1 m → 2 ≤ m → Bd (runsI s leaf xs p).1 (m + xs.length)
 | [], p, m, h, _ => h
 | x :: xs, p, m, h, hm => by
  rw [runsI]
  by_cases e : smallI s p x = true
  ·rw [if_pos e]
   exact h.mono (Nat.le_add_right _ _)
  ·rw [if_neg e]
   have := Bd.runs (leaf := leaf) (xs := xs) (p := stpI s leaf p x) (Bd.split h hm _ _) (by omega)
   rw [List.length_cons, show m + (xs.length + 1) = m + 1 + xs.length by omega]
   exact this
theorem Bd.put {t : Tm} {m : Nat} (h : Bd t m) (hm : 2 ≤ m) (key : ByteArray) (r0 : Rf) (l : List (Rf × Nat)) (q : Rf) : Bd (t.putW key r0 l q).1 (m + 2 + l.length) := by
 unfold Tm.putW
 split
 ·exact h.mono (by omega)
 ·split
  ·have h1 := Bd.runs (s := wayL l q) (leaf := q) (xs := ixL (wayL l q).length (wayL l q).length (Nat.le_refl _)) (p := (t.set q ((t.at q).put key r0).1, [])) (m := m + 1) ((h.mono (Nat.le_succ m)).set q (put_bd (h.at q) key r0)) (by omega)
   rw [ixL_length] at h1
   have e : m + 1 + (wayL l q).length = m + 2 + l.length := by unfold wayL; simp; omega
   rw [e] at h1
   exact h1
  ·exact h.mono (by omega)
end
section
attribute [local irreducible] bl
variable {N : Nat} {P : NP} {rs : List Rf} {ks : List ByteArray} {lo hi : ByteArray} {ns : List Rf} {its : List It}
def loK (ks : List ByteArray) (lo : ByteArray) (i : Nat) : ByteArray := if 0 < i then ks.getD (i - 1) ⟨#[]⟩ else lo
def hiK (ks : List ByteArray) (hi : ByteArray) (i : Nat) : ByteArray := if i < ks.length then ks.getD i ⟨#[]⟩ else hi
def rowF {α : Type} (F : Rf → ByteArray → ByteArray → List α) : List Rf → List ByteArray → ByteArray → ByteArray → List α
 | [], _, _, _ => []
 | r :: _, [], lo, hi => F r lo hi
 | r :: rs, k :: ks, lo, hi => F r lo k ++ rowF F rs ks k hi
theorem range_row {α : Type} (F : Rf → ByteArray → ByteArray → List α) : ∀ (rs : List Rf) (ks : List ByteArray) (lo hi : ByteArray), ks.length + 1 = rs.length → (List.range rs.length).flatMap (fun i => F (rs.getD i (0, 0)) (loK ks lo i) (hiK ks hi i)) = rowF F rs ks lo hi
 | [], ks, lo, hi, h => by simp at h
 | r :: rs, [], lo, hi, h => by
  have e : rs = [] := List.eq_nil_of_length_eq_zero (by simpa using h.symm)
  subst e
  simp [rowF, loK, hiK]
 | r :: rs, k :: ks, lo, hi, h => by
  have ih := range_row F rs ks k hi (by simpa using h)
  rw [List.length_cons, List.range_succ_eq_map, List.flatMap_cons, List.flatMap_map, rowF, ← ih]
  have e1 : ∀ i, loK (k :: ks) lo (i + 1) = loK ks k i := fun i => by unfold loK; cases i <;> simp
  have e2 : ∀ i, hiK (k :: ks) hi (i + 1) = hiK ks hi i := fun i => by unfold hiK; simp
  have e3 : loK (k :: ks) lo 0 = lo := rfl
  have e4 : hiK (k :: ks) hi 0 = k := rfl
  simp only [Nat.succ_eq_add_one, e1, e2, e3, e4, List.getD_cons_succ, List.getD_cons_zero]
theorem Row.each (h : Row P rs ks lo hi ns its) : ∀ x ∈ rs, ∃ lo' hi' ns' its', P x lo' hi' ns' its' ∧ ∀ y ∈ ns', y ∈ ns := by
 induction h with
 | one h =>
  intro x hx
  rw [List.mem_singleton.1 hx]
  exact ⟨_, _, _, _, h, fun y hy => hy⟩
 | cons h h1 h2 h3 ih =>
  intro x hx
  rcases List.mem_cons.1 hx with rfl | hx
  ·exact ⟨_, _, _, _, h, fun y hy => List.mem_append_left _ hy⟩
  ·obtain ⟨a, b, c, d, e, f⟩ := ih x hx
   exact ⟨a, b, c, d, e, fun y hy => List.mem_append_right _ (f y hy)⟩
structure NOk (n : Nd.Nd) : Prop where
 sh : n.shape = true
 a : Asc n.keys
 len : n.keys.length ≤ n.refs.length
 lf : n.leaf = true → n.keys.length = n.refs.length
theorem Rep.nok {t : Tm} : ∀ {h : Nat} {r : Rf} {lo hi : ByteArray} {ns : List Rf} {its : List It}, Rep t.map h r lo hi ns its → ∀ x ∈ ns, NOk (t.at x)
 | 0, r, lo, hi, ns, its, ⟨n, a, b, c, d, e, f, g⟩ => fun x hx => by
  rw [f] at hx
  rw [List.mem_singleton.1 hx, Tm.map_at a]
  exact ⟨Rep.shape (h := 0) (lo := lo) (hi := hi) (ns := ns) (its := its) ⟨n, a, b, c, d, e, f, g⟩ a, d, by omega, fun _ => c⟩
 | h + 1, r, lo, hi, ns, its, ⟨n, ns', a, b, c, d⟩ => fun x hx => by
  rw [c] at hx
  rcases List.mem_cons.1 hx with rfl | hx
  ·rw [Tm.map_at a]
   have := d.len
   exact ⟨Rep.shape (h := h + 1) ⟨n, ns', a, b, c, d⟩ a, d.keys.1, by omega, fun e => by rw [b] at e; cases e⟩
  ·exact d.all (Q := fun x => NOk (t.at x)) (fun r lo hi ns its h1 => h1.nok) x hx
theorem Dn.lf {t : Tm} {key : ByteArray} {r q : Rf} {l : List (Rf × Nat)} (h : Dn t key r l q) : (t.at q).leaf = true := by
 induction h with
 | leaf _ h => exact h
 | step _ _ _ _ _ _ _ _ ih => exact ih
theorem Rep.mem {t : Tm} {key : ByteArray} : ∀ {h : Nat} {r : Rf} {lo hi : ByteArray} {ns : List Rf} {its : List It}, Rep t.map h r lo hi ns its → ∀ {l : List (Rf × Nat)} {q : Rf}, Dn t key r l q → q ∈ ns
 | 0, r, lo, hi, ns, its, ⟨n, a, b, c, d, e, f, g⟩, l, q, hd => by
  rcases hd.inv with ⟨_, _, rfl⟩ | ⟨r', l2, h1, _⟩
  ·rw [f]; simp
  ·rw [Tm.map_at a, b] at h1; cases h1
 | h + 1, r, lo, hi, ns, its, ⟨n, ns', a, b, c, d⟩, l, q, hd => by
  rcases hd.inv with ⟨h1, _⟩ | ⟨r', l2, _, _, hk, hd', _⟩
  ·rw [Tm.map_at a, b] at h1; cases h1
  ·rw [Tm.map_at a] at hk
   obtain ⟨lo', hi', ns1, its1, e1, e2⟩ := d.each r' (List.mem_of_getElem? hk)
   rw [c]
   exact List.mem_cons_of_mem _ (e2 q (e1.mem hd'))
theorem Rep.wok {t : Tm} {C : Nd.Nd → Prop} : ∀ {h : Nat} {r : Rf} {lo hi : ByteArray} {ns : List Rf} {its : List It}, Rep t.map h r lo hi ns its → (∀ x ∈ ns, C (t.at x)) → (∀ x ∈ ns, Small t x) → WOk t C h r
 | 0, r, lo, hi, ns, its, ⟨n, a, b, c, d, e, f, g⟩, hC, hs => ⟨by rw [Tm.map_at a]; exact b, hC r (by rw [f]; simp)⟩
 | h + 1, r, lo, hi, ns, its, ⟨n, ns', a, b, c, d⟩, hC, hs => by
  have hl := d.len
  have h4 := hs r (by rw [c]; simp)
  unfold Small at h4
  refine ⟨hC r (by rw [c]; simp), .inr ⟨by rw [Tm.map_at a]; omega, by omega, fun x hx => ?_⟩⟩
  rw [Tm.map_at a] at hx
  obtain ⟨lo', hi', ns1, its1, e1, e2⟩ := d.each x hx
  have hsub : ∀ y ∈ ns1, y ∈ ns := fun y hy => by rw [c]; exact List.mem_cons_of_mem _ (e2 y hy)
  exact e1.wok (fun y hy => hC y (hsub y hy)) (fun y hy => hs y (hsub y hy))
theorem emp_nil : emp ⟨#[]⟩ = true := by unfold emp; rw [Lib.toList_data]; rfl
theorem inK_of {lo hi k : ByteArray} (h1 : bl k lo = false) (h2 : blw k hi) : inK lo hi k = true := by
 unfold inK
 rw [h1]
 rcases h2 with rfl | h2
 ·rw [emp_nil]; rfl
 ·rw [h2]; simp
theorem okN_true {lo hi : ByteArray} : ∀ {l : List ByteArray}, (∀ k ∈ l, bl k lo = false ∧ blw k hi) → okN true lo hi l = true
 | [], _ => rfl
 | k :: l, h => by
  obtain ⟨h1, h2⟩ := h k (by simp)
  have e : okN true lo hi (k :: l) = okN (true && inK lo hi k) lo hi l := rfl
  rw [e, inK_of h1 h2]
  exact okN_true (fun x hx => h x (by simp [hx]))
theorem asc_of : ∀ {l : List ByteArray}, Asc l → asc l = true
 | [], _ => rfl
 | [a], _ => rfl
 | a :: b :: l, h => by
  obtain ⟨h1, h2⟩ := List.pairwise_cons.1 h
  simp only [asc, Bool.and_eq_true]
  exact ⟨h1 b (by simp), asc_of h2⟩
theorem NOk.check {n : Nd.Nd} (h : NOk n) (h4 : n.refs.length ≤ 4) (hv : 0 ≤ n.ver) : n.check = true := by
 unfold Nd.Nd.check
 rw [asc_of h.a, h.sh]
 simp [h4, hv]
def SeesAs (p : List Vis) (D : Int) (ns : List Rf) (its : List It) : Prop :=
 p.length = ns.length ∧ p.flatMap visI = its ∧ ∀ c : Chk, c.ok = true → (c.dp = -1 ∨ c.dp = D) → p.foldl chkS c = ⟨c.cnt + (ns.length : Int), true, D⟩
theorem Row.sees {F : Rf → ByteArray → ByteArray → List Vis} {D : Int} (h : Row P rs ks lo hi ns its) : (∀ r lo hi ns' its', (∀ x ∈ ns', x ∈ ns) → P r lo hi ns' its' → SeesAs (F r lo hi) D ns' its') → SeesAs (rowF F rs ks lo hi) D ns its := by
 induction h with
 | one h => exact fun hF => hF _ _ _ _ _ (fun x hx => hx) h
 | @cons r rs k ks lo hi n1 n2 i1 i2 h h1 h2 h3 ih =>
  intro hF
  obtain ⟨a1, a2, a3⟩ := hF _ _ _ _ _ (fun x hx => List.mem_append_left _ hx) h
  obtain ⟨b1, b2, b3⟩ := ih (fun r lo hi ns' its' hs hp => hF r lo hi ns' its' (fun x hx => List.mem_append_right _ (hs x hx)) hp)
  refine ⟨?_, ?_, fun c hc hd => ?_⟩
  ·rw [rowF, List.length_append, List.length_append, a1, b1]
  ·rw [rowF, List.flatMap_append, a2, b2]
  ·rw [rowF, List.foldl_append, a3 c hc hd, b3 _ rfl (.inr rfl)]
   simp only [List.length_append, Int.natCast_add, Int.add_assoc]
theorem Rep.sees {t : Tm} : ∀ {h : Nat} {r : Rf} {lo hi : ByteArray} {ns : List Rf} {its : List It}, Rep t.map h r lo hi ns its → (∀ x ∈ ns, Small t x ∧ 0 ≤ (t.at x).ver) → ∀ d : Int, 0 ≤ d → SeesAs (visits t h r d lo hi) (d + h) ns its
 | 0, r, lo, hi, ns, its, hr, hs, d, hd => by
  have hn := hr.nok
  obtain ⟨n, a, b, c, e, f, g, i⟩ := hr
  have hat := Tm.map_at a
  have hrn : r ∈ ns := by rw [g]; simp
  have hck : n.check = true := by rw [← hat]; exact (hn r hrn).check (hs r hrn).1 (hs r hrn).2
  refine ⟨by rw [g]; rfl, ?_, fun cc hc hdp => ?_⟩
  ·show [(⟨t.at r, d, lo, hi⟩ : Vis)].flatMap visI = its
   rw [i, hat]
   simp [visI, visN, b]
  ·show chkS cc ⟨t.at r, d, lo, hi⟩ = _
   rw [hat]
   unfold chkS
   simp only [hc, hck, Bool.and_self]
   rw [okN_true f]
   unfold chkN
   rw [if_pos b]
   have hdp1 : cc.dp1 d = d := by
    unfold Chk.dp1
    rcases hdp with hdp | hdp
    ·rw [if_pos (by omega)]
    ·rw [if_neg (by omega)]; omega
   rw [hdp1, g]
   simp
 | h + 1, r, lo, hi, ns, its, hr, hs, d, hd => by
  have hn := hr.nok
  obtain ⟨n, ns', a, b, c, e⟩ := hr
  have hat := Tm.map_at a
  have hrn : r ∈ ns := by rw [c]; simp
  have hck : n.check = true := by rw [← hat]; exact (hn r hrn).check (hs r hrn).1 (hs r hrn).2
  have hl := e.len
  have hv : visits t (h + 1) r d lo hi = ⟨n, d, lo, hi⟩ :: rowF (fun r lo hi => visits t h r (d + 1) lo hi) n.refs n.keys lo hi := by
   rw [← range_row _ _ _ _ _ hl]
   rw [visits, hat, b]
   rfl
  have hk := e.keys
  obtain ⟨a1, a2, a3⟩ := e.sees (F := fun r lo hi => visits t h r (d + 1) lo hi) (D := d + 1 + h) (fun r lo hi ns1 its1 hsub hp => hp.sees (fun x hx => hs x (by rw [c]; exact List.mem_cons_of_mem _ (hsub x hx))) (d + 1) (by omega))
  rw [hv]
  refine ⟨by rw [c, List.length_cons, List.length_cons, a1], ?_, fun cc hc hdp => ?_⟩
  ·rw [List.flatMap_cons, a2]
   simp [visI, visN, b]
  ·have h1 : chkS cc ⟨n, d, lo, hi⟩ = ⟨cc.cnt + 1, true, cc.dp⟩ := by
    unfold chkS
    simp only [hc, hck, Bool.and_self]
    rw [okN_true (fun k hk' => ⟨bl_ble (hk.2 k hk').1, (hk.2 k hk').2⟩)]
    unfold chkN
    rw [if_neg (by rw [b]; simp)]
   rw [List.foldl_cons, h1, a3 _ rfl (by rcases hdp with hdp | hdp; exact .inl hdp; right; show cc.dp = _; rw [hdp]; push_cast; omega)]
   rw [c]
   simp only [List.length_cons, Chk.mk.injEq, true_and]
   push_cast
   omega
variable {t : Tm} {h : Nat} {V : Int}
theorem Inv.nok (iv : Inv t N h ns its V) : ∀ x ∈ ns, NOk (t.at x) := iv.rep.nok
theorem Inv.leaf (iv : Inv t N h ns its V) {key : ByteArray} {l : List (Rf × Nat)} {q : Rf} (hd : Dn t key t.root l q) : q ∈ ns ∧ Nd.Ok (t.at q) ∧ (t.find key q).2 = fnd key (t.at q).keys := by
 have hm := iv.rep.mem hd
 have ho := iv.nok q hm
 have hs := iv.sm q hm
 unfold Small at hs
 have hlf := hd.lf
 have hl := ho.lf hlf
 refine ⟨hm, ⟨by omega, by omega, ho.a⟩, ?_⟩
 have hf : (t.at q).find key = (plc key (t.at q).keys, fnd key (t.at q).keys) := by
  unfold Nd.Nd.find
  rw [hlf, hl]
  simp
 unfold Tm.find
 rw [hf]
 cases fnd key (t.at q).keys <;> rfl
theorem Inv.sees (iv : Inv t N h ns its V) : SeesAs (visits t h t.root 0 ⟨#[]⟩ ⟨#[]⟩) (0 + h) ns its := iv.rep.sees (fun x hx => ⟨iv.sm x hx, (iv.ver x hx).1⟩) 0 (Int.le_refl _)
theorem Inv.height (iv : Inv t N h ns its V) : h < N := by
 have h1 := iv.rep.height
 have h2 := iv.len
 omega
theorem Inv.wokS (iv : Inv t N h ns its V) : WOk t Nd.Sm h t.root := iv.rep.wok (fun x hx => by
 have h1 := iv.sm x hx
 have h2 := (iv.nok x hx).len
 unfold Small at h1
 exact ⟨by omega, by omega⟩) iv.sm
theorem Inv.wokI (iv : Inv t N h ns its V) : WOk t CI h t.root := iv.rep.wok (fun x hx => fun hl => by
 have h1 := iv.sm x hx
 have h2 := (iv.nok x hx).lf hl
 unfold Small at h1
 exact ⟨h2, by omega⟩) iv.sm
theorem Inv.held (iv : Inv t N h ns its V) : (t.p.held : Int) = ns.length + t.gone.length := by
 have h1 := iv.cnt
 unfold Ar.room at h1
 have h3 := iv.wf.2.2
 omega
theorem Inv.checked {w0 w : World} {K : Nat × Nat × Nat} {on : Value} {R L : List Ob} (iv : Inv t N h ns its V) (hN : N ≤ 100000) (hM : Mt w0 w K t on R L) : Calls Try.prog 70 #[.pointer (some ⟨K.1, 0, none⟩)] w fun e w' => e = .returned (.bool true) ∧ Mt w0 w' K t on R L := by
 have h1 := iv.len
 have h2 := iv.height
 obtain ⟨a, b, c⟩ := iv.sees
 have h3 := iv.held
 refine tcheck.calls hM (m := 1000000) (Nat.le_refl _) iv.wokS (by omega) (by omega) (by omega) (c chk0 rfl (.inl rfl)) ?_
 rw [Bool.and_eq_true, decide_eq_true_eq]
 exact ⟨rfl, by show (t.p.held : Int) - t.gone.length = 0 + (ns.length : Int); omega⟩
theorem Inv.items {w0 w : World} {K : Nat × Nat × Nat} {on : Value} {R L : List Ob} (iv : Inv t N h ns its V) (hN : N ≤ 100000) (hM : Mt w0 w K t on R L) : Calls Try.prog 69 #[.pointer (some ⟨K.1, 0, none⟩)] w fun e w' => ∃ ad c A, e = .returned (.slice ad its.length c) ∧ Gr 104 3 (.slice ad its.length c) its.length (its.flatMap icel) A ∧ Mt w0 w' K t on R (A ++ L) := by
 have h1 := iv.len
 have h2 := iv.height
 obtain ⟨a, b, c⟩ := iv.sees
 exact titems.calls hM (m := 200000) (Nat.le_refl _) iv.wokI (by omega) (by omega) b
theorem Inv.new (m : Nat) (h1 : 1 ≤ m) (h2 : m ≤ 4096) : Inv (Tm.new m) m 0 [(0, 1)] [] 1 ∧ (Tm.new m).root = (0, 1) ∧ (Tm.new m).gone = [] ∧ (Tm.new m).at (0, 1) = ⟨true, 1, [], []⟩ := by
 have hn : (Ar.new m []).n = m := by simp [Ar.new, Ar.n]
 have hw : (Tm.new0 m).Wf m := ⟨new_ok m h2 [] rfl trivial, by simp [Tm.new0], hn⟩
 have hheld : (Ar.new m []).held = 0 := by simp [Ar.new, Ar.held, List.countP_replicate]
 have hroom : (Tm.new0 m).p.room = m := by
  show (Ar.new m []).room = m
  unfold Ar.room
  rw [hn, hheld]
  omega
 have hr : ¬ (Tm.new0 m).p.room = 0 := by omega
 have hz : ((Ar.new m []).slot 0).gen = 0 := by
  simp only [Ar.new, Ar.slot, List.getD_eq_getElem?_getD, List.getElem?_replicate]
  split <;> rfl
 have hnx : (Ar.new m []).next = 0 := by simp [Ar.new, Ar.next]
 have htk : (Tm.new0 m).tk = (0, 1) := by
  unfold Tm.tk
  rw [if_neg hr]
  show ((Ar.new m []).next, (Ar.new m []).gen) = _
  unfold Ar.gen
  rw [hnx, hz]
  have hw1 : wrap64 (0 + 1) = 1 := by unfold wrap64; omega
  rw [hw1]
 obtain ⟨a1, a2, a3, a4, a5, a6⟩ := Tm.mtake (n := ⟨true, 1, [], []⟩) hw hr
 rw [htk] at a1
 have hroot : (Tm.new m).root = (0, 1) := by unfold Tm.new; exact htk
 have hmap : (Tm.new m).map = upd (Tm.new0 m).map (0, 1) ⟨true, 1, [], []⟩ := a1
 have hat : (Tm.new m).at (0, 1) = ⟨true, 1, [], []⟩ := Tm.map_at (by rw [hmap]; exact upd_self _ _ _)
 have hgone : (Tm.new m).gone = [] := by show ((Tm.new0 m).take _).gone = []; rw [a4]; rfl
 refine ⟨⟨a2, ?_, by simp, fun x hx => ?_, fun x hx => ?_, ?_⟩, hroot, hgone, hat⟩
 ·rw [hroot]
  exact ⟨⟨true, 1, [], []⟩, by rw [hmap]; exact upd_self _ _ _, rfl, rfl, List.Pairwise.nil, fun k hk => by simp at hk, rfl, rfl⟩
 ·rw [List.mem_singleton.1 hx]
  unfold Small
  rw [hat]
  simp
 ·rw [List.mem_singleton.1 hx]
  unfold Ver
  rw [hat]
  simp
 ·rw [hgone]
  show ((Tm.new0 m).take _).p.room = _
  rw [a5, hroom]
  simp
theorem Inv.lone {r : Rf} (iv : Inv t N 0 [r] its V) {n : Nd.Nd} (hl : n.leaf = true) (hk : n.keys.length = n.refs.length) (ha : Asc n.keys) (h4 : n.refs.length ≤ 4) {V' : Int} (hv : 0 ≤ n.ver ∧ n.ver ≤ V') : Inv (t.set r n) N 0 [r] (itemsOf n) V' ∧ (t.set r n).at r = n := by
 obtain ⟨n0, a, b, c, d, e, f, g⟩ := iv.rep
 have hr : r = t.root := (List.cons.inj f).1
 rw [← hr] at a
 obtain ⟨a1, a2, a3, a4, a5⟩ := Tm.mset (n := n) iv.wf a
 have hat : (t.set r n).at r = n := Tm.map_at (by rw [a1]; exact upd_self _ _ _)
 refine ⟨⟨a2, ?_, by simp, fun x hx => ?_, fun x hx => ?_, by rw [a5, a4]; exact iv.cnt⟩, hat⟩
 ·rw [a3, ← hr]
  exact ⟨n, by rw [a1]; exact upd_self _ _ _, hl, hk, ha, fun k _ => ⟨bl_nil k, .inl rfl⟩, rfl, rfl⟩
 ·rw [List.mem_singleton.1 hx]
  unfold Small
  rw [hat]
  exact h4
 ·rw [List.mem_singleton.1 hx]
  unfold Ver
  rw [hat]
  exact hv
end
end Go.Proofs.Ytglbcfkmaamhaaa.Tr
namespace Go.Proofs.Ytglbcfkmaamhaaa.Bs
open Go Go.RowKit Go.Proofs.YtglbcfkmaamhaaaW.PrintWords Go.Proofs.YtglbcfkmaamhaaaW.PrintLast Go.Proofs.YtglbcfkmaamhaaaW.PrintMore Go.Proofs.Ytglbcfkmaamhaaa.Hv Go.Proofs.Ytglbcfkmaamhaaa.Arm Go.Proofs.Ytglbcfkmaamhaaa.Nd Go.Proofs.Ytglbcfkmaamhaaa.Tr
section
variable {w0 w w1 : World} {L L' R : List Ob} {t : Tm} {s : Ar} {f : Int} {on : Value} {J : Jx}
attribute [local irreducible] bl
theorem insI_len (x : It) : ∀ l : List It, (insI x l).length = l.length + 1
 | [] => rfl
 | y :: l => by
  rw [insI]
  split
  ·rfl
  ·rw [List.length_cons, insI_len x l, List.length_cons]
theorem insI_mem (x : It) : ∀ (l : List It) (y : It), y ∈ insI x l → y = x ∨ y ∈ l
 | [], y, h => .inl (List.mem_singleton.1 h)
 | z :: l, y, h => by
  rw [insI] at h
  split at h
  ·rcases List.mem_cons.1 h with h | h
   ·exact .inl h
   ·exact .inr h
  ·rcases List.mem_cons.1 h with h | h
   ·exact .inr (by rw [h]; simp)
   ·rcases insI_mem x l y h with h | h
    ·exact .inl h
    ·exact .inr (List.mem_cons_of_mem _ h)
abbrev rz : List Value := rcell (⟨#[]⟩, 0, ⟨#[]⟩)
structure Rin (s : Ar) (k : Nat) (its : List It) : Prop where
 ok : s.Ok 3 ArR.XP
 n : s.n = 300
 gen : ∀ j : Int, 0 ≤ (s.slot j).gen ∧ (s.slot j).gen ≤ k
 g0 : 1 ≤ (s.slot 0).gen
 no : s.has 0 1 = false
 got : ∀ x ∈ its, s.has x.2.1 x.2.2 = true ∧ (s.slot x.2.1).x = rcell (x.1, 2, ⟨#[]⟩)
 held : s.held = its.length
theorem slot_take {m : Nat} {X : List Value → Prop} (h : s.Ok m X) (hr : ¬ s.room = 0) (x : List Value) (j : Int) : (s.take x).slot j = if j.toNat = s.next.toNat then ⟨x, s.gen, true⟩ else s.slot j := by
 obtain ⟨h1, h2⟩ := h.next hr
 rw [Ar.take, slot_set _ _ _ _ _ _ (by omega)]
theorem slot_drop {i q : Int} (h : s.has i q = true) (z : List Value) (j : Int) : (s.drop i z).slot j = if j.toNat = i.toNat then ⟨z, (s.slot i).gen, false⟩ else s.slot j := by
 obtain ⟨h1, h2, h3, h4⟩ := Ar.has_lt h
 rw [Ar.drop, slot_set _ _ _ _ _ _ (by omega)]
theorem slot_put {i q : Int} (h : s.has i q = true) (z : List Value) (j : Int) : (s.put i z).slot j = if j.toNat = i.toNat then ⟨z, (s.slot i).gen, true⟩ else s.slot j := by
 obtain ⟨h1, h2, h3, h4⟩ := Ar.has_lt h
 rw [Ar.put, slot_set _ _ _ _ _ _ (by omega)]
theorem xp_cell (c : ByteArray × Int × ByteArray) : ArR.XP (rcell c) := ⟨_, _, _, rfl⟩
section
variable {k : Nat} {its : List It}
theorem Rin.mono {k' : Nat} (h : Rin s k its) (hk : k ≤ k') : Rin s k' its := ⟨h.ok, h.n, fun j => ⟨(h.gen j).1, by have := (h.gen j).2; omega⟩, h.g0, h.no, h.got, h.held⟩
theorem Rin.room (h : Rin s k its) (hl : its.length < 300) : ¬ s.room = 0 := by
 have h1 := h.held
 have h2 := h.n
 unfold Ar.room
 omega
theorem Rin.gen1 (h : Rin s k its) (hk : k ≤ 1000) : s.gen = (s.slot s.next).gen + 1 := by
 have := h.gen s.next
 unfold Ar.gen wrap64
 omega
theorem Rin.take (h : Rin s k its) (hk : k ≤ 1000) (hl : its.length < 300) (key : ByteArray) : ((s.next, s.gen) : Rf) ≠ (0, 1) ∧ (s.take (rcell (key, 2, ⟨#[]⟩))).has s.next s.gen = true ∧ Rin (s.take (rcell (key, 2, ⟨#[]⟩))) (k + 1) (insI (key, (s.next, s.gen)) its) ∧
  ∀ (s2 : Ar), (s.take (rcell (key, 2, ⟨#[]⟩))).drop s.next rz = s2 → Rin s2 (k + 1) its := by
 have hr := h.room hl
 obtain ⟨n1, n2⟩ := h.ok.next hr
 have hg := h.gen1 hk
 have hgn := h.gen s.next
 have hhas := has_take h.ok hr (rcell (key, 2, ⟨#[]⟩))
 have hslot := slot_take h.ok hr (rcell (key, 2, ⟨#[]⟩))
 have hfree := h.ok.free
 have hn : (s.take (rcell (key, 2, ⟨#[]⟩))).n = s.n := by simp [Ar.n, Ar.take]
 have hheld := h.ok.held_take hr (rcell (key, 2, ⟨#[]⟩))
 have hok1 : (s.take (rcell (key, 2, ⟨#[]⟩))).Ok 3 ArR.XP := h.ok.take hr rfl (xp_cell _)
 have hself : (s.take (rcell (key, 2, ⟨#[]⟩))).has s.next s.gen = true := by rw [hhas, if_pos rfl]; simp
 have hg0 := h.g0
 have hne : ((s.next, s.gen) : Rf) ≠ (0, 1) := fun e => by
  have e1 : s.next = 0 := congrArg Prod.fst e
  have e2 : s.gen = 1 := congrArg Prod.snd e
  rw [e1] at hg
  omega
 have hno : (s.take (rcell (key, 2, ⟨#[]⟩))).has 0 1 = false := by
  rw [hhas]
  by_cases e : 0 = s.next
  ·rw [if_pos e, decide_eq_false_iff_not]
   intro e2
   exact hne (by rw [e2, ← e])
  ·rw [if_neg e]
   exact h.no
 have hold : ∀ x ∈ its, x.2.1.toNat ≠ s.next.toNat ∧ x.2.1 ≠ s.next := fun x hx => by
  obtain ⟨a, b⟩ := h.got x hx
  obtain ⟨a1, a2, a3, a4⟩ := Ar.has_lt a
  have : x.2.1 ≠ s.next := fun e => by
   rw [e, hfree] at a3
   cases a3
  exact ⟨by omega, this⟩
 have hgen1 : ∀ j : Int, 0 ≤ ((s.take (rcell (key, 2, ⟨#[]⟩))).slot j).gen ∧ ((s.take (rcell (key, 2, ⟨#[]⟩))).slot j).gen ≤ (k + 1 : Nat) := fun j => by
  rw [hslot]
  by_cases e : j.toNat = s.next.toNat
  ·rw [if_pos e]
   show 0 ≤ s.gen ∧ s.gen ≤ (k + 1 : Nat)
   omega
  ·rw [if_neg e]
   have := h.gen j
   omega
 have hg01 : 1 ≤ ((s.take (rcell (key, 2, ⟨#[]⟩))).slot 0).gen := by
  rw [hslot]
  split
  ·show 1 ≤ s.gen
   omega
  ·exact hg0
 refine ⟨hne, hself, ⟨hok1, by rw [hn]; exact h.n, hgen1, hg01, hno, fun x hx => ?_, by rw [hheld, insI_len, h.held]⟩, fun s2 hs2 => ?_⟩
 ·rcases insI_mem _ _ _ hx with rfl | hx
  ·refine ⟨hself, ?_⟩
   rw [hslot, if_pos rfl]
  ·obtain ⟨e1, e2⟩ := hold x hx
   rw [hhas, if_neg e2, hslot, if_neg e1]
   exact h.got x hx
 ·have hd := slot_drop hself rz
  have hdn : ((s.take (rcell (key, 2, ⟨#[]⟩))).drop s.next rz).n = s.n := by simp [Ar.n, Ar.drop, Ar.take]
  have hdh := Ar.held_drop hself rz
  rw [hs2] at hd hdn hdh
  have hgq : ∀ j : Int, (s2.slot j).gen = ((s.take (rcell (key, 2, ⟨#[]⟩))).slot j).gen := fun j => by
   rw [hd]
   by_cases e : j.toNat = s.next.toNat
   ·rw [if_pos e]
    have : (s.take (rcell (key, 2, ⟨#[]⟩))).slot j = (s.take (rcell (key, 2, ⟨#[]⟩))).slot s.next := by simp only [Ar.slot, e]
    rw [this]
   ·rw [if_neg e]
  refine ⟨by rw [← hs2]; exact hok1.drop hself rfl (xp_cell _), by rw [hdn]; exact h.n, fun j => by rw [hgq]; exact hgen1 j, by rw [hgq]; exact hg01, ?_, fun x hx => ?_, by have := h.held; omega⟩
  ·unfold Ar.has
   rw [hd]
   by_cases e : (0 : Int).toNat = s.next.toNat
   ·rw [if_pos e]
    simp
   ·rw [if_neg e, hdn, hslot, if_neg e]
    exact h.no
  ·obtain ⟨e1, e2⟩ := hold x hx
   unfold Ar.has
   rw [hd, if_neg e1, hdn, hslot, if_neg e1]
   exact h.got x hx
end
def Keep (w0 w : World) (J : Jx) (L : List Ob) (k : Nat) : Prop := ∃ t s on R h ns its V, Bt w0 w J t s 0 on R L ∧ Inv t 300 h ns its V ∧ 1 ≤ V ∧ V ≤ 10 + 2 * (k : Int) ∧ Bd t (10 + 400 * k) ∧ Rin s (k + 1) its ∧ its.length ≤ k ∧ t.gone = []
theorem putC {t : Tm} {h : Nat} {ns : List Rf} {its : List It} {V : Int} (iv : Inv t 300 h ns its V) {m : Nat} (hb : Bd t m) (h2 : 2 ≤ m) (hm : m ≤ 100000) (K : Nat × Nat × Nat) (key : ByteArray) (r : Rf) {l : List (Rf × Nat)} {q : Rf} (hd : Dn t key t.root l q) (hl : l.length = h) : PutC w0 K t (t.putW key r l q).1 (t.putW key r l q).2.1.length (t.putW key r l q).2.2 key r := fun w on R Lx hM => by
 have h3 := iv.height
 refine (tput.calls hM key r hd (iv.leaf hd).2.1 h2 hb (by omega)).mono ?_
 rintro e w' ⟨ad, c, A, R', rfl, hG, hh⟩
 exact ⟨ad, c, A, R', rfl, hh⟩
theorem tk_of (hr : ¬ s.room = 0) : tk s = (s.next, s.gen, 0) := by unfold tk; rw [if_neg hr]
theorem took_of (hr : ¬ s.room = 0) (x : List Value) : s.took x = s.take x := by unfold Ar.took; rw [if_neg hr]
theorem Keep.place {k : Nat} (H : Keep w0 w J L k) (hk : k ≤ 100) (key : ByteArray) : Calls Try.prog 76 #[.pointer (some ⟨J.b, 0, none⟩), .string key] w fun e w' => ∃ (r : Rf) (ad : Option Addr) (n cp : Nat) (er : Int), e = .returned (.tuple #[.agg #[.int .i64 r.1, .int .i64 r.2], .slice ad n cp, .int .i64 er]) ∧ r ≠ (0, 1) ∧ Keep w0 w' J L (k + 1) := by
 obtain ⟨t, s, on, R, h, ns, its, V, hB, iv, hV, hV2, hbd, hR, hl, hgone⟩ := H
 obtain ⟨l, q, hd, hlh⟩ := iv.dn key
 obtain ⟨hqm, hoq, hfind⟩ := iv.leaf hd
 have hh := iv.height
 cases hf : (t.find key q).2
 ·have hr := hR.room (by omega)
  obtain ⟨r1, r2, r3, r4⟩ := hR.take (by omega) (by omega) key
  have hpc := putC (w0 := w0) iv hbd (by omega) (by omega) J.K key (s.next, s.gen) hd hlh
  have hfn : fnd key (t.at q).keys = false := by rw [← hfind]; exact hf
  cases hrf : t.roomFor (wayL l q)
  ·have e : t.putW key (s.next, s.gen) l q = (t, [], 20) := by unfold Tm.putW; rw [hf, hrf]; rfl
   rw [e] at hpc
   have hfr : (s.take (rcell (key, 2, ⟨#[]⟩))).free s.next s.gen rz = (s.take (rcell (key, 2, ⟨#[]⟩))).drop s.next rz := by unfold Ar.free; rw [if_pos r2]
   refine (place.full hB key hd hoq hf hr (r := (s.next, s.gen)) (tk_of hr) (took_of hr _) (er := 20) (by decide) r2 hfr hpc).mono ?_
   rintro e1 w1 ⟨R', rfl, hB'⟩
   exact ⟨(0, 0), none, 0, 0, 20, rfl, by decide, t, _, _, R', h, ns, its, V, hB', iv, hV, by push_cast; omega, hbd.mono (by omega), r4 _ rfl, by omega, hgone⟩
  ·have e : (t.putW key (s.next, s.gen) l q).2.2 = 0 := by unfold Tm.putW; rw [hf, hrf]; rfl
   have e1 : (t.putW key (s.next, s.gen) l q).1 = (runsI (wayL l q) q (ixL (wayL l q).length (wayL l q).length (Nat.le_refl _)) (t.set q ((t.at q).put key (s.next, s.gen)).1, [])).1 := by unfold Tm.putW; rw [hf, hrf]; rfl
   rw [e] at hpc
   refine (place.ok hB key hd hoq hf hr (r := (s.next, s.gen)) (tk_of hr) (took_of hr _) hpc).mono ?_
   rintro e2 w1 ⟨ad, cp, R', rfl, hB'⟩
   obtain ⟨h', ns', iv', h1', h2', hg'⟩ := iv.put hV (by omega) key (s.next, s.gen) hd hfn hrf
   have hbd' := hbd.put (by omega) key (s.next, s.gen) l q
   rw [← e1] at iv' hg'
   exact ⟨(s.next, s.gen), ad, _, cp, 0, rfl, r1, _, _, _, R', h', ns', _, _, hB', iv', by omega, by push_cast; omega, hbd'.mono (by omega), r3, by rw [insI_len]; omega, by rw [hg', hgone]⟩
 ·refine (place.dup hB key hd hoq hf).mono ?_
  rintro e1 w1 ⟨rfl, hB'⟩
  exact ⟨(0, 0), none, 0, 0, 13, rfl, by decide, t, s, _, R, h, ns, its, V, hB', iv, hV, by push_cast; omega, hbd.mono (by omega), hR.mono (by omega), by omega, hgone⟩
def Keep3 (w0 w : World) (J : Jx) (L : List Ob) (f : Int) : Prop := ∃ t s on R h ns its V, Bt w0 w J t s f on R L ∧ Inv t 300 h ns its V ∧ Rin s 102 its ∧ its.length ≤ 101
theorem Keep.end {k : Nat} (H : Keep w0 w J L k) (hk : k ≤ 101) : Keep3 w0 w J L 0 := by
 obtain ⟨t, s, on, R, h, ns, its, V, hB, iv, hV, hV2, hbd, hR, hl, hgone⟩ := H
 exact ⟨t, s, on, R, h, ns, its, V, hB, iv, hR.mono (by omega), by omega⟩
theorem Keep3.call (H : Keep3 w0 w J L f) (hb : Below w.heap.size w w1) : Keep3 w0 w1 J L f := by
 obtain ⟨t, s, on, R, h, ns, its, V, hB, hr⟩ := H
 exact ⟨t, s, on, R, h, ns, its, V, hB.call hb, hr⟩
theorem Keep3.alloc (H : Keep3 w0 w J L f) (o : Obj) : Keep3 w0 (w.alloc o) J ((w.heap.size, o) :: L) f := by
 obtain ⟨t, s, on, R, h, ns, its, V, hB, hr⟩ := H
 exact ⟨t, s, on, R, h, ns, its, V, hB.alloc o, hr⟩
theorem Keep3.drop (H : Keep3 w0 w J L f) (hs : L'.Sublist L) : Keep3 w0 w J L' f := by
 obtain ⟨t, s, on, R, h, ns, its, V, hB, hr⟩ := H
 exact ⟨t, s, on, R, h, ns, its, V, hB.drop hs, hr⟩
theorem Keep3.other (H : Keep3 w0 w J L f) : Hv w0 w L := by
 obtain ⟨t, s, on, R, h, ns, its, V, hB, hr⟩ := H
 exact hB.other
theorem Keep3.bel (H : Keep3 w0 w J L f) : Below w0.heap.size w0 w := by
 obtain ⟨t, s, on, R, h, ns, its, V, hB, hr⟩ := H
 exact hB.bel
theorem Keep.alloc {k : Nat} (H : Keep w0 w J L k) (o : Obj) : Keep w0 (w.alloc o) J ((w.heap.size, o) :: L) k := by
 obtain ⟨t, s, on, R, h, ns, its, V, hB, hr⟩ := H
 exact ⟨t, s, on, R, h, ns, its, V, hB.alloc o, hr⟩
theorem Keep.call {k : Nat} (H : Keep w0 w J L k) (hb : Below w.heap.size w w1) : Keep w0 w1 J L k := by
 obtain ⟨t, s, on, R, h, ns, its, V, hB, hr⟩ := H
 exact ⟨t, s, on, R, h, ns, its, V, hB.call hb, hr⟩
theorem Keep.drop {k : Nat} (H : Keep w0 w J L k) (hs : L'.Sublist L) : Keep w0 w J L' k := by
 obtain ⟨t, s, on, R, h, ns, its, V, hB, hr⟩ := H
 exact ⟨t, s, on, R, h, ns, its, V, hB.drop hs, hr⟩
theorem Keep.other {k : Nat} (H : Keep w0 w J L k) : Hv w0 w L := by
 obtain ⟨t, s, on, R, h, ns, its, V, hB, hr⟩ := H
 exact hB.other
theorem Keep3.faults (H : Keep3 w0 w J L f) : Calls Try.prog 81 #[.pointer (some ⟨J.b, 0, none⟩)] w fun e w' => e = .returned (.int .i64 f) ∧ Keep3 w0 w' J L f := by
 obtain ⟨t, s, on, R, h, ns, its, V, hB, hr⟩ := H
 exact (faults.calls hB).mono (fun e w' hh => ⟨hh.1, t, s, on, R, h, ns, its, V, hh.2, hr⟩)
theorem Rin.gone {k : Nat} {its : List It} (h : Rin s k its) : Got s (0, 1) (⟨#[]⟩, 0, ⟨#[]⟩) false := .inr ⟨rfl, h.no, rfl⟩
theorem Keep3.get (H : Keep3 w0 w J L f) (hf : 0 ≤ f) (hf2 : f ≤ 1000) : Calls Try.prog 82 #[.pointer (some ⟨J.b, 0, none⟩), .agg #[.int .i64 0, .int .i64 1]] w fun e w' => e = .returned (.tuple #[.agg #[.string ⟨#[]⟩, .int .i64 0, .string ⟨#[]⟩], .bool false]) ∧ Keep3 w0 w' J L (f + 1) := by
 obtain ⟨t, s, on, R, h, ns, its, V, hB, iv, hR, hl⟩ := H
 exact (get.calls hB (0, 1) hR.gone hf (by omega)).mono (fun e w' hh => ⟨hh.1, t, s, on, R, h, ns, its, V, hh.2, iv, hR, hl⟩)
theorem Keep3.unlock (H : Keep3 w0 w J L f) (hf : 0 ≤ f) (hf2 : f ≤ 1000) : Calls Try.prog 83 #[.pointer (some ⟨J.b, 0, none⟩), .agg #[.int .i64 0, .int .i64 1]] w fun e w' => e = .returned (.bool false) ∧ Keep3 w0 w' J L (f + 1) := by
 obtain ⟨t, s, on, R, h, ns, its, V, hB, iv, hR, hl⟩ := H
 exact (unlock.no hB (0, 1) hR.gone hf (by omega)).mono (fun e w' hh => ⟨hh.1, t, s, on, R, h, ns, its, V, hh.2, iv, hR, hl⟩)
theorem Keep3.install (H : Keep3 w0 w J L f) (hf : 0 ≤ f) (hf2 : f ≤ 1000) (wd : Int) (dd : ByteArray) (ab : Bool) : Calls Try.prog 84 #[.pointer (some ⟨J.b, 0, none⟩), .agg #[.int .i64 0, .int .i64 1], .int .i64 wd, .string dd, .bool ab] w fun e w' => e = .returned (.bool false) ∧ Keep3 w0 w' J L (f + 1) := by
 obtain ⟨t, s, on, R, h, ns, its, V, hB, iv, hR, hl⟩ := H
 exact (install.no hB (0, 1) wd dd ab hR.gone hf (by omega)).mono (fun e w' hh => ⟨hh.1, t, s, on, R, h, ns, its, V, hh.2, iv, hR, hl⟩)
theorem Keep3.check (H : Keep3 w0 w J L f) : Calls Try.prog 85 #[.pointer (some ⟨J.b, 0, none⟩)] w fun e w' => e = .returned (.bool true) ∧ Keep3 w0 w' J L f := by
 obtain ⟨t, s, on, R, h, ns, its, V, hB, iv, hR, hl⟩ := H
 refine (check.calls hB (l := its) (by omega) (fun w on R Lx hM => iv.checked (by decide) hM) (fun w on R Lx hM => iv.items (by decide) hM) (fun i x hx => ?_)).mono (fun e w' hh => ⟨hh.1, t, s, on, R, h, ns, its, V, hh.2, iv, hR, hl⟩)
 obtain ⟨a, b⟩ := hR.got x (List.mem_of_getElem? hx)
 exact ⟨2, ⟨#[]⟩, .inl ⟨rfl, a, b⟩, dead2⟩
end
end Go.Proofs.Ytglbcfkmaamhaaa.Bs
