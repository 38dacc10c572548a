/- A text of this claim: parts TpD TpE TpF TpG. No condition. -/
import Derived.Test.YtglbcfkmaamhaaaHG20
import Derived.Test.YtglbcfkmaamhaaaHG18
set_option linter.unusedVariables false
set_option linter.unusedSimpArgs false
set_option maxHeartbeats 16000000
set_option maxRecDepth 100000
namespace Go.Proofs.Ytglbcfkmaamhaaa.Tr
open Go Go.RowKit Go.Proofs.YtglbcfkmaamhaaaW.PrintWords Go.Proofs.Ytglbcfkmaamhaaa.Hv Go.Proofs.Ytglbcfkmaamhaaa.Arm Go.Proofs.Ytglbcfkmaamhaaa.Nd Go.Proofs.Ytglbcfkmaamhaaa.ArN
section
attribute [local irreducible] bl
variable {N : Nat} {P : NP} {rs : List Rf} {ks : List ByteArray} {lo hi : ByteArray} {ns : List Rf} {its : List It}
theorem Tm.mset {t : Tm} {r : Rf} {n0 n : Nd.Nd} (hw : t.Wf N) (h : t.map r = some n0) : (t.set r n).map = upd t.map r n ∧ (t.set r n).Wf N ∧ (t.set r n).root = t.root ∧ (t.set r n).gone = t.gone ∧ (t.set r n).p.room = t.p.room := by
 exact Tm.map_set hw h
theorem Tm.mtake {t : Tm} {n : Nd.Nd} (hw : t.Wf N) (h : ¬ t.p.room = 0) : (t.take n).map = upd t.map t.tk n ∧ (t.take n).Wf N ∧ (t.take n).root = t.root ∧ (t.take n).gone = t.gone ∧ (t.take n).p.room = t.p.room - 1 ∧ t.map t.tk = none := by
 obtain ⟨a, b, c, d, e, f⟩ := Tm.map_take (n := n) hw h
 exact ⟨a, b, c, d, e, by unfold Tm.map; rw [f]; rfl⟩
def climb (leaf : Rf) (t1 : Tm) : List Rf → (Tm × List Trn) × Bool
 | [] => ((t1, []), true)
 | [x] => ((t1, []), false)
 | r :: x :: w => if (climb leaf t1 (x :: w)).2 = true then climb leaf t1 (x :: w) else if ((climb leaf t1 (x :: w)).1.1.at x).refs.length ≤ 4 then ((climb leaf t1 (x :: w)).1, true) else (stp leaf (climb leaf t1 (x :: w)).1 x (some r), false)
theorem cntB_le (t : Tm) (l : List Rf) : cntB t l ≤ l.length := by
 unfold cntB
 have := (List.takeWhile_sublist (big t) (l := l.reverse)).length_le
 simpa using this
theorem tw_snoc {α : Type} (p : α → Bool) (x : α) : ∀ l : List α, ((l ++ [x]).takeWhile p).length = if (l.takeWhile p).length = l.length then (if p x then (l.takeWhile p).length + 1 else (l.takeWhile p).length) else (l.takeWhile p).length
 | [] => by cases h : p x <;> simp [List.takeWhile, h]
 | y :: l => by
  rw [List.cons_append, List.takeWhile_cons, List.takeWhile_cons]
  cases h : p y
  ·simp
  ·have ih := tw_snoc p x l
   simp only [if_true, List.length_cons, ih]
   by_cases e : (l.takeWhile p).length = l.length
   ·have e1 : (l.takeWhile p).length + 1 = l.length + 1 := by omega
    simp only [if_pos e, if_pos e1]
    split <;> rfl
   ·have e1 : ¬ (l.takeWhile p).length + 1 = l.length + 1 := by omega
    simp only [if_neg e, if_neg e1]
theorem cntB_cons (t : Tm) (x : Rf) (l : List Rf) : cntB t (x :: l) = if cntB t l = l.length then (if big t x then cntB t l + 1 else cntB t l) else cntB t l := by
 unfold cntB
 rw [List.reverse_cons, tw_snoc, List.length_reverse]
structure Up (N : Nat) (t t' : Tm) (ns fr : List Rf) : Prop where
 wf : t'.Wf N
 room : t'.p.room = t.p.room - fr.length
 root : t'.root = t.root
 gone : t'.gone = t.gone
 fresh : ∀ f ∈ fr, t.map f = none
 nod : fr.Nodup
 off : ∀ x, x ∉ ns → x ∉ fr → t'.map x = t.map x
theorem Row.heads (hP : ∀ r lo hi ns its, P r lo hi ns its → ∃ ns', ns = r :: ns') (h : Row P rs ks lo hi ns its) : rs.Sublist ns := by
 induction h with
 | one h => obtain ⟨ns', rfl⟩ := hP _ _ _ _ _ h; exact List.Sublist.cons_cons _ (List.nil_sublist _)
 | cons h _ _ _ ih => obtain ⟨ns', rfl⟩ := hP _ _ _ _ _ h; exact List.Sublist.cons_cons _ (ih.trans (List.sublist_append_right _ _))
theorem Dn.way {t : Tm} {key : ByteArray} {r q : Rf} {l : List (Rf × Nat)} (h : Dn t key r l q) : ∃ tl, wayL l q = r :: tl := by
 rcases h.inv with ⟨_, rfl, rfl⟩ | ⟨r', l2, _, _, _, _, rfl⟩
 ·exact ⟨[], rfl⟩
 ·exact ⟨wayL l2 q, rfl⟩
theorem isS_of {m : Mm} {x : Rf} (h : (m x).isSome = true) : m x ≠ none := fun e => by rw [e] at h; cases h
theorem wrap_up {v V : Int} (h0 : 0 ≤ v) (h1 : v ≤ V) (hV : V ≤ 4611686018427387904) : wrap64 (v + 1) = v + 1 := by unfold wrap64; omega
theorem Row.two {a b mid : ByteArray} {r q : Rf} {n1 n2 : List Rf} {t1 t2 : List It} (h1 : P r a mid n1 t1) (h2 : P q mid b n2 t2) (h3 : bl a mid = true) (h4 : blw mid b) : Row P [r, q] [mid] a b (n1 ++ n2) (t1 ++ t2) := .cons h1 h3 h4 (.one h2)
def Small (t : Tm) (x : Rf) : Prop := (t.at x).refs.length ≤ 4
def Ver (t : Tm) (V : Int) (x : Rf) : Prop := 0 ≤ (t.at x).ver ∧ (t.at x).ver ≤ V
theorem at_of {t t' : Tm} {x : Rf} (h : t'.map x = t.map x) (hs : t.map x ≠ none) : t'.at x = t.at x := by
 obtain ⟨n, hn⟩ := Option.ne_none_iff_exists'.1 hs
 rw [Tm.map_at hn, Tm.map_at (h.trans hn)]
structure CP (N : Nat) (t : Tm) (s : (Tm × List Trn) × Bool) (h : Nat) (r : Rf) (lo hi : ByteArray) (ns : List Rf) (its : List It) (tl : List Rf) (V : Int) (fr ns' : List Rf) : Prop where
 up : Up N t s.1.1 ns fr
 cnt : fr.length = cntB t tl
 rep : Rep s.1.1.map h r lo hi ns' its
 perm : ns'.Perm (ns ++ fr)
 small : ∀ x ∈ ns', x ≠ r → Small s.1.1 x
 ver : ∀ x ∈ ns', Ver s.1.1 (V + 2) x
 verR : Ver s.1.1 (V + 1) r
 stop : s.2 = true → Small s.1.1 r
 iff : s.2 = true ↔ cntB t tl < tl.length
 more : s.2 = false → (s.1.1.at r).refs.length = (t.at r).refs.length + 1
theorem climb_rep (t : Tm) (hw : t.Wf N) (key : ByteArray) (r0 : Rf) (V : Int) (hV : 1 ≤ V) (hV2 : V ≤ 4611686018427387000) :
  ∀ (h : Nat) (r : Rf) (lo hi : ByteArray) (ns : List Rf) (its : List It), Rep t.map h r lo hi ns its → ns.Nodup → (∀ x ∈ ns, Small t x) → (∀ x ∈ ns, Ver t V x) → bl key lo = false → blw key hi →
  ∀ (l : List (Rf × Nat)) (q : Rf) (tl : List Rf), Dn t key r l q → wayL l q = r :: tl → fnd key (t.at q).keys = false → (cntB t tl : Int) ≤ t.p.room →
  ∃ fr ns', CP N t (climb q (t.set q ((t.at q).put key r0).1) (r :: tl)) h r lo hi ns (insI (key, r0) its) tl V fr ns'
 | 0, r, lo, hi, ns, its, hr, hnd, hsm, hv, hlo, hhi, l, q, tl, hd, hway, hf, hrm => by
  obtain ⟨n, a, b, c, d, e, f, g⟩ := id hr
  have hat := Tm.map_at a
  rcases hd.inv with ⟨_, rfl, rfl⟩ | ⟨r', l2, h1, _⟩
  ·have htl : tl = [] := by simpa [wayL] using hway.symm
   subst htl
   rw [hat] at hf ⊢
   obtain ⟨p1, p2, p3⟩ := hr.putLeaf (r0 := r0) a hlo hhi hf
   obtain ⟨m1, m2, m3, m4, m5⟩ := Tm.mset (n := (n.put key r0).1) hw a
   have hr1 : (t.set q (n.put key r0).1).at q = (n.put key r0).1 := Tm.map_at (by rw [m1]; exact upd_self _ _ _)
   have hvr := hv q (by rw [f]; simp)
   unfold Ver at hvr
   rw [hat] at hvr
   have hw1 := wrap_up hvr.1 hvr.2 (by omega)
   have hver : Ver (t.set q (n.put key r0).1) (V + 1) q := by unfold Ver; rw [hr1, p3, hw1]; omega
   refine ⟨[], ns, ⟨m2, by show (t.set q (n.put key r0).1).p.room = _; simp [m5], m3, m4, by simp, .nil, fun x hx _ => ?_⟩, rfl, (show Rep (t.set q (n.put key r0).1).map _ _ _ _ _ _ from by rw [m1]; exact p1), by simp, fun x hx hne => ?_, fun x hx => ?_, hver, (fun e => by cases e), ⟨fun e => (by cases e), fun e => (by simp at e)⟩, fun _ => ?_⟩
   ·show (t.set q (n.put key r0).1).map x = _
    rw [m1]
    exact upd_ne (fun e => hx (by rw [e, f]; simp))
   ·rw [f] at hx
    exact absurd (List.mem_singleton.1 hx) hne
   ·rw [f] at hx
    rw [List.mem_singleton.1 hx]
    exact ⟨hver.1, by have := hver.2; show _ ≤ V + 2; simp only [climb]; omega⟩
   ·show ((t.set q (n.put key r0).1).at q).refs.length = _
    rw [hr1, p2, hat]
  ·rw [hat, b] at h1; cases h1
 | h + 1, r, lo, hi, ns, its, hr, hnd, hsm, hv, hlo, hhi, l, q, tl, hd, hway, hf, hrm => by
  obtain ⟨n, ns0, a, b, c, d⟩ := id hr
  have hat := Tm.map_at a
  have hsh := hr.shape a
  have hk := d.keys
  have hl := d.len
  rcases hd.inv with ⟨h1, _⟩ | ⟨r', l2, _, _, hk', hd', rfl⟩
  ·rw [hat, b] at h1; cases h1
  obtain ⟨tl', htl'⟩ := hd'.way
  have htl : tl = r' :: tl' := by
   have : wayL ((r, (t.at r).child key) :: l2) q = r :: wayL l2 q := rfl
   rw [this, htl'] at hway
   exact (List.cons.inj hway).2.symm
  subst htl
  obtain ⟨i, hie⟩ : ∃ i, plc key n.keys + (if fnd key n.keys then 1 else 0) = i := ⟨_, rfl⟩
  have hc : (t.at r).child key = i := by rw [hat]; unfold Nd.Nd.child; rw [b, hsh]; simpa using hie
  rw [hc, hat] at hk'
  obtain ⟨h1, h2, h3⟩ := child_facts hk.1 hie
  obtain ⟨A, B, n1, n2, n3, t1, t2, t3, e1, e2, e3, e4, e5, e6, e7, e8⟩ := d.focus (fun _ _ _ _ _ h => h.range) i 1 (Nat.le_refl _) (by omega)
  have hd1 : (n.refs.drop i).take 1 = [r'] := by
   rw [List.drop_eq_getElem_cons (by omega), (List.getElem?_eq_some_iff.1 hk').2]
   rfl
  rw [hd1] at e1
  have e1' : Rep t.map h r' A B n2 t2 := by
   cases e1 with
   | one e1 => exact e1
  have hA : bl key A = false := by
   rcases e4 with ⟨_, rfl⟩ | ⟨e4, e4', _⟩
   ·exact hlo
   ·exact h2 A e4 e4'
  have hB : blw key B := by
   rcases e5 with ⟨_, rfl⟩ | ⟨_, e5', _⟩
   ·exact hhi
   ·rw [Nat.add_sub_cancel] at e5'
    exact .inr (h3 B e5')
  have hsub : ∀ x ∈ n2, x ∈ ns := fun x hx => by rw [c, e2]; simp [hx]
  have hnd0 := hnd
  rw [c, e2] at hnd
  obtain ⟨hnr, hnd1⟩ := List.nodup_cons.1 hnd
  have hnd2 : n2.Nodup := (List.nodup_append.1 (List.nodup_append.1 hnd1).1).2.1
  have hle := cntB_cons t r' tl'
  have hlt := cntB_le t tl'
  have hrm' : (cntB t tl' : Int) ≤ t.p.room := by
   rw [hle] at hrm
   split at hrm
   ·split at hrm <;> omega
   ·exact hrm
  obtain ⟨fr, ns2, cp⟩ := climb_rep t hw key r0 V hV hV2 h r' A B n2 t2 e1' hnd2 (fun x hx => hsm x (hsub x hx)) (fun x hx => hv x (hsub x hx)) hA hB l2 q tl' hd' htl' hf hrm'
  obtain ⟨s, hs⟩ : ∃ s, climb q (t.set q ((t.at q).put key r0).1) (r' :: tl') = s := ⟨_, rfl⟩
  rw [hs] at cp
  have hcl : climb q (t.set q ((t.at q).put key r0).1) (r :: r' :: tl') = if s.2 = true then s else if (s.1.1.at r').refs.length ≤ 4 then (s.1, true) else (stp q s.1 r' (some r), false) := by rw [← hs]; rfl
  have hins : insI (key, r0) its = t1 ++ insI (key, r0) t2 ++ t3 := by
   rw [e3]
   refine insI_mid (fun y hy => bl_of_ble (e6 y hy) hA) (fun y hy => ?_)
   obtain ⟨hb1, hb2⟩ := e7 y hy
   exact bl_of_ble (hB.elim (fun e => absurd e hb1) id) hb2
  -- what is off the kid
  have hS : ∀ x ∈ ns, t.map x ≠ none := fun x hx => isS_of (hr.isS x hx)
  have hfr : ∀ x ∈ ns, x ∉ fr := fun x hx hm => hS x hx (cp.up.fresh x hm)
  have hrns : r ∈ ns := by rw [c]; simp
  have hrn2 : r ∉ n2 := fun hm => hnr (by simp [hm])
  have hr's : r' ∈ n2 := by obtain ⟨_, _, _, e⟩ := e1'.head; rw [e]; simp
  have hn13 : ∀ x, x ∈ n1 ∨ x ∈ n3 → x ∈ ns ∧ x ∉ n2 ∧ x ≠ r := by
   intro x hx
   have hd1 := List.nodup_append.1 hnd1
   have hd2 := List.nodup_append.1 hd1.1
   refine ⟨by rw [c, e2]; rcases hx with hx | hx <;> simp [hx], fun hm => ?_, fun e => hnr (by rw [← e]; rcases hx with hx | hx <;> simp [hx])⟩
   rcases hx with hx | hx
   ·exact hd2.2.2 x hx x hm rfl
   ·exact hd1.2.2 x (by simp [hm]) x hx rfl
  have off : ∀ x, x ∈ n1 ∨ x ∈ n3 → s.1.1.map x = t.map x := fun x hx => cp.up.off x (hn13 x hx).2.1 (hfr x (hn13 x hx).1)
  have offr : s.1.1.map r = t.map r := cp.up.off r hrn2 (hfr r hrns)
  have hperm : (r :: (n1 ++ ns2 ++ n3)).Perm (ns ++ fr) := by
   rw [c, e2, List.cons_append]
   refine List.Perm.cons _ ?_
   have p1 : (n1 ++ ns2 ++ n3).Perm (n1 ++ (n2 ++ fr) ++ n3) := List.Perm.append_right _ (List.Perm.append_left _ cp.perm)
   refine p1.trans ?_
   simp only [List.append_assoc]
   exact List.Perm.append_left _ (List.Perm.append_left _ List.perm_append_comm)
  have hmem2 : ∀ x, x ∈ ns2 → x ∈ n2 ∨ x ∈ fr := fun x hx => by have := cp.perm.mem_iff.1 hx; simpa using this
  have hrest : ∀ x, x ∈ n1 ∨ x ∈ n3 → s.1.1.at x = t.at x := fun x hx => at_of (off x hx) (hS x (hn13 x hx).1)
  have hratr : s.1.1.at r = n := by rw [at_of offr (hS r hrns), hat]
  have upS : Up N t s.1.1 ns fr := ⟨cp.up.wf, cp.up.room, cp.up.root, cp.up.gone, cp.up.fresh, cp.up.nod, fun x hx hx2 => cp.up.off x (fun hm => hx (hsub x hm)) hx2⟩
  -- nothing more is parted
  have one : ∀ b0 : Bool, Small s.1.1 r' → b0 = true → (cntB t (r' :: tl') = cntB t tl') → (cntB t (r' :: tl') < (r' :: tl').length) → CP N t (s.1, b0) (h + 1) r lo hi ns (insI (key, r0) its) (r' :: tl') V fr (r :: (n1 ++ ns2 ++ n3)) := by
   intro b0 hsm' hb hcnt hlt'
   have hrow := e8 (Rep s.1.1.map h) [r'] [] ns2 (insI (key, r0) t2) (fun r lo hi ns' its' hx hp => hp.frame (fun x hx' => off x (hx x hx'))) (.one cp.rep)
   refine ⟨upS, by rw [cp.cnt, hcnt], ⟨n, n1 ++ ns2 ++ n3, offr.trans a, b, rfl, ?_⟩, hperm, fun x hx hne => ?_, fun x hx => ?_, ?_, fun _ => ?_, ⟨fun _ => hlt', fun _ => hb⟩, fun e => by rw [hb] at e; cases e⟩
   ·rw [hins]
    have g1 : n.refs.take i ++ [r'] ++ n.refs.drop (i + 1) = n.refs := by
     rw [← hd1, List.append_assoc]
     conv => rhs; rw [← List.take_append_drop i n.refs, ← List.take_append_drop 1 (n.refs.drop i)]
     rw [List.drop_drop]
    have g2 : n.keys.take i ++ [] ++ n.keys.drop (i + 1 - 1) = n.keys := by
     rw [List.append_nil, Nat.add_sub_cancel, List.take_append_drop]
    rw [g1, g2] at hrow
    exact hrow
   ·rcases List.mem_cons.1 hx with rfl | hx
    ·exact absurd rfl hne
    ·simp only [List.mem_append] at hx
     rcases hx with (hx | hx) | hx
     ·unfold Small; rw [hrest x (.inl hx)]; exact hsm x (hn13 x (.inl hx)).1
     ·by_cases e : x = r'
      ·rw [e]; exact hsm'
      ·exact cp.small x hx e
     ·unfold Small; rw [hrest x (.inr hx)]; exact hsm x (hn13 x (.inr hx)).1
   ·rcases List.mem_cons.1 hx with rfl | hx
    ·have := hv x hrns
     unfold Ver at this ⊢
     rw [hratr]; rw [hat] at this; omega
    ·simp only [List.mem_append] at hx
     rcases hx with (hx | hx) | hx
     ·have := hv x (hn13 x (.inl hx)).1
      unfold Ver at this ⊢
      rw [hrest x (.inl hx)]; omega
     ·exact cp.ver x hx
     ·have := hv x (hn13 x (.inr hx)).1
      unfold Ver at this ⊢
      rw [hrest x (.inr hx)]; omega
   ·have := hv r hrns
    unfold Ver at this ⊢
    rw [hratr]; rw [hat] at this; omega
   ·unfold Small; rw [hratr]; have := hsm r hrns; unfold Small at this; rw [hat] at this; exact this
  rw [hcl]
  by_cases hs2 : s.2 = true
  ·rw [if_pos hs2]
   have := cp.iff.1 hs2
   have hcnt : cntB t (r' :: tl') = cntB t tl' := by rw [hle, if_neg (by omega)]
   exact ⟨fr, _, one s.2 (cp.stop hs2) hs2 hcnt (by rw [hcnt, List.length_cons]; omega)⟩
  ·rw [if_neg hs2]
   have hs2' : s.2 = false := by simpa using hs2
   have hfull : cntB t tl' = tl'.length := by
    have : ¬ cntB t tl' < tl'.length := fun h => hs2 (cp.iff.2 h)
    omega
   have hmore := cp.more hs2'
   have hr'S := hsm r' (hsub r' hr's)
   unfold Small at hr'S
   by_cases h4 : (s.1.1.at r').refs.length ≤ 4
   ·rw [if_pos h4]
    have hcnt : cntB t (r' :: tl') = cntB t tl' := by
     rw [hle, if_pos hfull, if_neg]
     unfold big
     simp
     omega
    exact ⟨fr, _, one true h4 rfl hcnt (by rw [hcnt, List.length_cons]; omega)⟩
   ·rw [if_neg h4]
    have hcnt : cntB t (r' :: tl') = cntB t tl' + 1 := by
     rw [hle, if_pos hfull, if_pos]
     unfold big
     simp
     omega
    have hrm1 : ¬ s.1.1.p.room = 0 := by
     have := cp.up.room
     rw [cp.cnt] at this
     rw [hcnt] at hrm
     omega
    obtain ⟨nn, nns, hnn, hns2⟩ := cp.rep.head
    have hnat := Tm.map_at hnn
    have hns2nd : ns2.Nodup := by
     refine cp.perm.nodup_iff.2 (List.nodup_append.2 ⟨hnd2, cp.up.nod, fun x hx y hy e => ?_⟩)
     exact hfr x (hsub x hx) (by rw [e]; exact hy)
    obtain ⟨am, mid, bm, hsp⟩ : ∃ a mid b, nn.split = (a, mid, b) := ⟨_, _, _, rfl⟩
    obtain ⟨T1, hT1⟩ : ∃ T, s.1.1.set r' am = T := ⟨_, rfl⟩
    obtain ⟨a1, a2, a3, a4, a5⟩ := Tm.mset (n := am) cp.up.wf hnn
    rw [hT1] at a1 a2 a3 a4 a5
    obtain ⟨q0, hq0⟩ : ∃ q0, T1.tk = q0 := ⟨_, rfl⟩
    obtain ⟨T2, hT2⟩ : ∃ T, T1.take bm = T := ⟨_, rfl⟩
    obtain ⟨b1, b2, b3, b4, b5, b6⟩ := Tm.mtake (n := bm) a2 (by rw [a5]; exact hrm1)
    rw [hT2] at b1 b2 b3 b4 b5
    rw [hq0, a1] at b6
    rw [hq0, a1] at b1
    have hqr' : q0 ≠ r' := fun e => by rw [e, upd_self] at b6; cases b6
    rw [upd_ne hqr'] at b6
    have hq2 : q0 ∉ ns2 := fun hm => isS_of (cp.rep.isS q0 hm) b6
    have hq2' : q0 ∉ n2 ∧ q0 ∉ fr := ⟨fun hm => hq2 (cp.perm.mem_iff.2 (by simp [hm])), fun hm => hq2 (cp.perm.mem_iff.2 (by simp [hm]))⟩
    have hqt : t.map q0 = none := by rw [← cp.up.off q0 hq2'.1 hq2'.2]; exact b6
    have hqns : q0 ∉ ns := fun hm => hS q0 hm hqt
    have hqr : q0 ≠ r := fun e => hqns (by rw [e]; exact hrns)
    have hrr' : r ≠ r' := fun e => hrn2 (by rw [e]; exact hr's)
    have hlen5 : nn.refs.length = 5 := by rw [← hnat]; omega
    obtain ⟨am', mid', bm', k1, k2, k3, k4, k5, k6, k7, k8, k9, nsA, nsB, itA, itB, k10, k11, k12, nl, nr, k13, k14, k15⟩ := cp.rep.cutNode (q := q0) hnn (by omega) hq2 hns2nd
    rw [hsp] at k1
    cases k1
    have hhalf : nn.half = 3 := by unfold Nd.Nd.half; rw [hlen5]
    have hT2r : T2.map r = some n := by rw [b1, upd_ne (Ne.symm hqr), upd_ne hrr', offr, a]
    have hT2at := Tm.map_at hT2r
    obtain ⟨ni, hni⟩ : ∃ ni, n.insert (idx r' n.refs) mid q0 = ni := ⟨_, rfl⟩
    obtain ⟨c1, c2, c3, c4, c5⟩ := Tm.mset (n := ni) b2 hT2r
    obtain ⟨T3, hT3⟩ : ∃ T, T2.set r ni = T := ⟨_, rfl⟩
    rw [hT3] at c1 c2 c3 c4 c5
    have hsplit : s.1.1.split r' (some r) = (T3, q0) := by
     unfold Tm.split
     simp only []
     rw [hnat, hsp]
     simp only []
     rw [hT1, hT2, hT2at, hq0, hni, hT3]
    have hst : (stp q s.1 r' (some r)).1 = T3 := by unfold stp; rw [hsplit]
    have hrefs : n.refs.Nodup := (List.nodup_cons.1 (by rw [c] at hnd0; exact hnd0)).2.sublist (d.heads (fun r lo hi ns its hp => by obtain ⟨_, ns', _, e⟩ := hp.head; exact ⟨ns', e⟩))
    have hidx : idx r' n.refs = (i : Int) := by
     have hF : idxF r' n.refs = i := idxF_hit hk' (fun j x hj hx e => by
      subst e
      have := (List.getElem?_inj (List.getElem?_eq_some_iff.1 hx).1 hrefs).1 (hx.trans hk'.symm)
      omega)
     unfold idx
     rw [hF, if_pos (by omega)]
    have hnie : ni = { n with ver := wrap64 (n.ver + 1), keys := n.keys.take i ++ [mid] ++ n.keys.drop i, refs := n.refs.take (i + 1) ++ [q0] ++ n.refs.drop (i + 1) } := by
     rw [← hni, hidx]
     have hkid : n.kid (i : Int) = true := by
      unfold Nd.Nd.kid
      rw [b, hsh]
      simp
      omega
     unfold Nd.Nd.insert
     rw [if_pos hkid]
     rfl
    have hvr := hv r hrns
    unfold Ver at hvr
    rw [hat] at hvr
    have hwr := wrap_up hvr.1 hvr.2 (by omega)
    have hvr' := cp.verR
    unfold Ver at hvr'
    rw [hnat] at hvr'
    have hwr' := wrap_up hvr'.1 hvr'.2 (by omega)
    have hfr2 : ∀ x, x ≠ r → T3.map x = upd (upd s.1.1.map r' am) q0 bm x := fun x hx => by rw [c1, upd_ne hx, b1]
    have hA3 : ∀ x ∈ nsA ++ nsB, x ≠ r := fun x hx e => by
     subst e
     rw [k14, k15] at hx
     have : x = r' ∨ x = q0 ∨ x ∈ ns2 := by rw [k13]; simp only [List.mem_append, List.mem_cons] at hx ⊢; grind
     rcases this with e | e | hm
     ·exact hrr' e
     ·exact hqr e.symm
     ·rcases hmem2 x hm with h | h
      ·exact hrn2 h
      ·exact hfr x hrns h
    have at3 : ∀ x, x ≠ r → x ≠ q0 → x ≠ r' → s.1.1.map x ≠ none → T3.at x = s.1.1.at x := fun x h1 h2 h3 h4 => at_of (by rw [hfr2 x h1, upd_ne h2, upd_ne h3]) h4
    have hr3 : T3.at r = ni := Tm.map_at (by rw [c1]; exact upd_self _ _ _)
    have hr'3 : T3.at r' = am := Tm.map_at (by rw [hfr2 r' (Ne.symm hrr'), upd_ne (Ne.symm hqr')]; exact upd_self _ _ _)
    have hq3 : T3.at q0 = bm := Tm.map_at (by rw [hfr2 q0 hqr]; exact upd_self _ _ _)
    have h13 : ∀ x, x ∈ n1 ∨ x ∈ n3 → T3.at x = t.at x := fun x hx => by
     obtain ⟨g1, g2, g3⟩ := hn13 x hx
     rw [at3 x g3 (fun e => hqns (by rw [← e]; exact g1)) (fun e => g2 (by rw [e]; exact hr's)) (by rw [off x hx]; exact hS x g1), hrest x hx]
    have hns3 : ∀ x, x ∈ nl ++ nr → x ∈ ns2 ∧ x ≠ r' ∧ x ≠ q0 ∧ x ≠ r := fun x hx => by
     have hm : x ∈ ns2 := by rw [k13]; exact List.mem_cons_of_mem _ hx
     refine ⟨hm, fun e => ?_, fun e => hq2 (by rw [← e]; exact hm), fun e => ?_⟩
     ·rw [k13] at hns2nd
      exact (List.nodup_cons.1 hns2nd).1 (by rw [← e]; exact hx)
     ·rcases hmem2 x hm with h | h
      ·exact hrn2 (by rw [← e]; exact h)
      ·exact hfr r hrns (by rw [← e]; exact h)
    have hns3at : ∀ x, x ∈ nl ++ nr → T3.at x = s.1.1.at x := fun x hx => by
     obtain ⟨g1, g2, g3, g4⟩ := hns3 x hx
     exact at3 x g4 g3 g2 (isS_of (cp.rep.isS x g1))
    have hrow := e8 (Rep T3.map h) [r', q0] [mid] (nsA ++ nsB) (itA ++ itB) (fun r lo hi ns' its' hx hp => hp.frame (fun x hx' => by
     obtain ⟨g1, g2, g3⟩ := hn13 x (hx x hx')
     rw [hfr2 x g3, upd_ne (fun e => hqns (by rw [← e]; exact g1)), upd_ne (fun e => g2 (by rw [e]; exact hr's)), off x (hx x hx')])) (Row.two (k10.frame (fun x hx => hfr2 x (hA3 x (List.mem_append_left _ hx)))) (k11.frame (fun x hx => hfr2 x (hA3 x (List.mem_append_right _ hx)))) k2 k3)
    refine ⟨q0 :: fr, r :: (n1 ++ (nsA ++ nsB) ++ n3), ?_⟩
    have hcp : ∀ S : (Tm × List Trn) × Bool, S.1.1 = T3 → S.2 = false → CP N t S (h + 1) r lo hi ns (insI (key, r0) its) (r' :: tl') V (q0 :: fr) (r :: (n1 ++ (nsA ++ nsB) ++ n3)) := by
     intro S hS1 hS2
     refine ⟨⟨by rw [hS1]; exact c2, ?_, by rw [hS1, c3, b3, a3, cp.up.root], by rw [hS1, c4, b4, a4, cp.up.gone], fun f hf => ?_, List.nodup_cons.2 ⟨hq2'.2, cp.up.nod⟩, fun x hx hx2 => ?_⟩, ?_, ?_, ?_, fun x hx hne => ?_, fun x hx => ?_, ?_, (fun e => by rw [hS2] at e; cases e), ⟨(fun e => by rw [hS2] at e; cases e), fun e => ?_⟩, fun _ => ?_⟩
     ·rw [hS1, c5, b5, a5, cp.up.room, List.length_cons]; omega
     ·rcases List.mem_cons.1 hf with rfl | hf
      ·exact hqt
      ·exact cp.up.fresh f hf
     ·rw [hS1, hfr2 x (fun e => hx (by rw [e]; exact hrns)), upd_ne (fun e => hx2 (by rw [e]; simp)), upd_ne (fun e => hx (by rw [e]; exact hsub r' hr's))]
      exact upS.off x hx (fun hm => hx2 (List.mem_cons_of_mem _ hm))
     ·rw [List.length_cons, cp.cnt, hcnt]
     ·rw [hS1]
      refine ⟨ni, n1 ++ (nsA ++ nsB) ++ n3, by rw [c1]; exact upd_self _ _ _, by rw [hnie]; exact b, rfl, ?_⟩
      rw [hins, k12]
      have g1 : n.refs.take i ++ [r', q0] ++ n.refs.drop (i + 1) = ni.refs := by
       rw [hnie]
       simp only []
       rw [List.take_add_one, hk']
       simp
      have g2 : n.keys.take i ++ [mid] ++ n.keys.drop (i + 1 - 1) = ni.keys := by
       rw [hnie, Nat.add_sub_cancel]
      rw [g1, g2] at hrow
      exact hrow
     ·have p1 : (r :: (n1 ++ (nsA ++ nsB) ++ n3)).Perm (q0 :: (r :: (n1 ++ ns2 ++ n3))) := by
       rw [k13, k14, k15]
       have := List.perm_middle (a := q0) (l₁ := r :: (n1 ++ (r' :: nl))) (l₂ := nr ++ n3)
       simpa [List.append_assoc] using this
      exact p1.trans ((List.Perm.cons _ hperm).trans List.perm_middle.symm)
     ·unfold Small
      rw [hS1]
      rcases List.mem_cons.1 hx with rfl | hx
      ·exact absurd rfl hne
      ·rw [k14, k15] at hx
       have : x = r' ∨ x = q0 ∨ x ∈ nl ++ nr ∨ x ∈ n1 ∨ x ∈ n3 := by simp only [List.mem_append, List.mem_cons] at hx ⊢; grind
       rcases this with rfl | rfl | hx | hx
       ·rw [hr'3, k4, hhalf]; omega
       ·rw [hq3, k5, hhalf, hlen5]; omega
       ·rw [hns3at x hx]; exact cp.small x (hns3 x hx).1 (hns3 x hx).2.1
       ·rw [h13 x hx]; exact hsm x (hn13 x hx).1
     ·unfold Ver
      rw [hS1]
      have : x = r ∨ x = r' ∨ x = q0 ∨ x ∈ nl ++ nr ∨ x ∈ n1 ∨ x ∈ n3 := by rw [k14, k15] at hx; simp only [List.mem_append, List.mem_cons] at hx ⊢; grind
      rcases this with rfl | rfl | rfl | hx | hx
      ·rw [hr3, hnie]; simp only []; rw [hwr]; omega
      ·rw [hr'3, k6, hwr']; omega
      ·rw [hq3, k7]; omega
      ·rw [hns3at x hx]; exact cp.ver x (hns3 x hx).1
      ·rw [h13 x hx]; have := hv x (hn13 x hx).1; unfold Ver at this; omega
     ·unfold Ver
      rw [hS1, hr3, hnie]; simp only []; rw [hwr]; omega
     ·rw [hcnt, List.length_cons] at e; omega
     ·rw [hS1, hr3, hat, hnie]
      simp only [List.length_append, List.length_take, List.length_drop, List.length_singleton]
      omega
    exact hcp _ hst rfl
end
section
attribute [local irreducible] bl
variable {N : Nat}
def runsB (s : List Rf) (leaf : Rf) : List (Ix s.length) → Tm × List Trn → (Tm × List Trn) × Bool
 | [], p => (p, false)
 | x :: xs, p => if smallI s p x = true then (p, true) else runsB s leaf xs (stpI s leaf p x)
theorem runsB_snoc (s : List Rf) (leaf : Rf) (x : Ix s.length) : ∀ (xs : List (Ix s.length)) (p : Tm × List Trn), runsB s leaf (xs ++ [x]) p = if (runsB s leaf xs p).2 = true then runsB s leaf xs p else if smallI s (runsB s leaf xs p).1 x = true then ((runsB s leaf xs p).1, true) else (stpI s leaf (runsB s leaf xs p).1 x, false)
 | [], p => rfl
 | y :: xs, p => by
  rw [List.cons_append, runsB, runsB]
  by_cases h : smallI s p y = true
  ·rw [if_pos h, if_pos h]
   rfl
  ·rw [if_neg h, if_neg h]
   exact runsB_snoc s leaf x xs _
theorem runs_eq (s : List Rf) (leaf : Rf) : ∀ (xs : List (Ix s.length)) (p : Tm × List Trn), runsI s leaf xs p = (runsB s leaf xs p).1
 | [], p => rfl
 | x :: xs, p => by
  rw [runsI, runsB]
  by_cases h : smallI s p x = true
  ·rw [if_pos h, if_pos h]
  ·rw [if_neg h, if_neg h]
   exact runs_eq s leaf xs _
theorem climb_two (leaf : Rf) (t1 : Tm) (r x : Rf) (w : List Rf) : climb leaf t1 (r :: x :: w) = if (climb leaf t1 (x :: w)).2 = true then climb leaf t1 (x :: w) else if ((climb leaf t1 (x :: w)).1.1.at x).refs.length ≤ 4 then ((climb leaf t1 (x :: w)).1, true) else (stp leaf (climb leaf t1 (x :: w)).1 x (some r), false) := rfl
theorem runsB_climb (s : List Rf) (leaf : Rf) (t1 : Tm) : ∀ (k : Nat) (hk : k < s.length), runsB s leaf (ixL s.length k (by omega)) (t1, []) = climb leaf t1 (s.drop (s.length - 1 - k))
 | 0, hk => by
  have e : s.drop (s.length - 1 - 0) = [s[s.length - 1]'(by omega)] := by
   rw [Nat.sub_zero, List.drop_eq_getElem_cons (by omega), List.drop_of_length_le (by omega)]
  rw [e]
  rfl
 | k + 1, hk => by
  have ih := runsB_climb s leaf t1 k (by omega)
  obtain ⟨x, hx⟩ : ∃ x, s[s.length - 1 - k]? = some x := ⟨_, List.getElem?_eq_getElem (by omega)⟩
  obtain ⟨r, hr⟩ : ∃ r, s[s.length - 1 - (k + 1)]? = some r := ⟨_, List.getElem?_eq_getElem (by omega)⟩
  have e2 : s.drop (s.length - 1 - k) = x :: s.drop (s.length - 1 - k + 1) := by
   rw [List.drop_eq_getElem_cons (by omega), (List.getElem?_eq_some_iff.1 hx).2]
  have e1 : s.drop (s.length - 1 - (k + 1)) = r :: s.drop (s.length - 1 - k) := by
   rw [List.drop_eq_getElem_cons (by omega), (List.getElem?_eq_some_iff.1 hr).2, show s.length - 1 - (k + 1) + 1 = s.length - 1 - k by omega]
  have hat : atI s (ixf s.length k (by omega)) = x := by
   unfold atI ixf
   rw [List.getD_eq_getElem?_getD, hx]
   rfl
  have hup : upI s (ixf s.length k (by omega)) = some r := by
   unfold upI ixf
   simp only []
   rw [if_neg (by omega), List.getD_eq_getElem?_getD, show s.length - 1 - k - 1 = s.length - 1 - (k + 1) by omega, hr]
   rfl
  rw [ixL, runsB_snoc, ih, e1, e2, climb_two]
  simp only [smallI, stpI, hat, hup, decide_eq_true_eq]
def rootStep (leaf root : Rf) (s : (Tm × List Trn) × Bool) : Tm × List Trn := if s.2 = true then s.1 else if (s.1.1.at root).refs.length ≤ 4 then s.1 else stp leaf s.1 root none
theorem runs_climb (leaf root : Rf) (tl : List Rf) (t1 : Tm) : runsI (root :: tl) leaf (ixL (root :: tl).length (root :: tl).length (Nat.le_refl _)) (t1, []) = rootStep leaf root (climb leaf t1 (root :: tl)) := by
 have h := runsB_climb (root :: tl) leaf t1 tl.length (by simp)
 rw [show (root :: tl).length - 1 - tl.length = 0 by simp, List.drop_zero] at h
 have hL : ixL (root :: tl).length (root :: tl).length (Nat.le_refl _) = ixL (root :: tl).length tl.length (by simp) ++ [ixf (root :: tl).length tl.length (by simp)] := rfl
 have hat : atI (root :: tl) (ixf (root :: tl).length tl.length (by simp)) = root := by
  unfold atI ixf
  simp
 have hup : upI (root :: tl) (ixf (root :: tl).length tl.length (by simp)) = none := by
  unfold upI ixf
  simp
 rw [hL, runs_eq, runsB_snoc, h]
 unfold rootStep
 simp only [smallI, stpI, hat, hup, decide_eq_true_eq]
 split
 ·rfl
 ·split <;> rfl
structure Inv (t : Tm) (N h : Nat) (ns : List Rf) (its : List It) (V : Int) : Prop where
 wf : t.Wf N
 rep : Rep t.map h t.root ⟨#[]⟩ ⟨#[]⟩ ns its
 nod : ns.Nodup
 sm : ∀ x ∈ ns, Small t x
 ver : ∀ x ∈ ns, Ver t V x
 cnt : t.p.room = (N : Int) - ns.length - t.gone.length
theorem Inv.len {t : Tm} {h : Nat} {ns : List Rf} {its : List It} {V : Int} (iv : Inv t N h ns its V) : ns.length + t.gone.length ≤ N := by
 have h1 := iv.cnt
 have h2 := t.p.held_le
 unfold Ar.room at h1
 have h3 := iv.wf.2.2
 omega
theorem Inv.mono {t : Tm} {h : Nat} {ns : List Rf} {its : List It} {V V' : Int} (iv : Inv t N h ns its V) (hV : V ≤ V') : Inv t N h ns its V' :=
 ⟨iv.wf, iv.rep, iv.nod, iv.sm, fun x hx => ⟨(iv.ver x hx).1, Int.le_trans (iv.ver x hx).2 hV⟩, iv.cnt⟩
theorem Inv.dn {t : Tm} {h : Nat} {ns : List Rf} {its : List It} {V : Int} (iv : Inv t N h ns its V) (key : ByteArray) : ∃ l q, Dn t key t.root l q ∧ l.length = h := iv.rep.dn (fun x hx => by have := iv.sm x hx; unfold Small at this; omega)
theorem Inv.put {t : Tm} {h : Nat} {ns : List Rf} {its : List It} {V : Int} (iv : Inv t N h ns its V) (hV : 1 ≤ V) (hV2 : V ≤ 4611686018427387000) (key : ByteArray) (r0 : Rf) {l : List (Rf × Nat)} {q : Rf} (hd : Dn t key t.root l q) (hf : fnd key (t.at q).keys = false) (hr : t.roomFor (wayL l q) = true) :
  ∃ h' ns', Inv (runsI (wayL l q) q (ixL (wayL l q).length (wayL l q).length (Nat.le_refl _)) (t.set q ((t.at q).put key r0).1, [])).1 N h' ns' (insI (key, r0) its) (V + 2) ∧ h ≤ h' ∧ h' ≤ h + 1 ∧ (runsI (wayL l q) q (ixL (wayL l q).length (wayL l q).length (Nat.le_refl _)) (t.set q ((t.at q).put key r0).1, [])).1.gone = t.gone := by
 obtain ⟨tl, htl⟩ := hd.way
 unfold Tm.roomFor Tm.need at hr
 rw [decide_eq_true_eq] at hr
 rw [htl] at hr
 have hc := cntB_cons t t.root tl
 have hle := cntB_le t tl
 have hle2 := cntB_le t (t.root :: tl)
 have hrm : (cntB t tl : Int) ≤ t.p.room := by
  rw [List.length_cons] at hr
  by_cases e : cntB t tl = tl.length
  ·rw [if_pos e] at hc
   split at hc
   ·rw [if_pos (by omega)] at hr; omega
   ·rw [if_neg (by omega)] at hr; omega
  ·rw [if_neg e] at hc
   rw [if_neg (by omega)] at hr; omega
 obtain ⟨fr, ns', cp⟩ := climb_rep t iv.wf key r0 V hV hV2 h t.root ⟨#[]⟩ ⟨#[]⟩ ns its iv.rep iv.nod iv.sm iv.ver (bl_nil key) (.inl rfl) l q tl hd htl hf hrm
 rw [htl, runs_climb]
 obtain ⟨s, hs⟩ : ∃ s, climb q (t.set q ((t.at q).put key r0).1) (t.root :: tl) = s := ⟨_, rfl⟩
 rw [hs] at cp ⊢
 have hS : ∀ x ∈ ns, t.map x ≠ none := fun x hx => isS_of (iv.rep.isS x hx)
 have hnd : ns'.Nodup := by
  refine cp.perm.nodup_iff.2 (List.nodup_append.2 ⟨iv.nod, cp.up.nod, fun x hx y hy e => ?_⟩)
  subst e
  exact hS x hx (cp.up.fresh x hy)
 have hlen : ns'.length = ns.length + fr.length := by rw [cp.perm.length_eq, List.length_append]
 have hcnt := iv.cnt
 have hroom := cp.up.room
 have hgone := cp.up.gone
 have easy : Small s.1.1 t.root → Inv s.1.1 N h ns' (insI (key, r0) its) (V + 2) := fun hsm => by
  refine ⟨cp.up.wf, by rw [cp.up.root]; exact cp.rep, hnd, fun x hx => ?_, cp.ver, by rw [hgone]; omega⟩
  by_cases e : x = t.root
  ·rw [e]; exact hsm
  ·exact cp.small x hx e
 unfold rootStep
 by_cases hs2 : s.2 = true
 ·rw [if_pos hs2]
  exact ⟨h, ns', easy (cp.stop hs2), Nat.le_refl _, Nat.le_succ _, hgone⟩
 rw [if_neg hs2]
 by_cases h4 : (s.1.1.at t.root).refs.length ≤ 4
 ·rw [if_pos h4]
  exact ⟨h, ns', easy h4, Nat.le_refl _, Nat.le_succ _, hgone⟩
 rw [if_neg h4]
 have hs2' : s.2 = false := by simpa using hs2
 have hfull : cntB t tl = tl.length := by
  have : ¬ cntB t tl < tl.length := fun h => hs2 (cp.iff.2 h)
  omega
 have hmore := cp.more hs2'
 have hrns : t.root ∈ ns := by obtain ⟨_, _, _, e⟩ := iv.rep.head; rw [e]; simp
 have hrS := iv.sm t.root hrns
 unfold Small at hrS
 have hbig : big t t.root = true := by unfold big; simp; omega
 rw [if_pos hfull, if_pos hbig] at hc
 rw [if_pos (by rw [List.length_cons]; omega), List.length_cons] at hr
 have hfr := cp.cnt
 have hrm1 : ¬ s.1.1.p.room = 0 := by omega
 obtain ⟨nn, nns, hnn, hns2⟩ := cp.rep.head
 have hnat := Tm.map_at hnn
 obtain ⟨am, mid, bm, hsp⟩ : ∃ a mid b, nn.split = (a, mid, b) := ⟨_, _, _, rfl⟩
 obtain ⟨T1, hT1⟩ : ∃ T, s.1.1.set t.root am = T := ⟨_, rfl⟩
 obtain ⟨a1, a2, a3, a4, a5⟩ := Tm.mset (n := am) cp.up.wf hnn
 rw [hT1] at a1 a2 a3 a4 a5
 obtain ⟨q0, hq0⟩ : ∃ q0, T1.tk = q0 := ⟨_, rfl⟩
 obtain ⟨T2, hT2⟩ : ∃ T, T1.take bm = T := ⟨_, rfl⟩
 obtain ⟨b1, b2, b3, b4, b5, b6⟩ := Tm.mtake (n := bm) a2 (by rw [a5]; exact hrm1)
 rw [hT2] at b1 b2 b3 b4 b5
 rw [hq0, a1] at b6
 rw [hq0, a1] at b1
 have hqr : q0 ≠ t.root := fun e => by rw [e, upd_self] at b6; cases b6
 rw [upd_ne hqr] at b6
 have hq2 : q0 ∉ ns' := fun hm => isS_of (cp.rep.isS q0 hm) b6
 obtain ⟨r2, hr2⟩ : ∃ r2, T2.tk = r2 := ⟨_, rfl⟩
 obtain ⟨nr, hnr⟩ : ∃ nr : Nd.Nd, (⟨false, 1, [mid], [t.root, q0]⟩ : Nd.Nd) = nr := ⟨_, rfl⟩
 obtain ⟨T3, hT3⟩ : ∃ T, T2.take nr = T := ⟨_, rfl⟩
 obtain ⟨c1, c2, c3, c4, c5, c6⟩ := Tm.mtake (n := nr) b2 (by rw [b5, a5]; omega)
 rw [hT3] at c1 c2 c3 c4 c5
 rw [hr2] at c1 c6
 have hlen5 : nn.refs.length = 5 := by rw [← hnat]; omega
 obtain ⟨am', mid', bm', k1, k2, k3, k4, k5, k6, k7, k8, k9, nsA, nsB, itA, itB, k10, k11, k12, nl, nr', k13, k14, k15⟩ := cp.rep.cutNode (q := q0) hnn (by omega) hq2 hnd
 rw [hsp] at k1
 cases k1
 have hhalf : nn.half = 3 := by unfold Nd.Nd.half; rw [hlen5]
 have hsplit : s.1.1.split t.root none = ({ T3 with root := r2 }, q0) := by
  unfold Tm.split
  simp only []
  rw [hnat, hsp]
  simp only []
  rw [hT1, hT2, hq0, hnr, hT3, hr2]
 have hst : (stp q s.1 t.root none).1 = { T3 with root := r2 } := by unfold stp; rw [hsplit]
 rw [hst]
 rw [← b1] at k10 k11
 have hA : ∀ x ∈ nsA ++ nsB, x ≠ r2 := fun x hx e => by
  rcases List.mem_append.1 hx with hx | hx
  ·exact isS_of (k10.isS x hx) (by rw [e]; exact c6)
  ·exact isS_of (k11.isS x hx) (by rw [e]; exact c6)
 have hfr3 : ∀ x ∈ nsA ++ nsB, T3.map x = T2.map x := fun x hx => by rw [c1, upd_ne (hA x hx)]
 have hp : (nsA ++ nsB).Perm (q0 :: ns') := by
  rw [k13, k14, k15]
  have := List.perm_middle (a := q0) (l₁ := t.root :: nl) (l₂ := nr')
  simpa [List.append_assoc] using this
 have hr3 : T3.at r2 = nr := Tm.map_at (by rw [c1]; exact upd_self _ _ _)
 have hrt3 : T3.at t.root = am := Tm.map_at (by rw [hfr3 t.root (by rw [k14]; simp), b1, upd_ne (Ne.symm hqr)]; exact upd_self _ _ _)
 have hq3 : T3.at q0 = bm := Tm.map_at (by rw [hfr3 q0 (by rw [k15]; simp), b1]; exact upd_self _ _ _)
 have hrest : ∀ x ∈ ns', x ≠ t.root → T3.at x = s.1.1.at x := fun x hx hne => by
  have hm : x ∈ nsA ++ nsB := hp.mem_iff.2 (List.mem_cons_of_mem _ hx)
  refine at_of ?_ (isS_of (cp.rep.isS x hx))
  rw [hfr3 x hm, b1, upd_ne (fun e => hq2 (by rw [← e]; exact hx)), upd_ne hne]
 have hvr := cp.verR
 unfold Ver at hvr
 rw [hnat] at hvr
 have hwr := wrap_up hvr.1 hvr.2 (by omega)
 refine ⟨h + 1, r2 :: (nsA ++ nsB), ⟨c2, ?_, List.nodup_cons.2 ⟨fun hm => hA r2 hm rfl, hp.nodup_iff.2 (List.nodup_cons.2 ⟨hq2, hnd⟩)⟩, fun x hx => ?_, fun x hx => ?_, ?_⟩, Nat.le_succ _, Nat.le_refl _, by show T3.gone = t.gone; rw [c4, b4, a4, hgone]⟩
 ·show Rep T3.map (h + 1) r2 ⟨#[]⟩ ⟨#[]⟩ (r2 :: (nsA ++ nsB)) (insI (key, r0) its)
  refine ⟨nr, nsA ++ nsB, by rw [c1]; exact upd_self _ _ _, by rw [← hnr], rfl, ?_⟩
  rw [k12, ← hnr]
  exact Row.two (k10.frame (fun x hx => hfr3 x (List.mem_append_left _ hx))) (k11.frame (fun x hx => hfr3 x (List.mem_append_right _ hx))) k2 k3
 ·show (T3.at x).refs.length ≤ 4
  rcases List.mem_cons.1 hx with rfl | hx
  ·rw [hr3, ← hnr]; simp
  ·rcases List.mem_cons.1 (hp.mem_iff.1 hx) with rfl | hx
   ·rw [hq3, k5, hhalf, hlen5]; omega
   ·by_cases e : x = t.root
    ·rw [e, hrt3, k4, hhalf]; omega
    ·rw [hrest x hx e]; exact cp.small x hx e
 ·show 0 ≤ (T3.at x).ver ∧ (T3.at x).ver ≤ V + 2
  rcases List.mem_cons.1 hx with rfl | hx
  ·rw [hr3, ← hnr]; simp only []; omega
  ·rcases List.mem_cons.1 (hp.mem_iff.1 hx) with rfl | hx
   ·rw [hq3, k7]; omega
   ·by_cases e : x = t.root
    ·rw [e, hrt3, k6, hwr]; omega
    ·rw [hrest x hx e]; exact cp.ver x hx
 ·show T3.p.room = (N : Int) - ((r2 :: (nsA ++ nsB)).length : Int) - (T3.gone.length : Int)
  have h5 := hp.length_eq
  rw [c5, b5, a5, hroom, c4, b4, a4, hgone, List.length_cons, h5, List.length_cons, hlen]
  omega
theorem Bd.runs {s : List Rf} {leaf : Rf} : ∀ {xs : List (Ix s.length)} {p : Tm × List Trn} {m : Nat}, Bd p.1 m → 2 ≤ m → Bd (runsI s leaf xs p).1 (m + xs.length)
 | [], p, m, h, _ => h
 | x :: xs, p, m, h, hm => by
  rw [runsI]
  by_cases e : smallI s p x = true
  ·rw [if_pos e]
   exact h.mono (Nat.le_add_right _ _)
  ·rw [if_neg e]
   have := Bd.runs (leaf := leaf) (xs := xs) (p := stpI s leaf p x) (Bd.split h hm _ _) (by omega)
   rw [List.length_cons, show m + (xs.length + 1) = m + 1 + xs.length by omega]
   exact this
theorem Bd.put {t : Tm} {m : Nat} (h : Bd t m) (hm : 2 ≤ m) (key : ByteArray) (r0 : Rf) (l : List (Rf × Nat)) (q : Rf) : Bd (t.putW key r0 l q).1 (m + 2 + l.length) := by
 unfold Tm.putW
 split
 ·exact h.mono (by omega)
 ·split
  ·have h1 := Bd.runs (s := wayL l q) (leaf := q) (xs := ixL (wayL l q).length (wayL l q).length (Nat.le_refl _)) (p := (t.set q ((t.at q).put key r0).1, [])) (m := m + 1) ((h.mono (Nat.le_succ m)).set q (put_bd (h.at q) key r0)) (by omega)
   rw [ixL_length] at h1
   have e : m + 1 + (wayL l q).length = m + 2 + l.length := by unfold wayL; simp; omega
   rw [e] at h1
   exact h1
  ·exact h.mono (by omega)
end
section
attribute [local irreducible] bl
variable {N : Nat} {P : NP} {rs : List Rf} {ks : List ByteArray} {lo hi : ByteArray} {ns : List Rf} {its : List It}
def loK (ks : List ByteArray) (lo : ByteArray) (i : Nat) : ByteArray := if 0 < i then ks.getD (i - 1) ⟨#[]⟩ else lo
def hiK (ks : List ByteArray) (hi : ByteArray) (i : Nat) : ByteArray := if i < ks.length then ks.getD i ⟨#[]⟩ else hi
def rowF {α : Type} (F : Rf → ByteArray → ByteArray → List α) : List Rf → List ByteArray → ByteArray → ByteArray → List α
 | [], _, _, _ => []
 | r :: _, [], lo, hi => F r lo hi
 | r :: rs, k :: ks, lo, hi => F r lo k ++ rowF F rs ks k hi
theorem range_row {α : Type} (F : Rf → ByteArray → ByteArray → List α) : ∀ (rs : List Rf) (ks : List ByteArray) (lo hi : ByteArray), ks.length + 1 = rs.length → (List.range rs.length).flatMap (fun i => F (rs.getD i (0, 0)) (loK ks lo i) (hiK ks hi i)) = rowF F rs ks lo hi
 | [], ks, lo, hi, h => by simp at h
 | r :: rs, [], lo, hi, h => by
  have e : rs = [] := List.eq_nil_of_length_eq_zero (by simpa using h.symm)
  subst e
  simp [rowF, loK, hiK]
 | r :: rs, k :: ks, lo, hi, h => by
  have ih := range_row F rs ks k hi (by simpa using h)
  rw [List.length_cons, List.range_succ_eq_map, List.flatMap_cons, List.flatMap_map, rowF, ← ih]
  have e1 : ∀ i, loK (k :: ks) lo (i + 1) = loK ks k i := fun i => by unfold loK; cases i <;> simp
  have e2 : ∀ i, hiK (k :: ks) hi (i + 1) = hiK ks hi i := fun i => by unfold hiK; simp
  have e3 : loK (k :: ks) lo 0 = lo := rfl
  have e4 : hiK (k :: ks) hi 0 = k := rfl
  simp only [Nat.succ_eq_add_one, e1, e2, e3, e4, List.getD_cons_succ, List.getD_cons_zero]
theorem Row.each (h : Row P rs ks lo hi ns its) : ∀ x ∈ rs, ∃ lo' hi' ns' its', P x lo' hi' ns' its' ∧ ∀ y ∈ ns', y ∈ ns := by
 induction h with
 | one h =>
  intro x hx
  rw [List.mem_singleton.1 hx]
  exact ⟨_, _, _, _, h, fun y hy => hy⟩
 | cons h h1 h2 h3 ih =>
  intro x hx
  rcases List.mem_cons.1 hx with rfl | hx
  ·exact ⟨_, _, _, _, h, fun y hy => List.mem_append_left _ hy⟩
  ·obtain ⟨a, b, c, d, e, f⟩ := ih x hx
   exact ⟨a, b, c, d, e, fun y hy => List.mem_append_right _ (f y hy)⟩
structure NOk (n : Nd.Nd) : Prop where
 sh : n.shape = true
 a : Asc n.keys
 len : n.keys.length ≤ n.refs.length
 lf : n.leaf = true → n.keys.length = n.refs.length
theorem Rep.nok {t : Tm} : ∀ {h : Nat} {r : Rf} {lo hi : ByteArray} {ns : List Rf} {its : List It}, Rep t.map h r lo hi ns its → ∀ x ∈ ns, NOk (t.at x)
 | 0, r, lo, hi, ns, its, ⟨n, a, b, c, d, e, f, g⟩ => fun x hx => by
  rw [f] at hx
  rw [List.mem_singleton.1 hx, Tm.map_at a]
  exact ⟨Rep.shape (h := 0) (lo := lo) (hi := hi) (ns := ns) (its := its) ⟨n, a, b, c, d, e, f, g⟩ a, d, by omega, fun _ => c⟩
 | h + 1, r, lo, hi, ns, its, ⟨n, ns', a, b, c, d⟩ => fun x hx => by
  rw [c] at hx
  rcases List.mem_cons.1 hx with rfl | hx
  ·rw [Tm.map_at a]
   have := d.len
   exact ⟨Rep.shape (h := h + 1) ⟨n, ns', a, b, c, d⟩ a, d.keys.1, by omega, fun e => by rw [b] at e; cases e⟩
  ·exact d.all (Q := fun x => NOk (t.at x)) (fun r lo hi ns its h1 => h1.nok) x hx
theorem Dn.lf {t : Tm} {key : ByteArray} {r q : Rf} {l : List (Rf × Nat)} (h : Dn t key r l q) : (t.at q).leaf = true := by
 induction h with
 | leaf _ h => exact h
 | step _ _ _ _ _ _ _ _ ih => exact ih
theorem Rep.mem {t : Tm} {key : ByteArray} : ∀ {h : Nat} {r : Rf} {lo hi : ByteArray} {ns : List Rf} {its : List It}, Rep t.map h r lo hi ns its → ∀ {l : List (Rf × Nat)} {q : Rf}, Dn t key r l q → q ∈ ns
 | 0, r, lo, hi, ns, its, ⟨n, a, b, c, d, e, f, g⟩, l, q, hd => by
  rcases hd.inv with ⟨_, _, rfl⟩ | ⟨r', l2, h1, _⟩
  ·rw [f]; simp
  ·rw [Tm.map_at a, b] at h1; cases h1
 | h + 1, r, lo, hi, ns, its, ⟨n, ns', a, b, c, d⟩, l, q, hd => by
  rcases hd.inv with ⟨h1, _⟩ | ⟨r', l2, _, _, hk, hd', _⟩
  ·rw [Tm.map_at a, b] at h1; cases h1
  ·rw [Tm.map_at a] at hk
   obtain ⟨lo', hi', ns1, its1, e1, e2⟩ := d.each r' (List.mem_of_getElem? hk)
   rw [c]
   exact List.mem_cons_of_mem _ (e2 q (e1.mem hd'))
theorem Rep.wok {t : Tm} {C : Nd.Nd → Prop} : ∀ {h : Nat} {r : Rf} {lo hi : ByteArray} {ns : List Rf} {its : List It}, Rep t.map h r lo hi ns its → (∀ x ∈ ns, C (t.at x)) → (∀ x ∈ ns, Small t x) → WOk t C h r
 | 0, r, lo, hi, ns, its, ⟨n, a, b, c, d, e, f, g⟩, hC, hs => ⟨by rw [Tm.map_at a]; exact b, hC r (by rw [f]; simp)⟩
 | h + 1, r, lo, hi, ns, its, ⟨n, ns', a, b, c, d⟩, hC, hs => by
  have hl := d.len
  have h4 := hs r (by rw [c]; simp)
  unfold Small at h4
  refine ⟨hC r (by rw [c]; simp), .inr ⟨by rw [Tm.map_at a]; omega, by omega, fun x hx => ?_⟩⟩
  rw [Tm.map_at a] at hx
  obtain ⟨lo', hi', ns1, its1, e1, e2⟩ := d.each x hx
  have hsub : ∀ y ∈ ns1, y ∈ ns := fun y hy => by rw [c]; exact List.mem_cons_of_mem _ (e2 y hy)
  exact e1.wok (fun y hy => hC y (hsub y hy)) (fun y hy => hs y (hsub y hy))
theorem emp_nil : emp ⟨#[]⟩ = true := by unfold emp; rw [Lib.toList_data]; rfl
theorem inK_of {lo hi k : ByteArray} (h1 : bl k lo = false) (h2 : blw k hi) : inK lo hi k = true := by
 unfold inK
 rw [h1]
 rcases h2 with rfl | h2
 ·rw [emp_nil]; rfl
 ·rw [h2]; simp
theorem okN_true {lo hi : ByteArray} : ∀ {l : List ByteArray}, (∀ k ∈ l, bl k lo = false ∧ blw k hi) → okN true lo hi l = true
 | [], _ => rfl
 | k :: l, h => by
  obtain ⟨h1, h2⟩ := h k (by simp)
  have e : okN true lo hi (k :: l) = okN (true && inK lo hi k) lo hi l := rfl
  rw [e, inK_of h1 h2]
  exact okN_true (fun x hx => h x (by simp [hx]))
theorem asc_of : ∀ {l : List ByteArray}, Asc l → asc l = true
 | [], _ => rfl
 | [a], _ => rfl
 | a :: b :: l, h => by
  obtain ⟨h1, h2⟩ := List.pairwise_cons.1 h
  simp only [asc, Bool.and_eq_true]
  exact ⟨h1 b (by simp), asc_of h2⟩
theorem NOk.check {n : Nd.Nd} (h : NOk n) (h4 : n.refs.length ≤ 4) (hv : 0 ≤ n.ver) : n.check = true := by
 unfold Nd.Nd.check
 rw [asc_of h.a, h.sh]
 simp [h4, hv]
def SeesAs (p : List Vis) (D : Int) (ns : List Rf) (its : List It) : Prop :=
 p.length = ns.length ∧ p.flatMap visI = its ∧ ∀ c : Chk, c.ok = true → (c.dp = -1 ∨ c.dp = D) → p.foldl chkS c = ⟨c.cnt + (ns.length : Int), true, D⟩
theorem Row.sees {F : Rf → ByteArray → ByteArray → List Vis} {D : Int} (h : Row P rs ks lo hi ns its) : (∀ r lo hi ns' its', (∀ x ∈ ns', x ∈ ns) → P r lo hi ns' its' → SeesAs (F r lo hi) D ns' its') → SeesAs (rowF F rs ks lo hi) D ns its := by
 induction h with
 | one h => exact fun hF => hF _ _ _ _ _ (fun x hx => hx) h
 | @cons r rs k ks lo hi n1 n2 i1 i2 h h1 h2 h3 ih =>
  intro hF
  obtain ⟨a1, a2, a3⟩ := hF _ _ _ _ _ (fun x hx => List.mem_append_left _ hx) h
  obtain ⟨b1, b2, b3⟩ := ih (fun r lo hi ns' its' hs hp => hF r lo hi ns' its' (fun x hx => List.mem_append_right _ (hs x hx)) hp)
  refine ⟨?_, ?_, fun c hc hd => ?_⟩
  ·rw [rowF, List.length_append, List.length_append, a1, b1]
  ·rw [rowF, List.flatMap_append, a2, b2]
  ·rw [rowF, List.foldl_append, a3 c hc hd, b3 _ rfl (.inr rfl)]
   simp only [List.length_append, Int.natCast_add, Int.add_assoc]
theorem Rep.sees {t : Tm} : ∀ {h : Nat} {r : Rf} {lo hi : ByteArray} {ns : List Rf} {its : List It}, Rep t.map h r lo hi ns its → (∀ x ∈ ns, Small t x ∧ 0 ≤ (t.at x).ver) → ∀ d : Int, 0 ≤ d → SeesAs (visits t h r d lo hi) (d + h) ns its
 | 0, r, lo, hi, ns, its, hr, hs, d, hd => by
  have hn := hr.nok
  obtain ⟨n, a, b, c, e, f, g, i⟩ := hr
  have hat := Tm.map_at a
  have hrn : r ∈ ns := by rw [g]; simp
  have hck : n.check = true := by rw [← hat]; exact (hn r hrn).check (hs r hrn).1 (hs r hrn).2
  refine ⟨by rw [g]; rfl, ?_, fun cc hc hdp => ?_⟩
  ·show [(⟨t.at r, d, lo, hi⟩ : Vis)].flatMap visI = its
   rw [i, hat]
   simp [visI, visN, b]
  ·show chkS cc ⟨t.at r, d, lo, hi⟩ = _
   rw [hat]
   unfold chkS
   simp only [hc, hck, Bool.and_self]
   rw [okN_true f]
   unfold chkN
   rw [if_pos b]
   have hdp1 : cc.dp1 d = d := by
    unfold Chk.dp1
    rcases hdp with hdp | hdp
    ·rw [if_pos (by omega)]
    ·rw [if_neg (by omega)]; omega
   rw [hdp1, g]
   simp
 | h + 1, r, lo, hi, ns, its, hr, hs, d, hd => by
  have hn := hr.nok
  obtain ⟨n, ns', a, b, c, e⟩ := hr
  have hat := Tm.map_at a
  have hrn : r ∈ ns := by rw [c]; simp
  have hck : n.check = true := by rw [← hat]; exact (hn r hrn).check (hs r hrn).1 (hs r hrn).2
  have hl := e.len
  have hv : visits t (h + 1) r d lo hi = ⟨n, d, lo, hi⟩ :: rowF (fun r lo hi => visits t h r (d + 1) lo hi) n.refs n.keys lo hi := by
   rw [← range_row _ _ _ _ _ hl]
   rw [visits, hat, b]
   rfl
  have hk := e.keys
  obtain ⟨a1, a2, a3⟩ := e.sees (F := fun r lo hi => visits t h r (d + 1) lo hi) (D := d + 1 + h) (fun r lo hi ns1 its1 hsub hp => hp.sees (fun x hx => hs x (by rw [c]; exact List.mem_cons_of_mem _ (hsub x hx))) (d + 1) (by omega))
  rw [hv]
  refine ⟨by rw [c, List.length_cons, List.length_cons, a1], ?_, fun cc hc hdp => ?_⟩
  ·rw [List.flatMap_cons, a2]
   simp [visI, visN, b]
  ·have h1 : chkS cc ⟨n, d, lo, hi⟩ = ⟨cc.cnt + 1, true, cc.dp⟩ := by
    unfold chkS
    simp only [hc, hck, Bool.and_self]
    rw [okN_true (fun k hk' => ⟨bl_ble (hk.2 k hk').1, (hk.2 k hk').2⟩)]
    unfold chkN
    rw [if_neg (by rw [b]; simp)]
   rw [List.foldl_cons, h1, a3 _ rfl (by rcases hdp with hdp | hdp; exact .inl hdp; right; show cc.dp = _; rw [hdp]; push_cast; omega)]
   rw [c]
   simp only [List.length_cons, Chk.mk.injEq, true_and]
   push_cast
   omega
variable {t : Tm} {h : Nat} {V : Int}
theorem Inv.nok (iv : Inv t N h ns its V) : ∀ x ∈ ns, NOk (t.at x) := iv.rep.nok
theorem Inv.leaf (iv : Inv t N h ns its V) {key : ByteArray} {l : List (Rf × Nat)} {q : Rf} (hd : Dn t key t.root l q) : q ∈ ns ∧ Nd.Ok (t.at q) ∧ (t.find key q).2 = fnd key (t.at q).keys := by
 have hm := iv.rep.mem hd
 have ho := iv.nok q hm
 have hs := iv.sm q hm
 unfold Small at hs
 have hlf := hd.lf
 have hl := ho.lf hlf
 refine ⟨hm, ⟨by omega, by omega, ho.a⟩, ?_⟩
 have hf : (t.at q).find key = (plc key (t.at q).keys, fnd key (t.at q).keys) := by
  unfold Nd.Nd.find
  rw [hlf, hl]
  simp
 unfold Tm.find
 rw [hf]
 cases fnd key (t.at q).keys <;> rfl
theorem Inv.sees (iv : Inv t N h ns its V) : SeesAs (visits t h t.root 0 ⟨#[]⟩ ⟨#[]⟩) (0 + h) ns its := iv.rep.sees (fun x hx => ⟨iv.sm x hx, (iv.ver x hx).1⟩) 0 (Int.le_refl _)
theorem Inv.height (iv : Inv t N h ns its V) : h < N := by
 have h1 := iv.rep.height
 have h2 := iv.len
 omega
theorem Inv.wokS (iv : Inv t N h ns its V) : WOk t Nd.Sm h t.root := iv.rep.wok (fun x hx => by
 have h1 := iv.sm x hx
 have h2 := (iv.nok x hx).len
 unfold Small at h1
 exact ⟨by omega, by omega⟩) iv.sm
theorem Inv.wokI (iv : Inv t N h ns its V) : WOk t CI h t.root := iv.rep.wok (fun x hx => fun hl => by
 have h1 := iv.sm x hx
 have h2 := (iv.nok x hx).lf hl
 unfold Small at h1
 exact ⟨h2, by omega⟩) iv.sm
theorem Inv.held (iv : Inv t N h ns its V) : (t.p.held : Int) = ns.length + t.gone.length := by
 have h1 := iv.cnt
 unfold Ar.room at h1
 have h3 := iv.wf.2.2
 omega
theorem Inv.checked {w0 w : World} {K : Nat × Nat × Nat} {on : Value} {R L : List Ob} (iv : Inv t N h ns its V) (hN : N ≤ 100000) (hM : Mt w0 w K t on R L) : Calls Try.prog 70 #[.pointer (some ⟨K.1, 0, none⟩)] w fun e w' => e = .returned (.bool true) ∧ Mt w0 w' K t on R L := by
 have h1 := iv.len
 have h2 := iv.height
 obtain ⟨a, b, c⟩ := iv.sees
 have h3 := iv.held
 refine tcheck.calls hM (m := 1000000) (Nat.le_refl _) iv.wokS (by omega) (by omega) (by omega) (c chk0 rfl (.inl rfl)) ?_
 rw [Bool.and_eq_true, decide_eq_true_eq]
 exact ⟨rfl, by show (t.p.held : Int) - t.gone.length = 0 + (ns.length : Int); omega⟩
theorem Inv.items {w0 w : World} {K : Nat × Nat × Nat} {on : Value} {R L : List Ob} (iv : Inv t N h ns its V) (hN : N ≤ 100000) (hM : Mt w0 w K t on R L) : Calls Try.prog 69 #[.pointer (some ⟨K.1, 0, none⟩)] w fun e w' => ∃ ad c A, e = .returned (.slice ad its.length c) ∧ Gr 104 3 (.slice ad its.length c) its.length (its.flatMap icel) A ∧ Mt w0 w' K t on R (A ++ L) := by
 have h1 := iv.len
 have h2 := iv.height
 obtain ⟨a, b, c⟩ := iv.sees
 exact titems.calls hM (m := 200000) (Nat.le_refl _) iv.wokI (by omega) (by omega) b
theorem Inv.new (m : Nat) (h1 : 1 ≤ m) (h2 : m ≤ 4096) : Inv (Tm.new m) m 0 [(0, 1)] [] 1 ∧ (Tm.new m).root = (0, 1) ∧ (Tm.new m).gone = [] ∧ (Tm.new m).at (0, 1) = ⟨true, 1, [], []⟩ := by
 have hn : (Ar.new m []).n = m := by simp [Ar.new, Ar.n]
 have hw : (Tm.new0 m).Wf m := ⟨new_ok m h2 [] rfl trivial, by simp [Tm.new0], hn⟩
 have hheld : (Ar.new m []).held = 0 := by simp [Ar.new, Ar.held, List.countP_replicate]
 have hroom : (Tm.new0 m).p.room = m := by
  show (Ar.new m []).room = m
  unfold Ar.room
  rw [hn, hheld]
  omega
 have hr : ¬ (Tm.new0 m).p.room = 0 := by omega
 have hz : ((Ar.new m []).slot 0).gen = 0 := by
  simp only [Ar.new, Ar.slot, List.getD_eq_getElem?_getD, List.getElem?_replicate]
  split <;> rfl
 have hnx : (Ar.new m []).next = 0 := by simp [Ar.new, Ar.next]
 have htk : (Tm.new0 m).tk = (0, 1) := by
  unfold Tm.tk
  rw [if_neg hr]
  show ((Ar.new m []).next, (Ar.new m []).gen) = _
  unfold Ar.gen
  rw [hnx, hz]
  have hw1 : wrap64 (0 + 1) = 1 := by unfold wrap64; omega
  rw [hw1]
 obtain ⟨a1, a2, a3, a4, a5, a6⟩ := Tm.mtake (n := ⟨true, 1, [], []⟩) hw hr
 rw [htk] at a1
 have hroot : (Tm.new m).root = (0, 1) := by unfold Tm.new; exact htk
 have hmap : (Tm.new m).map = upd (Tm.new0 m).map (0, 1) ⟨true, 1, [], []⟩ := a1
 have hat : (Tm.new m).at (0, 1) = ⟨true, 1, [], []⟩ := Tm.map_at (by rw [hmap]; exact upd_self _ _ _)
 have hgone : (Tm.new m).gone = [] := by show ((Tm.new0 m).take _).gone = []; rw [a4]; rfl
 refine ⟨⟨a2, ?_, by simp, fun x hx => ?_, fun x hx => ?_, ?_⟩, hroot, hgone, hat⟩
 ·rw [hroot]
  exact ⟨⟨true, 1, [], []⟩, by rw [hmap]; exact upd_self _ _ _, rfl, rfl, List.Pairwise.nil, fun k hk => by simp at hk, rfl, rfl⟩
 ·rw [List.mem_singleton.1 hx]
  unfold Small
  rw [hat]
  simp
 ·rw [List.mem_singleton.1 hx]
  unfold Ver
  rw [hat]
  simp
 ·rw [hgone]
  show ((Tm.new0 m).take _).p.room = _
  rw [a5, hroom]
  simp
end
section
attribute [local irreducible] bl
variable {N : Nat}
theorem Rep.joinNode {m m' : Mm} {h : Nat} {x0 x1 : Rf} {A k B : ByteArray} {nA nB : List Rf} {itA itB : List It} {a b : Nd.Nd} (hA : Rep m h x0 A k nA itA) (hB : Rep m h x1 k B nB itB) (h1 : bl A k = true) (h2 : blw k B) (ha : m x0 = some a) (hb : m x1 = some b) :
  ∃ nl nr, nA = x0 :: nl ∧ nB = x1 :: nr ∧ (a.join k b).refs = a.refs ++ b.refs ∧ (a.join k b).ver = wrap64 (a.ver + 1) ∧ ((m' x0 = some (a.join k b)) → (∀ x ∈ nl ++ nr, m' x = m x) → Rep m' h x0 A B (x0 :: (nl ++ nr)) (itA ++ itB)) := by
 have sa := hA.shape ha
 have sb := hB.shape hb
 cases h with
 | zero =>
  obtain ⟨a', e1, e2, e3, e4, e5, e6, e7⟩ := hA
  rw [ha] at e1; cases e1
  obtain ⟨b', f1, f2, f3, f4, f5, f6, f7⟩ := hB
  rw [hb] at f1; cases f1
  have hj : a.join k b = { a with ver := wrap64 (a.ver + 1), keys := a.keys ++ b.keys, refs := a.refs ++ b.refs } := by
   unfold Nd.Nd.join
   rw [sa, sb, e2, f2]
   simp
  refine ⟨[], [], e6, f6, by rw [hj], by rw [hj], fun hm _ => ?_⟩
  rw [hj] at hm
  refine ⟨_, hm, e2, by simp only [List.length_append]; omega, ?_, fun x hx => ?_, rfl, ?_⟩
  ·refine List.pairwise_append.2 ⟨e4, f4, fun x hx y hy => ?_⟩
   exact bl_of_ble (blw_bl (e5 x hx).2 h1) (f5 y hy).1
  ·rcases List.mem_append.1 hx with hx | hx
   ·exact ⟨(e5 x hx).1, blw_of (blw_bl (e5 x hx).2 h1) h2⟩
   ·exact ⟨ble_trans (bl_ble h1) (f5 x hx).1, (f5 x hx).2⟩
  ·rw [e7, f7]
   unfold itemsOf
   rw [← List.zip_append e3]
 | succ h =>
  obtain ⟨a', nl, e1, e2, e3, e4⟩ := hA
  rw [ha] at e1; cases e1
  obtain ⟨b', nr, f1, f2, f3, f4⟩ := hB
  rw [hb] at f1; cases f1
  have hj : a.join k b = { a with ver := wrap64 (a.ver + 1), keys := a.keys ++ [k] ++ b.keys, refs := a.refs ++ b.refs } := by
   unfold Nd.Nd.join
   rw [sa, sb, e2, f2]
   simp
  refine ⟨nl, nr, e3, f3, by rw [hj], by rw [hj], fun hm hf => ?_⟩
  rw [hj] at hm
  refine ⟨_, nl ++ nr, hm, e2, rfl, ?_⟩
  have g1 := e4.mono (P' := Rep m' h) (fun r lo hi ns' its' hs hp => hp.frame (fun x hx => hf x (List.mem_append_left _ (hs x hx))))
  have g2 := f4.mono (P' := Rep m' h) (fun r lo hi ns' its' hs hp => hp.frame (fun x hx => hf x (List.mem_append_right _ (hs x hx))))
  have g3 := g1.join g2 h1 h2
  simpa [List.append_assoc] using g3
structure JP (N m : Nat) (t t' : Tm) (h : Nat) (r x0 x1 : Rf) (lo hi : ByteArray) (ns ns' : List Rf) (its : List It) : Prop where
 wf : t'.Wf N
 room : t'.p.room = t.p.room
 root : t'.root = t.root
 gone : t'.gone = t.gone ++ [x1]
 rep : Rep t'.map h r lo hi ns' its
 perm : (ns' ++ [x1]).Perm ns
 off : ∀ x, x ∉ ns → t'.map x = t.map x
 has : t'.map x1 ≠ none
 rr : (t'.at r).refs.length + 1 = (t.at r).refs.length
 rv : (t'.at r).ver = wrap64 ((t.at r).ver + 1)
 xr : (t'.at x0).refs.length ≤ 4
 xv : (t'.at x0).ver = wrap64 ((t.at x0).ver + 1)
 same : ∀ x ∈ ns', x ≠ r → x ≠ x0 → t'.at x = t.at x
 bd : Bd t' m
 ne : x0 ≠ r ∧ x0 ∈ ns
theorem Rep.joinStep {t : Tm} (hw : t.Wf N) {h : Nat} {r : Rf} {lo hi : ByteArray} {ns : List Rf} {its : List It} (hr : Rep t.map (h + 1) r lo hi ns its) (hnd : ns.Nodup) {i : Nat} {x0 x1 : Rf} (h0 : (t.at r).refs[i]? = some x0) (h1 : (t.at r).refs[i + 1]? = some x1) (hs : (t.at x0).refs.length + (t.at x1).refs.length ≤ 4) {m : Nat} (hb : Bd t m) (hm : 4 ≤ m) :
  ∃ t' ns', t.join r (i : Int) = (t', x1, true) ∧ JP N m t t' (h + 1) r x0 x1 lo hi ns ns' its := by
 obtain ⟨p, ns0, a, b, c, d⟩ := id hr
 have hat := Tm.map_at a
 have hsh := hr.shape a
 have hl := d.len
 rw [hat] at h0 h1
 have hlt := (List.getElem?_eq_some_iff.1 h1).1
 obtain ⟨kx, hkx⟩ : ∃ kx, p.keys[i]? = some kx := ⟨_, List.getElem?_eq_getElem (by omega)⟩
 obtain ⟨A, B, n1, n2, n3, t1, t2, t3, e1, e2, e3, e4, e5, e6, e7, e8⟩ := d.focus (fun _ _ _ _ _ h => h.range) i 2 (by omega) (by omega)
 have hd1 : (p.refs.drop i).take 2 = [x0, x1] := by
  rw [List.drop_eq_getElem_cons (by omega), (List.getElem?_eq_some_iff.1 h0).2, List.drop_eq_getElem_cons (by omega), (List.getElem?_eq_some_iff.1 h1).2]
  rfl
 have hd2 : (p.keys.drop i).take (2 - 1) = [kx] := by
  rw [List.drop_eq_getElem_cons (by omega), (List.getElem?_eq_some_iff.1 hkx).2]
  rfl
 rw [hd1, hd2] at e1
 obtain ⟨nA, nB, itA, itB, q1, q2, q3, q4, q5, q6⟩ : ∃ nA nB itA itB, Rep t.map h x0 A kx nA itA ∧ Rep t.map h x1 kx B nB itB ∧ bl A kx = true ∧ blw kx B ∧ n2 = nA ++ nB ∧ t2 = itA ++ itB := by
  cases e1 with
  | cons g1 g2 g3 g4 =>
   cases g4 with
   | one g4 => exact ⟨_, _, _, _, g1, g4, g2, g3, rfl, rfl⟩
 obtain ⟨na, _, ha, _⟩ := q1.head
 obtain ⟨nb, _, hbm, _⟩ := q2.head
 have hata := Tm.map_at ha
 have hatb := Tm.map_at hbm
 obtain ⟨jn, hj⟩ : ∃ jn, na.join kx nb = jn := ⟨_, rfl⟩
 obtain ⟨rm, hrm⟩ : ∃ rm, p.remove ((i : Int) + 1) = rm := ⟨_, rfl⟩
 obtain ⟨T1, hT1⟩ : ∃ T, t.set x0 jn = T := ⟨_, rfl⟩
 obtain ⟨T2, hT2⟩ : ∃ T, T1.set r rm = T := ⟨_, rfl⟩
 obtain ⟨T3, hT3⟩ : ∃ T, T2.leave x1 = T := ⟨_, rfl⟩
 have hjoin := join_ok (t := t) (up := r) (i := i) hat h0 h1 hkx hata hatb (by rw [hat]; omega) (by rw [← hata, ← hatb]; omega) hj hrm hT1 hT2 hT3
 have hkid : p.kid ((i : Int) + 1) = true := by
  unfold Nd.Nd.kid
  rw [b, hsh]
  simp
  omega
 have hrme : rm = { p with ver := wrap64 (p.ver + 1), keys := p.keys.take i ++ p.keys.drop (i + 1), refs := p.refs.take (i + 1) ++ p.refs.drop (i + 2) } := by
  rw [← hrm]
  unfold Nd.Nd.remove
  rw [if_pos hkid, if_neg (by omega), show ((i : Int) + 1).toNat = i + 1 by omega, Nat.add_sub_cancel]
 -- who is who
 have hnd0 := hnd
 rw [c, e2, q5] at hnd
 obtain ⟨hnr, hnd1⟩ := List.nodup_cons.1 hnd
 obtain ⟨nl, nr, j1, j2, j3, j4, j5⟩ := q1.joinNode (m' := T3.map) q2 q3 q4 ha hbm
 rw [hj] at j3 j4 j5
 rw [j1, j2] at hnd1 hnr
 have mem_ns : ∀ x, x ∈ ns ↔ x = r ∨ x ∈ n1 ∨ x = x0 ∨ x ∈ nl ∨ x = x1 ∨ x ∈ nr ∨ x ∈ n3 := fun x => by rw [c, e2, q5, j1, j2]; simp only [List.mem_cons, List.mem_append, or_assoc]
 have hx0r : x0 ≠ r := fun e => hnr (by rw [← e]; simp)
 have hx1r : x1 ≠ r := fun e => hnr (by rw [← e]; simp)
 have hnd2 := List.nodup_append.1 hnd1
 have hnd3 := List.nodup_append.1 hnd2.1
 have hnd4 := List.nodup_append.1 hnd3.2.1
 have hx01 : x1 ≠ x0 := fun e => hnd4.2.2 x0 (by simp) x1 (by simp) e.symm
 -- maps
 obtain ⟨a1, a2, a3, a4, a5⟩ := Tm.mset (n := jn) hw ha
 rw [hT1] at a1 a2 a3 a4 a5
 have hr1 : T1.map r = some p := by rw [a1, upd_ne (Ne.symm hx0r), a]
 obtain ⟨b1, b2, b3, b4, b5⟩ := Tm.mset (n := rm) a2 hr1
 rw [hT2] at b1 b2 b3 b4 b5
 have hx1m : T2.map x1 = some nb := by rw [b1, upd_ne hx1r, a1, upd_ne hx01, hbm]
 obtain ⟨c1, c2, c3, c4, c5⟩ := Tm.mset (n := up1 (T2.at x1)) b2 hx1m
 have hT3m : T3.map = upd T2.map x1 (up1 (T2.at x1)) := by rw [← hT3]; exact c1
 have hT3w : T3.Wf N := by rw [← hT3]; exact c2
 have hT3r : T3.root = t.root := by rw [← hT3]; show (T2.set x1 _).root = _; rw [c3, b3, a3]
 have hT3p : T3.p.room = t.p.room := by rw [← hT3]; show (T2.set x1 _).p.room = _; rw [c5, b5, a5]
 have hT3g : T3.gone = t.gone ++ [x1] := by rw [← hT3]; show T2.gone ++ [x1] = _; rw [b4, a4]
 have hmap : ∀ x, x ≠ x0 → x ≠ r → x ≠ x1 → T3.map x = t.map x := fun x g1 g2 g3 => by rw [hT3m, upd_ne g3, b1, upd_ne g2, a1, upd_ne g1]
 have hm0 : T3.map x0 = some jn := by rw [hT3m, upd_ne (Ne.symm hx01), b1, upd_ne hx0r, a1]; exact upd_self _ _ _
 have hmr : T3.map r = some rm := by rw [hT3m, upd_ne (Ne.symm hx1r), b1]; exact upd_self _ _ _
 have hn13 : ∀ x, x ∈ n1 ∨ x ∈ n3 ∨ x ∈ nl ∨ x ∈ nr → x ≠ x0 ∧ x ≠ r ∧ x ≠ x1 := by
  intro x hx
  refine ⟨?_, fun e => hnr (by rw [← e]; rcases hx with hx | hx | hx | hx <;> simp [hx]), ?_⟩
  ·rcases hx with hx | hx | hx | hx
   ·exact fun e => hnd3.2.2 x hx x0 (by simp) e
   ·exact fun e => hnd2.2.2 x0 (by simp) x hx e.symm
   ·exact fun e => (List.nodup_cons.1 hnd4.1).1 (by rw [← e]; exact hx)
   ·exact fun e => hnd4.2.2 x0 (by simp) x (by simp [hx]) e.symm
  ·rcases hx with hx | hx | hx | hx
   ·exact fun e => hnd3.2.2 x hx x1 (by simp) e
   ·exact fun e => hnd2.2.2 x1 (by simp) x hx e.symm
   ·exact fun e => hnd4.2.2 x (by simp [hx]) x1 (by simp) e
   ·exact fun e => (List.nodup_cons.1 hnd4.2.1).1 (by rw [← e]; exact hx)
 have hoff : ∀ x, x ∈ n1 ∨ x ∈ n3 ∨ x ∈ nl ∨ x ∈ nr → T3.map x = t.map x := fun x hx => by
  obtain ⟨g1, g2, g3⟩ := hn13 x hx
  exact hmap x g1 g2 g3
 have hjrep := j5 hm0 (fun x hx => hoff x ((List.mem_append.1 hx).elim (fun h => .inr (.inr (.inl h))) (fun h => .inr (.inr (.inr h)))))
 have hrow := e8 (Rep T3.map h) [x0] [] (x0 :: (nl ++ nr)) (itA ++ itB) (fun r lo hi ns' its' hx hp => hp.frame (fun x hx' => hoff x ((hx x hx').elim .inl (fun h => .inr (.inl h))))) (.one hjrep)
 have hS : ∀ x ∈ ns, t.map x ≠ none := fun x hx => isS_of (hr.isS x hx)
 have hjl : jn.refs.length ≤ 4 := by rw [j3, List.length_append, ← hata, ← hatb]; exact hs
 have hjk : jn.keys.length ≤ jn.refs.length := by
  obtain ⟨_, _, hh, _⟩ := hjrep.head
  have h1 := hjrep.nok x0 (by simp)
  rw [Tm.map_at hm0] at h1
  exact h1.len
 have hbr := hb.at r
 rw [hat] at hbr
 have hB1 : Bd T1 m := by rw [← hT1]; exact hb.set x0 ⟨by omega, by omega⟩
 have hB2 : Bd T2 m := by
  rw [← hT2]
  refine hB1.set r ?_
  rw [hrme]
  simp only [List.length_append, List.length_take, List.length_drop]
  omega
 have hB3 : Bd T3 m := by
  rw [← hT3]
  show Bd (T2.set x1 (up1 (T2.at x1))) m
  exact hB2.set x1 (hB2.at x1)
 refine ⟨T3, r :: (n1 ++ (x0 :: (nl ++ nr)) ++ n3), hjoin, hT3w, hT3p, hT3r, hT3g, ?_, ?_, fun x hx => ?_, ?_, ?_, ?_, ?_, ?_, fun x hx g1 g2 => ?_, hB3, hx0r, (mem_ns x0).2 (.inr (.inr (.inl rfl)))⟩
 ·refine ⟨rm, n1 ++ (x0 :: (nl ++ nr)) ++ n3, hmr, by rw [hrme]; exact b, rfl, ?_⟩
  rw [e3, q6]
  have g1 : p.refs.take i ++ [x0] ++ p.refs.drop (i + 2) = rm.refs := by
   rw [hrme]
   simp only []
   rw [List.take_add_one, h0]
   simp
  have g2 : p.keys.take i ++ [] ++ p.keys.drop (i + 2 - 1) = rm.keys := by
   rw [hrme, List.append_nil]
   rfl
  rw [g1, g2] at hrow
  exact hrow
 ·rw [c, e2, q5, j1, j2, List.cons_append]
  refine List.Perm.cons _ ?_
  have g1 : (n1 ++ (x0 :: (nl ++ nr)) ++ n3 ++ [x1]).Perm (x1 :: (n1 ++ (x0 :: (nl ++ nr)) ++ n3)) := List.perm_append_comm
  refine g1.trans ?_
  have g2 := List.perm_middle (a := x1) (l₁ := n1 ++ (x0 :: nl)) (l₂ := nr ++ n3)
  have g3 := g2.symm
  simpa [List.append_assoc] using g3
 ·have hx' := fun h => hx ((mem_ns x).2 h)
  exact hmap x (fun e => hx' (.inr (.inr (.inl e)))) (fun e => hx' (.inl e)) (fun e => hx' (by simp [e]))
 ·rw [hT3m, upd_self]
  simp
 ·rw [Tm.map_at hmr, hat, hrme]
  simp only [List.length_append, List.length_take, List.length_drop]
  omega
 ·rw [Tm.map_at hmr, hat, hrme]
 ·rw [Tm.map_at hm0]; exact hjl
 ·rw [Tm.map_at hm0, hata]; exact j4
 ·have hx2 : x ∈ n1 ∨ x ∈ n3 ∨ x ∈ nl ∨ x ∈ nr := by
   simp only [List.mem_cons, List.mem_append] at hx
   grind
  refine at_of (hoff x hx2) (hS x ((mem_ns x).2 ?_))
  grind
theorem Rep.delLeaf {m : Mm} {r : Rf} {lo hi : ByteArray} {ns : List Rf} {its : List It} {n : Nd.Nd} {key : ByteArray} (h : Rep m 0 r lo hi ns its) (hn : m r = some n) (hf : fnd key n.keys = true) :
  Rep (upd m r (n.delete key).1) 0 r lo hi ns (delI key its) ∧ (n.delete key).1.refs.length + 1 = n.refs.length ∧ (n.delete key).1.keys.length ≤ n.keys.length ∧ (n.delete key).1.ver = wrap64 (n.ver + 1) ∧ (n.delete key).2.2 = true := by
 obtain ⟨n', a, b, c, d, e, f, g⟩ := h
 rw [hn] at a; cases a
 have hk := (fnd_at _ _).1 hf
 have hlt := (List.getElem?_eq_some_iff.1 hk).1
 have hfi : (n.find key).2 = true := by
  unfold Nd.Nd.find
  rw [b, c]
  simpa using hf
 have hp : n.delete key = ({ n with ver := wrap64 (n.ver + 1), keys := n.keys.take (plc key n.keys) ++ n.keys.drop (plc key n.keys + 1), refs := n.refs.take (plc key n.keys) ++ n.refs.drop (plc key n.keys + 1) }, (n.refs[plc key n.keys]?).getD (0, 0), true) := by
  unfold Nd.Nd.delete
  rw [if_pos hfi]
 obtain ⟨rr, hrr⟩ : ∃ rr, n.refs[plc key n.keys]? = some rr := ⟨_, List.getElem?_eq_getElem (by omega)⟩
 have hks : n.keys = n.keys.take (plc key n.keys) ++ [key] ++ n.keys.drop (plc key n.keys + 1) := by
  conv => lhs; rw [← List.take_append_drop (plc key n.keys) n.keys]
  rw [List.drop_eq_getElem_cons hlt, (List.getElem?_eq_some_iff.1 hk).2]
  simp
 have hrs : n.refs = n.refs.take (plc key n.keys) ++ [rr] ++ n.refs.drop (plc key n.keys + 1) := by
  conv => lhs; rw [← List.take_append_drop (plc key n.keys) n.refs]
  rw [List.drop_eq_getElem_cons (by omega), (List.getElem?_eq_some_iff.1 hrr).2]
  simp
 have hsub : (n.keys.take (plc key n.keys) ++ n.keys.drop (plc key n.keys + 1)).Sublist n.keys := by
  conv => rhs; rw [hks]
  rw [List.append_assoc]
  exact List.Sublist.append_left (List.sublist_cons_self _ _) _
 rw [hp]
 refine ⟨⟨_, upd_self _ _ _, b, ?_, d.sublist hsub, fun k hk' => e k (hsub.mem hk'), f, ?_⟩, ?_, hsub.length_le, rfl, rfl⟩
 ·simp only [List.length_append, List.length_take, List.length_drop]; omega
 ·rw [g]
  unfold itemsOf
  simp only []
  have hz : n.keys.zip n.refs = (n.keys.take (plc key n.keys)).zip (n.refs.take (plc key n.keys)) ++ [(key, rr)] ++ (n.keys.drop (plc key n.keys + 1)).zip (n.refs.drop (plc key n.keys + 1)) := by
   conv => lhs; rw [hks, hrs]
   rw [zip_cut _ _ _ _ _ _ (by rw [List.length_take, List.length_take, c])]
   simp
  rw [hz, delI_mid (fun y hy => ?_) (fun y hy => ?_), List.zip_append (by rw [List.length_take, List.length_take, c])]
  ·simp [delI]
  ·have hm := (List.of_mem_zip (a := y.1) (b := y.2) hy).1
   obtain ⟨j, hj⟩ := List.getElem?_of_mem hm
   have hl := (List.getElem?_eq_some_iff.1 hj).1
   rw [List.length_take] at hl
   rw [List.getElem?_take, if_pos (by omega)] at hj
   have h3 : j < plc key n.keys := by omega
   exact plc_ahead h3 hj
  ·have hm := (List.of_mem_zip (a := y.1) (b := y.2) hy).1
   obtain ⟨j, hj⟩ := List.getElem?_of_mem hm
   rw [List.getElem?_drop] at hj
   have h3 : plc key n.keys < plc key n.keys + 1 + j := by omega
   exact asc_lt d h3 hk hj
 ·simp only [List.length_append, List.length_take, List.length_drop]; omega
end
end Go.Proofs.Ytglbcfkmaamhaaa.Tr
