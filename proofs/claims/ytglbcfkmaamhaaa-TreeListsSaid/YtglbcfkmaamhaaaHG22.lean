/- A text of this claim: parts TpH TpI TtA TtB. No condition. -/
import Derived.Test.YtglbcfkmaamhaaaHG21
import Derived.Test.YtglbcfkmaamhaaaHG18
import Derived.Test.YtglbcfkmaamhaaaHG12
import Derived.BigQuiet
import Derived.Test.YtglbcfkmaamhaaaHG0
set_option linter.unusedVariables false
set_option linter.unusedSimpArgs false
set_option maxHeartbeats 16000000
set_option maxRecDepth 100000
namespace Go.Proofs.Ytglbcfkmaamhaaa.Tr
open Go Go.RowKit Go.Proofs.YtglbcfkmaamhaaaW.PrintWords Go.Proofs.Ytglbcfkmaamhaaa.Hv Go.Proofs.Ytglbcfkmaamhaaa.Arm Go.Proofs.Ytglbcfkmaamhaaa.Nd Go.Proofs.Ytglbcfkmaamhaaa.ArN
section
attribute [local irreducible] bl
variable {N : Nat}
structure DP (N m : Nat) (t t' : Tm) (h : Nat) (r : Rf) (lo hi : ByteArray) (ns : List Rf) (its' : List It) (V : Int) (G ns' : List Rf) : Prop where
 wf : t'.Wf N
 room : t'.p.room = t.p.room
 root : t'.root = t.root
 gone : t'.gone = t.gone ++ G
 rep : Rep t'.map h r lo hi ns' its'
 perm : (ns' ++ G).Perm ns
 off : ∀ x, x ∉ ns → t'.map x = t.map x
 has : ∀ x ∈ G, t'.map x ≠ none
 small : ∀ x ∈ ns', Small t' x
 ver : ∀ x ∈ ns', Ver t' (V + 2) x
 verR : Ver t' (V + 1) r
 bd : Bd t' m
theorem DP.join {m : Nat} {t t1 t2 : Tm} {h : Nat} {r x0 x1 : Rf} {lo hi : ByteArray} {ns nsS ns' G : List Rf} {its : List It} {V : Int} (d : DP N m t t1 h r lo hi ns its V G nsS) (j : JP N m t1 t2 h r x0 x1 lo hi nsS ns' its) (hnd : ns.Nodup) (h0 : Ver t1 (V + 1) x0) (hr : 0 ≤ (t1.at r).ver ∧ (t1.at r).ver ≤ V) (hV2 : V ≤ 4611686018427387000) : DP N m t t2 h r lo hi ns its V (G ++ [x1]) ns' := by
 have hw0 := wrap_up (v := (t1.at x0).ver) h0.1 h0.2 (by omega)
 have hwr := wrap_up (v := (t1.at r).ver) hr.1 hr.2 (by omega)
 have hsub : ∀ x ∈ ns', x ∈ nsS := fun x hx => j.perm.mem_iff.1 (List.mem_append_left _ hx)
 have hsub2 : ∀ x ∈ nsS, x ∈ ns := fun x hx => d.perm.mem_iff.1 (List.mem_append_left _ hx)
 have hrS : r ∈ nsS := by
  obtain ⟨_, _, _, e⟩ := j.rep.head
  exact hsub r (by rw [e]; simp)
 have hndS : (nsS ++ G).Nodup := d.perm.nodup_iff.2 hnd
 have hrs := d.small r hrS
 unfold Small at hrs
 have hrr := j.rr
 refine ⟨j.wf, j.room.trans d.room, j.root.trans d.root, by rw [j.gone, d.gone, List.append_assoc], j.rep, ?_, fun x hx => ?_, fun x hx => ?_, fun x hx => ?_, fun x hx => ?_, ?_, j.bd⟩
 ·have p1 : (ns' ++ (G ++ [x1])).Perm ((ns' ++ [x1]) ++ G) := by
   rw [List.append_assoc]
   exact List.Perm.append_left _ List.perm_append_comm
  exact p1.trans ((j.perm.append_right G).trans d.perm)
 ·rw [j.off x (fun hm => hx (hsub2 x hm)), d.off x hx]
 ·rcases List.mem_append.1 hx with hx | hx
  ·rw [j.off x (fun hm => (List.nodup_append.1 hndS).2.2 x hm x hx rfl)]
   exact d.has x hx
  ·rw [List.mem_singleton.1 hx]
   exact j.has
 ·unfold Small
  by_cases e : x = r
  ·rw [e]; omega
  ·by_cases e2 : x = x0
   ·rw [e2]; exact j.xr
   ·rw [j.same x hx e e2]; exact d.small x (hsub x hx)
 ·unfold Ver
  by_cases e : x = r
  ·rw [e, j.rv, hwr]; omega
  ·by_cases e2 : x = x0
   ·have := h0; unfold Ver at this
    rw [e2, j.xv, hw0]; omega
   ·rw [j.same x hx e e2]; exact d.ver x (hsub x hx)
 ·unfold Ver
  rw [j.rv, hwr]; omega
theorem join_small {t : Tm} {up : Rf} {i : Int} (h : i < 0 ∨ ((t.at up).refs.length : Int) ≤ i + 1) : (t.join up i).2.2 = false := by
 unfold Tm.join
 rw [if_pos h]
theorem join_big {t : Tm} {up : Rf} {i : Nat} {x0 x1 : Rf} (h0 : (t.at up).refs[i]? = some x0) (h1 : (t.at up).refs[i + 1]? = some x1) (h : 4 < (t.at x0).refs.length + (t.at x1).refs.length) : (t.join up (i : Int)).2.2 = false := by
 have e0 : refI (t.at up) i = x0 := by unfold refI; rw [List.getD_eq_getElem?_getD, h0]; rfl
 have e1 : refI (t.at up) (i + 1) = x1 := by unfold refI; rw [List.getD_eq_getElem?_getD, h1]; rfl
 unfold Tm.join
 split
 ·rfl
 ·rw [Int.toNat_natCast, e0, e1, if_pos h]
theorem merge_fst {t t' : Tm} {up x x1 : Rf} {i : Int} (hi : idx x (t.at up).refs = i) (h : t.join up (i - 1) = (t', x1, true)) : t.merge up x = (t', x1, true) := by
 unfold Tm.merge
 simp only []
 rw [hi, h]
 rfl
theorem merge_snd {t : Tm} {up x : Rf} {i : Int} (hi : idx x (t.at up).refs = i) (h : (t.join up (i - 1)).2.2 = false) : t.merge up x = t.join up i := by
 unfold Tm.merge
 simp only []
 rw [hi, h]
 rfl
theorem Rep.del (t : Tm) (hw : t.Wf N) (key : ByteArray) (V : Int) (hV : 1 ≤ V) (hV2 : V ≤ 4611686018427387000) {m : Nat} (hb : Bd t m) (hm : 4 ≤ m) (hm2 : m ≤ 1000000) (hg : t.gone.length + N + 10 ≤ 1000000) :
  ∀ (h : Nat) (r : Rf) (lo hi : ByteArray) (ns : List Rf) (its : List It), Rep t.map h r lo hi ns its → ns.Nodup → (∀ x ∈ ns, Small t x) → (∀ x ∈ ns, Ver t V x) → bl key lo = false → blw key hi → ns.length ≤ N →
  ∀ (l : List (Rf × Nat)) (q : Rf) (tl : List Rf), Dn t key r l q → wayL l q = r :: tl → fnd key (t.at q).keys = true →
  ∃ t' G ns' b, DP N m t t' h r lo hi ns (delI key its) V G ns' ∧ ∀ (pre : List Rf) (p' : Tm × List Rf) (g0 : List Rf), (b = true → p' = (t', g0 ++ G)) → (b = false → Up1 (pre ++ r :: tl) pre.length (t', g0 ++ G) p') → Up1 (pre ++ r :: tl) (pre.length + tl.length) (t.set q ((t.at q).delete key).1, g0) p'
 | 0, r, lo, hi, ns, its, hr, hnd, hsm, hv, hlo, hhi, hnl, l, q, tl, hd, hway, hf => by
  obtain ⟨n, a, b, c, d, e, f, g⟩ := id hr
  have hat := Tm.map_at a
  rcases hd.inv with ⟨_, rfl, rfl⟩ | ⟨r', l2, h1, _⟩
  ·have htl : tl = [] := by simpa [wayL] using hway.symm
   subst htl
   rw [hat] at hf ⊢
   obtain ⟨p1, p2, p3, p4, p5⟩ := hr.delLeaf a hf
   obtain ⟨m1, m2, m3, m4, m5⟩ := Tm.mset (n := (n.delete key).1) hw a
   have hr1 : (t.set q (n.delete key).1).at q = (n.delete key).1 := Tm.map_at (by rw [m1]; exact upd_self _ _ _)
   have hqn : q ∈ ns := by rw [f]; simp
   have hvr := hv q hqn
   have hsq := hsm q hqn
   unfold Ver at hvr
   unfold Small at hsq
   rw [hat] at hvr hsq
   have hw1 := wrap_up hvr.1 hvr.2 (by omega)
   have hbq := hb.at q
   rw [hat] at hbq
   have hver : Ver (t.set q (n.delete key).1) (V + 1) q := by unfold Ver; rw [hr1, p4, hw1]; omega
   refine ⟨t.set q (n.delete key).1, [], ns, false, ⟨m2, m5, m3, by rw [m4, List.append_nil], by rw [m1]; exact p1, by rw [List.append_nil], fun x hx => ?_, fun x hx => by simp at hx, fun x hx => ?_, fun x hx => ?_, hver, hb.set q ⟨by omega, by omega⟩⟩, fun pre p' g0 h1 h2 => ?_⟩
   ·rw [m1]
    exact upd_ne (fun e => hx (by rw [e]; exact hqn))
   ·rw [f] at hx
    rw [List.mem_singleton.1 hx]
    unfold Small
    rw [hr1]; omega
   ·rw [f] at hx
    rw [List.mem_singleton.1 hx]
    have h1 := hver.1
    have h2 := hver.2
    exact ⟨h1, by omega⟩
   ·have := h2 rfl
    rw [List.append_nil] at this
    exact this
  ·rw [hat, b] at h1; cases h1
 | h + 1, r, lo, hi, ns, its, hr, hnd, hsm, hv, hlo, hhi, hnl, l, q, tl, hd, hway, hf => by
  obtain ⟨n, ns0, a, b, c, d⟩ := id hr
  have hat := Tm.map_at a
  have hsh := hr.shape a
  have hk := d.keys
  have hl := d.len
  rcases hd.inv with ⟨h1, _⟩ | ⟨r', l2, _, _, hk', hd', rfl⟩
  ·rw [hat, b] at h1; cases h1
  obtain ⟨tl', htl'⟩ := hd'.way
  have htl : tl = r' :: tl' := by
   have : wayL ((r, (t.at r).child key) :: l2) q = r :: wayL l2 q := rfl
   rw [this, htl'] at hway
   exact (List.cons.inj hway).2.symm
  subst htl
  obtain ⟨i, hie⟩ : ∃ i, plc key n.keys + (if fnd key n.keys then 1 else 0) = i := ⟨_, rfl⟩
  have hc : (t.at r).child key = i := by rw [hat]; unfold Nd.Nd.child; rw [b, hsh]; simpa using hie
  rw [hc, hat] at hk'
  obtain ⟨h1, h2, h3⟩ := child_facts hk.1 hie
  obtain ⟨A, B, n1, n2, n3, t1, t2, t3, e1, e2, e3, e4, e5, e6, e7, e8⟩ := d.focus (fun _ _ _ _ _ h => h.range) i 1 (Nat.le_refl _) (by omega)
  have hd1 : (n.refs.drop i).take 1 = [r'] := by
   rw [List.drop_eq_getElem_cons (by omega), (List.getElem?_eq_some_iff.1 hk').2]
   rfl
  rw [hd1] at e1
  have e1' : Rep t.map h r' A B n2 t2 := by
   cases e1 with
   | one e1 => exact e1
  have hA : bl key A = false := by
   rcases e4 with ⟨_, rfl⟩ | ⟨e4, e4', _⟩
   ·exact hlo
   ·exact h2 A e4 e4'
  have hB : blw key B := by
   rcases e5 with ⟨_, rfl⟩ | ⟨_, e5', _⟩
   ·exact hhi
   ·rw [Nat.add_sub_cancel] at e5'
    exact .inr (h3 B e5')
  have hsub : ∀ x ∈ n2, x ∈ ns := fun x hx => by rw [c, e2]; simp [hx]
  have hnd0 := hnd
  rw [c, e2] at hnd
  obtain ⟨hnr, hnd1⟩ := List.nodup_cons.1 hnd
  have hnd2 : n2.Nodup := (List.nodup_append.1 (List.nodup_append.1 hnd1).1).2.1
  have hn2l : n2.length ≤ N := by rw [c, e2] at hnl; simp only [List.length_cons, List.length_append] at hnl; omega
  obtain ⟨s, G1, ns2, b1, dp, cps⟩ := Rep.del t hw key V hV hV2 hb hm hm2 hg h r' A B n2 t2 e1' hnd2 (fun x hx => hsm x (hsub x hx)) (fun x hx => hv x (hsub x hx)) hA hB hn2l l2 q tl' hd' htl' hf
  have hdel : delI key its = t1 ++ delI key t2 ++ t3 := by
   rw [e3]
   refine delI_mid (fun y hy => bl_of_ble (e6 y hy) hA) (fun y hy => ?_)
   obtain ⟨hb1, hb2⟩ := e7 y hy
   exact bl_of_ble (hB.elim (fun e => absurd e hb1) id) hb2
  have hS : ∀ x ∈ ns, t.map x ≠ none := fun x hx => isS_of (hr.isS x hx)
  have hrns : r ∈ ns := by rw [c]; simp
  have hrn2 : r ∉ n2 := fun hm => hnr (by simp [hm])
  have hr's : r' ∈ n2 := by obtain ⟨_, _, _, e⟩ := e1'.head; rw [e]; simp
  have hn13 : ∀ x, x ∈ n1 ∨ x ∈ n3 → x ∈ ns ∧ x ∉ n2 ∧ x ≠ r := by
   intro x hx
   have hd1 := List.nodup_append.1 hnd1
   have hd2 := List.nodup_append.1 hd1.1
   refine ⟨by rw [c, e2]; rcases hx with hx | hx <;> simp [hx], fun hm => ?_, fun e => hnr (by rw [← e]; rcases hx with hx | hx <;> simp [hx])⟩
   rcases hx with hx | hx
   ·exact hd2.2.2 x hx x hm rfl
   ·exact hd1.2.2 x (by simp [hm]) x hx rfl
  have off : ∀ x, x ∈ n1 ∨ x ∈ n3 → s.map x = t.map x := fun x hx => dp.off x (hn13 x hx).2.1
  have offr : s.map r = t.map r := dp.off r hrn2
  have hmem2 : ∀ x ∈ ns2, x ∈ n2 := fun x hx => dp.perm.mem_iff.1 (List.mem_append_left _ hx)
  have hrest : ∀ x, x ∈ n1 ∨ x ∈ n3 → s.at x = t.at x := fun x hx => at_of (off x hx) (hS x (hn13 x hx).1)
  have hratr : s.at r = n := by rw [at_of offr (hS r hrns), hat]
  have hr'2 : r' ∈ ns2 := by obtain ⟨_, _, _, e⟩ := dp.rep.head; rw [e]; simp
  have hperm : ((r :: (n1 ++ ns2 ++ n3)) ++ G1).Perm ns := by
   rw [c, e2, List.cons_append]
   refine List.Perm.cons _ ?_
   have p1 : (n1 ++ ns2 ++ n3 ++ G1).Perm (n1 ++ (ns2 ++ G1) ++ n3) := by
    simp only [List.append_assoc]
    exact List.Perm.append_left _ (List.Perm.append_left _ List.perm_append_comm)
   exact p1.trans (List.Perm.append_right _ (List.Perm.append_left _ dp.perm))
  have hrow := e8 (Rep s.map h) [r'] [] ns2 (delI key t2) (fun r lo hi ns' its' hx hp => hp.frame (fun x hx' => off x (hx x hx'))) (.one dp.rep)
  have g1 : n.refs.take i ++ [r'] ++ n.refs.drop (i + 1) = n.refs := by
   rw [← hd1, List.append_assoc]
   conv => rhs; rw [← List.take_append_drop i n.refs, ← List.take_append_drop 1 (n.refs.drop i)]
   rw [List.drop_drop]
  have g2 : n.keys.take i ++ [] ++ n.keys.drop (i + 1 - 1) = n.keys := by
   rw [List.append_nil, Nat.add_sub_cancel, List.take_append_drop]
  rw [g1, g2, ← hdel] at hrow
  have hvr := hv r hrns
  unfold Ver at hvr
  rw [hat] at hvr
  have dpS : DP N m t s (h + 1) r lo hi ns (delI key its) V G1 (r :: (n1 ++ ns2 ++ n3)) := by
   refine ⟨dp.wf, dp.room, dp.root, dp.gone, ⟨n, n1 ++ ns2 ++ n3, offr.trans a, b, rfl, hrow⟩, hperm, fun x hx => dp.off x (fun hm => hx (hsub x hm)), dp.has, fun x hx => ?_, fun x hx => ?_, ?_, dp.bd⟩
   ·rcases List.mem_cons.1 hx with rfl | hx
    ·unfold Small; rw [hratr]; have := hsm x hrns; unfold Small at this; rw [hat] at this; exact this
    ·simp only [List.mem_append] at hx
     rcases hx with (hx | hx) | hx
     ·unfold Small; rw [hrest x (.inl hx)]; exact hsm x (hn13 x (.inl hx)).1
     ·exact dp.small x hx
     ·unfold Small; rw [hrest x (.inr hx)]; exact hsm x (hn13 x (.inr hx)).1
   ·rcases List.mem_cons.1 hx with rfl | hx
    ·unfold Ver; rw [hratr]; omega
    ·simp only [List.mem_append] at hx
     rcases hx with (hx | hx) | hx
     ·have := hv x (hn13 x (.inl hx)).1
      unfold Ver at this ⊢
      rw [hrest x (.inl hx)]; omega
     ·exact dp.ver x hx
     ·have := hv x (hn13 x (.inr hx)).1
      unfold Ver at this ⊢
      rw [hrest x (.inr hx)]; omega
   ·unfold Ver; rw [hratr]; omega
  have hndS : (r :: (n1 ++ ns2 ++ n3)).Nodup := (List.nodup_append.1 (hperm.nodup_iff.2 hnd0)).1
  have cps1 : ∀ (pre : List Rf) (p' : Tm × List Rf) (g0 : List Rf), (b1 = true → p' = (s, g0 ++ G1)) → (b1 = false → Up1 (pre ++ r :: r' :: tl') (pre.length + 1) (s, g0 ++ G1) p') → Up1 (pre ++ r :: r' :: tl') (pre.length + (r' :: tl').length) (t.set q ((t.at q).delete key).1, g0) p' := fun pre p' g0 k1 k2 => by
   have := cps (pre ++ [r]) p' g0 k1 (fun e => by
    have := k2 e
    simpa [List.append_assoc] using this)
   have e1 : (pre ++ [r]) ++ r' :: tl' = pre ++ r :: r' :: tl' := by simp
   have e2 : (pre ++ [r]).length + tl'.length = pre.length + (r' :: tl').length := by simp only [List.length_append, List.length_cons, List.length_nil]; omega
   rw [e1, e2] at this
   exact this
  have gA : ∀ pre : List Rf, (pre ++ r :: r' :: tl').getD pre.length (0, 0) = r := fun pre => by simp [List.getD_eq_getElem?_getD]
  have gB : ∀ pre : List Rf, (pre ++ r :: r' :: tl').getD (pre.length + 1) (0, 0) = r' := fun pre => by simp [List.getD_eq_getElem?_getD]
  cases hb1 : b1
  ·by_cases hsz : (s.at r').refs.length < 2
   ·have hil : i < n.refs.length := (List.getElem?_eq_some_iff.1 hk').1
    have hrl := hsm r hrns
    unfold Small at hrl
    rw [hat] at hrl
    have hGl : G1.length ≤ N := by
     have := dp.perm.length_eq
     rw [List.length_append] at this
     omega
    have ho : JOk s r := ⟨by rw [hratr]; exact ⟨by omega, by omega, hk.1⟩, by rw [hratr]; exact hl, dp.bd.mono hm2, by rw [dp.gone, List.length_append]; omega⟩
    have hrefs : n.refs.Nodup := (List.nodup_cons.1 (by rw [c] at hnd0; exact hnd0)).2.sublist (d.heads (fun r lo hi ns its hp => by obtain ⟨_, ns', _, e⟩ := hp.head; exact ⟨ns', e⟩))
    have hidx : idx r' (s.at r).refs = (i : Int) := by
     rw [hratr]
     have hF : idxF r' n.refs = i := idxF_hit hk' (fun j x hj hx e => by
      subst e
      have := (List.getElem?_inj (List.getElem?_eq_some_iff.1 hx).1 hrefs).1 (hx.trans hk'.symm)
      omega)
     unfold idx
     rw [hF, if_pos (by omega)]
    -- what a join gives
    have fin : ∀ (x0 x1 : Rf) (t2 : Tm) (ns' : List Rf), s.merge r r' = (t2, x1, true) → JP N m s t2 (h + 1) r x0 x1 lo hi (r :: (n1 ++ ns2 ++ n3)) ns' (delI key its) → Ver s (V + 1) x0 → ∃ t' G ns' b, DP N m t t' (h + 1) r lo hi ns (delI key its) V G ns' ∧ ∀ (pre : List Rf) (p' : Tm × List Rf) (g0 : List Rf), (b = true → p' = (t', g0 ++ G)) → (b = false → Up1 (pre ++ r :: r' :: tl') pre.length (t', g0 ++ G) p') → Up1 (pre ++ r :: r' :: tl') (pre.length + (r' :: tl').length) (t.set q ((t.at q).delete key).1, g0) p' := fun x0 x1 t2 ns' hmg jp hv0 => by
     refine ⟨t2, G1 ++ [x1], ns', false, dpS.join jp hnd0 hv0 (by rw [hratr]; exact hvr) hV2, fun pre p' g0 k1 k2 => cps1 pre p' g0 (fun e => by rw [hb1] at e; cases e) (fun _ => ?_)⟩
     refine Up1.yes pre.length _ _ (by rw [gB]; exact hsz) (by rw [gA]; exact ho) (by rw [gA, gB]; simp only []; rw [hmg]) ?_
     rw [gA, gB]
     simp only []
     rw [hmg]
     have := k2 rfl
     rw [← List.append_assoc] at this
     exact this
    have hR := e8 (fun x _ _ _ _ => x = r' ∨ x ∈ n1 ∨ x ∈ n3) [r'] [] [] [] (fun x lo hi ns' its' hx hp => by obtain ⟨_, _, _, e⟩ := hp.head; exact .inr (hx x (by rw [e]; simp))) (.one (.inl rfl))
    rw [g1, g2] at hR
    have sib : ∀ (j : Nat) (x : Rf), j ≠ i → n.refs[j]? = some x → Ver s (V + 1) x := fun j x hj hx => by
     have hxr : x ≠ r' := fun e => by
      subst e
      have := (List.getElem?_inj (List.getElem?_eq_some_iff.1 hx).1 hrefs).1 (hx.trans hk'.symm)
      omega
     obtain ⟨_, _, _, _, h13, _⟩ := hR.each x (List.mem_of_getElem? hx)
     have h13 : x ∈ n1 ∨ x ∈ n3 := h13.resolve_left hxr
     have := hv x (hn13 x h13).1
     unfold Ver at this ⊢
     rw [hrest x h13]; omega
    have nof : (s.merge r r').2.2 = false → ∃ t' G ns' b, DP N m t t' (h + 1) r lo hi ns (delI key its) V G ns' ∧ ∀ (pre : List Rf) (p' : Tm × List Rf) (g0 : List Rf), (b = true → p' = (t', g0 ++ G)) → (b = false → Up1 (pre ++ r :: r' :: tl') pre.length (t', g0 ++ G) p') → Up1 (pre ++ r :: r' :: tl') (pre.length + (r' :: tl').length) (t.set q ((t.at q).delete key).1, g0) p' := fun hno => by
     refine ⟨s, G1, _, true, dpS, fun pre p' g0 k1 k2 => cps1 pre p' g0 (fun e => by rw [hb1] at e; cases e) (fun _ => ?_)⟩
     rw [k1 rfl]
     exact Up1.no _ _ (by rw [gB]; exact hsz) (by rw [gA]; exact ho) (by rw [gA, gB]; exact hno)
    have first : (∃ x0 t2 ns', s.join r ((i : Int) - 1) = (t2, r', true) ∧ JP N m s t2 (h + 1) r x0 r' lo hi (r :: (n1 ++ ns2 ++ n3)) ns' (delI key its) ∧ Ver s (V + 1) x0) ∨ (s.join r ((i : Int) - 1)).2.2 = false := by
     by_cases hi0 : i = 0
     ·exact .inr (join_small (.inl (by omega)))
     ·obtain ⟨j, hj⟩ : ∃ j, i = j + 1 := ⟨i - 1, by omega⟩
      obtain ⟨x0, hx0⟩ : ∃ x0, n.refs[j]? = some x0 := ⟨_, List.getElem?_eq_getElem (by omega)⟩
      have hk2 : n.refs[j + 1]? = some r' := by rw [← hj]; exact hk'
      rw [show (i : Int) - 1 = (j : Int) by omega]
      by_cases hs4 : (s.at x0).refs.length + (s.at r').refs.length ≤ 4
      ·obtain ⟨t2, ns', k1, k2⟩ := dpS.rep.joinStep dpS.wf hndS (i := j) (by rw [hratr]; exact hx0) (by rw [hratr]; exact hk2) hs4 dpS.bd hm
       exact .inl ⟨x0, t2, ns', k1, k2, sib j x0 (by omega) hx0⟩
      ·exact .inr (join_big (by rw [hratr]; exact hx0) (by rw [hratr]; exact hk2) (by omega))
    rcases first with ⟨x0, t2, ns', k1, k2, k3⟩ | first
    ·exact fin x0 r' t2 ns' (merge_fst hidx k1) k2 k3
    ·have hmg := merge_snd hidx first
     by_cases hlast : i + 1 < n.refs.length
     ·obtain ⟨x1, hx1⟩ : ∃ x1, n.refs[i + 1]? = some x1 := ⟨_, List.getElem?_eq_getElem hlast⟩
      by_cases hs4 : (s.at r').refs.length + (s.at x1).refs.length ≤ 4
      ·obtain ⟨t2, ns', k1, k2⟩ := dpS.rep.joinStep dpS.wf hndS (i := i) (by rw [hratr]; exact hk') (by rw [hratr]; exact hx1) hs4 dpS.bd hm
       exact fin r' x1 t2 ns' (hmg.trans k1) k2 dp.verR
      ·exact nof (by rw [hmg]; exact join_big (by rw [hratr]; exact hk') (by rw [hratr]; exact hx1) (by omega))
     ·exact nof (by rw [hmg]; exact join_small (.inr (by rw [hratr]; omega)))
   ·refine ⟨s, G1, _, true, dpS, fun pre p' g0 k1 k2 => cps1 pre p' g0 (fun e => by rw [hb1] at e; cases e) (fun _ => ?_)⟩
    rw [k1 rfl]
    exact Up1.big _ _ (by rw [gB]; exact hsz)
  ·exact ⟨s, G1, _, true, dpS, fun pre p' g0 k1 k2 => cps1 pre p' g0 (fun _ => k1 rfl) (fun e => by rw [hb1] at e; cases e)⟩
end
section
attribute [local irreducible] bl
variable {N : Nat}
structure SP (N m : Nat) (t : Tm) (h : Nat) (ns : List Rf) (its : List It) (V : Int) (G g0 ns0 : List Rf) (R : Int) : Prop where
 wf : t.Wf N
 rep : Rep t.map h t.root ⟨#[]⟩ ⟨#[]⟩ ns its
 small : ∀ x ∈ ns, Small t x
 ver : ∀ x ∈ ns, Ver t V x
 perm : (ns ++ G).Perm ns0
 has : ∀ x ∈ G, t.map x ≠ none
 gone : t.gone = g0 ++ G
 room : t.p.room = R
 bd : Bd t m
theorem SP.sink {m : Nat} {V : Int} {g0 ns0 : List Rf} {R : Int} (hnd : ns0.Nodup) (hg : g0.length + ns0.length < 1000000) : ∀ (h : Nat) (t : Tm) (ns : List Rf) (its : List It) (G : List Rf), SP N m t h ns its V G g0 ns0 R → ∃ k p2 h' ns', Up2 k (t, G) p2 ∧ SP N m p2.1 h' ns' its V p2.2 g0 ns0 R ∧ h' ≤ h
 | 0, t, ns, its, G, sp => by
  obtain ⟨n, a, b, _⟩ := id sp.rep
  exact ⟨0, (t, G), 0, ns, Up2.stop 0 _ (.inl (by simp only []; rw [Tm.map_at a]; exact b)), sp, Nat.le_refl _⟩
 | h + 1, t, ns, its, G, sp => by
  obtain ⟨n, ns1, a, b, c, d⟩ := id sp.rep
  have hat := Tm.map_at a
  by_cases h1 : n.refs.length = 1
  ·obtain ⟨x, hx⟩ : ∃ x, n.refs = [x] := List.length_eq_one_iff.1 h1
   have hl := d.len
   have hk : n.keys = [] := List.eq_nil_of_length_eq_zero (by omega)
   rw [hx, hk] at d
   have d' : Rep t.map h x ⟨#[]⟩ ⟨#[]⟩ ns1 its := by
    cases d with
    | one d => exact d
   have hndG : (ns ++ G).Nodup := sp.perm.nodup_iff.2 hnd
   have hnd1 := (List.nodup_append.1 hndG).1
   rw [c] at hnd1
   obtain ⟨hr1, hnd2⟩ := List.nodup_cons.1 hnd1
   obtain ⟨m1, m2, m3, m4, m5⟩ := Tm.mset (n := up1 (t.at t.root)) sp.wf a
   have hsm : t.sink.map = upd t.map t.root (up1 (t.at t.root)) := m1
   have hsr : t.sink.root = x := by
    show refI (t.at t.root) 0 = x
    unfold refI
    rw [hat, hx]
    rfl
   have hsg : t.sink.gone = t.gone ++ [t.root] := rfl
   have hne : ∀ y ∈ ns1, y ≠ t.root := fun y hy e => hr1 (by rw [← e]; exact hy)
   have hat1 : ∀ y ∈ ns1, t.sink.at y = t.at y := fun y hy => at_of (by rw [hsm, upd_ne (hne y hy)]) (isS_of (d'.isS y hy))
   have sp' : SP N m t.sink h ns1 its V (G ++ [t.root]) g0 ns0 R := by
    refine ⟨m2, by rw [hsr]; exact d'.frame (fun y hy => by rw [hsm, upd_ne (hne y hy)]), fun y hy => ?_, fun y hy => ?_, ?_, fun y hy => ?_, by rw [hsg, sp.gone, List.append_assoc], m5.trans sp.room, ?_⟩
    ·unfold Small; rw [hat1 y hy]; exact sp.small y (by rw [c]; exact List.mem_cons_of_mem _ hy)
    ·unfold Ver; rw [hat1 y hy]; exact sp.ver y (by rw [c]; exact List.mem_cons_of_mem _ hy)
    ·refine List.Perm.trans ?_ sp.perm
     rw [c, ← List.append_assoc]
     exact List.perm_append_comm
    ·rw [hsm]
     by_cases e : y = t.root
     ·rw [e, upd_self]; simp
     ·rw [upd_ne e]
      rcases List.mem_append.1 hy with hy | hy
      ·exact sp.has y hy
      ·exact absurd (List.mem_singleton.1 hy) e
    ·show Bd (t.set t.root (up1 (t.at t.root))) m
     exact sp.bd.set t.root (sp.bd.at t.root)
   obtain ⟨k, p2, h', ns', u1, u2, u3⟩ := SP.sink hnd hg h t.sink ns1 its (G ++ [t.root]) sp'
   have hlen := sp.perm.length_eq
   rw [List.length_append] at hlen
   refine ⟨k + 1, p2, h', ns', Up2.step k _ _ (by simp only []; rw [hat]; exact b) (by simp only []; rw [hat]; exact h1) (by simp only []; rw [sp.gone, List.length_append]; omega) u1, u2, by omega⟩
  ·exact ⟨0, (t, G), h + 1, ns, Up2.stop 0 _ (.inr (by simp only []; rw [hat]; exact h1)), sp, Nat.le_refl _⟩
variable {t : Tm} {h : Nat} {ns : List Rf} {its : List It} {V : Int}
theorem Inv.del (iv : Inv t N h ns its V) (hV : 1 ≤ V) (hV2 : V ≤ 4611686018427387000) {m : Nat} (hb : Bd t m) (hm : 4 ≤ m) (hm2 : m ≤ 1000000) (hN : t.gone.length + N + 10 ≤ 900000) (key : ByteArray) {l : List (Rf × Nat)} {q : Rf} (hd : Dn t key t.root l q) (hf : fnd key (t.at q).keys = true) :
  ∃ p1 p2 k2 h' ns', Up1 (wayL l q) l.length (t.set q ((t.at q).delete key).1, []) p1 ∧ Up2 k2 p1 p2 ∧ Inv p2.1 N h' ns' (delI key its) (V + 2) ∧ p2.1.gone = t.gone ++ p2.2 ∧ (ns' ++ p2.2).Perm ns ∧ (∀ x ∈ p2.2, p2.1.map x ≠ none) ∧ Bd p2.1 m ∧ h' ≤ h := by
 obtain ⟨tl, htl⟩ := hd.way
 have hlen := iv.len
 obtain ⟨t1, G, ns1, b, dp, cps⟩ := Rep.del t iv.wf key V hV hV2 hb hm hm2 (by omega) h t.root ⟨#[]⟩ ⟨#[]⟩ ns its iv.rep iv.nod iv.sm iv.ver (bl_nil key) (.inl rfl) (by omega) l q tl hd htl hf
 have hll : l.length = tl.length := by
  have := congrArg List.length htl
  simp [wayL] at this
  exact this
 have hu1 := cps [] (t1, G) [] (fun _ => rfl) (fun _ => Up1.top _)
 simp only [List.nil_append, List.length_nil, Nat.zero_add] at hu1
 have sp : SP N m t1 h ns1 (delI key its) (V + 2) G t.gone ns t.p.room := ⟨dp.wf, by rw [dp.root]; exact dp.rep, dp.small, dp.ver, dp.perm, dp.has, dp.gone, dp.room, dp.bd⟩
 obtain ⟨k, p2, h', ns', u1, u2, u3⟩ := SP.sink iv.nod (by omega) h t1 ns1 _ G sp
 refine ⟨(t1, G), p2, k, h', ns', by rw [htl, hll]; exact hu1, u1, ⟨u2.wf, u2.rep, (List.nodup_append.1 (u2.perm.nodup_iff.2 iv.nod)).1, u2.small, u2.ver, ?_⟩, u2.gone, u2.perm, u2.has, u2.bd, u3⟩
 have e1 := u2.perm.length_eq
 rw [List.length_append] at e1
 rw [u2.room, iv.cnt, u2.gone, List.length_append]
 omega
theorem has_drop {s : Ar} {i q : Int} (h : s.has i q = true) (z : List Value) (j g : Int) : (s.drop i z).has j g = if j = i then false else s.has j g := by
 obtain ⟨h1, h2, h3, h4⟩ := Ar.has_lt h
 have hn : (s.drop i z).n = s.n := by simp [Ar.n, Ar.drop]
 have hs : (s.drop i z).slot j = if j.toNat = i.toNat then ⟨z, (s.slot i).gen, false⟩ else s.slot j := by
  rw [Ar.drop, slot_set _ _ _ _ _ _ (by omega)]
 unfold Ar.has
 rw [hn, hs]
 by_cases e : j = i
 ·rw [if_pos e, if_pos (by rw [e])]
  simp
 ·rw [if_neg e]
  by_cases e2 : j.toNat = i.toNat
  ·have : ¬ (0 ≤ j ∧ j < (s.n : Int)) := by omega
   simp [this]
  ·rw [if_neg e2]
theorem Tm.map_free {r : Rf} {n0 : Nd.Nd} (hw : t.Wf N) (h : t.map r = some n0) : (∀ x, x ≠ r → (t.freeN r).map x = t.map x) ∧ (t.freeN r).Wf N ∧ (t.freeN r).root = t.root ∧ (t.freeN r).gone = t.gone ∧ (t.freeN r).p.room = t.p.room + 1 := by
 have hh := Tm.map_has h
 have hh' : t.p.has r.1 r.2 = true := hh
 obtain ⟨h1, h2, h3, h4⟩ := Ar.has_lt hh'
 obtain ⟨w1, w2, w3⟩ := hw
 have e : t.freeN r = { t with p := t.p.drop r.1 [], ns := t.ns.set r.1.toNat nd0 } := by unfold Tm.freeN; rw [if_pos hh]
 have hhas : ∀ x, (t.freeN r).has x = if x.1 = r.1 then false else t.has x := fun x => by rw [e]; exact has_drop hh' [] x.1 x.2
 have hns : (t.freeN r).ns = t.ns.set r.1.toNat nd0 := by rw [e]
 have hn : (t.p.drop r.1 []).n = t.p.n := by simp [Ar.n, Ar.drop]
 have hheld := Ar.held_drop hh' []
 refine ⟨fun x ex => ?_, ⟨by rw [e]; exact w1.drop hh' rfl trivial, by rw [hns, List.length_set, w2], by rw [e, ← w3]; exact hn⟩, by rw [e], by rw [e], by rw [e]; simp only [Ar.room, hn]; omega⟩
 unfold Tm.map
 rw [hhas]
 by_cases e1 : x.1 = r.1
 ·rw [if_pos e1]
  cases hx : t.has x
  ·rfl
  ·obtain ⟨k1, k2, k3, k4⟩ := Ar.has_lt (show t.p.has x.1 x.2 = true from hx)
   exact absurd (Prod.ext e1 (by rw [← k4, ← h4, e1])) ex
 ·rw [if_neg e1]
  cases hx : t.has x
  ·rfl
  ·obtain ⟨k1, k2, k3, k4⟩ := Ar.has_lt (show t.p.has x.1 x.2 = true from hx)
   have hxh : (t.freeN r).has x = true := by rw [hhas, if_neg e1]; exact hx
   rw [if_pos rfl, if_pos rfl, Tm.at_ns hxh, Tm.at_ns hx, hns, List.getD_eq_getElem?_getD, List.getElem?_set_ne (by omega), ← List.getD_eq_getElem?_getD]
structure FI (t : Tm) (N h : Nat) (ns : List Rf) (its : List It) (V : Int) (m : Nat) (G : List Rf) : Prop where
 iv : Inv t N h ns its V
 gone : t.gone = G
 nod : (ns ++ G).Nodup
 has : ∀ x ∈ G, t.map x ≠ none
 bd : Bd t m
theorem FI.free {m : Nat} {g : Rf} {G : List Rf} (f : FI t N h ns its V m (g :: G)) : (t.free g).2 = true ∧ FI (t.free g).1 N h ns its V m G := by
 have hmg := f.has g (by simp)
 obtain ⟨n0, hn0⟩ := Option.ne_none_iff_exists'.1 hmg
 obtain ⟨T, hT⟩ : ∃ T : Tm, ({ t with gone := G } : Tm) = T := ⟨_, rfl⟩
 have hTm : T.map = t.map := by rw [← hT]; rfl
 have hTw : T.Wf N := by rw [← hT]; exact f.iv.wf
 have hTr : T.root = t.root := by rw [← hT]
 have hTg : T.gone = G := by rw [← hT]
 have hTp : T.p = t.p := by rw [← hT]
 have hTn : T.ns = t.ns := by rw [← hT]
 have e : t.free g = (T.freeN g, true) := by
  unfold Tm.free
  rw [f.gone]
  have h0 : idxF g (g :: G) = 0 := by simp [idxF]
  rw [h0, if_pos (by simp), List.eraseIdx_cons_zero, hT, Tm.map_has hn0]
 obtain ⟨a1, a2, a3, a4, a5⟩ := Tm.map_free hTw (by rw [hTm]; exact hn0)
 have hne : ∀ x ∈ ns, x ≠ g := fun x hx e => (List.nodup_append.1 f.nod).2.2 x hx g (by simp) e
 have hmap : ∀ x, x ≠ g → (T.freeN g).map x = t.map x := fun x hx => by rw [a1 x hx, hTm]
 have hat : ∀ x ∈ ns, (T.freeN g).at x = t.at x := fun x hx => at_of (hmap x (hne x hx)) (isS_of (f.iv.rep.isS x hx))
 obtain ⟨q1, q2, q3⟩ := List.nodup_append.1 f.nod
 obtain ⟨q4, q5⟩ := List.nodup_cons.1 q2
 rw [e]
 refine ⟨rfl, ⟨⟨a2, ?_, f.iv.nod, fun x hx => ?_, fun x hx => ?_, ?_⟩, by simp only []; rw [a4, hTg], List.nodup_append.2 ⟨q1, q5, fun x hx y hy => q3 x hx y (List.mem_cons_of_mem _ hy)⟩, fun x hx => ?_, ?_⟩⟩
 ·simp only []
  rw [a3, hTr]
  exact f.iv.rep.frame (fun x hx => hmap x (hne x hx))
 ·simp only []; unfold Small; rw [hat x hx]; exact f.iv.sm x hx
 ·simp only []; unfold Ver; rw [hat x hx]; exact f.iv.ver x hx
 ·simp only []
  have := f.iv.cnt
  rw [f.gone, List.length_cons] at this
  rw [a5, hTp, a4, hTg, this]
  omega
 ·simp only []
  rw [hmap x (fun e => q4 (by rw [← e]; exact hx))]
  exact f.has x (List.mem_cons_of_mem _ hx)
 ·simp only []
  have hb : Bd T m := fun n hn => f.bd n (by rw [← hTn]; exact hn)
  unfold Tm.freeN
  split
  ·intro x hx
   rcases List.mem_or_eq_of_mem_set hx with hx | rfl
   ·exact hb x hx
   ·exact ⟨Nat.zero_le _, Nat.zero_le _⟩
  ·exact hb
end
end Go.Proofs.Ytglbcfkmaamhaaa.Tr
namespace Go.Proofs.Ytglbcfkmaamhaaa.Tr
open Go Go.RowKit Go.Proofs.YtglbcfkmaamhaaaW.PrintWords Go.Proofs.YtglbcfkmaamhaaaW.PrintLast Go.Proofs.YtglbcfkmaamhaaaW.PrintMore Go.Proofs.Ytglbcfkmaamhaaa.Hv Go.Proofs.Ytglbcfkmaamhaaa.Arm Go.Proofs.Ytglbcfkmaamhaaa.Nd Go.Proofs.Ytglbcfkmaamhaaa.ArN
section
variable {w0 w w1 : World} {L L' R : List Ob} {K : Nat × Nat × Nat} {t : Tm} {on : Value}
theorem icelT_at : ∀ (l : List It) (k j : Nat) (x : It) (u : Value), l[k]? = some x → (icel x)[j]? = some u → (l.flatMap icel)[k * 3 + j]? = some u
 | [], k, j, x, u, h, _ => by simp at h
 | a :: l, 0, j, x, u, h, hu => by
  have e : a = x := by simpa using h
  subst e
  have hj := (List.getElem?_eq_some_iff.1 hu).1
  rw [List.flatMap_cons, Nat.zero_mul, Nat.zero_add, List.getElem?_append_left hj]
  exact hu
 | a :: l, k + 1, j, x, u, h, hu => by
  have h1 := icelT_at l k j x u (by simpa using h) hu
  rw [List.flatMap_cons, List.getElem?_append_right (by simp [icel]; omega), show (k + 1) * 3 + j - (icel a).length = k * 3 + j by simp [icel]; omega]
  exact h1
theorem icellsT {l : List It} {a : Addr} {k : Nat} {x : It} (h : Rd 3 w (some a) l.length (l.flatMap icel)) (hx : l[k]? = some x) : w.cell? (a.add (k * 3)) = some (.string x.1) ∧ w.cell? { block := (a.add (k * 3)).block, off := (a.add (k * 3)).off + 1 } = some (.int .i64 x.2.1) ∧ w.cell? { block := (a.add (k * 3)).block, off := (a.add (k * 3)).off + 2 } = some (.int .i64 x.2.2) := by
 have hk := (List.getElem?_eq_some_iff.1 hx).1
 obtain ⟨b, e, hc⟩ := h.2 (by omega)
 cases e
 have z0 := hc (k * 3) _ (icelT_at l k 0 x (.string x.1) hx rfl)
 have z1 := hc (k * 3 + 1) _ (icelT_at l k 1 x (.int .i64 x.2.1) hx rfl)
 have z2 := hc (k * 3 + 2) _ (icelT_at l k 2 x (.int .i64 x.2.2) hx rfl)
 rw [← Addr.add_add] at z1 z2
 exact ⟨z0, z1, z2⟩
abbrev Dd := Int × ByteArray × Rf × (Rf × Int)
def dcel (z : Dd) : List Value := [.int .i64 z.1, .string z.2.1, .int .i64 z.2.2.1.1, .int .i64 z.2.2.1.2, .int .i64 z.2.2.2.1.1, .int .i64 z.2.2.2.1.2, .int .i64 z.2.2.2.2]
def DRow (w : World) (ad : Option Addr) (l : List Dd) : Prop := ∀ k d, l[k]? = some d → ∃ a, ad = some a ∧ ∀ j u, (dcel d)[j]? = some u → w.cell? (a.add (k * 7 + j)) = some u
theorem DRow.below {ad : Option Addr} {l : List Dd} (h : DRow w ad l) (hb : Below w.heap.size w w1) : DRow w1 ad l := fun k d hk => by
 obtain ⟨a, e, h2⟩ := h k d hk
 exact ⟨a, e, fun j u hu => pw_cell_below hb (h2 j u hu)⟩
def FewP (w : World) (l : List Dd) (e : Ending) (w' : World) : Prop := ∃ b : Bool, e = .returned (.bool b) ∧ (b = true → l.length ≤ 120) ∧ Below w.heap.size w w'
theorem few.calls (w : World) (l : List Dd) {ad : Option Addr} {c : Nat} (hl : l.length ≤ 9223372036854775807) (hR : DRow w ad l) : Calls Try.prog 56 #[.slice ad l.length c] w (FewP w l) := by
 have hu77 := Try.underlying77
 have hu87 := Try.underlying87
 have hu9 := Try.underlying9
 have HR := As hR
 clear hR
 by_cases hbig : 120 < l.length
 ·have hb : ((l.length : Int) > 120) := by omega
  go_enter Try.func56, Try.ntmps56
  go_wp2_with fail
  exact bodyPost_ret (v := .bool false) (by simp [results, Try.results56, go_sem]) rfl ⟨false, rfl, by simp, Below.refl _ _⟩
 ·have hb : ¬ ((l.length : Int) > 120) := by omega
  have hl60 : l.length ≤ 120 := by omega
  have HL := As hl60
  clear hbig hl hl60
  go_enter Try.func56, Try.ntmps56
  go_wp2_with fail
  go_loopg [3] l.length (fun kq v3 wr => ∃ (k : Nat), v3 = .int .i64 (k : Int) ∧ kq = l.length - k ∧ k ≤ l.length ∧ wr = w)
  case atStart => exact ⟨0, rfl, rfl, Nat.zero_le _, rfl⟩
  case round =>
   obtain ⟨k, rfl, rfl, hk, rfl⟩ := hrel
   by_cases hltn : k < l.length
   ·have hlt' : (k : Int) < (l.length : Int) := by omega
    obtain ⟨d, hd⟩ : ∃ d, l[k]? = some d := ⟨_, List.getElem?_eq_getElem hltn⟩
    obtain ⟨a, rfl, hcl⟩ := HR.out k d hd
    have z1 := hcl 1 (.string d.2.1) rfl
    rw [add_next _ _ _ (by omega)] at z1
    clear hcl hd
    obtain ⟨kd, k0, r, sn⟩ := d
    simp only at z1
    have hk7 : k ≤ 120 := by have := HL.out; omega
    by_cases g2 : 500 < k0.size
    ·have g2' : ((k0.size : Int) > 500) := by omega
     go_wp2_with fail
     exact bodyPost_ret (v := .bool false) (by simp [results, Try.results56, go_sem]) rfl ⟨false, rfl, by simp, Below.refl _ _⟩
    ·have g2' : ¬ ((k0.size : Int) > 500) := by omega
     go_wp2_with fail
     go_roundg (l.length - (k + 1))
     case measure => omega
     case rel => exact ⟨k + 1, by go_num, rfl, hltn, rfl⟩
   ·have hge : ¬ (k : Int) < (l.length : Int) := by omega
    go_wp2_with fail
    exact bodyPost_ret (v := .bool true) (by simp [results, Try.results56, go_sem]) rfl ⟨true, rfl, fun _ => HL.out, Below.refl _ _⟩
theorem tl_inj {a b : ByteArray} (h : a.toList = b.toList) : a = b := by
 rw [Lib.toList_data, Lib.toList_data] at h
 cases a; cases b
 simp only [ByteArray.mk.injEq]
 exact Array.toList_inj.1 h
theorem delI_snoc (key : ByteArray) (p : List It) (x : It) : delI key (p ++ [x]) = delI key p ++ (if x.1 = key then [] else [x]) := by
 unfold delI
 rw [List.filter_append]
 by_cases h : x.1 = key <;> simp [h]
theorem delI_len (key : ByteArray) (l : List It) : (delI key l).length ≤ l.length := List.length_filter_le _ _
def LessP (w0 : World) (L : List Ob) (l : List It) (b : Bool) (e : Ending) (w' : World) : Prop := ∃ ad c A, e = .returned (.tuple #[.slice ad l.length c, .bool b]) ∧ Gr 104 3 (.slice ad l.length c) l.length (l.flatMap icel) A ∧ Hv w0 w' (A ++ L)
theorem less.calls (hv : Hv w0 w L) (l : List It) (hl : l.length ≤ 100000) {a0 : Option Addr} {c0 : Nat} (hR : Rdy 3 w0 L a0 l.length (l.flatMap icel)) (key : ByteArray) : Calls Try.prog 63 #[.slice a0 l.length c0, .string key] w (LessP w0 L (delI key l) (decide ((delI key l).length < l.length))) := by
 have hu33 := Try.underlying33
 have hu89 := Try.underlying89
 have hu104 := Try.underlying104
 have HV := As hv
 have HR := As hR
 have HL := As hl
 clear hv hR hl
 go_enter Try.func63, Try.ntmps63
 go_wp2_with fail
 go_loopg [6, 7] l.length (fun kq v6 v7 wr => ∃ (k : Nat) (n : Nat) (ad : Option Addr) (c : Nat) (A : List Ob), v6 = .slice ad n c ∧ v7 = .int .i64 (k : Int) ∧ kq = l.length - k ∧ k ≤ l.length ∧ Aside0 (n = (delI key (l.take k)).length ∧ Gr 104 3 (.slice ad n c) n ((delI key (l.take k)).flatMap icel) A) ∧ Aside0 (Hv w0 wr (A ++ L)))
 case atStart => exact ⟨0, 0, none, 0, [], rfl, rfl, rfl, Nat.zero_le _, ⟨rfl, Gr.nil 104 3⟩, HV⟩
 case round =>
  obtain ⟨k, n, ad, c, A, rfl, rfl, rfl, hk, HG, HW⟩ := hrel
  clear HV
  have hk7 : k ≤ 100000 := by have := HL.out; omega
  by_cases hltn : k < l.length
  ·have hlt' : (k : Int) < (l.length : Int) := by omega
   have ew : IntKind.i64.wrap ((k : Int) + 1) = ((k + 1 : Nat) : Int) := by rw [IntKind.wrap_i64]; omega
   have ew' : wrap64 ((k : Int) + 1) = ((k + 1 : Nat) : Int) := by unfold wrap64; omega
   obtain ⟨x, hx⟩ : ∃ x, l[k]? = some x := ⟨_, List.getElem?_eq_getElem hltn⟩
   have hrd := HR.out.now HW.out.right
   obtain ⟨g1, ea, -⟩ := hrd.2 (by omega)
   cases ea
   obtain ⟨z0, z1, z2⟩ := icellsT hrd hx
   have htk : l.take (k + 1) = l.take k ++ [x] := by rw [List.take_succ_eq_append_getElem hltn, (List.getElem?_eq_some_iff.1 hx).2]
   have hdk := delI_snoc key (l.take k) x
   rw [← htk] at hdk
   have hnl := delI_len key (l.take k)
   rw [List.length_take] at hnl
   have hn7 : n ≤ 100000 := by have := HG.out.1; omega
   by_cases he : x.1 = key
   ·rw [if_pos he, List.append_nil] at hdk
    have HD := As hdk
    have hb1 : (x.1.toList == key.toList) = true := by rw [he]; simp
    clear hrd htk hdk hnl hx
    go_wp2_with fail
    go_roundg (l.length - (k + 1))
    case measure => omega
    case rel => exact ⟨k + 1, n, ad, c, A, rfl, by first | rfl | go_num, rfl, hltn, ⟨by rw [HD.out]; exact HG.out.1, by rw [HD.out]; exact HG.out.2⟩, HW⟩
   ·rw [if_neg he] at hdk
    have HD := As hdk
    have hb1 : (x.1.toList == key.toList) = false := beq_eq_false_iff_ne.2 (fun q => he (tl_inj q))
    have HG2 := As HG.out.2
    have HB := As (show (n + 1) * 32 ≤ 140737488355328 by omega)
    have h1 := HW.out.alloc (.cells #[.string x.1, .int .i64 x.2.1, .int .i64 x.2.2] 104)
    have HX := As (show Hv w0 (wr.alloc (.cells #[.string x.1, .int .i64 x.2.1, .int .i64 x.2.2] 104)) (A ++ (cb wr.heap.size 104 #[.string x.1, .int .i64 x.2.1, .int .i64 x.2.2] :: L)) from h1.perm List.perm_middle)
    have HN := As ((Rdy.of_rw (w0 := w0) (size := 3) (n := 1) (e := 104) (c := 1) (xs := icel x) (ad := some ⟨wr.heap.size, 0, none⟩) (L := A ++ (cb wr.heap.size 104 #[.string x.1, .int .i64 x.2.1, .int .i64 x.2.2] :: L)) ⟨rfl, Nat.le_refl _, fun _ => ⟨wr.heap.size, 0, #[.string x.1, .int .i64 x.2.1, .int .i64 x.2.2], rfl, by simp, fun i _ => by rw [Nat.zero_add]; simp [icel]⟩⟩).now HX.out)
    clear h1 hrd htk hdk hnl hx
    go_wp2_with ((with_reducible refine gate_builtin (b := .append) (xs := #[.tmp 21, .tmp 26]) rfl ?_); at_builtin; go_loud (refine append_rows (w0 := w0) (A := A) (L := cb wr.heap.size 104 #[.string x.1, .int .i64 x.2.1, .int .i64 x.2.2] :: L) rfl (.tmp 21) (.tmp 26) 89 104 (.agg #[.string ⟨#[]⟩, .int .i64 0, .int .i64 0]) 3 32 rfl Try.underlying89 infoI rfl (by decide) (by decide) (.slice ad n c) n ((delI key (l.take k)).flatMap icel) rfl (some ⟨wr.heap.size, 0, none⟩) 1 1 (icel x) rfl (by intro u hu; simp [icel] at hu; rcases hu with rfl | rfl | rfl <;> rfl) HG2.out HX.out HN.out HB.out ?_); intro v1 w5 A1 hG1 hv5; obtain ⟨ad1, c1, rfl, -⟩ := hG1.form; have HG1 := As hG1; have H5 := As (hv5.drop (L' := A1 ++ (L)) (List.Sublist.append_left (List.sublist_cons_self _ _) A1)); clear hG1 hv5)
    go_roundg (l.length - (k + 1))
    case measure => omega
    case rel => exact ⟨k + 1, n + 1, ad1, c1, A1, rfl, by first | rfl | go_num, rfl, hltn, ⟨by rw [HD.out, List.length_append, ← HG.out.1]; rfl, by rw [HD.out, List.flatMap_append]; simpa using HG1.out⟩, H5⟩
  ·have hge : ¬ (k : Int) < (l.length : Int) := by omega
   have hkk : k = l.length := by omega
   have HF := As (show n = (delI key l).length ∧ Gr 104 3 (.slice ad n c) n ((delI key l).flatMap icel) A by
    have := HG.out
    rw [hkk, List.take_length] at this
    exact this)
   clear hk7 hk hltn hkk
   have hnn := HF.out.1
   subst hnn
   have hd : decide (((delI key l).length : Int) < (l.length : Int)) = decide ((delI key l).length < l.length) := by
    by_cases h : (delI key l).length < l.length
    ·rw [decide_eq_true h, decide_eq_true (by omega)]
    ·rw [decide_eq_false h, decide_eq_false (by omega)]
   go_wp2_with fail
   exact bodyPost_ret (v := .tuple #[.slice ad (delI key l).length c, .bool (decide (((delI key l).length : Int) < (l.length : Int)))]) (by simp [results, Try.results63, go_sem]) rfl ⟨ad, c, A, by rw [hd], HF.out.2, HW.out⟩
def bigK (x : It) (p : List It) : Bool := p.any fun y => bl x.1 y.1
def outK (x : It) (p : List It) : List It := if bigK x p then insI x p else p
theorem insI_any (x : It) : ∀ (p r : List It), bigK x p = true → insI x (p ++ r) = insI x p ++ r
 | [], r, h => by simp [bigK] at h
 | y :: p, r, h => by
  rw [List.cons_append, insI, insI]
  by_cases e : bl x.1 y.1 = true
  ·rw [if_pos e, if_pos e]; rfl
  ·rw [if_neg e, if_neg e]
   have h2 : bigK x p = true := by
    unfold bigK at h ⊢
    rw [List.any_cons] at h
    simpa [e] using h
   rw [insI_any x p r h2]; rfl
theorem insI_not (x : It) : ∀ (p r : List It), bigK x p = false → insI x (p ++ r) = p ++ insI x r
 | [], r, h => rfl
 | y :: p, r, h => by
  unfold bigK at h
  rw [List.any_cons, Bool.or_eq_false_iff] at h
  rw [List.cons_append, insI, if_neg (by rw [h.1]; simp), insI_not x p r h.2]
  rfl
theorem bigK_snoc (x : It) (p : List It) (y : It) : bigK x (p ++ [y]) = (bigK x p || bl x.1 y.1) := by simp [bigK]
theorem outK_done {x : It} {p : List It} {y : It} (h : bigK x p = true) : outK x (p ++ [y]) = outK x p ++ [y] ∧ bigK x (p ++ [y]) = true := by
 have h2 : bigK x (p ++ [y]) = true := by rw [bigK_snoc, h]; rfl
 refine ⟨?_, h2⟩
 unfold outK
 rw [if_pos h2, if_pos h, insI_any x p [y] h]
theorem outK_now {x : It} {p : List It} {y : It} (h : bigK x p = false) (hb : bl x.1 y.1 = true) : outK x (p ++ [y]) = outK x p ++ [x] ++ [y] ∧ bigK x (p ++ [y]) = true := by
 have h2 : bigK x (p ++ [y]) = true := by rw [bigK_snoc, h, hb]; rfl
 refine ⟨?_, h2⟩
 unfold outK
 rw [if_pos h2, if_neg (by rw [h]; simp), insI_not x p [y] h, insI, if_pos hb]
 simp
theorem outK_not {x : It} {p : List It} {y : It} (h : bigK x p = false) (hb : bl x.1 y.1 = false) : outK x (p ++ [y]) = outK x p ++ [y] ∧ bigK x (p ++ [y]) = false := by
 have h2 : bigK x (p ++ [y]) = false := by rw [bigK_snoc, h, hb]; rfl
 refine ⟨?_, h2⟩
 unfold outK
 rw [if_neg (by rw [h2]; simp), if_neg (by rw [h]; simp)]
theorem outK_end {x : It} {p : List It} : (bigK x p = true → insI x p = outK x p) ∧ (bigK x p = false → insI x p = outK x p ++ [x]) := by
 refine ⟨fun h => by unfold outK; rw [if_pos h], fun h => ?_⟩
 have := insI_not x p [] h
 rw [List.append_nil] at this
 rw [this]
 unfold outK
 rw [if_neg (by rw [h]; simp)]
 rfl
theorem outK_len (x : It) (p : List It) : (outK x p).length ≤ p.length + 1 := by
 have hl : ∀ l : List It, (insI x l).length = l.length + 1 := by
  intro l
  induction l with
  | nil => rfl
  | cons y l ih =>
   rw [insI]
   split
   ·rfl
   ·rw [List.length_cons, ih, List.length_cons]
 unfold outK
 split
 ·rw [hl]
  exact Nat.le_refl _
 ·omega
def ListP (w0 : World) (L : List Ob) (l : List It) (e : Ending) (w' : World) : Prop := ∃ ad c A, e = .returned (.slice ad l.length c) ∧ Gr 104 3 (.slice ad l.length c) l.length (l.flatMap icel) A ∧ Hv w0 w' (A ++ L)
theorem list.calls (hv : Hv w0 w L) (l : List It) (hl : l.length ≤ 100000) {a0 : Option Addr} {c0 : Nat} (hR : Rdy 3 w0 L a0 l.length (l.flatMap icel)) (x : It) : Calls Try.prog 67 #[.slice a0 l.length c0, .agg #[.string x.1, .int .i64 x.2.1, .int .i64 x.2.2]] w (ListP w0 L (insI x l)) := by
 have hu33 := Try.underlying33
 have hu89 := Try.underlying89
 have hu104 := Try.underlying104
 have HV := As (show Hv w0 _ ([] ++ (cb w.heap.size 104 #[.string x.1, .int .i64 x.2.1, .int .i64 x.2.2] :: L)) from hv.alloc (.cells #[.string x.1, .int .i64 x.2.1, .int .i64 x.2.2] 104))
 have HR := As hR
 have HL := As hl
 clear hv hR hl
 go_enter Try.func67, Try.ntmps67
 go_wp2_with fail
 generalize hgx : w.heap.size = gx at HV ⊢
 clear hgx
 go_loopg [5, 6, 7] l.length (fun kq v5 v6 v7 wr => ∃ (k : Nat) (n : Nat) (b : Bool) (ad : Option Addr) (c : Nat) (A : List Ob), v5 = .slice ad n c ∧ v6 = .bool b ∧ v7 = .int .i64 (k : Int) ∧ kq = l.length - k ∧ k ≤ l.length ∧ Aside0 (n = (outK x (l.take k)).length ∧ b = bigK x (l.take k) ∧ Gr 104 3 (.slice ad n c) n ((outK x (l.take k)).flatMap icel) A) ∧ Aside0 (Hv w0 wr (A ++ (cb gx 104 #[.string x.1, .int .i64 x.2.1, .int .i64 x.2.2] :: L))))
 case atStart => exact ⟨0, 0, false, none, 0, [], rfl, rfl, rfl, rfl, Nat.zero_le _, ⟨rfl, rfl, Gr.nil 104 3⟩, HV⟩
 case round =>
  obtain ⟨k, n, b, ad, c, A, rfl, rfl, rfl, rfl, hk, HG, HW⟩ := hrel
  clear HV
  have hk7 : k ≤ 100000 := by have := HL.out; omega
  obtain ⟨x0, x1, x2, -, -, -⟩ := HW.out.c3 gx 104 (.string x.1) (.int .i64 x.2.1) (.int .i64 x.2.2) (by simp)
  have hnl := outK_len x (l.take k)
  rw [List.length_take] at hnl
  have hn7 : n ≤ 100001 := by have := HG.out.1; omega
  have HG2 := As HG.out.2.2
  have HB := As (show (n + 1) * 32 ≤ 140737488355328 by omega)
  have HB2 := As (show (n + 1 + 1) * 32 ≤ 140737488355328 by omega)
  clear hnl
  by_cases hltn : k < l.length
  ·have hlt' : (k : Int) < (l.length : Int) := by omega
   have ew : IntKind.i64.wrap ((k : Int) + 1) = ((k + 1 : Nat) : Int) := by rw [IntKind.wrap_i64]; omega
   have ew' : wrap64 ((k : Int) + 1) = ((k + 1 : Nat) : Int) := by unfold wrap64; omega
   obtain ⟨y, hy⟩ : ∃ y, l[k]? = some y := ⟨_, List.getElem?_eq_getElem hltn⟩
   have HYk := As hy
   have hrd := HR.out.now HW.out.right.tail
   obtain ⟨g1, ea, -⟩ := hrd.2 (by omega)
   cases ea
   obtain ⟨z0, z1, z2⟩ := icellsT hrd hy
   have htk : l.take (k + 1) = l.take k ++ [y] := by rw [List.take_succ_eq_append_getElem hltn, (List.getElem?_eq_some_iff.1 hy).2]
   have HTK := As htk
   clear hrd htk hy
   cases hbb : b
   ·cases hbl : bl x.1 y.1
    ·have hby : Op.bytesLess x.1.toList y.1.toList = false := hbl
     have HO := As (outK_not (x := x) (p := l.take k) (y := y) (by rw [← HG.out.2.1, hbb]) hbl)
     rw [← HTK.out] at HO
     clear hbl
     go_wp2_with fail
     go_quiet (fail)
     obtain ⟨W6, hW, hw⟩ : ∃ W, W = wr.drewN nq ∧ Hv w0 W (A ++ (cb gx 104 #[.string x.1, .int .i64 x.2.1, .int .i64 x.2.2] :: L)) := ⟨_, rfl, HW.out.drewN nq⟩
     rw [← hW]
     have H6 := As hw
     clear hW hw z0 z1 z2 x0 x1 x2
     obtain ⟨x0, x1, x2, -, -, -⟩ := H6.out.c3 gx 104 (.string x.1) (.int .i64 x.2.1) (.int .i64 x.2.2) (by simp)
     obtain ⟨z0, z1, z2⟩ := icellsT (HR.out.now H6.out.right.tail) HYk.out
     have h1 := H6.out.alloc (.cells #[.string y.1, .int .i64 y.2.1, .int .i64 y.2.2] 104)
     have HX := As (show Hv w0 (W6.alloc (.cells #[.string y.1, .int .i64 y.2.1, .int .i64 y.2.2] 104)) (A ++ (cb W6.heap.size 104 #[.string y.1, .int .i64 y.2.1, .int .i64 y.2.2] :: (cb gx 104 #[.string x.1, .int .i64 x.2.1, .int .i64 x.2.2] :: L))) from h1.perm List.perm_middle)
     have HN := As ((Rdy.of_rw (w0 := w0) (size := 3) (n := 1) (e := 104) (c := 1) (xs := icel y) (ad := some ⟨W6.heap.size, 0, none⟩) (L := A ++ (cb W6.heap.size 104 #[.string y.1, .int .i64 y.2.1, .int .i64 y.2.2] :: (cb gx 104 #[.string x.1, .int .i64 x.2.1, .int .i64 x.2.2] :: L))) ⟨rfl, Nat.le_refl _, fun _ => ⟨W6.heap.size, 0, #[.string y.1, .int .i64 y.2.1, .int .i64 y.2.2], rfl, by simp, fun i _ => by rw [Nat.zero_add]; simp [icel]⟩⟩).now HX.out)
     clear h1
     go_wp2_with ((with_reducible refine gate_builtin (b := .append) (xs := #[.tmp 30, .tmp 35]) rfl ?_); at_builtin; go_loud (refine append_rows (w0 := w0) (A := A) (L := cb W6.heap.size 104 #[.string y.1, .int .i64 y.2.1, .int .i64 y.2.2] :: (cb gx 104 #[.string x.1, .int .i64 x.2.1, .int .i64 x.2.2] :: L)) rfl (.tmp 30) (.tmp 35) 89 104 (.agg #[.string ⟨#[]⟩, .int .i64 0, .int .i64 0]) 3 32 rfl Try.underlying89 infoI rfl (by decide) (by decide) (.slice ad n c) n ((outK x (l.take k)).flatMap icel) rfl (some ⟨W6.heap.size, 0, none⟩) 1 1 (icel y) rfl (by intro u hu; simp [icel] at hu; rcases hu with rfl | rfl | rfl <;> rfl) HG2.out HX.out HN.out HB.out ?_); go_loud (intro v1 w1 A1 hG1 hv5; obtain ⟨ad1, c1, rfl, -⟩ := hG1.form; have HG1 := As hG1; have H1 := As (hv5.drop (L' := A1 ++ (cb gx 104 #[.string x.1, .int .i64 x.2.1, .int .i64 x.2.2] :: L)) (List.Sublist.append_left (List.sublist_cons_self _ _) A1)); clear hG1 hv5))
     go_roundg (l.length - (k + 1))
     case measure => omega
     case rel => exact ⟨k + 1, n + 1, false, ad1, c1, A1, rfl, rfl, by first | rfl | go_num, rfl, hltn, ⟨by rw [HO.out.1, List.length_append, ← HG.out.1]; rfl, by rw [HO.out.2], by rw [HO.out.1, List.flatMap_append]; simpa using HG1.out⟩, H1⟩
    ·have hby : Op.bytesLess x.1.toList y.1.toList = true := hbl
     have HO := As (outK_now (x := x) (p := l.take k) (y := y) (by rw [← HG.out.2.1, hbb]) hbl)
     rw [← HTK.out] at HO
     clear hbl
     go_wp2_with fail
     go_quiet (fail)
     obtain ⟨W6, hW, hw⟩ : ∃ W, W = wr.drewN nq ∧ Hv w0 W (A ++ (cb gx 104 #[.string x.1, .int .i64 x.2.1, .int .i64 x.2.2] :: L)) := ⟨_, rfl, HW.out.drewN nq⟩
     rw [← hW]
     have H6 := As hw
     clear hW hw z0 z1 z2 x0 x1 x2
     obtain ⟨x0, x1, x2, -, -, -⟩ := H6.out.c3 gx 104 (.string x.1) (.int .i64 x.2.1) (.int .i64 x.2.2) (by simp)
     obtain ⟨z0, z1, z2⟩ := icellsT (HR.out.now H6.out.right.tail) HYk.out
     have h1 := H6.out.alloc (.cells #[.string x.1, .int .i64 x.2.1, .int .i64 x.2.2] 104)
     have HX := As (show Hv w0 (W6.alloc (.cells #[.string x.1, .int .i64 x.2.1, .int .i64 x.2.2] 104)) (A ++ (cb W6.heap.size 104 #[.string x.1, .int .i64 x.2.1, .int .i64 x.2.2] :: (cb gx 104 #[.string x.1, .int .i64 x.2.1, .int .i64 x.2.2] :: L))) from h1.perm List.perm_middle)
     have HN := As ((Rdy.of_rw (w0 := w0) (size := 3) (n := 1) (e := 104) (c := 1) (xs := icel x) (ad := some ⟨W6.heap.size, 0, none⟩) (L := A ++ (cb W6.heap.size 104 #[.string x.1, .int .i64 x.2.1, .int .i64 x.2.2] :: (cb gx 104 #[.string x.1, .int .i64 x.2.1, .int .i64 x.2.2] :: L))) ⟨rfl, Nat.le_refl _, fun _ => ⟨W6.heap.size, 0, #[.string x.1, .int .i64 x.2.1, .int .i64 x.2.2], rfl, by simp, fun i _ => by rw [Nat.zero_add]; simp [icel]⟩⟩).now HX.out)
     clear h1
     go_wp2_with (first | ((with_reducible refine gate_builtin (b := .append) (xs := #[.tmp 26, .tmp 28]) rfl ?_); at_builtin; go_loud (refine append_rows (w0 := w0) (A := A) (L := cb W6.heap.size 104 #[.string x.1, .int .i64 x.2.1, .int .i64 x.2.2] :: (cb gx 104 #[.string x.1, .int .i64 x.2.1, .int .i64 x.2.2] :: L)) rfl (.tmp 26) (.tmp 28) 89 104 (.agg #[.string ⟨#[]⟩, .int .i64 0, .int .i64 0]) 3 32 rfl Try.underlying89 infoI rfl (by decide) (by decide) (.slice ad n c) n ((outK x (l.take k)).flatMap icel) rfl (some ⟨W6.heap.size, 0, none⟩) 1 1 (icel x) rfl (by intro u hu; simp [icel] at hu; rcases hu with rfl | rfl | rfl <;> rfl) HG2.out HX.out HN.out HB.out ?_); go_loud (intro v1 w1 A1 hG1 hv5; obtain ⟨ad1, c1, rfl, -⟩ := hG1.form; have HG1 := As hG1; have H1 := As (hv5.drop (L' := A1 ++ (cb gx 104 #[.string x.1, .int .i64 x.2.1, .int .i64 x.2.2] :: L)) (List.Sublist.append_left (List.sublist_cons_self _ _) A1)); clear hG1 hv5; clear z0 z1 z2 x0 x1 x2; obtain ⟨z0, z1, z2⟩ := icellsT (HR.out.now H1.out.right.tail) HYk.out; have h12 := H1.out.alloc (.cells #[.string y.1, .int .i64 y.2.1, .int .i64 y.2.2] 104); have HX2 := As (show Hv w0 (w1.alloc (.cells #[.string y.1, .int .i64 y.2.1, .int .i64 y.2.2] 104)) (A1 ++ (cb w1.heap.size 104 #[.string y.1, .int .i64 y.2.1, .int .i64 y.2.2] :: (cb gx 104 #[.string x.1, .int .i64 x.2.1, .int .i64 x.2.2] :: L))) from h12.perm List.perm_middle); have HN2 := As ((Rdy.of_rw (w0 := w0) (size := 3) (n := 1) (e := 104) (c := 1) (xs := icel y) (ad := some ⟨w1.heap.size, 0, none⟩) (L := A1 ++ (cb w1.heap.size 104 #[.string y.1, .int .i64 y.2.1, .int .i64 y.2.2] :: (cb gx 104 #[.string x.1, .int .i64 x.2.1, .int .i64 x.2.2] :: L))) ⟨rfl, Nat.le_refl _, fun _ => ⟨w1.heap.size, 0, #[.string y.1, .int .i64 y.2.1, .int .i64 y.2.2], rfl, by simp, fun i _ => by rw [Nat.zero_add]; simp [icel]⟩⟩).now HX2.out); clear h12)) | ((with_reducible refine gate_builtin (b := .append) (xs := #[.tmp 30, .tmp 35]) rfl ?_); at_builtin; go_loud (refine append_rows (w0 := w0) (A := A1) (L := cb w1.heap.size 104 #[.string y.1, .int .i64 y.2.1, .int .i64 y.2.2] :: (cb gx 104 #[.string x.1, .int .i64 x.2.1, .int .i64 x.2.2] :: L)) rfl (.tmp 30) (.tmp 35) 89 104 (.agg #[.string ⟨#[]⟩, .int .i64 0, .int .i64 0]) 3 32 rfl Try.underlying89 infoI rfl (by decide) (by decide) (.slice ad1 (n + 1) c1) (n + 1) ((outK x (l.take k)).flatMap icel ++ icel x) rfl (some ⟨w1.heap.size, 0, none⟩) 1 1 (icel y) rfl (by intro u hu; simp [icel] at hu; rcases hu with rfl | rfl | rfl <;> rfl) HG1.out HX2.out HN2.out HB2.out ?_); go_loud (intro v2 w2 A2 hG1 hv5; obtain ⟨ad2, c2, rfl, -⟩ := hG1.form; have HG2 := As hG1; have H2 := As (hv5.drop (L' := A2 ++ (cb gx 104 #[.string x.1, .int .i64 x.2.1, .int .i64 x.2.2] :: L)) (List.Sublist.append_left (List.sublist_cons_self _ _) A2)); clear hG1 hv5)))
     go_roundg (l.length - (k + 1))
     case measure => omega
     case rel => exact ⟨k + 1, n + 1 + 1, true, ad2, c2, A2, rfl, rfl, by first | rfl | go_num, rfl, hltn, ⟨by rw [HO.out.1, List.length_append, List.length_append, ← HG.out.1]; rfl, by rw [HO.out.2], by rw [HO.out.1, List.flatMap_append, List.flatMap_append]; simpa using HG2.out⟩, H2⟩
   ·have HO := As (outK_done (x := x) (p := l.take k) (y := y) (by rw [← HG.out.2.1, hbb]))
    rw [← HTK.out] at HO
    go_wp2_with fail
    go_quiet (fail)
    obtain ⟨W6, hW, hw⟩ : ∃ W, W = wr.drewN nq ∧ Hv w0 W (A ++ (cb gx 104 #[.string x.1, .int .i64 x.2.1, .int .i64 x.2.2] :: L)) := ⟨_, rfl, HW.out.drewN nq⟩
    rw [← hW]
    have H6 := As hw
    clear hW hw z0 z1 z2 x0 x1 x2
    obtain ⟨x0, x1, x2, -, -, -⟩ := H6.out.c3 gx 104 (.string x.1) (.int .i64 x.2.1) (.int .i64 x.2.2) (by simp)
    obtain ⟨z0, z1, z2⟩ := icellsT (HR.out.now H6.out.right.tail) HYk.out
    have h1 := H6.out.alloc (.cells #[.string y.1, .int .i64 y.2.1, .int .i64 y.2.2] 104)
    have HX := As (show Hv w0 (W6.alloc (.cells #[.string y.1, .int .i64 y.2.1, .int .i64 y.2.2] 104)) (A ++ (cb W6.heap.size 104 #[.string y.1, .int .i64 y.2.1, .int .i64 y.2.2] :: (cb gx 104 #[.string x.1, .int .i64 x.2.1, .int .i64 x.2.2] :: L))) from h1.perm List.perm_middle)
    have HN := As ((Rdy.of_rw (w0 := w0) (size := 3) (n := 1) (e := 104) (c := 1) (xs := icel y) (ad := some ⟨W6.heap.size, 0, none⟩) (L := A ++ (cb W6.heap.size 104 #[.string y.1, .int .i64 y.2.1, .int .i64 y.2.2] :: (cb gx 104 #[.string x.1, .int .i64 x.2.1, .int .i64 x.2.2] :: L))) ⟨rfl, Nat.le_refl _, fun _ => ⟨W6.heap.size, 0, #[.string y.1, .int .i64 y.2.1, .int .i64 y.2.2], rfl, by simp, fun i _ => by rw [Nat.zero_add]; simp [icel]⟩⟩).now HX.out)
    clear h1
    go_wp2_with ((with_reducible refine gate_builtin (b := .append) (xs := #[.tmp 30, .tmp 35]) rfl ?_); at_builtin; go_loud (refine append_rows (w0 := w0) (A := A) (L := cb W6.heap.size 104 #[.string y.1, .int .i64 y.2.1, .int .i64 y.2.2] :: (cb gx 104 #[.string x.1, .int .i64 x.2.1, .int .i64 x.2.2] :: L)) rfl (.tmp 30) (.tmp 35) 89 104 (.agg #[.string ⟨#[]⟩, .int .i64 0, .int .i64 0]) 3 32 rfl Try.underlying89 infoI rfl (by decide) (by decide) (.slice ad n c) n ((outK x (l.take k)).flatMap icel) rfl (some ⟨W6.heap.size, 0, none⟩) 1 1 (icel y) rfl (by intro u hu; simp [icel] at hu; rcases hu with rfl | rfl | rfl <;> rfl) HG2.out HX.out HN.out HB.out ?_); go_loud (intro v1 w1 A1 hG1 hv5; obtain ⟨ad1, c1, rfl, -⟩ := hG1.form; have HG1 := As hG1; have H1 := As (hv5.drop (L' := A1 ++ (cb gx 104 #[.string x.1, .int .i64 x.2.1, .int .i64 x.2.2] :: L)) (List.Sublist.append_left (List.sublist_cons_self _ _) A1)); clear hG1 hv5))
    go_roundg (l.length - (k + 1))
    case measure => omega
    case rel => exact ⟨k + 1, n + 1, true, ad1, c1, A1, rfl, rfl, by first | rfl | go_num, rfl, hltn, ⟨by rw [HO.out.1, List.length_append, ← HG.out.1]; rfl, by rw [HO.out.2], by rw [HO.out.1, List.flatMap_append]; simpa using HG1.out⟩, H1⟩
  ·have hge : ¬ (k : Int) < (l.length : Int) := by omega
   have hkk : k = l.length := by omega
   have HF := As (show n = (outK x l).length ∧ b = bigK x l by
    have := HG.out
    rw [hkk, List.take_length] at this
    exact ⟨this.1, this.2.1⟩)
   have HG3 := As (show Gr 104 3 (.slice ad n c) n ((outK x l).flatMap icel) A by
    have := HG.out.2.2
    rw [hkk, List.take_length] at this
    exact this)
   clear hk7 hk hltn hkk
   cases hbb : b
   ·have HE := As (outK_end.2 (by rw [← HF.out.2, hbb]))
    have h1 := HW.out.alloc (.cells #[.string x.1, .int .i64 x.2.1, .int .i64 x.2.2] 104)
    have HX := As (show Hv w0 (wr.alloc (.cells #[.string x.1, .int .i64 x.2.1, .int .i64 x.2.2] 104)) (A ++ (cb wr.heap.size 104 #[.string x.1, .int .i64 x.2.1, .int .i64 x.2.2] :: (cb gx 104 #[.string x.1, .int .i64 x.2.1, .int .i64 x.2.2] :: L))) from h1.perm List.perm_middle)
    have HN := As ((Rdy.of_rw (w0 := w0) (size := 3) (n := 1) (e := 104) (c := 1) (xs := icel x) (ad := some ⟨wr.heap.size, 0, none⟩) (L := A ++ (cb wr.heap.size 104 #[.string x.1, .int .i64 x.2.1, .int .i64 x.2.2] :: (cb gx 104 #[.string x.1, .int .i64 x.2.1, .int .i64 x.2.2] :: L))) ⟨rfl, Nat.le_refl _, fun _ => ⟨wr.heap.size, 0, #[.string x.1, .int .i64 x.2.1, .int .i64 x.2.2], rfl, by simp, fun i _ => by rw [Nat.zero_add]; simp [icel]⟩⟩).now HX.out)
    clear h1
    go_wp2_with ((with_reducible refine gate_builtin (b := .append) (xs := #[.tmp 39, .tmp 41]) rfl ?_); at_builtin; go_loud (refine append_rows (w0 := w0) (A := A) (L := cb wr.heap.size 104 #[.string x.1, .int .i64 x.2.1, .int .i64 x.2.2] :: (cb gx 104 #[.string x.1, .int .i64 x.2.1, .int .i64 x.2.2] :: L)) rfl (.tmp 39) (.tmp 41) 89 104 (.agg #[.string ⟨#[]⟩, .int .i64 0, .int .i64 0]) 3 32 rfl Try.underlying89 infoI rfl (by decide) (by decide) (.slice ad n c) n ((outK x l).flatMap icel) rfl (some ⟨wr.heap.size, 0, none⟩) 1 1 (icel x) rfl (by intro u hu; simp [icel] at hu; rcases hu with rfl | rfl | rfl <;> rfl) HG3.out HX.out HN.out HB.out ?_); go_loud (intro v1 w1 A1 hG1 hv5; obtain ⟨ad1, c1, rfl, -⟩ := hG1.form; have HG1 := As hG1; have H1 := As (hv5.drop (L' := A1 ++ (cb gx 104 #[.string x.1, .int .i64 x.2.1, .int .i64 x.2.2] :: L)) (List.Sublist.append_left (List.sublist_cons_self _ _) A1)); clear hG1 hv5))
    have hn2 : n + 1 = (insI x l).length := by rw [HE.out, List.length_append, ← HF.out.1]; rfl
    have hg2 : Gr 104 3 (.slice ad1 (n + 1) c1) (n + 1) ((insI x l).flatMap icel) A1 := by rw [HE.out, List.flatMap_append]; simpa using HG1.out
    rw [hn2] at hg2
    exact bodyPost_ret (v := .slice ad1 (n + 1) c1) (by simp [results, Try.results67, go_sem]) rfl ⟨ad1, c1, A1, by rw [hn2], hg2, H1.out.drop (List.Sublist.append_left (List.sublist_cons_self _ _) A1)⟩
   ·have HE := As (outK_end.1 (by rw [← HF.out.2, hbb]))
    go_wp2_with fail
    have hn2 : n = (insI x l).length := by rw [HE.out, ← HF.out.1]
    have hg2 : Gr 104 3 (.slice ad n c) n ((insI x l).flatMap icel) A := by rw [HE.out]; exact HG3.out
    rw [hn2] at hg2
    exact bodyPost_ret (v := .slice ad n c) (by simp [results, Try.results67, go_sem]) rfl ⟨ad, c, A, by rw [hn2], hg2, HW.out.drop (List.Sublist.append_left (List.sublist_cons_self _ _) A)⟩
end
section
variable {w0 w w1 : World} {L L' R : List Ob} {K : Nat × Nat × Nat} {t : Tm} {on : Value}
theorem neq104 (k : ByteArray) (a b : Int) (w : World) : (binOp .neq 104 (.agg #[.string k, .int .i64 a, .int .i64 b]) (.agg #[.string k, .int .i64 a, .int .i64 b])).run Try.prog w = .ok (.bool false) w := by
 have hu33 := Try.underlying33
 have hb := bb
 have h : (Op.equalIn (9997 + 3) 104 (.agg #[.string k, .int .i64 a, .int .i64 b]) (.agg #[.string k, .int .i64 a, .int .i64 b])).run Try.prog w = .ok (true && (a == a && (b == b))) w := by
  refine eqA_of Try.underlying104 (by kernel_rfl) ?_
  refine eqf_cons (by rfl) (by go_simp; rfl) (by go_simp; rfl) (by go_simp) ?_
  exact eqf_last (by rfl) (by go_simp) (by go_simp) (eqA33 9997 w a a b b)
 have h' : (Op.equalIn (9997 + 3) 104 (.agg #[.string k, .int .i64 a, .int .i64 b]) (.agg #[.string k, .int .i64 a, .int .i64 b])).run Try.prog w = .ok true w := by simpa using h
 simp only [binOp]
 simp [Op.equal, Op.maxDepth, h']
theorem sameItems.calls (hv : Hv w0 w L) (l : List It) (hl : l.length ≤ 1000000) {b1 b2 : Option Addr} {d1 d2 : Nat} (h1 : Rdy 3 w0 L b1 l.length (l.flatMap icel)) (h2 : Rdy 3 w0 L b2 l.length (l.flatMap icel)) :
  Calls Try.prog 62 #[.slice b1 l.length d1, .slice b2 l.length d2] w fun e w' => e = .returned (.bool true) ∧ Hv w0 w' L := by
 have hu33 := Try.underlying33
 have hu104 := Try.underlying104
 have hu89 := Try.underlying89
 have H1 := As h1
 have H2 := As h2
 have HV := As hv
 have HL := As hl
 clear h1 h2 hv hl
 go_enter Try.func62, Try.ntmps62
 go_wp2_with fail
 go_loopg [5] l.length (fun kq v5 wr => ∃ (k : Nat), v5 = .int .i64 (k : Int) ∧ kq = l.length - k ∧ k ≤ l.length ∧ Aside0 (Hv w0 wr L))
 case atStart => exact ⟨0, rfl, rfl, Nat.zero_le _, HV⟩
 case round =>
  obtain ⟨k, rfl, rfl, hk, HW⟩ := hrel
  clear HV
  have hk7 : k ≤ 1000000 := by have := HL.out; omega
  by_cases hltn : k < l.length
  ·have hlt' : (k : Int) < (l.length : Int) := by omega
   have ew : IntKind.i64.wrap ((k : Int) + 1) = ((k + 1 : Nat) : Int) := by rw [IntKind.wrap_i64]; omega
   have ew' : wrap64 ((k : Int) + 1) = ((k + 1 : Nat) : Int) := by unfold wrap64; omega
   obtain ⟨y, hy⟩ : ∃ y, l[k]? = some y := ⟨_, List.getElem?_eq_getElem hltn⟩
   have hr1 := H1.out.now HW.out
   have hr2 := H2.out.now HW.out
   obtain ⟨g1, ea, -⟩ := hr1.2 (by omega)
   cases ea
   obtain ⟨g2, eb, -⟩ := hr2.2 (by omega)
   cases eb
   obtain ⟨z0, z1, z2⟩ := icellsT hr1 hy
   obtain ⟨y0, y1, y2⟩ := icellsT hr2 hy
   have hne := neq104 y.1 y.2.1 y.2.2
   clear hr1 hr2 hy
   go_wp2_with fail
   go_quiet (fail)
   go_wp2_with fail
   go_roundg (l.length - (k + 1))
   case measure => omega
   case rel => exact ⟨k + 1, by first | rfl | go_num, rfl, hltn, ⟨HW.out.drewN nq⟩⟩
  ·have hge : ¬ (k : Int) < (l.length : Int) := by omega
   go_wp2_with fail
   exact bodyPost_ret (v := .bool true) (by simp [results, Try.results62, go_sem]) rfl ⟨rfl, HW.out⟩
end
end Go.Proofs.Ytglbcfkmaamhaaa.Tr
