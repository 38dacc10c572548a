/- A text of this claim: parts TpK TpD TpE. No condition. -/
import Derived.Test.YtglbcfkmaamhaaaJG19
set_option linter.unusedVariables false
set_option linter.unusedSimpArgs false
set_option maxHeartbeats 16000000
set_option maxRecDepth 100000
namespace Go.Proofs.Ytglbcfkmaamhaaa.Tr
open Go Go.RowKit Go.Proofs.YtglbcfkmaamhaaaW.PrintWords Go.Proofs.Ytglbcfkmaamhaaa.Hv Go.Proofs.Ytglbcfkmaamhaaa.Arm Go.Proofs.Ytglbcfkmaamhaaa.Nd Go.Proofs.Ytglbcfkmaamhaaa.ArN
section
attribute [local irreducible] bl
variable {N : Nat} {P P' : NP} {rs rs1 rs2 : List Rf} {ks ks1 ks2 : List ByteArray} {lo hi mid : ByteArray} {ns : List Rf} {its : List It} {m m' : Mm}
theorem Row.each (h : Row P rs ks lo hi ns its) : ∀ x ∈ rs, ∃ lo' hi' ns' its', P x lo' hi' ns' its' ∧ ∀ y ∈ ns', y ∈ ns := by
 induction h with
 | one h =>
  intro x hx
  rw [List.mem_singleton.1 hx]
  exact ⟨_, _, _, _, h, fun y hy => hy⟩
 | cons h h1 h2 h3 ih =>
  intro x hx
  rcases List.mem_cons.1 hx with rfl | hx
  ·exact ⟨_, _, _, _, h, fun y hy => List.mem_append_left _ hy⟩
  ·obtain ⟨a, b, c, d, e, f⟩ := ih x hx
   exact ⟨a, b, c, d, e, fun y hy => List.mem_append_right _ (f y hy)⟩
def kd (c : ByteArray) : List Rf → List ByteArray → Rf
 | [], _ => (0, 0)
 | r :: _, [] => r
 | r :: rs, k :: ks => if bl c k = true then r else kd c rs ks
theorem kd_mem (c : ByteArray) : ∀ {rs : List Rf} {ks : List ByteArray}, ks.length + 1 = rs.length → kd c rs ks ∈ rs
 | [], ks, h => by simp at h
 | r :: rs, [], h => by simp [kd]
 | r :: rs, k :: ks, h => by
  rw [kd]
  split
  ·simp
  ·exact List.mem_cons_of_mem _ (kd_mem c (by simpa using h))
theorem kd_app (c : ByteArray) : ∀ {rs1 : List Rf} {ks1 : List ByteArray}, ks1.length + 1 = rs1.length → (∀ k ∈ ks1, bl k mid = true) → kd c (rs1 ++ rs2) (ks1 ++ mid :: ks2) = if bl c mid = true then kd c rs1 ks1 else kd c rs2 ks2
 | [], ks1, h, _ => by simp at h
 | r :: rs1, [], h, _ => by
  have e : rs1 = [] := List.eq_nil_of_length_eq_zero (by simpa using h.symm)
  subst e
  rfl
 | r :: rs1, k :: ks1, h, hk => by
  have ih := kd_app c (rs1 := rs1) (ks1 := ks1) (by simpa using h) (fun x hx => hk x (by simp [hx]))
  have hkm := hk k (by simp)
  rw [List.cons_append, List.cons_append, kd, kd, ih]
  by_cases e : bl c k = true
  ·rw [if_pos e, if_pos e, if_pos (bl_trans e hkm)]
  ·rw [if_neg e, if_neg e]
theorem kd_ins (c : ByteArray) {x q0 : Rf} : ∀ (i : Nat) (rs : List Rf) (ks : List ByteArray), rs[i]? = some x → ks.length + 1 = rs.length → rs.Nodup → Asc (ks.take i ++ [mid] ++ ks.drop i) → kd c (rs.take (i + 1) ++ [q0] ++ rs.drop (i + 1)) (ks.take i ++ [mid] ++ ks.drop i) = if kd c rs ks = x then (if bl c mid = true then x else q0) else kd c rs ks
 | _, [], ks, h, _, _, _ => by simp at h
 | 0, r :: rs, ks, h, hl, hn, ha => by
  have e : r = x := by simpa using h
  subst e
  obtain ⟨hn1, hn2⟩ := List.nodup_cons.1 hn
  cases ks with
  | nil =>
   have e : rs = [] := List.eq_nil_of_length_eq_zero (by simpa using hl.symm)
   subst e
   simp [kd]
  | cons k ks =>
   have ha2 : Asc (mid :: k :: ks) := ha
   have hmk := (List.pairwise_cons.1 ha2).1 k (by simp)
   have hne : kd c rs ks ≠ r := fun e => hn1 (by rw [← e]; exact kd_mem c (by simpa using hl))
   show (if bl c mid = true then r else if bl c k = true then q0 else kd c rs ks) = if (if bl c k = true then r else kd c rs ks) = r then (if bl c mid = true then r else q0) else (if bl c k = true then r else kd c rs ks)
   by_cases e1 : bl c mid = true
   ·have e2 := bl_trans e1 hmk
    simp [e1, e2]
   ·by_cases e2 : bl c k = true
    ·simp [e1, e2]
    ·simp [e1, e2, hne]
 | i + 1, r :: rs, [], h, hl, _, _ => by
  have e : rs = [] := List.eq_nil_of_length_eq_zero (by simpa using hl.symm)
  subst e
  simp at h
 | i + 1, r :: rs, k :: ks, h, hl, hn, ha => by
  obtain ⟨hn1, hn2⟩ := List.nodup_cons.1 hn
  have hx : x ∈ rs := List.mem_of_getElem? (i := i) (by simpa using h)
  have hne : r ≠ x := fun e => hn1 (by rw [e]; exact hx)
  have ha2 : Asc (k :: (ks.take i ++ [mid] ++ ks.drop i)) := by simpa using ha
  have ih := kd_ins c (x := x) (q0 := q0) i rs ks (by simpa using h) (by simpa using hl) hn2 (List.pairwise_cons.1 ha2).2
  show (if bl c k = true then r else kd c (rs.take (i + 1) ++ [q0] ++ rs.drop (i + 1)) (ks.take i ++ [mid] ++ ks.drop i)) = if (if bl c k = true then r else kd c rs ks) = x then (if bl c mid = true then x else q0) else (if bl c k = true then r else kd c rs ks)
  rw [ih]
  by_cases e : bl c k = true
  ·simp [e, hne]
  ·simp [e]
theorem kd_rem (c : ByteArray) {x0 x1 : Rf} : ∀ (i : Nat) (rs : List Rf) (ks : List ByteArray), rs[i]? = some x0 → rs[i + 1]? = some x1 → ks.length + 1 = rs.length → rs.Nodup → Asc ks → kd c (rs.take (i + 1) ++ rs.drop (i + 2)) (ks.take i ++ ks.drop (i + 1)) = if kd c rs ks = x1 then x0 else kd c rs ks
 | _, [], ks, h, _, _, _, _ => by simp at h
 | i, r :: rs, [], h, h1, hl, _, _ => by
  have e : rs = [] := List.eq_nil_of_length_eq_zero (by simpa using hl.symm)
  subst e
  simp at h1
 | 0, r :: rs, k :: ks, h, h1, hl, hn, ha => by
  have e : r = x0 := by simpa using h
  subst e
  cases rs with
  | nil => simp at h1
  | cons r1 rs =>
   have e : r1 = x1 := by simpa using h1
   subst e
   obtain ⟨hn1, hn2⟩ := List.nodup_cons.1 hn
   have h01 : r ≠ r1 := fun e => hn1 (by rw [e]; simp)
   show kd c (r :: rs) ks = if (if bl c k = true then r else kd c (r1 :: rs) ks) = r1 then r else (if bl c k = true then r else kd c (r1 :: rs) ks)
   cases ks with
   | nil => simp only [kd]; by_cases e : bl c k = true <;> simp [e, h01]
   | cons k2 ks =>
    have hk := (List.pairwise_cons.1 ha).1 k2 (by simp)
    have hne : kd c rs ks ≠ r1 := fun e => (List.nodup_cons.1 hn2).1 (by rw [← e]; exact kd_mem c (by simpa using hl))
    simp only [kd]
    by_cases e : bl c k = true
    ·have e2 := bl_trans e hk
     simp [e, e2, h01]
    ·by_cases e2 : bl c k2 = true
     ·simp [e, e2]
     ·simp [e, e2, hne]
 | i + 1, r :: rs, k :: ks, h, h1, hl, hn, ha => by
  obtain ⟨hn1, hn2⟩ := List.nodup_cons.1 hn
  have hx : x1 ∈ rs := List.mem_of_getElem? (i := i + 1) (by simpa using h1)
  have hne : r ≠ x1 := fun e => hn1 (by rw [e]; exact hx)
  have ih := kd_rem c (x0 := x0) (x1 := x1) i rs ks (by simpa using h) (by simpa using h1) (by simpa using hl) hn2 (List.pairwise_cons.1 ha).2
  show (if bl c k = true then r else kd c (rs.take (i + 1) ++ rs.drop (i + 2)) (ks.take i ++ ks.drop (i + 1))) = if (if bl c k = true then r else kd c rs ks) = x1 then x0 else (if bl c k = true then r else kd c rs ks)
  rw [ih]
  by_cases e : bl c k = true
  ·simp [e, hne]
  ·simp [e]
theorem kd_side (c : ByteArray) {x0 x1 : Rf} {k0 : ByteArray} : ∀ (i : Nat) (rs : List Rf) (ks : List ByteArray), rs[i]? = some x0 → rs[i + 1]? = some x1 → ks[i]? = some k0 → ks.length + 1 = rs.length → rs.Nodup → Asc ks → (kd c rs ks = x0 → bl c k0 = true) ∧ (kd c rs ks = x1 → bl c k0 = false)
 | _, [], ks, h, _, _, _, _, _ => by simp at h
 | i, r :: rs, [], h, h1, hk, hl, _, _ => by simp at hk
 | 0, r :: rs, k :: ks, h, h1, hk, hl, hn, ha => by
  have e : r = x0 := by simpa using h
  subst e
  have e : k = k0 := by simpa using hk
  subst e
  obtain ⟨hn1, hn2⟩ := List.nodup_cons.1 hn
  have hx : x1 ∈ rs := List.mem_of_getElem? (i := 0) (by simpa using h1)
  have hm : kd c rs ks ∈ rs := kd_mem c (by simpa using hl)
  rw [kd]
  constructor
  ·intro h2
   split at h2
   ·rename_i e; exact e
   ·exact absurd (by rw [← h2]; exact hm) hn1
  ·intro h2
   split at h2
   ·exact absurd (by rw [h2]; exact hx) hn1
   ·rename_i e; simpa using e
 | i + 1, r :: rs, k :: ks, h, h1, hk, hl, hn, ha => by
  obtain ⟨hn1, hn2⟩ := List.nodup_cons.1 hn
  obtain ⟨ha1, ha2⟩ := List.pairwise_cons.1 ha
  have hx0 : x0 ∈ rs := List.mem_of_getElem? (i := i) (by simpa using h)
  have hx1 : x1 ∈ rs := List.mem_of_getElem? (i := i + 1) (by simpa using h1)
  have hk0 : k0 ∈ ks := List.mem_of_getElem? (i := i) (by simpa using hk)
  obtain ⟨q1, q2⟩ := kd_side c (x0 := x0) (x1 := x1) (k0 := k0) i rs ks (by simpa using h) (by simpa using h1) (by simpa using hk) (by simpa using hl) hn2 ha2
  rw [kd]
  constructor
  ·intro h2
   split at h2
   ·exact absurd (by rw [h2]; exact hx0) hn1
   ·exact q1 h2
  ·intro h2
   split at h2
   ·exact absurd (by rw [h2]; exact hx1) hn1
   ·exact q2 h2
theorem kd_child (c : ByteArray) : ∀ (rs : List Rf) (ks : List ByteArray), ks.length + 1 = rs.length → Asc ks → rs[plc c ks + (if fnd c ks then 1 else 0)]? = some (kd c rs ks)
 | [], ks, h, _ => by simp at h
 | r :: rs, [], h, _ => by
  have e : fnd c [] = false := rfl
  simp [plc, e, kd]
 | r :: rs, k :: ks, h, ha => by
  obtain ⟨ha1, ha2⟩ := List.pairwise_cons.1 ha
  have ih := kd_child c rs ks (by simpa using h) ha2
  have hk := kd_mem c (rs := rs) (ks := ks) (by simpa using h)
  rw [kd]
  by_cases e : bl k c = true
  ·have e1 : bl c k = false := bl_ble e
   have ef : fnd c (k :: ks) = fnd c ks := by
    cases h1 : fnd c ks
    ·cases h2 : fnd c (k :: ks)
     ·rfl
     ·have := (fnd_at _ _).1 h2
      rw [plc, if_pos e] at this
      rw [(fnd_at c ks).2 (by simpa using this)] at h1; cases h1
    ·have := (fnd_at _ _).1 h1
     exact (fnd_at _ _).2 (by rw [plc, if_pos e]; simpa using this)
   have hg : (if bl c k = true then r else kd c rs ks) = kd c rs ks := if_neg (by rw [e1]; simp)
   rw [hg, ef, plc, if_pos e, show plc c ks + 1 + (if fnd c ks = true then 1 else 0) = plc c ks + (if fnd c ks = true then 1 else 0) + 1 by omega, List.getElem?_cons_succ]
   exact ih
  ·have e' : bl k c = false := by simpa using e
   rw [plc, if_neg e]
   by_cases e1 : bl c k = true
   ·have ef : fnd c (k :: ks) = false := by
     cases h2 : fnd c (k :: ks)
     ·rfl
     ·have := (fnd_at _ _).1 h2
      rw [plc, if_neg e] at this
      have e3 : k = c := by simpa using this
      rw [e3, bl_irr] at e1; cases e1
    rw [ef, if_pos e1]
    rfl
   ·have e1' : bl c k = false := by simpa using e1
    have hck : k = c := bl_tot e' e1'
    subst hck
    have ef : fnd k (k :: ks) = true := (fnd_at _ _).2 (by rw [plc, if_neg e]; rfl)
    rw [ef, if_neg e1, if_pos rfl, Nat.zero_add, List.getElem?_cons_succ]
    cases rs with
    | nil => simp at h
    | cons r1 rs =>
     cases ks with
     | nil => rfl
     | cons k1 ks => rw [kd, if_pos (ha1 k1 (by simp))]; rfl
def nod (m : Mm) (r : Rf) : Nd.Nd := (m r).getD nd0
theorem nod_of {r : Rf} {n : Nd.Nd} (h : m r = some n) : nod m r = n := by unfold nod; rw [h]; rfl
def look (m : Mm) (c : ByteArray) : Nat → Rf → Rf
 | 0, r => r
 | h + 1, r => look m c h (kd c (nod m r).refs (nod m r).keys)
theorem look_succ {r : Rf} {n : Nd.Nd} (hn : m r = some n) (c : ByteArray) (h : Nat) : look m c (h + 1) r = look m c h (kd c n.refs n.keys) := by rw [look, nod_of hn]
theorem Rep.look_frame (c : ByteArray) : ∀ {h : Nat} {r : Rf} {lo hi : ByteArray} {ns : List Rf} {its : List It}, Rep m h r lo hi ns its → (∀ x ∈ ns, m' x = m x) → look m' c h r = look m c h r
 | 0, r, lo, hi, ns, its, _, _ => rfl
 | h + 1, r, lo, hi, ns, its, ⟨n, ns', a, b, e, d⟩, hm => by
  rw [look_succ a, look_succ ((hm r (by rw [e]; simp)).trans a)]
  obtain ⟨lo', hi', ns1, its1, e1, e2⟩ := d.each _ (kd_mem c d.len)
  exact e1.look_frame c (fun x hx => hm x (by rw [e]; exact List.mem_cons_of_mem _ (e2 x hx)))
theorem Rep.look_mem (c : ByteArray) : ∀ {h : Nat} {r : Rf} {lo hi : ByteArray} {ns : List Rf} {its : List It}, Rep m h r lo hi ns its → look m c h r ∈ ns
 | 0, r, lo, hi, ns, its, ⟨n, a, b, e, d, f, g, i⟩ => by rw [g]; exact List.mem_singleton.2 rfl
 | h + 1, r, lo, hi, ns, its, ⟨n, ns', a, b, e, d⟩ => by
  rw [look_succ a]
  obtain ⟨lo', hi', ns1, its1, e1, e2⟩ := d.each _ (kd_mem c d.len)
  rw [e]
  exact List.mem_cons_of_mem _ (e2 _ (e1.look_mem c))
theorem Rep.look_dn {t : Tm} {c : ByteArray} : ∀ {h : Nat} {r : Rf} {lo hi : ByteArray} {ns : List Rf} {its : List It}, Rep t.map h r lo hi ns its → ∀ {l : List (Rf × Nat)} {q : Rf}, Dn t c r l q → look t.map c h r = q
 | 0, r, lo, hi, ns, its, ⟨n, a, b, e, d, f, g, i⟩, l, q, hd => by
  rcases hd.inv with ⟨_, _, rfl⟩ | ⟨r', l2, h1, _⟩
  ·rfl
  ·rw [Tm.map_at a, b] at h1; cases h1
 | h + 1, r, lo, hi, ns, its, hr, l, q, hd => by
  obtain ⟨n, ns', a, b, e, d⟩ := id hr
  have hsh := hr.shape a
  rcases hd.inv with ⟨h1, _⟩ | ⟨r', l2, _, _, hk, hd', _⟩
  ·rw [Tm.map_at a, b] at h1; cases h1
  ·rw [Tm.map_at a] at hk
   have hc : n.child c = plc c n.keys + (if fnd c n.keys then 1 else 0) := by unfold Nd.Nd.child; rw [b, hsh]; rfl
   have h1 := kd_child c n.refs n.keys d.len d.keys.1
   rw [hc, h1] at hk
   have hr' : kd c n.refs n.keys = r' := Option.some.inj hk
   rw [look_succ a, hr']
   obtain ⟨lo', hi', ns1, its1, e1, e2⟩ := d.each r' (by rw [← hr']; exact kd_mem c d.len)
   exact e1.look_dn hd'
theorem Rep.look_cut {m3 : Mm} {h : Nat} {r q0 : Rf} {nn am bm : Nd.Nd} (hr : Rep m h r lo hi ns its) (hnd : ns.Nodup) (hn : m r = some nn) (h2 : 2 ≤ nn.refs.length) (hsp : nn.split = (am, mid, bm)) (ha : m3 r = some am) (hb : m3 q0 = some bm) (hf : ∀ y ∈ ns, y ≠ r → m3 y = m y) (c : ByteArray) : h = 0 ∨ look m3 c h (if bl c mid = true then r else q0) = look m c h r := by
 cases h with
 | zero => exact .inl rfl
 | succ h =>
  right
  have hsh := hr.shape hn
  obtain ⟨n', ns', a, b, e, d⟩ := id hr
  rw [hn] at a; cases a
  have hl := d.len
  have hk := d.keys
  have hs : nn.split = ({ nn with ver := wrap64 (nn.ver + 1), keys := nn.keys.take nn.keep, refs := nn.refs.take nn.half }, nn.keys.getD nn.keep ⟨#[]⟩, ⟨nn.leaf, 1, nn.keys.drop nn.half, nn.refs.drop nn.half⟩) := by
   unfold Nd.Nd.split
   rw [hsh]
   simp [h2]
  rw [hsp] at hs
  have hh : nn.half = nn.refs.length - nn.refs.length / 2 := rfl
  have hkp : nn.keep = nn.half - 1 := by unfold Nd.Nd.keep; rw [b]; rfl
  obtain ⟨h1, h3⟩ := Prod.mk.inj hs
  obtain ⟨h4, h5⟩ := Prod.mk.inj h3
  obtain ⟨mk, hmk⟩ : ∃ mk, nn.keys[nn.half - 1]? = some mk := ⟨_, List.getElem?_eq_getElem (by omega)⟩
  have hmid : mid = mk := by rw [h4, hkp, List.getD_eq_getElem?_getD, hmk]; rfl
  have hkeys : nn.keys = nn.keys.take nn.keep ++ mid :: nn.keys.drop nn.half := by
   conv => lhs; rw [← List.take_append_drop nn.keep nn.keys]
   rw [hkp, List.drop_eq_getElem_cons (by omega), (List.getElem?_eq_some_iff.1 hmk).2, hmid, show nn.half - 1 + 1 = nn.half by omega]
  have hkd : kd c nn.refs nn.keys = if bl c mid = true then kd c am.refs am.keys else kd c bm.refs bm.keys := by
   have hasc := hk.1
   rw [hkeys] at hasc
   have h6 := (List.pairwise_append.1 hasc).2.2
   have h7 := kd_app (mid := mid) (rs2 := nn.refs.drop nn.half) (ks2 := nn.keys.drop nn.half) c (rs1 := nn.refs.take nn.half) (ks1 := nn.keys.take nn.keep) (by rw [List.length_take, List.length_take]; omega) (fun k hk => h6 k hk mid (by simp))
   rw [List.take_append_drop, ← hkeys] at h7
   rw [h7, h1, h5]
  have hx := kd_mem c (rs := nn.refs) (ks := nn.keys) hl
  obtain ⟨lo', hi', ns1, its1, e1, e2⟩ := d.each _ hx
  have hrn : r ∉ ns' := by rw [e] at hnd; exact (List.nodup_cons.1 hnd).1
  have hfr := e1.look_frame (m' := m3) c (fun x hx => hf x (by rw [e]; exact List.mem_cons_of_mem _ (e2 x hx)) (fun e3 => hrn (by rw [← e3]; exact e2 x hx)))
  rw [look_succ hn, ← hfr, hkd]
  by_cases e3 : bl c mid = true
  ·rw [if_pos e3, if_pos e3, look_succ ha]
  ·rw [if_neg e3, if_neg e3, look_succ hb]
def Evo (m m' : Mm) : Prop := ∀ y n, m y = some n → ∃ n', m' y = some n' ∧ (n' = n ∨ n.ver < n'.ver)
def Bump (m m' : Mm) (x : Rf) : Prop := ∃ n n', m x = some n ∧ m' x = some n' ∧ n.ver < n'.ver
theorem Evo.refl (m : Mm) : Evo m m := fun y n h => ⟨n, h, .inl rfl⟩
theorem Evo.trans {m1 m2 m3 : Mm} (h : Evo m1 m2) (k : Evo m2 m3) : Evo m1 m3 := fun y n hn => by
 obtain ⟨n1, h1, h2⟩ := h y n hn
 obtain ⟨n2, h3, h4⟩ := k y n1 h1
 refine ⟨n2, h3, ?_⟩
 rcases h2 with rfl | h2
 ·exact h4
 ·rcases h4 with rfl | h4
  ·exact .inr h2
  ·exact .inr (Int.lt_trans h2 h4)
theorem Evo.upd {r : Rf} {n n' : Nd.Nd} (h : m r = some n) (hv : n' = n ∨ n.ver < n'.ver) : Evo m (upd m r n') := fun y k hk => by
 by_cases e : y = r
 ·subst e
  rw [h] at hk; cases hk
  exact ⟨n', upd_self _ _ _, hv⟩
 ·exact ⟨k, by rw [upd_ne e]; exact hk, .inl rfl⟩
theorem Evo.new {r : Rf} {n : Nd.Nd} (h : m r = none) : Evo m (Tr.upd m r n) := fun y k hk => by
 have e : y ≠ r := fun e => by rw [e, h] at hk; cases hk
 exact ⟨k, by rw [upd_ne e]; exact hk, .inl rfl⟩
theorem Bump.evo {m1 m2 m3 : Mm} {x : Rf} (h : Bump m1 m2 x) (k : Evo m2 m3) : Bump m1 m3 x := by
 obtain ⟨n, n', h1, h2, h3⟩ := h
 obtain ⟨n2, h4, h5⟩ := k x n' h2
 refine ⟨n, n2, h1, h4, ?_⟩
 rcases h5 with rfl | h5
 ·exact h3
 ·exact Int.lt_trans h3 h5
theorem Evo.bump {m1 m2 m3 : Mm} {x : Rf} (h : Evo m1 m2) (k : Bump m2 m3 x) (hx : m1 x ≠ none) : Bump m1 m3 x := by
 obtain ⟨n, hn⟩ := Option.ne_none_iff_exists'.1 hx
 obtain ⟨n1, h1, h2⟩ := h x n hn
 obtain ⟨a, b, h3, h4, h5⟩ := k
 rw [h1] at h3; cases h3
 refine ⟨n, b, hn, h4, ?_⟩
 rcases h2 with rfl | h2
 ·exact h5
 ·exact Int.lt_trans h2 h5
theorem Bump.upd {r : Rf} {n n' : Nd.Nd} (h : m r = some n) (hv : n.ver < n'.ver) : Bump m (Tr.upd m r n') r := ⟨n, n', h, upd_self _ _ _, hv⟩
end
section
attribute [local irreducible] bl
variable {N : Nat} {P : NP} {rs : List Rf} {ks : List ByteArray} {lo hi : ByteArray} {ns : List Rf} {its : List It}
theorem Tm.mset {t : Tm} {r : Rf} {n0 n : Nd.Nd} (hw : t.Wf N) (h : t.map r = some n0) : (t.set r n).map = upd t.map r n ∧ (t.set r n).Wf N ∧ (t.set r n).root = t.root ∧ (t.set r n).gone = t.gone ∧ (t.set r n).p.room = t.p.room := by
 exact Tm.map_set hw h
theorem Tm.mtake {t : Tm} {n : Nd.Nd} (hw : t.Wf N) (h : ¬ t.p.room = 0) : (t.take n).map = upd t.map t.tk n ∧ (t.take n).Wf N ∧ (t.take n).root = t.root ∧ (t.take n).gone = t.gone ∧ (t.take n).p.room = t.p.room - 1 ∧ t.map t.tk = none := by
 obtain ⟨a, b, c, d, e, f⟩ := Tm.map_take (n := n) hw h
 exact ⟨a, b, c, d, e, by unfold Tm.map; rw [f]; rfl⟩
def climb (leaf : Rf) (t1 : Tm) : List Rf → (Tm × List Trn) × Bool
 | [] => ((t1, []), true)
 | [x] => ((t1, []), false)
 | r :: x :: w => if (climb leaf t1 (x :: w)).2 = true then climb leaf t1 (x :: w) else if ((climb leaf t1 (x :: w)).1.1.at x).refs.length ≤ 4 then ((climb leaf t1 (x :: w)).1, true) else (stp leaf (climb leaf t1 (x :: w)).1 x (some r), false)
theorem cntB_le (t : Tm) (l : List Rf) : cntB t l ≤ l.length := by
 unfold cntB
 have := (List.takeWhile_sublist (big t) (l := l.reverse)).length_le
 simpa using this
theorem tw_snoc {α : Type} (p : α → Bool) (x : α) : ∀ l : List α, ((l ++ [x]).takeWhile p).length = if (l.takeWhile p).length = l.length then (if p x then (l.takeWhile p).length + 1 else (l.takeWhile p).length) else (l.takeWhile p).length
 | [] => by cases h : p x <;> simp [List.takeWhile, h]
 | y :: l => by
  rw [List.cons_append, List.takeWhile_cons, List.takeWhile_cons]
  cases h : p y
  ·simp
  ·have ih := tw_snoc p x l
   simp only [if_true, List.length_cons, ih]
   by_cases e : (l.takeWhile p).length = l.length
   ·have e1 : (l.takeWhile p).length + 1 = l.length + 1 := by omega
    simp only [if_pos e, if_pos e1]
    split <;> rfl
   ·have e1 : ¬ (l.takeWhile p).length + 1 = l.length + 1 := by omega
    simp only [if_neg e, if_neg e1]
theorem cntB_cons (t : Tm) (x : Rf) (l : List Rf) : cntB t (x :: l) = if cntB t l = l.length then (if big t x then cntB t l + 1 else cntB t l) else cntB t l := by
 unfold cntB
 rw [List.reverse_cons, tw_snoc, List.length_reverse]
structure Up (N : Nat) (t t' : Tm) (ns fr : List Rf) : Prop where
 wf : t'.Wf N
 room : t'.p.room = t.p.room - fr.length
 root : t'.root = t.root
 gone : t'.gone = t.gone
 fresh : ∀ f ∈ fr, t.map f = none
 nod : fr.Nodup
 off : ∀ x, x ∉ ns → x ∉ fr → t'.map x = t.map x
theorem Row.heads (hP : ∀ r lo hi ns its, P r lo hi ns its → ∃ ns', ns = r :: ns') (h : Row P rs ks lo hi ns its) : rs.Sublist ns := by
 induction h with
 | one h => obtain ⟨ns', rfl⟩ := hP _ _ _ _ _ h; exact List.Sublist.cons_cons _ (List.nil_sublist _)
 | cons h _ _ _ ih => obtain ⟨ns', rfl⟩ := hP _ _ _ _ _ h; exact List.Sublist.cons_cons _ (ih.trans (List.sublist_append_right _ _))
theorem Dn.way {t : Tm} {key : ByteArray} {r q : Rf} {l : List (Rf × Nat)} (h : Dn t key r l q) : ∃ tl, wayL l q = r :: tl := by
 rcases h.inv with ⟨_, rfl, rfl⟩ | ⟨r', l2, _, _, _, _, rfl⟩
 ·exact ⟨[], rfl⟩
 ·exact ⟨wayL l2 q, rfl⟩
theorem isS_of {m : Mm} {x : Rf} (h : (m x).isSome = true) : m x ≠ none := fun e => by rw [e] at h; cases h
theorem wrap_up {v V : Int} (h0 : 0 ≤ v) (h1 : v ≤ V) (hV : V ≤ 4611686018427387904) : wrap64 (v + 1) = v + 1 := by unfold wrap64; omega
theorem Row.two {a b mid : ByteArray} {r q : Rf} {n1 n2 : List Rf} {t1 t2 : List It} (h1 : P r a mid n1 t1) (h2 : P q mid b n2 t2) (h3 : bl a mid = true) (h4 : blw mid b) : Row P [r, q] [mid] a b (n1 ++ n2) (t1 ++ t2) := .cons h1 h3 h4 (.one h2)
def Small (t : Tm) (x : Rf) : Prop := (t.at x).refs.length ≤ 4
def Ver (t : Tm) (V : Int) (x : Rf) : Prop := 0 ≤ (t.at x).ver ∧ (t.at x).ver ≤ V
theorem at_of {t t' : Tm} {x : Rf} (h : t'.map x = t.map x) (hs : t.map x ≠ none) : t'.at x = t.at x := by
 obtain ⟨n, hn⟩ := Option.ne_none_iff_exists'.1 hs
 rw [Tm.map_at hn, Tm.map_at (h.trans hn)]
structure CP (N : Nat) (t : Tm) (s : (Tm × List Trn) × Bool) (h : Nat) (r : Rf) (lo hi : ByteArray) (ns : List Rf) (its : List It) (tl : List Rf) (V : Int) (fr ns' : List Rf) (q : Rf) : Prop where
 up : Up N t s.1.1 ns fr
 cnt : fr.length = cntB t tl
 rep : Rep s.1.1.map h r lo hi ns' its
 perm : ns'.Perm (ns ++ fr)
 small : ∀ x ∈ ns', x ≠ r → Small s.1.1 x
 ver : ∀ x ∈ ns', Ver s.1.1 (V + 2) x
 verR : Ver s.1.1 (V + 1) r
 stop : s.2 = true → Small s.1.1 r
 iff : s.2 = true ↔ cntB t tl < tl.length
 more : s.2 = false → (s.1.1.at r).refs.length = (t.at r).refs.length + 1
 lk : ∀ c, look s.1.1.map c h r = look t.map c h r ∨ look t.map c h r = q
 evo : Evo t.map s.1.1.map
 bq : Bump t.map s.1.1.map q
theorem climb_rep (t : Tm) (hw : t.Wf N) (key : ByteArray) (r0 : Rf) (V : Int) (hV : 1 ≤ V) (hV2 : V ≤ 4611686018427387000) :
  ∀ (h : Nat) (r : Rf) (lo hi : ByteArray) (ns : List Rf) (its : List It), Rep t.map h r lo hi ns its → ns.Nodup → (∀ x ∈ ns, Small t x) → (∀ x ∈ ns, Ver t V x) → bl key lo = false → blw key hi →
  ∀ (l : List (Rf × Nat)) (q : Rf) (tl : List Rf), Dn t key r l q → wayL l q = r :: tl → fnd key (t.at q).keys = false → (cntB t tl : Int) ≤ t.p.room →
  ∃ fr ns', CP N t (climb q (t.set q ((t.at q).put key r0).1) (r :: tl)) h r lo hi ns (insI (key, r0) its) tl V fr ns' q
 | 0, r, lo, hi, ns, its, hr, hnd, hsm, hv, hlo, hhi, l, q, tl, hd, hway, hf, hrm => by
  obtain ⟨n, a, b, c, d, e, f, g⟩ := id hr
  have hat := Tm.map_at a
  rcases hd.inv with ⟨_, rfl, rfl⟩ | ⟨r', l2, h1, _⟩
  ·have htl : tl = [] := by simpa [wayL] using hway.symm
   subst htl
   rw [hat] at hf ⊢
   obtain ⟨p1, p2, p3⟩ := hr.putLeaf (r0 := r0) a hlo hhi hf
   obtain ⟨m1, m2, m3, m4, m5⟩ := Tm.mset (n := (n.put key r0).1) hw a
   have hr1 : (t.set q (n.put key r0).1).at q = (n.put key r0).1 := Tm.map_at (by rw [m1]; exact upd_self _ _ _)
   have hvr := hv q (by rw [f]; simp)
   unfold Ver at hvr
   rw [hat] at hvr
   have hw1 := wrap_up hvr.1 hvr.2 (by omega)
   have hver : Ver (t.set q (n.put key r0).1) (V + 1) q := by unfold Ver; rw [hr1, p3, hw1]; omega
   refine ⟨[], ns, ⟨m2, by show (t.set q (n.put key r0).1).p.room = _; simp [m5], m3, m4, by simp, .nil, fun x hx _ => ?_⟩, rfl, (show Rep (t.set q (n.put key r0).1).map _ _ _ _ _ _ from by rw [m1]; exact p1), by simp, fun x hx hne => ?_, fun x hx => ?_, hver, (fun e => by cases e), ⟨fun e => (by cases e), fun e => (by simp at e)⟩, fun _ => ?_, fun c => .inl rfl, (show Evo t.map (t.set q (n.put key r0).1).map from by rw [m1]; exact Evo.upd a (.inr (by rw [p3, hw1]; omega))), (show Bump t.map (t.set q (n.put key r0).1).map q from by rw [m1]; exact Bump.upd a (by rw [p3, hw1]; omega))⟩
   ·show (t.set q (n.put key r0).1).map x = _
    rw [m1]
    exact upd_ne (fun e => hx (by rw [e, f]; simp))
   ·rw [f] at hx
    exact absurd (List.mem_singleton.1 hx) hne
   ·rw [f] at hx
    rw [List.mem_singleton.1 hx]
    exact ⟨hver.1, by have := hver.2; show _ ≤ V + 2; simp only [climb]; omega⟩
   ·show ((t.set q (n.put key r0).1).at q).refs.length = _
    rw [hr1, p2, hat]
  ·rw [hat, b] at h1; cases h1
 | h + 1, r, lo, hi, ns, its, hr, hnd, hsm, hv, hlo, hhi, l, q, tl, hd, hway, hf, hrm => by
  obtain ⟨n, ns0, a, b, c, d⟩ := id hr
  have hat := Tm.map_at a
  have hsh := hr.shape a
  have hk := d.keys
  have hl := d.len
  rcases hd.inv with ⟨h1, _⟩ | ⟨r', l2, _, _, hk', hd', rfl⟩
  ·rw [hat, b] at h1; cases h1
  obtain ⟨tl', htl'⟩ := hd'.way
  have htl : tl = r' :: tl' := by
   have : wayL ((r, (t.at r).child key) :: l2) q = r :: wayL l2 q := rfl
   rw [this, htl'] at hway
   exact (List.cons.inj hway).2.symm
  subst htl
  obtain ⟨i, hie⟩ : ∃ i, plc key n.keys + (if fnd key n.keys then 1 else 0) = i := ⟨_, rfl⟩
  have hc : (t.at r).child key = i := by rw [hat]; unfold Nd.Nd.child; rw [b, hsh]; simpa using hie
  rw [hc, hat] at hk'
  obtain ⟨h1, h2, h3⟩ := child_facts hk.1 hie
  obtain ⟨A, B, n1, n2, n3, t1, t2, t3, e1, e2, e3, e4, e5, e6, e7, e8⟩ := d.focus (fun _ _ _ _ _ h => h.range) i 1 (Nat.le_refl _) (by omega)
  have hd1 : (n.refs.drop i).take 1 = [r'] := by
   rw [List.drop_eq_getElem_cons (by omega), (List.getElem?_eq_some_iff.1 hk').2]
   rfl
  rw [hd1] at e1
  have e1' : Rep t.map h r' A B n2 t2 := by
   cases e1 with
   | one e1 => exact e1
  have hA : bl key A = false := by
   rcases e4 with ⟨_, rfl⟩ | ⟨e4, e4', _⟩
   ·exact hlo
   ·exact h2 A e4 e4'
  have hB : blw key B := by
   rcases e5 with ⟨_, rfl⟩ | ⟨_, e5', _⟩
   ·exact hhi
   ·rw [Nat.add_sub_cancel] at e5'
    exact .inr (h3 B e5')
  have hsub : ∀ x ∈ n2, x ∈ ns := fun x hx => by rw [c, e2]; simp [hx]
  have hnd0 := hnd
  rw [c, e2] at hnd
  obtain ⟨hnr, hnd1⟩ := List.nodup_cons.1 hnd
  have hnd2 : n2.Nodup := (List.nodup_append.1 (List.nodup_append.1 hnd1).1).2.1
  have hle := cntB_cons t r' tl'
  have hlt := cntB_le t tl'
  have hrm' : (cntB t tl' : Int) ≤ t.p.room := by
   rw [hle] at hrm
   split at hrm
   ·split at hrm <;> omega
   ·exact hrm
  obtain ⟨fr, ns2, cp⟩ := climb_rep t hw key r0 V hV hV2 h r' A B n2 t2 e1' hnd2 (fun x hx => hsm x (hsub x hx)) (fun x hx => hv x (hsub x hx)) hA hB l2 q tl' hd' htl' hf hrm'
  obtain ⟨s, hs⟩ : ∃ s, climb q (t.set q ((t.at q).put key r0).1) (r' :: tl') = s := ⟨_, rfl⟩
  rw [hs] at cp
  have hcl : climb q (t.set q ((t.at q).put key r0).1) (r :: r' :: tl') = if s.2 = true then s else if (s.1.1.at r').refs.length ≤ 4 then (s.1, true) else (stp q s.1 r' (some r), false) := by rw [← hs]; rfl
  have hins : insI (key, r0) its = t1 ++ insI (key, r0) t2 ++ t3 := by
   rw [e3]
   refine insI_mid (fun y hy => bl_of_ble (e6 y hy) hA) (fun y hy => ?_)
   obtain ⟨hb1, hb2⟩ := e7 y hy
   exact bl_of_ble (hB.elim (fun e => absurd e hb1) id) hb2
  -- what is off the kid
  have hS : ∀ x ∈ ns, t.map x ≠ none := fun x hx => isS_of (hr.isS x hx)
  have hfr : ∀ x ∈ ns, x ∉ fr := fun x hx hm => hS x hx (cp.up.fresh x hm)
  have hrns : r ∈ ns := by rw [c]; simp
  have hrn2 : r ∉ n2 := fun hm => hnr (by simp [hm])
  have hr's : r' ∈ n2 := by obtain ⟨_, _, _, e⟩ := e1'.head; rw [e]; simp
  have hn13 : ∀ x, x ∈ n1 ∨ x ∈ n3 → x ∈ ns ∧ x ∉ n2 ∧ x ≠ r := by
   intro x hx
   have hd1 := List.nodup_append.1 hnd1
   have hd2 := List.nodup_append.1 hd1.1
   refine ⟨by rw [c, e2]; rcases hx with hx | hx <;> simp [hx], fun hm => ?_, fun e => hnr (by rw [← e]; rcases hx with hx | hx <;> simp [hx])⟩
   rcases hx with hx | hx
   ·exact hd2.2.2 x hx x hm rfl
   ·exact hd1.2.2 x (by simp [hm]) x hx rfl
  have off : ∀ x, x ∈ n1 ∨ x ∈ n3 → s.1.1.map x = t.map x := fun x hx => cp.up.off x (hn13 x hx).2.1 (hfr x (hn13 x hx).1)
  have offr : s.1.1.map r = t.map r := cp.up.off r hrn2 (hfr r hrns)
  have hperm : (r :: (n1 ++ ns2 ++ n3)).Perm (ns ++ fr) := by
   rw [c, e2, List.cons_append]
   refine List.Perm.cons _ ?_
   have p1 : (n1 ++ ns2 ++ n3).Perm (n1 ++ (n2 ++ fr) ++ n3) := List.Perm.append_right _ (List.Perm.append_left _ cp.perm)
   refine p1.trans ?_
   simp only [List.append_assoc]
   exact List.Perm.append_left _ (List.Perm.append_left _ List.perm_append_comm)
  have hmem2 : ∀ x, x ∈ ns2 → x ∈ n2 ∨ x ∈ fr := fun x hx => by have := cp.perm.mem_iff.1 hx; simpa using this
  have hrest : ∀ x, x ∈ n1 ∨ x ∈ n3 → s.1.1.at x = t.at x := fun x hx => at_of (off x hx) (hS x (hn13 x hx).1)
  have hratr : s.1.1.at r = n := by rw [at_of offr (hS r hrns), hat]
  have upS : Up N t s.1.1 ns fr := ⟨cp.up.wf, cp.up.room, cp.up.root, cp.up.gone, cp.up.fresh, cp.up.nod, fun x hx hx2 => cp.up.off x (fun hm => hx (hsub x hm)) hx2⟩
  have g1 : n.refs.take i ++ [r'] ++ n.refs.drop (i + 1) = n.refs := by
   rw [← hd1, List.append_assoc]
   conv => rhs; rw [← List.take_append_drop i n.refs, ← List.take_append_drop 1 (n.refs.drop i)]
   rw [List.drop_drop]
  have g2 : n.keys.take i ++ [] ++ n.keys.drop (i + 1 - 1) = n.keys := by
   rw [List.append_nil, Nat.add_sub_cancel, List.take_append_drop]
  have hloc := e8 (fun x _ _ _ _ => x = r' ∨ ∃ lo hi ns' its', Rep t.map h x lo hi ns' its' ∧ ∀ y ∈ ns', y ∈ n1 ∨ y ∈ n3) [r'] [] [] [] (fun x lo hi ns' its' hx hp => .inr ⟨lo, hi, ns', its', hp, hx⟩) (.one (.inl rfl))
  rw [g1, g2] at hloc
  have loc : ∀ x ∈ n.refs, x = r' ∨ ∃ lo hi ns' its', Rep t.map h x lo hi ns' its' ∧ ∀ y ∈ ns', y ∈ n1 ∨ y ∈ n3 := fun x hx => by
   obtain ⟨_, _, _, _, h1, _⟩ := hloc.each x hx
   exact h1
  have lkS : ∀ c, look s.1.1.map c (h + 1) r = look t.map c (h + 1) r ∨ look t.map c (h + 1) r = q := fun c => by
   rw [look_succ a, look_succ (offr.trans a)]
   rcases loc _ (kd_mem c hl) with e | ⟨lo', hi', ns', its', k1, k2⟩
   ·rw [e]; exact cp.lk c
   ·left
    exact k1.look_frame c (fun y hy => off y (k2 y hy))
  -- nothing more is parted
  have one : ∀ b0 : Bool, Small s.1.1 r' → b0 = true → (cntB t (r' :: tl') = cntB t tl') → (cntB t (r' :: tl') < (r' :: tl').length) → CP N t (s.1, b0) (h + 1) r lo hi ns (insI (key, r0) its) (r' :: tl') V fr (r :: (n1 ++ ns2 ++ n3)) q := by
   intro b0 hsm' hb hcnt hlt'
   have hrow := e8 (Rep s.1.1.map h) [r'] [] ns2 (insI (key, r0) t2) (fun r lo hi ns' its' hx hp => hp.frame (fun x hx' => off x (hx x hx'))) (.one cp.rep)
   refine ⟨upS, by rw [cp.cnt, hcnt], ⟨n, n1 ++ ns2 ++ n3, offr.trans a, b, rfl, ?_⟩, hperm, fun x hx hne => ?_, fun x hx => ?_, ?_, fun _ => ?_, ⟨fun _ => hlt', fun _ => hb⟩, (fun e => by rw [hb] at e; cases e), lkS, cp.evo, cp.bq⟩
   ·rw [hins]
    have g1 : n.refs.take i ++ [r'] ++ n.refs.drop (i + 1) = n.refs := by
     rw [← hd1, List.append_assoc]
     conv => rhs; rw [← List.take_append_drop i n.refs, ← List.take_append_drop 1 (n.refs.drop i)]
     rw [List.drop_drop]
    have g2 : n.keys.take i ++ [] ++ n.keys.drop (i + 1 - 1) = n.keys := by
     rw [List.append_nil, Nat.add_sub_cancel, List.take_append_drop]
    rw [g1, g2] at hrow
    exact hrow
   ·rcases List.mem_cons.1 hx with rfl | hx
    ·exact absurd rfl hne
    ·simp only [List.mem_append] at hx
     rcases hx with (hx | hx) | hx
     ·unfold Small; rw [hrest x (.inl hx)]; exact hsm x (hn13 x (.inl hx)).1
     ·by_cases e : x = r'
      ·rw [e]; exact hsm'
      ·exact cp.small x hx e
     ·unfold Small; rw [hrest x (.inr hx)]; exact hsm x (hn13 x (.inr hx)).1
   ·rcases List.mem_cons.1 hx with rfl | hx
    ·have := hv x hrns
     unfold Ver at this ⊢
     rw [hratr]; rw [hat] at this; omega
    ·simp only [List.mem_append] at hx
     rcases hx with (hx | hx) | hx
     ·have := hv x (hn13 x (.inl hx)).1
      unfold Ver at this ⊢
      rw [hrest x (.inl hx)]; omega
     ·exact cp.ver x hx
     ·have := hv x (hn13 x (.inr hx)).1
      unfold Ver at this ⊢
      rw [hrest x (.inr hx)]; omega
   ·have := hv r hrns
    unfold Ver at this ⊢
    rw [hratr]; rw [hat] at this; omega
   ·unfold Small; rw [hratr]; have := hsm r hrns; unfold Small at this; rw [hat] at this; exact this
  rw [hcl]
  by_cases hs2 : s.2 = true
  ·rw [if_pos hs2]
   have := cp.iff.1 hs2
   have hcnt : cntB t (r' :: tl') = cntB t tl' := by rw [hle, if_neg (by omega)]
   exact ⟨fr, _, one s.2 (cp.stop hs2) hs2 hcnt (by rw [hcnt, List.length_cons]; omega)⟩
  ·rw [if_neg hs2]
   have hs2' : s.2 = false := by simpa using hs2
   have hfull : cntB t tl' = tl'.length := by
    have : ¬ cntB t tl' < tl'.length := fun h => hs2 (cp.iff.2 h)
    omega
   have hmore := cp.more hs2'
   have hr'S := hsm r' (hsub r' hr's)
   unfold Small at hr'S
   by_cases h4 : (s.1.1.at r').refs.length ≤ 4
   ·rw [if_pos h4]
    have hcnt : cntB t (r' :: tl') = cntB t tl' := by
     rw [hle, if_pos hfull, if_neg]
     unfold big
     simp
     omega
    exact ⟨fr, _, one true h4 rfl hcnt (by rw [hcnt, List.length_cons]; omega)⟩
   ·rw [if_neg h4]
    have hcnt : cntB t (r' :: tl') = cntB t tl' + 1 := by
     rw [hle, if_pos hfull, if_pos]
     unfold big
     simp
     omega
    have hrm1 : ¬ s.1.1.p.room = 0 := by
     have := cp.up.room
     rw [cp.cnt] at this
     rw [hcnt] at hrm
     omega
    obtain ⟨nn, nns, hnn, hns2⟩ := cp.rep.head
    have hnat := Tm.map_at hnn
    have hns2nd : ns2.Nodup := by
     refine cp.perm.nodup_iff.2 (List.nodup_append.2 ⟨hnd2, cp.up.nod, fun x hx y hy e => ?_⟩)
     exact hfr x (hsub x hx) (by rw [e]; exact hy)
    obtain ⟨am, mid, bm, hsp⟩ : ∃ a mid b, nn.split = (a, mid, b) := ⟨_, _, _, rfl⟩
    obtain ⟨T1, hT1⟩ : ∃ T, s.1.1.set r' am = T := ⟨_, rfl⟩
    obtain ⟨a1, a2, a3, a4, a5⟩ := Tm.mset (n := am) cp.up.wf hnn
    rw [hT1] at a1 a2 a3 a4 a5
    obtain ⟨q0, hq0⟩ : ∃ q0, T1.tk = q0 := ⟨_, rfl⟩
    obtain ⟨T2, hT2⟩ : ∃ T, T1.take bm = T := ⟨_, rfl⟩
    obtain ⟨b1, b2, b3, b4, b5, b6⟩ := Tm.mtake (n := bm) a2 (by rw [a5]; exact hrm1)
    rw [hT2] at b1 b2 b3 b4 b5
    rw [hq0, a1] at b6
    rw [hq0, a1] at b1
    have hqr' : q0 ≠ r' := fun e => by rw [e, upd_self] at b6; cases b6
    rw [upd_ne hqr'] at b6
    have hq2 : q0 ∉ ns2 := fun hm => isS_of (cp.rep.isS q0 hm) b6
    have hq2' : q0 ∉ n2 ∧ q0 ∉ fr := ⟨fun hm => hq2 (cp.perm.mem_iff.2 (by simp [hm])), fun hm => hq2 (cp.perm.mem_iff.2 (by simp [hm]))⟩
    have hqt : t.map q0 = none := by rw [← cp.up.off q0 hq2'.1 hq2'.2]; exact b6
    have hqns : q0 ∉ ns := fun hm => hS q0 hm hqt
    have hqr : q0 ≠ r := fun e => hqns (by rw [e]; exact hrns)
    have hrr' : r ≠ r' := fun e => hrn2 (by rw [e]; exact hr's)
    have hlen5 : nn.refs.length = 5 := by rw [← hnat]; omega
    obtain ⟨am', mid', bm', k1, k2, k3, k4, k5, k6, k7, k8, k9, nsA, nsB, itA, itB, k10, k11, k12, nl, nr, k13, k14, k15⟩ := cp.rep.cutNode (q := q0) hnn (by omega) hq2 hns2nd
    rw [hsp] at k1
    cases k1
    have hhalf : nn.half = 3 := by unfold Nd.Nd.half; rw [hlen5]
    have hT2r : T2.map r = some n := by rw [b1, upd_ne (Ne.symm hqr), upd_ne hrr', offr, a]
    have hT2at := Tm.map_at hT2r
    obtain ⟨ni, hni⟩ : ∃ ni, n.insert (idx r' n.refs) mid q0 = ni := ⟨_, rfl⟩
    obtain ⟨c1, c2, c3, c4, c5⟩ := Tm.mset (n := ni) b2 hT2r
    obtain ⟨T3, hT3⟩ : ∃ T, T2.set r ni = T := ⟨_, rfl⟩
    rw [hT3] at c1 c2 c3 c4 c5
    have hsplit : s.1.1.split r' (some r) = (T3, q0) := by
     unfold Tm.split
     simp only []
     rw [hnat, hsp]
     simp only []
     rw [hT1, hT2, hT2at, hq0, hni, hT3]
    have hst : (stp q s.1 r' (some r)).1 = T3 := by unfold stp; rw [hsplit]
    have hrefs : n.refs.Nodup := (List.nodup_cons.1 (by rw [c] at hnd0; exact hnd0)).2.sublist (d.heads (fun r lo hi ns its hp => by obtain ⟨_, ns', _, e⟩ := hp.head; exact ⟨ns', e⟩))
    have hidx : idx r' n.refs = (i : Int) := by
     have hF : idxF r' n.refs = i := idxF_hit hk' (fun j x hj hx e => by
      subst e
      have := (List.getElem?_inj (List.getElem?_eq_some_iff.1 hx).1 hrefs).1 (hx.trans hk'.symm)
      omega)
     unfold idx
     rw [hF, if_pos (by omega)]
    have hnie : ni = { n with ver := wrap64 (n.ver + 1), keys := n.keys.take i ++ [mid] ++ n.keys.drop i, refs := n.refs.take (i + 1) ++ [q0] ++ n.refs.drop (i + 1) } := by
     rw [← hni, hidx]
     have hkid : n.kid (i : Int) = true := by
      unfold Nd.Nd.kid
      rw [b, hsh]
      simp
      omega
     unfold Nd.Nd.insert
     rw [if_pos hkid]
     rfl
    have hvr := hv r hrns
    unfold Ver at hvr
    rw [hat] at hvr
    have hwr := wrap_up hvr.1 hvr.2 (by omega)
    have hvr' := cp.verR
    unfold Ver at hvr'
    rw [hnat] at hvr'
    have hwr' := wrap_up hvr'.1 hvr'.2 (by omega)
    have hfr2 : ∀ x, x ≠ r → T3.map x = upd (upd s.1.1.map r' am) q0 bm x := fun x hx => by rw [c1, upd_ne hx, b1]
    have hA3 : ∀ x ∈ nsA ++ nsB, x ≠ r := fun x hx e => by
     subst e
     rw [k14, k15] at hx
     have : x = r' ∨ x = q0 ∨ x ∈ ns2 := by rw [k13]; simp only [List.mem_append, List.mem_cons] at hx ⊢; grind
     rcases this with e | e | hm
     ·exact hrr' e
     ·exact hqr e.symm
     ·rcases hmem2 x hm with h | h
      ·exact hrn2 h
      ·exact hfr x hrns h
    have at3 : ∀ x, x ≠ r → x ≠ q0 → x ≠ r' → s.1.1.map x ≠ none → T3.at x = s.1.1.at x := fun x h1 h2 h3 h4 => at_of (by rw [hfr2 x h1, upd_ne h2, upd_ne h3]) h4
    have hr3 : T3.at r = ni := Tm.map_at (by rw [c1]; exact upd_self _ _ _)
    have hr'3 : T3.at r' = am := Tm.map_at (by rw [hfr2 r' (Ne.symm hrr'), upd_ne (Ne.symm hqr')]; exact upd_self _ _ _)
    have hq3 : T3.at q0 = bm := Tm.map_at (by rw [hfr2 q0 hqr]; exact upd_self _ _ _)
    have h13 : ∀ x, x ∈ n1 ∨ x ∈ n3 → T3.at x = t.at x := fun x hx => by
     obtain ⟨g1, g2, g3⟩ := hn13 x hx
     rw [at3 x g3 (fun e => hqns (by rw [← e]; exact g1)) (fun e => g2 (by rw [e]; exact hr's)) (by rw [off x hx]; exact hS x g1), hrest x hx]
    have hns3 : ∀ x, x ∈ nl ++ nr → x ∈ ns2 ∧ x ≠ r' ∧ x ≠ q0 ∧ x ≠ r := fun x hx => by
     have hm : x ∈ ns2 := by rw [k13]; exact List.mem_cons_of_mem _ hx
     refine ⟨hm, fun e => ?_, fun e => hq2 (by rw [← e]; exact hm), fun e => ?_⟩
     ·rw [k13] at hns2nd
      exact (List.nodup_cons.1 hns2nd).1 (by rw [← e]; exact hx)
     ·rcases hmem2 x hm with h | h
      ·exact hrn2 (by rw [← e]; exact h)
      ·exact hfr r hrns (by rw [← e]; exact h)
    have hns3at : ∀ x, x ∈ nl ++ nr → T3.at x = s.1.1.at x := fun x hx => by
     obtain ⟨g1, g2, g3, g4⟩ := hns3 x hx
     exact at3 x g4 g3 g2 (isS_of (cp.rep.isS x g1))
    have hrow := e8 (Rep T3.map h) [r', q0] [mid] (nsA ++ nsB) (itA ++ itB) (fun r lo hi ns' its' hx hp => hp.frame (fun x hx' => by
     obtain ⟨g1, g2, g3⟩ := hn13 x (hx x hx')
     rw [hfr2 x g3, upd_ne (fun e => hqns (by rw [← e]; exact g1)), upd_ne (fun e => g2 (by rw [e]; exact hr's)), off x (hx x hx')])) (Row.two (k10.frame (fun x hx => hfr2 x (hA3 x (List.mem_append_left _ hx)))) (k11.frame (fun x hx => hfr2 x (hA3 x (List.mem_append_right _ hx)))) k2 k3)
    have hni3 : T3.map r = some ni := by rw [c1]; exact upd_self _ _ _
    have ham3 : T3.map r' = some am := by rw [hfr2 r' (Ne.symm hrr'), upd_ne (Ne.symm hqr')]; exact upd_self _ _ _
    have hbm3 : T3.map q0 = some bm := by rw [hfr2 q0 hqr]; exact upd_self _ _ _
    have hT3s : ∀ y ∈ ns2, y ≠ r' → T3.map y = s.1.1.map y := fun y hy hne => by
     have hyr : y ≠ r := fun e => by
      rcases hmem2 y hy with h | h
      ·exact hrn2 (by rw [← e]; exact h)
      ·exact hfr r hrns (by rw [← e]; exact h)
     rw [hfr2 y hyr, upd_ne (fun e => hq2 (by rw [← e]; exact hy)), upd_ne hne]
    have hT3o : ∀ y, y ∈ n1 ∨ y ∈ n3 → T3.map y = t.map y := fun y hy => by
     obtain ⟨g1, g2, g3⟩ := hn13 y hy
     rw [hfr2 y g3, upd_ne (fun e => hqns (by rw [← e]; exact g1)), upd_ne (fun e => g2 (by rw [e]; exact hr's)), off y hy]
    have hkdi : ∀ c, kd c ni.refs ni.keys = if kd c n.refs n.keys = r' then (if bl c mid = true then r' else q0) else kd c n.refs n.keys := fun c => by
     have hks : Asc (n.keys.take i ++ [mid] ++ n.keys.drop i) := by
      have := hrow.keys.1
      rw [Nat.add_sub_cancel] at this
      exact this
     rw [hnie]
     exact kd_ins c i n.refs n.keys hk' hl hrefs hks
    have hvr2 := cp.verR
    unfold Ver at hvr2
    rw [hnat] at hvr2
    have hevo : Evo s.1.1.map T3.map := fun y k hy => by
     by_cases y1 : y = r
     ·subst y1
      rw [offr, a] at hy
      cases hy
      exact ⟨ni, hni3, .inr (by rw [hnie]; simp only []; rw [hwr]; omega)⟩
     ·by_cases y2 : y = r'
      ·subst y2
       rw [hnn] at hy
       cases hy
       exact ⟨am, ham3, .inr (by rw [k6, hwr']; omega)⟩
      ·have y3 : y ≠ q0 := fun e => by rw [e, b6] at hy; cases hy
       exact ⟨k, by rw [hfr2 y y1, upd_ne y3, upd_ne y2]; exact hy, .inl rfl⟩
    refine ⟨q0 :: fr, r :: (n1 ++ (nsA ++ nsB) ++ n3), ?_⟩
    have hcp : ∀ S : (Tm × List Trn) × Bool, S.1.1 = T3 → S.2 = false → CP N t S (h + 1) r lo hi ns (insI (key, r0) its) (r' :: tl') V (q0 :: fr) (r :: (n1 ++ (nsA ++ nsB) ++ n3)) q := by
     intro S hS1 hS2
     refine ⟨⟨by rw [hS1]; exact c2, ?_, by rw [hS1, c3, b3, a3, cp.up.root], by rw [hS1, c4, b4, a4, cp.up.gone], fun f hf => ?_, List.nodup_cons.2 ⟨hq2'.2, cp.up.nod⟩, fun x hx hx2 => ?_⟩, ?_, ?_, ?_, fun x hx hne => ?_, fun x hx => ?_, ?_, (fun e => by rw [hS2] at e; cases e), ⟨(fun e => by rw [hS2] at e; cases e), fun e => ?_⟩, fun _ => ?_, fun c => ?_, ?_, ?_⟩
     ·rw [hS1, c5, b5, a5, cp.up.room, List.length_cons]; omega
     ·rcases List.mem_cons.1 hf with rfl | hf
      ·exact hqt
      ·exact cp.up.fresh f hf
     ·rw [hS1, hfr2 x (fun e => hx (by rw [e]; exact hrns)), upd_ne (fun e => hx2 (by rw [e]; simp)), upd_ne (fun e => hx (by rw [e]; exact hsub r' hr's))]
      exact upS.off x hx (fun hm => hx2 (List.mem_cons_of_mem _ hm))
     ·rw [List.length_cons, cp.cnt, hcnt]
     ·rw [hS1]
      refine ⟨ni, n1 ++ (nsA ++ nsB) ++ n3, by rw [c1]; exact upd_self _ _ _, by rw [hnie]; exact b, rfl, ?_⟩
      rw [hins, k12]
      have g1 : n.refs.take i ++ [r', q0] ++ n.refs.drop (i + 1) = ni.refs := by
       rw [hnie]
       simp only []
       rw [List.take_add_one, hk']
       simp
      have g2 : n.keys.take i ++ [mid] ++ n.keys.drop (i + 1 - 1) = ni.keys := by
       rw [hnie, Nat.add_sub_cancel]
      rw [g1, g2] at hrow
      exact hrow
     ·have p1 : (r :: (n1 ++ (nsA ++ nsB) ++ n3)).Perm (q0 :: (r :: (n1 ++ ns2 ++ n3))) := by
       rw [k13, k14, k15]
       have := List.perm_middle (a := q0) (l₁ := r :: (n1 ++ (r' :: nl))) (l₂ := nr ++ n3)
       simpa [List.append_assoc] using this
      exact p1.trans ((List.Perm.cons _ hperm).trans List.perm_middle.symm)
     ·unfold Small
      rw [hS1]
      rcases List.mem_cons.1 hx with rfl | hx
      ·exact absurd rfl hne
      ·rw [k14, k15] at hx
       have : x = r' ∨ x = q0 ∨ x ∈ nl ++ nr ∨ x ∈ n1 ∨ x ∈ n3 := by simp only [List.mem_append, List.mem_cons] at hx ⊢; grind
       rcases this with rfl | rfl | hx | hx
       ·rw [hr'3, k4, hhalf]; omega
       ·rw [hq3, k5, hhalf, hlen5]; omega
       ·rw [hns3at x hx]; exact cp.small x (hns3 x hx).1 (hns3 x hx).2.1
       ·rw [h13 x hx]; exact hsm x (hn13 x hx).1
     ·unfold Ver
      rw [hS1]
      have : x = r ∨ x = r' ∨ x = q0 ∨ x ∈ nl ++ nr ∨ x ∈ n1 ∨ x ∈ n3 := by rw [k14, k15] at hx; simp only [List.mem_append, List.mem_cons] at hx ⊢; grind
      rcases this with rfl | rfl | rfl | hx | hx
      ·rw [hr3, hnie]; simp only []; rw [hwr]; omega
      ·rw [hr'3, k6, hwr']; omega
      ·rw [hq3, k7]; omega
      ·rw [hns3at x hx]; exact cp.ver x (hns3 x hx).1
      ·rw [h13 x hx]; have := hv x (hn13 x hx).1; unfold Ver at this; omega
     ·unfold Ver
      rw [hS1, hr3, hnie]; simp only []; rw [hwr]; omega
     ·rw [hcnt, List.length_cons] at e; omega
     ·rw [hS1, hr3, hat, hnie]
      simp only [List.length_append, List.length_take, List.length_drop, List.length_singleton]
      omega
     ·rw [hS1, look_succ a, look_succ hni3, hkdi c]
      by_cases e : kd c n.refs n.keys = r'
      ·rw [if_pos e, e]
       rcases cp.rep.look_cut (m3 := T3.map) hns2nd hnn (by omega) hsp ham3 hbm3 (fun y hy hne => hT3s y hy hne) c with h0 | h0
       ·right
        subst h0
        rcases hd'.inv with ⟨_, _, e⟩ | ⟨_, _, h1, _⟩
        ·exact e.symm
        ·exfalso
         obtain ⟨n', a', b', _⟩ := e1'
         rw [Tm.map_at a', b'] at h1; cases h1
       ·rw [h0]
        exact cp.lk c
      ·rw [if_neg e]
       left
       rcases loc _ (kd_mem c hl) with e2 | ⟨lo', hi', ns', its', k1, k2⟩
       ·exact absurd e2 e
       ·exact k1.look_frame c (fun y hy => hT3o y (k2 y hy))
     ·rw [hS1]; exact cp.evo.trans hevo
     ·rw [hS1]; exact cp.bq.evo hevo
    exact hcp _ hst rfl
end
section
attribute [local irreducible] bl
variable {N : Nat}
def runsB (s : List Rf) (leaf : Rf) : List (Ix s.length) → Tm × List Trn → (Tm × List Trn) × Bool
 | [], p => (p, false)
 | x :: xs, p => if smallI s p x = true then (p, true) else runsB s leaf xs (stpI s leaf p x)
theorem runsB_snoc (s : List Rf) (leaf : Rf) (x : Ix s.length) : ∀ (xs : List (Ix s.length)) (p : Tm × List Trn), runsB s leaf (xs ++ [x]) p = if (runsB s leaf xs p).2 = true then runsB s leaf xs p else if smallI s (runsB s leaf xs p).1 x = true then ((runsB s leaf xs p).1, true) else (stpI s leaf (runsB s leaf xs p).1 x, false)
 | [], p => rfl
 | y :: xs, p => by
  rw [List.cons_append, runsB, runsB]
  by_cases h : smallI s p y = true
  ·rw [if_pos h, if_pos h]
   rfl
  ·rw [if_neg h, if_neg h]
   exact runsB_snoc s leaf x xs _
theorem runs_eq (s : List Rf) (leaf : Rf) : ∀ (xs : List (Ix s.length)) (p : Tm × List Trn), runsI s leaf xs p = (runsB s leaf xs p).1
 | [], p => rfl
 | x :: xs, p => by
  rw [runsI, runsB]
  by_cases h : smallI s p x = true
  ·rw [if_pos h, if_pos h]
  ·rw [if_neg h, if_neg h]
   exact runs_eq s leaf xs _
theorem climb_two (leaf : Rf) (t1 : Tm) (r x : Rf) (w : List Rf) : climb leaf t1 (r :: x :: w) = if (climb leaf t1 (x :: w)).2 = true then climb leaf t1 (x :: w) else if ((climb leaf t1 (x :: w)).1.1.at x).refs.length ≤ 4 then ((climb leaf t1 (x :: w)).1, true) else (stp leaf (climb leaf t1 (x :: w)).1 x (some r), false) := rfl
theorem runsB_climb (s : List Rf) (leaf : Rf) (t1 : Tm) : ∀ (k : Nat) (hk : k < s.length), runsB s leaf (ixL s.length k (by omega)) (t1, []) = climb leaf t1 (s.drop (s.length - 1 - k))
 | 0, hk => by
  have e : s.drop (s.length - 1 - 0) = [s[s.length - 1]'(by omega)] := by
   rw [Nat.sub_zero, List.drop_eq_getElem_cons (by omega), List.drop_of_length_le (by omega)]
  rw [e]
  rfl
 | k + 1, hk => by
  have ih := runsB_climb s leaf t1 k (by omega)
  obtain ⟨x, hx⟩ : ∃ x, s[s.length - 1 - k]? = some x := ⟨_, List.getElem?_eq_getElem (by omega)⟩
  obtain ⟨r, hr⟩ : ∃ r, s[s.length - 1 - (k + 1)]? = some r := ⟨_, List.getElem?_eq_getElem (by omega)⟩
  have e2 : s.drop (s.length - 1 - k) = x :: s.drop (s.length - 1 - k + 1) := by
   rw [List.drop_eq_getElem_cons (by omega), (List.getElem?_eq_some_iff.1 hx).2]
  have e1 : s.drop (s.length - 1 - (k + 1)) = r :: s.drop (s.length - 1 - k) := by
   rw [List.drop_eq_getElem_cons (by omega), (List.getElem?_eq_some_iff.1 hr).2, show s.length - 1 - (k + 1) + 1 = s.length - 1 - k by omega]
  have hat : atI s (ixf s.length k (by omega)) = x := by
   unfold atI ixf
   rw [List.getD_eq_getElem?_getD, hx]
   rfl
  have hup : upI s (ixf s.length k (by omega)) = some r := by
   unfold upI ixf
   simp only []
   rw [if_neg (by omega), List.getD_eq_getElem?_getD, show s.length - 1 - k - 1 = s.length - 1 - (k + 1) by omega, hr]
   rfl
  rw [ixL, runsB_snoc, ih, e1, e2, climb_two]
  simp only [smallI, stpI, hat, hup, decide_eq_true_eq]
def rootStep (leaf root : Rf) (s : (Tm × List Trn) × Bool) : Tm × List Trn := if s.2 = true then s.1 else if (s.1.1.at root).refs.length ≤ 4 then s.1 else stp leaf s.1 root none
theorem runs_climb (leaf root : Rf) (tl : List Rf) (t1 : Tm) : runsI (root :: tl) leaf (ixL (root :: tl).length (root :: tl).length (Nat.le_refl _)) (t1, []) = rootStep leaf root (climb leaf t1 (root :: tl)) := by
 have h := runsB_climb (root :: tl) leaf t1 tl.length (by simp)
 rw [show (root :: tl).length - 1 - tl.length = 0 by simp, List.drop_zero] at h
 have hL : ixL (root :: tl).length (root :: tl).length (Nat.le_refl _) = ixL (root :: tl).length tl.length (by simp) ++ [ixf (root :: tl).length tl.length (by simp)] := rfl
 have hat : atI (root :: tl) (ixf (root :: tl).length tl.length (by simp)) = root := by
  unfold atI ixf
  simp
 have hup : upI (root :: tl) (ixf (root :: tl).length tl.length (by simp)) = none := by
  unfold upI ixf
  simp
 rw [hL, runs_eq, runsB_snoc, h]
 unfold rootStep
 simp only [smallI, stpI, hat, hup, decide_eq_true_eq]
 split
 ·rfl
 ·split <;> rfl
structure Inv (t : Tm) (N h : Nat) (ns : List Rf) (its : List It) (V : Int) : Prop where
 wf : t.Wf N
 rep : Rep t.map h t.root ⟨#[]⟩ ⟨#[]⟩ ns its
 nod : ns.Nodup
 sm : ∀ x ∈ ns, Small t x
 ver : ∀ x ∈ ns, Ver t V x
 cnt : t.p.room = (N : Int) - ns.length - t.gone.length
theorem Inv.len {t : Tm} {h : Nat} {ns : List Rf} {its : List It} {V : Int} (iv : Inv t N h ns its V) : ns.length + t.gone.length ≤ N := by
 have h1 := iv.cnt
 have h2 := t.p.held_le
 unfold Ar.room at h1
 have h3 := iv.wf.2.2
 omega
theorem Inv.mono {t : Tm} {h : Nat} {ns : List Rf} {its : List It} {V V' : Int} (iv : Inv t N h ns its V) (hV : V ≤ V') : Inv t N h ns its V' :=
 ⟨iv.wf, iv.rep, iv.nod, iv.sm, fun x hx => ⟨(iv.ver x hx).1, Int.le_trans (iv.ver x hx).2 hV⟩, iv.cnt⟩
theorem Inv.dn {t : Tm} {h : Nat} {ns : List Rf} {its : List It} {V : Int} (iv : Inv t N h ns its V) (key : ByteArray) : ∃ l q, Dn t key t.root l q ∧ l.length = h := iv.rep.dn (fun x hx => by have := iv.sm x hx; unfold Small at this; omega)
theorem Inv.put {t : Tm} {h : Nat} {ns : List Rf} {its : List It} {V : Int} (iv : Inv t N h ns its V) (hV : 1 ≤ V) (hV2 : V ≤ 4611686018427387000) (key : ByteArray) (r0 : Rf) {l : List (Rf × Nat)} {q : Rf} (hd : Dn t key t.root l q) (hf : fnd key (t.at q).keys = false) (hr : t.roomFor (wayL l q) = true) :
  ∃ h' ns', Inv (runsI (wayL l q) q (ixL (wayL l q).length (wayL l q).length (Nat.le_refl _)) (t.set q ((t.at q).put key r0).1, [])).1 N h' ns' (insI (key, r0) its) (V + 2) ∧ h ≤ h' ∧ h' ≤ h + 1 ∧ (runsI (wayL l q) q (ixL (wayL l q).length (wayL l q).length (Nat.le_refl _)) (t.set q ((t.at q).put key r0).1, [])).1.gone = t.gone ∧ (∀ c, look (runsI (wayL l q) q (ixL (wayL l q).length (wayL l q).length (Nat.le_refl _)) (t.set q ((t.at q).put key r0).1, [])).1.map c h' (runsI (wayL l q) q (ixL (wayL l q).length (wayL l q).length (Nat.le_refl _)) (t.set q ((t.at q).put key r0).1, [])).1.root = look t.map c h t.root ∨ look t.map c h t.root = q) ∧ Evo t.map (runsI (wayL l q) q (ixL (wayL l q).length (wayL l q).length (Nat.le_refl _)) (t.set q ((t.at q).put key r0).1, [])).1.map ∧ Bump t.map (runsI (wayL l q) q (ixL (wayL l q).length (wayL l q).length (Nat.le_refl _)) (t.set q ((t.at q).put key r0).1, [])).1.map q := by
 obtain ⟨tl, htl⟩ := hd.way
 unfold Tm.roomFor Tm.need at hr
 rw [decide_eq_true_eq] at hr
 rw [htl] at hr
 have hc := cntB_cons t t.root tl
 have hle := cntB_le t tl
 have hle2 := cntB_le t (t.root :: tl)
 have hrm : (cntB t tl : Int) ≤ t.p.room := by
  rw [List.length_cons] at hr
  by_cases e : cntB t tl = tl.length
  ·rw [if_pos e] at hc
   split at hc
   ·rw [if_pos (by omega)] at hr; omega
   ·rw [if_neg (by omega)] at hr; omega
  ·rw [if_neg e] at hc
   rw [if_neg (by omega)] at hr; omega
 obtain ⟨fr, ns', cp⟩ := climb_rep t iv.wf key r0 V hV hV2 h t.root ⟨#[]⟩ ⟨#[]⟩ ns its iv.rep iv.nod iv.sm iv.ver (bl_nil key) (.inl rfl) l q tl hd htl hf hrm
 rw [htl, runs_climb]
 obtain ⟨s, hs⟩ : ∃ s, climb q (t.set q ((t.at q).put key r0).1) (t.root :: tl) = s := ⟨_, rfl⟩
 rw [hs] at cp ⊢
 have hS : ∀ x ∈ ns, t.map x ≠ none := fun x hx => isS_of (iv.rep.isS x hx)
 have hnd : ns'.Nodup := by
  refine cp.perm.nodup_iff.2 (List.nodup_append.2 ⟨iv.nod, cp.up.nod, fun x hx y hy e => ?_⟩)
  subst e
  exact hS x hx (cp.up.fresh x hy)
 have hlen : ns'.length = ns.length + fr.length := by rw [cp.perm.length_eq, List.length_append]
 have hcnt := iv.cnt
 have hroom := cp.up.room
 have hgone := cp.up.gone
 have easy : Small s.1.1 t.root → Inv s.1.1 N h ns' (insI (key, r0) its) (V + 2) := fun hsm => by
  refine ⟨cp.up.wf, by rw [cp.up.root]; exact cp.rep, hnd, fun x hx => ?_, cp.ver, by rw [hgone]; omega⟩
  by_cases e : x = t.root
  ·rw [e]; exact hsm
  ·exact cp.small x hx e
 unfold rootStep
 by_cases hs2 : s.2 = true
 ·rw [if_pos hs2]
  exact ⟨h, ns', easy (cp.stop hs2), Nat.le_refl _, Nat.le_succ _, hgone, fun c => by rw [cp.up.root]; exact cp.lk c, cp.evo, cp.bq⟩
 rw [if_neg hs2]
 by_cases h4 : (s.1.1.at t.root).refs.length ≤ 4
 ·rw [if_pos h4]
  exact ⟨h, ns', easy h4, Nat.le_refl _, Nat.le_succ _, hgone, fun c => by rw [cp.up.root]; exact cp.lk c, cp.evo, cp.bq⟩
 rw [if_neg h4]
 have hs2' : s.2 = false := by simpa using hs2
 have hfull : cntB t tl = tl.length := by
  have : ¬ cntB t tl < tl.length := fun h => hs2 (cp.iff.2 h)
  omega
 have hmore := cp.more hs2'
 have hrns : t.root ∈ ns := by obtain ⟨_, _, _, e⟩ := iv.rep.head; rw [e]; simp
 have hrS := iv.sm t.root hrns
 unfold Small at hrS
 have hbig : big t t.root = true := by unfold big; simp; omega
 rw [if_pos hfull, if_pos hbig] at hc
 rw [if_pos (by rw [List.length_cons]; omega), List.length_cons] at hr
 have hfr := cp.cnt
 have hrm1 : ¬ s.1.1.p.room = 0 := by omega
 obtain ⟨nn, nns, hnn, hns2⟩ := cp.rep.head
 have hnat := Tm.map_at hnn
 obtain ⟨am, mid, bm, hsp⟩ : ∃ a mid b, nn.split = (a, mid, b) := ⟨_, _, _, rfl⟩
 obtain ⟨T1, hT1⟩ : ∃ T, s.1.1.set t.root am = T := ⟨_, rfl⟩
 obtain ⟨a1, a2, a3, a4, a5⟩ := Tm.mset (n := am) cp.up.wf hnn
 rw [hT1] at a1 a2 a3 a4 a5
 obtain ⟨q0, hq0⟩ : ∃ q0, T1.tk = q0 := ⟨_, rfl⟩
 obtain ⟨T2, hT2⟩ : ∃ T, T1.take bm = T := ⟨_, rfl⟩
 obtain ⟨b1, b2, b3, b4, b5, b6⟩ := Tm.mtake (n := bm) a2 (by rw [a5]; exact hrm1)
 rw [hT2] at b1 b2 b3 b4 b5
 rw [hq0, a1] at b6
 rw [hq0, a1] at b1
 have hqr : q0 ≠ t.root := fun e => by rw [e, upd_self] at b6; cases b6
 rw [upd_ne hqr] at b6
 have hq2 : q0 ∉ ns' := fun hm => isS_of (cp.rep.isS q0 hm) b6
 obtain ⟨r2, hr2⟩ : ∃ r2, T2.tk = r2 := ⟨_, rfl⟩
 obtain ⟨nr, hnr⟩ : ∃ nr : Nd.Nd, (⟨false, 1, [mid], [t.root, q0]⟩ : Nd.Nd) = nr := ⟨_, rfl⟩
 obtain ⟨T3, hT3⟩ : ∃ T, T2.take nr = T := ⟨_, rfl⟩
 obtain ⟨c1, c2, c3, c4, c5, c6⟩ := Tm.mtake (n := nr) b2 (by rw [b5, a5]; omega)
 rw [hT3] at c1 c2 c3 c4 c5
 rw [hr2] at c1 c6
 have hlen5 : nn.refs.length = 5 := by rw [← hnat]; omega
 obtain ⟨am', mid', bm', k1, k2, k3, k4, k5, k6, k7, k8, k9, nsA, nsB, itA, itB, k10, k11, k12, nl, nr', k13, k14, k15⟩ := cp.rep.cutNode (q := q0) hnn (by omega) hq2 hnd
 rw [hsp] at k1
 cases k1
 have hhalf : nn.half = 3 := by unfold Nd.Nd.half; rw [hlen5]
 have hsplit : s.1.1.split t.root none = ({ T3 with root := r2 }, q0) := by
  unfold Tm.split
  simp only []
  rw [hnat, hsp]
  simp only []
  rw [hT1, hT2, hq0, hnr, hT3, hr2]
 have hst : (stp q s.1 t.root none).1 = { T3 with root := r2 } := by unfold stp; rw [hsplit]
 rw [hst]
 rw [← b1] at k10 k11
 have hA : ∀ x ∈ nsA ++ nsB, x ≠ r2 := fun x hx e => by
  rcases List.mem_append.1 hx with hx | hx
  ·exact isS_of (k10.isS x hx) (by rw [e]; exact c6)
  ·exact isS_of (k11.isS x hx) (by rw [e]; exact c6)
 have hfr3 : ∀ x ∈ nsA ++ nsB, T3.map x = T2.map x := fun x hx => by rw [c1, upd_ne (hA x hx)]
 have hp : (nsA ++ nsB).Perm (q0 :: ns') := by
  rw [k13, k14, k15]
  have := List.perm_middle (a := q0) (l₁ := t.root :: nl) (l₂ := nr')
  simpa [List.append_assoc] using this
 have hr3 : T3.at r2 = nr := Tm.map_at (by rw [c1]; exact upd_self _ _ _)
 have hrt3 : T3.at t.root = am := Tm.map_at (by rw [hfr3 t.root (by rw [k14]; simp), b1, upd_ne (Ne.symm hqr)]; exact upd_self _ _ _)
 have hq3 : T3.at q0 = bm := Tm.map_at (by rw [hfr3 q0 (by rw [k15]; simp), b1]; exact upd_self _ _ _)
 have hrest : ∀ x ∈ ns', x ≠ t.root → T3.at x = s.1.1.at x := fun x hx hne => by
  have hm : x ∈ nsA ++ nsB := hp.mem_iff.2 (List.mem_cons_of_mem _ hx)
  refine at_of ?_ (isS_of (cp.rep.isS x hx))
  rw [hfr3 x hm, b1, upd_ne (fun e => hq2 (by rw [← e]; exact hx)), upd_ne hne]
 have hvr := cp.verR
 unfold Ver at hvr
 rw [hnat] at hvr
 have hwr := wrap_up hvr.1 hvr.2 (by omega)
 have hns'q : ∀ y ∈ ns', y ≠ q0 := fun y hy e => hq2 (by rw [← e]; exact hy)
 have hT3r : T3.map t.root = some am := by rw [hfr3 t.root (by rw [k14]; simp), b1, upd_ne (Ne.symm hqr)]; exact upd_self _ _ _
 have hT3q : T3.map q0 = some bm := by rw [hfr3 q0 (by rw [k15]; simp), b1]; exact upd_self _ _ _
 have hT3s : ∀ y ∈ ns', y ≠ t.root → T3.map y = s.1.1.map y := fun y hy hne => by
  rw [hfr3 y (hp.mem_iff.2 (List.mem_cons_of_mem _ hy)), b1, upd_ne (hns'q y hy), upd_ne hne]
 have hevo2 : Evo s.1.1.map T3.map := by
  have e1 : Evo s.1.1.map T2.map := by
   rw [b1]
   exact (Evo.upd hnn (.inr (by rw [k6, hwr]; omega))).trans (Evo.new (by rw [upd_ne hqr]; exact b6))
  exact e1.trans (by rw [c1]; exact Evo.new c6)
 have hevo : Evo t.map T3.map := cp.evo.trans hevo2
 refine ⟨h + 1, r2 :: (nsA ++ nsB), ⟨c2, ?_, List.nodup_cons.2 ⟨fun hm => hA r2 hm rfl, hp.nodup_iff.2 (List.nodup_cons.2 ⟨hq2, hnd⟩)⟩, fun x hx => ?_, fun x hx => ?_, ?_⟩, Nat.le_succ _, Nat.le_refl _, by show T3.gone = t.gone; rw [c4, b4, a4, hgone], fun c => ?_, hevo, cp.bq.evo hevo2⟩
 ·show Rep T3.map (h + 1) r2 ⟨#[]⟩ ⟨#[]⟩ (r2 :: (nsA ++ nsB)) (insI (key, r0) its)
  refine ⟨nr, nsA ++ nsB, by rw [c1]; exact upd_self _ _ _, by rw [← hnr], rfl, ?_⟩
  rw [k12, ← hnr]
  exact Row.two (k10.frame (fun x hx => hfr3 x (List.mem_append_left _ hx))) (k11.frame (fun x hx => hfr3 x (List.mem_append_right _ hx))) k2 k3
 ·show (T3.at x).refs.length ≤ 4
  rcases List.mem_cons.1 hx with rfl | hx
  ·rw [hr3, ← hnr]; simp
  ·rcases List.mem_cons.1 (hp.mem_iff.1 hx) with rfl | hx
   ·rw [hq3, k5, hhalf, hlen5]; omega
   ·by_cases e : x = t.root
    ·rw [e, hrt3, k4, hhalf]; omega
    ·rw [hrest x hx e]; exact cp.small x hx e
 ·show 0 ≤ (T3.at x).ver ∧ (T3.at x).ver ≤ V + 2
  rcases List.mem_cons.1 hx with rfl | hx
  ·rw [hr3, ← hnr]; simp only []; omega
  ·rcases List.mem_cons.1 (hp.mem_iff.1 hx) with rfl | hx
   ·rw [hq3, k7]; omega
   ·by_cases e : x = t.root
    ·rw [e, hrt3, k6, hwr]; omega
    ·rw [hrest x hx e]; exact cp.ver x hx
 ·show T3.p.room = (N : Int) - ((r2 :: (nsA ++ nsB)).length : Int) - (T3.gone.length : Int)
  have h5 := hp.length_eq
  rw [c5, b5, a5, hroom, c4, b4, a4, hgone, List.length_cons, h5, List.length_cons, hlen]
  omega
 ·show look T3.map c (h + 1) r2 = _ ∨ _
  have hr2m : T3.map r2 = some nr := by rw [c1]; exact upd_self _ _ _
  have hkd : kd c nr.refs nr.keys = if bl c mid = true then t.root else q0 := by rw [← hnr]; rfl
  rw [look_succ hr2m, hkd]
  rcases cp.rep.look_cut (m3 := T3.map) hnd hnn (by omega) hsp hT3r hT3q hT3s c with h0 | h0
  ·right
   subst h0
   obtain ⟨n', a', b', _⟩ := iv.rep
   rcases hd.inv with ⟨_, _, e⟩ | ⟨_, _, h1, _⟩
   ·exact e.symm
   ·rw [Tm.map_at a', b'] at h1; cases h1
  ·rw [h0]
   exact cp.lk c
theorem Bd.runs {s : List Rf} {leaf : Rf} : ∀ {xs : List (Ix s.length)} {p : Tm × List Trn} {m : Nat}, Bd p.1 m → 2 ≤ m → Bd (runsI s leaf xs p).1 (m + xs.length)
 | [], p, m, h, _ => h
 | x :: xs, p, m, h, hm => by
  rw [runsI]
  by_cases e : smallI s p x = true
  ·rw [if_pos e]
   exact h.mono (Nat.le_add_right _ _)
  ·rw [if_neg e]
   have := Bd.runs (leaf := leaf) (xs := xs) (p := stpI s leaf p x) (Bd.split h hm _ _) (by omega)
   rw [List.length_cons, show m + (xs.length + 1) = m + 1 + xs.length by omega]
   exact this
theorem Bd.put {t : Tm} {m : Nat} (h : Bd t m) (hm : 2 ≤ m) (key : ByteArray) (r0 : Rf) (l : List (Rf × Nat)) (q : Rf) : Bd (t.putW key r0 l q).1 (m + 2 + l.length) := by
 unfold Tm.putW
 split
 ·exact h.mono (by omega)
 ·split
  ·have h1 := Bd.runs (s := wayL l q) (leaf := q) (xs := ixL (wayL l q).length (wayL l q).length (Nat.le_refl _)) (p := (t.set q ((t.at q).put key r0).1, [])) (m := m + 1) ((h.mono (Nat.le_succ m)).set q (put_bd (h.at q) key r0)) (by omega)
   rw [ixL_length] at h1
   have e : m + 1 + (wayL l q).length = m + 2 + l.length := by unfold wayL; simp; omega
   rw [e] at h1
   exact h1
  ·exact h.mono (by omega)
end
end Go.Proofs.Ytglbcfkmaamhaaa.Tr
