/- A text of this claim: parts TtB TpL TpM TuA. No condition. -/
import Derived.Test.YtglbcfkmaamhaaaJG21
import Derived.Test.YtglbcfkmaamhaaaJG0
import Derived.Test.YtglbcfkmaamhaaaJG12
import Derived.Test.YtglbcfkmaamhaaaJG9
import Derived.BigQuiet
set_option linter.unusedVariables false
set_option linter.unusedSimpArgs false
set_option maxHeartbeats 16000000
set_option maxRecDepth 100000
namespace Go.Proofs.Ytglbcfkmaamhaaa.Tr
open Go Go.RowKit Go.Proofs.YtglbcfkmaamhaaaW.PrintWords Go.Proofs.YtglbcfkmaamhaaaW.PrintLast Go.Proofs.YtglbcfkmaamhaaaW.PrintMore Go.Proofs.Ytglbcfkmaamhaaa.Hv Go.Proofs.Ytglbcfkmaamhaaa.Arm Go.Proofs.Ytglbcfkmaamhaaa.Nd Go.Proofs.Ytglbcfkmaamhaaa.ArN
section
variable {w0 w w1 : World} {L L' R : List Ob} {K : Nat × Nat × Nat} {t : Tm} {on : Value}
theorem neq104 (k : ByteArray) (a b : Int) (w : World) : (binOp .neq 104 (.agg #[.string k, .int .i64 a, .int .i64 b]) (.agg #[.string k, .int .i64 a, .int .i64 b])).run Try.prog w = .ok (.bool false) w := by
 have hu33 := Try.underlying33
 have hb := bb
 have h : (Op.equalIn (9997 + 3) 104 (.agg #[.string k, .int .i64 a, .int .i64 b]) (.agg #[.string k, .int .i64 a, .int .i64 b])).run Try.prog w = .ok (true && (a == a && (b == b))) w := by
  refine eqA_of Try.underlying104 (by kernel_rfl) ?_
  refine eqf_cons (by rfl) (by go_simp; rfl) (by go_simp; rfl) (by go_simp) ?_
  exact eqf_last (by rfl) (by go_simp) (by go_simp) (eqA33 9997 w a a b b)
 have h' : (Op.equalIn (9997 + 3) 104 (.agg #[.string k, .int .i64 a, .int .i64 b]) (.agg #[.string k, .int .i64 a, .int .i64 b])).run Try.prog w = .ok true w := by simpa using h
 simp only [binOp]
 simp [Op.equal, Op.maxDepth, h']
theorem sameItems.calls (hv : Hv w0 w L) (l : List It) (hl : l.length ≤ 1000000) {b1 b2 : Option Addr} {d1 d2 : Nat} (h1 : Rdy 3 w0 L b1 l.length (l.flatMap icel)) (h2 : Rdy 3 w0 L b2 l.length (l.flatMap icel)) :
  Calls Try.prog 62 #[.slice b1 l.length d1, .slice b2 l.length d2] w fun e w' => e = .returned (.bool true) ∧ Hv w0 w' L := by
 have hu33 := Try.underlying33
 have hu104 := Try.underlying104
 have hu89 := Try.underlying89
 have H1 := As h1
 have H2 := As h2
 have HV := As hv
 have HL := As hl
 clear h1 h2 hv hl
 go_enter Try.func62, Try.ntmps62
 go_wp2_with fail
 go_loopg [5] l.length (fun kq v5 wr => ∃ (k : Nat), v5 = .int .i64 (k : Int) ∧ kq = l.length - k ∧ k ≤ l.length ∧ Aside0 (Hv w0 wr L))
 case atStart => exact ⟨0, rfl, rfl, Nat.zero_le _, HV⟩
 case round =>
  obtain ⟨k, rfl, rfl, hk, HW⟩ := hrel
  clear HV
  have hk7 : k ≤ 1000000 := by have := HL.out; omega
  by_cases hltn : k < l.length
  ·have hlt' : (k : Int) < (l.length : Int) := by omega
   have ew : IntKind.i64.wrap ((k : Int) + 1) = ((k + 1 : Nat) : Int) := by rw [IntKind.wrap_i64]; omega
   have ew' : wrap64 ((k : Int) + 1) = ((k + 1 : Nat) : Int) := by unfold wrap64; omega
   obtain ⟨y, hy⟩ : ∃ y, l[k]? = some y := ⟨_, List.getElem?_eq_getElem hltn⟩
   have hr1 := H1.out.now HW.out
   have hr2 := H2.out.now HW.out
   obtain ⟨g1, ea, -⟩ := hr1.2 (by omega)
   cases ea
   obtain ⟨g2, eb, -⟩ := hr2.2 (by omega)
   cases eb
   obtain ⟨z0, z1, z2⟩ := icellsT hr1 hy
   obtain ⟨y0, y1, y2⟩ := icellsT hr2 hy
   have hne := neq104 y.1 y.2.1 y.2.2
   clear hr1 hr2 hy
   go_wp2_with fail
   go_quiet (fail)
   go_wp2_with fail
   go_roundg (l.length - (k + 1))
   case measure => omega
   case rel => exact ⟨k + 1, by first | rfl | go_num, rfl, hltn, ⟨HW.out.drewN nq⟩⟩
  ·have hge : ¬ (k : Int) < (l.length : Int) := by omega
   go_wp2_with fail
   exact bodyPost_ret (v := .bool true) (by simp [results, Try.results62, go_sem]) rfl ⟨rfl, HW.out⟩
end
end Go.Proofs.Ytglbcfkmaamhaaa.Tr
namespace Go.Proofs.Ytglbcfkmaamhaaa.Tr
open Go Go.RowKit Go.Proofs.YtglbcfkmaamhaaaW.PrintWords Go.Proofs.Ytglbcfkmaamhaaa.Hv Go.Proofs.Ytglbcfkmaamhaaa.Arm Go.Proofs.Ytglbcfkmaamhaaa.Nd Go.Proofs.Ytglbcfkmaamhaaa.ArN
section
attribute [local irreducible] bl
variable {N : Nat} {P : NP} {rs : List Rf} {ks : List ByteArray} {lo hi mid : ByteArray} {ns : List Rf} {its : List It} {t : Tm}
abbrev Lv := Rf × ByteArray × ByteArray
def inL (c : ByteArray) (x : Lv) : Prop := bl c x.2.1 = false ∧ blw c x.2.2
def Ch : List Lv → ByteArray → ByteArray → Prop
 | [], _, _ => False
 | [x], lo, hi => x.2.1 = lo ∧ x.2.2 = hi
 | x :: y :: l, lo, hi => x.2.1 = lo ∧ bl lo x.2.2 = true ∧ blw x.2.2 hi ∧ Ch (y :: l) x.2.2 hi
theorem Ch.app : ∀ {p p2 : List Lv} {lo k hi : ByteArray}, Ch p lo k → Ch p2 k hi → bl lo k = true → blw k hi → Ch (p ++ p2) lo hi
 | [], _, _, _, _, h, _, _, _ => h.elim
 | [x], [], _, _, _, _, h, _, _ => h.elim
 | [x], y :: l, lo, k, hi, h, h2, h3, h4 => by
  obtain ⟨e1, e2⟩ := h
  exact ⟨e1, by rw [e2]; exact h3, by rw [e2]; exact h4, by rw [e2]; exact h2⟩
 | x :: y :: l, p2, lo, k, hi, h, h2, h3, h4 => by
  obtain ⟨e1, e2, e3, e4⟩ := h
  have e5 : bl x.2.2 k = true := blw_bl e3 h3
  exact ⟨e1, e2, blw_of e5 h4, Ch.app e4 h2 e5 h4⟩
theorem Ch.inn : ∀ {p : List Lv} {lo hi : ByteArray}, Ch p lo hi → ∀ x ∈ p, ∀ c, inL c x → bl c lo = false ∧ blw c hi
 | [], _, _, h, _, _, _, _ => h.elim
 | [y], lo, hi, h, x, hx, c, hc => by
  obtain ⟨e1, e2⟩ := h
  rw [List.mem_singleton.1 hx] at hc
  obtain ⟨h1, h2⟩ := hc
  rw [e1] at h1
  rw [e2] at h2
  exact ⟨h1, h2⟩
 | y :: z :: l, lo, hi, h, x, hx, c, hc => by
  obtain ⟨e1, e2, e3, e4⟩ := h
  rcases List.mem_cons.1 hx with rfl | hx
  ·obtain ⟨h1, h2⟩ := hc
   rw [e1] at h1
   exact ⟨h1, blw_of (blw_bl h2 e2) e3⟩
  ·obtain ⟨h1, h2⟩ := Ch.inn e4 x hx c hc
   exact ⟨ble_trans (bl_ble e2) h1, h2⟩
theorem Ch.cov : ∀ {p : List Lv} {lo hi : ByteArray}, Ch p lo hi → ∀ c, bl c lo = false → blw c hi → ∃ x ∈ p, inL c x
 | [], _, _, h, _, _, _ => h.elim
 | [y], lo, hi, h, c, h1, h2 => by
  obtain ⟨e1, e2⟩ := h
  exact ⟨y, by simp, by rw [e1]; exact h1, by rw [e2]; exact h2⟩
 | y :: z :: l, lo, hi, h, c, h1, h2 => by
  obtain ⟨e1, e2, e3, e4⟩ := h
  by_cases e : bl c y.2.2 = true
  ·exact ⟨y, by simp, by rw [e1]; exact h1, .inr e⟩
  ·obtain ⟨x, hx, hi'⟩ := Ch.cov e4 c (by simpa using e) h2
   exact ⟨x, List.mem_cons_of_mem _ hx, hi'⟩
def lvs (m : Mm) : Nat → Rf → ByteArray → ByteArray → List Lv
 | 0, r, lo, hi => [(r, lo, hi)]
 | h + 1, r, lo, hi => rowF (fun r lo hi => lvs m h r lo hi) (nod m r).refs (nod m r).keys lo hi
def hiAt (c : ByteArray) : List ByteArray → ByteArray → ByteArray
 | [], hi => hi
 | k :: ks, hi => if bl c k = true then k else hiAt c ks hi
theorem hiAt_get (c : ByteArray) : ∀ (ks : List ByteArray), Asc ks → ∀ hi, hiAt c ks hi = if plc c ks + (if fnd c ks then 1 else 0) < ks.length then ks.getD (plc c ks + (if fnd c ks then 1 else 0)) ⟨#[]⟩ else hi
 | [], _, hi => by simp [hiAt, plc]
 | k :: ks, ha, hi => by
  obtain ⟨ha1, ha2⟩ := List.pairwise_cons.1 ha
  have ih := hiAt_get c ks ha2 hi
  rw [hiAt]
  by_cases e : bl k c = true
  ·have e1 : bl c k = false := bl_ble e
   have ef : fnd c (k :: ks) = fnd c ks := by
    cases h1 : fnd c ks
    ·cases h2 : fnd c (k :: ks)
     ·rfl
     ·have := (fnd_at _ _).1 h2
      rw [plc, if_pos e] at this
      rw [(fnd_at c ks).2 (by simpa using this)] at h1; cases h1
    ·have := (fnd_at _ _).1 h1
     exact (fnd_at _ _).2 (by rw [plc, if_pos e]; simpa using this)
   have hg : (if bl c k = true then k else hiAt c ks hi) = hiAt c ks hi := if_neg (by rw [e1]; simp)
   rw [hg, ih, ef, plc, if_pos e]
   have e3 : plc c ks + 1 + (if fnd c ks = true then 1 else 0) = plc c ks + (if fnd c ks = true then 1 else 0) + 1 := by omega
   rw [e3, List.length_cons, List.getD_cons_succ]
   by_cases e4 : plc c ks + (if fnd c ks = true then 1 else 0) < ks.length
   ·rw [if_pos e4, if_pos (show plc c ks + (if fnd c ks = true then 1 else 0) + 1 < ks.length + 1 by omega)]
   ·rw [if_neg e4, if_neg (show ¬ plc c ks + (if fnd c ks = true then 1 else 0) + 1 < ks.length + 1 by omega)]
  ·have e' : bl k c = false := by simpa using e
   rw [plc, if_neg e]
   by_cases e1 : bl c k = true
   ·have ef : fnd c (k :: ks) = false := by
     cases h2 : fnd c (k :: ks)
     ·rfl
     ·have := (fnd_at _ _).1 h2
      rw [plc, if_neg e] at this
      have e3 : k = c := by simpa using this
      rw [e3, bl_irr] at e1; cases e1
    rw [ef, if_pos e1]
    simp
   ·have e1' : bl c k = false := by simpa using e1
    have hck : k = c := bl_tot e' e1'
    subst hck
    have ef : fnd k (k :: ks) = true := (fnd_at _ _).2 (by rw [plc, if_neg e]; rfl)
    rw [ef, if_neg e1]
    simp only [if_true, Nat.zero_add, List.length_cons, List.getD_cons_succ]
    cases ks with
    | nil => simp [hiAt]
    | cons k1 ks => rw [hiAt, if_pos (ha1 k1 (by simp)), if_pos (by simp)]; rfl
structure LvOk (t : Tm) (p : List Lv) (lo hi : ByteArray) (ns : List Rf) (its : List It) : Prop where
 ch : Ch p lo hi
 its : p.flatMap (fun x => itemsOf (t.at x.1)) = its
 keys : ∀ x ∈ p, ∀ k ∈ itemsOf (t.at x.1), inL k.1 x
 len : p.length ≤ ns.length
theorem Row.lvs {F : Rf → ByteArray → ByteArray → List Lv} (h : Row P rs ks lo hi ns its) : (∀ r lo hi ns' its', P r lo hi ns' its' → LvOk t (F r lo hi) lo hi ns' its') → LvOk t (rowF F rs ks lo hi) lo hi ns its ∧ ∀ x ∈ rowF F rs ks lo hi, ∀ c, inL c x → ∃ lo', x ∈ F (kd c rs ks) lo' (hiAt c ks hi) ∧ ∃ ns' its', P (kd c rs ks) lo' (hiAt c ks hi) ns' its' := by
 induction h with
 | one h => exact fun hF => ⟨hF _ _ _ _ _ h, fun x hx c hc => ⟨_, hx, _, _, h⟩⟩
 | @cons r rs k ks lo hi n1 n2 i1 i2 h h1 h2 h3 ih =>
  intro hF
  have a := hF _ _ _ _ _ h
  obtain ⟨b, b2⟩ := ih hF
  refine ⟨⟨?_, ?_, fun x hx k' hk' => ?_, ?_⟩, fun x hx c hc => ?_⟩
  ·exact a.ch.app b.ch h1 h2
  ·rw [rowF, List.flatMap_append, a.its, b.its]
  ·rw [rowF] at hx
   rcases List.mem_append.1 hx with hx | hx
   ·exact a.keys x hx k' hk'
   ·exact b.keys x hx k' hk'
  ·rw [rowF, List.length_append, List.length_append]
   have := a.len
   have := b.len
   omega
  ·rw [rowF] at hx
   rcases List.mem_append.1 hx with hx | hx
   ·obtain ⟨q1, q2⟩ := a.ch.inn x hx c hc
    have q3 : bl c k = true := blw_bl q2 h1
    rw [kd, if_pos q3, hiAt, if_pos q3]
    exact ⟨lo, hx, _, _, h⟩
   ·obtain ⟨q1, q2⟩ := b.ch.inn x hx c hc
    have q3 : ¬ bl c k = true := by rw [q1]; simp
    rw [kd, if_neg q3, hiAt, if_neg q3]
    exact b2 x hx c hc
theorem Rep.lvs {t : Tm} : ∀ {h : Nat} {r : Rf} {lo hi : ByteArray} {ns : List Rf} {its : List It}, Rep t.map h r lo hi ns its → LvOk t (Tr.lvs t.map h r lo hi) lo hi ns its
 | 0, r, lo, hi, ns, its, ⟨n, a, b, c, d, e, f, g⟩ => by
  have hat := Tm.map_at a
  refine ⟨⟨rfl, rfl⟩, ?_, fun x hx k hk => ?_, by rw [f]; exact Nat.le_refl _⟩
  ·show [(r, lo, hi)].flatMap (fun x : Lv => itemsOf (t.at x.1)) = its
   rw [g, ← hat]
   simp
  ·have e1 : x = (r, lo, hi) := List.mem_singleton.1 hx
   subst e1
   simp only [] at hk
   rw [hat] at hk
   exact e k.1 (mem_items hk)
 | h + 1, r, lo, hi, ns, its, ⟨n, ns', a, b, c, d⟩ => by
  have h1 := (d.lvs (t := t) (F := fun r lo hi => Tr.lvs t.map h r lo hi) (fun r lo hi ns' its' hp => hp.lvs)).1
  have e : Tr.lvs t.map (h + 1) r lo hi = rowF (fun r lo hi => Tr.lvs t.map h r lo hi) n.refs n.keys lo hi := by rw [Tr.lvs, nod_of a]
  rw [e]
  exact ⟨h1.ch, h1.its, h1.keys, by rw [c, List.length_cons]; exact Nat.le_succ_of_le h1.len⟩
theorem Rep.lway {t : Tm} {c : ByteArray} : ∀ {h : Nat} {r : Rf} {lo hi : ByteArray} {ns : List Rf} {its : List It}, Rep t.map h r lo hi ns its → ∀ x ∈ Tr.lvs t.map h r lo hi, inL c x → ∀ {l : List (Rf × Nat)} {q : Rf}, Dn t c r l q → q = x.1 ∧ endF t hi l = x.2.2
 | 0, r, lo, hi, ns, its, ⟨n, a, b, e, d, f, g, i⟩, x, hx, hc, l, q, hd => by
  have e1 : x = (r, lo, hi) := List.mem_singleton.1 hx
  subst e1
  rcases hd.inv with ⟨_, rfl, rfl⟩ | ⟨r', l2, h1, _⟩
  ·exact ⟨rfl, rfl⟩
  ·rw [Tm.map_at a, b] at h1; cases h1
 | h + 1, r, lo, hi, ns, its, hr, x, hx, hc, l, q, hd => by
  obtain ⟨n, ns', a, b, e, d⟩ := id hr
  have hsh := hr.shape a
  have e1 : Tr.lvs t.map (h + 1) r lo hi = rowF (fun r lo hi => Tr.lvs t.map h r lo hi) n.refs n.keys lo hi := by rw [Tr.lvs, nod_of a]
  rw [e1] at hx
  obtain ⟨lo', k1, ns1, its1, k2⟩ := (d.lvs (t := t) (F := fun r lo hi => Tr.lvs t.map h r lo hi) (fun r lo hi ns' its' hp => hp.lvs)).2 x hx c hc
  rcases hd.inv with ⟨h1, _⟩ | ⟨r', l2, _, _, hk, hd', rfl⟩
  ·rw [Tm.map_at a, b] at h1; cases h1
  ·have hat := Tm.map_at a
   rw [hat] at hk
   have hcc : n.child c = plc c n.keys + (if fnd c n.keys then 1 else 0) := by unfold Nd.Nd.child; rw [b, hsh]; rfl
   rw [hcc, kd_child c n.refs n.keys d.len d.keys.1] at hk
   have hr' : kd c n.refs n.keys = r' := Option.some.inj hk
   rw [hr'] at k1 k2
   obtain ⟨q1, q2⟩ := k2.lway x k1 hc hd'
   refine ⟨q1, ?_⟩
   rw [← q2, endF, hat]
   congr 1
   rw [hiAt_get c n.keys d.keys.1]
   unfold nend
   rw [hcc]
structure Lvs (t : Tm) (h : Nat) (p : List Lv) (its : List It) : Prop where
 ch : Ch p ⟨#[]⟩ ⟨#[]⟩
 its : p.flatMap (fun x => itemsOf (t.at x.1)) = its
 keys : ∀ x ∈ p, ∀ k ∈ itemsOf (t.at x.1), inL k.1 x
 way : ∀ x ∈ p, ∀ c, inL c x → ∀ (l : List (Rf × Nat)) (q : Rf), Dn t c t.root l q → q = x.1 ∧ endF t ⟨#[]⟩ l = x.2.2
theorem Inv.lvs {h : Nat} {V : Int} (iv : Inv t N h ns its V) : ∃ p, Lvs t h p its ∧ p.length ≤ N := by
 have h1 := iv.rep.lvs
 have h2 := iv.len
 have h3 := h1.len
 exact ⟨_, ⟨h1.ch, h1.its, h1.keys, fun x hx c hc l q hd => iv.rep.lway x hx hc hd⟩, by omega⟩
end
section
attribute [local irreducible] bl
variable {N : Nat} {lo hi a b : ByteArray} {ns : List Rf} {its : List It} {t : Tm} {p : List Lv}
def inR (a b : ByteArray) (x : It) : Bool := !bl x.1 a && bl x.1 b
theorem Ch.split : ∀ {d0 : List Lv} {x : Lv} {rest : List Lv} {lo hi : ByteArray}, Ch (d0 ++ x :: rest) lo hi →
  (∀ y ∈ d0, ∀ c, inL c y → bl c x.2.1 = true) ∧ (∀ y ∈ rest, ∀ c, inL c y → bl c x.2.2 = false) ∧ (rest = [] → x.2.2 = hi) ∧ (∀ z r', rest = z :: r' → z.2.1 = x.2.2) ∧ (rest ≠ [] → x.2.2 ≠ ⟨#[]⟩) ∧ bl x.2.1 lo = false
 | [], x, [], lo, hi, h => by
  obtain ⟨e1, e2⟩ := h
  exact ⟨by simp, by simp, fun _ => e2, (fun z r' e => by cases e), fun h => absurd rfl h, by rw [e1]; exact bl_irr _⟩
 | [], x, z :: r, lo, hi, h => by
  obtain ⟨e1, e2, e3, e4⟩ := h
  refine ⟨by simp, fun y hy c hc => (e4.inn y hy c hc).1, (fun e => by cases e), fun z' r' e => ?_, fun _ => bl_ne e2, by rw [e1]; exact bl_irr _⟩
  cases e
  cases r with
  | nil => exact e4.1
  | cons _ _ => exact e4.1
 | w :: d0, x, rest, lo, hi, h => by
  obtain ⟨y2, l2, e0⟩ : ∃ y2 l2, d0 ++ x :: rest = y2 :: l2 := by
   cases d0 with
   | nil => exact ⟨_, _, rfl⟩
   | cons y l => exact ⟨_, _, rfl⟩
  have h' : Ch (w :: (d0 ++ x :: rest)) lo hi := h
  rw [e0] at h'
  obtain ⟨e1, e2, e3, e4⟩ := h'
  rw [← e0] at e4
  obtain ⟨k1, k2, k3, k4, k5, k6⟩ := Ch.split e4
  refine ⟨fun y hy c hc => ?_, k2, k3, k4, k5, ble_trans (bl_ble e2) k6⟩
  rcases List.mem_cons.1 hy with rfl | hy
  ·have h1 : bl c y.2.2 = true := by
    obtain ⟨q1, q2⟩ := hc
    exact blw_bl q2 e2
   exact bl_of_ble h1 k6
  ·exact k1 y hy c hc
theorem Ch.nemp : ∀ {p : List Lv} {lo hi : ByteArray}, Ch p lo hi → blw lo hi → ∀ x ∈ p, inL x.2.1 x
 | [], _, _, h, _, _, _ => h.elim
 | [y], lo, hi, h, hb, x, hx => by
  obtain ⟨e1, e2⟩ := h
  rw [List.mem_singleton.1 hx]
  exact ⟨bl_irr _, by rw [e1, e2]; exact hb⟩
 | y :: z :: l, lo, hi, h, hb, x, hx => by
  obtain ⟨e1, e2, e3, e4⟩ := h
  rcases List.mem_cons.1 hx with rfl | hx
  ·exact ⟨bl_irr _, .inr (by rw [e1]; exact e2)⟩
  ·exact Ch.nemp e4 e3 x hx
structure Sp (p : List Lv) (a : ByteArray) (key : ByteArray) (seg d0 : List Lv) (x : Lv) (rest : List Lv) : Prop where
 eq : p = d0 ++ (seg ++ x :: rest)
 at' : inL key x
 low : ∀ y ∈ d0, ∀ c, inL c y → bl c a = true
 ge : bl key a = false
theorem Sp.start (hc : Ch p ⟨#[]⟩ ⟨#[]⟩) (a : ByteArray) : ∃ d0 x rest, Sp p a a [] d0 x rest := by
 obtain ⟨x, hx, hi'⟩ := hc.cov a (bl_nil a) (.inl rfl)
 obtain ⟨d0, rest, e⟩ := List.append_of_mem hx
 rw [e] at hc
 refine ⟨d0, x, rest, e, hi', fun y hy c hcy => ?_, bl_irr a⟩
 exact bl_of_ble (hc.split.1 y hy c hcy) hi'.1
theorem Sp.parts {key : ByteArray} {seg d0 rest : List Lv} {x : Lv} (s : Sp p a key seg d0 x rest) (hc : Ch p ⟨#[]⟩ ⟨#[]⟩) : Ch ((d0 ++ seg) ++ x :: rest) ⟨#[]⟩ ⟨#[]⟩ := by
 have := s.eq
 rw [← List.append_assoc] at this
 rw [← this]
 exact hc
theorem Sp.next {key : ByteArray} {seg d0 rest : List Lv} {x : Lv} (s : Sp p a key seg d0 x rest) (hc : Ch p ⟨#[]⟩ ⟨#[]⟩) (hne : x.2.2 ≠ ⟨#[]⟩) : ∃ x' rest', Sp p a x.2.2 (seg ++ [x]) d0 x' rest' := by
 have hs := (s.parts hc).split
 cases rest with
 | nil => exact absurd (hs.2.2.1 rfl) hne
 | cons z r' =>
  have hz := hs.2.2.2.1 z r' rfl
  have hzm : z ∈ p := by rw [s.eq]; simp
  have hin := hc.nemp (.inl rfl) z hzm
  rw [hz] at hin
  refine ⟨z, r', by rw [s.eq]; simp, hin, s.low, ?_⟩
  cases e : bl x.2.2 a
  ·rfl
  ·have h1 : bl key x.2.2 = true := s.at'.2.elim (fun h => absurd h hne) id
   have := bl_trans h1 e
   rw [s.ge] at this; cases this
theorem Sp.mem {key : ByteArray} {seg d0 rest : List Lv} {x : Lv} (s : Sp p a key seg d0 x rest) : x ∈ p := by rw [s.eq]; simp
theorem Sp.len {key : ByteArray} {seg d0 rest : List Lv} {x : Lv} (s : Sp p a key seg d0 x rest) : seg.length < p.length := by rw [s.eq]; simp; omega
theorem Sp.done {h : Nat} {key : ByteArray} {seg d0 rest : List Lv} {x : Lv} (s : Sp p a key seg d0 x rest) (lv : Lvs t h p its) (hend : x.2.2 = ⟨#[]⟩ ∨ bl x.2.2 b = false) :
  ((seg ++ [x]).flatMap (fun y => itemsOf (t.at y.1))).filter (inR a b) = its.filter (inR a b) ∧ ∀ c, bl c a = false → bl c b = true → ∃ y ∈ seg ++ [x], inL c y := by
 have hs := (s.parts lv.ch).split
 have hrest : ∀ y ∈ rest, ∀ c, inL c y → bl c b = false := fun y hy c hcy => by
  have hne : rest ≠ [] := fun e => by rw [e] at hy; simp at hy
  rcases hend with e | e
  ·exact absurd e (hs.2.2.2.2.1 hne)
  ·exact ble_trans e (hs.2.1 y hy c hcy)
 constructor
 ·rw [← lv.its, s.eq]
  have e1 : d0 ++ (seg ++ x :: rest) = d0 ++ ((seg ++ [x]) ++ rest) := by simp
  rw [e1]
  generalize seg ++ [x] = S
  rw [List.flatMap_append, List.flatMap_append, List.filter_append, List.filter_append]
  have f1 : (d0.flatMap (fun y => itemsOf (t.at y.1))).filter (inR a b) = [] := by
   rw [List.filter_eq_nil_iff]
   intro k hk
   obtain ⟨y, hy, hky⟩ := List.mem_flatMap.1 hk
   have := s.low y hy k.1 (lv.keys y (by rw [s.eq]; simp [hy]) k hky)
   unfold inR
   rw [this]
   simp
  have f2 : (rest.flatMap (fun y => itemsOf (t.at y.1))).filter (inR a b) = [] := by
   rw [List.filter_eq_nil_iff]
   intro k hk
   obtain ⟨y, hy, hky⟩ := List.mem_flatMap.1 hk
   have := hrest y hy k.1 (lv.keys y (by rw [s.eq]; simp [hy]) k hky)
   unfold inR
   rw [this]
   simp
  rw [f1, f2, List.nil_append, List.append_nil]
 ·intro c h1 h2
  obtain ⟨y, hy, hcy⟩ := lv.ch.cov c (bl_nil c) (.inl rfl)
  rw [s.eq] at hy
  rcases List.mem_append.1 hy with hy | hy
  ·have := s.low y hy c hcy
   rw [h1] at this; cases this
  ·rcases List.mem_append.1 hy with hy | hy
   ·exact ⟨y, List.mem_append_left _ hy, hcy⟩
   ·rcases List.mem_cons.1 hy with rfl | hy
    ·exact ⟨y, by simp, hcy⟩
    ·have := hrest y hy c hcy
     rw [h2] at this; cases this
structure Step (t : Tm) (h : Nat) (t' : Tm) (h' : Nat) : Prop where
 lk : ∀ c, look t'.map c h' t'.root = look t.map c h t.root ∨ Bump t.map t'.map (look t.map c h t.root)
 evo : Evo t.map t'.map
theorem Step.refl (t : Tm) (h : Nat) : Step t h t h := ⟨fun _ => .inl rfl, Evo.refl _⟩
theorem Step.trans {t1 t2 t3 : Tm} {h1 h2 h3 : Nat} (hm : ∀ c, t1.map (look t1.map c h1 t1.root) ≠ none) (s : Step t1 h1 t2 h2) (u : Step t2 h2 t3 h3) : Step t1 h1 t3 h3 := ⟨fun c => by
 rcases s.lk c with e | e
 ·rcases u.lk c with e2 | e2
  ·exact .inl (e2.trans e)
  ·rw [e] at e2
   exact .inr (s.evo.bump e2 (hm c))
 ·exact .inr (e.evo u.evo), s.evo.trans u.evo⟩
theorem Inv.look_some {h : Nat} {V : Int} (iv : Inv t N h ns its V) (c : ByteArray) : t.map (look t.map c h t.root) ≠ none := isS_of (iv.rep.isS _ (iv.rep.look_mem c))
theorem mem_at {h : Nat} {V : Int} (iv : Inv t N h ns its V) (lv : Lvs t h p its) (x : It) : x ∈ its ↔ x ∈ itemsOf (t.at (look t.map x.1 h t.root)) := by
 obtain ⟨l, q, hd, _⟩ := iv.dn x.1
 have hq := iv.rep.look_dn hd
 rw [hq]
 constructor
 ·intro hx
  rw [← lv.its] at hx
  obtain ⟨y, hy, hxy⟩ := List.mem_flatMap.1 hx
  have := (lv.way y hy x.1 (lv.keys y hy x hxy) l q hd).1
  rw [this]
  exact hxy
 ·intro hx
  obtain ⟨y, hy, hcy⟩ := lv.ch.cov x.1 (bl_nil x.1) (.inl rfl)
  have := (lv.way y hy x.1 hcy l q hd).1
  rw [this] at hx
  rw [← lv.its]
  exact List.mem_flatMap.2 ⟨y, hy, hx⟩
theorem asc_same : ∀ {l l' : List It}, IAsc l → IAsc l' → (∀ x, x ∈ l ↔ x ∈ l') → l = l'
 | [], [], _, _, _ => rfl
 | [], y :: l', _, _, h => by have := (h y).2 (by simp); simp at this
 | x :: l, [], _, _, h => by have := (h x).1 (by simp); simp at this
 | x :: l, y :: l', h1, h2, h => by
  obtain ⟨a1, a2⟩ := List.pairwise_cons.1 h1
  obtain ⟨b1, b2⟩ := List.pairwise_cons.1 h2
  have e : x = y := by
   have hx := (h x).1 (by simp)
   have hy := (h y).2 (by simp)
   rcases List.mem_cons.1 hx with e | hx
   ·exact e
   ·rcases List.mem_cons.1 hy with e | hy
    ·exact e.symm
    ·have q1 := b1 x hx
     have q2 := a1 y hy
     have := bl_trans q1 q2
     rw [bl_irr] at this; cases this
  subst e
  congr 1
  refine asc_same a2 b2 (fun z => ⟨fun hz => ?_, fun hz => ?_⟩)
  ·rcases List.mem_cons.1 ((h z).1 (List.mem_cons_of_mem _ hz)) with e | h3
   ·have := a1 z hz
    rw [e, bl_irr] at this; cases this
   ·exact h3
  ·rcases List.mem_cons.1 ((h z).2 (List.mem_cons_of_mem _ hz)) with e | h3
   ·have := b1 z hz
    rw [e, bl_irr] at this; cases this
   ·exact h3
theorem same_between {t t' : Tm} {N' h h' : Nat} {ns ns' : List Rf} {its its' : List It} {V V' : Int} (iv : Inv t N h ns its V) (iv' : Inv t' N' h' ns' its' V') (st : Step t h t' h') {seg : List Lv} (hsub : ∀ y ∈ seg, ∃ p, Lvs t h p its ∧ y ∈ p) (hcov : ∀ c, bl c a = false → bl c b = true → ∃ y ∈ seg, inL c y) (hfr : ∀ y ∈ seg, t'.fresh y.1 (t.at y.1).ver = true) : its'.filter (inR a b) = its.filter (inR a b) := by
 obtain ⟨p', lv', _⟩ := iv'.lvs
 have key : ∀ x : It, inR a b x = true → (x ∈ its' ↔ x ∈ its) := fun x hx => by
  unfold inR at hx
  rw [Bool.and_eq_true, Bool.not_eq_true'] at hx
  obtain ⟨y, hy, hcy⟩ := hcov x.1 hx.1 hx.2
  obtain ⟨p, lv, hyp⟩ := hsub y hy
  obtain ⟨l, q, hd, _⟩ := iv.dn x.1
  have hq := iv.rep.look_dn hd
  have hqy := (lv.way y hyp x.1 hcy l q hd).1
  have hly : look t.map x.1 h t.root = y.1 := hq.trans hqy
  have hsome := iv.look_some x.1
  rw [hly] at hsome
  obtain ⟨n, hn⟩ := Option.ne_none_iff_exists'.1 hsome
  obtain ⟨n', hn', hv⟩ := st.evo y.1 n hn
  have hf := hfr y hy
  unfold Tm.fresh at hf
  rw [Tm.map_at hn, Tm.map_at hn'] at hf
  simp only [Bool.and_eq_true, decide_eq_true_eq, beq_iff_eq] at hf
  have hver : n'.ver = n.ver := hf.2
  have hnn : n' = n := by
   rcases hv with e | e
   ·exact e
   ·omega
  have hlk : look t'.map x.1 h' t'.root = y.1 := by
   rcases st.lk x.1 with e | e
   ·rw [e, hly]
   ·rw [hly] at e
    obtain ⟨a1, a2, a3, a4, a5⟩ := e
    rw [hn] at a3; cases a3
    rw [hn'] at a4; cases a4
    omega
  rw [mem_at iv' lv' x, mem_at iv lv x, hlk, hly, Tm.map_at hn, Tm.map_at hn', hnn]
 refine asc_same (List.Pairwise.filter _ iv'.rep.asc) (List.Pairwise.filter _ iv.rep.asc) (fun x => ?_)
 rw [List.mem_filter, List.mem_filter]
 constructor
 ·rintro ⟨h1, h2⟩; exact ⟨(key x h2).1 h1, h2⟩
 ·rintro ⟨h1, h2⟩; exact ⟨(key x h2).2 h1, h2⟩
end
end Go.Proofs.Ytglbcfkmaamhaaa.Tr
section
namespace Go.Proofs.Ytglbcfkmaamhaaa.Tr
open Go Go.RowKit Go.Proofs.YtglbcfkmaamhaaaW.PrintWords Go.Proofs.YtglbcfkmaamhaaaW.PrintLast Go.Proofs.YtglbcfkmaamhaaaW.PrintMore Go.Proofs.Ytglbcfkmaamhaaa.Hv Go.Proofs.Ytglbcfkmaamhaaa.Arm Go.Proofs.Ytglbcfkmaamhaaa.Nd Go.Proofs.Ytglbcfkmaamhaaa.ArN
variable {w0 w w1 : World} {L L' R X : List Ob} {K : Nat × Nat × Nat} {t : Tm} {on : Value} {k h : Nat} {its : List It} {p : List Lv}
def Kt (w0 w : World) (K : Nat × Nat × Nat) (L : List Ob) (k : Nat) (t : Tm) (h : Nat) (its : List It) : Prop := ∃ on R ns V, Mt w0 w K t on R L ∧ Inv t 200 h ns its V ∧ 1 ≤ V ∧ V ≤ 10 + 2 * (k : Int) ∧ Bd t (10 + 1030 * k)
namespace Kt
theorem other (H : Kt w0 w K L k t h its) : Hv w0 w L := by obtain ⟨on, R, ns, V, hM, hr⟩ := H; exact hM.other
theorem bel (H : Kt w0 w K L k t h its) : Below w0.heap.size w0 w := by obtain ⟨on, R, ns, V, hM, hr⟩ := H; exact hM.bel
theorem call (H : Kt w0 w K L k t h its) (hb : Below w.heap.size w w1) : Kt w0 w1 K L k t h its := by obtain ⟨on, R, ns, V, hM, hr⟩ := H; exact ⟨on, R, ns, V, hM.call hb, hr⟩
theorem drop (H : Kt w0 w K L k t h its) (hs : L'.Sublist L) : Kt w0 w K L' k t h its := by obtain ⟨on, R, ns, V, hM, hr⟩ := H; exact ⟨on, R, ns, V, hM.drop hs, hr⟩
theorem alloc (H : Kt w0 w K L k t h its) (o : Obj) : Kt w0 (w.alloc o) K ((w.heap.size, o) :: L) k t h its := by obtain ⟨on, R, ns, V, hM, hr⟩ := H; exact ⟨on, R, ns, V, hM.alloc o, hr⟩
theorem permK (H : Kt w0 w K L k t h its) (hp : L'.Perm L) : Kt w0 w K L' k t h its := by obtain ⟨on, R, ns, V, hM, hr⟩ := H; exact ⟨on, R, ns, V, hM.permL hp, hr⟩
theorem lensZ (H : Kt w0 w K (X ++ L) k t h its) : ∃ Q, Hv w0 w (X ++ Q) ∧ (∀ p ∈ L, p ∈ Q) ∧ ∀ w' X', Hv w0 w' (X' ++ Q) → Kt w0 w' K (X' ++ L) k t h its := by
 obtain ⟨on, R, ns, V, ⟨s, gv, G, e, ⟨bv, Bb, h1, h1', h1''⟩, h2, h3⟩, hr⟩ := H
 have key : ∀ X' : List Ob, (AL K.2.1 K.2.2 bv Bb s ++ (tb K t gv on :: (G ++ (R ++ (X' ++ L))))).Perm (X' ++ (AL K.2.1 K.2.2 bv Bb s ++ (tb K t gv on :: (G ++ (R ++ L))))) := fun X' => by
  have e1 : ∀ P : List Ob, (P ++ (X' ++ L)).Perm (X' ++ (P ++ L)) := fun P => by
   rw [← List.append_assoc, ← List.append_assoc]
   exact List.Perm.append_right L List.perm_append_comm
  have := e1 (AL K.2.1 K.2.2 bv Bb s ++ (tb K t gv on :: (G ++ R)))
  simpa [List.append_assoc] using this
 exact ⟨_, h1.perm (key X).symm, fun p hp => by simp [hp], fun w' X' h' => ⟨on, R, ns, V, ⟨s, gv, G, e, ⟨bv, Bb, h'.perm (key X'), h1', h1''⟩, h2, h3⟩, hr⟩⟩
theorem leaf (H : Kt w0 w K L k t h its) (lv : Lvs t h p its) {x : Lv} (hx : x ∈ p) {key : ByteArray} (hin : inL key x) : Calls Try.prog 72 #[.pointer (some ⟨K.1, 0, none⟩), .string key] w fun e w' => ∃ ad c A, e = .returned (.tuple #[.agg #[.int .i64 x.1.1, .int .i64 x.1.2, .int .i64 (t.at x.1).ver], .slice ad (itemsOf (t.at x.1)).length c, .string x.2.2]) ∧ Gr 104 3 (.slice ad (itemsOf (t.at x.1)).length c) (itemsOf (t.at x.1)).length ((itemsOf (t.at x.1)).flatMap icel) A ∧ Kt w0 w' K (A ++ L) k t h its ∧ (itemsOf (t.at x.1)).length ≤ 4 := by
 obtain ⟨on, R, ns, V, hM, iv, hr⟩ := H
 obtain ⟨l, q, hd, hlh⟩ := iv.dn key
 obtain ⟨hqm, hoq, _⟩ := iv.leaf hd
 have hh := iv.height
 have hno := iv.nok q hqm
 have hsm := iv.sm q hqm
 unfold Small at hsm
 obtain ⟨e1, e2⟩ := lv.way x hx key hin l q hd
 have hlen := hno.lf hd.lf
 have hc := leaf.calls hM key hd (by omega) hlen (by omega)
 rw [e1, e2] at hc
 refine hc.mono ?_
 rintro e w' ⟨ad, c, A, rfl, hG, hM'⟩
 refine ⟨ad, c, A, rfl, hG, ⟨_, R, ns, V, hM', iv, hr⟩, ?_⟩
 rw [← e1]
 unfold itemsOf
 rw [List.length_zip]
 omega
end Kt
def scel (t : Tm) (y : Lv) : List Value := [.int .i64 y.1.1, .int .i64 y.1.2, .int .i64 (t.at y.1).ver]
theorem infoS : (Try.prog.info? 85).map (fun i => (i.zero, i.size, i.bytes)) = some (some (.agg #[.int .i64 0, .int .i64 0, .int .i64 0]), 3, 24) := by kernel_rfl
def SpanP (w0 : World) (K : Nat × Nat × Nat) (L : List Ob) (k : Nat) (t : Tm) (h : Nat) (its : List It) (a b : ByteArray) (e : Ending) (w' : World) : Prop :=
 ∃ (seg : List Lv) (s1 : Option Addr) (c1 : Nat) (A1 : List Ob) (s2 : Option Addr) (c2 : Nat) (A2 : List Ob), e = .returned (.tuple #[.slice s1 seg.length c1, .slice s2 (its.filter (inR a b)).length c2]) ∧ Gr 85 3 (.slice s1 seg.length c1) seg.length (seg.flatMap (scel t)) A1 ∧ Gr 104 3 (.slice s2 (its.filter (inR a b)).length c2) (its.filter (inR a b)).length ((its.filter (inR a b)).flatMap icel) A2 ∧ Kt w0 w' K (A2 ++ (A1 ++ L)) k t h its ∧ seg.length ≤ 200 ∧ (∀ y ∈ seg, ∃ p, Lvs t h p its ∧ y ∈ p) ∧ ∀ c, bl c a = false → bl c b = true → ∃ y ∈ seg, inL c y
theorem itemsLen (t : Tm) : ∀ (s : List Lv), (∀ y ∈ s, (itemsOf (t.at y.1)).length ≤ 4) → (s.flatMap (fun y => itemsOf (t.at y.1))).length ≤ 4 * s.length
 | [], _ => by simp
 | y :: s, h => by
  have h1 := h y (by simp)
  have h2 := itemsLen t s (fun z hz => h z (by simp [hz]))
  rw [List.flatMap_cons, List.length_append, List.length_cons]
  omega
theorem span.calls (H : Kt w0 w K L k t h its) (a b : ByteArray) : Calls Try.prog 60 #[.pointer (some ⟨K.1, 0, none⟩), .agg #[.string a, .string b]] w (SpanP w0 K L k t h its a b) := by
 have hu33 := Try.underlying33
 have hu78 := Try.underlying78
 have hu80 := Try.underlying80
 have hu85 := Try.underlying85
 have hu88 := Try.underlying88
 have hu89 := Try.underlying89
 have hu104 := Try.underlying104
 have hu9 := Try.underlying9
 obtain ⟨p, lv, hpl⟩ : ∃ p, Lvs t h p its ∧ p.length ≤ 200 := by
  obtain ⟨on, R, ns, V, hM, iv, hr⟩ := H
  exact iv.lvs
 have HLV := As (And.intro lv hpl)
 obtain ⟨d0, x0, rest0, hst⟩ := Sp.start lv.ch a
 have HST := As hst
 have HK := As (show Kt w0 (w.alloc (.cells #[.string a, .string b] 78)) K ([] ++ ([] ++ (cb w.heap.size 78 #[.string a, .string b] :: L))) k t h its from H.alloc _)
 clear H lv hpl hst
 obtain ⟨b0, b1, -, -⟩ := HK.out.other.c2 w.heap.size 78 (.string a) (.string b) (by simp)
 go_enter Try.func60, Try.ntmps60
 go_wp2_with fail
 generalize hgx : w.heap.size = gx at HK ⊢
 clear hgx b0 b1
 go_loopg [6, 7, 8, 9] 300 (fun kq v6 v7 v8 v9 wr => ∃ (i n2 : Nat) (key : ByteArray) (seg : List Lv) (x : Lv) (rest : List Lv) (s1 : Option Addr) (c1 : Nat) (A1 : List Ob) (s2 : Option Addr) (c2 : Nat) (A2 : List Ob), v6 = .slice s1 i c1 ∧ v7 = .slice s2 n2 c2 ∧ v8 = .string key ∧ v9 = .int .i64 (i : Int) ∧ kq = 300 - i ∧ Aside0 (i = seg.length ∧ Sp p a key seg d0 x rest ∧ (∀ y ∈ seg, (itemsOf (t.at y.1)).length ≤ 4)) ∧ Aside0 (Gr 85 3 (.slice s1 i c1) i (seg.flatMap (scel t)) A1) ∧ Aside0 (n2 = ((seg.flatMap (fun y => itemsOf (t.at y.1))).filter (inR a b)).length ∧ Gr 104 3 (.slice s2 n2 c2) n2 (((seg.flatMap (fun y => itemsOf (t.at y.1))).filter (inR a b)).flatMap icel) A2) ∧ Aside0 (Kt w0 wr K (A1 ++ (A2 ++ (cb gx 78 #[.string a, .string b] :: L))) k t h its))
 case atStart => exact ⟨0, 0, a, [], x0, rest0, none, 0, [], none, 0, [], rfl, rfl, rfl, rfl, rfl, ⟨rfl, HST.out, by simp⟩, ⟨Gr.nil 85 3⟩, ⟨rfl, Gr.nil 104 3⟩, HK⟩
 case round =>
  obtain ⟨i, n2, key, seg, x, rest, s1, c1, A1, s2, c2, A2, rfl, rfl, rfl, rfl, rfl, HS, HG1, HG2, HKr⟩ := hrel
  clear HK HST
  have hi200 : i < 200 := by
   have h1 := HS.out.2.1.len
   have h2 := HLV.out.2
   have h3 := HS.out.1
   omega
  have hi300 : (i : Int) < 300 := by omega
  have ew : IntKind.i64.wrap ((i : Int) + 1) = ((i + 1 : Nat) : Int) := by rw [IntKind.wrap_i64]; omega
  have ew' : wrap64 ((i : Int) + 1) = ((i + 1 : Nat) : Int) := by unfold wrap64; omega
  have hn2 : n2 ≤ 800 := by
   have h1 := itemsLen t seg HS.out.2.2
   have h2 := List.length_filter_le (inR a b) (seg.flatMap (fun y => itemsOf (t.at y.1)))
   have h3 := HS.out.1
   have h4 := HG2.out.1
   omega
  have HN2 := As (And.intro hn2 hi200)
  clear hn2
  obtain ⟨items, hitems⟩ : ∃ items, itemsOf (t.at x.1) = items := ⟨_, rfl⟩
  have HIT := As hitems
  go_upto_region 8 with (go_at_call 72; go_loud (refine (HKr.out.leaf HLV.out.1 HS.out.2.1.mem HS.out.2.1.at').mono ?_; rw [HIT.out]; rintro e3 w3 ⟨ad3, c3, Al, rfl, hG3, hh, h4⟩; have HG3 := As hG3; have H3 := As hh; have H4 := As h4; clear hG3 hh h4))
  clear hitems
  obtain ⟨Q, W7, hW, hw, hQ, back⟩ : ∃ Q W, W = w3.alloc (.cells #[.int .i64 x.1.1, .int .i64 x.1.2, .int .i64 (t.at x.1).ver] 85) ∧ Hv w0 W ((A1 ++ A2) ++ Q) ∧ (∀ q ∈ cb w3.heap.size 85 #[.int .i64 x.1.1, .int .i64 x.1.2, .int .i64 (t.at x.1).ver] :: (Al ++ (cb gx 78 #[.string a, .string b] :: L)), q ∈ Q) ∧ ∀ w' X', Hv w0 w' (X' ++ Q) → Kt w0 w' K (X' ++ (cb w3.heap.size 85 #[.int .i64 x.1.1, .int .i64 x.1.2, .int .i64 (t.at x.1).ver] :: (Al ++ (cb gx 78 #[.string a, .string b] :: L)))) k t h its := by
   have h1 : Kt w0 (w3.alloc (.cells #[.int .i64 x.1.1, .int .i64 x.1.2, .int .i64 (t.at x.1).ver] 85)) K ((A1 ++ A2) ++ (cb w3.heap.size 85 #[.int .i64 x.1.1, .int .i64 x.1.2, .int .i64 (t.at x.1).ver] :: (Al ++ (cb gx 78 #[.string a, .string b] :: L)))) k t h its := (H3.out.alloc _).permK (by
    have e1 : (A1 ++ A2 ++ (cb w3.heap.size 85 #[.int .i64 x.1.1, .int .i64 x.1.2, .int .i64 (t.at x.1).ver] :: (Al ++ (cb gx 78 #[.string a, .string b] :: L)))).Perm (cb w3.heap.size 85 #[.int .i64 x.1.1, .int .i64 x.1.2, .int .i64 (t.at x.1).ver] :: ((A1 ++ A2) ++ (Al ++ (cb gx 78 #[.string a, .string b] :: L)))) := List.perm_middle
    refine e1.trans (List.Perm.cons _ ?_)
    have e2 : ((A1 ++ A2) ++ (Al ++ (cb gx 78 #[.string a, .string b] :: L))).Perm (Al ++ ((A1 ++ A2) ++ (cb gx 78 #[.string a, .string b] :: L))) := by
     rw [← List.append_assoc, ← List.append_assoc]
     exact List.Perm.append_right _ List.perm_append_comm
    simpa [List.append_assoc] using e2)
   obtain ⟨Q, h2, h3, h4⟩ := h1.lensZ
   exact ⟨Q, _, rfl, h2, h3, h4⟩
  rw [← hW]
  clear hW
  generalize w3.heap.size = g10 at hQ back ⊢
  have HQ := As hQ
  have HBK := As back
  have H7 := As (show Hv w0 W7 (A1 ++ (A2 ++ Q)) by rw [← List.append_assoc]; exact hw)
  clear hQ back hw
  obtain ⟨y0, y1, y2, -, -, -⟩ := H7.out.c3 g10 85 (.int .i64 x.1.1) (.int .i64 x.1.2) (.int .i64 (t.at x.1).ver) (by have := HQ.out (cb g10 85 #[.int .i64 x.1.1, .int .i64 x.1.2, .int .i64 (t.at x.1).ver]) (by simp); simp [this])
  have HB := As (show (i + 1) * 24 ≤ 140737488355328 by omega)
  have h1 := H7.out.alloc (.cells #[.int .i64 x.1.1, .int .i64 x.1.2, .int .i64 (t.at x.1).ver] 85)
  have HX := As (show Hv w0 (W7.alloc (.cells #[.int .i64 x.1.1, .int .i64 x.1.2, .int .i64 (t.at x.1).ver] 85)) (A1 ++ (cb W7.heap.size 85 #[.int .i64 x.1.1, .int .i64 x.1.2, .int .i64 (t.at x.1).ver] :: (A2 ++ Q))) from h1.perm List.perm_middle)
  have HN := As ((Rdy.of_rw (w0 := w0) (size := 3) (n := 1) (e := 85) (c := 1) (xs := scel t x) (ad := some ⟨W7.heap.size, 0, none⟩) (L := A1 ++ (cb W7.heap.size 85 #[.int .i64 x.1.1, .int .i64 x.1.2, .int .i64 (t.at x.1).ver] :: (A2 ++ Q))) ⟨rfl, Nat.le_refl _, fun _ => ⟨W7.heap.size, 0, #[.int .i64 x.1.1, .int .i64 x.1.2, .int .i64 (t.at x.1).ver], rfl, by simp, fun i _ => by rw [Nat.zero_add]; simp [icel, scel]⟩⟩).now HX.out)
  clear h1
  go_wp2_with ((with_reducible refine gate_builtin (b := .append) (xs := #[.tmp 27, .tmp 29]) rfl ?_); at_builtin; go_loud (refine append_rows (w0 := w0) (A := A1) (L := cb W7.heap.size 85 #[.int .i64 x.1.1, .int .i64 x.1.2, .int .i64 (t.at x.1).ver] :: (A2 ++ Q)) rfl (.tmp 27) (.tmp 29) 88 85 (.agg #[.int .i64 0, .int .i64 0, .int .i64 0]) 3 24 rfl Try.underlying88 infoS rfl (by decide) (by decide) (.slice s1 i c1) i (seg.flatMap (scel t)) rfl (some ⟨W7.heap.size, 0, none⟩) 1 1 (scel t x) rfl (by intro u hu; simp [icel, scel] at hu; rcases hu with rfl | rfl | rfl <;> rfl) HG1.out HX.out HN.out HB.out ?_); go_loud (intro v5 w5 A5 hG1 hv5; obtain ⟨ad5, c5, rfl, -⟩ := hG1.form; have HG5 := As hG1; have H5 := As (hv5.drop (L' := A5 ++ (A2 ++ Q)) (List.Sublist.append_left (List.sublist_cons_self _ _) A5)); clear hG1 hv5; clear y0 y1 y2))
  have H6 := As (show Hv w0 w5 (A2 ++ (A5 ++ Q)) from H5.out.perm (by rw [← List.append_assoc, ← List.append_assoc]; exact List.Perm.append_right Q List.perm_append_comm))
  clear H5
  go_loopg [7, 13] items.length (fun kq2 v7 v13 wi => ∃ (j n : Nat) (s6 : Option Addr) (c6 : Nat) (A6 : List Ob), v7 = .slice s6 n c6 ∧ v13 = .int .i64 (j : Int) ∧ kq2 = items.length - j ∧ j ≤ items.length ∧ Aside0 (n = ((seg.flatMap (fun y => itemsOf (t.at y.1))).filter (inR a b) ++ (items.take j).filter (inR a b)).length ∧ Gr 104 3 (.slice s6 n c6) n (((seg.flatMap (fun y => itemsOf (t.at y.1))).filter (inR a b) ++ (items.take j).filter (inR a b)).flatMap icel) A6) ∧ Aside0 (Hv w0 wi (A6 ++ (A5 ++ Q))))
  case atStart => exact ⟨0, n2, s2, c2, A2, rfl, rfl, rfl, Nat.zero_le _, ⟨by rw [HG2.out.1]; simp, by simpa using HG2.out.2⟩, H6⟩
  case round =>
   obtain ⟨j, n, s6, c6, A6, rfl, rfl, rfl, hj, HG, HW⟩ := hrel
   clear H6
   have hj4 : j ≤ 4 := by have := H4.out; omega
   obtain ⟨b0, b1, -, -⟩ := HW.out.c2 gx 78 (.string a) (.string b) (by have := HQ.out (cb gx 78 #[.string a, .string b]) (by simp); simp [this])
   by_cases hjlt : j < items.length
   ·have hjlt' : (j : Int) < (items.length : Int) := by omega
    have ej : IntKind.i64.wrap ((j : Int) + 1) = ((j + 1 : Nat) : Int) := by rw [IntKind.wrap_i64]; omega
    have ej' : wrap64 ((j : Int) + 1) = ((j + 1 : Nat) : Int) := by unfold wrap64; omega
    obtain ⟨y, hy⟩ : ∃ y, items[j]? = some y := ⟨_, List.getElem?_eq_getElem hjlt⟩
    have HYj := As hy
    have HRD := As (show ∀ W LL, Hv w0 W LL → (∀ q ∈ Q, q ∈ LL) → Rd 3 W ad3 items.length (items.flatMap icel) from fun W LL hv hs => (Rdy.of_rw (w0 := w0) (Rw.of_gr HG3.out)) W LL hv (fun q hq => hs q (HQ.out q (by simp [hq]))))
    have hrd := HRD.out _ _ HW.out (fun q hq => by simp [hq])
    obtain ⟨g1, ea, -⟩ := hrd.2 (by omega)
    cases ea
    obtain ⟨z0, z1, z2⟩ := icellsT hrd hy
    have htk : items.take (j + 1) = items.take j ++ [y] := by rw [List.take_succ_eq_append_getElem hjlt, (List.getElem?_eq_some_iff.1 hy).2]
    have hfl : (seg.flatMap (fun y => itemsOf (t.at y.1))).filter (inR a b) ++ (items.take (j + 1)).filter (inR a b) = ((seg.flatMap (fun y => itemsOf (t.at y.1))).filter (inR a b) ++ (items.take j).filter (inR a b)) ++ [y].filter (inR a b) := by rw [htk, List.filter_append, List.append_assoc]
    have hn7 : n ≤ 900 := by
     have h1 := HG.out.1
     have h2 := List.length_filter_le (inR a b) (items.take j)
     rw [List.length_append, ← HG2.out.1] at h1
     rw [List.length_take] at h2
     have := HN2.out.1
     omega
    have HFL := As hfl
    clear hrd htk hfl hy
    cases hba : bl y.1 a
    ·have hya : Op.bytesLess y.1.toList a.toList = false := hba
     cases hbb : bl y.1 b
     ·have hyb : Op.bytesLess y.1.toList b.toList = false := hbb
      have HE := As (show [y].filter (inR a b) = [] by simp [inR, hba, hbb])
      go_wp2_with fail
      go_quiet (fail)
      go_wp2_with fail
      go_roundg (items.length - (j + 1))
      case measure => omega
      case rel => exact ⟨j + 1, n, s6, c6, A6, rfl, by first | rfl | go_num, rfl, hjlt, ⟨by rw [HFL.out, HE.out, List.append_nil]; exact HG.out.1, by rw [HFL.out, HE.out, List.append_nil]; exact HG.out.2⟩, ⟨HW.out.drewN nq⟩⟩
     ·have hyb : Op.bytesLess y.1.toList b.toList = true := hbb
      have HE := As (show [y].filter (inR a b) = [y] by simp [inR, hba, hbb])
      have HBB := As (show (n + 1) * 32 ≤ 140737488355328 by omega)
      go_wp2_with fail
      go_quiet (fail)
      obtain ⟨W6, hW, hw⟩ : ∃ W, W = World.drewN _ nq ∧ Hv w0 W (A6 ++ (A5 ++ Q)) := ⟨_, rfl, HW.out.drewN nq⟩
      rw [← hW]
      have H6 := As hw
      clear hW hw z0 z1 z2 b0 b1
      obtain ⟨z0, z1, z2⟩ := icellsT (HRD.out _ _ H6.out (fun q hq => by simp [hq])) HYj.out
      have h12 := H6.out.alloc (.cells #[.string y.1, .int .i64 y.2.1, .int .i64 y.2.2] 104)
      have HX2 := As (show Hv w0 (W6.alloc (.cells #[.string y.1, .int .i64 y.2.1, .int .i64 y.2.2] 104)) (A6 ++ (cb W6.heap.size 104 #[.string y.1, .int .i64 y.2.1, .int .i64 y.2.2] :: (A5 ++ Q))) from h12.perm List.perm_middle)
      have HN2 := As ((Rdy.of_rw (w0 := w0) (size := 3) (n := 1) (e := 104) (c := 1) (xs := icel y) (ad := some ⟨W6.heap.size, 0, none⟩) (L := A6 ++ (cb W6.heap.size 104 #[.string y.1, .int .i64 y.2.1, .int .i64 y.2.2] :: (A5 ++ Q))) ⟨rfl, Nat.le_refl _, fun _ => ⟨W6.heap.size, 0, #[.string y.1, .int .i64 y.2.1, .int .i64 y.2.2], rfl, by simp, fun i _ => by rw [Nat.zero_add]; simp [icel, scel]⟩⟩).now HX2.out)
      clear h12
      go_wp2_with ((with_reducible refine gate_builtin (b := .append) (xs := #[.tmp 55, .tmp 60]) rfl ?_); at_builtin; go_loud (refine append_rows (w0 := w0) (A := A6) (L := cb W6.heap.size 104 #[.string y.1, .int .i64 y.2.1, .int .i64 y.2.2] :: (A5 ++ Q)) rfl (.tmp 55) (.tmp 60) 89 104 (.agg #[.string ⟨#[]⟩, .int .i64 0, .int .i64 0]) 3 32 rfl Try.underlying89 infoI rfl (by decide) (by decide) (.slice s6 n c6) n (((seg.flatMap (fun y => itemsOf (t.at y.1))).filter (inR a b) ++ (items.take j).filter (inR a b)).flatMap icel) rfl (some ⟨W6.heap.size, 0, none⟩) 1 1 (icel y) rfl (by intro u hu; simp [icel, scel] at hu; rcases hu with rfl | rfl | rfl <;> rfl) HG.out.2 HX2.out HN2.out HBB.out ?_); go_loud (intro v8 w8 A8 hG1 hv5; obtain ⟨ad8, c8, rfl, -⟩ := hG1.form; have HG8 := As hG1; have H8 := As (hv5.drop (L' := A8 ++ (A5 ++ Q)) (List.Sublist.append_left (List.sublist_cons_self _ _) A8)); clear hG1 hv5))
      go_roundg (items.length - (j + 1))
      case measure => omega
      case rel => exact ⟨j + 1, n + 1, ad8, c8, A8, rfl, by first | rfl | go_num, rfl, hjlt, ⟨by rw [HFL.out, HE.out, List.length_append, ← HG.out.1]; rfl, by rw [HFL.out, HE.out, List.flatMap_append]; simpa using HG8.out⟩, H8⟩
    ·have hya : Op.bytesLess y.1.toList a.toList = true := hba
     have HE := As (show [y].filter (inR a b) = [] by simp [inR, hba])
     go_wp2_with fail
     go_quiet (fail)
     go_wp2_with fail
     go_roundg (items.length - (j + 1))
     case measure => omega
     case rel => exact ⟨j + 1, n, s6, c6, A6, rfl, by first | rfl | go_num, rfl, hjlt, ⟨by rw [HFL.out, HE.out, List.append_nil]; exact HG.out.1, by rw [HFL.out, HE.out, List.append_nil]; exact HG.out.2⟩, ⟨HW.out.drewN nq⟩⟩
   ·have hge : ¬ (j : Int) < (items.length : Int) := by omega
    have hjj : j = items.length := by omega
    have HO := As (show n = (((seg ++ [x]).flatMap (fun y => itemsOf (t.at y.1))).filter (inR a b)).length ∧ Gr 104 3 (.slice s6 n c6) n ((((seg ++ [x]).flatMap (fun y => itemsOf (t.at y.1))).filter (inR a b)).flatMap icel) A6 by
     have e1 : ((seg ++ [x]).flatMap (fun y => itemsOf (t.at y.1))).filter (inR a b) = (seg.flatMap (fun y => itemsOf (t.at y.1))).filter (inR a b) ++ (items.take j).filter (inR a b) := by
      rw [hjj, List.take_length, List.flatMap_append, List.filter_append, ← HIT.out]
      simp
     rw [e1]
     exact HG.out)
    have HSe := As (show Gr 85 3 (.slice ad5 (i + 1) c5) (i + 1) ((seg ++ [x]).flatMap (scel t)) A5 by rw [List.flatMap_append]; simpa using HG5.out)
    have HKe := As (show Kt w0 _ K (A6 ++ (A5 ++ (cb gx 78 #[.string a, .string b] :: L))) k t h its from by
     have h1 := HBK.out _ (A6 ++ A5) (by rw [List.append_assoc]; exact HW.out)
     refine h1.drop ?_
     rw [List.append_assoc]
     exact List.Sublist.append_left (List.Sublist.append_left ((List.sublist_append_right Al _).cons _) A5) A6)
    have HS2 := As (show ∀ y ∈ seg ++ [x], (itemsOf (t.at y.1)).length ≤ 4 from fun y hy => by
     rcases List.mem_append.1 hy with hy | hy
     ·exact HS.out.2.2 y hy
     ·rw [List.mem_singleton.1 hy, HIT.out]; exact H4.out)
    clear hjj hj hjlt
    cases hem : x.2.2.toList.isEmpty
    ·have hne : x.2.2 ≠ ⟨#[]⟩ := fun e => by rw [e] at hem; have := emp_nil; unfold emp at this; rw [this] at hem; cases hem
     cases hbe : bl x.2.2 b
     ·have hxb : Op.bytesLess x.2.2.toList b.toList = false := hbe
      obtain ⟨hd1, hd2⟩ := HS.out.2.1.done (b := b) HLV.out.1 (.inr hbe)
      have HD := As (And.intro hd1 hd2)
      clear hd1 hd2
      have hn := HO.out.1
      rw [HD.out.1] at hn
      have hg := HO.out.2
      rw [HD.out.1] at hg
      have HGn := As hg
      clear hg
      subst hn
      go_wp2_with fail
      have hil : i + 1 = (seg ++ [x]).length := by rw [List.length_append, ← HS.out.1]; rfl
      exact bodyPost_ret (v := .tuple #[.slice ad5 (i + 1) c5, .slice s6 (its.filter (inR a b)).length c6]) (by simp [results, Try.results60, go_sem]) rfl ⟨seg ++ [x], ad5, c5, A5, s6, c6, A6, by rw [← hil], by rw [← hil]; exact HSe.out, HGn.out, HKe.out.drop (List.Sublist.append_left (List.Sublist.append_left (List.sublist_cons_self _ _) A5) A6), by rw [← hil]; exact HN2.out.2, fun y hy => ⟨p, HLV.out.1, by rw [HS.out.2.1.eq]; rcases List.mem_append.1 hy with hy | hy; exact List.mem_append_right _ (List.mem_append_left _ hy); rw [List.mem_singleton.1 hy]; simp⟩, HD.out.2⟩
     ·have hxb : Op.bytesLess x.2.2.toList b.toList = true := hbe
      obtain ⟨x2, rest2, hs2⟩ := HS.out.2.1.next HLV.out.1.ch hne
      have HSn := As hs2
      clear hs2
      go_wp2_with fail
      go_roundg (300 - (i + 1))
      case measure => have := HN2.out.2; omega
      case rel => exact ⟨i + 1, n, x.2.2, seg ++ [x], x2, rest2, ad5, c5, A5, s6, c6, A6, rfl, rfl, rfl, by first | rfl | go_num, rfl, ⟨by rw [List.length_append, ← HS.out.1]; rfl, HSn.out, HS2.out⟩, HSe, HO, ⟨HKe.out.permK (by rw [← List.append_assoc, ← List.append_assoc]; exact List.Perm.append_right _ List.perm_append_comm)⟩⟩
    ·have hne : x.2.2 = ⟨#[]⟩ := tl_inj (by rw [Lib.toList_data (⟨#[]⟩ : ByteArray)]; simpa using hem)
     obtain ⟨hd1, hd2⟩ := HS.out.2.1.done (b := b) HLV.out.1 (.inl hne)
     have HD := As (And.intro hd1 hd2)
     clear hd1 hd2
     have hn := HO.out.1
     rw [HD.out.1] at hn
     have hg := HO.out.2
     rw [HD.out.1] at hg
     have HGn := As hg
     clear hg
     subst hn
     go_wp2_with fail
     have hil : i + 1 = (seg ++ [x]).length := by rw [List.length_append, ← HS.out.1]; rfl
     exact bodyPost_ret (v := .tuple #[.slice ad5 (i + 1) c5, .slice s6 (its.filter (inR a b)).length c6]) (by simp [results, Try.results60, go_sem]) rfl ⟨seg ++ [x], ad5, c5, A5, s6, c6, A6, by rw [← hil], by rw [← hil]; exact HSe.out, HGn.out, HKe.out.drop (List.Sublist.append_left (List.Sublist.append_left (List.sublist_cons_self _ _) A5) A6), by rw [← hil]; exact HN2.out.2, fun y hy => ⟨p, HLV.out.1, by rw [HS.out.2.1.eq]; rcases List.mem_append.1 hy with hy | hy; exact List.mem_append_right _ (List.mem_append_left _ hy); rw [List.mem_singleton.1 hy]; simp⟩, HD.out.2⟩
end Go.Proofs.Ytglbcfkmaamhaaa.Tr
end
