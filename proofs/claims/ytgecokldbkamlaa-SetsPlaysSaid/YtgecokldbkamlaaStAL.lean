/- transomlaw21: the order of the writes, as plain lists. No condition. -/
import Derived.Test.YtgecokldbkamlaaStAK
set_option linter.unusedVariables false
set_option linter.unusedSimpArgs false
namespace Go.Proofs.Ytgecokldbkamlaa.St
open Go
theorem bl_irr (a : ByteArray) : bl a a = false := Less.less_irr _
theorem bl_trans {a b c : ByteArray} (h1 : bl a b = true) (h2 : bl b c = true) : bl a c = true := less_trans _ _ _ h1 h2
theorem bl_asym {a b : ByteArray} (h : bl a b = true) : bl b a = false := by
  cases e : bl b a with
  | false => rfl
  | true => have := bl_trans h e; rw [bl_irr] at this; cases this
theorem bl_tot {a b : ByteArray} (h1 : bl a b = false) (h2 : bl b a = false) : a = b := by
  have h := Less.less_flip a.toList b.toList
  unfold bl at h1 h2
  rw [h1, h2, Bool.false_or, Bool.not_false] at h
  have e : a.toList = b.toList := by simpa using h
  rw [Lib.toList_data, Lib.toList_data] at e
  cases a; cases b
  simp only [ByteArray.mk.injEq]
  exact Array.toList_inj.1 e
/-- Rising, no key twice. -/
def Asc (l : List Wr) : Prop := l.Pairwise fun x y => bl x.1 y.1 = true
theorem Asc.nodup {l : List Wr} (h : Asc l) : (l.map (·.1)).Nodup := by
  rw [List.nodup_iff_pairwise_ne, List.pairwise_map]
  refine h.imp fun {x y} hxy e => ?_
  rw [e, bl_irr] at hxy
  cases hxy
theorem asc_of {l : List Wr} (h : l.Pairwise (fun x y => bl y.1 x.1 = false)) (hn : (l.map (·.1)).Nodup) : Asc l := by
  rw [List.nodup_iff_pairwise_ne, List.pairwise_map] at hn
  refine (h.and hn).imp fun {x y} ⟨h1, h2⟩ => ?_
  cases e : bl x.1 y.1 with
  | true => rfl
  | false => exact absurd (bl_tot e h1) h2
theorem asc_eq : ∀ {l m : List Wr}, Asc l → Asc m → l.Perm m → l = m
  | [], m, _, _, h => h.nil_eq.symm ▸ rfl
  | a :: l, [], _, _, h => absurd h.length_eq (by simp)
  | a :: l, b :: m, h1, h2, h => by
    unfold Asc at h1 h2
    rw [List.pairwise_cons] at h1 h2
    have e : a = b := by
      have ha : a ∈ b :: m := h.mem_iff.1 List.mem_cons_self
      have hb : b ∈ a :: l := h.mem_iff.2 List.mem_cons_self
      rcases List.mem_cons.1 ha with e | ha
      · exact e
      · rcases List.mem_cons.1 hb with e | hb
        · exact e.symm
        · have h3 := h2.1 a ha
          have h4 := bl_asym (h1.1 b hb)
          rw [h3] at h4
          cases h4
    subst e
    rw [asc_eq h1.2 h2.2 (List.Perm.cons_inv h)]
def off (y : Wr) (l : List Wr) : List Wr := l.filter fun x => !(x.1.toList == y.1.toList)
theorem off_key {x y : Wr} : (!(x.1.toList == y.1.toList)) = true ↔ x.1 ≠ y.1 := by
  constructor
  · intro h e
    rw [e] at h
    simp at h
  · intro h
    rw [tl_ne h]
    rfl
def insS (y : Wr) : List Wr → List Wr
  | [] => [y]
  | x :: l => if bl x.1 y.1 = true then x :: insS y l else y :: off y (x :: l)
theorem fold_done (y : Wr) : ∀ (l acc : List Wr), l.foldl (stp y) (acc, true) = (acc ++ off y l, true)
  | [], acc => by simp [off]
  | x :: l, acc => by
    have : stp y (acc, true) x = (acc ++ off y [x], true) := by
      unfold stp off
      cases e : (x.1.toList == y.1.toList) <;> simp [e]
    rw [List.foldl_cons, this, fold_done y l]
    unfold off
    rw [List.filter_cons (xs := l), List.append_assoc]
    cases e : (x.1.toList == y.1.toList) <;> simp [e]
theorem fold_not (y : Wr) : ∀ (l acc : List Wr), (if (l.foldl (stp y) (acc, false)).2 then (l.foldl (stp y) (acc, false)).1 else (l.foldl (stp y) (acc, false)).1 ++ [y]) = acc ++ insS y l
  | [], acc => by simp [insS]
  | x :: l, acc => by
    rw [List.foldl_cons, insS]
    cases e : bl x.1 y.1 with
    | true =>
      have hne : (x.1.toList == y.1.toList) = false := tl_ne (fun e1 => by rw [e1, bl_irr] at e; cases e)
      have : stp y (acc, false) x = (acc ++ [x], false) := by
        unfold stp
        simp [e, hne]
      rw [this, fold_not y l, if_pos rfl, List.append_assoc]
      rfl
    | false =>
      have : stp y (acc, false) x = (acc ++ [y] ++ off y [x], true) := by
        unfold stp off
        cases e1 : (x.1.toList == y.1.toList) <;> simp [e, e1]
      rw [this, fold_done]
      simp only [if_true, Bool.false_eq_true, if_false]
      unfold off
      rw [List.filter_cons (xs := l)]
      cases e1 : (x.1.toList == y.1.toList) <;> simp [e1]
theorem rwr_ins (y : Wr) (l : List Wr) : rwr y l = insS y l := by
  have := fold_not y l []
  rw [List.nil_append] at this
  exact this
theorem ins_perm (y : Wr) : ∀ (l : List Wr), (insS y l).Perm (y :: off y l)
  | [] => by simp [insS, off]
  | x :: l => by
    rw [insS]
    split
    · rename_i e
      have hne : (x.1.toList == y.1.toList) = false := tl_ne (fun e1 => by rw [e1, bl_irr] at e; cases e)
      have h1 : off y (x :: l) = x :: off y l := by unfold off; rw [List.filter_cons]; simp [hne]
      rw [h1]
      exact ((ins_perm y l).cons x).trans (List.Perm.swap _ _ _)
    · exact List.Perm.refl _
theorem mem_off {y x : Wr} {l : List Wr} (h : x ∈ off y l) : x ∈ l ∧ x.1 ≠ y.1 := by
  unfold off at h
  rw [List.mem_filter] at h
  exact ⟨h.1, off_key.1 h.2⟩
theorem ins_asc (y : Wr) : ∀ {l : List Wr}, Asc l → Asc (insS y l)
  | [], _ => by simp [insS, Asc]
  | x :: l, h => by
    unfold Asc at h ⊢
    rw [List.pairwise_cons] at h
    rw [insS]
    split
    · rename_i e
      rw [List.pairwise_cons]
      refine ⟨fun z hz => ?_, ins_asc y h.2⟩
      rcases List.mem_cons.1 ((ins_perm y l).mem_iff.1 hz) with rfl | hz
      · exact e
      · exact h.1 z (mem_off hz).1
    · rename_i e
      have e' : bl x.1 y.1 = false := by cases e2 : bl x.1 y.1 with | true => exact absurd e2 e | false => rfl
      rw [List.pairwise_cons]
      refine ⟨fun z hz => ?_, (List.pairwise_cons.2 h).sublist (List.filter_sublist)⟩
      obtain ⟨h1, h2⟩ := mem_off hz
      rcases List.mem_cons.1 h1 with rfl | h1
      · cases e3 : bl y.1 z.1 with
        | true => rfl
        | false => exact absurd (bl_tot e' e3) h2
      · have h3 := h.1 z h1
        cases e3 : bl y.1 z.1 with
        | true => rfl
        | false =>
          have h4 : bl y.1 x.1 = false := by
            cases e4 : bl y.1 x.1 with
            | false => rfl
            | true => have := bl_trans e4 h3; rw [e3] at this; cases this
          have e5 := bl_tot e' h4
          rw [← e5, h3] at e3
          cases e3
theorem off_no {y : Wr} {l : List Wr} (h : ∀ z ∈ l, z.1 ≠ y.1) : off y l = l := by
  unfold off
  exact List.filter_eq_self.2 fun z hz => off_key.2 (h z hz)
theorem put_perm (y : Wr) : ∀ {l : List Wr}, (l.map (·.1)).Nodup → (wput y l).Perm (y :: off y l)
  | [], _ => by simp [wput, off]
  | x :: l, h => by
    rw [List.map_cons, List.nodup_cons] at h
    rw [wput]
    split
    · rename_i e
      have h1 : off y (x :: l) = l := by
        have h2 : ∀ z ∈ l, z.1 ≠ y.1 := fun z hz e1 => h.1 (List.mem_map.2 ⟨z, hz, by rw [e1, e]⟩)
        have h3 := off_no h2
        unfold off at h3 ⊢
        rw [List.filter_cons, h3, e]
        simp
      rw [h1]
    · rename_i e
      have h1 : off y (x :: l) = x :: off y l := by
        unfold off
        rw [List.filter_cons, if_pos (off_key.2 e)]
      rw [h1]
      exact ((put_perm y h.2).cons x).trans (List.Perm.swap _ _ _)
theorem wget_mem {k : ByteArray} {z : Wr} : ∀ {l : List Wr}, (l.map (·.1)).Nodup → z ∈ l → z.1 = k → wget k l = (z, true)
  | x :: l, h, hz, e => by
    rw [List.map_cons, List.nodup_cons] at h
    rw [wget]
    rcases List.mem_cons.1 hz with rfl | hz
    · rw [if_pos e]
    · rw [if_neg (fun e1 => h.1 (List.mem_map.2 ⟨z, hz, by rw [e, e1]⟩)), wget_mem h.2 hz e]
theorem wget_perm {k : ByteArray} {l m : List Wr} (h : l.Perm m) (hn : (l.map (·.1)).Nodup) : wget k l = wget k m := by
  have hm : (m.map (·.1)).Nodup := (h.map _).nodup_iff.1 hn
  by_cases hk : k ∈ l.map (·.1)
  · obtain ⟨z, hz, e⟩ := List.mem_map.1 hk
    rw [wget_mem hn hz e, wget_mem hm (h.mem_iff.1 hz) e]
  · have h1 : ∀ z ∈ l, z.1 ≠ k := fun z hz e => hk (List.mem_map.2 ⟨z, hz, e⟩)
    have h2 : ∀ z ∈ m, z.1 ≠ k := fun z hz => h1 z (h.mem_iff.2 hz)
    rw [wget_no h1, wget_no h2]
/-- The sets and the reference's go together. -/
structure Inv (s x : St) : Prop where
  r : x.reads = s.reads
  n : x.nodes = s.nodes
  p : x.writes.Perm s.writes
  a : Asc x.writes
theorem Inv.zero : Inv ⟨[], [], []⟩ ⟨[], [], []⟩ := ⟨rfl, rfl, List.Perm.refl _, List.Pairwise.nil⟩
theorem Inv.nodup {s x : St} (h : Inv s x) : (s.writes.map (·.1)).Nodup := (h.p.map _).nodup_iff.1 h.a.nodup
theorem Inv.step {s x : St} (h : Inv s x) (d : Dd) : Inv (stI s d) (stR x d) := by
  obtain ⟨h1, h2, h3, h4⟩ := h
  have hn : (s.writes.map (·.1)).Nodup := (h3.map _).nodup_iff.1 h4.nodup
  unfold stI stR
  by_cases k0 : d.kind = 0
  · rw [if_pos k0, if_pos k0]; exact ⟨by simp only [h1], h2, h3, h4⟩
  · rw [if_neg k0, if_neg k0]
    by_cases k1 : d.kind = 1
    · rw [if_pos k1, if_pos k1]; exact ⟨h1, by simp only [h2], h3, h4⟩
    · rw [if_neg k1, if_neg k1]
      by_cases k2 : d.kind = 2
      · rw [if_pos k2, if_pos k2]
        refine ⟨h1, h2, ?_, ?_⟩
        · show (rwr d.wr x.writes).Perm (wput d.wr s.writes)
          rw [rwr_ins]
          exact (ins_perm _ _).trans ((((h3.filter _).cons _)).trans (put_perm _ hn).symm)
        · show Asc (rwr d.wr x.writes)
          rw [rwr_ins]
          exact ins_asc _ h4
      · rw [if_neg k2, if_neg k2]
        by_cases k3 : d.kind = 3
        · rw [if_pos k3, if_pos k3]; exact ⟨h1, by simp only [h2], h3, h4⟩
        · rw [if_neg k3, if_neg k3]; exact ⟨h1, h2, h3, h4⟩
theorem wput_len (y : Wr) : ∀ l : List Wr, (wput y l).length ≤ l.length + 1
  | [] => by simp [wput]
  | z :: l => by
    rw [wput]
    split
    · simp
    · have := wput_len y l
      simp only [List.length_cons]
      omega
/-- How great sets are behind so many deeds. -/
structure Lens (s : St) (k : Nat) : Prop where
  r : s.reads.length ≤ k
  n : s.nodes.length ≤ 11 * k
  w : s.writes.length ≤ k
theorem Lens.step {s : St} {k : Nat} (h : Lens s k) {d : Dd} (hd : d.ts.length ≤ 10) : Lens (stI s d) (k + 1) := by
  obtain ⟨h1, h2, h3⟩ := h
  have e1 := addN_len s.reads d.rd
  have e2 := addN_len s.nodes d.nd
  have e3 := wput_len d.wr s.writes
  have e4 := trn0_len s.nodes d.ts
  unfold stI
  repeat' split
  all_goals (refine ⟨?_, ?_, ?_⟩ <;> (try unfold trn) <;> (try simp only) <;> omega)
theorem Lens.small {s : St} {k : Nat} (h : Lens s k) (hk : k ≤ 60) {d : Dd} (hd : d.ts.length ≤ 10) : Small s d := by
  obtain ⟨h1, h2, h3⟩ := h
  exact ⟨by omega, by omega, by omega, by omega⟩
theorem Lens.inv {s x : St} {k : Nat} (h : Lens s k) (hi : Inv s x) : Lens x k := ⟨by rw [hi.r]; exact h.r, by rw [hi.n]; exact h.n, by rw [hi.p.length_eq]; exact h.w⟩
theorem Small.zero (d : Dd) (hd : d.ts.length ≤ 10) : Small ⟨[], [], []⟩ d := ⟨by simp, by simp, by simp, by omega⟩
end Go.Proofs.Ytgecokldbkamlaa.St
