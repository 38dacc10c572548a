/- NamesGone: without some names none of these is there, and each other one as often as it was. No condition. -/
import Derived.Test.YtacmdkjcmbhgiaaQNamesGonex2
import Derived.Lib.Strings
set_option linter.unusedVariables false
set_option linter.unusedSimpArgs false
namespace Go.Proofs.Ytacmdkjcmbhgiaa.Pure
open Go Go.RowKit Go.Proofs.Ytacmdkjcmbhgiaa.PNamesGone Go.Proofs.YtacmdkjcmbhgiaaW.PrintWords Go.Proofs.YtacmdkjcmbhgiaaW.PrintLast


theorem awake_ok : transomlaw08_awake.f 20 = some true := by kernel_rfl
theorem awake_ev : Ev (fun k => transomlaw08_awake.f k) true := Ev.of (fun k => transomlaw08_awake.mono k) awake_ok
theorem awake_ev' : Ev (fun k => (transomlaw08_awake.f k).bind fun t => some t) true := awake_ev.bind (Ev.now true)
theorem w_succ (i n : Nat) (h : i < n) (hn : n ≤ 9223372036854775807) : wrap64 ((i : Int) + 1) = ((i + 1 : Nat) : Int) := by unfold wrap64; omega

theorem rd_at (l : List ByteArray) (i : Nat) (h : i < l.length) : rdOf ByteArray.empty l (i : Int) = l[i] := by
  simp [rdOf, h]
/-- Where a text stands first. -/
def fnd (s : ByteArray) : List ByteArray → Nat → Int
  | [], _ => -1
  | a :: l, i => if s.toList = a.toList then (i : Int) else fnd s l (i + 1)
/-- How often it stands there. -/
def cnt (s : ByteArray) : List ByteArray → Int
  | [] => 0
  | a :: l => (if a.toList = s.toList then 1 else 0) + cnt s l
theorem cnt_bd (s : ByteArray) : ∀ l, 0 ≤ cnt s l ∧ cnt s l ≤ l.length
  | [] => by simp [cnt]
  | a :: l => by
    have := cnt_bd s l
    unfold cnt
    simp only [List.length_cons]
    split <;> omega
theorem fnd_spec (s : ByteArray) : ∀ (l : List ByteArray) (i : Nat), (fnd s l i = -1 ∧ ∀ a ∈ l, ¬ s.toList = a.toList) ∨ ∃ (j : Nat) (h : j < l.length), fnd s l i = ((i + j : Nat) : Int) ∧ s.toList = l[j].toList ∧ ∀ (j' : Nat) (h' : j' < j), ¬ s.toList = (l[j']'(by omega)).toList
  | [], i => .inl ⟨rfl, by simp⟩
  | a :: l, i => by
    unfold fnd
    by_cases h : s.toList = a.toList
    · refine .inr ⟨0, by simp, by rw [if_pos h]; simp, by simpa using h, fun j' h' => absurd h' (Nat.not_lt_zero _)⟩
    · rw [if_neg h]
      rcases fnd_spec s l (i + 1) with ⟨h1, h2⟩ | ⟨j, hj, h1, h2, h3⟩
      · refine .inl ⟨h1, fun b hb => ?_⟩
        rcases List.mem_cons.1 hb with rfl | hb
        · exact h
        · exact h2 b hb
      · refine .inr ⟨j + 1, by simp; omega, by rw [h1]; congr 1; omega, by simpa using h2, fun j' h' => ?_⟩
        rcases j' with _ | j'
        · simpa using h
        · simpa using h3 j' (by omega)
theorem cnt_zero (s : ByteArray) : ∀ l : List ByteArray, cnt s l = 0 ↔ ∀ a ∈ l, ¬ s.toList = a.toList
  | [] => by simp [cnt]
  | a :: l => by
    have ih := cnt_zero s l
    have bd := cnt_bd s l
    unfold cnt
    by_cases h : a.toList = s.toList
    · rw [if_pos h]
      constructor
      · intro h0; omega
      · intro h0; exact absurd h.symm (h0 a (by simp))
    · rw [if_neg h]
      constructor
      · intro h0 b hb
        rcases List.mem_cons.1 hb with rfl | hb
        · exact fun e => h e.symm
        · exact ih.1 (by omega) b hb
      · intro h0
        have := ih.2 (fun b hb => h0 b (by simp [hb]))
        omega
theorem cnt_fnd (s : ByteArray) (l : List ByteArray) : cnt s l = 0 ↔ fnd s l 0 < 0 := by
  rw [cnt_zero]
  rcases fnd_spec s l 0 with ⟨h1, h2⟩ | ⟨j, hj, h1, h2, _⟩
  · exact ⟨fun _ => by omega, fun _ => h2⟩
  · refine ⟨fun h => absurd h2 (h _ (List.getElem_mem hj)), fun h => by omega⟩
theorem cnt_one (s : ByteArray) : ∀ (l : List ByteArray) (j : Nat) (h : j < l.length), l[j].toList = s.toList → 1 ≤ cnt s l
  | a :: l, 0, _, e => by
    have := cnt_bd s l
    unfold cnt
    rw [if_pos (by simpa using e)]; omega
  | a :: l, j + 1, h, e => by
    have := cnt_one s l j (by simpa using h) (by simpa using e)
    unfold cnt
    split <;> omega
theorem cnt_two (s : ByteArray) : ∀ (l : List ByteArray) (i j : Nat) (hi : i < j) (hj : j < l.length), (l[i]'(by omega)).toList = s.toList → l[j].toList = s.toList → 2 ≤ cnt s l
  | a :: l, 0, j + 1, _, hj, e1, e2 => by
    have := cnt_one s l j (by simpa using hj) (by simpa using e2)
    unfold cnt
    rw [if_pos (by simpa using e1)]; omega
  | a :: l, i + 1, j + 1, hi, hj, e1, e2 => by
    have := cnt_two s l i j (by omega) (by simpa using hj) (by simpa using e1) (by simpa using e2)
    unfold cnt
    split <;> omega
theorem one_cnt (s : ByteArray) : ∀ (l : List ByteArray), 1 ≤ cnt s l → ∃ (j : Nat) (h : j < l.length), l[j].toList = s.toList
  | [], h => by simp [cnt] at h
  | a :: l, h => by
    by_cases e : a.toList = s.toList
    · exact ⟨0, by simp, by simpa using e⟩
    · unfold cnt at h
      rw [if_neg e] at h
      obtain ⟨j, hj, e2⟩ := one_cnt s l (by omega)
      exact ⟨j + 1, by simpa using hj, by simpa using e2⟩
theorem two_cnt (s : ByteArray) : ∀ (l : List ByteArray), 2 ≤ cnt s l → ∃ (i j : Nat) (hi : i < j) (hj : j < l.length), (l[i]'(by omega)).toList = s.toList ∧ l[j].toList = s.toList
  | [], h => by simp [cnt] at h
  | a :: l, h => by
    by_cases e : a.toList = s.toList
    · unfold cnt at h
      rw [if_pos e] at h
      obtain ⟨j, hj, e2⟩ := one_cnt s l (by omega)
      exact ⟨0, j + 1, by omega, by simpa using hj, by simpa using e, by simpa using e2⟩
    · unfold cnt at h
      rw [if_neg e] at h
      obtain ⟨i, j, hi, hj, e1, e2⟩ := two_cnt s l (by omega)
      exact ⟨i + 1, j + 1, by omega, by simpa using hj, by simpa using e1, by simpa using e2⟩
def few (l : List ByteArray) : Int := if l.length > 60 then 0 else if l.all (fun s => decide (s.size ≤ 500)) then 1 else 0
theorem few_ev (l : List ByteArray) : Ev (fun k => transomlaw08_Few.f k l) (few l) := by
  unfold transomlaw08_Few.f few
  by_cases h : l.length > 60
  · rw [if_pos h]
    exact Ev.congr (fun k => by rw [if_pos (by omega)]) (Ev.now _)
  rw [if_neg h]
  refine Ev.congr (f := fun k => transomlaw08_Few.l0 k l 0) (fun k => by rw [if_neg (by omega)]) ?_
  suffices H : ∀ (d i : Nat), i ≤ l.length → l.length - i = d → Ev (fun k => transomlaw08_Few.l0 k l i) (if (l.drop i).all (fun s => decide (s.size ≤ 500)) then 1 else 0) by
    exact H l.length 0 (by omega) (by omega)
  intro d
  induction d with
  | zero =>
    intro i hi hd
    have hd0 : l.drop i = [] := List.drop_eq_nil_of_le (by omega)
    rw [hd0]
    exact Ev.step (f := fun _ => some 1) (fun k => by unfold transomlaw08_Few.l0; rw [if_neg (by omega)]) (Ev.now _)
  | succ d ih =>
    intro i hi hd
    have hlt : i < l.length := by omega
    have hw := w_succ i l.length hlt (by omega)
    rw [List.drop_eq_getElem_cons hlt, List.all_cons]
    by_cases h5 : l[i].size ≤ 500
    · simp only [h5, decide_true, Bool.true_and]
      refine Ev.step (f := fun k => transomlaw08_Few.l0 k l ((i + 1 : Nat) : Int)) (fun k => ?_) (ih (i + 1) (by omega) (by omega))
      conv => lhs; unfold transomlaw08_Few.l0
      rw [if_pos (by omega), if_pos (by omega), rd_at l i hlt, if_neg (by omega), hw]
    · simp only [h5, decide_false, Bool.false_and]
      refine Ev.step (f := fun _ => some 0) (fun k => ?_) (Ev.now _)
      unfold transomlaw08_Few.l0
      rw [if_pos (by omega), if_pos (by omega), rd_at l i hlt, if_pos (by omega)]
theorem index_ev (l : List ByteArray) (s : ByteArray) (hl : l.length ≤ 9223372036854775807) : Ev (fun k => slices_Index_string_string.f k l s) (fnd s l 0) := by
  unfold slices_Index_string_string.f
  suffices H : ∀ (d i : Nat), i ≤ l.length → l.length - i = d → Ev (fun k => slices_Index_string_string.l0 k l s (l.length : Int) i) (fnd s (l.drop i) i) by
    exact H l.length 0 (by omega) (by omega)
  intro d
  induction d with
  | zero =>
    intro i hi hd
    have hd0 : l.drop i = [] := List.drop_eq_nil_of_le (by omega)
    rw [hd0]
    exact Ev.step (f := fun _ => some (-1)) (fun k => by unfold slices_Index_string_string.l0; rw [if_neg (by omega)]) (Ev.now _)
  | succ d ih =>
    intro i hi hd
    have hlt : i < l.length := by omega
    have hw := w_succ i l.length hlt hl
    rw [List.drop_eq_getElem_cons hlt]
    unfold fnd
    by_cases h5 : s.toList = l[i].toList
    · rw [if_pos h5]
      refine Ev.step (f := fun _ => some (i : Int)) (fun k => ?_) (Ev.now _)
      unfold slices_Index_string_string.l0
      rw [if_pos (by omega), if_pos (by omega), if_pos (by omega), rd_at l i hlt, if_pos h5]
    · rw [if_neg h5]
      refine Ev.step (f := fun k => slices_Index_string_string.l0 k l s (l.length : Int) ((i + 1 : Nat) : Int)) (fun k => ?_) (ih (i + 1) (by omega) (by omega))
      conv => lhs; unfold slices_Index_string_string.l0
      rw [if_pos (by omega), if_pos (by omega), if_pos (by omega), rd_at l i hlt, if_neg h5, hw]
theorem find_ev (l : List ByteArray) (s : ByteArray) (hl : l.length ≤ 9223372036854775807) : Ev (fun k => names_Find.f k l s) (fnd s l 0) :=
  (index_ev l s hl).bind (Ev.now _)
theorem count_ev (l : List ByteArray) (s : ByteArray) (hl : l.length ≤ 9223372036854775807) : Ev (fun k => names_count.f k s l) (cnt s l) := by
  unfold names_count.f
  suffices H : ∀ (d i : Nat) (x : Int), i ≤ l.length → l.length - i = d → 0 ≤ x → x ≤ i → Ev (fun k => names_count.l0 k s x l (l.length : Int) i) (x + cnt s (l.drop i)) by
    have := H l.length 0 0 (by omega) (by omega) (by omega) (by omega)
    rwa [List.drop_zero, Int.zero_add] at this
  intro d
  induction d with
  | zero =>
    intro i x hi hd hx0 hx1
    have hd0 : l.drop i = [] := List.drop_eq_nil_of_le (by omega)
    rw [hd0]
    exact Ev.step (f := fun _ => some (x + cnt s [])) (fun k => by unfold names_count.l0; rw [if_neg (by omega)]; simp [cnt]) (Ev.now _)
  | succ d ih =>
    intro i x hi hd hx0 hx1
    have hlt : i < l.length := by omega
    have hw := w_succ i l.length hlt hl
    have hwx : wrap64 (x + 1) = x + 1 := by unfold wrap64; omega
    rw [List.drop_eq_getElem_cons hlt]
    unfold cnt
    by_cases h5 : l[i].toList = s.toList
    · rw [if_pos h5, ← Int.add_assoc]
      refine Ev.step (f := fun k => names_count.l0 k s (x + 1) l (l.length : Int) ((i + 1 : Nat) : Int)) (fun k => ?_) (ih (i + 1) (x + 1) (by omega) (by omega) (by omega) (by omega))
      conv => lhs; unfold names_count.l0
      rw [if_pos (by omega), if_pos (by omega), if_pos (by omega), rd_at l i hlt, if_pos h5, hw, hwx]
    · rw [if_neg h5, Int.zero_add]
      refine Ev.step (f := fun k => names_count.l0 k s x l (l.length : Int) ((i + 1 : Nat) : Int)) (fun k => ?_) (ih (i + 1) x (by omega) (by omega) (by omega) (by omega))
      conv => lhs; unfold names_count.l0
      rw [if_pos (by omega), if_pos (by omega), if_pos (by omega), rd_at l i hlt, if_neg h5, hw]
/-- Those of l that are not in m. -/
def wth (m l : List ByteArray) : List ByteArray := l.filter fun s => decide (cnt s m = 0)
theorem wth_length (m l : List ByteArray) : (wth m l).length ≤ l.length := List.length_filter_le _ _
theorem without_ev (l m : List ByteArray) (hl : l.length ≤ 60) (hm : m.length ≤ 60) : Ev (fun k => names_Without.f k l m) (wth m l) := by
  unfold names_Without.f
  suffices H : ∀ (d i : Nat) (x : List ByteArray), i ≤ l.length → l.length - i = d → x.length ≤ i → Ev (fun k => names_Without.l0 k m x l (l.length : Int) i) (x ++ wth m (l.drop i)) by
    have := H l.length 0 [] (by omega) (by omega) (by simp)
    rwa [List.drop_zero, List.nil_append] at this
  intro d
  induction d with
  | zero =>
    intro i x hi hd hx
    have hd0 : l.drop i = [] := List.drop_eq_nil_of_le (by omega)
    rw [hd0]
    exact Ev.step (f := fun _ => some (x ++ wth m [])) (fun k => by unfold names_Without.l0; rw [if_neg (by omega)]; simp [wth]) (Ev.now _)
  | succ d ih =>
    intro i x hi hd hx
    have hlt : i < l.length := by omega
    have hw := w_succ i l.length hlt (by omega)
    rw [List.drop_eq_getElem_cons hlt]
    unfold wth
    rw [List.filter_cons]
    refine Ev.step (f := fun k => (names_count.f k l[i] m).bind fun t => if t = 0 then (if x.length < 8796093022208 then names_Without.l0 k m (x ++ [l[i]]) l (l.length : Int) ((i + 1 : Nat) : Int) else none) else names_Without.l0 k m x l (l.length : Int) ((i + 1 : Nat) : Int)) (fun k => ?_) ((count_ev m l[i] (by omega)).bind ?_)
    · conv => lhs; unfold names_Without.l0
      rw [if_pos (by omega), if_pos (by omega), if_pos (by omega), rd_at l i hlt, hw]
    · by_cases h5 : cnt l[i] m = 0
      · simp only [h5, decide_true, if_true]
        refine Ev.congr (f := fun k => names_Without.l0 k m (x ++ [l[i]]) l (l.length : Int) ((i + 1 : Nat) : Int)) (fun k => by rw [if_pos (by omega)]) ?_
        have := ih (i + 1) (x ++ [l[i]]) (by omega) (by omega) (by simp; omega)
        rw [List.append_assoc, List.singleton_append] at this
        exact this
      · simp only [h5, decide_false, if_false, Bool.false_eq_true]
        exact ih (i + 1) x (by omega) (by omega) (by omega)
theorem few_len {l : List ByteArray} (h : few l ≠ 0) : l.length ≤ 60 := by
  unfold few at h
  rcases Nat.lt_or_ge 60 l.length with h1 | h1
  · rw [if_pos h1] at h; exact absurd rfl h
  · exact h1

/-- How many of l are in m. -/
def gon (m l : List ByteArray) : Int := ((l.filter fun s => !decide (cnt s m = 0)).length : Int)
theorem gon_wth (m : List ByteArray) : ∀ l : List ByteArray, ((wth m l).length : Int) + gon m l = l.length
  | [] => rfl
  | a :: l => by
    have := gon_wth m l
    unfold wth gon at *
    by_cases h : cnt a m = 0
    · simp only [List.filter_cons, h, decide_true, if_true, Bool.not_true, Bool.false_eq_true, if_false, List.length_cons]; omega
    · simp only [List.filter_cons, h, decide_false, if_false, Bool.not_false, Bool.false_eq_true, if_true, List.length_cons]; omega
theorem l1_ev (l m x : List ByteArray) (hl : l.length ≤ 60) (hm : m.length ≤ 60) (hx : x = wth m l) : ∀ (d i : Nat) (c : Int), i ≤ l.length → l.length - i = d → 0 ≤ c → c ≤ i → c + gon m (l.drop i) = gon m l → Ev (fun k => transomlaw08_NamesGone.l1 k l m x c i) true := by
  have hlx : x.length ≤ 60 := by rw [hx]; exact Nat.le_trans (wth_length m l) hl
  intro d
  induction d with
  | zero =>
    intro i c hi hd h0 h1 hg
    have hd0 : l.drop i = [] := List.drop_eq_nil_of_le (by omega)
    rw [hd0] at hg
    have hg0 : gon m [] = 0 := rfl
    have hgw := gon_wth m l
    rw [← hx] at hgw
    have hw : wrap64 ((x.length : Int) + c) = (l.length : Int) := by unfold wrap64; omega
    refine Ev.step (f := fun k => (transomlaw08_awake.f k).bind fun t => some t) (fun k => ?_) awake_ev'
    unfold transomlaw08_NamesGone.l1
    rw [if_neg (by omega), if_pos hw]
  | succ d ih =>
    intro i c hi hd h0 h1 hg
    have hlt : i < l.length := by omega
    have hw := w_succ i l.length hlt (by omega)
    have hwc : wrap64 (c + 1) = c + 1 := by unfold wrap64; omega
    rw [List.drop_eq_getElem_cons hlt] at hg
    refine Ev.step (f := fun k => (names_Find.f k m l[i]).bind fun t => if t ≥ 0 then transomlaw08_NamesGone.l1 k l m x (c + 1) ((i + 1 : Nat) : Int) else transomlaw08_NamesGone.l1 k l m x c ((i + 1 : Nat) : Int)) (fun k => ?_) ((find_ev m l[i] (by omega)).bind ?_)
    · conv => lhs; unfold transomlaw08_NamesGone.l1
      rw [if_pos (by omega), if_pos (by omega), rd_at l i hlt, hw, hwc]
    · have hcf := cnt_fnd l[i] m
      by_cases h5 : cnt l[i] m = 0
      · have h6 := hcf.1 h5
        have hg' : gon m (l[i] :: l.drop (i + 1)) = gon m (l.drop (i + 1)) := by
          unfold gon; rw [List.filter_cons, if_neg (by simp [h5])]
        exact Ev.congr (fun k => by rw [if_neg (by omega)]) (ih (i + 1) c (by omega) (by omega) h0 (by omega) (by omega))
      · have h6 : ¬ fnd l[i] m 0 < 0 := fun h => h5 (hcf.2 h)
        have hg' : gon m (l[i] :: l.drop (i + 1)) = gon m (l.drop (i + 1)) + 1 := by
          unfold gon; rw [List.filter_cons, if_pos (by simp [h5])]; simp
        exact Ev.congr (fun k => by rw [if_pos (by omega)]) (ih (i + 1) (c + 1) (by omega) (by omega) (by omega) (by omega) (by omega))
theorem l0_ev (l m x : List ByteArray) (hl : l.length ≤ 60) (hm : m.length ≤ 60) (hx : x = wth m l) : ∀ (d i : Nat), i ≤ x.length → x.length - i = d → Ev (fun k => transomlaw08_NamesGone.l0 k l m x i) true := by
  have hlx : x.length ≤ 60 := by rw [hx]; exact Nat.le_trans (wth_length m l) hl
  intro d
  induction d with
  | zero =>
    intro i hi hd
    refine Ev.step (f := fun k => transomlaw08_NamesGone.l1 k l m x 0 0) (fun k => ?_) (l1_ev l m x hl hm hx l.length 0 0 (by omega) (by omega) (by omega) (by omega) (by simp))
    conv => lhs; unfold transomlaw08_NamesGone.l0
    rw [if_neg (by omega)]
  | succ d ih =>
    intro i hi hd
    have hlt : i < x.length := by omega
    have hw := w_succ i x.length hlt (by omega)
    have hmem : x[i] ∈ wth m l := by rw [← hx]; exact List.getElem_mem hlt
    unfold wth at hmem
    obtain ⟨hin, hz⟩ := List.mem_filter.1 hmem
    have hz' : cnt x[i] m = 0 := by simpa using hz
    have f1 := (cnt_fnd x[i] m).1 hz'
    have f2 : ¬ fnd x[i] l 0 < 0 := fun h => by
      have := (cnt_fnd x[i] l).2 h
      exact (cnt_zero x[i] l).1 this _ hin rfl
    refine Ev.step (f := fun k => (names_Find.f k m x[i]).bind fun t => if t ≥ 0 then some false else (names_Find.f k l x[i]).bind fun t => if t < 0 then some false else transomlaw08_NamesGone.l0 k l m x ((i + 1 : Nat) : Int)) (fun k => ?_) ((find_ev m x[i] (by omega)).bind ?_)
    · conv => lhs; unfold transomlaw08_NamesGone.l0
      rw [if_pos (by omega), if_pos (by omega), rd_at x i hlt, hw]
    · refine Ev.congr (fun k => by rw [if_neg (by omega)]) ((find_ev l x[i] (by omega)).bind ?_)
      exact Ev.congr (fun k => by rw [if_neg f2]) (ih (i + 1) (by omega) (by omega))
theorem j0_true (l m : List ByteArray) : Ev (fun k => transomlaw08_NamesGone.j0 k l m true) true :=
  Ev.step (f := fun k => (transomlaw08_awake.f k).bind fun t => some t) (fun k => rfl) awake_ev'
theorem j0_false (l m : List ByteArray) (hl : l.length ≤ 60) (hm : m.length ≤ 60) : Ev (fun k => transomlaw08_NamesGone.j0 k l m false) true :=
  Ev.step (f := fun k => (names_Without.f k l m).bind fun t => transomlaw08_NamesGone.l0 k l m t 0) (fun k => rfl) ((without_ev l m hl hm).bind (l0_ev l m _ hl hm rfl _ 0 (by omega) rfl))
theorem NamesGone (l m : List ByteArray) : ∃ k, transomlaw08_NamesGone.f k l m = some true := by
  refine Ev.rounds (g := fun k => transomlaw08_NamesGone.f k l m) ?_
  unfold transomlaw08_NamesGone.f
  refine (few_ev l).bind ?_
  by_cases h1 : few l = 0
  · exact Ev.congr (fun k => by rw [if_pos h1]) (j0_true l m)
  refine Ev.congr (fun k => by rw [if_neg h1]) ((few_ev m).bind ?_)
  by_cases h2 : few m = 0
  · exact Ev.congr (fun k => by rw [show (few m == 0) = true from by simp [h2]]) (j0_true l m)
  exact Ev.congr (fun k => by rw [show (few m == 0) = false from by simp [h2]]) (j0_false l m (few_len h1) (few_len h2))

end Go.Proofs.Ytacmdkjcmbhgiaa.Pure
