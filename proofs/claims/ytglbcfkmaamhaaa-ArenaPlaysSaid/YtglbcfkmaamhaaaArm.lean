/- An arena as plain data: slots, those that were given back, how many were ever taken; its blocks. No condition. -/
import Derived.Test.YtglbcfkmaamhaaaHv
import Derived.Laws.MakeOwn
namespace Go.Proofs.Ytglbcfkmaamhaaa.Arm
open Go Go.RowKit Go.Proofs.YtglbcfkmaamhaaaW.PrintWords Go.Proofs.Ytglbcfkmaamhaaa.Hv
set_option linter.unusedVariables false
set_option linter.unusedSimpArgs false

/-! ### Rows of equal length, one behind the other -/
theorem flat_length {k : Nat} : ∀ (l : List (List Value)), (∀ r ∈ l, r.length = k) → l.flatten.length = l.length * k
  | [], _ => by simp
  | r :: l, h => by
    have h1 := flat_length l (fun q hq => h q (by simp [hq]))
    have h2 := h r (by simp)
    rw [List.flatten_cons, List.length_append, h1, h2, List.length_cons, Nat.succ_mul, Nat.add_comm]
theorem flat_get {k : Nat} : ∀ (l : List (List Value)), (∀ r ∈ l, r.length = k) → ∀ (i j : Nat) (r : List Value), l[i]? = some r → j < k → l.flatten[i * k + j]? = r[j]?
  | [], _, i, j, r, hi, _ => by simp at hi
  | q :: l, h, i, j, r, hi, hj => by
    have h2 := h q (by simp)
    rw [List.flatten_cons]
    cases i with
    | zero =>
      have e : q = r := by simpa using hi
      subst e
      rw [Nat.zero_mul, Nat.zero_add, List.getElem?_append_left (by omega)]
    | succ i =>
      have hi' : l[i]? = some r := by simpa using hi
      have e : (i + 1) * k + j = k + (i * k + j) := by rw [Nat.succ_mul]; omega
      rw [e, List.getElem?_append_right (by omega), h2, Nat.add_sub_cancel_left]
      exact flat_get l (fun q hq => h q (by simp [hq])) i j r hi' hj
theorem flat_set {k : Nat} : ∀ (l : List (List Value)), (∀ r ∈ l, r.length = k) → ∀ (i j : Nat) (r : List Value) (v : Value), l[i]? = some r → j < k → l.flatten.set (i * k + j) v = (l.set i (r.set j v)).flatten
  | [], _, i, j, r, v, hi, _ => by simp at hi
  | q :: l, h, i, j, r, v, hi, hj => by
    have h2 := h q (by simp)
    rw [List.flatten_cons]
    cases i with
    | zero =>
      have e : q = r := by simpa using hi
      subst e
      rw [Nat.zero_mul, Nat.zero_add, List.set_append_left _ _ (by omega)]
      rfl
    | succ i =>
      have hi' : l[i]? = some r := by simpa using hi
      have e : (i + 1) * k + j = k + (i * k + j) := by rw [Nat.succ_mul]; omega
      rw [e, List.set_append_right _ _ (by omega), h2, Nat.add_sub_cancel_left, flat_set l (fun q hq => h q (by simp [hq])) i j r v hi' hj]
      rfl

/-! ### The arena -/
structure Sl where
  x : List Value
  gen : Int
  taken : Bool
structure Ar where
  slots : List Sl
  back : List Int
  ever : Int
def Sl.cells (s : Sl) : List Value := s.x ++ [.int .i64 s.gen, .bool s.taken]
def Ar.n (s : Ar) : Nat := s.slots.length
def Ar.held (s : Ar) : Nat := s.slots.countP (·.taken)
def Ar.room (s : Ar) : Int := (s.n : Int) - s.held
def flat (l : List Sl) : Array Value := ((l.map Sl.cells).flatten).toArray
/-- A slot of none. -/
def Sl.z : Sl := ⟨[], 0, false⟩
def Ar.slot (s : Ar) (i : Int) : Sl := s.slots.getD i.toNat Sl.z
structure Ar.Ok (m : Nat) (X : List Value → Prop) (s : Ar) : Prop where
  len : ∀ q ∈ s.slots, q.x.length = m
  shp : ∀ q ∈ s.slots, X q.x
  most : s.n ≤ 4096
  sum : (s.held : Int) + s.back.length = s.ever
  ever : s.ever ≤ s.n
  back : ∀ b ∈ s.back, 0 ≤ b ∧ b < s.ever
  nod : s.back.Nodup
  bfree : ∀ b ∈ s.back, (s.slot b).taken = false
  efree : ∀ i : Int, s.ever ≤ i → (s.slot i).taken = false
def Ar.next (s : Ar) : Int := if s.back = [] then s.ever else s.back.getLastD 0
def Ar.gen (s : Ar) : Int := wrap64 ((s.slot s.next).gen + 1)
def Ar.take (s : Ar) (x : List Value) : Ar := ⟨s.slots.set s.next.toNat ⟨x, s.gen, true⟩, s.back.dropLast, if s.back = [] then s.ever + 1 else s.ever⟩
/-- What Take hands back: slot, tag, error. -/
def tk (s : Ar) : Int × Int × Int := if s.room = 0 then (0, 0, 20) else (s.next, s.gen, 0)
def Ar.took (s : Ar) (x : List Value) : Ar := if s.room = 0 then s else s.take x
/-- Is a ref right? -/
def Ar.has (s : Ar) (i g : Int) : Bool := decide (0 ≤ i ∧ i < s.n) && ((s.slot i).taken && decide ((s.slot i).gen = g))
def Ar.put (s : Ar) (i : Int) (x : List Value) : Ar := { s with slots := s.slots.set i.toNat ⟨x, (s.slot i).gen, true⟩ }
def Ar.set (s : Ar) (i g : Int) (x : List Value) : Ar := if s.has i g then s.put i x else s
def Ar.drop (s : Ar) (i : Int) (z : List Value) : Ar := { s with slots := s.slots.set i.toNat ⟨z, (s.slot i).gen, false⟩, back := s.back ++ [i] }
def Ar.free (s : Ar) (i g : Int) (z : List Value) : Ar := if s.has i g then s.drop i z else s
def liveFrom : Nat → List Sl → List (Int × Int)
  | _, [] => []
  | k, q :: l => if q.taken then ((k : Int), q.gen) :: liveFrom (k + 1) l else liveFrom (k + 1) l
def Ar.live (s : Ar) : List (Int × Int) := liveFrom 0 s.slots
def Ar.new (n : Nat) (z : List Value) : Ar := ⟨List.replicate n ⟨z, 0, false⟩, [], 0⟩

/-- A number of slots that may not be: none. -/
def many (n : Int) : Nat := if n < 0 ∨ n > 4096 then 0 else n.toNat
theorem live_len : ∀ (l : List Sl) (k : Nat), (liveFrom k l).length = l.countP (·.taken)
  | [], k => rfl
  | q :: l, k => by
    rw [liveFrom, List.countP_cons]
    cases h : q.taken <;> simp [live_len l (k + 1)]
theorem Ar.held_le (s : Ar) : s.held ≤ s.n := List.countP_le_length
theorem slot_eq {s : Ar} {i : Int} (h1 : i.toNat < s.n) : s.slots[i.toNat]? = some (s.slot i) := by
  have : i.toNat < s.slots.length := h1
  simp [Ar.slot, List.getD_eq_getElem?_getD, this]
theorem Ar.has_lt {s : Ar} {i g : Int} (h : s.has i g = true) : 0 ≤ i ∧ i < s.n ∧ (s.slot i).taken = true ∧ (s.slot i).gen = g := by
  simp only [Ar.has, Bool.and_eq_true, decide_eq_true_eq] at h
  exact ⟨h.1.1, h.1.2, h.2.1, h.2.2⟩
theorem count_set (l : List Sl) (i : Nat) (q r : Sl) (h : l[i]? = some q) : (l.set i r).countP (·.taken) + (if q.taken then 1 else 0) = l.countP (·.taken) + (if r.taken then 1 else 0) := by
  induction l generalizing i with
  | nil => simp at h
  | cons a l ih =>
    cases i with
    | zero =>
      have e : a = q := by simpa using h
      subst e
      rw [List.set_cons_zero, List.countP_cons, List.countP_cons]
      omega
    | succ i =>
      have := ih i (by simpa using h)
      rw [List.set_cons_succ, List.countP_cons, List.countP_cons]
      omega
section
variable {m : Nat} {X : List Value → Prop} {s : Ar}
theorem Ar.Ok.next (h : s.Ok m X) (hr : ¬ s.room = 0) : 0 ≤ s.next ∧ s.next < s.n := by
  have h1 := h.sum
  have h2 := h.ever
  have h3 := s.held_le
  unfold Ar.room at hr
  unfold Ar.next
  by_cases e : s.back = []
  · rw [if_pos e]
    rw [e] at h1
    simp at h1
    omega
  · rw [if_neg e]
    have := h.back (s.back.getLastD 0) (by rw [List.getLastD_eq_getLast?, List.getLast?_eq_some_getLast e]; simp)
    omega
theorem slot_mem {i : Int} (h1 : i.toNat < s.n) : s.slot i ∈ s.slots := List.mem_of_getElem? (slot_eq h1)
theorem Ar.Ok.cells (h : s.Ok m X) : ∀ r ∈ s.slots.map Sl.cells, r.length = m + 2 := by
  intro r hr
  obtain ⟨q, hq, rfl⟩ := List.mem_map.1 hr
  simp [Sl.cells, h.len q hq]
theorem Ar.Ok.size (h : s.Ok m X) : (flat s.slots).size = s.n * (m + 2) := by
  simp only [flat, List.size_toArray]
  rw [flat_length _ h.cells, List.length_map]
  rfl
theorem Ar.Ok.cell (h : s.Ok m X) {i : Int} (h1 : i.toNat < s.n) (j : Nat) (hj : j < m + 2) : (flat s.slots)[i.toNat * (m + 2) + j]? = (s.slot i).cells[j]? := by
  simp only [flat, List.getElem?_toArray]
  exact flat_get _ h.cells _ _ _ (by rw [List.getElem?_map, slot_eq h1]; rfl) hj
theorem slot_set (s : Ar) (l : List Int) (e : Int) (i : Nat) (q : Sl) (j : Int) (hi : i < s.n) : (⟨s.slots.set i q, l, e⟩ : Ar).slot j = if j.toNat = i then q else s.slot j := by
  have hi' : i < s.slots.length := hi
  simp only [Ar.slot, List.getD_eq_getElem?_getD]
  by_cases h : j.toNat = i
  · rw [if_pos h, h, List.getElem?_set_self hi']
    rfl
  · rw [if_neg h, List.getElem?_set_ne (fun e => h e.symm)]
theorem Ar.held_put {i q : Int} (hq : s.has i q = true) (x : List Value) : (s.put i x).held = s.held := by
  obtain ⟨h1, h2, h3, h4⟩ := Ar.has_lt hq
  have this := count_set s.slots i.toNat (s.slot i) ⟨x, (s.slot i).gen, true⟩ (slot_eq (s := s) (i := i) (by omega))
  rw [h3] at this
  simpa [Ar.held, Ar.put] using this
theorem Ar.held_drop {i q : Int} (hq : s.has i q = true) (z : List Value) : (s.drop i z).held + 1 = s.held := by
  obtain ⟨h1, h2, h3, h4⟩ := Ar.has_lt hq
  have this := count_set s.slots i.toNat (s.slot i) ⟨z, (s.slot i).gen, false⟩ (slot_eq (s := s) (i := i) (by omega))
  rw [h3] at this
  simpa [Ar.held, Ar.drop] using this
theorem Ar.Ok.put (h : s.Ok m X) {i q : Int} (hq : s.has i q = true) {x : List Value} (hx : x.length = m) (hX : X x) : (s.put i x).Ok m X := by
  obtain ⟨h1, h2, h3, h4⟩ := Ar.has_lt hq
  have hc := Ar.held_put hq x
  have hn : (s.put i x).n = s.n := by simp [Ar.n, Ar.put]
  have hs : ∀ j, ((s.put i x).slot j).taken = (s.slot j).taken := fun j => by
    rw [Ar.put, slot_set _ _ _ _ _ _ (by omega)]
    by_cases e : j.toNat = i.toNat
    · rw [if_pos e]
      have : s.slot j = s.slot i := by simp only [Ar.slot, e]
      rw [this, h3]
    · rw [if_neg e]
  refine ⟨fun q hq => ?_, fun q hq => ?_, by rw [hn]; exact h.most, by rw [hc]; exact h.sum, by rw [hn]; exact h.ever, h.back, h.nod, fun b hb => by rw [hs]; exact h.bfree b hb, fun b hb => by rw [hs]; exact h.efree b hb⟩
  · rcases List.mem_or_eq_of_mem_set hq with hq | rfl
    · exact h.len q hq
    · exact hx
  · rcases List.mem_or_eq_of_mem_set hq with hq | rfl
    · exact h.shp q hq
    · exact hX
theorem Ar.Ok.lt (h : s.Ok m X) {i q : Int} (hq : s.has i q = true) : i < s.ever := by
  obtain ⟨h1, h2, h3, h4⟩ := Ar.has_lt hq
  rcases Int.lt_or_le i s.ever with h5 | h5
  · exact h5
  · rw [h.efree i h5] at h3
    cases h3
theorem Ar.Ok.drop (h : s.Ok m X) {i q : Int} (hq : s.has i q = true) {z : List Value} (hz : z.length = m) (hX : X z) : (s.drop i z).Ok m X := by
  obtain ⟨h1, h2, h3, h4⟩ := Ar.has_lt hq
  have h5 := h.lt hq
  have hc := Ar.held_drop hq z
  have hn : (s.drop i z).n = s.n := by simp [Ar.n, Ar.drop]
  have hsum := h.sum
  have hs : ∀ j, j.toNat ≠ i.toNat → ((s.drop i z).slot j) = (s.slot j) := fun j hj => by
    rw [Ar.drop, slot_set _ _ _ _ _ _ (by omega), if_neg hj]
  have hsi : ∀ j : Int, j.toNat = i.toNat → ((s.drop i z).slot j).taken = false := fun j hj => by
    rw [Ar.drop, slot_set _ _ _ _ _ _ (by omega), if_pos hj]
  have hfree : ∀ j, (s.slot j).taken = false → ((s.drop i z).slot j).taken = false := fun j hj => by
    by_cases e : j.toNat = i.toNat
    · exact hsi j e
    · rw [hs j e]
      exact hj
  refine ⟨fun q hq => ?_, fun q hq => ?_, by rw [hn]; exact h.most, ?_, by rw [hn]; exact h.ever, fun b hb => ?_, ?_, fun b hb => ?_, fun b hb => hfree b (h.efree b hb)⟩
  · rcases List.mem_or_eq_of_mem_set hq with hq | rfl
    · exact h.len q hq
    · exact hz
  · rcases List.mem_or_eq_of_mem_set hq with hq | rfl
    · exact h.shp q hq
    · exact hX
  · simp only [Ar.drop, List.length_append, List.length_singleton] at hc ⊢
    omega
  · rcases List.mem_append.1 hb with hb | hb
    · exact h.back b hb
    · rw [List.mem_singleton.1 hb]
      exact ⟨h1, h5⟩
  · refine List.nodup_append.2 ⟨h.nod, by simp, fun a ha b hb => ?_⟩
    rw [List.mem_singleton.1 hb]
    rintro rfl
    rw [h.bfree a ha] at h3
    cases h3
  · rcases List.mem_append.1 hb with hb | hb
    · exact hfree b (h.bfree b hb)
    · rw [List.mem_singleton.1 hb]
      exact hsi i rfl
/-- The slot that is taken next is free. -/
theorem Ar.Ok.free (h : s.Ok m X) : (s.slot s.next).taken = false := by
  unfold Ar.next
  by_cases e : s.back = []
  · rw [if_pos e]
    exact h.efree _ (Int.le_refl _)
  · rw [if_neg e]
    refine h.bfree _ ?_
    rw [List.getLastD_eq_getLast?, List.getLast?_eq_some_getLast e]
    simp
theorem Ar.Ok.held_take (h : s.Ok m X) (hr : ¬ s.room = 0) (x : List Value) : (s.take x).held = s.held + 1 := by
  obtain ⟨h1, h2⟩ := h.next hr
  have this := count_set s.slots s.next.toNat (s.slot s.next) ⟨x, s.gen, true⟩ (slot_eq (by omega))
  rw [h.free] at this
  simpa [Ar.held, Ar.take] using this
theorem Ar.Ok.take (h : s.Ok m X) (hr : ¬ s.room = 0) {x : List Value} (hx : x.length = m) (hX : X x) : (s.take x).Ok m X := by
  obtain ⟨h1, h2⟩ := h.next hr
  have hc := h.held_take hr x
  have hn : (s.take x).n = s.n := by simp [Ar.n, Ar.take]
  have hsum := h.sum
  have hev := h.ever
  have hs : ∀ j : Int, 0 ≤ j → j ≠ s.next → ((s.take x).slot j) = (s.slot j) := fun j h0 hj => by
    rw [Ar.take, slot_set _ _ _ _ _ _ (by omega), if_neg (by omega)]
  have hev0 : 0 ≤ s.ever := by omega
  refine ⟨fun q hq => ?_, fun q hq => ?_, by rw [hn]; exact h.most, ?_, ?_, fun b hb => ?_, h.nod.sublist (List.dropLast_sublist _), fun b hb => ?_, fun b hb => ?_⟩
  · rcases List.mem_or_eq_of_mem_set hq with hq | rfl
    · exact h.len q hq
    · exact hx
  · rcases List.mem_or_eq_of_mem_set hq with hq | rfl
    · exact h.shp q hq
    · exact hX
  · rw [hc]
    by_cases e : s.back = []
    · simp only [Ar.take, e, List.dropLast_nil, List.length_nil, if_pos]
      rw [e] at hsum
      simp at hsum
      simp
      omega
    · have : 0 < s.back.length := List.length_pos_iff.2 e
      simp only [Ar.take, if_neg e, List.length_dropLast]
      omega
  · rw [hn]
    by_cases e : s.back = []
    · simp only [Ar.take, if_pos e]
      simp only [Ar.next, if_pos e] at h2
      omega
    · simp only [Ar.take, if_neg e]
      exact hev
  · have := h.back b ((List.dropLast_sublist _).mem hb)
    simp only [Ar.take]
    split <;> omega
  · have hb' := (List.dropLast_sublist _).mem hb
    have e : s.back ≠ [] := fun e => by rw [e] at hb'; simp at hb'
    have hne : b ≠ s.next := by
      rintro rfl
      simp only [Ar.next, if_neg e, Ar.take] at hb
      rw [List.getLastD_eq_getLast?, List.getLast?_eq_some_getLast e] at hb
      have h5 := h.nod
      rw [← List.dropLast_concat_getLast e] at h5
      exact (List.nodup_append.1 h5).2.2 _ hb _ (by simp) rfl
    rw [hs b (h.back b hb').1 hne]
    exact h.bfree b hb'
  · by_cases e : s.back = []
    · simp only [Ar.take, if_pos e] at hb
      have hne : b ≠ s.next := by simp only [Ar.next, if_pos e]; omega
      rw [hs b (by omega) hne]
      exact h.efree b (by omega)
    · simp only [Ar.take, if_neg e] at hb
      have hne : b ≠ s.next := by
        simp only [Ar.next, if_neg e]
        have := h.back (s.back.getLastD 0) (by rw [List.getLastD_eq_getLast?, List.getLast?_eq_some_getLast e]; simp)
        omega
      rw [hs b (by omega) hne]
      exact h.efree b hb
theorem new_ok (n : Nat) (hn : n ≤ 4096) (z : List Value) (hz : z.length = m) (hX : X z) : (Ar.new n z).Ok m X := by
  have hs : ∀ i, ((Ar.new n z).slot i).taken = false := fun i => by
    simp only [Ar.new, Ar.slot, List.getD_eq_getElem?_getD, List.getElem?_replicate]
    split <;> rfl
  refine ⟨fun q hq => ?_, fun q hq => ?_, by simp [Ar.new, Ar.n]; exact hn, ?_, ?_, by simp [Ar.new], by simp [Ar.new], by simp [Ar.new], fun i _ => hs i⟩
  · simp only [Ar.new, List.mem_replicate] at hq
    rw [hq.2]
    exact hz
  · simp only [Ar.new, List.mem_replicate] at hq
    rw [hq.2]
    exact hX
  · simp [Ar.new, Ar.held, List.countP_replicate]
  · simp [Ar.new, Ar.n]
/-- Rows with one cell written. -/
theorem flat_put {l : List (List Value)} {k : Nat} (h : ∀ r ∈ l, r.length = k) (i j : Nat) (r : List Value) (v : Value) (hi : l[i]? = some r) (hj : j < k) :
    (l.flatten.toArray).setIfInBounds (i * k + j) v = (l.set i (r.set j v)).flatten.toArray := by
  rw [List.setIfInBounds_toArray, flat_set l h i j r v hi hj]
theorem len_set {l : List (List Value)} {k : Nat} (h : ∀ r ∈ l, r.length = k) (i : Nat) (r : List Value) (hr : r.length = k) : ∀ q ∈ l.set i r, q.length = k := by
  intro q hq
  rcases List.mem_or_eq_of_mem_set hq with hq | rfl
  · exact h q hq
  · exact hr
theorem set_same {α : Type} {l : List α} {i : Nat} {a : α} (h : l[i]? = some a) : l.set i a = l := by
  apply List.ext_getElem?
  intro j
  by_cases e : i = j
  · subst e
    rw [List.getElem?_set_self (List.getElem?_eq_some_iff.1 h).1, h]
  · rw [List.getElem?_set_ne e]
theorem get_set {l : List (List Value)} {i : Nat} {r q : List Value} (hi : l[i]? = some q) : (l.set i r)[i]? = some r := by
  rw [List.getElem?_set_self (List.getElem?_eq_some_iff.1 hi).1]
end
theorem made_flat (zc : List Value) (k n : Nat) (hz : zc.length = k) (hk : 0 < k) : madeCells zc.toArray (n * k) = ((List.replicate n zc).flatten).toArray := by
  have hall : ∀ r ∈ List.replicate n zc, r.length = k := fun r hr => by rw [(List.mem_replicate.1 hr).2, hz]
  have hlen := flat_length _ hall
  rw [List.length_replicate] at hlen
  apply Array.ext
  · rw [size_madeCells, List.size_toArray, hlen]
  · intro j h1 h2
    rw [size_madeCells] at h1
    have hj : j / k < n := Nat.div_lt_of_lt_mul (by rw [Nat.mul_comm]; exact h1)
    have hm : j % k < k := Nat.mod_lt _ hk
    have e := flat_get _ hall (j / k) (j % k) zc (by rw [List.getElem?_replicate, if_pos hj]) hm
    rw [show j / k * k + j % k = j by rw [Nat.mul_comm]; exact Nat.div_add_mod j k] at e
    have hm' : j % k < zc.length := by omega
    rw [List.getElem?_eq_getElem (by rw [hlen]; exact h1), List.getElem?_eq_getElem hm'] at e
    have e' := Option.some.inj e
    simp only [List.getElem_toArray]
    rw [e']
    simp only [madeCells, Array.getElem_map, Array.getElem_range, List.size_toArray, hz]
    rw [getElem!_pos _ _ (by simpa using hm')]
    simp
/-- A row of refs, as cells. -/
def refs (l : List (Int × Int)) : List Value := l.flatMap (fun p => [.int .i64 p.1, .int .i64 p.2])
theorem refs_len (l : List (Int × Int)) : (refs l).length = l.length * 2 := by
  induction l with
  | nil => rfl
  | cons a l ih => simp only [refs, List.flatMap_cons, List.length_append, List.length_cons] at ih ⊢; rw [ih]; simp; omega
theorem live_take (s : Ar) (k : Nat) (h : k < s.slots.length) : liveFrom 0 (s.slots.take (k + 1)) = liveFrom 0 (s.slots.take k) ++ (if (s.slot k).taken then [((k : Int), (s.slot k).gen)] else []) := by
  have key : ∀ (l : List Sl) (j : Nat) (q : Sl), liveFrom j (l ++ [q]) = liveFrom j l ++ (if q.taken then [(((j + l.length : Nat) : Int), q.gen)] else []) := by
    intro l
    induction l with
    | nil => intro j q; cases h : q.taken <;> simp [liveFrom, h]
    | cons a l ih =>
      intro j q
      rw [List.cons_append, liveFrom, liveFrom, ih (j + 1) q, List.length_cons, show j + 1 + l.length = j + (l.length + 1) by omega]
      cases a.taken <;> simp
  have e : s.slots[k]? = some (s.slot k) := slot_eq (i := (k : Int)) (by simpa [Ar.n] using h)
  rw [List.take_succ_eq_append_getElem h, key, List.length_take, Nat.min_eq_left (by omega), Nat.zero_add]
  rw [List.getElem?_eq_getElem h] at e
  rw [Option.some.inj e]

theorem refs_get : ∀ (l : List (Int × Int)) (j : Nat) (q : Int × Int), l[j]? = some q → (refs l)[j * 2]? = some (.int .i64 q.1) ∧ (refs l)[j * 2 + 1]? = some (.int .i64 q.2)
  | [], j, q, h => by simp at h
  | a :: l, 0, q, h => by
    have e : a = q := by simpa using h
    subst e
    simp [refs]
  | a :: l, j + 1, q, h => by
    have h1 := refs_get l j q (by simpa using h)
    have e : refs (a :: l) = .int .i64 a.1 :: .int .i64 a.2 :: refs l := rfl
    rw [e, show (j + 1) * 2 = j * 2 + 1 + 1 by omega]
    simpa using h1
end Go.Proofs.Ytglbcfkmaamhaaa.Arm
