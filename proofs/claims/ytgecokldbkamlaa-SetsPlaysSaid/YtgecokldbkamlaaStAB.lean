/- transomref21: Turned. No condition. -/
import Derived.Test.YtgecokldbkamlaaStAA
set_option linter.unusedVariables false
set_option linter.unusedSimpArgs false
namespace Go.Proofs.Ytgecokldbkamlaa.St
open Go Go.RowKit Go.MapKept Go.Proofs.YtgecokldbkamlaaW.PrintWords Go.Proofs.YtgecokldbkamlaaW.PrintLast Go.Proofs.YtgecokldbkamlaaW.PrintMore Go.Proofs.Ytgecokldbkamlaa.Hv Go.Proofs.Ytgecokldbkamlaa.Mk Go.Proofs.Ytgecokldbkamlaa.Ka
variable {w0 w w1 : World} {g : Nat} {s : St} {L L' : List Ob} {a1 a2 a3 : Option Addr} {c1 c2 c3 : Nat} {v : Value}
def cel2 (r : Rf) : List Value := [.int .i64 r.1, .int .i64 r.2]
theorem cel2_at : ∀ (l : List Rf) (k j : Nat) (d : Rf) (u : Value), l[k]? = some d → (cel2 d)[j]? = some u → (l.flatMap cel2)[k * 2 + j]? = some u
  | [], k, j, d, u, h, _ => by simp at h
  | a :: l, 0, j, d, u, h, hu => by
    have e : a = d := by simpa using h
    subst e
    have hj := (List.getElem?_eq_some_iff.1 hu).1
    rw [List.flatMap_cons, Nat.zero_mul, Nat.zero_add, List.getElem?_append_left hj]
    exact hu
  | a :: l, k + 1, j, d, u, h, hu => by
    have h1 := cel2_at l k j d u (by simpa using h) hu
    rw [List.flatMap_cons, List.getElem?_append_right (by simp [cel2]; omega), show (k + 1) * 2 + j - (cel2 a).length = k * 2 + j by simp [cel2]; omega]
    exact h1
def z31 : Array Value := #[.slice none 0 0, .slice none 0 0, .slice none 0 0]
/-- The state of the walk: the sets lie in the box b, the result's box is ahead of it. -/
def TS (w0 wr : World) (L : List Ob) (b : Nat) (s : St) (mine : List Rf) (v5 : Value) : Prop :=
  ∃ M A a1 c1 a2 c2 a3 c3, Gr 34 2 v5 mine.length (mine.flatMap cel2) M ∧ RS A s a1 c1 a2 c2 a3 c3 ∧ Hv w0 wr (M ++ (A ++ (cb (b + 1) 31 #[.slice none 0 0, .slice none 0 0, .slice none 0 0] :: cb b 31 #[.slice a1 s.reads.length c1, .slice a2 s.nodes.length c2, .slice a3 s.writes.length c3] :: L)))
theorem TS.tail {wr : World} {b : Nat} {mine : List Rf} {v5 : Value} {a : Ob} (h : TS w0 wr (a :: L) b s mine v5) : TS w0 wr L b s mine v5 := by
  obtain ⟨M, A, a1, c1, a2, c2, a3, c3, h1, h2, h3⟩ := h
  exact ⟨M, A, a1, c1, a2, c2, a3, c3, h1, h2, h3.drop (List.Sublist.append_left (List.Sublist.append_left (((List.sublist_cons_self a L).cons_cons _).cons_cons _) A) M)⟩
theorem TS.alloc {wr : World} {b : Nat} {mine : List Rf} {v5 : Value} (h : TS w0 wr L b s mine v5) (o : Obj) : TS w0 (wr.alloc o) ((wr.heap.size, o) :: L) b s mine v5 := by
  obtain ⟨M, A, a1, c1, a2, c2, a3, c3, h1, h2, h3⟩ := h
  refine ⟨M, A, a1, c1, a2, c2, a3, c3, h1, h2, (h3.alloc o).perm ?_⟩
  have := toFront [(wr.heap.size, o)] (M ++ (A ++ [cb (b + 1) 31 #[.slice none 0 0, .slice none 0 0, .slice none 0 0], cb b 31 #[.slice a1 s.reads.length c1, .slice a2 s.nodes.length c2, .slice a3 s.writes.length c3]])) L rfl
  simpa [List.append_assoc] using this.symm
theorem TS.call {wr wr1 : World} {b : Nat} {mine : List Rf} {v5 : Value} (h : TS w0 wr L b s mine v5) (hb : Below wr.heap.size wr wr1) : TS w0 wr1 L b s mine v5 := by
  obtain ⟨M, A, a1, c1, a2, c2, a3, c3, h1, h2, h3⟩ := h
  exact ⟨M, A, a1, c1, a2, c2, a3, c3, h1, h2, h3.call hb⟩
theorem info34 : (Try.prog.info? 34).map (fun i => (i.zero, i.size, i.bytes)) = some (some (.agg #[.int .i64 0, .int .i64 0]), 2, 16) := by kernel_rfl
theorem info38 : (Try.prog.info? 38).map (fun i => (i.zero, i.size, i.bytes)) = some (some (.agg #[.int .i64 0, .int .i64 0, .int .i64 0]), 3, 24) := by kernel_rfl
def inn (s : St) (x : Tn) (mine : List Rf) : St := if x.f ∈ mine then { s with nodes := addN s.nodes (x.n, x.new) } else s
theorem inn_len (s : St) (x : Tn) (mine : List Rf) : (inn s x mine).nodes.length ≤ s.nodes.length + 1 := by
  unfold inn; split
  · exact addN_len _ _
  · exact Nat.le_succ _
theorem addN_twice (l : List R3) (x : R3) : addN (addN l x) x = addN l x := by
  unfold addN
  by_cases h : x.1 ∈ l.map (·.1)
  · rw [if_pos h, if_pos h]
  · rw [if_neg h, if_pos (by simp)]
theorem inn_yes (s : St) (x : Tn) (mine : List Rf) : inn s x (mine ++ [x.f]) = { inn s x mine with nodes := addN (inn s x mine).nodes (x.n, x.new) } := by
  unfold inn
  rw [if_pos (by simp)]
  split
  · simp only [addN_twice]
  · rfl
theorem inn_no (s : St) (x : Tn) (mine : List Rf) (r : Rf) (h : r ≠ x.f) : inn s x (mine ++ [r]) = inn s x mine := by
  unfold inn
  have : x.f ∈ mine ++ [r] ↔ x.f ∈ mine := by rw [List.mem_append, List.mem_singleton]; exact ⟨fun h1 => h1.resolve_right (fun e => h e.symm), .inl⟩
  simp only [this]
theorem Rw.of_type {e size n c : Nat} {ad : Option Addr} {xs : List Value} (h : Rw e size L ad n c xs) (hL : ∀ b cur, cb b e cur ∈ L → cb b e cur ∈ L') : Rw e size L' ad n c xs :=
  ⟨h.1, h.2.1, fun hn => by obtain ⟨b, off, cur, h1, h2, h3⟩ := h.2.2 hn; exact ⟨b, off, cur, h1, hL _ _ h2, h3⟩⟩
theorem RS.of_type (h : RS L s a1 c1 a2 c2 a3 c3) (hL : ∀ e, e = 36 ∨ e = 38 ∨ e = 40 → ∀ b cur, cb b e cur ∈ L → cb b e cur ∈ L') : RS L' s a1 c1 a2 c2 a3 c3 :=
  ⟨Rw.of_type h.r (hL 36 (.inl rfl)), Rw.of_type h.n (hL 38 (.inr (.inl rfl))), Rw.of_type h.w (hL 40 (.inr (.inr rfl)))⟩
theorem tstp_len2 (p : List R3 × List Rf) (x : Tn) : (tstp p x).2.length ≤ p.2.length + 1 := by
  unfold tstp
  split
  · exact Nat.le_succ _
  · split
    · simp
    · exact Nat.le_succ _
theorem fold_tlen2 : ∀ (ts : List Tn) (p : List R3 × List Rf), (ts.foldl tstp p).2.length ≤ p.2.length + ts.length
  | [], p => by simp
  | x :: ts, p => by
    have h1 := tstp_len2 p x
    have h2 := fold_tlen2 ts (tstp p x)
    simp only [List.foldl_cons, List.length_cons]
    omega
theorem trn0_len2 (l : List R3) (ts : List Tn) : (trn0 l ts).2.length ≤ ts.length := by
  have := fold_tlen2 ts (l, [])
  simpa [trn0] using this
end Go.Proofs.Ytgecokldbkamlaa.St
