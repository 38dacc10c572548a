/- transomref21: its values as plain data. No condition. -/
import Derived.Test.YtgecokldbkamlaaStZ
set_option linter.unusedVariables false
set_option linter.unusedSimpArgs false
namespace Go.Proofs.Ytgecokldbkamlaa.St
open Go Go.RowKit Go.MapKept Go.Proofs.YtgecokldbkamlaaW.PrintWords Go.Proofs.YtgecokldbkamlaaW.PrintLast Go.Proofs.YtgecokldbkamlaaW.PrintMore Go.Proofs.Ytgecokldbkamlaa.Hv Go.Proofs.Ytgecokldbkamlaa.Mk Go.Proofs.Ytgecokldbkamlaa.Ka
variable {w0 w w1 : World} {g : Nat} {s : St} {L L' : List Ob} {a1 a2 a3 : Option Addr} {c1 c2 c3 : Nat} {v : Value}
def sval (s : St) (a1 : Option Addr) (c1 : Nat) (a2 : Option Addr) (c2 : Nat) (a3 : Option Addr) (c3 : Nat) : Value := .agg #[.slice a1 s.reads.length c1, .slice a2 s.nodes.length c2, .slice a3 s.writes.length c3]
/-- A value of the reference's type: it stands for s, its rows lie beside L. -/
def RV (w0 w : World) (L : List Ob) (s : St) (v : Value) : Prop := ∃ a1 c1 a2 c2 a3 c3 A, v = sval s a1 c1 a2 c2 a3 c3 ∧ RS A s a1 c1 a2 c2 a3 c3 ∧ Hv w0 w (A ++ L)
def RP (w0 : World) (L : List Ob) (s : St) (e : Ending) (w' : World) : Prop := ∃ v, e = .returned v ∧ RV w0 w' L s v
namespace RV
theorem zero (h : Hv w0 w L) : RV w0 w L ⟨[], [], []⟩ (.agg #[.slice none 0 0, .slice none 0 0, .slice none 0 0]) :=
  ⟨none, 0, none, 0, none, 0, [], rfl, ⟨Rw.nil _ _ _, Rw.nil _ _ _, Rw.nil _ _ _⟩, h⟩
theorem other (h : RV w0 w L s v) : Hv w0 w L := by obtain ⟨_, _, _, _, _, _, A, _, _, h1⟩ := h; exact h1.right
theorem call (h : RV w0 w L s v) (hb : Below w.heap.size w w1) : RV w0 w1 L s v := by
  obtain ⟨a1, c1, a2, c2, a3, c3, A, e, h1, h2⟩ := h
  exact ⟨a1, c1, a2, c2, a3, c3, A, e, h1, h2.call hb⟩
theorem alloc (h : RV w0 w L s v) (o : Obj) : RV w0 (w.alloc o) ((w.heap.size, o) :: L) s v := by
  obtain ⟨a1, c1, a2, c2, a3, c3, A, e, h1, h2⟩ := h
  exact ⟨a1, c1, a2, c2, a3, c3, A, e, h1, unrotA (h2.alloc o)⟩
theorem perm (h : RV w0 w L s v) (hp : L'.Perm L) : RV w0 w L' s v := by
  obtain ⟨a1, c1, a2, c2, a3, c3, A, e, h1, h2⟩ := h
  exact ⟨a1, c1, a2, c2, a3, c3, A, e, h1, h2.perm (hp.append_left A)⟩
/-- Blocks that a value may lean on. -/
theorem into (h : RV w0 w (L' ++ L) s v) : RV w0 w L s v := by
  obtain ⟨a1, c1, a2, c2, a3, c3, A, e, h1, h2⟩ := h
  exact ⟨a1, c1, a2, c2, a3, c3, A, e, h1, h2.drop (List.Sublist.append_left (List.sublist_append_right L' L) A)⟩
theorem tail {a : Ob} (h : RV w0 w (a :: L) s v) : RV w0 w L s v := into (L' := [a]) h
end RV
theorem rNode.any (h : RV w0 w L s v) (hl : s.nodes.length ≤ 100000) (a b ver : Int) :
    Calls Try.prog 22 #[v, .agg #[.int .i64 a, .int .i64 b, .int .i64 ver]] w (RP w0 L { s with nodes := addN s.nodes ((a, b), ver) }) := by
  obtain ⟨a1, c1, a2, c2, a3, c3, A, rfl, h1, h2⟩ := h
  by_cases hm : (a, b) ∈ s.nodes.map (·.1)
  · obtain ⟨l1, l2, u, e, h9⟩ := split_of_mem hm
    have : addN s.nodes ((a, b), ver) = s.nodes := by unfold addN; rw [if_pos hm]
    rw [this]
    refine (rNode.old h2 hl (h1.mono (fun p hp => List.mem_append_left L hp)) a b ver e h9).mono ?_
    rintro e2 w2 ⟨rfl, hv⟩
    exact ⟨_, rfl, a1, c1, a2, c2, a3, c3, A, rfl, h1, hv⟩
  · have : addN s.nodes ((a, b), ver) = s.nodes ++ [((a, b), ver)] := by unfold addN; rw [if_neg hm]
    rw [this]
    refine (rNode.new h2 hl (h1.mono (fun p hp => List.mem_append_left L hp)) a b ver (no_of_not_mem hm)).mono ?_
    rintro e2 w2 hq
    obtain ⟨ad, c, B, rfl, hG, hv⟩ := hq
    refine ⟨_, rfl, a1, c1, ad, c, a3, c3, B ++ A, ?_, ⟨?_, ?_, ?_⟩, ?_⟩
    · simp [sval]
    · exact h1.r.right B
    · exact (Rw.of_gr (by simpa using hG)).left A
    · exact h1.w.right B
    · rw [List.append_assoc]; exact hv
theorem rRead.any (h : RV w0 w L s v) (hl : s.reads.length ≤ 100000) (a b word : Int) :
    Calls Try.prog 21 #[v, .agg #[.int .i64 a, .int .i64 b], .int .i64 word] w (RP w0 L { s with reads := addN s.reads ((a, b), word) }) := by
  obtain ⟨a1, c1, a2, c2, a3, c3, A, rfl, h1, h2⟩ := h
  by_cases hm : (a, b) ∈ s.reads.map (·.1)
  · obtain ⟨l1, l2, u, e, h9⟩ := split_of_mem hm
    have : addN s.reads ((a, b), word) = s.reads := by unfold addN; rw [if_pos hm]
    rw [this]
    refine (rRead.old h2 hl (h1.mono (fun p hp => List.mem_append_left L hp)) a b word e h9).mono ?_
    rintro e2 w2 ⟨rfl, hv⟩
    exact ⟨_, rfl, a1, c1, a2, c2, a3, c3, A, rfl, h1, hv⟩
  · have : addN s.reads ((a, b), word) = s.reads ++ [((a, b), word)] := by unfold addN; rw [if_neg hm]
    rw [this]
    refine (rRead.new h2 hl (h1.mono (fun p hp => List.mem_append_left L hp)) a b word (no_of_not_mem hm)).mono ?_
    rintro e2 w2 hq
    obtain ⟨ad, c, B, rfl, hG, hv⟩ := hq
    refine ⟨_, rfl, ad, c, a2, c2, a3, c3, B ++ A, ?_, ⟨?_, ?_, ?_⟩, ?_⟩
    · simp [sval]
    · exact (Rw.of_gr (by simpa using hG)).left A
    · exact h1.n.right B
    · exact h1.w.right B
    · rw [List.append_assoc]; exact hv
theorem rWrite.any (h : RV w0 w L s v) (hl : s.writes.length ≤ 100000) (y : Wr) :
    Calls Try.prog 23 #[v, .agg (wcel y).toArray] w (RP w0 L { s with writes := rwr y s.writes }) := by
  obtain ⟨a1, c1, a2, c2, a3, c3, A, rfl, h1, h2⟩ := h
  obtain ⟨k, ⟨a, b⟩, d, t⟩ := y
  refine (rWrite.calls h2 hl (h1.mono (fun p hp => List.mem_append_left L hp)) k d a b t).mono ?_
  rintro e2 w2 ⟨ad, c, B, rfl, hG, hv⟩
  refine ⟨_, rfl, a1, c1, a2, c2, ad, c, B ++ A, rfl, ⟨?_, ?_, ?_⟩, ?_⟩
  · exact h1.r.right B
  · exact h1.n.right B
  · exact (Rw.of_gr hG).left A
  · rw [List.append_assoc]; exact hv
/-- A key's write. -/
def wget (k : ByteArray) : List Wr → Wr × Bool
  | [] => ((⟨#[]⟩, (0, 0), ⟨#[]⟩, false), false)
  | x :: l => if x.1 = k then (x, true) else wget k l
theorem wget_no {k : ByteArray} : ∀ {l : List Wr}, (∀ x ∈ l, x.1 ≠ k) → wget k l = ((⟨#[]⟩, (0, 0), ⟨#[]⟩, false), false)
  | [], _ => rfl
  | y :: l, h => by
    rw [wget, if_neg (h y List.mem_cons_self)]
    exact wget_no (fun x hx => h x (List.mem_cons_of_mem _ hx))
theorem wget_split {k : ByteArray} {u} {l2 : List Wr} : ∀ {l1 : List Wr}, (∀ x ∈ l1, x.1 ≠ k) → wget k (l1 ++ (k, u) :: l2) = ((k, u), true)
  | [], _ => by simp [wget]
  | y :: l1, h => by
    rw [List.cons_append, wget, if_neg (h y List.mem_cons_self)]
    exact wget_split (fun x hx => h x (List.mem_cons_of_mem _ hx))
theorem wsplit {k : ByteArray} : ∀ {l : List Wr}, k ∈ l.map (·.1) → ∃ l1 l2 u, l = l1 ++ (k, u) :: l2 ∧ ∀ x ∈ l1, x.1 ≠ k
  | [], h => by simp at h
  | y :: l, h => by
    by_cases e : y.1 = k
    · exact ⟨[], l, y.2, by rw [← e]; rfl, by simp⟩
    · have h1 : k ∈ l.map (·.1) := by
        simp only [List.map_cons, List.mem_cons] at h
        exact h.resolve_left (fun e1 => e e1.symm)
      obtain ⟨l1, l2, v, rfl, h2⟩ := wsplit h1
      exact ⟨y :: l1, l2, v, rfl, fun x hx => by
        rcases List.mem_cons.1 hx with rfl | hx
        · exact e
        · exact h2 x hx⟩
theorem rOwn.any (h : RV w0 w L s v) (hl : s.writes.length ≤ 100000) (k : ByteArray) :
    Calls Try.prog 11 #[v, .string k] w fun e w' => e = .returned (.tuple #[.agg (wcel (wget k s.writes).1).toArray, .bool (wget k s.writes).2]) ∧ RV w0 w' L s v := by
  obtain ⟨a1, c1, a2, c2, a3, c3, A, rfl, h1, h2⟩ := h
  by_cases hm : k ∈ s.writes.map (·.1)
  · obtain ⟨l1, l2, ⟨⟨a, b⟩, d, t⟩, e, h9⟩ := wsplit hm
    refine (rOwn.yes h2 hl (h1.mono (fun p hp => List.mem_append_left L hp)) k d a b t e h9).mono ?_
    rintro e2 w2 ⟨rfl, hv⟩
    rw [e, wget_split h9]
    exact ⟨rfl, a1, c1, a2, c2, a3, c3, A, rfl, h1, hv⟩
  · have h9 : ∀ x ∈ s.writes, x.1 ≠ k := fun x hx e => hm (List.mem_map.2 ⟨x, hx, e⟩)
    refine (rOwn.no h2 hl (h1.mono (fun p hp => List.mem_append_left L hp)) k h9).mono ?_
    rintro e2 w2 ⟨rfl, hv⟩
    rw [wget_no h9]
    exact ⟨rfl, a1, c1, a2, c2, a3, c3, A, rfl, h1, hv⟩
end Go.Proofs.Ytgecokldbkamlaa.St
