/- transomlaw21: do. No condition. -/
import Derived.Test.YtgecokldbkamlaaStAD
set_option linter.unusedVariables false
set_option linter.unusedSimpArgs false
namespace Go.Proofs.Ytgecokldbkamlaa.St
open Go Go.RowKit Go.MapKept Go.Proofs.YtgecokldbkamlaaW.PrintWords Go.Proofs.YtgecokldbkamlaaW.PrintLast Go.Proofs.YtgecokldbkamlaaW.PrintMore Go.Proofs.Ytgecokldbkamlaa.Hv Go.Proofs.Ytgecokldbkamlaa.Mk Go.Proofs.Ytgecokldbkamlaa.Ka
variable {w0 w w1 : World} {g : Nat} {s s' x x' : St} {L L' L1 : List Ob} {v : Value} {f : FuncId} {args : Array Value} {E : Ending}
theorem Sts.frame (h : Sts w0 w g s L) (hf : ∀ H, Hv w0 w (H ++ L) → Hv w0 w1 (H ++ L1)) : Sts w0 w1 g s L1 := by
  obtain ⟨mr, ms, mw, or, os, ow, vr, vn, A, B, h1, h2, h3, h4, h5, h6⟩ := h
  refine ⟨mr, ms, mw, or, os, ow, vr, vn, A, B, ?_, h2, h3, h4, h5, h6⟩
  have := hf (cb g 63 #[vr, vn, .map (some mr), .map (some ms), .map (some mw)] :: (mr, or) :: (ms, os) :: (mw, ow) :: (A ++ B)) (by simpa [List.append_assoc] using h1)
  simpa [List.append_assoc] using this
theorem RV.frame (h : RV w0 w L s v) (hf : ∀ H, Hv w0 w (H ++ L) → Hv w0 w1 (H ++ L1)) : RV w0 w1 L1 s v := by
  obtain ⟨a1, c1, a2, c2, a3, c3, A, e, h1, h2⟩ := h
  exact ⟨a1, c1, a2, c2, a3, c3, A, e, h1, hf A h2⟩
/-- Sets, and a value of the reference's, beside L. -/
def JS (w0 w : World) (L : List Ob) (g : Nat) (s x : St) (v : Value) : Prop := ∃ a1 c1 a2 c2 a3 c3 A, v = sval x a1 c1 a2 c2 a3 c3 ∧ RS A x a1 c1 a2 c2 a3 c3 ∧ Sts w0 w g s (A ++ L)
namespace JS
theorem frame (h : JS w0 w L g s x v) (hf : ∀ H, Hv w0 w (H ++ L) → Hv w0 w1 (H ++ L1)) : JS w0 w1 L1 g s x v := by
  obtain ⟨a1, c1, a2, c2, a3, c3, A, e, h1, h2⟩ := h
  exact ⟨a1, c1, a2, c2, a3, c3, A, e, h1, h2.frame fun H hH => by have := hf (H ++ A) (by simpa [List.append_assoc] using hH); simpa [List.append_assoc] using this⟩
theorem other (h : JS w0 w L g s x v) : Hv w0 w L := by obtain ⟨_, _, _, _, _, _, A, _, _, h1⟩ := h; exact h1.other.right
theorem alloc (h : JS w0 w L g s x v) (o : Obj) : JS w0 (w.alloc o) ((w.heap.size, o) :: L) g s x v := h.frame fun H hH => unrotA (hH.alloc o)
theorem impl (h : JS w0 w L g s x v) (hc : ∀ L, Sts w0 w g s L → Calls Try.prog f args w (fun e w' => e = E ∧ Sts w0 w' g s' L)) : Calls Try.prog f args w (fun e w' => e = E ∧ JS w0 w' L g s' x v) := by
  obtain ⟨a1, c1, a2, c2, a3, c3, A, e, h1, h2⟩ := h
  refine (hc _ h2).mono ?_
  rintro e2 w2 ⟨rfl, h3⟩
  exact ⟨rfl, a1, c1, a2, c2, a3, c3, A, e, h1, h3⟩
theorem ref (h : JS w0 w L g s x v) (hc : ∀ L, RV w0 w L x v → Calls Try.prog f args w (RP w0 L x')) : Calls Try.prog f args w (fun e w' => ∃ v', e = .returned v' ∧ JS w0 w' L g s x' v') := by
  obtain ⟨a1, c1, a2, c2, a3, c3, A, e, h1, h2⟩ := h
  obtain ⟨mr, ms, mw, or, os, ow, vr, vn, C, B, k1, k2, k3, k4, k5, k6⟩ := h2
  have q1 := k1.perm (toFront A (cb g 63 #[vr, vn, .map (some mr), .map (some ms), .map (some mw)] :: (mr, or) :: (ms, os) :: (mw, ow) :: (C ++ B)) L (by simp [List.append_assoc]))
  refine (hc _ ⟨a1, c1, a2, c2, a3, c3, A, e, h1, q1⟩).mono ?_
  rintro e2 w2 ⟨v', rfl, b1, d1, b2, d2, b3, d3, A', rfl, j1, j2⟩
  refine ⟨_, rfl, b1, d1, b2, d2, b3, d3, A', rfl, j1, mr, ms, mw, or, os, ow, vr, vn, C, B, ?_, k2, k3, k4, k5, k6⟩
  have := j2.perm (toFront A' (cb g 63 #[vr, vn, .map (some mr), .map (some ms), .map (some mw)] :: (mr, or) :: (ms, os) :: (mw, ow) :: (C ++ B)) L rfl).symm
  simpa [List.append_assoc] using this
/-- A question to the reference. -/
theorem ask (h : JS w0 w L g s x v) (hc : ∀ L, RV w0 w L x v → Calls Try.prog f args w (fun e w' => e = E ∧ RV w0 w' L x v)) : Calls Try.prog f args w (fun e w' => e = E ∧ JS w0 w' L g s x v) := by
  obtain ⟨a1, c1, a2, c2, a3, c3, A, e, h1, h2⟩ := h
  obtain ⟨mr, ms, mw, or, os, ow, vr, vn, C, B, k1, k2, k3, k4, k5, k6⟩ := h2
  have q1 := k1.perm (toFront A (cb g 63 #[vr, vn, .map (some mr), .map (some ms), .map (some mw)] :: (mr, or) :: (ms, os) :: (mw, ow) :: (C ++ B)) L (by simp [List.append_assoc]))
  refine (hc _ ⟨a1, c1, a2, c2, a3, c3, A, e, h1, q1⟩).mono ?_
  rintro e2 w2 ⟨rfl, b1, d1, b2, d2, b3, d3, A', rfl, j1, j2⟩
  refine ⟨rfl, b1, d1, b2, d2, b3, d3, A', rfl, j1, mr, ms, mw, or, os, ow, vr, vn, C, B, ?_, k2, k3, k4, k5, k6⟩
  have := j2.perm (toFront A' (cb g 63 #[vr, vn, .map (some mr), .map (some ms), .map (some mw)] :: (mr, or) :: (ms, os) :: (mw, ow) :: (C ++ B)) L rfl).symm
  simpa [List.append_assoc] using this
end JS
/-- A deed. -/
structure Dd where
  kind : Int
  rd : R3
  nd : R3
  wr : Wr
  ts : List Tn
def dcel (d : Dd) (ad : Option Addr) (c : Nat) : List Value := [.int .i64 d.kind, .int .i64 d.rd.1.1, .int .i64 d.rd.1.2, .int .i64 d.rd.2, .int .i64 d.nd.1.1, .int .i64 d.nd.1.2, .int .i64 d.nd.2, .string d.wr.1, .int .i64 d.wr.2.1.1, .int .i64 d.wr.2.1.2, .string d.wr.2.2.1, .bool d.wr.2.2.2, .slice ad d.ts.length c]
/-- A store under a key, in the order in which keys came. -/
def wput (y : Wr) : List Wr → List Wr
  | [] => [y]
  | z :: l => if z.1 = y.1 then y :: l else z :: wput y l
theorem wput_no {y : Wr} : ∀ {l : List Wr}, (∀ z ∈ l, z.1 ≠ y.1) → wput y l = l ++ [y]
  | [], _ => rfl
  | z :: l, h => by
    rw [wput, if_neg (h z List.mem_cons_self), wput_no (fun z hz => h z (List.mem_cons_of_mem _ hz))]
    rfl
theorem wput_split {y : Wr} {u} {l2 : List Wr} : ∀ {l1 : List Wr}, (∀ z ∈ l1, z.1 ≠ y.1) → wput y (l1 ++ (y.1, u) :: l2) = l1 ++ y :: l2
  | [], _ => by simp [wput]
  | z :: l1, h => by
    rw [List.cons_append, wput, if_neg (h z List.mem_cons_self), wput_split (fun z hz => h z (List.mem_cons_of_mem _ hz)), List.cons_append]
theorem write.all (h : Sts w0 w g s L) (y : Wr) : Calls Try.prog 20 #[.pointer (some ⟨g, 0, none⟩), .agg (wcel y).toArray] w fun e w' => e = .returned (.tuple #[]) ∧ Sts w0 w' g { s with writes := wput y s.writes } L := by
  by_cases hm : y.1 ∈ s.writes.map (·.1)
  · obtain ⟨l1, l2, u, e, h9⟩ := wsplit hm
    rw [show wput y s.writes = l1 ++ y :: l2 by rw [e, wput_split h9]]
    exact write.old h y.1 y.2.2.1 y.2.1.1 y.2.1.2 y.2.2.2 e
  · have h9 : ∀ z ∈ s.writes, z.1 ≠ y.1 := fun z hz e => hm (List.mem_map.2 ⟨z, hz, e⟩)
    rw [wput_no h9]
    exact write.new h y.1 y.2.2.1 y.2.1.1 y.2.1.2 y.2.2.2 h9
theorem read.any (h : Sts w0 w g s L) (hn : s.reads.length ≤ 1000000) (a b word : Int) :
    Calls Try.prog 19 #[.pointer (some ⟨g, 0, none⟩), .agg #[.int .i64 a, .int .i64 b], .int .i64 word] w fun e w' => e = .returned (.tuple #[]) ∧ Sts w0 w' g { s with reads := addN s.reads ((a, b), word) } L := by
  by_cases hm : (a, b) ∈ s.reads.map (·.1)
  · obtain ⟨l1, l2, u, e, h1⟩ := split_of_mem hm
    have : addN s.reads ((a, b), word) = s.reads := by unfold addN; rw [if_pos hm]
    rw [this]
    exact read.old h a b word e
  · have : addN s.reads ((a, b), word) = s.reads ++ [((a, b), word)] := by unfold addN; rw [if_neg hm]
    rw [this]
    exact read.new h hn a b word (no_of_not_mem hm)
theorem own.all (h : Sts w0 w g s L) (k : ByteArray) : Calls Try.prog 10 #[.pointer (some ⟨g, 0, none⟩), .string k] w fun e w' => e = .returned (.tuple #[.agg (wcel (wget k s.writes).1).toArray, .bool (wget k s.writes).2]) ∧ Sts w0 w' g s L := by
  by_cases hm : k ∈ s.writes.map (·.1)
  · obtain ⟨l1, l2, ⟨⟨a, b⟩, d, t⟩, e, h9⟩ := wsplit hm
    rw [show wget k s.writes = ((k, (a, b), d, t), true) by rw [e, wget_split h9]]
    exact own.has h k d a b t e
  · have h9 : ∀ x ∈ s.writes, x.1 ≠ k := fun x hx e => hm (List.mem_map.2 ⟨x, hx, e⟩)
    rw [wget_no h9]
    exact own.no h k h9
def stI (s : St) (d : Dd) : St := if d.kind = 0 then { s with reads := addN s.reads d.rd } else if d.kind = 1 then { s with nodes := addN s.nodes d.nd } else if d.kind = 2 then { s with writes := wput d.wr s.writes } else if d.kind = 3 then { s with nodes := trn s.nodes d.ts } else s
def stR (s : St) (d : Dd) : St := if d.kind = 0 then { s with reads := addN s.reads d.rd } else if d.kind = 1 then { s with nodes := addN s.nodes d.nd } else if d.kind = 2 then { s with writes := rwr d.wr s.writes } else if d.kind = 3 then { s with nodes := trn s.nodes d.ts } else s
/-- How much a deed adds. -/
structure Small (s : St) (d : Dd) : Prop where
  r : s.reads.length ≤ 99000
  n : s.nodes.length ≤ 99000
  w : s.writes.length ≤ 99000
  t : d.ts.length ≤ 1000
theorem c13 (h : Hv w0 w L) (g t : Nat) (a b c d e f i j k l m n o : Value) (hm : cb g t #[a, b, c, d, e, f, i, j, k, l, m, n, o] ∈ L) : (w.cell? ⟨g, 0, none⟩ = some a ∧ w.cell? ⟨g, 1, none⟩ = some b ∧ w.cell? ⟨g, 2, none⟩ = some c ∧ w.cell? ⟨g, 3, none⟩ = some d) ∧ (w.cell? ⟨g, 4, none⟩ = some e ∧ w.cell? ⟨g, 5, none⟩ = some f ∧ w.cell? ⟨g, 6, none⟩ = some i) ∧ (w.cell? ⟨g, 7, none⟩ = some j ∧ w.cell? ⟨g, 8, none⟩ = some k ∧ w.cell? ⟨g, 9, none⟩ = some l ∧ w.cell? ⟨g, 10, none⟩ = some m ∧ w.cell? ⟨g, 11, none⟩ = some n) ∧ w.cell? ⟨g, 12, none⟩ = some o :=
  ⟨⟨h.cell hm 0 rfl, h.cell hm 1 rfl, h.cell hm 2 rfl, h.cell hm 3 rfl⟩, ⟨h.cell hm 4 rfl, h.cell hm 5 rfl, h.cell hm 6 rfl⟩, ⟨h.cell hm 7 rfl, h.cell hm 8 rfl, h.cell hm 9 rfl, h.cell hm 10 rfl, h.cell hm 11 rfl⟩, h.cell hm 12 rfl⟩
end Go.Proofs.Ytgecokldbkamlaa.St
