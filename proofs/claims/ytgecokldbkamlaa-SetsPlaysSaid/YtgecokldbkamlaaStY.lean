/- sets.Sets: Turned. No condition. -/
import Derived.Test.YtgecokldbkamlaaStX
import Derived.BigQuiet
set_option linter.unusedVariables false
set_option linter.unusedSimpArgs false
namespace Go.Proofs.Ytgecokldbkamlaa.St
open Go Go.RowKit Go.MapKept Go.Proofs.YtgecokldbkamlaaW.PrintWords Go.Proofs.YtgecokldbkamlaaW.PrintLast Go.Proofs.YtgecokldbkamlaaW.PrintMore Go.Proofs.Ytgecokldbkamlaa.Hv Go.Proofs.Ytgecokldbkamlaa.Mk Go.Proofs.Ytgecokldbkamlaa.Ka
variable {w0 w w1 : World} {g : Nat} {s : St} {L L' : List Ob} {a1 a2 a3 : Option Addr} {c1 c2 c3 : Nat}
/-- A turn. -/
structure Tn where
  n : Rf
  f : Rf
  old : Int
  new : Int
  fresh : Bool
def tcel (x : Tn) : List Value := [.int .i64 x.n.1, .int .i64 x.n.2, .int .i64 x.f.1, .int .i64 x.f.2, .int .i64 x.old, .int .i64 x.new, .bool x.fresh]
def addN (l : List R3) (x : R3) : List R3 := if x.1 ∈ l.map (·.1) then l else l ++ [x]
def setN (r : Rf) (v : Int) : List R3 → List R3
  | [] => []
  | y :: l => if y.1 = r then (r, v) :: l else y :: setN r v l
def getN (r : Rf) : List R3 → Option Int
  | [] => none
  | y :: l => if y.1 = r then some y.2 else getN r l
def tstp (p : List R3 × List Rf) (x : Tn) : List R3 × List Rf :=
  if x.fresh = true then (if x.f ∈ p.2 then addN p.1 (x.n, x.new) else p.1, p.2)
  else if getN x.n p.1 = some x.old then (setN x.n x.new p.1, p.2 ++ [x.n]) else p
def trn0 (l : List R3) (ts : List Tn) : List R3 × List Rf := ts.foldl tstp (l, [])
def trn (l : List R3) (ts : List Tn) : List R3 := (trn0 l ts).1
theorem trn0_snoc (l : List R3) (ts : List Tn) (x : Tn) : trn0 l (ts ++ [x]) = tstp (trn0 l ts) x := by simp [trn0]
theorem split_of_mem {r : Rf} : ∀ {l : List R3}, r ∈ l.map (·.1) → ∃ l1 l2 v, l = l1 ++ (r, v) :: l2 ∧ ∀ x ∈ l1, x.1 ≠ r
  | [], h => by simp at h
  | y :: l, h => by
    by_cases e : y.1 = r
    · exact ⟨[], l, y.2, by rw [← e]; rfl, by simp⟩
    · have h1 : r ∈ l.map (·.1) := by
        simp only [List.map_cons, List.mem_cons] at h
        exact h.resolve_left (fun e1 => e e1.symm)
      obtain ⟨l1, l2, v, rfl, h2⟩ := split_of_mem h1
      exact ⟨y :: l1, l2, v, rfl, fun x hx => by
        rcases List.mem_cons.1 hx with rfl | hx
        · exact e
        · exact h2 x hx⟩
theorem getN_split {r : Rf} {v : Int} {l2 : List R3} : ∀ {l1 : List R3}, (∀ x ∈ l1, x.1 ≠ r) → getN r (l1 ++ (r, v) :: l2) = some v
  | [], _ => by simp [getN]
  | y :: l1, h => by
    rw [List.cons_append, getN, if_neg (h y List.mem_cons_self)]
    exact getN_split (fun x hx => h x (List.mem_cons_of_mem _ hx))
theorem setN_split {r : Rf} {v u : Int} {l2 : List R3} : ∀ {l1 : List R3}, (∀ x ∈ l1, x.1 ≠ r) → setN r u (l1 ++ (r, v) :: l2) = l1 ++ (r, u) :: l2
  | [], _ => by simp [setN]
  | y :: l1, h => by
    rw [List.cons_append, setN, if_neg (h y List.mem_cons_self), setN_split (fun x hx => h x (List.mem_cons_of_mem _ hx)), List.cons_append]
theorem getN_no {r : Rf} : ∀ {l : List R3}, (∀ x ∈ l, x.1 ≠ r) → getN r l = none
  | [], _ => rfl
  | y :: l, h => by
    rw [getN, if_neg (h y List.mem_cons_self)]
    exact getN_no (fun x hx => h x (List.mem_cons_of_mem _ hx))
theorem no_of_not_mem {r : Rf} {l : List R3} (h : r ∉ l.map (·.1)) : ∀ x ∈ l, x.1 ≠ r := fun x hx e => h (List.mem_map.2 ⟨x, hx, e⟩)
theorem addN_len (l : List R3) (x : R3) : (addN l x).length ≤ l.length + 1 := by unfold addN; split <;> simp
theorem setN_len (r : Rf) (v : Int) : ∀ l : List R3, (setN r v l).length = l.length
  | [] => rfl
  | y :: l => by
    rw [setN]
    split
    · rfl
    · rw [List.length_cons, setN_len r v l, List.length_cons]
theorem tstp_len (p : List R3 × List Rf) (x : Tn) : (tstp p x).1.length ≤ p.1.length + 1 := by
  unfold tstp
  split
  · split
    · exact addN_len _ _
    · exact Nat.le_succ _
  · split
    · rw [setN_len]; exact Nat.le_succ _
    · exact Nat.le_succ _
theorem fold_tlen : ∀ (ts : List Tn) (p : List R3 × List Rf), (ts.foldl tstp p).1.length ≤ p.1.length + ts.length
  | [], p => by simp
  | x :: ts, p => by
    have h1 := tstp_len p x
    have h2 := fold_tlen ts (tstp p x)
    simp only [List.foldl_cons, List.length_cons]
    omega
theorem trn0_len (l : List R3) (ts : List Tn) : (trn0 l ts).1.length ≤ l.length + ts.length := fold_tlen ts (l, [])
/-- A row that reads so as long as the blocks of L are there. -/
def Rdy (size : Nat) (w0 : World) (L : List Ob) (ad : Option Addr) (n : Nat) (xs : List Value) : Prop := ∀ W L', Hv w0 W L' → (∀ p ∈ L, p ∈ L') → Rd size W ad n xs
theorem Rdy.of_rd {size n : Nat} {ad : Option Addr} {xs : List Value} (h : Rd size w0 ad n xs) (L : List Ob) : Rdy size w0 L ad n xs := fun W L' hv _ => h.below hv.bel
theorem Rdy.of_rw {e size n c : Nat} {ad : Option Addr} {xs : List Value} (h : Rw e size L ad n c xs) : Rdy size w0 L ad n xs := fun W L' hv hL => (h.mono hL).rd hv
theorem tcel_at : ∀ (l : List Tn) (k j : Nat) (d : Tn) (u : Value), l[k]? = some d → (tcel d)[j]? = some u → (l.flatMap tcel)[k * 7 + j]? = some u
  | [], k, j, d, u, h, _ => by simp at h
  | a :: l, 0, j, d, u, h, hu => by
    have e : a = d := by simpa using h
    subst e
    have hj := (List.getElem?_eq_some_iff.1 hu).1
    rw [List.flatMap_cons, Nat.zero_mul, Nat.zero_add, List.getElem?_append_left hj]
    exact hu
  | a :: l, k + 1, j, d, u, h, hu => by
    have h1 := tcel_at l k j d u (by simpa using h) hu
    rw [List.flatMap_cons, List.getElem?_append_right (by simp [tcel]; omega), show (k + 1) * 7 + j - (tcel a).length = k * 7 + j by simp [tcel]; omega]
    exact h1
theorem c7 (h : Hv w0 w L) (g t : Nat) (a b c d e f i : Value) (hm : cb g t #[a, b, c, d, e, f, i] ∈ L) : w.cell? ⟨g, 0, none⟩ = some a ∧ w.cell? ⟨g, 1, none⟩ = some b ∧ w.cell? ⟨g, 2, none⟩ = some c ∧ w.cell? ⟨g, 3, none⟩ = some d ∧ w.cell? ⟨g, 4, none⟩ = some e ∧ w.cell? ⟨g, 5, none⟩ = some f ∧ w.cell? ⟨g, 6, none⟩ = some i :=
  ⟨h.cell hm 0 rfl, h.cell hm 1 rfl, h.cell hm 2 rfl, h.cell hm 3 rfl, h.cell hm 4 rfl, h.cell hm 5 rfl, h.cell hm 6 rfl⟩
theorem node.any (h : Sts w0 w g s L) (hn : s.nodes.length ≤ 1000000) (a b word : Int) :
    Calls Try.prog 17 #[.pointer (some ⟨g, 0, none⟩), .agg #[.int .i64 a, .int .i64 b, .int .i64 word]] w fun e w' => e = .returned (.tuple #[]) ∧ Sts w0 w' g { s with nodes := addN s.nodes ((a, b), word) } L := by
  by_cases hm : (a, b) ∈ s.nodes.map (·.1)
  · obtain ⟨l1, l2, v, e, h1⟩ := split_of_mem hm
    have : addN s.nodes ((a, b), word) = s.nodes := by unfold addN; rw [if_pos hm]
    rw [this]
    exact node.old h a b word e
  · have : addN s.nodes ((a, b), word) = s.nodes ++ [((a, b), word)] := by unfold addN; rw [if_neg hm]
    rw [this]
    exact node.new h hn a b word (no_of_not_mem hm)
/-- What the map of a walk's own turns has. -/
def Mine (om : Obj) (mine : List Rf) : Prop := ∃ ml : List Pr, IsM K2 om ml ∧ ∀ r : Rf, (∃ q ∈ ml, q.1 = rkey r) ↔ r ∈ mine
end Go.Proofs.Ytgecokldbkamlaa.St
