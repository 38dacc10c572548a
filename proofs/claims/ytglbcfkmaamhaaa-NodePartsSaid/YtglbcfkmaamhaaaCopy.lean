/- copy(dst, src): a whole row of elements of any size, onto a row of the call's own that is as long. No condition. -/
import Derived.Test.YtglbcfkmaamhaaaWWords
import Derived.Test.YtglbcfkmaamhaaaWMore
import Derived.Laws.CopyRow
namespace Go.Proofs.Ytglbcfkmaamhaaa.Copy
open Go Go.RowKit Go.Proofs.YtglbcfkmaamhaaaW.PrintWords
set_option linter.unusedVariables false
set_option linter.unusedSimpArgs false
variable {P : Program}
theorem run_copy_sz (w : World) (dT sT ty elem : TypeId) (g n c c2 k : Nat) (a : Addr) (cur : Array Value) (t : TypeId) (cs : List Value)
    (hu : P.underlying dT = some (.slice elem)) (hs : (P.info? elem).map (·.size) = some k) (hg : w.heap[g]? = some (.cells cur t (0, 0))) (hn : cs.length = n * k)
    (hsrc : ∀ j v, cs[j]? = some v → w.cell? (a.add j) = some v) (hfit : cs.length ≤ cur.size) (h1 : ∀ v ∈ cs, v.oneCell' = true) :
    (Builtin.copy_ #[dT, sT] ty #[.slice (some ⟨g, 0, none⟩) n c, .slice (some a) n c2]).run P w = .ok (goInt n) (w.setRow g (cs ++ cur.toList.drop cs.length).toArray) := by
  have hl := run_loadCells_list (P := P) w a cs hsrc
  have hst := run_storeCells_at P g 0 t cs 0 cur w hg (by simpa using hfit) h1
  cases hq : P.info? elem with
  | none => simp [hq] at hs
  | some i =>
    have hi : i.size = k := by simpa [hq] using hs
    have e1 : n * k = cs.length := hn.symm
    have e2 : k * n = cs.length := by rw [Nat.mul_comm]; exact e1
    simp [Builtin.copy_, run_underlying hu, Builtin.lenOf, Builtin.firstCells, sizeOf, typeInfo, hq, hi, e1, e2, hl, hst]
theorem run_copy_empty (w : World) (dT sT ty elem : TypeId) (g c c2 k : Nat) (A : Option Addr) 
    (hu : P.underlying dT = some (.slice elem)) (hs : (P.info? elem).map (·.size) = some k) :
    (Builtin.copy_ #[dT, sT] ty #[.slice (some ⟨g, 0, none⟩) 0 c, .slice A 0 c2]).run P w = .ok (goInt 0) w := by
  cases hq : P.info? elem with
  | none => simp [hq] at hs
  | some i =>
    cases A with
    | none => simp [Builtin.copy_, run_underlying hu, Builtin.lenOf, Builtin.firstCells, sizeOf, typeInfo, hq, storeCells]
    | some a => simp [Builtin.copy_, run_underlying hu, Builtin.lenOf, Builtin.firstCells, sizeOf, typeInfo, hq, storeCells, loadCells, loadCellsFrom]
/-- copy(v, ys), v a row of the call's own (block g, whatever is in it), as long as ys. -/
theorem R_copy {ops : Array Oper} {rest : List Oper} {o : Oper} {a : Act} {Q : Exit → Act → World → Prop} {α : Type} (d : Kd α) {w0 W : World} (base : Nat) (hgd : o.guard = none) (s x : Operand) (t e : TypeId) (z : Value) (bytes : Nat)
    (ho : o.op = .call { callee := .builtin .copy, args := #[s, x], argTypes := #[t, t] })
    (ht : P.underlying t = some (.slice e)) (hinfo : (P.info? e).map (fun i => (i.zero, i.size, i.bytes)) = some (some z, d.sz, bytes)) (hs0 : 0 < d.sz)
    (ys : List α) (A : Option Addr) (g n c c2 : Nat) (ok : Nat → Prop) (hs : a.eval s = .slice (some ⟨g, 0, none⟩) n c) (hx : a.eval x = .slice A n c2)
    (cur : Array Value) (hg : W.heap[g]? = some (.cells cur e (0, 0))) (hnc : n ≤ c) (hcm : c ≤ maxLen) (hcur : cur.size = c * d.sz) (hbase : base ≤ g)
    (HR : d.C W A n ys) (hKM : ∀ w1 x cs, d.K W x cs → d.M w1 base (fun _ => False) x cs) (hok : ok g) (HB : Below base w0 W)
    (h : ∀ w1, d.R e w1 base ok (.slice (some ⟨g, 0, none⟩) n c) ys → Below base w0 w1 → (∀ k, k ≠ g → w1.heap[k]? = W.heap[k]?) → wpList P ops Q rest (a.put o.dst (goInt n)) w1) :
    wpList P ops Q (o :: rest) a W := by
  have hsz : (P.info? e).map (·.size) = some d.sz := by
    cases hq : P.info? e with
    | none => simp [hq] at hinfo
    | some i => simp [hq] at hinfo; simp [hinfo.2.1]
  have hm : ys.length = n := HR.1
  have hrun : ∃ w1, (Builtin.copy_ #[t, t] o.type #[.slice (some ⟨g, 0, none⟩) n c, .slice A n c2]).run P W = .ok (goInt n) w1 ∧ d.R e w1 base ok (.slice (some ⟨g, 0, none⟩) n c) ys ∧ Below base w0 w1 ∧ (∀ k, k ≠ g → w1.heap[k]? = W.heap[k]?) := by
    have hok1 : ∀ k, (Value.slice (some ⟨g, 0, none⟩) n c).ownBlock = some k → ok k := fun k hk => by
      have : g = k := by simpa [Value.ownBlock] using hk
      exact this ▸ hok
    rcases Nat.eq_zero_or_pos n with h0 | h0
    · subst h0
      obtain rfl : ys = [] := List.eq_nil_of_length_eq_zero hm
      refine ⟨W, run_copy_empty W t t o.type e g c c2 d.sz A ht hsz, ⟨hok1, [], ⟨by simp, .inr ⟨g, c, cur, rfl, hbase, hg, hnc, hcm, hcur, by simp⟩⟩, Reps.none _ _⟩, HB, fun _ _ => rfl⟩
    · obtain ⟨ad, rfl, _⟩ := HR.2.2 h0
      obtain ⟨news, hnr, hnc'⟩ := ReadsRow.inner_ HR
      have hl : news.length = n * d.sz := by rw [hnr.1, hm]
      have hone : ∀ u ∈ news, u.oneCell' = true := by
        intro u hu
        obtain ⟨q, hq, rfl⟩ := List.mem_iff_getElem.1 hu
        have hql : q / d.sz < ys.length := by
          rw [Nat.div_lt_iff_lt_mul hs0]
          rw [← hnr.1]
          exact hq
        have hc := hnr.2 (q / d.sz) _ (List.getElem?_eq_getElem hql)
        refine d.K_one hc _ ?_
        rw [List.mem_iff_getElem?]
        refine ⟨q % d.sz, ?_⟩
        rw [List.getElem?_take, if_pos (Nat.mod_lt _ hs0), List.getElem?_drop, Nat.mul_comm, Nat.div_add_mod, List.getElem?_eq_getElem hq]
      have hfit : news.length ≤ cur.size := by rw [hl, hcur]; exact Nat.mul_le_mul_right _ hnc
      have hr := run_copy_sz (P := P) W t t o.type e g n c c2 d.sz ad cur e news ht hsz hg hl hnc' hfit hone
      refine ⟨_, hr, ⟨hok1, news, ⟨by rw [hm, hl], .inr ⟨g, c, _, by rw [hm], hbase, setRow_heap W g cur _ e _ hg, by rw [hm]; exact hnc, hcm, ?_, ?_⟩⟩, ?_⟩, ?_, fun k hk => setRow_other W g k _ hk⟩
      · simp only [List.size_toArray, List.length_append, List.length_drop, Array.length_toList]
        omega
      · rw [hm, ← hl]
        simp
      · exact hnr.imp_ (fun p cs hp => d.M_mono (fun _ hk => hk.elim) (hKM _ p cs hp))
      · exact HB.trans ⟨rfl, rfl, rfl, by simp [World.setRow], fun k hk => setRow_other W g k _ (by omega)⟩
  obtain ⟨w1, hrun, hR1, hB1, hk1⟩ := hrun
  refine wpList_plain hgd fun K hK => ?_
  unfold Oper.wp
  simp [execOp, ho, resolve, invoke, builtin, hs, hx, hrun, Result.andThen]
  exact hK _ _ (h w1 hR1 hB1 hk1)
theorem V_ne {α : Type} {d : Kd α} {e : Nat} {W : World} {base n c g : Nat} {ok : Nat → Prop} {ad : Addr} {xs : List α} (h : d.V e W base ok (.slice (some ad) n c) xs) (hs : 0 < d.sz) (hn : 0 < n) (hok : ∀ k, ok k → k ≠ g) : ad.block ≠ g := by
  intro he
  by_cases hg : g < W.heap.size
  · have h1 := Kd.V_step (w1 := { W with heap := W.heap.set g (.cells #[] 0 (0, 0)) hg }) h (fun k hk hl => by
      have := hok k hk
      simp [Array.getElem?_set, Ne.symm this])
    obtain ⟨hl, _, hC⟩ := Kd.V_reads' h1
    obtain ⟨ad', ea, hx⟩ := hC.2.2 (by omega)
    cases ea
    obtain ⟨x, hx0⟩ : ∃ x, xs[0]? = some x := ⟨xs[0]'(by omega), List.getElem?_eq_getElem (by omega)⟩
    obtain ⟨cs, hcl, _, hc⟩ := hx 0 x hx0
    obtain ⟨u, hu⟩ : ∃ u, cs[0]? = some u := ⟨cs[0]'(by omega), List.getElem?_eq_getElem (by omega)⟩
    have h2 := hc 0 u hu
    rw [show 0 * d.sz + 0 = 0 by simp] at h2
    have hb : (ad.add 0).block = g := by rw [add_block]; exact he
    unfold World.cell? at h2
    simp [hb] at h2
  · obtain ⟨hl, _, hC⟩ := Kd.V_reads' h
    obtain ⟨ad', ea, hx⟩ := hC.2.2 (by omega)
    cases ea
    obtain ⟨x, hx0⟩ : ∃ x, xs[0]? = some x := ⟨xs[0]'(by omega), List.getElem?_eq_getElem (by omega)⟩
    obtain ⟨cs, hcl, _, hc⟩ := hx 0 x hx0
    obtain ⟨u, hu⟩ : ∃ u, cs[0]? = some u := ⟨cs[0]'(by omega), List.getElem?_eq_getElem (by omega)⟩
    have h2 := World.block_lt_of_cell? _ _ (hc 0 u hu)
    rw [add_block, he] at h2
    exact hg h2
end Go.Proofs.Ytglbcfkmaamhaaa.Copy
