/- transomlaw21: few; all. No condition. -/
import Derived.Test.YtgecokldbkamlaaStAF
set_option linter.unusedVariables false
set_option linter.unusedSimpArgs false
namespace Go.Proofs.Ytgecokldbkamlaa.St
open Go Go.RowKit Go.MapKept Go.Proofs.YtgecokldbkamlaaW.PrintWords Go.Proofs.YtgecokldbkamlaaW.PrintLast Go.Proofs.YtgecokldbkamlaaW.PrintMore Go.Proofs.Ytgecokldbkamlaa.Hv Go.Proofs.Ytgecokldbkamlaa.Mk Go.Proofs.Ytgecokldbkamlaa.Ka
variable {w0 w w1 : World} {g : Nat} {s s' x x' : St} {L L' L1 : List Ob} {v : Value}
/-- A row of deeds, and their turns. -/
def DRow (w : World) (ad : Option Addr) (l : List Dd) : Prop := ∀ k d, l[k]? = some d → ∃ a td tc, ad = some a ∧ Rd 7 w td d.ts.length (d.ts.flatMap tcel) ∧ ∀ j u, (dcel d td tc)[j]? = some u → w.cell? (a.add (k * 13 + j)) = some u
theorem DRow.below {ad : Option Addr} {l : List Dd} (h : DRow w ad l) (hb : Below w.heap.size w w1) : DRow w1 ad l := fun k d hk => by
  obtain ⟨a, td, tc, e, h1, h2⟩ := h k d hk
  exact ⟨a, td, tc, e, h1.below hb, fun j u hu => pw_cell_below hb (h2 j u hu)⟩
/-- A deed that is not too great. -/
def Fit (d : Dd) : Prop := d.ts.length ≤ 10 ∧ d.wr.1.size ≤ 500 ∧ d.wr.2.2.1.size ≤ 2000
def FewP (w : World) (l : List Dd) (e : Ending) (w' : World) : Prop := ∃ b : Bool, e = .returned (.bool b) ∧ (b = true → l.length ≤ 60 ∧ ∀ d ∈ l, Fit d) ∧ Below w.heap.size w w'
set_option maxHeartbeats 8000000 in
set_option maxRecDepth 100000 in
theorem few.calls (w : World) (l : List Dd) {ad : Option Addr} {c : Nat} (hl : l.length ≤ 9223372036854775807) (hR : DRow w ad l) : Calls Try.prog 6 #[.slice ad l.length c] w (FewP w l) := by
  have hu22 := Try.underlying22
  have hu43 := Try.underlying43
  have hu40 := Try.underlying40
  have hu41 := Try.underlying41
  have hu9 := Try.underlying9
  have HR := Aside0.mk hR
  clear hR
  by_cases hbig : 60 < l.length
  · have hb : ((l.length : Int) > 60) := by omega
    go_enter Try.func6, Try.ntmps6
    go_wp2_with fail
    exact bodyPost_ret (v := .bool false) (by simp [results, Try.results6, go_sem]) rfl ⟨false, rfl, by simp, Below.refl _ _⟩
  · have hb : ¬ ((l.length : Int) > 60) := by omega
    have HB := Aside0.mk hbig
    have hl60 : l.length ≤ 60 := by omega
    clear hbig hl
    go_enter Try.func6, Try.ntmps6
    go_wp2_with fail
    go_loopg [3] l.length (fun kq v3 wr => ∃ (k : Nat), v3 = .int .i64 (k : Int) ∧ kq = l.length - k ∧ k ≤ l.length ∧ wr = w ∧ Aside0 (∀ i d, i < k → l[i]? = some d → Fit d))
    case atStart => exact ⟨0, rfl, rfl, Nat.zero_le _, rfl, ⟨fun i d h => absurd h (Nat.not_lt_zero _)⟩⟩
    case round =>
      obtain ⟨k, rfl, rfl, hk, rfl, HF⟩ := hrel
      by_cases hltn : k < l.length
      · have hlt' : (k : Int) < (l.length : Int) := by omega
        obtain ⟨d, hd⟩ : ∃ d, l[k]? = some d := ⟨_, List.getElem?_eq_getElem hltn⟩
        obtain ⟨a, td, tc, rfl, -, hcl⟩ := HR.out k d hd
        have z7 := hcl 7 (.string d.wr.1) rfl
        have z10 := hcl 10 (.string d.wr.2.2.1) rfl
        have z12 := hcl 12 (.slice td d.ts.length tc) rfl
        rw [add_next _ _ _ (by omega)] at z7 z10 z12
        have HD := Aside0.mk hd
        clear hcl hd
        obtain ⟨kd, rd, nd, ⟨k0, ⟨x0, x1⟩, d0, t0⟩, ts⟩ := d
        simp only at z7 z10 z12
        by_cases g1 : 10 < ts.length
        · have g1' : ((ts.length : Int) > 10) := by omega
          go_wp2_with fail
          exact bodyPost_ret (v := .bool false) (by simp [results, Try.results6, go_sem]) rfl ⟨false, rfl, by simp, Below.refl _ _⟩
        · have g1' : ¬ ((ts.length : Int) > 10) := by omega
          by_cases g2 : 500 < k0.size
          · have g2' : ((k0.size : Int) > 500) := by omega
            go_wp2_with fail
            exact bodyPost_ret (v := .bool false) (by simp [results, Try.results6, go_sem]) rfl ⟨false, rfl, by simp, Below.refl _ _⟩
          · have g2' : ¬ ((k0.size : Int) > 500) := by omega
            by_cases g3 : 2000 < d0.size
            · have g3' : ((d0.size : Int) > 2000) := by omega
              go_wp2_with fail
              exact bodyPost_ret (v := .bool false) (by simp [results, Try.results6, go_sem]) rfl ⟨false, rfl, by simp, Below.refl _ _⟩
            · have g3' : ¬ ((d0.size : Int) > 2000) := by omega
              have HFit := Aside0.mk (show Fit ⟨kd, rd, nd, (k0, (x0, x1), d0, t0), ts⟩ from ⟨by show ts.length ≤ 10; omega, by show k0.size ≤ 500; omega, by show d0.size ≤ 2000; omega⟩)
              have hk7 : k ≤ 60 := by omega
              go_wp2_with fail
              go_roundg (l.length - (k + 1))
              case measure => omega
              case rel =>
                refine ⟨k + 1, by go_num, rfl, hltn, rfl, ⟨fun i d hi hdi => ?_⟩⟩
                by_cases hik : i < k
                · exact HF.out i d hik hdi
                · obtain rfl : i = k := by omega
                  rw [HD.out] at hdi
                  cases hdi
                  exact HFit.out
      · have hge : ¬ (k : Int) < (l.length : Int) := by omega
        have HA := Aside0.mk (show ∀ d ∈ l, Fit d from fun d hd => by
          obtain ⟨i, hi⟩ := List.mem_iff_getElem?.1 hd
          have := (List.getElem?_eq_some_iff.1 hi).1
          exact HF.out i d (by omega) hi)
        have HL := Aside0.mk hl60
        clear hl60
        go_wp2_with fail
        exact bodyPost_ret (v := .bool true) (by simp [results, Try.results6, go_sem]) rfl ⟨true, rfl, fun _ => ⟨HL.out, HA.out⟩, Below.refl _ _⟩
end Go.Proofs.Ytgecokldbkamlaa.St
