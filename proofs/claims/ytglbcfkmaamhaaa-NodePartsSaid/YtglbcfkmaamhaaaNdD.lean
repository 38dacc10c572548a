/- node: the search for a key. No condition. -/
import Derived.Test.YtglbcfkmaamhaaaNdC
set_option linter.unusedVariables false
set_option linter.unusedSimpArgs false
namespace Go.Proofs.Ytglbcfkmaamhaaa.Nd
open Go Go.RowKit Go.Proofs.YtglbcfkmaamhaaaW.PrintWords Go.Proofs.YtglbcfkmaamhaaaW.PrintLast Go.Proofs.YtglbcfkmaamhaaaW.PrintMore Go.Proofs.Ytglbcfkmaamhaaa.Hv
variable {w0 w w1 : World} {g : Nat} {L L' : List Ob}
set_option maxHeartbeats 4000000 in
set_option maxRecDepth 100000 in
theorem nanC.calls (a : ByteArray) (w : World) : Calls Try.prog 150 #[.string a] w fun e w' => e = .returned (.bool false) ∧ w' = w := by
  go_enter Try.func150, Try.ntmps150
  go_wp2_with fail
  exact bodyPost_ret (v := .bool false) (by simp [results, Try.results150, go_sem]) rfl ⟨rfl, rfl⟩
set_option maxHeartbeats 4000000 in
set_option maxRecDepth 100000 in
theorem nanS.calls (a : ByteArray) (w : World) : Calls Try.prog 143 #[.string a] w fun e w' => e = .returned (.bool false) ∧ w' = w := by
  go_enter Try.func143, Try.ntmps143
  go_wp2_with fail
  exact bodyPost_ret (v := .bool false) (by simp [results, Try.results143, go_sem]) rfl ⟨rfl, rfl⟩
def bl (a b : ByteArray) : Bool := Op.bytesLess a.toList b.toList
set_option maxHeartbeats 4000000 in
set_option maxRecDepth 100000 in
theorem less.calls (a b : ByteArray) (w : World) : Calls Try.prog 142 #[.string a, .string b] w fun e w' => e = .returned (.bool (bl a b)) ∧ w' = w := by
  go_enter Try.func142, Try.ntmps142
  go_wp2_with (go_at_call 150; refine (nanC.calls _ _).mono ?_; rintro e w' ⟨rfl, rfl⟩)
  exact bodyPost_ret (v := .bool (bl a b)) (by simp [results, Try.results142, go_sem, bl]) rfl ⟨rfl, rfl⟩
theorem less_trans : ∀ a b c : List UInt8, Op.bytesLess a b = true → Op.bytesLess b c = true → Op.bytesLess a c = true
  | [], [], _, h, _ => by simp [Op.bytesLess] at h
  | [], _ :: _, [], _, h => by simp [Op.bytesLess] at h
  | [], _ :: _, _ :: _, _, _ => by simp [Op.bytesLess]
  | _ :: _, [], _, h, _ => by simp [Op.bytesLess] at h
  | _ :: _, _ :: _, [], _, h => by simp [Op.bytesLess] at h
  | x :: a, y :: b, z :: c, h1, h2 => by
    have ih := less_trans a b c
    simp only [Op.bytesLess, Bool.or_eq_true, decide_eq_true_eq, Bool.and_eq_true, beq_iff_eq] at h1 h2 ⊢
    rcases h1 with h1 | ⟨rfl, h1⟩
    · rcases h2 with h2 | ⟨rfl, h2⟩
      · exact .inl (UInt8.lt_trans h1 h2)
      · exact .inl h1
    · rcases h2 with h2 | ⟨rfl, h2⟩
      · exact .inl h2
      · exact .inr ⟨rfl, ih h1 h2⟩
/-- How many keys lie ahead of k. -/
def plc (k : ByteArray) : List ByteArray → Nat
  | [] => 0
  | x :: l => if bl x k then plc k l + 1 else 0
def Asc (l : List ByteArray) : Prop := l.Pairwise fun x y => bl x y = true
theorem bl_irr (a : ByteArray) : bl a a = false := Less.less_irr _
theorem plc_le (k : ByteArray) : ∀ l : List ByteArray, plc k l ≤ l.length
  | [] => Nat.le_refl _
  | x :: l => by
    have := plc_le k l
    unfold plc
    split
    · simp only [List.length_cons]; omega
    · exact Nat.zero_le _
theorem plc_uniq {k : ByteArray} : ∀ {l : List ByteArray} {i : Nat}, i ≤ l.length → (∀ j x, j < i → l[j]? = some x → bl x k = true) → (∀ x, l[i]? = some x → bl x k = false) → i = plc k l
  | [], i, h, _, _ => by
    simp only [List.length_nil] at h
    unfold plc
    omega
  | x :: l, 0, _, _, h2 => by
    unfold plc
    rw [h2 x rfl]
    rfl
  | x :: l, i + 1, h, h1, h2 => by
    unfold plc
    rw [h1 0 x (Nat.succ_pos _) rfl, if_pos rfl]
    rw [← plc_uniq (l := l) (i := i) (by simpa using h) (fun j y hj hy => h1 (j + 1) y (by omega) (by simpa using hy)) (fun y hy => h2 y (by simpa using hy))]
theorem skey (l : List ByteArray) (k : Nat) (x : ByteArray) (h : l[k]? = some x) : (l.map Value.string)[k]? = some (.string x) := by simp [h]
def fnd (k : ByteArray) (l : List ByteArray) : Bool := match l[plc k l]? with | some x => x.toList == k.toList | none => false
set_option maxHeartbeats 8000000 in
set_option maxRecDepth 100000 in
theorem bs.calls (hv : Hv w0 w L) {a0 : Option Addr} {c0 : Nat} (l : List ByteArray) (hR : Rdy 1 w0 L a0 l.length (l.map Value.string)) (hl : l.length ≤ 1000000) (hs : Asc l) (k : ByteArray) :
    Calls Try.prog 95 #[.slice a0 l.length c0, .string k] w fun e w' => e = .returned (.tuple #[.int .i64 (plc k l : Int), .bool (fnd k l)]) ∧ Hv w0 w' L := by
  have hu57 := Try.underlying57
  have hu195 := Try.underlying195
  have hu3 := Try.underlying3
  have HR := Aside0.mk (hR.now hv)
  have HV := Aside0.mk hv
  have HL := Aside0.mk hl
  have HS := Aside0.mk hs
  clear hR hv hl hs
  go_enter Try.func95, Try.ntmps95
  go_wp2_with fail
  go_loopg [7, 8] l.length (fun kq v7 v8 wr => ∃ (i j : Nat), v7 = .int .i64 (i : Int) ∧ v8 = .int .i64 (j : Int) ∧ kq = j - i ∧ i ≤ j ∧ j ≤ l.length ∧ wr = w ∧ Aside0 ((∀ m x, m < i → l[m]? = some x → bl x k = true) ∧ (∀ m x, j ≤ m → l[m]? = some x → bl x k = false)))
  case atStart =>
    refine ⟨0, l.length, rfl, rfl, by omega, Nat.zero_le _, Nat.le_refl _, rfl, ⟨fun m x h => absurd h (Nat.not_lt_zero _), fun m x h hx => ?_⟩⟩
    have := (List.getElem?_eq_some_iff.1 hx).1
    omega
  case round =>
    obtain ⟨i, j, rfl, rfl, rfl, hij, hj, rfl, HI⟩ := hrel
    have hj7 : j ≤ 1000000 := by have := HL.out; omega
    by_cases hlt : i < j
    · have hlt' : (i : Int) < (j : Int) := by omega
      go_upto_region 5 with (fail)
      obtain ⟨m, hmn⟩ : ∃ m : Nat, m = (i + j) / 2 := ⟨_, rfl⟩
      have hm : ((i : Int) + (j : Int)) / 2 = (m : Int) := by omega
      have hm1 : m < l.length := by omega
      have hm2 : i ≤ m ∧ m < j := by omega
      have hm' : (m : Int) < (l.length : Int) := by omega
      rw [hm]
      clear hm
      obtain ⟨ad, ea, hcl⟩ := HR.out.2 (by omega)
      cases ea
      obtain ⟨x, hx⟩ : ∃ x, l[m]? = some x := ⟨_, List.getElem?_eq_getElem hm1⟩
      have z0 := hcl m _ (skey l m x hx)
      have HX := Aside0.mk hx
      have HM := Aside0.mk (And.intro hm2 hmn)
      clear hcl hx hmn
      cases hb : bl x k
      · go_wp2_with (go_at_call 142; go_loud (refine (less.calls x k _).mono ?_); rw [hb]; rintro e w' ⟨rfl, rfl⟩)
        go_roundg (m - i)
        case measure => omega
        case rel =>
          refine ⟨i, m, rfl, rfl, rfl, by omega, by omega, rfl, ⟨HI.out.1, fun q y hq hy => ?_⟩⟩
          by_cases hqm : q = m
          · subst hqm
            rw [HX.out] at hy
            cases hy
            exact hb
          · cases e : bl y k with
            | false => rfl
            | true =>
              have h1 := (List.getElem?_eq_some_iff.1 HX.out)
              have h2 := (List.getElem?_eq_some_iff.1 hy)
              obtain ⟨p1, e1⟩ := h1
              obtain ⟨p2, e2⟩ := h2
              have h3 := (List.pairwise_iff_getElem.1 HS.out) m q p1 p2 (by omega)
              rw [e1, e2] at h3
              have := less_trans _ _ _ h3 e
              unfold bl at hb
              rw [hb] at this
              cases this
      · go_wp2_with (go_at_call 142; go_loud (refine (less.calls x k _).mono ?_); rw [hb]; rintro e w' ⟨rfl, rfl⟩)
        go_roundg (j - (m + 1))
        case measure => omega
        case rel =>
          refine ⟨m + 1, j, by go_num, rfl, rfl, by omega, by omega, rfl, ⟨fun q y hq hy => ?_, HI.out.2⟩⟩
          by_cases hqm : q = m
          · subst hqm
            rw [HX.out] at hy
            cases hy
            exact hb
          · have h1 := (List.getElem?_eq_some_iff.1 HX.out)
            have h2 := (List.getElem?_eq_some_iff.1 hy)
            obtain ⟨p1, e1⟩ := h1
            obtain ⟨p2, e2⟩ := h2
            have h3 := (List.pairwise_iff_getElem.1 HS.out) q m p2 p1 (by omega)
            rw [e1, e2] at h3
            exact less_trans _ _ _ h3 hb
    · have hge : ¬ (i : Int) < (j : Int) := by omega
      have hij' : i = j := by omega
      subst hij'
      have hpl : i = plc k l := plc_uniq hj (fun q x hq hx => HI.out.1 q x hq hx) (fun x hx => HI.out.2 i x (Nat.le_refl _) hx)
      have HP := Aside0.mk hpl
      clear hpl hge hij
      by_cases hin : i < l.length
      · have hin' : (i : Int) < (l.length : Int) := by omega
        obtain ⟨ad, ea, hcl⟩ := HR.out.2 (by omega)
        cases ea
        obtain ⟨x, hx⟩ : ∃ x, l[i]? = some x := ⟨_, List.getElem?_eq_getElem hin⟩
        have z0 := hcl i _ (skey l i x hx)
        have HF := Aside0.mk (show fnd k l = (x.toList == k.toList) by unfold fnd; rw [← HP.out, hx])
        clear hcl hx
        cases hb : (x.toList == k.toList)
        · go_wp2_with (go_at_call 143; refine (nanS.calls _ _).mono ?_; rintro e w' ⟨rfl, rfl⟩)
          exact bodyPost_ret (v := .tuple #[.int .i64 (i : Int), .bool false]) (by simp [results, Try.results95, go_sem]) rfl ⟨by rw [HF.out, hb, ← HP.out], HV.out⟩
        · go_wp2_with (go_at_call 143; refine (nanS.calls _ _).mono ?_; rintro e w' ⟨rfl, rfl⟩)
          exact bodyPost_ret (v := .tuple #[.int .i64 (i : Int), .bool true]) (by simp [results, Try.results95, go_sem]) rfl ⟨by rw [HF.out, hb, ← HP.out], HV.out⟩
      · have hin' : ¬ (i : Int) < (l.length : Int) := by omega
        have HF := Aside0.mk (show fnd k l = false by unfold fnd; rw [← HP.out, List.getElem?_eq_none (by omega)])
        go_wp2_with fail
        exact bodyPost_ret (v := .tuple #[.int .i64 (i : Int), .bool false]) (by simp [results, Try.results95, go_sem]) rfl ⟨by rw [HF.out, ← HP.out], HV.out⟩
end Go.Proofs.Ytglbcfkmaamhaaa.Nd
