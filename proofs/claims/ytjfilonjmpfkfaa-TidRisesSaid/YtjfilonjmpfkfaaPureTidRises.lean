/- TidRises: words of commits, one behind the other, in whatever epochs that do not fall, rise: for every list of epochs and every greatest number. No condition. -/
import Derived.Test.YtjfilonjmpfkfaaPTidRisesx2
import Derived.Laws.BitsAllLaws
import Derived.Laws.BitsLemmas
set_option linter.unusedVariables false
set_option linter.unusedSimpArgs false
namespace Go.Proofs.Ytjfilonjmpfkfaa.Pure
open Go Go.RowKit Go.Proofs.Ytjfilonjmpfkfaa.PTidRises Go.Proofs.YtjfilonjmpfkfaaW.PrintWords Go.Proofs.YtjfilonjmpfkfaaW.PrintLast

theorem uni (x : Int) : (BitVec.ofInt 64 x).toNat = (x % 18446744073709551616).toNat := by simp [BitVec.toNat_ofInt]
theorem bits_eq (op : BinOp) (x y : Int) (r : Nat) (h : (match op with
        | .and => BitVec.ofInt 64 x &&& BitVec.ofInt 64 y
        | .or => BitVec.ofInt 64 x ||| BitVec.ofInt 64 y
        | .xor => BitVec.ofInt 64 x ^^^ BitVec.ofInt 64 y
        | _ => BitVec.ofInt 64 x &&& ~~~BitVec.ofInt 64 y).toNat = r) : Go.bits op .i64 x y = IntKind.i64.wrap (r : Int) := by
  subst h; rfl
theorem and_nat (x y : Int) : Go.bits .and .i64 x y = IntKind.i64.wrap (((x % 18446744073709551616).toNat &&& (y % 18446744073709551616).toNat : Nat) : Int) := by
  apply bits_eq
  show (BitVec.ofInt 64 x &&& BitVec.ofInt 64 y).toNat = _
  rw [BitVec.toNat_and, uni, uni]
theorem or_nat (x y : Int) : Go.bits .or .i64 x y = IntKind.i64.wrap (((x % 18446744073709551616).toNat ||| (y % 18446744073709551616).toNat : Nat) : Int) := by
  apply bits_eq
  show (BitVec.ofInt 64 x ||| BitVec.ofInt 64 y).toNat = _
  rw [BitVec.toNat_or, uni, uni]
theorem mask20 (x : Int) : Go.bits .and .i64 x 1048575 = x % 1048576 := by
  rw [and_nat, show ((1048575 : Int) % 18446744073709551616).toNat = 1048575 from rfl, nat_mask20, IntKind.wrap_i64]; omega
theorem bit0 (x : Int) : Go.bits .and .i64 x 1 = x % 2 := by
  rw [and_nat, show ((1 : Int) % 18446744073709551616).toNat = 1 from rfl, nat_mask1, IntKind.wrap_i64]; omega
theorem bit1 (x : Int) : Go.bits .and .i64 x 2 = x / 2 % 2 * 2 := by
  rw [and_nat, show ((2 : Int) % 18446744073709551616).toNat = 2 ^ 1 from rfl, nat_bit, IntKind.wrap_i64]; omega
theorem bit2 (x : Int) : Go.bits .and .i64 x 4 = x / 4 % 2 * 4 := by
  rw [and_nat, show ((4 : Int) % 18446744073709551616).toNat = 2 ^ 2 from rfl, nat_bit, IntKind.wrap_i64]; omega
theorem low_parts (a i : Nat) (w : BitVec 64) (h : w.toNat = 2 ^ i - 1) (hi : i ≤ 64) (A : BitVec 64) (hA : A.toNat = a) : (A &&& ~~~w).toNat = a - a % 2 ^ i := by
  have h1 : (A &&& ~~~w).toNat = a / 2 ^ i * 2 ^ i := by
    apply Nat.eq_of_testBit_eq
    intro j
    rw [BitVec.toNat_and, Nat.testBit_and, hA, Nat.testBit_mul_two_pow, Nat.testBit_div_two_pow]
    have hw : (~~~w).toNat.testBit j = (decide (j < 64) && !(w.toNat.testBit j)) := by
      rw [← BitVec.getLsbD, ← BitVec.getLsbD, BitVec.getLsbD_not]
    rw [hw, h, Nat.testBit_two_pow_sub_one]
    by_cases hj : i ≤ j
    · have e : i + (j - i) = j := by omega
      by_cases h64 : j < 64
      · simp [hj, h64, e, Nat.not_lt.2 hj]
      · have : a.testBit j = false := by
          apply Nat.testBit_lt_two_pow
          rw [← hA]
          exact Nat.lt_of_lt_of_le A.isLt (Nat.pow_le_pow_right (by decide) (by omega))
        simp [hj, h64, e, this]
    · simp [hj, Nat.lt_of_not_le hj]
  rw [h1]
  have := Nat.div_add_mod a (2 ^ i)
  rw [Nat.mul_comm] at this
  omega
theorem andNot7 (x : Int) (h1 : -9223372036854775808 ≤ x) (h2 : x ≤ 9223372036854775807) : Go.bits .andNot .i64 x 7 = x - x % 8 := by
  rw [bits_eq .andNot x 7 ((x % 18446744073709551616).toNat - (x % 18446744073709551616).toNat % 2 ^ 3) (low_parts _ 3 _ rfl (by decide) _ (uni x)), IntKind.wrap_i64]
  omega
theorem andNot1 (x : Int) (h1 : -9223372036854775808 ≤ x) (h2 : x ≤ 9223372036854775807) : Go.bits .andNot .i64 x 1 = x - x % 2 := by
  rw [bits_eq .andNot x 1 ((x % 18446744073709551616).toNat - (x % 18446744073709551616).toNat % 2 ^ 1) (low_parts _ 1 _ rfl (by decide) _ (uni x)), IntKind.wrap_i64]
  omega
theorem or_low (w : Int) (h : w % 8 = 0) (h1 : -9223372036854775808 ≤ w) (h2 : w ≤ 9223372036854775800) (a b : Nat) (ha : a < 8) (hb : b < 8) :
    Go.bits .or .i64 (w + a) b = w + ((a ||| b : Nat) : Int) := by
  have e1 : ((w + a) % 18446744073709551616).toNat = (w % 18446744073709551616).toNat + a := by omega
  have e2 : ((b : Int) % 18446744073709551616).toNat = b := by omega
  have hab : a ||| b < 2 ^ 3 := Nat.or_lt_two_pow (by omega) (by omega)
  have e3 : (w % 18446744073709551616).toNat % 2 ^ 3 = 0 := by omega
  rw [or_nat, e1, e2, ← nat_join 3 _ a e3 (by omega), Nat.or_assoc, nat_join 3 _ _ e3 hab, IntKind.wrap_i64]
  omega
theorem or_make (e s : Int) (h1 : 0 ≤ e) (h2 : e < 1048576) (h3 : 0 ≤ s) (h4 : s < 1048576) : Go.bits .or .i64 (wrap64 (e * 8388608)) (wrap64 (s * 8)) = e * 8388608 + s * 8 := by
  have w1 : wrap64 (e * 8388608) = e * 8388608 := by unfold wrap64; omega
  have w2 : wrap64 (s * 8) = s * 8 := by unfold wrap64; omega
  rw [w1, w2, or_nat, nat_join 23 _ _ (by omega) (by omega), IntKind.wrap_i64]
  omega

theorem awake_ok : transomlaw15_awake.f 8 = some true := by kernel_rfl
theorem awake_any : ∀ k, transomlaw15_awake.f (k + 8) = some true
  | 0 => awake_ok
  | k + 1 => by rw [show k + 1 + 8 = (k + 8) + 1 from by omega]; exact transomlaw15_awake.mono _ _ (awake_any k)
theorem awake_ge (k : Nat) (h : 8 ≤ k) : transomlaw15_awake.f k = some true := by
  obtain ⟨n, rfl⟩ : ∃ n, k = n + 8 := ⟨k - 8, by omega⟩
  exact awake_any n
theorem compare_ok (a b : Int) : cmp_Compare_int.f a b = some (if a < b then -1 else if a > b then 1 else 0) := by
  unfold cmp_Compare_int.f cmp_isNaN_int.f
  by_cases h1 : a < b
  · simp [h1]
  by_cases h2 : a > b
  · simp [h1, h2]
  · simp [h1, h2]
theorem or_ok (k : Nat) (a b : Int) : cmp_Or_int.f (k + 3) [a, b] = some (if a = 0 then b else a) := by
  unfold cmp_Or_int.f
  have w1 : wrap64 1 = 1 := by unfold wrap64; omega
  have w2 : wrap64 2 = 2 := by unfold wrap64; omega
  have r0 : rd [a, b] 0 = a := rfl
  have r1 : rd [a, b] 1 = b := rfl
  by_cases ha : a = 0
  · by_cases hb : b = 0
    · subst ha; subst hb
      simp [cmp_Or_int.l0, w1, w2, r0, r1]
    · subst ha
      simp [cmp_Or_int.l0, w1, w2, r0, r1, hb]
  · simp [cmp_Or_int.l0, r0, ha]
def cmpW (a b : Int) : Int :=
  let x := if a / 8388608 % 1048576 < b / 8388608 % 1048576 then -1 else if a / 8388608 % 1048576 > b / 8388608 % 1048576 then 1 else 0
  let y := if a / 8 % 1048576 < b / 8 % 1048576 then -1 else if a / 8 % 1048576 > b / 8 % 1048576 then 1 else 0
  if x = 0 then y else x
theorem tidCmp_ok (k : Nat) (a b : Int) : tid_Cmp.f (k + 3) a b = some (cmpW a b) := by
  unfold tid_Cmp.f tid_Epoch.f tid_Seq.f
  simp only [mask20, Option.bind_some, compare_ok, or_ok]
  rfl
theorem tidCmp_ge (k : Nat) (h : 3 ≤ k) (a b : Int) : tid_Cmp.f k a b = some (cmpW a b) := by
  obtain ⟨n, rfl⟩ : ∃ n, k = n + 3 := ⟨k - 3, by omega⟩
  exact tidCmp_ok n a b

theorem next_ok (x e s m : Int) (he : 0 ≤ e) (hs : 0 ≤ s) (hs2 : s < 1048576) : ∃ a b c, tid_Next.f x e s m = some (a, b, c) ∧
    (c = 0 → a = x ∧ e ≤ x ∧ x < 1048576 ∧ 1 ≤ b ∧ b ≤ m ∧ m < 1048576 ∧ (x = e → b = s + 1)) := by
  have w : wrap64 (1 + s) = 1 + s := by unfold wrap64; omega
  unfold tid_Next.f
  rw [w]
  repeat' split
  all_goals (refine ⟨_, _, _, rfl, ?_⟩; intro h; first | (exfalso; omega) | (refine ⟨rfl, ?_⟩; omega))
theorem rises (l : List Int) (hl : l.length ≤ 60) (m : Int) (d : Nat) : ∀ (k : Nat) (i e s last : Int), 0 ≤ i → i ≤ l.length → (l.length : Int) - i = d → d + 10 ≤ k →
    0 ≤ e → e < 1048576 → 0 ≤ s → s < 1048576 → (last = -1 ∨ last = e * 8388608 + s * 8) → transomlaw15_TidRises.l0 k l m e s last i = some true := by
  induction d with
  | zero =>
    intro k i e s last hi0 hi1 hd hk he0 he1 hs0 hs1 hlast
    obtain ⟨k, rfl⟩ : ∃ n, k = n + 1 := ⟨k - 1, by omega⟩
    unfold transomlaw15_TidRises.l0
    rw [if_neg (by omega), awake_ge k (by omega)]
    rfl
  | succ d ih =>
    intro k i e s last hi0 hi1 hd hk he0 he1 hs0 hs1 hlast
    obtain ⟨k, rfl⟩ : ∃ n, k = n + 1 := ⟨k - 1, by omega⟩
    have hw : wrap64 (i + 1) = i + 1 := by unfold wrap64; omega
    have skip := ih k (i + 1) e s last (by omega) (by omega) (by omega) (by omega) he0 he1 hs0 hs1 hlast
    unfold transomlaw15_TidRises.l0
    rw [if_pos (by omega), if_pos hi0, hw]
    by_cases hx : rd l i < e
    · rw [if_pos hx]; exact skip
    rw [if_neg hx]
    obtain ⟨a, b, c, hn, hc⟩ := next_ok (rd l i) e s m he0 hs0 hs1
    rw [hn]
    simp only [Option.bind_some]
    by_cases c0 : c = 0
    · obtain ⟨rfl, h1, h2, h3, h4, h5, h6⟩ := hc c0
      rw [if_pos c0]
      have hmk : tid_Make.f (rd l i) b = some (rd l i * 8388608 + b * 8, 0) := by
        unfold tid_Make.f
        rw [if_neg (by omega), if_neg (by omega), if_neg (by omega), if_neg (by omega), or_make _ _ (by omega) (by omega) (by omega) (by omega)]
      rw [hmk]
      simp only [Option.bind_some, if_true]
      have go := ih k (i + 1) (rd l i) b (rd l i * 8388608 + b * 8) (by omega) (by omega) (by omega) (by omega) (by omega) (by omega) (by omega) (by omega) (.inr rfl)
      have rest : (if b > m then (some false : Option Bool) else if b < 1 then some false else transomlaw15_TidRises.l0 k l m (rd l i) b (rd l i * 8388608 + b * 8) (i + 1)) = some true := by
        rw [if_neg (by omega), if_neg (by omega)]; exact go
      by_cases hl0 : last ≥ 0
      · have hlast' : last = e * 8388608 + s * 8 := by omega
        have hcmp : cmpW last (rd l i * 8388608 + b * 8) < 0 := by
          subst hlast'
          unfold cmpW
          have e1 : (e * 8388608 + s * 8) / 8388608 % 1048576 = e := by omega
          have e2 : (rd l i * 8388608 + b * 8) / 8388608 % 1048576 = rd l i := by omega
          have e3 : (e * 8388608 + s * 8) / 8 % 1048576 = s := by omega
          have e4 : (rd l i * 8388608 + b * 8) / 8 % 1048576 = b := by omega
          simp only [e1, e2, e3, e4]
          by_cases he : e < rd l i
          · simp [he]
          · have he' : rd l i = e := by omega
            have := h6 he'
            have a1 : ¬ e > rd l i := by omega
            have a2 : s < b := by omega
            simp [he, a1, a2]
        rw [if_pos hl0, tidCmp_ge k (by omega)]
        simp only [Option.bind_some]
        rw [if_neg (by omega)]
        exact rest
      · rw [if_neg hl0]
        exact rest
    · rw [if_neg c0]; exact skip

theorem TidRises : transomlaw15_TidRises.Pure := by
  intro l m h1 h2 h3 h4
  refine ⟨l.length + 12, ?_⟩
  unfold transomlaw15_TidRises.f
  by_cases h : (l.length : Int) > 60
  · rw [if_pos h, awake_ge _ (by omega)]; rfl
  · rw [if_neg h]
    exact rises l (by omega) m l.length _ 0 0 0 (-1) (by omega) (by omega) (by omega) (by omega) (by omega) (by omega) (by omega) (by omega) (.inl rfl)

end Go.Proofs.Ytjfilonjmpfkfaa.Pure
