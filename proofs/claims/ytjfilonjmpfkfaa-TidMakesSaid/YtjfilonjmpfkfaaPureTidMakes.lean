/- TidMakes: for every epoch and sequence number the word that tid.Make gives, and its error, are the reference's. No condition. -/
import Derived.Test.YtjfilonjmpfkfaaPTidMakesx2
import Derived.Laws.BitsAllLaws
import Derived.Laws.BitsLemmas
set_option linter.unusedVariables false
set_option linter.unusedSimpArgs false
namespace Go.Proofs.Ytjfilonjmpfkfaa.Pure
open Go Go.RowKit Go.Proofs.Ytjfilonjmpfkfaa.PTidMakes Go.Proofs.YtjfilonjmpfkfaaW.PrintWords Go.Proofs.YtjfilonjmpfkfaaW.PrintLast

theorem uni (x : Int) : (BitVec.ofInt 64 x).toNat = (x % 18446744073709551616).toNat := by simp [BitVec.toNat_ofInt]
theorem bits_eq (op : BinOp) (x y : Int) (r : Nat) (h : (match op with
        | .and => BitVec.ofInt 64 x &&& BitVec.ofInt 64 y
        | .or => BitVec.ofInt 64 x ||| BitVec.ofInt 64 y
        | .xor => BitVec.ofInt 64 x ^^^ BitVec.ofInt 64 y
        | _ => BitVec.ofInt 64 x &&& ~~~BitVec.ofInt 64 y).toNat = r) : Go.bits op .i64 x y = IntKind.i64.wrap (r : Int) := by
  subst h; rfl
theorem and_nat (x y : Int) : Go.bits .and .i64 x y = IntKind.i64.wrap (((x % 18446744073709551616).toNat &&& (y % 18446744073709551616).toNat : Nat) : Int) := by
  apply bits_eq
  show (BitVec.ofInt 64 x &&& BitVec.ofInt 64 y).toNat = _
  rw [BitVec.toNat_and, uni, uni]
theorem or_nat (x y : Int) : Go.bits .or .i64 x y = IntKind.i64.wrap (((x % 18446744073709551616).toNat ||| (y % 18446744073709551616).toNat : Nat) : Int) := by
  apply bits_eq
  show (BitVec.ofInt 64 x ||| BitVec.ofInt 64 y).toNat = _
  rw [BitVec.toNat_or, uni, uni]
theorem mask20 (x : Int) : Go.bits .and .i64 x 1048575 = x % 1048576 := by
  rw [and_nat, show ((1048575 : Int) % 18446744073709551616).toNat = 1048575 from rfl, nat_mask20, IntKind.wrap_i64]; omega
theorem bit0 (x : Int) : Go.bits .and .i64 x 1 = x % 2 := by
  rw [and_nat, show ((1 : Int) % 18446744073709551616).toNat = 1 from rfl, nat_mask1, IntKind.wrap_i64]; omega
theorem bit1 (x : Int) : Go.bits .and .i64 x 2 = x / 2 % 2 * 2 := by
  rw [and_nat, show ((2 : Int) % 18446744073709551616).toNat = 2 ^ 1 from rfl, nat_bit, IntKind.wrap_i64]; omega
theorem bit2 (x : Int) : Go.bits .and .i64 x 4 = x / 4 % 2 * 4 := by
  rw [and_nat, show ((4 : Int) % 18446744073709551616).toNat = 2 ^ 2 from rfl, nat_bit, IntKind.wrap_i64]; omega
theorem low_parts (a i : Nat) (w : BitVec 64) (h : w.toNat = 2 ^ i - 1) (hi : i ≤ 64) (A : BitVec 64) (hA : A.toNat = a) : (A &&& ~~~w).toNat = a - a % 2 ^ i := by
  have h1 : (A &&& ~~~w).toNat = a / 2 ^ i * 2 ^ i := by
    apply Nat.eq_of_testBit_eq
    intro j
    rw [BitVec.toNat_and, Nat.testBit_and, hA, Nat.testBit_mul_two_pow, Nat.testBit_div_two_pow]
    have hw : (~~~w).toNat.testBit j = (decide (j < 64) && !(w.toNat.testBit j)) := by
      rw [← BitVec.getLsbD, ← BitVec.getLsbD, BitVec.getLsbD_not]
    rw [hw, h, Nat.testBit_two_pow_sub_one]
    by_cases hj : i ≤ j
    · have e : i + (j - i) = j := by omega
      by_cases h64 : j < 64
      · simp [hj, h64, e, Nat.not_lt.2 hj]
      · have : a.testBit j = false := by
          apply Nat.testBit_lt_two_pow
          rw [← hA]
          exact Nat.lt_of_lt_of_le A.isLt (Nat.pow_le_pow_right (by decide) (by omega))
        simp [hj, h64, e, this]
    · simp [hj, Nat.lt_of_not_le hj]
  rw [h1]
  have := Nat.div_add_mod a (2 ^ i)
  rw [Nat.mul_comm] at this
  omega
theorem andNot7 (x : Int) (h1 : -9223372036854775808 ≤ x) (h2 : x ≤ 9223372036854775807) : Go.bits .andNot .i64 x 7 = x - x % 8 := by
  rw [bits_eq .andNot x 7 ((x % 18446744073709551616).toNat - (x % 18446744073709551616).toNat % 2 ^ 3) (low_parts _ 3 _ rfl (by decide) _ (uni x)), IntKind.wrap_i64]
  omega
theorem andNot1 (x : Int) (h1 : -9223372036854775808 ≤ x) (h2 : x ≤ 9223372036854775807) : Go.bits .andNot .i64 x 1 = x - x % 2 := by
  rw [bits_eq .andNot x 1 ((x % 18446744073709551616).toNat - (x % 18446744073709551616).toNat % 2 ^ 1) (low_parts _ 1 _ rfl (by decide) _ (uni x)), IntKind.wrap_i64]
  omega
theorem or_low (w : Int) (h : w % 8 = 0) (h1 : -9223372036854775808 ≤ w) (h2 : w ≤ 9223372036854775800) (a b : Nat) (ha : a < 8) (hb : b < 8) :
    Go.bits .or .i64 (w + a) b = w + ((a ||| b : Nat) : Int) := by
  have e1 : ((w + a) % 18446744073709551616).toNat = (w % 18446744073709551616).toNat + a := by omega
  have e2 : ((b : Int) % 18446744073709551616).toNat = b := by omega
  have hab : a ||| b < 2 ^ 3 := Nat.or_lt_two_pow (by omega) (by omega)
  have e3 : (w % 18446744073709551616).toNat % 2 ^ 3 = 0 := by omega
  rw [or_nat, e1, e2, ← nat_join 3 _ a e3 (by omega), Nat.or_assoc, nat_join 3 _ _ e3 hab, IntKind.wrap_i64]
  omega
theorem or_make (e s : Int) (h1 : 0 ≤ e) (h2 : e < 1048576) (h3 : 0 ≤ s) (h4 : s < 1048576) : Go.bits .or .i64 (wrap64 (e * 8388608)) (wrap64 (s * 8)) = e * 8388608 + s * 8 := by
  have w1 : wrap64 (e * 8388608) = e * 8388608 := by unfold wrap64; omega
  have w2 : wrap64 (s * 8) = s * 8 := by unfold wrap64; omega
  rw [w1, w2, or_nat, nat_join 23 _ _ (by omega) (by omega), IntKind.wrap_i64]
  omega

theorem awake_ok : transomlaw15_awake.f 8 = some true := by kernel_rfl

theorem TidMakes : transomlaw15_TidMakes.Pure := by
  intro e s we ws
  refine ⟨8, ?_⟩
  unfold transomlaw15_TidMakes.f
  rw [awake_ok]
  unfold tid_Make.f transomref15_Make.f
  by_cases h1 : e < 0
  · simp [h1]
  by_cases h2 : e ≥ 1048576
  · simp [h1, h2]
  by_cases h3 : s < 0
  · simp [h1, h2, h3]
  by_cases h4 : s ≥ 1048576
  · simp [h1, h2, h3, h4]
  have hm := or_make e s (by omega) (by omega) (by omega) (by omega)
  have hr : wrap64 (wrap64 (wrap64 (e * 8) * 1048576) + wrap64 (s * 8)) = e * 8388608 + s * 8 := by
    unfold wrap64; omega
  rw [hm, hr]
  simp [h1, h2, h3, h4]

end Go.Proofs.Ytjfilonjmpfkfaa.Pure
