/- TidBack: a word has the epoch and the number that it is made of, whatever its three bits say; and these. No condition. -/
import Derived.Test.YtjfilonjmpfkfaaPTidBackx2
import Derived.Test.YtjfilonjmpfkfaaRows
import Derived.Laws.BitsAllLaws
import Derived.Laws.BitsLemmas
import Derived.WalkKit
import Derived.ProofKit
import Derived.OpenShut
import Derived.ShutString
import Derived.ChangeOld
import Derived.Below
import Derived.SizedLaws
import Derived.Deep.RegionHeld3
set_option linter.unusedVariables false
set_option linter.unusedSimpArgs false
namespace Go.Proofs.Ytjfilonjmpfkfaa.LawTidBack
open Go Go.RowKit Go.Proofs.Ytjfilonjmpfkfaa.PTidBack Go.Proofs.YtjfilonjmpfkfaaW.PrintWords Go.Proofs.YtjfilonjmpfkfaaW.PrintLast
open Go.ChangeShapes Go.WideShapes Go.ChangeAt

theorem uni (x : Int) : (BitVec.ofInt 64 x).toNat = (x % 18446744073709551616).toNat := by simp [BitVec.toNat_ofInt]
theorem bits_eq (op : BinOp) (x y : Int) (r : Nat) (h : (match op with
        | .and => BitVec.ofInt 64 x &&& BitVec.ofInt 64 y
        | .or => BitVec.ofInt 64 x ||| BitVec.ofInt 64 y
        | .xor => BitVec.ofInt 64 x ^^^ BitVec.ofInt 64 y
        | _ => BitVec.ofInt 64 x &&& ~~~BitVec.ofInt 64 y).toNat = r) : Go.bits op .i64 x y = IntKind.i64.wrap (r : Int) := by
  subst h; rfl
theorem and_nat (x y : Int) : Go.bits .and .i64 x y = IntKind.i64.wrap (((x % 18446744073709551616).toNat &&& (y % 18446744073709551616).toNat : Nat) : Int) := by
  apply bits_eq
  show (BitVec.ofInt 64 x &&& BitVec.ofInt 64 y).toNat = _
  rw [BitVec.toNat_and, uni, uni]
theorem or_nat (x y : Int) : Go.bits .or .i64 x y = IntKind.i64.wrap (((x % 18446744073709551616).toNat ||| (y % 18446744073709551616).toNat : Nat) : Int) := by
  apply bits_eq
  show (BitVec.ofInt 64 x ||| BitVec.ofInt 64 y).toNat = _
  rw [BitVec.toNat_or, uni, uni]
theorem mask20 (x : Int) : Go.bits .and .i64 x 1048575 = x % 1048576 := by
  rw [and_nat, show ((1048575 : Int) % 18446744073709551616).toNat = 1048575 from rfl, nat_mask20, IntKind.wrap_i64]; omega
theorem bit0 (x : Int) : Go.bits .and .i64 x 1 = x % 2 := by
  rw [and_nat, show ((1 : Int) % 18446744073709551616).toNat = 1 from rfl, nat_mask1, IntKind.wrap_i64]; omega
theorem bit1 (x : Int) : Go.bits .and .i64 x 2 = x / 2 % 2 * 2 := by
  rw [and_nat, show ((2 : Int) % 18446744073709551616).toNat = 2 ^ 1 from rfl, nat_bit, IntKind.wrap_i64]; omega
theorem bit2 (x : Int) : Go.bits .and .i64 x 4 = x / 4 % 2 * 4 := by
  rw [and_nat, show ((4 : Int) % 18446744073709551616).toNat = 2 ^ 2 from rfl, nat_bit, IntKind.wrap_i64]; omega
theorem low_parts (a i : Nat) (w : BitVec 64) (h : w.toNat = 2 ^ i - 1) (hi : i ≤ 64) (A : BitVec 64) (hA : A.toNat = a) : (A &&& ~~~w).toNat = a - a % 2 ^ i := by
  have h1 : (A &&& ~~~w).toNat = a / 2 ^ i * 2 ^ i := by
    apply Nat.eq_of_testBit_eq
    intro j
    rw [BitVec.toNat_and, Nat.testBit_and, hA, Nat.testBit_mul_two_pow, Nat.testBit_div_two_pow]
    have hw : (~~~w).toNat.testBit j = (decide (j < 64) && !(w.toNat.testBit j)) := by
      rw [← BitVec.getLsbD, ← BitVec.getLsbD, BitVec.getLsbD_not]
    rw [hw, h, Nat.testBit_two_pow_sub_one]
    by_cases hj : i ≤ j
    · have e : i + (j - i) = j := by omega
      by_cases h64 : j < 64
      · simp [hj, h64, e, Nat.not_lt.2 hj]
      · have : a.testBit j = false := by
          apply Nat.testBit_lt_two_pow
          rw [← hA]
          exact Nat.lt_of_lt_of_le A.isLt (Nat.pow_le_pow_right (by decide) (by omega))
        simp [hj, h64, e, this]
    · simp [hj, Nat.lt_of_not_le hj]
  rw [h1]
  have := Nat.div_add_mod a (2 ^ i)
  rw [Nat.mul_comm] at this
  omega
theorem andNot7 (x : Int) (h1 : -9223372036854775808 ≤ x) (h2 : x ≤ 9223372036854775807) : Go.bits .andNot .i64 x 7 = x - x % 8 := by
  rw [bits_eq .andNot x 7 ((x % 18446744073709551616).toNat - (x % 18446744073709551616).toNat % 2 ^ 3) (low_parts _ 3 _ rfl (by decide) _ (uni x)), IntKind.wrap_i64]
  omega
theorem andNot1 (x : Int) (h1 : -9223372036854775808 ≤ x) (h2 : x ≤ 9223372036854775807) : Go.bits .andNot .i64 x 1 = x - x % 2 := by
  rw [bits_eq .andNot x 1 ((x % 18446744073709551616).toNat - (x % 18446744073709551616).toNat % 2 ^ 1) (low_parts _ 1 _ rfl (by decide) _ (uni x)), IntKind.wrap_i64]
  omega
theorem or_low (w : Int) (h : w % 8 = 0) (h1 : -9223372036854775808 ≤ w) (h2 : w ≤ 9223372036854775800) (a b : Nat) (ha : a < 8) (hb : b < 8) :
    Go.bits .or .i64 (w + a) b = w + ((a ||| b : Nat) : Int) := by
  have e1 : ((w + a) % 18446744073709551616).toNat = (w % 18446744073709551616).toNat + a := by omega
  have e2 : ((b : Int) % 18446744073709551616).toNat = b := by omega
  have hab : a ||| b < 2 ^ 3 := Nat.or_lt_two_pow (by omega) (by omega)
  have e3 : (w % 18446744073709551616).toNat % 2 ^ 3 = 0 := by omega
  rw [or_nat, e1, e2, ← nat_join 3 _ a e3 (by omega), Nat.or_assoc, nat_join 3 _ _ e3 hab, IntKind.wrap_i64]
  omega
theorem or_make (e s : Int) (h1 : 0 ≤ e) (h2 : e < 1048576) (h3 : 0 ≤ s) (h4 : s < 1048576) : Go.bits .or .i64 (wrap64 (e * 8388608)) (wrap64 (s * 8)) = e * 8388608 + s * 8 := by
  have w1 : wrap64 (e * 8388608) = e * 8388608 := by unfold wrap64; omega
  have w2 : wrap64 (s * 8) = s * 8 := by unfold wrap64; omega
  rw [w1, w2, or_nat, nat_join 23 _ _ (by omega) (by omega), IntKind.wrap_i64]
  omega

theorem awake_ok : transomlaw15_awake.f 8 = some true := by kernel_rfl
theorem awake_any : ∀ k, transomlaw15_awake.f (k + 8) = some true
  | 0 => awake_ok
  | k + 1 => by rw [show k + 1 + 8 = (k + 8) + 1 from by omega]; exact transomlaw15_awake.mono _ _ (awake_any k)
theorem awake_ge (k : Nat) (h : 8 ≤ k) : transomlaw15_awake.f k = some true := by
  obtain ⟨n, rfl⟩ : ∃ n, k = n + 8 := ⟨k - 8, by omega⟩
  exact awake_any n
def epW (x : Int) : Int := x / 8388608 % 1048576
def sqW (x : Int) : Int := x / 8 % 1048576
theorem ep1 (x : Int) : tid_Epoch.f x = some (epW x) := by unfold tid_Epoch.f; rw [mask20]; rfl
theorem sq1 (x : Int) : tid_Seq.f x = some (sqW x) := by unfold tid_Seq.f; rw [mask20]; rfl
def lkW (x : Int) : Bool := x % 2 == 1
def abW (x : Int) : Bool := x / 2 % 2 == 1
def ddW (x : Int) : Bool := x / 4 % 2 == 1
theorem lk1 (x : Int) : tid_Locked.f x = some (lkW x) := by
  unfold tid_Locked.f lkW
  rw [bit0]
  congr 1
  rcases (by omega : x % 2 = 0 ∨ x % 2 = 1) with h | h <;> simp [h]
theorem ab1 (x : Int) : tid_Absent.f x = some (abW x) := by
  unfold tid_Absent.f abW
  rw [bit1]
  congr 1
  rcases (by omega : x / 2 % 2 = 0 ∨ x / 2 % 2 = 1) with h | h <;> simp [h]
theorem dd1 (x : Int) : tid_Dead.f x = some (ddW x) := by
  unfold tid_Dead.f ddW
  rw [bit2]
  congr 1
  rcases (by omega : x / 4 % 2 = 0 ∨ x / 4 % 2 = 1) with h | h <;> simp [h]

def one (b : Bool) : Int := if b then 1 else 0
def withW (x : Int) (a b c : Bool) : Int := x - x % 8 + (one a + 2 * one b + 4 * one c)
theorem wf_bd {x : Int} (h : (Lit.int .i64 x).wf = true) : -9223372036854775808 ≤ x ∧ x ≤ 9223372036854775807 := by
  simpa [Lit.wf, IntKind.min, IntKind.max, IntKind.signed, IntKind.bits] using h
theorem with1 (k : Nat) (x : Int) (h1 : -9223372036854775808 ≤ x) (h2 : x ≤ 9223372036854775807) (a b c : Bool) : tid_With.f (k + 2) x a b c = some (withW x a b c) := by
  unfold tid_With.f
  rw [andNot7 x h1 h2]
  have o := or_low (x - x % 8) (by omega) (by omega) (by omega)
  have o1 := o 0 1 (by omega) (by omega)
  have o2 := o 0 2 (by omega) (by omega)
  have o4 := o 0 4 (by omega) (by omega)
  have o42 := o 4 2 (by omega) (by omega)
  have o41 := o 4 1 (by omega) (by omega)
  have o61 := o 6 1 (by omega) (by omega)
  have o21 := o 2 1 (by omega) (by omega)
  simp only [show (0 ||| 1 : Nat) = 1 from rfl, show (0 ||| 2 : Nat) = 2 from rfl, show (0 ||| 4 : Nat) = 4 from rfl, show (4 ||| 2 : Nat) = 6 from rfl, show (4 ||| 1 : Nat) = 5 from rfl, show (6 ||| 1 : Nat) = 7 from rfl, show (2 ||| 1 : Nat) = 3 from rfl, Int.natCast_zero, Int.add_zero, Int.natCast_one, Int.cast_ofNat_Int] at o1 o2 o4 o42 o41 o61 o21
  generalize hy : x - x % 8 = y at *
  unfold withW
  rw [hy]
  cases a <;> cases b <;> cases c <;> simp [tid_With.j0, tid_With.j1, o1, o2, o4, o42, o41, o61, o21, one]
def plainW (x : Int) : Int := x - x % 2
theorem plain1 (x : Int) (h1 : -9223372036854775808 ≤ x) (h2 : x ≤ 9223372036854775807) : tid_Plain.f x = some (plainW x) := by
  unfold tid_Plain.f; rw [andNot1 x h1 h2]; rfl

section
variable {P : Program} {H : Type} {enc : TypeId × Value → H} {w : World} {base : Nat} {spare : Nat → Bool} {held : Bool} {t e : TypeId} {fuel : Nat} {cs : List Value} {x : DataW H × List MemPlace}
theorem okWide_array {r : Reach} {n : Nat} {v : Value} {b0 : Nat} (ht : P.underlying t = some (.array n e)) (h : Value.okWide P w r b0 t v) : ∃ cs, v = .agg cs ∧ cs.size = P.cellsOf t := by
  simp only [Value.okWide, ht] at h
  obtain ⟨cs, h1, h2, _⟩ := h
  exact ⟨cs, h1, h2⟩
theorem trod_cells {n : Nat} (ht : P.underlying t = some (.array n e)) (hc : P.cellsOf t = n) (he : P.cellsOf e = 1) (h : DataW.trod enc P w base spare held fuel t cs = some x) :
    cs.length = n ∧ ∀ i, i < n → ∃ (m : Nat) (y : DataW H × List MemPlace) (v : Value), cs[i]? = some v ∧ DataW.trod enc P w base spare held m e [v] = some y := by
  obtain ⟨xs, m, _, _, hl, hx, hi⟩ := DataW.trod_array ht h
  refine ⟨hl.trans hc, fun i hin => ?_⟩
  have h1 := hi i hin
  rw [he, Nat.mul_one] at h1
  have hil : i < cs.length := by omega
  have hxi : i < xs.length := by omega
  have hd : (cs.drop i).take 1 = [cs[i]] := by
    rw [List.drop_eq_getElem_cons hil]; rfl
  rw [hd, List.getElem?_eq_getElem hxi] at h1
  exact ⟨m, xs[i], cs[i], List.getElem?_eq_getElem hil, h1⟩
theorem open_bools3 (ht : P.underlying t = some (.array 3 e)) (hc : P.cellsOf t = 3) (he : P.cellsOf e = 1) (hb : P.underlying e = some .bool) (h : DataW.trod enc P w base spare held fuel t cs = some x) :
    ∃ b0 b1 b2 : Bool, cs = [.bool b0, .bool b1, .bool b2] := by
  obtain ⟨hl, hi⟩ := trod_cells ht hc he h
  obtain ⟨_, _, v0, e0, t0⟩ := hi 0 (by omega)
  obtain ⟨_, _, v1, e1, t1⟩ := hi 1 (by omega)
  obtain ⟨_, _, v2, e2, t2⟩ := hi 2 (by omega)
  obtain ⟨b0, h0, _⟩ := DataW.trod_bool hb t0
  obtain ⟨b1, h1, _⟩ := DataW.trod_bool hb t1
  obtain ⟨b2, h2, _⟩ := DataW.trod_bool hb t2
  simp at h0 h1 h2
  subst h0 h1 h2
  refine ⟨b0, b1, b2, ?_⟩
  match cs, hl with
  | [c0, c1, c2], _ => simp at e0 e1 e2; simp [e0, e1, e2]
theorem open_ints2 {k : IntKind} (ht : P.underlying t = some (.array 2 e)) (hc : P.cellsOf t = 2) (he : P.cellsOf e = 1) (hb : P.underlying e = some (.int k)) (h : DataW.trod enc P w base spare held fuel t cs = some x) :
    ∃ b0 b1 : Int, cs = [.int k b0, .int k b1] ∧ (Lit.int k b0).wf = true ∧ (Lit.int k b1).wf = true := by
  obtain ⟨hl, hi⟩ := trod_cells ht hc he h
  obtain ⟨_, _, v0, e0, t0⟩ := hi 0 (by omega)
  obtain ⟨_, _, v1, e1, t1⟩ := hi 1 (by omega)
  obtain ⟨b0, h0, _, w0⟩ := DataW.trod_int hb t0
  obtain ⟨b1, h1, _, w1⟩ := DataW.trod_int hb t1
  simp at h0 h1
  subst h0 h1
  refine ⟨b0, b1, ?_, w0, w1⟩
  match cs, hl with
  | [c0, c1], _ => simp at e0 e1; simp [e0, e1]
end
def SB (w w' : World) : Prop := Below w.heap.size w w' ∧ w.heap.size < w'.heap.size
def HS (w : World) (b0 b1 b2 : Bool) (w' : World) : Prop :=
  w'.cell? ⟨w.heap.size, 0, none⟩ = some (.bool b0) ∧ w'.cell? ⟨w.heap.size, 1, none⟩ = some (.bool b1) ∧ w'.cell? ⟨w.heap.size, 2, none⟩ = some (.bool b2) ∧ SB w w'
theorem HS.drewN {w w1 : World} {b0 b1 b2 : Bool} (h : HS w b0 b1 b2 w1) (n : Nat) : HS w b0 b1 b2 (w1.drewN n) := ⟨h.1, h.2.1, h.2.2.1, pw_below_drewN h.2.2.2.1 n, h.2.2.2.2⟩
theorem HS.below {w w1 w2 : World} {b0 b1 b2 : Bool} (h : HS w b0 b1 b2 w1) (hb : Below w1.heap.size w1 w2) : HS w b0 b1 b2 w2 := by
  have hl := h.2.2.2.2
  exact ⟨(hb.cell (p := ⟨w.heap.size, 0, none⟩) hl).trans h.1, (hb.cell (p := ⟨w.heap.size, 1, none⟩) hl).trans h.2.1, (hb.cell (p := ⟨w.heap.size, 2, none⟩) hl).trans h.2.2.1,
    below_then h.2.2.2.1 (Nat.le_of_lt hl) hb, Nat.lt_of_lt_of_le hl hb.size⟩
theorem HS.start (w : World) (b0 b1 b2 : Bool) : HS w b0 b1 b2 (w.alloc (.cells #[.bool b0, .bool b1, .bool b2] 29)) := by
  refine ⟨?_, ?_, ?_, ⟨((Below.refl _ _).alloc (Nat.le_refl _) _), by simp⟩⟩ <;> simp [go_sem]
theorem HS.drew {w w1 : World} {b0 b1 b2 : Bool} (h : HS w b0 b1 b2 w1) : HS w b0 b1 b2 w1.drew := ⟨h.1, h.2.1, h.2.2.1, below_drew h.2.2.2.1, h.2.2.2.2⟩
theorem HS.sb {w w1 : World} {b0 b1 b2 : Bool} (h : HS w b0 b1 b2 w1) : Below w.heap.size w w1 := h.2.2.2.1

theorem make1 (e s : Int) : (tid_Make.f e s = some (0, 1)) ∨ (0 ≤ e ∧ e < 1048576 ∧ 0 ≤ s ∧ s < 1048576 ∧ tid_Make.f e s = some (e * 8388608 + s * 8, 0)) := by
  unfold tid_Make.f
  by_cases h1 : e < 0
  · exact .inl (by rw [if_pos h1])
  by_cases h2 : e ≥ 1048576
  · exact .inl (by rw [if_neg h1, if_pos h2])
  by_cases h3 : s < 0
  · exact .inl (by rw [if_neg h1, if_neg h2, if_pos h3])
  by_cases h4 : s ≥ 1048576
  · exact .inl (by rw [if_neg h1, if_neg h2, if_neg h3, if_pos h4])
  refine .inr ⟨by omega, by omega, by omega, by omega, ?_⟩
  rw [if_neg h1, if_neg h2, if_neg h3, if_neg h4, or_make e s (by omega) (by omega) (by omega) (by omega)]
theorem one_bd (a : Bool) : 0 ≤ one a ∧ one a ≤ 1 := by cases a <;> decide
theorem back (e s : Int) (h1 : 0 ≤ e) (h2 : e < 1048576) (h3 : 0 ≤ s) (h4 : s < 1048576) (a b c : Bool) :
    epW (withW (e * 8388608 + s * 8) a b c) = e ∧ sqW (withW (e * 8388608 + s * 8) a b c) = s ∧ lkW (withW (e * 8388608 + s * 8) a b c) = a ∧ abW (withW (e * 8388608 + s * 8) a b c) = b ∧
    ddW (withW (e * 8388608 + s * 8) a b c) = c ∧ lkW (plainW (withW (e * 8388608 + s * 8) a b c)) = false ∧ withW (withW (e * 8388608 + s * 8) a b c) false false false = e * 8388608 + s * 8 ∧
    -9223372036854775808 ≤ withW (e * 8388608 + s * 8) a b c ∧ withW (e * 8388608 + s * 8) a b c ≤ 9223372036854775807 := by
  have e0 : withW (e * 8388608 + s * 8) a b c = e * 8388608 + s * 8 + (one a + 2 * one b + 4 * one c) := by unfold withW; omega
  have ha := one_bd a
  have hb := one_bd b
  have hc := one_bd c
  have la : (one a == 1) = a := by cases a <;> rfl
  have lb : (one b == 1) = b := by cases b <;> rfl
  have lc : (one c == 1) = c := by cases c <;> rfl
  rw [e0]
  generalize one a = p at *
  generalize one b = q at *
  generalize one c = r at *
  refine ⟨?_, ?_, ?_, ?_, ?_, ?_, ?_, ?_, ?_⟩
  · unfold epW; omega
  · unfold sqW; omega
  · unfold lkW
    rw [show (e * 8388608 + s * 8 + (p + 2 * q + 4 * r)) % 2 = p from by omega]
    exact la
  · unfold abW
    rw [show (e * 8388608 + s * 8 + (p + 2 * q + 4 * r)) / 2 % 2 = q from by omega]
    exact lb
  · unfold ddW
    rw [show (e * 8388608 + s * 8 + (p + 2 * q + 4 * r)) / 4 % 2 = r from by omega]
    exact lc
  · unfold lkW plainW
    rw [show (e * 8388608 + s * 8 + (p + 2 * q + 4 * r) - (e * 8388608 + s * 8 + (p + 2 * q + 4 * r)) % 2) % 2 = 0 from by omega]
    rfl
  · unfold withW; simp only [one, Bool.false_eq_true, if_false]; omega
  · omega
  · omega

set_option maxHeartbeats 4000000 in
set_option maxRecDepth 100000 in
theorem back_no (x y : Int) (b0 b1 b2 : Bool) (w : World) (h : tid_Make.f x y = some (0, 1)) :
    Calls Try.prog 6 #[.int .i64 x, .int .i64 y, .agg #[.bool b0, .bool b1, .bool b2]] w fun e w' => e = .returned (.bool true) ∧ Below w.heap.size w w' := by
  have H1 := Aside0.mk h
  clear h
  have HB := Aside0.mk ((Below.refl w.heap.size w).alloc (Nat.le_refl _) (.cells #[.bool b0, .bool b1, .bool b2] 29))
  go_enter Try.func6, Try.ntmps6
  go_wp2_with (first | (go_at_call 8; refine (tid_Make.calls _ _ _ _ _ H1.out).mono ?_; rintro e w' ⟨rfl, ⟨nd, rfl⟩⟩) | (go_at_call 10; refine (transomlaw15_awake.calls 8 _ _ awake_ok).mono ?_; rintro e w' ⟨rfl, hb⟩))
  go_ret
  rename_i hb
  exact ⟨rfl, below_then (pw_below_drewN HB.out _) (by simp) hb⟩
set_option maxHeartbeats 8000000 in
set_option maxRecDepth 100000 in
theorem back_yes (x y : Int) (b0 b1 b2 : Bool) (w : World) (g1 : 0 ≤ x) (g2 : x < 1048576) (g3 : 0 ≤ y) (g4 : y < 1048576) (h : tid_Make.f x y = some (x * 8388608 + y * 8, 0)) :
    Calls Try.prog 6 #[.int .i64 x, .int .i64 y, .agg #[.bool b0, .bool b1, .bool b2]] w fun e w' => e = .returned (.bool true) ∧ Below w.heap.size w w' := by
  have w1 := with1 0 (x * 8388608 + y * 8) (by omega) (by omega) b0 b1 b2
  obtain ⟨k1, k2, k3, k4, k5, k6, k7, k8, k9⟩ := back x y g1 g2 g3 g4 b0 b1 b2
  have w2 := with1 0 _ k8 k9 false false false
  have p1 := plain1 _ k8 k9
  have e1 := ep1 (withW (x * 8388608 + y * 8) b0 b1 b2)
  have s1 := sq1 (withW (x * 8388608 + y * 8) b0 b1 b2)
  have l1 := lk1 (withW (x * 8388608 + y * 8) b0 b1 b2)
  have a1 := ab1 (withW (x * 8388608 + y * 8) b0 b1 b2)
  have d1 := dd1 (withW (x * 8388608 + y * 8) b0 b1 b2)
  have l2 := lk1 (plainW (withW (x * 8388608 + y * 8) b0 b1 b2))
  rw [k1] at e1
  rw [k2] at s1
  rw [k3] at l1
  rw [k4] at a1
  rw [k5] at d1
  rw [k6] at l2
  rw [k7] at w2
  generalize plainW (withW (x * 8388608 + y * 8) b0 b1 b2) = pl at *
  generalize withW (x * 8388608 + y * 8) b0 b1 b2 = v at *
  generalize x * 8388608 + y * 8 = u at *
  have H0 := Aside0.mk h
  have HW1 := Aside0.mk w1
  have HW2 := Aside0.mk w2
  have HP := Aside0.mk p1
  have HE := Aside0.mk e1
  have HS_ := Aside0.mk s1
  have HL := Aside0.mk l1
  have HA := Aside0.mk a1
  have HD := Aside0.mk d1
  have HL2 := Aside0.mk l2
  have HB := Aside0.mk (HS.start w b0 b1 b2)
  clear h w1 w2 p1 e1 s1 l1 a1 d1 l2 k1 k2 k3 k4 k5 k6 k7 k8 k9 g1 g2 g3 g4
  go_enter Try.func6, Try.ntmps6
  go_wp2_with (first | (go_at_call 8; refine (tid_Make.calls _ _ _ _ _ H0.out).mono ?_; rintro e w' ⟨rfl, ⟨nd, rfl⟩⟩) | (go_at_call 21; refine (tid_With.calls 2 _ _ _ _ _ _ HW1.out).mono ?_; rintro e w' ⟨rfl, ⟨nd, rfl⟩⟩))
  have hnot : ∀ (x : Bool) (w : World), (Op.unary .not (.bool x)).run Try.prog w = .ok (.bool (!x)) w := fun _ _ => rfl
  go_region_held3 (fun w' => w'.cell? ⟨w.heap.size, 0, none⟩ = some (.bool b0) ∧ w'.cell? ⟨w.heap.size, 1, none⟩ = some (.bool b1) ∧ w'.cell? ⟨w.heap.size, 2, none⟩ = some (.bool b2) ∧ SB w w')
    (first | (show HS w b0 b1 b2 _; first | exact (HB.out.drewN _).drew | exact HB.out.drewN _ | exact (HB.out.drewN _).drewN _ | exact HS.below (by assumption) (by assumption) | exact HS.drewN (by assumption) _))
    (first | (go_at_call 11; refine (tid_Epoch.calls _ _ _ HE.out).mono ?_; rintro e w' ⟨rfl, ⟨nd, rfl⟩⟩) | (go_at_call 13; refine (tid_Seq.calls _ _ _ HS_.out).mono ?_; rintro e w' ⟨rfl, ⟨nd, rfl⟩⟩) | (go_at_call_of 15 v; refine (tid_Locked.calls _ _ _ HL.out).mono ?_; rintro e w' ⟨rfl, ⟨nd, rfl⟩⟩) | (go_at_call_of 15 pl; refine (tid_Locked.calls _ _ _ HL2.out).mono ?_; rintro e w' ⟨rfl, ⟨nd, rfl⟩⟩) | (go_at_call 17; refine (tid_Absent.calls _ _ _ HA.out).mono ?_; rintro e w' ⟨rfl, ⟨nd, rfl⟩⟩) | (go_at_call 19; refine (tid_Dead.calls _ _ _ HD.out).mono ?_; rintro e w' ⟨rfl, ⟨nd, rfl⟩⟩) | (go_at_call 23; refine (tid_Plain.calls _ _ _ HP.out).mono ?_; rintro e w' ⟨rfl, ⟨nd, rfl⟩⟩) | (go_at_call 21; refine (tid_With.calls 2 _ _ _ _ _ _ HW2.out).mono ?_; rintro e w' ⟨rfl, ⟨nd, rfl⟩⟩) | (go_at_call 10; refine (transomlaw15_awake.calls 8 _ _ awake_ok).mono ?_; rintro e w' ⟨rfl, hb⟩))
  all_goals (go_wp2_with fail)
  go_ret
  refine ⟨rfl, HS.sb (w := w) (b0 := b0) (b1 := b1) (b2 := b2) ?_⟩
  assumption
theorem back_walk (x y : Int) (b0 b1 b2 : Bool) (w : World) :
    Calls Try.prog 6 #[.int .i64 x, .int .i64 y, .agg #[.bool b0, .bool b1, .bool b2]] w fun e w' => e = .returned (.bool true) ∧ Below w.heap.size w w' := by
  rcases make1 x y with h | ⟨g1, g2, g3, g4, h⟩
  · exact back_no x y b0 b1 b2 w h
  · exact back_yes x y b0 b1 b2 w g1 g2 g3 g4 h

theorem own : ownKnob Try.prog.godebug = none := by kernel_rfl
theorem laidOut : laidOutB Try.prog = true := by kernel_rfl
set_option maxRecDepth 100000 in
theorem lifted (os : Os) (started : os.Started) (H : Type) (enc : TypeId × Value → H) :
    ReturnsInHanded {} Try.checked os 6 .any (Rows.tidBackSpec.pre6 enc Try.prog Try.f6 Rows.tidBackRow.domain false) (Rows.tidBackSpec.post enc Try.prog Try.f6 false true false false) := by
  refine returnsInHanded_of_change_sized (C := Try.checked) own started (by kernel_rfl) Try.func6
    (ChangeSpec.witness6 (enc := enc) (C := Try.checked) false ⟨#[], #[.int .i64 0, .int .i64 0, .agg #[.bool false, .bool false, .bool false]], []⟩ 8 (by kernel_rfl) (by kernel_rfl) (by kernel_rfl) (by kernel_rfl)) ?_
  intro W base args ds gs before hval0 hW hcnd hsz0 _
  have hsz : (DataW.weightsEach Try.prog (Try.f6.params.toList ++ Rows.tidBackSpec.plain.varTypes Try.prog) (ds ++ gs)).all (· ≤ reachBytes) = true := hsz0
  have hval : ∀ (j : Nat) t v, Try.f6.params[j]? = some t → args[j]? = some v → Value.okWide Try.prog W .any base t v := hval0
  have hW' := hW
  obtain ⟨p, q, hA0, hV, rfl, hfz, hnd⟩ := hW
  have hA : DataW.TrodAll enc Try.prog W 0 (fun _ => true) true Try.f6.params.toList args.toList ds p := hA0
  rw [Try.params6] at hA hval hsz
  obtain ⟨v0, vs0, d0, ds0, p0, q0, hargs, rfl, rfl, h0, r0⟩ := trodAll_cons hA
  obtain ⟨v1, vs1, d1, ds1, p1, q1, rfl, rfl, rfl, h1, r1⟩ := trodAll_cons r0
  obtain ⟨v2, vs2, d2, ds2, p2, q2, rfl, rfl, rfl, h2, r2⟩ := trodAll_cons r1
  obtain ⟨rfl, rfl, rfl⟩ := trodAll_nil r2
  obtain rfl : args = #[v0, v1, v2] := by cases args; simp_all
  obtain ⟨rfl, rfl⟩ := trodVars_none hV
  have k0 := h0
  have lt0 : ∀ x ∈ p0, x.block < W.heap.size := by obtain ⟨m, hm⟩ := k0; exact DataW.trod_lt m _ _ _ hm
  have k1 := h1
  have lt1 : ∀ x ∈ p1, x.block < W.heap.size := by obtain ⟨m, hm⟩ := k1; exact DataW.trod_lt m _ _ _ hm
  have k2 := h2
  have lt2 : ∀ x ∈ p2, x.block < W.heap.size := by obtain ⟨m, hm⟩ := k2; exact DataW.trod_lt m _ _ _ hm
  obtain ⟨a0, rfl, rfl, rfl, w0⟩ := open_int Try.underlying3 (hval 0 3 v0 rfl rfl) h0
  obtain ⟨a1, rfl, rfl, rfl, w1⟩ := open_int Try.underlying3 (hval 1 3 v1 rfl rfl) h1
  obtain ⟨b0, b1, b2, rfl⟩ : ∃ b0 b1 b2 : Bool, v2 = .agg #[.bool b0, .bool b1, .bool b2] := by
    obtain ⟨cs, rfl, _⟩ := okWide_array Try.underlying29 (hval 2 29 v2 rfl rfl)
    obtain ⟨fuel, hf⟩ := h2
    obtain ⟨b0, b1, b2, hcs⟩ := open_bools3 Try.underlying29 (by kernel_rfl) (by kernel_rfl) Try.underlying4 hf
    refine ⟨b0, b1, b2, ?_⟩
    rw [show cs = #[.bool b0, .bool b1, .bool b2] from by cases cs; simpa [Value.cells] using hcs]
  clear hA0 hval0 hsz0 hsz
  refine (back_walk a0 a1 b0 b1 b2 W).mono fun e W' ⟨he, bel⟩ => ?_
  subst he
  exact ⟨_, rfl, _, _, _, [], _, [], hW', trodAll_mk1 (shut_bool Try.underlying4 _), (trodAll_cons_mk (shut_int Try.underlying3 w0) (trodAll_cons_mk (shut_int Try.underlying3 w1) (trodAll_cons_mk (Below.trod laidOut (by kernel_rfl) (of_decide_eq_true (by kernel_rfl)) k2 bel lt2) trodAll_mk0))), rfl, bel.frame _, fun h => by cases h⟩
theorem over : Rows.tidBackRow.holds Try.pinned (OpenSpec.ofChange Rows.tidBackSpec) :=
  OpenClaim.holds_of_wide 6 Try.f6 rfl rfl rfl rfl rfl rfl rfl ⟨rfl, rfl, rfl, rfl, rfl⟩ rfl rfl rfl rfl rfl (by kernel_rfl) Try.func6 (by kernel_rfl)
    (of_decide_eq_true (by kernel_rfl)) (by unfold Func.isWrapper; first | (rw [if_pos (by decide +kernel)]; kernel_rfl) | (rw [if_neg (by decide +kernel)]; exact ⟨rfl, rfl⟩))
    (fun os started H enc _ => lifted os started H enc)
end Go.Proofs.Ytjfilonjmpfkfaa.LawTidBack
namespace Go.Proofs.Ytjfilonjmpfkfaa
/-- The row. -/
theorem tidBack_holds : Rows.TidBackSaid := LawTidBack.over
end Go.Proofs.Ytjfilonjmpfkfaa
