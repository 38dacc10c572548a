/- SpaceReads: what any key is about, or that it is none, is what the reference says: for every text. No condition. -/
import Derived.Test.YtahomibcpkgphaaQSpaceReadsx4
import Derived.Laws.BitsAllLaws
import Derived.Laws.BitsLemmas
import Derived.Lib.Strings
set_option linter.unusedVariables false
set_option linter.unusedSimpArgs false
namespace Go.Proofs.Ytahomibcpkgphaa.Pure
open Go Go.RowKit Go.Proofs.Ytahomibcpkgphaa.PSpaceReads Go.Proofs.YtahomibcpkgphaaW.PrintWords Go.Proofs.YtahomibcpkgphaaW.PrintLast


theorem tl (s : ByteArray) : s.toList = s.data.toList := Lib.toList_data s
theorem tl_nil (s : ByteArray) : s.toList = ([] : List UInt8) ↔ s.size = 0 := by
  rw [tl]
  constructor
  · intro h
    have : s.data.toList.length = 0 := by rw [h]; rfl
    simpa using this
  · intro h
    have : s.data.toList.length = 0 := by simpa using h
    exact List.length_eq_zero_iff.1 this
theorem bt_bd (s : ByteArray) (i : Int) : 0 ≤ bt s i ∧ bt s i ≤ 255 := bt_range s i
theorem ext_size (s : ByteArray) (a : Nat) : (s.extract a s.size).size = s.size - a := by simp
theorem ext_ext (s : ByteArray) (h : 3 ≤ s.size) : (s.extract 3 s.size).extract 1 (s.extract 3 s.size).size = s.extract 4 s.size := by
  apply ByteArray.ext
  apply Array.ext'
  rw [ext_size]
  simp only [ByteArray.data_extract, Array.toList_extract, List.extract_eq_take_drop]
  rw [List.drop_take, List.take_take, List.drop_drop]
  congr 1
  omega
theorem bt_ext (s : ByteArray) (h : 3 < s.size) : bt (s.extract 3 s.size) 0 = bt s 3 := by
  unfold bt
  have h1 : (0 : Int).toNat < (s.extract 3 s.size).size := by rw [ext_size]; show 0 < _; omega
  have h2 : (3 : Int).toNat < s.size := h
  rw [dif_pos h1, dif_pos h2]
  congr 2
  simp only [Int.toNat_zero, ByteArray.getElem_extract, Nat.add_zero]
  rfl
theorem or_two (x y : Int) (h1 : 0 ≤ x ∧ x ≤ 255) (h2 : 0 ≤ y ∧ y ≤ 255) : Go.bits .or .i64 (wrap64 (wrap64 x * 256)) (wrap64 y) = x * 256 + y := by
  have w1 : wrap64 (wrap64 x * 256) = x * 256 := by unfold wrap64; omega
  have w2 : wrap64 y = y := by unfold wrap64; omega
  have u : ∀ x : Int, (BitVec.ofInt 64 x).toNat = (x % 18446744073709551616).toNat := fun x => by simp [BitVec.toNat_ofInt]
  rw [w1, w2]
  show IntKind.i64.wrap (((BitVec.ofInt 64 (x * 256) ||| BitVec.ofInt 64 y).toNat : Nat) : Int) = _
  rw [BitVec.toNat_or, u, u, nat_join 8 _ _ (by omega) (by omega), IntKind.wrap_i64]
  omega
theorem sum_two (x y : Int) (h1 : 0 ≤ x ∧ x ≤ 255) (h2 : 0 ≤ y ∧ y ≤ 255) : wrap64 (wrap64 (wrap64 x * 256) + wrap64 y) = x * 256 + y := by
  unfold wrap64; omega
theorem w_bt (s : ByteArray) (i : Int) : wrap64 (bt s i) = bt s i := by
  have := bt_range s i
  unfold wrap64; omega

theorem awake_ok : transomlaw25_awake.f 20 = some true := by kernel_rfl
theorem awake_any : ∀ k, transomlaw25_awake.f (k + 20) = some true
  | 0 => awake_ok
  | k + 1 => by rw [show k + 1 + 20 = (k + 20) + 1 from by omega]; exact transomlaw25_awake.mono _ _ (awake_any k)
theorem awake_ge (k : Nat) (h : 20 ≤ k) : transomlaw25_awake.f k = some true := by
  obtain ⟨n, rfl⟩ : ∃ n, k = n + 20 := ⟨k - 20, by omega⟩
  exact awake_any n

theorem rread (k : Nat) (s : ByteArray) : transomref25_Read.f (k + 3) s = some (readS s) := by
  unfold transomref25_Read.f readS
  by_cases h0 : s.toList = ([0] : List UInt8)
  · rw [if_pos h0, if_pos h0]
  rw [if_neg h0, if_neg h0]
  by_cases h1 : s.size < 3
  · rw [if_pos (by omega), if_pos h1]
  rw [if_neg (by omega), if_neg h1]
  have c0 : 0 < (s.size : Int) := by omega
  have c0' : 0 < s.size := by omega
  have ne : ¬ s = ByteArray.empty := fun e => by rw [e] at c0'; exact absurd c0' (by decide)
  have c3 : 3 ≤ (s.size : Int) := by omega
  have hsum := sum_two (bt s 1) (bt s 2) (bt_range s 1) (bt_range s 2)
  rw [if_pos (by omega), if_pos (by omega), if_pos c0, hsum]
  by_cases b1 : bt s 0 = 1
  · rw [if_pos b1, if_neg (by omega), if_neg (by omega), if_pos b1]
    by_cases e3 : s.size = 3
    · have n3 : ((s.size : Int) == 3) = true := by simp; omega
      rw [if_pos e3, n3]; simp [ne, c0', transomref25_Read.j0]
    · have n3 : ((s.size : Int) == 3) = false := by simp; omega
      rw [if_neg e3, n3]; simp [ne, c0', transomref25_Read.j0, transomref25_Read.j1, b1, c0]
  rw [if_neg b1]
  by_cases b2 : bt s 0 = 2
  · rw [if_pos b2]
    by_cases e3 : s.size = 3
    · have x3 : (s.size : Int) = 3 := by omega
      rw [if_pos e3]; simp [ne, c0', transomref25_Read.j0, transomref25_Read.j1, b2, x3]
    · have g3 : 3 < (s.size : Int) := by omega
      have g4 : 4 ≤ (s.size : Int) := by omega
      rw [if_neg e3]; simp [ne, c0', transomref25_Read.j0, transomref25_Read.j1, b2, g3, g4, c0, w_bt]
  rw [if_neg b2]
  by_cases b3 : bt s 0 = 3
  · rw [if_pos b3]; simp [ne, c0', transomref25_Read.j0, transomref25_Read.j1, b3, c0, c3]
  · rw [if_neg b3, if_neg b1]; simp [ne, c0', transomref25_Read.j0, transomref25_Read.j1, b2, b3, c0]
theorem SpaceReads : transomlaw25_SpaceReads.Pure := by
  intro s hs
  refine ⟨20, ?_⟩
  unfold transomlaw25_SpaceReads.f
  rw [awake_ok]
  by_cases h : (s.size : Int) > 1000
  · rw [if_pos h]; rfl
  · rw [if_neg h, rread 17 s]
    show ((some (readS s)).bind _) = _
    simp

end Go.Proofs.Ytahomibcpkgphaa.Pure
