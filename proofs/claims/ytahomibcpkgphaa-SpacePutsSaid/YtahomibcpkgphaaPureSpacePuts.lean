/- SpacePuts: all keys of any numbers are those of the reference. No condition. -/
import Derived.Test.YtahomibcpkgphaaQSpacePutsx4
import Derived.Laws.BitsAllLaws
import Derived.Laws.BitsLemmas
import Derived.Lib.Strings
set_option linter.unusedVariables false
set_option linter.unusedSimpArgs false
namespace Go.Proofs.Ytahomibcpkgphaa.Pure
open Go Go.RowKit Go.Proofs.Ytahomibcpkgphaa.PSpacePuts Go.Proofs.YtahomibcpkgphaaW.PrintWords Go.Proofs.YtahomibcpkgphaaW.PrintLast


theorem tl (s : ByteArray) : s.toList = s.data.toList := Lib.toList_data s
theorem tl_nil (s : ByteArray) : s.toList = ([] : List UInt8) ↔ s.size = 0 := by
  rw [tl]
  constructor
  · intro h
    have : s.data.toList.length = 0 := by rw [h]; rfl
    simpa using this
  · intro h
    have : s.data.toList.length = 0 := by simpa using h
    exact List.length_eq_zero_iff.1 this
theorem bt_bd (s : ByteArray) (i : Int) : 0 ≤ bt s i ∧ bt s i ≤ 255 := bt_range s i
theorem ext_size (s : ByteArray) (a : Nat) : (s.extract a s.size).size = s.size - a := by simp
theorem ext_ext (s : ByteArray) (h : 3 ≤ s.size) : (s.extract 3 s.size).extract 1 (s.extract 3 s.size).size = s.extract 4 s.size := by
  apply ByteArray.ext
  apply Array.ext'
  rw [ext_size]
  simp only [ByteArray.data_extract, Array.toList_extract, List.extract_eq_take_drop]
  rw [List.drop_take, List.take_take, List.drop_drop]
  congr 1
  omega
theorem bt_ext (s : ByteArray) (h : 3 < s.size) : bt (s.extract 3 s.size) 0 = bt s 3 := by
  unfold bt
  have h1 : (0 : Int).toNat < (s.extract 3 s.size).size := by rw [ext_size]; show 0 < _; omega
  have h2 : (3 : Int).toNat < s.size := h
  rw [dif_pos h1, dif_pos h2]
  congr 2
  simp only [Int.toNat_zero, ByteArray.getElem_extract, Nat.add_zero]
  rfl
theorem or_two (x y : Int) (h1 : 0 ≤ x ∧ x ≤ 255) (h2 : 0 ≤ y ∧ y ≤ 255) : Go.bits .or .i64 (wrap64 (wrap64 x * 256)) (wrap64 y) = x * 256 + y := by
  have w1 : wrap64 (wrap64 x * 256) = x * 256 := by unfold wrap64; omega
  have w2 : wrap64 y = y := by unfold wrap64; omega
  have u : ∀ x : Int, (BitVec.ofInt 64 x).toNat = (x % 18446744073709551616).toNat := fun x => by simp [BitVec.toNat_ofInt]
  rw [w1, w2]
  show IntKind.i64.wrap (((BitVec.ofInt 64 (x * 256) ||| BitVec.ofInt 64 y).toNat : Nat) : Int) = _
  rw [BitVec.toNat_or, u, u, nat_join 8 _ _ (by omega) (by omega), IntKind.wrap_i64]
  omega
theorem sum_two (x y : Int) (h1 : 0 ≤ x ∧ x ≤ 255) (h2 : 0 ≤ y ∧ y ≤ 255) : wrap64 (wrap64 (wrap64 x * 256) + wrap64 y) = x * 256 + y := by
  unfold wrap64; omega
theorem w_bt (s : ByteArray) (i : Int) : wrap64 (bt s i) = bt s i := by
  have := bt_range s i
  unfold wrap64; omega

theorem awake_ok : transomlaw25_awake.f 20 = some true := by kernel_rfl
theorem awake_any : ∀ k, transomlaw25_awake.f (k + 20) = some true
  | 0 => awake_ok
  | k + 1 => by rw [show k + 1 + 20 = (k + 20) + 1 from by omega]; exact transomlaw25_awake.mono _ _ (awake_any k)
theorem awake_ge (k : Nat) (h : 20 ≤ k) : transomlaw25_awake.f k = some true := by
  obtain ⟨n, rfl⟩ : ∃ n, k = n + 20 := ⟨k - 20, by omega⟩
  exact awake_any n

theorem son_append (xs ys : List Int) : strOfNums (xs ++ ys) = strOfNums xs ++ strOfNums ys := by
  apply ByteArray.ext
  simp [strOfNums]
theorem son_bytesOf (s : ByteArray) : strOfNums (bytesOf s) = s := by
  apply ByteArray.ext
  apply Array.ext'
  show ((bytesOf s).map fun n => UInt8.ofNat n.toNat).toArray.toList = s.data.toList
  simp [bytesOf, Function.comp_def]
theorem son_one (x : UInt8) : (⟨#[x]⟩ : ByteArray) = strOfNums [(x.toNat : Int)] := by
  apply ByteArray.ext
  simp [strOfNums]
def two (n : Int) : List Int := [n / 256 % 256, n % 256]
def noteS (n : Int) : ByteArray := strOfNums (1 :: two n)
def rowS (n : Int) (key : ByteArray) : ByteArray := strOfNums (3 :: two n) ++ key
def bitS (n side : Int) (key : ByteArray) : ByteArray := strOfNums (2 :: (two n ++ [side % 256])) ++ key
theorem note1 (n : Int) : space_Note.f n = some (noteS n) := rfl
theorem row1 (n : Int) (key : ByteArray) (h : key.size ≤ 1000) : space_Row.f n key = some (rowS n key) := by
  unfold space_Row.f space_head.f
  simp only [Option.bind_some]
  rw [if_pos (by simp only [List.length_cons, List.length_nil]; omega), son_append, son_bytesOf]
  rfl

theorem note2 (n : Int) : transomref25_Note.f n = some (noteS n) := by
  unfold transomref25_Note.f transomref25_two.f
  simp only [Option.bind_some, strOfNums_size]
  rw [if_pos (by simp), son_one, ← son_append]
  rfl
theorem row2 (n : Int) (key : ByteArray) (h : key.size ≤ 1000) : transomref25_Row.f n key = some (rowS n key) := by
  unfold transomref25_Row.f transomref25_two.f
  simp only [Option.bind_some]
  rw [son_one, ← son_append, if_pos (by simp [strOfNums_size]), if_pos (by simp only [strOfNums_size, List.length_append, List.length_cons, List.length_nil]; omega)]
  rfl

theorem bit1 (n side : Int) (key : ByteArray) (h : key.size ≤ 1000) : space_Bit.f n side key = some (bitS n side key) := by
  unfold space_Bit.f space_head.f
  simp only [Option.bind_some]
  rw [if_pos (by simp), if_pos (by simp only [List.length_append, List.length_cons, List.length_nil]; omega), son_append, son_bytesOf]
  rfl

theorem bit2 (n side : Int) (key : ByteArray) (h : key.size ≤ 1000) : transomref25_Bit.f n side key = some (bitS n side key) := by
  unfold transomref25_Bit.f transomref25_two.f
  simp only [Option.bind_some]
  rw [son_one, ← son_append, ← son_append, if_pos (by simp [strOfNums_size]), if_pos (by simp [strOfNums_size]), if_pos (by simp only [strOfNums_size, List.length_append, List.length_cons, List.length_nil]; omega)]
  rfl

theorem SpacePuts : transomlaw25_SpacePuts.Pure := by
  intro n side key _ _ hs
  refine ⟨20, ?_⟩
  unfold transomlaw25_SpacePuts.f
  rw [awake_ok]
  by_cases h : (key.size : Int) > 1000
  · rw [if_pos h]; rfl
  · rw [if_neg h, note1, note2, bit1 n side key (by omega), bit2 n side key (by omega), row1 n key (by omega), row2 n key (by omega)]
    simp only [Option.bind_some, if_true, show space_Catalog.f = some ⟨#[0]⟩ from rfl, show transomref25_Catalog.f = some ⟨#[0]⟩ from rfl]

end Go.Proofs.Ytahomibcpkgphaa.Pure
