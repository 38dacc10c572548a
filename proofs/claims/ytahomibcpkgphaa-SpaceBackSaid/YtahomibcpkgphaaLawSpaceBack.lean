/- SpaceBack: keys of numbers that may be are about these; keys of two tables are unlike, and no row is a note. No condition. -/
import Derived.Test.YtahomibcpkgphaaQSpaceBackx
import Derived.Laws.BitsAllLaws
import Derived.Laws.BitsLemmas
import Derived.Lib.Strings
import Derived.WalkKit
import Derived.WalkLawsBesides
import Derived.Deep.RegionHeld3
import Derived.Deep.QuietTactic
import Derived.BigQuiet
set_option linter.unusedVariables false
set_option linter.unusedSimpArgs false
namespace Go.Proofs.Ytahomibcpkgphaa.LawSpaceBack
open Go Go.RowKit Go.Proofs.Ytahomibcpkgphaa.PSpaceBack Go.Proofs.YtahomibcpkgphaaW.PrintWords Go.Proofs.YtahomibcpkgphaaW.PrintLast


theorem tl (s : ByteArray) : s.toList = s.data.toList := Lib.toList_data s
theorem tl_nil (s : ByteArray) : s.toList = ([] : List UInt8) ↔ s.size = 0 := by
  rw [tl]
  constructor
  · intro h
    have : s.data.toList.length = 0 := by rw [h]; rfl
    simpa using this
  · intro h
    have : s.data.toList.length = 0 := by simpa using h
    exact List.length_eq_zero_iff.1 this
theorem bt_bd (s : ByteArray) (i : Int) : 0 ≤ bt s i ∧ bt s i ≤ 255 := bt_range s i
theorem ext_size (s : ByteArray) (a : Nat) : (s.extract a s.size).size = s.size - a := by simp
theorem ext_ext (s : ByteArray) (h : 3 ≤ s.size) : (s.extract 3 s.size).extract 1 (s.extract 3 s.size).size = s.extract 4 s.size := by
  apply ByteArray.ext
  apply Array.ext'
  rw [ext_size]
  simp only [ByteArray.data_extract, Array.toList_extract, List.extract_eq_take_drop]
  rw [List.drop_take, List.take_take, List.drop_drop]
  congr 1
  omega
theorem bt_ext (s : ByteArray) (h : 3 < s.size) : bt (s.extract 3 s.size) 0 = bt s 3 := by
  unfold bt
  have h1 : (0 : Int).toNat < (s.extract 3 s.size).size := by rw [ext_size]; show 0 < _; omega
  have h2 : (3 : Int).toNat < s.size := h
  rw [dif_pos h1, dif_pos h2]
  congr 2
  simp only [Int.toNat_zero, ByteArray.getElem_extract, Nat.add_zero]
  rfl
theorem or_two (x y : Int) (h1 : 0 ≤ x ∧ x ≤ 255) (h2 : 0 ≤ y ∧ y ≤ 255) : Go.bits .or .i64 (wrap64 (wrap64 x * 256)) (wrap64 y) = x * 256 + y := by
  have w1 : wrap64 (wrap64 x * 256) = x * 256 := by unfold wrap64; omega
  have w2 : wrap64 y = y := by unfold wrap64; omega
  have u : ∀ x : Int, (BitVec.ofInt 64 x).toNat = (x % 18446744073709551616).toNat := fun x => by simp [BitVec.toNat_ofInt]
  rw [w1, w2]
  show IntKind.i64.wrap (((BitVec.ofInt 64 (x * 256) ||| BitVec.ofInt 64 y).toNat : Nat) : Int) = _
  rw [BitVec.toNat_or, u, u, nat_join 8 _ _ (by omega) (by omega), IntKind.wrap_i64]
  omega
theorem sum_two (x y : Int) (h1 : 0 ≤ x ∧ x ≤ 255) (h2 : 0 ≤ y ∧ y ≤ 255) : wrap64 (wrap64 (wrap64 x * 256) + wrap64 y) = x * 256 + y := by
  unfold wrap64; omega
theorem w_bt (s : ByteArray) (i : Int) : wrap64 (bt s i) = bt s i := by
  have := bt_range s i
  unfold wrap64; omega

theorem awake_ok : transomlaw25_awake.f 20 = some true := by kernel_rfl
theorem awake_any : ∀ k, transomlaw25_awake.f (k + 20) = some true
  | 0 => awake_ok
  | k + 1 => by rw [show k + 1 + 20 = (k + 20) + 1 from by omega]; exact transomlaw25_awake.mono _ _ (awake_any k)
theorem awake_ge (k : Nat) (h : 20 ≤ k) : transomlaw25_awake.f k = some true := by
  obtain ⟨n, rfl⟩ : ∃ n, k = n + 20 := ⟨k - 20, by omega⟩
  exact awake_any n

theorem son_append (xs ys : List Int) : strOfNums (xs ++ ys) = strOfNums xs ++ strOfNums ys := by
  apply ByteArray.ext
  simp [strOfNums]
theorem son_bytesOf (s : ByteArray) : strOfNums (bytesOf s) = s := by
  apply ByteArray.ext
  apply Array.ext'
  show ((bytesOf s).map fun n => UInt8.ofNat n.toNat).toArray.toList = s.data.toList
  simp [bytesOf, Function.comp_def]
theorem son_one (x : UInt8) : (⟨#[x]⟩ : ByteArray) = strOfNums [(x.toNat : Int)] := by
  apply ByteArray.ext
  simp [strOfNums]
def two (n : Int) : List Int := [n / 256 % 256, n % 256]
def noteS (n : Int) : ByteArray := strOfNums (1 :: two n)
def rowS (n : Int) (key : ByteArray) : ByteArray := strOfNums (3 :: two n) ++ key
def bitS (n side : Int) (key : ByteArray) : ByteArray := strOfNums (2 :: (two n ++ [side % 256])) ++ key
theorem note1 (n : Int) : space_Note.f n = some (noteS n) := rfl
theorem row1 (n : Int) (key : ByteArray) (h : key.size ≤ 1000) : space_Row.f n key = some (rowS n key) := by
  unfold space_Row.f space_head.f
  simp only [Option.bind_some]
  rw [if_pos (by simp only [List.length_cons, List.length_nil]; omega), son_append, son_bytesOf]
  rfl

theorem bit1 (n side : Int) (key : ByteArray) (h : key.size ≤ 1000) : space_Bit.f n side key = some (bitS n side key) := by
  unfold space_Bit.f space_head.f
  simp only [Option.bind_some]
  rw [if_pos (by simp), if_pos (by simp only [List.length_append, List.length_cons, List.length_nil]; omega), son_append, son_bytesOf]
  rfl

theorem app_size (xs : List Int) (key : ByteArray) : (strOfNums xs ++ key).size = xs.length + key.size := by rw [ByteArray.size_append, strOfNums_size]
theorem app_bt (xs : List Int) (key : ByteArray) (i : Nat) (h : i < xs.length) (hb : 0 ≤ xs[i] ∧ xs[i] ≤ 255) : bt (strOfNums xs ++ key) i = xs[i] := by
  unfold bt
  have h' : (i : Int).toNat < (strOfNums xs ++ key).size := by rw [app_size]; simp; omega
  rw [dif_pos h']
  have e : (strOfNums xs ++ key)[(i : Int).toNat]'h' = UInt8.ofNat (xs[i]).toNat := by
    have h2 : (i : Int).toNat < (strOfNums xs).size := by rw [strOfNums_size]; simpa using h
    rw [ByteArray.getElem_append_left h2]
    simp [strOfNums, ByteArray.getElem_eq_getElem_data]
  rw [e, UInt8.toNat_ofNat']
  omega
theorem app_tail (xs : List Int) (key : ByteArray) (k : Nat) (hk : xs.length = k) : (strOfNums xs ++ key).extract k (strOfNums xs ++ key).size = key := by
  subst hk
  apply ByteArray.ext
  apply Array.ext'
  rw [app_size]
  simp [strOfNums]
  rw [List.drop_eq_nil_of_le (by simp), List.take_nil, List.nil_append, List.take_of_length_le (by simp)]
theorem app_ne (xs : List Int) (key : ByteArray) (h : 2 ≤ xs.length) : ¬ (strOfNums xs ++ key).toList = ([0] : List UInt8) := by
  intro e
  have := congrArg List.length e
  rw [tl] at this
  simp [strOfNums] at this
  omega
theorem id_two (n : Int) (h0 : 0 ≤ n) (h1 : n < 65536) : n / 256 % 256 * 256 + n % 256 = n := by omega
theorem note_app (n : Int) : noteS n = strOfNums [1, n / 256 % 256, n % 256] ++ ⟨#[]⟩ := by
  apply ByteArray.ext
  simp [noteS, two]
theorem row_app (n : Int) (key : ByteArray) : rowS n key = strOfNums [3, n / 256 % 256, n % 256] ++ key := rfl
theorem bit_app (n side : Int) (key : ByteArray) : bitS n side key = strOfNums [2, n / 256 % 256, n % 256, side % 256] ++ key := rfl
theorem read_note (n : Int) (h0 : 0 ≤ n) (h1 : n < 65536) : readS (noteS n) = (2, n, 0, ⟨#[]⟩, true) := by
  rw [note_app]
  unfold readS
  have b0 : bt (strOfNums [1, n / 256 % 256, n % 256] ++ ⟨#[]⟩) 0 = 1 := app_bt [1, n / 256 % 256, n % 256] ⟨#[]⟩ 0 (by simp) (by simp)
  have b1 : bt (strOfNums [1, n / 256 % 256, n % 256] ++ ⟨#[]⟩) 1 = n / 256 % 256 := app_bt [1, n / 256 % 256, n % 256] ⟨#[]⟩ 1 (by simp) (by simp; omega)
  have b2 : bt (strOfNums [1, n / 256 % 256, n % 256] ++ ⟨#[]⟩) 2 = n % 256 := app_bt [1, n / 256 % 256, n % 256] ⟨#[]⟩ 2 (by simp) (by simp; omega)
  have sz : (strOfNums [1, n / 256 % 256, n % 256] ++ ⟨#[]⟩).size = 3 := by rw [app_size]; rfl
  rw [if_neg (app_ne _ _ (by simp)), sz, if_neg (by omega), b0, if_neg (by omega), if_neg (by omega), if_pos rfl, if_pos rfl, b1, b2, id_two n h0 h1]
theorem read_row (n : Int) (key : ByteArray) (h0 : 0 ≤ n) (h1 : n < 65536) : readS (rowS n key) = (4, n, 0, key, true) := by
  rw [row_app]
  unfold readS
  have b0 : bt (strOfNums [3, n / 256 % 256, n % 256] ++ key) 0 = 3 := app_bt [3, n / 256 % 256, n % 256] key 0 (by simp) (by simp)
  have b1 : bt (strOfNums [3, n / 256 % 256, n % 256] ++ key) 1 = n / 256 % 256 := app_bt [3, n / 256 % 256, n % 256] key 1 (by simp) (by simp; omega)
  have b2 : bt (strOfNums [3, n / 256 % 256, n % 256] ++ key) 2 = n % 256 := app_bt [3, n / 256 % 256, n % 256] key 2 (by simp) (by simp; omega)
  have sz : 3 ≤ (strOfNums [3, n / 256 % 256, n % 256] ++ key).size := by rw [app_size]; simp
  rw [if_neg (app_ne _ _ (by simp)), if_neg (by omega), b0, if_neg (by omega), if_pos rfl, b1, b2, id_two n h0 h1, app_tail _ _ 3 rfl]
theorem read_bit (n side : Int) (key : ByteArray) (h0 : 0 ≤ n) (h1 : n < 65536) (h2 : 0 ≤ side) (h3 : side ≤ 255) : readS (bitS n side key) = (3, n, side, key, true) := by
  rw [bit_app]
  unfold readS
  have b0 : bt (strOfNums [2, n / 256 % 256, n % 256, side % 256] ++ key) 0 = 2 := app_bt [2, n / 256 % 256, n % 256, side % 256] key 0 (by simp) (by simp)
  have b1 : bt (strOfNums [2, n / 256 % 256, n % 256, side % 256] ++ key) 1 = n / 256 % 256 := app_bt [2, n / 256 % 256, n % 256, side % 256] key 1 (by simp) (by simp; omega)
  have b2 : bt (strOfNums [2, n / 256 % 256, n % 256, side % 256] ++ key) 2 = n % 256 := app_bt [2, n / 256 % 256, n % 256, side % 256] key 2 (by simp) (by simp; omega)
  have b3 : bt (strOfNums [2, n / 256 % 256, n % 256, side % 256] ++ key) 3 = side := by
    have := app_bt [2, n / 256 % 256, n % 256, side % 256] key 3 (by simp) (by simp; omega)
    simp at this
    omega
  have sz : 4 ≤ (strOfNums [2, n / 256 % 256, n % 256, side % 256] ++ key).size := by rw [app_size]; simp
  rw [if_neg (app_ne _ _ (by simp)), if_neg (by omega), b0, if_pos rfl, if_neg (by omega), b1, b2, b3, id_two n h0 h1, app_tail _ _ 4 rfl]
theorem row_ne (n m : Int) (key : ByteArray) (h : n ≠ m) (a0 : 0 ≤ n) (a1 : n < 65536) (b0 : 0 ≤ m) (b1 : m < 65536) : ((rowS n key).toList == (rowS m key).toList) = false := by
  rw [beq_eq_false_iff_ne]
  intro e
  have h1 := read_row n key a0 a1
  have h2 := read_row m key b0 b1
  have e2 : rowS n key = rowS m key := by
    apply ByteArray.ext
    apply Array.ext'
    rw [← tl, ← tl, e]
  rw [e2, h2] at h1
  simp at h1
  exact h h1.symm
theorem note_ne (n m : Int) (key : ByteArray) (a0 : 0 ≤ n) (a1 : n < 65536) (b0 : 0 ≤ m) (b1 : m < 65536) : ((noteS m).toList == (rowS n key).toList) = false := by
  rw [beq_eq_false_iff_ne]
  intro e
  have h1 := read_row n key a0 a1
  have h2 := read_note m b0 b1
  have e2 : noteS m = rowS n key := by
    apply ByteArray.ext
    apply Array.ext'
    rw [← tl, ← tl, e]
  rw [e2, h1] at h2
  simp at h2
theorem rd_at (s : ByteArray) (r : Int × Int × Int × ByteArray × Bool) (h : readS s = r) (w : World) : Calls Try.prog 11 #[.string s] w fun e w' => e = .returned (.tuple #[.agg #[.int .i64 r.1, .int .i64 r.2.1, .int .i64 r.2.2.1, .string r.2.2.2.1], .bool r.2.2.2.2]) ∧ Below w.heap.size w w' :=
  space_Read.calls 0 s r.1 r.2.1 r.2.2.1 r.2.2.2.1 r.2.2.2.2 w (by rw [← h]; rfl)
theorem bcell {W w1 : World} (hb : Below W.heap.size W w1) : (∀ b o, b < W.heap.size → w1.cell? ⟨b, o, none⟩ = W.cell? ⟨b, o, none⟩) ∧ (∀ b o, b < W.heap.size → w1.frozen? ⟨b, o, none⟩ = W.frozen? ⟨b, o, none⟩) :=
  ⟨fun b o h => hb.cell (p := ⟨b, o, none⟩) h, fun b o h => hb.frozen (p := ⟨b, o, none⟩) h⟩

set_option maxHeartbeats 4000000 in
set_option maxRecDepth 100000 in
theorem far (n m side : Int) (key : ByteArray) (w : World) (h : 500 < (key.size : Int)) :
    Calls Try.prog 6 #[.agg #[.int .u16 n, .int .u16 m], .int .u8 side, .string key] w fun e w' => e = .returned (.bool true) ∧ Below w.heap.size w w' := by
  have HB := Aside0.mk ((Below.refl w.heap.size w).alloc (Nat.le_refl _) (.cells #[.int .u16 n, .int .u16 m] 38))
  go_enter Try.func6, Try.ntmps6
  go_wp2_with (first | (go_at_call 7; refine (transomlaw25_awake.calls 20 _ _ awake_ok).mono ?_; rintro e w' ⟨rfl, hb⟩))
  go_ret
  exact ⟨rfl, below_then HB.out (by simp) (by assumption)⟩
/-- What region 7 reads: three places, each in a block of its own. -/
def Three (g1 g2 g3 : Nat) (n side : Int) (key : ByteArray) (w0 w' : World) : Prop :=
  w'.cell? ⟨g1, 0, none⟩ = some (.int .i64 2) ∧ w'.cell? ⟨g1, 1, none⟩ = some (.int .i64 n) ∧ w'.cell? ⟨g1, 2, none⟩ = some (.int .i64 0) ∧ w'.cell? ⟨g1, 3, none⟩ = some (.string ⟨#[]⟩) ∧
  w'.cell? ⟨g2, 0, none⟩ = some (.int .i64 3) ∧ w'.cell? ⟨g2, 1, none⟩ = some (.int .i64 n) ∧ w'.cell? ⟨g2, 2, none⟩ = some (.int .i64 side) ∧ w'.cell? ⟨g2, 3, none⟩ = some (.string key) ∧
  w'.cell? ⟨g3, 0, none⟩ = some (.int .i64 4) ∧ w'.cell? ⟨g3, 1, none⟩ = some (.int .i64 n) ∧ w'.cell? ⟨g3, 2, none⟩ = some (.int .i64 0) ∧ w'.cell? ⟨g3, 3, none⟩ = some (.string key) ∧
  g1 < w'.heap.size ∧ g2 < w'.heap.size ∧ g3 < w'.heap.size ∧ w0.heap.size ≤ w'.heap.size ∧ Below w0.heap.size w0 w'
theorem Three.below {g1 g2 g3 : Nat} {n side : Int} {key : ByteArray} {w0 w1 w2 : World} (h : Three g1 g2 g3 n side key w0 w1) (hb : Below w1.heap.size w1 w2) : Three g1 g2 g3 n side key w0 w2 := by
  obtain ⟨x1, x2, x3, x4, y1, y2, y3, y4, z1, z2, z3, z4, l1, l2, l3, l4, h0⟩ := h
  have c := fun (b o : Nat) (hlt : b < w1.heap.size) => hb.cell (p := ⟨b, o, none⟩) hlt
  exact ⟨(c _ _ l1).trans x1, (c _ _ l1).trans x2, (c _ _ l1).trans x3, (c _ _ l1).trans x4, (c _ _ l2).trans y1, (c _ _ l2).trans y2, (c _ _ l2).trans y3, (c _ _ l2).trans y4,
    (c _ _ l3).trans z1, (c _ _ l3).trans z2, (c _ _ l3).trans z3, (c _ _ l3).trans z4, Nat.lt_of_lt_of_le l1 hb.size, Nat.lt_of_lt_of_le l2 hb.size, Nat.lt_of_lt_of_le l3 hb.size, Nat.le_trans l4 hb.size, below_then h0 l4 hb⟩
theorem Three.drewN {g1 g2 g3 : Nat} {n side : Int} {key : ByteArray} {w0 w1 : World} (h : Three g1 g2 g3 n side key w0 w1) (k : Nat) : Three g1 g2 g3 n side key w0 (w1.drewN k) := by
  obtain ⟨x1, x2, x3, x4, y1, y2, y3, y4, z1, z2, z3, z4, l1, l2, l3, l4, h0⟩ := h
  exact ⟨x1, x2, x3, x4, y1, y2, y3, y4, z1, z2, z3, z4, l1, l2, l3, l4, pw_below_drewN h0 k⟩
theorem Three.drew {g1 g2 g3 : Nat} {n side : Int} {key : ByteArray} {w0 w1 : World} (h : Three g1 g2 g3 n side key w0 w1) : Three g1 g2 g3 n side key w0 w1.drew := by
  obtain ⟨x1, x2, x3, x4, y1, y2, y3, y4, z1, z2, z3, z4, l1, l2, l3, l4, h0⟩ := h
  exact ⟨x1, x2, x3, x4, y1, y2, y3, y4, z1, z2, z3, z4, l1, l2, l3, l4, below_drew h0⟩
theorem cells_at (W : World) (a b c : Int) (s : ByteArray) :
    (W.alloc (.cells #[.int .i64 a, .int .i64 b, .int .i64 c, .string s] 29)).cell? ⟨W.heap.size, 0, none⟩ = some (.int .i64 a) ∧ (W.alloc (.cells #[.int .i64 a, .int .i64 b, .int .i64 c, .string s] 29)).cell? ⟨W.heap.size, 1, none⟩ = some (.int .i64 b) ∧
    (W.alloc (.cells #[.int .i64 a, .int .i64 b, .int .i64 c, .string s] 29)).cell? ⟨W.heap.size, 2, none⟩ = some (.int .i64 c) ∧ (W.alloc (.cells #[.int .i64 a, .int .i64 b, .int .i64 c, .string s] 29)).cell? ⟨W.heap.size, 3, none⟩ = some (.string s) ∧
    W.heap.size < (W.alloc (.cells #[.int .i64 a, .int .i64 b, .int .i64 c, .string s] 29)).heap.size := by
  refine ⟨?_, ?_, ?_, ?_, by simp⟩ <;> simp [go_sem]
theorem below_new (W : World) (o : Obj) : Below W.heap.size W (W.alloc o) := (Below.refl _ _).alloc (Nat.le_refl _) o
theorem three_start {n side : Int} {key : ByteArray} {w w2 w3 w4 w5 w6 : World} (h2 : Below w.heap.size w w2)
    (h3 : Below (w2.alloc (.cells #[.int .i64 2, .int .i64 n, .int .i64 0, .string ⟨#[]⟩] 29)).heap.size (w2.alloc (.cells #[.int .i64 2, .int .i64 n, .int .i64 0, .string ⟨#[]⟩] 29)) w3) (h4 : Below w3.heap.size w3 w4)
    (h5 : Below (w4.alloc (.cells #[.int .i64 3, .int .i64 n, .int .i64 side, .string key] 29)).heap.size (w4.alloc (.cells #[.int .i64 3, .int .i64 n, .int .i64 side, .string key] 29)) w5) (h6 : Below w5.heap.size w5 w6) :
    Three w2.heap.size w4.heap.size w6.heap.size n side key w (w6.alloc (.cells #[.int .i64 4, .int .i64 n, .int .i64 0, .string key] 29)) := by
  have T3 : Below (w2.alloc (.cells #[.int .i64 2, .int .i64 n, .int .i64 0, .string ⟨#[]⟩] 29)).heap.size (w2.alloc (.cells #[.int .i64 2, .int .i64 n, .int .i64 0, .string ⟨#[]⟩] 29)) w4 := below_then h3 h3.size h4
  have T5 : Below (w4.alloc (.cells #[.int .i64 3, .int .i64 n, .int .i64 side, .string key] 29)).heap.size (w4.alloc (.cells #[.int .i64 3, .int .i64 n, .int .i64 side, .string key] 29)) w6 := below_then h5 h5.size h6
  have N4 := below_new w4 (.cells #[.int .i64 3, .int .i64 n, .int .i64 side, .string key] 29)
  have N6 := below_new w6 (.cells #[.int .i64 4, .int .i64 n, .int .i64 0, .string key] 29)
  have T45 : Below w4.heap.size w4 (w6.alloc (.cells #[.int .i64 4, .int .i64 n, .int .i64 0, .string key] 29)) := below_then (below_then N4 N4.size T5) (Nat.le_trans N4.size T5.size) N6
  have T57 := below_then T5 T5.size N6
  have T37 := below_then T3 T3.size T45
  obtain ⟨x1, x2, x3, x4, l1⟩ := cells_at w2 2 n 0 ⟨#[]⟩
  obtain ⟨y1, y2, y3, y4, l2⟩ := cells_at w4 3 n side key
  obtain ⟨z1, z2, z3, z4, l3⟩ := cells_at w6 4 n 0 key
  have c1 := fun (o : Nat) => T37.cell (p := ⟨w2.heap.size, o, none⟩) l1
  have c2 := fun (o : Nat) => T57.cell (p := ⟨w4.heap.size, o, none⟩) l2
  have N2 := below_new w2 (.cells #[.int .i64 2, .int .i64 n, .int .i64 0, .string ⟨#[]⟩] 29)
  have F : Below w.heap.size w (w6.alloc (.cells #[.int .i64 4, .int .i64 n, .int .i64 0, .string key] 29)) := below_then h2 h2.size (below_then N2 N2.size T37)
  exact ⟨(c1 _).trans x1, (c1 _).trans x2, (c1 _).trans x3, (c1 _).trans x4, (c2 _).trans y1, (c2 _).trans y2, (c2 _).trans y3, (c2 _).trans y4, z1, z2, z3, z4,
    Nat.lt_of_lt_of_le l1 T37.size, Nat.lt_of_lt_of_le l2 T57.size, l3, F.size, F⟩
attribute [local go_sem high] eqA29
set_option maxHeartbeats 8000000 in
set_option maxRecDepth 100000 in
theorem near (n m side : Int) (key : ByteArray) (w : World) (h : (key.size : Int) ≤ 500) (a0 : 0 ≤ n) (a1 : n < 65536) (b0 : 0 ≤ m) (b1 : m < 65536) (c0 : 0 ≤ side) (c1 : side ≤ 255) (hnm : ((n == m) = true) ∨ ((n == m) = false ∧ ((rowS n key).toList == (rowS m key).toList) = false)) :
    Calls Try.prog 6 #[.agg #[.int .u16 n, .int .u16 m], .int .u8 side, .string key] w fun e w' => e = .returned (.bool true) ∧ Below w.heap.size w w' := by
  have hk : key.size ≤ 1000 := by omega
  have N1 := Aside0.mk (fun k : Int => note1 k)
  have R1 := Aside0.mk (fun k : Int => row1 k key hk)
  have T1 := Aside0.mk (bit1 n side key hk)
  have D1 := Aside0.mk (read_note n a0 a1)
  have D2 := Aside0.mk (read_bit n side key a0 a1 c0 c1)
  have D3 := Aside0.mk (read_row n key a0 a1)
  have HB := Aside0.mk (below_new w (.cells #[.int .u16 n, .int .u16 m] 38))
  have e1 := note_ne n m key a0 a1 b0 b1
  have c0' := c0
  go_enter Try.func6, Try.ntmps6
  go_wp2_with fail
  go_quiet (fail)
  go_wp2_with fail
  refine (space_Note.calls _ _ _ (N1.out _)).mono ?_
  rintro e w1 ⟨rfl, hb1⟩
  go_wp2_with fail
  refine (rd_at _ _ D1.out _).mono ?_
  rintro e w2 ⟨rfl, hb2⟩
  have H2 := Aside0.mk (below_then (below_then (pw_below_drewN HB.out _) (by simp) hb1) (Nat.le_trans (by simp) hb1.size) hb2)
  clear hb1 hb2
  go_wp2_with fail
  refine (space_Bit.calls n side key _ _ T1.out).mono ?_
  rintro e w3 ⟨rfl, hb3⟩
  have H3 := Aside0.mk hb3
  clear hb3
  go_wp2_with fail
  refine (rd_at _ _ D2.out _).mono ?_
  rintro e w4 ⟨rfl, hb4⟩
  have H4 := Aside0.mk hb4
  clear hb4
  go_wp2_with fail
  refine (space_Row.calls n key _ _ (R1.out _)).mono ?_
  rintro e w5 ⟨rfl, hb5⟩
  have H5 := Aside0.mk hb5
  clear hb5
  go_wp2_with fail
  refine (rd_at _ _ D3.out _).mono ?_
  rintro e w6 ⟨rfl, hb6⟩
  have HT := three_start H2.out H3.out H4.out H5.out hb6
  clear hb6 H2 H3 H4 H5
  have HT' := HT
  obtain ⟨x1, x2, x3, x4, y1, y2, y3, y4, z1, z2, z3, z4, _, _, _, _, _⟩ := HT'
  rcases hnm with hnm | ⟨hnm, hne⟩
  all_goals
    go_wp2_with (first | (go_at_call 15; refine (space_Note.calls _ _ _ (N1.out _)).mono ?_; rintro e w' ⟨rfl, hb⟩; replace HT := HT.below hb; clear hb) | (go_at_call 10; refine (space_Row.calls _ _ _ _ (R1.out _)).mono ?_; rintro e w' ⟨rfl, hb⟩; replace HT := HT.below hb; clear hb) | (go_at_call 7; refine (transomlaw25_awake.calls 20 _ _ awake_ok).mono ?_; rintro e w' ⟨rfl, hb⟩; replace HT := HT.below hb; clear hb))
    go_ret
    exact ⟨rfl, HT.2.2.2.2.2.2.2.2.2.2.2.2.2.2.2.2⟩
theorem walk (n m side : Int) (key : ByteArray) (w : World) (hn : (Lit.int .u16 n).wf = true) (hm : (Lit.int .u16 m).wf = true) (hs : (Lit.int .u8 side).wf = true) :
    Calls Try.prog 6 #[.agg #[.int .u16 n, .int .u16 m], .int .u8 side, .string key] w fun e w' => e = .returned (.bool true) ∧ Below w.heap.size w w' := by
  have h1 : 0 ≤ n ∧ n ≤ 65535 := by simpa [Lit.wf, IntKind.min, IntKind.max, IntKind.signed, IntKind.bits] using hn
  have h2 : 0 ≤ m ∧ m ≤ 65535 := by simpa [Lit.wf, IntKind.min, IntKind.max, IntKind.signed, IntKind.bits] using hm
  have h3 : 0 ≤ side ∧ side ≤ 255 := by simpa [Lit.wf, IntKind.min, IntKind.max, IntKind.signed, IntKind.bits] using hs
  by_cases h : (key.size : Int) ≤ 500
  · refine near n m side key w h h1.1 (by omega) h2.1 (by omega) h3.1 h3.2 ?_
    by_cases e : n = m
    · exact .inl (by simp [e])
    · exact .inr ⟨by simp [e], row_ne n m key e h1.1 (by omega) h2.1 (by omega)⟩
  · exact far n m side key w (by omega)

end Go.Proofs.Ytahomibcpkgphaa.LawSpaceBack
