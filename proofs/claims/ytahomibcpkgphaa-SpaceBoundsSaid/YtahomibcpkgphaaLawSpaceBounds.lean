/- SpaceBounds: between which keys all rows lie of any table, as the reference says; and that just these do. No condition. -/
import Derived.Test.YtahomibcpkgphaaQSpaceBoundsx
import Derived.Laws.BitsAllLaws
import Derived.Laws.BitsLemmas
import Derived.Lib.Strings
import Derived.WalkKit
import Derived.WalkLawsBesides
import Derived.Deep.RegionHeld3
set_option linter.unusedVariables false
set_option linter.unusedSimpArgs false
namespace Go.Proofs.Ytahomibcpkgphaa.LawSpaceBounds
open Go Go.RowKit Go.Proofs.Ytahomibcpkgphaa.PSpaceBounds Go.Proofs.YtahomibcpkgphaaW.PrintWords Go.Proofs.YtahomibcpkgphaaW.PrintLast


theorem tl (s : ByteArray) : s.toList = s.data.toList := Lib.toList_data s
theorem tl_nil (s : ByteArray) : s.toList = ([] : List UInt8) ↔ s.size = 0 := by
  rw [tl]
  constructor
  · intro h
    have : s.data.toList.length = 0 := by rw [h]; rfl
    simpa using this
  · intro h
    have : s.data.toList.length = 0 := by simpa using h
    exact List.length_eq_zero_iff.1 this
theorem bt_bd (s : ByteArray) (i : Int) : 0 ≤ bt s i ∧ bt s i ≤ 255 := bt_range s i
theorem ext_size (s : ByteArray) (a : Nat) : (s.extract a s.size).size = s.size - a := by simp
theorem ext_ext (s : ByteArray) (h : 3 ≤ s.size) : (s.extract 3 s.size).extract 1 (s.extract 3 s.size).size = s.extract 4 s.size := by
  apply ByteArray.ext
  apply Array.ext'
  rw [ext_size]
  simp only [ByteArray.data_extract, Array.toList_extract, List.extract_eq_take_drop]
  rw [List.drop_take, List.take_take, List.drop_drop]
  congr 1
  omega
theorem bt_ext (s : ByteArray) (h : 3 < s.size) : bt (s.extract 3 s.size) 0 = bt s 3 := by
  unfold bt
  have h1 : (0 : Int).toNat < (s.extract 3 s.size).size := by rw [ext_size]; show 0 < _; omega
  have h2 : (3 : Int).toNat < s.size := h
  rw [dif_pos h1, dif_pos h2]
  congr 2
  simp only [Int.toNat_zero, ByteArray.getElem_extract, Nat.add_zero]
  rfl
theorem or_two (x y : Int) (h1 : 0 ≤ x ∧ x ≤ 255) (h2 : 0 ≤ y ∧ y ≤ 255) : Go.bits .or .i64 (wrap64 (wrap64 x * 256)) (wrap64 y) = x * 256 + y := by
  have w1 : wrap64 (wrap64 x * 256) = x * 256 := by unfold wrap64; omega
  have w2 : wrap64 y = y := by unfold wrap64; omega
  have u : ∀ x : Int, (BitVec.ofInt 64 x).toNat = (x % 18446744073709551616).toNat := fun x => by simp [BitVec.toNat_ofInt]
  rw [w1, w2]
  show IntKind.i64.wrap (((BitVec.ofInt 64 (x * 256) ||| BitVec.ofInt 64 y).toNat : Nat) : Int) = _
  rw [BitVec.toNat_or, u, u, nat_join 8 _ _ (by omega) (by omega), IntKind.wrap_i64]
  omega
theorem sum_two (x y : Int) (h1 : 0 ≤ x ∧ x ≤ 255) (h2 : 0 ≤ y ∧ y ≤ 255) : wrap64 (wrap64 (wrap64 x * 256) + wrap64 y) = x * 256 + y := by
  unfold wrap64; omega
theorem w_bt (s : ByteArray) (i : Int) : wrap64 (bt s i) = bt s i := by
  have := bt_range s i
  unfold wrap64; omega

theorem awake_ok : transomlaw25_awake.f 20 = some true := by kernel_rfl
theorem awake_any : ∀ k, transomlaw25_awake.f (k + 20) = some true
  | 0 => awake_ok
  | k + 1 => by rw [show k + 1 + 20 = (k + 20) + 1 from by omega]; exact transomlaw25_awake.mono _ _ (awake_any k)
theorem awake_ge (k : Nat) (h : 20 ≤ k) : transomlaw25_awake.f k = some true := by
  obtain ⟨n, rfl⟩ : ∃ n, k = n + 20 := ⟨k - 20, by omega⟩
  exact awake_any n

theorem son_append (xs ys : List Int) : strOfNums (xs ++ ys) = strOfNums xs ++ strOfNums ys := by
  apply ByteArray.ext
  simp [strOfNums]
theorem son_bytesOf (s : ByteArray) : strOfNums (bytesOf s) = s := by
  apply ByteArray.ext
  apply Array.ext'
  show ((bytesOf s).map fun n => UInt8.ofNat n.toNat).toArray.toList = s.data.toList
  simp [bytesOf, Function.comp_def]
theorem son_one (x : UInt8) : (⟨#[x]⟩ : ByteArray) = strOfNums [(x.toNat : Int)] := by
  apply ByteArray.ext
  simp [strOfNums]
def two (n : Int) : List Int := [n / 256 % 256, n % 256]
def noteS (n : Int) : ByteArray := strOfNums (1 :: two n)
def rowS (n : Int) (key : ByteArray) : ByteArray := strOfNums (3 :: two n) ++ key
def bitS (n side : Int) (key : ByteArray) : ByteArray := strOfNums (2 :: (two n ++ [side % 256])) ++ key
theorem note1 (n : Int) : space_Note.f n = some (noteS n) := rfl
theorem row1 (n : Int) (key : ByteArray) (h : key.size ≤ 1000) : space_Row.f n key = some (rowS n key) := by
  unfold space_Row.f space_head.f
  simp only [Option.bind_some]
  rw [if_pos (by simp only [List.length_cons, List.length_nil]; omega), son_append, son_bytesOf]
  rfl
theorem row2 (n : Int) (key : ByteArray) (h : key.size ≤ 1000) : transomref25_Row.f n key = some (rowS n key) := by
  unfold transomref25_Row.f transomref25_two.f
  simp only [Option.bind_some]
  rw [son_one, ← son_append, if_pos (by simp [strOfNums_size]), if_pos (by simp only [strOfNums_size, List.length_append, List.length_cons, List.length_nil]; omega)]
  rfl

def u8 (x : Int) : UInt8 := UInt8.ofNat x.toNat
theorem u8_lt (a b : Int) (ha : 0 ≤ a) (hab : a < b) (hb : b ≤ 255) : u8 a < u8 b := by
  unfold u8
  rw [UInt8.lt_iff_toNat_lt, UInt8.toNat_ofNat', UInt8.toNat_ofNat']
  omega
theorem bl_same (a : UInt8) (x y : List UInt8) : Op.bytesLess (a :: x) (a :: y) = Op.bytesLess x y := by
  have h : ¬ a < a := by rw [UInt8.lt_iff_toNat_lt]; omega
  simp [Op.bytesLess, h]
theorem bl_lt (a b : UInt8) (x y : List UInt8) (h : a < b) : Op.bytesLess (a :: x) (b :: y) = true := by
  simp [Op.bytesLess, h]
theorem row_list (n : Int) (key : ByteArray) : (rowS n key).toList = u8 3 :: u8 (n / 256 % 256) :: u8 (n % 256) :: key.toList := by
  rw [tl, tl]
  simp [rowS, strOfNums, two, u8]
theorem row_less (n : Int) (a b : ByteArray) : Op.bytesLess (rowS n a).toList (rowS n b).toList = Op.bytesLess a.toList b.toList := by
  rw [row_list, row_list, bl_same, bl_same, bl_same]
/-- What stands above all rows of a table. -/
def nxt (n : Int) : ByteArray :=
  if n % 256 ≠ 255 then strOfNums [3, n / 256 % 256, n % 256 + 1] else if n / 256 % 256 ≠ 255 then strOfNums [3, n / 256 % 256 + 1] else strOfNums [4]
theorem nxt_less (n : Int) (key : ByteArray) : Op.bytesLess (rowS n key).toList (nxt n).toList = true := by
  rw [row_list]
  unfold nxt
  have h0 : 0 ≤ n % 256 ∧ n % 256 < 256 := by omega
  have h1 : 0 ≤ n / 256 % 256 ∧ n / 256 % 256 < 256 := by omega
  by_cases c1 : n % 256 ≠ 255
  · rw [if_pos c1, tl (strOfNums _)]
    show Op.bytesLess _ [u8 3, u8 (n / 256 % 256), u8 (n % 256 + 1)] = true
    rw [bl_same, bl_same, bl_lt _ _ _ _ (u8_lt _ _ (by omega) (by omega) (by omega))]
  rw [if_neg c1]
  by_cases c2 : n / 256 % 256 ≠ 255
  · rw [if_pos c2, tl (strOfNums _)]
    show Op.bytesLess _ [u8 3, u8 (n / 256 % 256 + 1)] = true
    rw [bl_same, bl_lt _ _ _ _ (u8_lt _ _ (by omega) (by omega) (by omega))]
  · rw [if_neg c2, tl (strOfNums _)]
    show Op.bytesLess _ [u8 4] = true
    rw [bl_lt _ _ _ _ (u8_lt _ _ (by omega) (by omega) (by omega))]
theorem bt_list (s : ByteArray) (i : Nat) (h : i < s.data.toList.length) : bt s i = ((s.data.toList[i]).toNat : Int) := by
  unfold bt
  have h' : (i : Int).toNat < s.size := by simpa using h
  rw [dif_pos h']
  congr 1
theorem row_empty (n : Int) : rowS n ⟨#[]⟩ = strOfNums [3, n / 256 % 256, n % 256] := by
  apply ByteArray.ext
  simp [rowS, two]
theorem bt_son (xs : List Int) (i : Nat) (h : i < xs.length) (hb : 0 ≤ xs[i] ∧ xs[i] ≤ 255) : bt (strOfNums xs) i = xs[i] := by
  rw [bt_list _ _ (by simpa [strOfNums] using h)]
  simp only [strOfNums, List.getElem_map]
  rw [UInt8.toNat_ofNat']
  omega
theorem after_same : ∀ (k : Nat) (s : ByteArray) (i : Int), keycode_After.l0 k s i = transomref05_After.l0 k s i
  | 0, s, i => by unfold keycode_After.l0 transomref05_After.l0; rfl
  | k + 1, s, i => by
    have b := bt_range s i
    unfold keycode_After.l0 transomref05_After.l0
    rw [after_same k s]
    by_cases c : bt s i = 255
    · rw [if_pos c, if_neg (show ¬ bt s i < 255 by omega)]
    · rw [if_neg c, if_pos (show bt s i < 255 by omega)]
theorem after_nxt (n : Int) : keycode_After.f 4 (rowS n ⟨#[]⟩) = some (nxt n) := by
  rw [row_empty]
  unfold keycode_After.f
  have h0 : 0 ≤ n % 256 ∧ n % 256 < 256 := by omega
  have h1 : 0 ≤ n / 256 % 256 ∧ n / 256 % 256 < 256 := by omega
  have b2 : bt (strOfNums [3, n / 256 % 256, n % 256]) 2 = n % 256 := bt_son [3, n / 256 % 256, n % 256] 2 (by simp) (by simp; omega)
  have b1 : bt (strOfNums [3, n / 256 % 256, n % 256]) 1 = n / 256 % 256 := bt_son [3, n / 256 % 256, n % 256] 1 (by simp) (by simp; omega)
  have b0 : bt (strOfNums [3, n / 256 % 256, n % 256]) 0 = 3 := bt_son [3, n / 256 % 256, n % 256] 0 (by simp) (by simp)
  have sz : ((strOfNums [3, n / 256 % 256, n % 256]).size : Int) = 3 := by rw [strOfNums_size]; rfl
  have w2 : wrap64 (3 - 1) = 2 := by unfold wrap64; omega
  have w1 : wrap64 (2 - 1) = 1 := by unfold wrap64; omega
  have w0 : wrap64 (1 - 1) = 0 := by unfold wrap64; omega
  have ex : ∀ (a b c d : Int) (i : Nat), i ≤ 2 → ((strOfNums [a, b, c]).extract 0 i) ++ strOfNums [d] = strOfNums ([a, b, c].take i ++ [d]) := fun a b c d i hi => by
    apply ByteArray.ext
    apply Array.ext'
    simp [strOfNums]
  have sl : ∀ x : Int, (strOfNums [x]).size = 1 := fun x => strOfNums_size [x]
  unfold nxt
  rw [sz, w2]
  unfold keycode_After.l0
  rw [if_pos (by omega), if_pos (by omega), sz, if_pos (by omega), b2]
  by_cases c1 : n % 256 = 255
  · rw [if_pos c1, if_neg (by simpa using c1), w1]
    unfold keycode_After.l0
    rw [if_pos (by omega), if_pos (by omega), sz, if_pos (by omega), b1]
    by_cases c2 : n / 256 % 256 = 255
    · rw [if_pos c2, if_neg (by simpa using c2), w0]
      unfold keycode_After.l0
      rw [if_pos (by omega), if_pos (by omega), sz, if_pos (by omega), b0, if_neg (by decide), if_pos (by omega)]
      simp only [Option.bind_some]
      rw [if_pos (by rw [ByteArray.size_extract, sl]; omega)]
      exact congrArg some (ex _ _ _ _ 0 (by omega))
    · rw [if_neg c2, if_pos (show n / 256 % 256 ≠ 255 from c2), if_pos (by omega)]
      simp only [Option.bind_some]
      rw [if_pos (by rw [ByteArray.size_extract, sl]; omega), show (n / 256 % 256 + 1) % 256 = n / 256 % 256 + 1 from by omega]
      exact congrArg some (ex _ _ _ _ 1 (by omega))
  · rw [if_neg c1, if_pos (show n % 256 ≠ 255 from c1), if_pos (by omega)]
    simp only [Option.bind_some]
    rw [if_pos (by rw [ByteArray.size_extract, sl]; omega), show (n % 256 + 1) % 256 = n % 256 + 1 from by omega]
    exact congrArg some (ex _ _ _ _ 2 (by omega))
def hiS (n : Int) (b : ByteArray) : ByteArray := if b.toList = ([] : List UInt8) then nxt n else rowS n b
theorem bounds1 (n : Int) (a b : ByteArray) (ha : a.size ≤ 500) (hb : b.size ≤ 500) : space_Bounds.f 4 n a b = some (rowS n a, hiS n b) := by
  unfold space_Bounds.f hiS
  rw [row1 n b (by omega), row1 n a (by omega)]
  simp only [Option.bind_some]
  by_cases c : b.toList = ([] : List UInt8)
  · have hb0 : b = ⟨#[]⟩ := by
      apply ByteArray.ext
      apply Array.ext'
      rw [tl] at c
      rw [c]
    rw [if_pos c, if_pos c, hb0, after_nxt]; rfl
  · rw [if_neg c, if_neg c]
theorem bounds2 (n : Int) (a b : ByteArray) (ha : a.size ≤ 500) (hb : b.size ≤ 500) : transomref25_Bounds.f 4 n a b = some (rowS n a, hiS n b) := by
  unfold transomref25_Bounds.f hiS
  have e : transomref05_After.f 4 (rowS n ⟨#[]⟩) = some (nxt n) := by
    rw [← after_nxt]; unfold transomref05_After.f keycode_After.f; rw [after_same]
  rw [row2 n ⟨#[]⟩ (by decide), row2 n a (by omega), row2 n b (by omega)]
  simp only [Option.bind_some]
  by_cases c : b.toList = ([] : List UInt8)
  · rw [if_pos c, if_pos c, e]; rfl
  · rw [if_neg c, if_neg c]
theorem hi_less (n : Int) (key b : ByteArray) : Op.bytesLess (rowS n key).toList (hiS n b).toList = (b.toList.isEmpty || Op.bytesLess key.toList b.toList) := by
  unfold hiS
  by_cases c : b.toList = ([] : List UInt8)
  · rw [if_pos c, nxt_less, c]; rfl
  · rw [if_neg c, row_less]
    cases h : b.toList with
    | nil => exact absurd h c
    | cons x y => rfl

set_option maxHeartbeats 4000000 in
set_option maxRecDepth 100000 in
theorem far (n : Int) (a b key : ByteArray) (w : World) (h : ¬ (a.size ≤ 500 ∧ b.size ≤ 500 ∧ key.size ≤ 500)) :
    Calls Try.prog 3 #[.int .i64 n, .agg #[.string a, .string b], .string key] w fun e w' => e = .returned (.bool true) ∧ Below w.heap.size w w' := by
  have HB := Aside0.mk ((Below.refl w.heap.size w).alloc (Nat.le_refl _) (.cells #[.string a, .string b] 22))
  rcases Nat.lt_or_ge 500 a.size with ha | ha <;> rcases Nat.lt_or_ge 500 b.size with hb | hb <;> rcases Nat.lt_or_ge 500 key.size with hk | hk <;> first | (exfalso; omega) | skip
  all_goals
    have ha' : (500 : Int) < a.size ∨ (a.size : Int) ≤ 500 := by omega
    have hb' : (500 : Int) < b.size ∨ (b.size : Int) ≤ 500 := by omega
    have hk' : (500 : Int) < key.size ∨ (key.size : Int) ≤ 500 := by omega
    clear h
    go_enter Try.func3, Try.ntmps3
    go_wp2_with (first | (go_at_call 7; refine (transomlaw25_awake.calls 20 _ _ awake_ok).mono ?_; rintro e w' ⟨rfl, hb⟩))
    go_ret
    exact ⟨rfl, below_then HB.out (by simp) (by assumption)⟩
theorem calls_bool {b : Bool} (h : b = true) {P : Program} {f : FuncId} {args : Array Value} {w : World} (c : Calls P f args w fun e w' => e = .returned (.bool b) ∧ Below w.heap.size w w') : Calls P f args w fun e w' => e = .returned (.bool true) ∧ Below w.heap.size w w' := by
  rw [h] at c; exact c
def HS (w : World) (a b : ByteArray) (w' : World) : Prop :=
  w'.cell? ⟨w.heap.size, 0, none⟩ = some (.string a) ∧ w'.cell? ⟨w.heap.size, 1, none⟩ = some (.string b) ∧ Below w.heap.size w w' ∧ w.heap.size < w'.heap.size
theorem HS.below {w w1 w2 : World} {a b : ByteArray} (h : HS w a b w1) (hb : Below w1.heap.size w1 w2) : HS w a b w2 := by
  have hl := h.2.2.2
  exact ⟨(hb.cell (p := ⟨w.heap.size, 0, none⟩) hl).trans h.1, (hb.cell (p := ⟨w.heap.size, 1, none⟩) hl).trans h.2.1, below_then h.2.2.1 (Nat.le_of_lt hl) hb, Nat.lt_of_lt_of_le hl hb.size⟩
theorem HS.drewN {w w1 : World} {a b : ByteArray} (h : HS w a b w1) (n : Nat) : HS w a b (w1.drewN n) := ⟨h.1, h.2.1, pw_below_drewN h.2.2.1 n, h.2.2.2⟩
theorem HS.drew {w w1 : World} {a b : ByteArray} (h : HS w a b w1) : HS w a b w1.drew := ⟨h.1, h.2.1, below_drew h.2.2.1, h.2.2.2⟩
theorem HS.start (w : World) (a b : ByteArray) : HS w a b (w.alloc (.cells #[.string a, .string b] 22)) := by
  refine ⟨?_, ?_, (Below.refl _ _).alloc (Nat.le_refl _) _, by simp⟩ <;> simp [go_sem]
set_option maxHeartbeats 4000000 in
set_option maxRecDepth 100000 in
theorem near (n : Int) (a b key : ByteArray) (w : World) (ha : a.size ≤ 500) (hb : b.size ≤ 500) (hk : key.size ≤ 500) :
    Calls Try.prog 3 #[.int .i64 n, .agg #[.string a, .string b], .string key] w fun e w' => e = .returned (.bool true) ∧ Below w.heap.size w w' := by
  have B1 := Aside0.mk (bounds1 n a b ha hb)
  have B2 := Aside0.mk (bounds2 n a b ha hb)
  have R1 := Aside0.mk (row1 n key (by omega))
  have HB := HS.start w a b
  have l1 := row_less n key a
  have l2 := hi_less n key b
  have ha' : (a.size : Int) ≤ 500 := by omega
  have hb' : (b.size : Int) ≤ 500 := by omega
  have hk' : (key.size : Int) ≤ 500 := by omega
  generalize rowS n a = lo at *
  generalize hiS n b = hi at *
  generalize rowS n key = k at *
  generalize hX : Op.bytesLess key.toList a.toList = X at *
  generalize hY : Op.bytesLess key.toList b.toList = Y at *
  generalize hE : b.toList.isEmpty = E at *
  clear ha hb hk
  cases X <;> cases Y <;> cases E
  all_goals
    go_enter Try.func3, Try.ntmps3
    go_wp2_with (first | (go_at_call 8; refine (space_Bounds.calls 4 _ _ _ _ _ _ B1.out).mono ?_; rintro e w' ⟨rfl, hb⟩; replace HB := HS.below HB hb; have hc0 := HB.1; have hc1 := HB.2.1; clear hb) | (go_at_call 9; refine (transomref25_Bounds.calls 4 _ _ _ _ _ _ B2.out).mono ?_; rintro e w' ⟨rfl, hb⟩; replace HB := HS.below HB hb; have hc0 := HB.1; have hc1 := HB.2.1; clear hb) | (go_at_call 10; refine (space_Row.calls _ _ _ _ R1.out).mono ?_; rintro e w' ⟨rfl, hb⟩; replace HB := HS.below HB hb; have hc0 := HB.1; have hc1 := HB.2.1; clear hb) | (go_at_call 7; refine (transomlaw25_awake.calls 20 _ _ awake_ok).mono ?_; rintro e w' ⟨rfl, hb⟩; replace HB := HS.below HB hb; clear hb))
    go_ret
    exact ⟨rfl, HB.2.2.1⟩
theorem walk (n : Int) (a b key : ByteArray) (w : World) : Calls Try.prog 3 #[.int .i64 n, .agg #[.string a, .string b], .string key] w fun e w' => e = .returned (.bool true) ∧ Below w.heap.size w w' := by
  by_cases h : a.size ≤ 500 ∧ b.size ≤ 500 ∧ key.size ≤ 500
  · exact near n a b key w h.1 h.2.1 h.2.2
  · exact far n a b key w h

end Go.Proofs.Ytahomibcpkgphaa.LawSpaceBounds
