/- A text of this claim: parts TsO TsP TsQ TpA TpB TpC. No condition. -/
import Derived.Test.YtglbcfkmaamhaaaJG18
import Derived.Test.YtglbcfkmaamhaaaJG8
import Derived.Test.YtglbcfkmaamhaaaJG12
import Derived.Test.YtglbcfkmaamhaaaJG0
import Derived.Test.YtglbcfkmaamhaaaJG2
import Derived.Lib.Strings
set_option linter.unusedVariables false
set_option linter.unusedSimpArgs false
set_option maxHeartbeats 16000000
set_option maxRecDepth 100000
namespace Go.Proofs.Ytglbcfkmaamhaaa.Tr
open Go Go.RowKit Go.Proofs.YtglbcfkmaamhaaaW.PrintWords Go.Proofs.YtglbcfkmaamhaaaW.PrintLast Go.Proofs.YtglbcfkmaamhaaaW.PrintMore Go.Proofs.Ytglbcfkmaamhaaa.Hv Go.Proofs.Ytglbcfkmaamhaaa.Arm Go.Proofs.Ytglbcfkmaamhaaa.Nd Go.Proofs.Ytglbcfkmaamhaaa.ArN
section
variable {w0 w w1 : World} {L L' R : List Ob} {K : Nat × Nat × Nat} {t : Tm} {on : Value}
def emp (s : ByteArray) : Bool := s.toList.isEmpty
def inK (lo hi k : ByteArray) : Bool := !bl k lo && (emp hi || bl k hi)
def okN (b : Bool) (lo hi : ByteArray) (l : List ByteArray) : Bool := l.foldl (fun b k => b && inK lo hi k) b
theorem okN_snoc (b : Bool) (lo hi : ByteArray) (l : List ByteArray) (k : ByteArray) : okN b lo hi (l ++ [k]) = (okN b lo hi l && inK lo hi k) := by simp [okN]
structure Chk where
 cnt : Int
 ok : Bool
 dp : Int
def Chk.dp1 (c : Chk) (d : Int) : Int := if c.dp < 0 then d else c.dp
def chkN (n : Nd.Nd) (c : Chk) (d : Int) (b : Bool) : Chk := if n.leaf then ⟨c.cnt + 1, b && decide (c.dp1 d = d), c.dp1 d⟩ else ⟨c.cnt + 1, b, c.dp⟩
def chkS (c : Chk) (v : Vis) : Chk := chkN v.n c v.d (okN (c.ok && v.n.check) v.lo v.hi v.n.keys)
def chb (g3 g4 g5 : Nat) (c : Chk) : List Ob := [cb g5 3 #[.int .i64 c.cnt], cb g3 4 #[.bool c.ok], cb g4 3 #[.int .i64 c.dp]]
theorem chkT.calls {g3 g4 g5 : Nat} {cnt dp : Int} {Q : List Ob} (hv : Hv w0 w (cb g5 3 #[.int .i64 cnt] :: cb g3 4 #[.bool true] :: cb g4 3 #[.int .i64 dp] :: Q)) (hRQ : ∀ p ∈ R, p ∈ Q) {n : Nd.Nd} {ka : Option Addr} {kc : Nat} {ra : Option Addr} {rc : Nat} (hn : NR w0 R n ka kc ra rc) (hs : Nd.Sm n) (hc0 : 0 ≤ cnt) (hc : cnt ≤ 1000000) (d : Int) (lo hi : ByteArray) {c2 : Chk} (hc2 : chkN n ⟨cnt, true, dp⟩ d (okN n.check lo hi n.keys) = c2) :
  Calls Try.prog 125 #[.agg #[.bool n.leaf, .int .i64 n.ver, .slice ka n.keys.length kc, .slice ra n.refs.length rc], .int .i64 d, .string lo, .string hi, .pointer (some ⟨g5, 0, none⟩), .pointer (some ⟨g3, 0, none⟩), .pointer (some ⟨g4, 0, none⟩)] w fun e w' => e = .returned (.tuple #[]) ∧ Hv w0 w' (chb g3 g4 g5 c2 ++ Q) := by
 have hu59 := Try.underlying59
 have hu57 := Try.underlying57
 have hu31 := Try.underlying31
 have HV := As (show Hv w0 (w.alloc (.cells #[.bool n.leaf, .int .i64 n.ver, .slice ka n.keys.length kc, .slice ra n.refs.length rc] 59)) (cb w.heap.size 59 #[.bool n.leaf, .int .i64 n.ver, .slice ka n.keys.length kc, .slice ra n.refs.length rc] :: cb g5 3 #[.int .i64 cnt] :: cb g3 4 #[.bool true] :: cb g4 3 #[.int .i64 dp] :: Q) from hv.alloc _)
 have HN := As (And.intro hn (And.intro hRQ hs))
 have HC2 := As hc2
 have ewc : wrap64 (cnt + 1) = cnt + 1 := by unfold wrap64; omega
 clear hv hn hRQ hs hc0 hc hc2
 obtain ⟨y0, y1, y2, y3, -, -, -, -⟩ := HV.out.c4 w.heap.size 59 (.bool n.leaf) (.int .i64 n.ver) (.slice ka n.keys.length kc) (.slice ra n.refs.length rc) (by simp)
 obtain ⟨z5, zf5⟩ := HV.out.c1 g5 3 (.int .i64 cnt) (by simp)
 go_enter Try.func125, Try.ntmps125
 go_upto_region 2 with (fail)
 obtain ⟨W1, hW, hM⟩ : ∃ W, W = _ ∧ Hv w0 W (cb w.heap.size 59 #[.bool n.leaf, .int .i64 n.ver, .slice ka n.keys.length kc, .slice ra n.refs.length rc] :: cb g5 3 #[.int .i64 (cnt + 1)] :: cb g3 4 #[.bool true] :: cb g4 3 #[.int .i64 dp] :: Q) := ⟨_, rfl, HV.out.put1 0 (.int .i64 (cnt + 1)) rfl⟩
 rw [← hW]
 have H1 := As hM
 clear hW hM y0 y1 y2 y3 z5 zf5 ewc
 generalize w.heap.size = g7 at H1 HV ⊢
 obtain ⟨y0, y1, y2, y3, -, -, -, -⟩ := H1.out.c4 g7 59 (.bool n.leaf) (.int .i64 n.ver) (.slice ka n.keys.length kc) (.slice ra n.refs.length rc) (by simp)
 obtain ⟨z3, zf3⟩ := H1.out.c1 g3 4 (.bool true) (by simp)
 obtain ⟨b1, hb1⟩ : ∃ b1, n.check = b1 := ⟨_, rfl⟩
 have HB1 := As hb1
 rw [hb1] at HC2
 clear hb1
 go_upto_region 3 with (go_at_call 33; go_loud (refine (Nd.check.calls (w0 := w0) (L := cb g7 59 #[.bool n.leaf, .int .i64 n.ver, .slice ka n.keys.length kc, .slice ra n.refs.length rc] :: cb g5 3 #[.int .i64 (cnt + 1)] :: cb g3 4 #[.bool true] :: cb g4 3 #[.int .i64 dp] :: Q) H1.out ⟨ka, kc, ra, rc, rfl, HN.out.1.mono (fun p hp => by simp [HN.out.2.1 p hp])⟩ (by have := HN.out.2.2.r; omega) HN.out.2.2.k).mono ?_; rw [HB1.out]; rintro e2 w2 ⟨rfl, hh⟩; have H2 := As hh; clear hh; clear y0 y1 y2 y3 z3 zf3; obtain ⟨z3, zf3⟩ := H2.out.c1 g3 4 (.bool true) (by simp)))
 obtain ⟨W3, hW, hM⟩ : ∃ W, W = _ ∧ Hv w0 W (cb g7 59 #[.bool n.leaf, .int .i64 n.ver, .slice ka n.keys.length kc, .slice ra n.refs.length rc] :: cb g5 3 #[.int .i64 (cnt + 1)] :: cb g3 4 #[.bool b1] :: cb g4 3 #[.int .i64 dp] :: Q) := ⟨_, rfl, H2.out.put2 0 (.bool b1) rfl⟩
 rw [← hW]
 have H3 := As hM
 clear hW hM z3 zf3
 obtain ⟨y0, y1, y2, y3, -, -, -, -⟩ := H3.out.c4 g7 59 (.bool n.leaf) (.int .i64 n.ver) (.slice ka n.keys.length kc) (.slice ra n.refs.length rc) (by simp)
 go_wp2_with fail
 clear y0 y1 y2 y3
 go_loopg [23] n.keys.length (fun kq v23 wr => ∃ (k : Nat) (b : Bool), v23 = .int .i64 (k : Int) ∧ kq = n.keys.length - k ∧ k ≤ n.keys.length ∧ Aside0 (okN b1 lo hi (n.keys.take k) = b) ∧ Aside0 (Hv w0 wr (cb g7 59 #[.bool n.leaf, .int .i64 n.ver, .slice ka n.keys.length kc, .slice ra n.refs.length rc] :: cb g5 3 #[.int .i64 (cnt + 1)] :: cb g3 4 #[.bool b] :: cb g4 3 #[.int .i64 dp] :: Q)))
 case atStart => exact ⟨0, b1, rfl, rfl, Nat.zero_le _, ⟨rfl⟩, H3⟩
 case round =>
  obtain ⟨k, b, rfl, rfl, hk, HB, HW⟩ := hrel
  clear HV H1 H3
  obtain ⟨z3, zf3⟩ := HW.out.c1 g3 4 (.bool b) (by simp)
  have hk7 : k ≤ 1000000 := by have := HN.out.2.2.k; omega
  by_cases hlt : k < n.keys.length
  ·have hlt2 : (k : Int) < (n.keys.length : Int) := by omega
   have ew : IntKind.i64.wrap ((k : Int) + 1) = ((k + 1 : Nat) : Int) := by rw [IntKind.wrap_i64]; omega
   have ew' : wrap64 ((k : Int) + 1) = ((k + 1 : Nat) : Int) := by unfold wrap64; omega
   obtain ⟨x, hx⟩ : ∃ x, n.keys[k]? = some x := ⟨_, List.getElem?_eq_getElem hlt⟩
   obtain ⟨ak, eak, hck⟩ := (HN.out.1.k _ _ HW.out (fun p hp => by simp [HN.out.2.1 p hp])).2 (by omega)
   subst eak
   have u0 := hck k _ (by rw [List.getElem?_map, hx]; rfl : (n.keys.map Value.string)[k]? = some (.string x))
   have hnx : okN b1 lo hi (n.keys.take (k + 1)) = (b && inK lo hi x) := by rw [List.take_add_one, hx, Option.toList_some, okN_snoc, HB.out]
   have HX := As (And.intro hnx hlt)
   clear hck hx hnx hlt hk
   cases b
   ·go_wp2_with fail
    go_roundg (n.keys.length - (k + 1))
    case measure => have := HX.out.2; omega
    case rel => exact ⟨k + 1, false, by first | rfl | go_num, rfl, HX.out.2, ⟨by rw [HX.out.1]; unfold inK; rfl⟩, ⟨HW.out.put2 0 (.bool false) rfl⟩⟩
   ·rcases Bool.eq_false_or_eq_true (bl x lo) with h1 | h1
    ·have g1 : Op.bytesLess x.toList lo.toList = true := h1
     have HF := As h1
     clear h1
     go_wp2_with fail
     go_roundg (n.keys.length - (k + 1))
     case measure => have := HX.out.2; omega
     case rel => exact ⟨k + 1, false, by first | rfl | go_num, rfl, HX.out.2, ⟨by rw [HX.out.1]; unfold inK; rw [HF.out]; rfl⟩, ⟨HW.out.put2 0 (.bool false) rfl⟩⟩
    ·have g1 : Op.bytesLess x.toList lo.toList = false := h1
     rcases Bool.eq_false_or_eq_true (emp hi) with h2 | h2
     ·have g2 : hi.toList = [] := by unfold emp at h2; simpa using h2
      have HF := As (And.intro h1 h2)
      clear h1 h2
      go_wp2_with fail
      go_roundg (n.keys.length - (k + 1))
      case measure => have := HX.out.2; omega
      case rel => exact ⟨k + 1, true, by first | rfl | go_num, rfl, HX.out.2, ⟨by rw [HX.out.1]; unfold inK; rw [HF.out.1, HF.out.2]; rfl⟩, ⟨HW.out.put2 0 (.bool true) rfl⟩⟩
     ·have g2 : ¬ hi.toList = [] := by unfold emp at h2; simpa using h2
      have g2b : hi.toList.isEmpty = false := h2
      rcases Bool.eq_false_or_eq_true (bl x hi) with h3 | h3
      ·have g3x : Op.bytesLess x.toList hi.toList = true := h3
       have HF := As (And.intro h1 (And.intro h2 h3))
       clear h1 h2 h3
       go_wp2_with fail
       go_roundg (n.keys.length - (k + 1))
       case measure => have := HX.out.2; omega
       case rel => exact ⟨k + 1, true, by first | rfl | go_num, rfl, HX.out.2, ⟨by rw [HX.out.1]; unfold inK; rw [HF.out.1, HF.out.2.1, HF.out.2.2]; rfl⟩, ⟨HW.out.put2 0 (.bool true) rfl⟩⟩
      ·have g3x : Op.bytesLess x.toList hi.toList = false := h3
       have HF := As (And.intro h1 (And.intro h2 h3))
       clear h1 h2 h3
       go_wp2_with fail
       go_roundg (n.keys.length - (k + 1))
       case measure => have := HX.out.2; omega
       case rel => exact ⟨k + 1, false, by first | rfl | go_num, rfl, HX.out.2, ⟨by rw [HX.out.1]; unfold inK; rw [HF.out.1, HF.out.2.1, HF.out.2.2]; rfl⟩, ⟨HW.out.put2 0 (.bool false) rfl⟩⟩
  ·have hge : ¬ (k : Int) < (n.keys.length : Int) := by omega
   have hkk : k = n.keys.length := by omega
   have HE := As (show okN b1 lo hi n.keys = b by have := HB.out; rw [hkk, List.take_length] at this; exact this)
   clear hkk hlt hk hk7
   rw [HE.out] at HC2
   obtain ⟨y0, y1, y2, y3, -, -, -, -⟩ := HW.out.c4 g7 59 (.bool n.leaf) (.int .i64 n.ver) (.slice ka n.keys.length kc) (.slice ra n.refs.length rc) (by simp)
   obtain ⟨z4, zf4⟩ := HW.out.c1 g4 3 (.int .i64 dp) (by simp)
   rcases Bool.eq_false_or_eq_true n.leaf with hlf | hlf
   ·have HLf := As hlf
    rw [hlf] at y0
    clear hlf
    by_cases hd : dp < 0
    ·have HDp := As hd
     go_upto_region 11 with (fail)
     obtain ⟨W5, hW, hM⟩ : ∃ W, W = _ ∧ Hv w0 W (cb g7 59 #[.bool n.leaf, .int .i64 n.ver, .slice ka n.keys.length kc, .slice ra n.refs.length rc] :: cb g5 3 #[.int .i64 (cnt + 1)] :: cb g3 4 #[.bool b] :: cb g4 3 #[.int .i64 d] :: Q) := ⟨_, rfl, HW.out.put3 0 (.int .i64 d) rfl⟩
     rw [← hW]
     have H5 := As hM
     clear hW hM y0 y1 y2 y3 z3 zf3 z4 zf4
     obtain ⟨z3, zf3⟩ := H5.out.c1 g3 4 (.bool b) (by simp)
     obtain ⟨z4, zf4⟩ := H5.out.c1 g4 3 (.int .i64 d) (by simp)
     cases b
     ·go_wp2_with fail
      go_end0
      refine ⟨rfl, ?_⟩
      have hF := (H5.out.put2 0 (.bool false) rfl).tail
      rw [← HC2.out]
      unfold chkN chb Chk.dp1
      simp only [HLf.out, if_true, if_pos (show dp < 0 by have := HDp.out; omega), Bool.false_and]
      exact hF
     ·go_wp2_with fail
      go_end0
      refine ⟨rfl, ?_⟩
      have hF := (H5.out.put2 0 (.bool true) rfl).tail
      rw [← HC2.out]
      unfold chkN chb Chk.dp1
      simp only [HLf.out, if_true, if_pos (show dp < 0 by have := HDp.out; omega), decide_true, Bool.true_and]
      exact hF
    ·have HDp := As hd
     cases b
     ·go_wp2_with fail
      go_end0
      refine ⟨rfl, ?_⟩
      have hF := (HW.out.put2 0 (.bool false) rfl).tail
      rw [← HC2.out]
      unfold chkN chb Chk.dp1
      simp only [HLf.out, if_true, if_neg (show ¬ dp < 0 by have := HDp.out; omega), Bool.false_and]
      exact hF
     ·by_cases he : dp = d
      ·have he2 : (dp == d) = true := by simp [he]
       have HEq := As he
       clear he
       go_wp2_with fail
       go_end0
       refine ⟨rfl, ?_⟩
       have hF := (HW.out.put2 0 (.bool true) rfl).tail
       rw [← HC2.out]
       unfold chkN chb Chk.dp1
       simp only [HLf.out, if_true, if_neg (show ¬ dp < 0 by have := HDp.out; omega), Bool.true_and]
       rw [show decide (dp = d) = true from by simp [HEq.out]]
       exact hF
      ·have he2 : (dp == d) = false := by simp [he]
       have HEq := As he
       clear he
       go_wp2_with fail
       go_end0
       refine ⟨rfl, ?_⟩
       have hF := (HW.out.put2 0 (.bool false) rfl).tail
       rw [← HC2.out]
       unfold chkN chb Chk.dp1
       simp only [HLf.out, if_true, if_neg (show ¬ dp < 0 by have := HDp.out; omega), Bool.true_and]
       rw [show decide (dp = d) = false from by simp [HEq.out]]
       exact hF
   ·have HLf := As hlf
    rw [hlf] at y0
    clear hlf
    go_wp2_with fail
    refine bodyPost_ret (results_none rfl _ _ _) rfl ⟨rfl, ?_⟩
    rw [← HC2.out]
    unfold chkN chb
    simp only [HLf.out, Bool.false_eq_true, if_false]
    exact HW.out.tail
theorem chkF.calls {g3 g4 g5 : Nat} {cnt dp : Int} {Q : List Ob} (hv : Hv w0 w (cb g5 3 #[.int .i64 cnt] :: cb g3 4 #[.bool false] :: cb g4 3 #[.int .i64 dp] :: Q)) (hRQ : ∀ p ∈ R, p ∈ Q) {n : Nd.Nd} {ka : Option Addr} {kc : Nat} {ra : Option Addr} {rc : Nat} (hn : NR w0 R n ka kc ra rc) (hs : Nd.Sm n) (hc0 : 0 ≤ cnt) (hc : cnt ≤ 1000000) (d : Int) (lo hi : ByteArray) {c2 : Chk} (hc2 : chkN n ⟨cnt, false, dp⟩ d (okN false lo hi n.keys) = c2) :
  Calls Try.prog 125 #[.agg #[.bool n.leaf, .int .i64 n.ver, .slice ka n.keys.length kc, .slice ra n.refs.length rc], .int .i64 d, .string lo, .string hi, .pointer (some ⟨g5, 0, none⟩), .pointer (some ⟨g3, 0, none⟩), .pointer (some ⟨g4, 0, none⟩)] w fun e w' => e = .returned (.tuple #[]) ∧ Hv w0 w' (chb g3 g4 g5 c2 ++ Q) := by
 have hu59 := Try.underlying59
 have hu57 := Try.underlying57
 have hu31 := Try.underlying31
 have HV := As (show Hv w0 (w.alloc (.cells #[.bool n.leaf, .int .i64 n.ver, .slice ka n.keys.length kc, .slice ra n.refs.length rc] 59)) (cb w.heap.size 59 #[.bool n.leaf, .int .i64 n.ver, .slice ka n.keys.length kc, .slice ra n.refs.length rc] :: cb g5 3 #[.int .i64 cnt] :: cb g3 4 #[.bool false] :: cb g4 3 #[.int .i64 dp] :: Q) from hv.alloc _)
 have HN := As (And.intro hn (And.intro hRQ hs))
 have HC2 := As hc2
 have ewc : wrap64 (cnt + 1) = cnt + 1 := by unfold wrap64; omega
 clear hv hn hRQ hs hc0 hc hc2
 obtain ⟨y0, y1, y2, y3, -, -, -, -⟩ := HV.out.c4 w.heap.size 59 (.bool n.leaf) (.int .i64 n.ver) (.slice ka n.keys.length kc) (.slice ra n.refs.length rc) (by simp)
 obtain ⟨z5, zf5⟩ := HV.out.c1 g5 3 (.int .i64 cnt) (by simp)
 go_enter Try.func125, Try.ntmps125
 go_upto_region 2 with (fail)
 obtain ⟨W1, hW, hM⟩ : ∃ W, W = _ ∧ Hv w0 W (cb w.heap.size 59 #[.bool n.leaf, .int .i64 n.ver, .slice ka n.keys.length kc, .slice ra n.refs.length rc] :: cb g5 3 #[.int .i64 (cnt + 1)] :: cb g3 4 #[.bool false] :: cb g4 3 #[.int .i64 dp] :: Q) := ⟨_, rfl, HV.out.put1 0 (.int .i64 (cnt + 1)) rfl⟩
 rw [← hW]
 have H1 := As hM
 clear hW hM y0 y1 y2 y3 z5 zf5 ewc
 generalize w.heap.size = g7 at H1 HV ⊢
 obtain ⟨y0, y1, y2, y3, -, -, -, -⟩ := H1.out.c4 g7 59 (.bool n.leaf) (.int .i64 n.ver) (.slice ka n.keys.length kc) (.slice ra n.refs.length rc) (by simp)
 obtain ⟨z3, zf3⟩ := H1.out.c1 g3 4 (.bool false) (by simp)
 have HB1 := As trivial
 go_upto_region 3 with (fail)
 obtain ⟨W3, hW, hM⟩ : ∃ W, W = _ ∧ Hv w0 W (cb g7 59 #[.bool n.leaf, .int .i64 n.ver, .slice ka n.keys.length kc, .slice ra n.refs.length rc] :: cb g5 3 #[.int .i64 (cnt + 1)] :: cb g3 4 #[.bool false] :: cb g4 3 #[.int .i64 dp] :: Q) := ⟨_, rfl, H1.out.put2 0 (.bool false) rfl⟩
 rw [← hW]
 have H3 := As hM
 clear hW hM z3 zf3
 clear y0 y1 y2 y3
 obtain ⟨y0, y1, y2, y3, -, -, -, -⟩ := H3.out.c4 g7 59 (.bool n.leaf) (.int .i64 n.ver) (.slice ka n.keys.length kc) (.slice ra n.refs.length rc) (by simp)
 go_wp2_with fail
 clear y0 y1 y2 y3
 go_loopg [23] n.keys.length (fun kq v23 wr => ∃ (k : Nat) (b : Bool), v23 = .int .i64 (k : Int) ∧ kq = n.keys.length - k ∧ k ≤ n.keys.length ∧ Aside0 (okN false lo hi (n.keys.take k) = b) ∧ Aside0 (Hv w0 wr (cb g7 59 #[.bool n.leaf, .int .i64 n.ver, .slice ka n.keys.length kc, .slice ra n.refs.length rc] :: cb g5 3 #[.int .i64 (cnt + 1)] :: cb g3 4 #[.bool b] :: cb g4 3 #[.int .i64 dp] :: Q)))
 case atStart => exact ⟨0, false, rfl, rfl, Nat.zero_le _, ⟨rfl⟩, H3⟩
 case round =>
  obtain ⟨k, b, rfl, rfl, hk, HB, HW⟩ := hrel
  clear HV H1 H3
  obtain ⟨z3, zf3⟩ := HW.out.c1 g3 4 (.bool b) (by simp)
  have hk7 : k ≤ 1000000 := by have := HN.out.2.2.k; omega
  by_cases hlt : k < n.keys.length
  ·have hlt2 : (k : Int) < (n.keys.length : Int) := by omega
   have ew : IntKind.i64.wrap ((k : Int) + 1) = ((k + 1 : Nat) : Int) := by rw [IntKind.wrap_i64]; omega
   have ew' : wrap64 ((k : Int) + 1) = ((k + 1 : Nat) : Int) := by unfold wrap64; omega
   obtain ⟨x, hx⟩ : ∃ x, n.keys[k]? = some x := ⟨_, List.getElem?_eq_getElem hlt⟩
   obtain ⟨ak, eak, hck⟩ := (HN.out.1.k _ _ HW.out (fun p hp => by simp [HN.out.2.1 p hp])).2 (by omega)
   subst eak
   have u0 := hck k _ (by rw [List.getElem?_map, hx]; rfl : (n.keys.map Value.string)[k]? = some (.string x))
   have hnx : okN false lo hi (n.keys.take (k + 1)) = (b && inK lo hi x) := by rw [List.take_add_one, hx, Option.toList_some, okN_snoc, HB.out]
   have HX := As (And.intro hnx hlt)
   clear hck hx hnx hlt hk
   cases b
   ·go_wp2_with fail
    go_roundg (n.keys.length - (k + 1))
    case measure => have := HX.out.2; omega
    case rel => exact ⟨k + 1, false, by first | rfl | go_num, rfl, HX.out.2, ⟨by rw [HX.out.1]; unfold inK; rfl⟩, ⟨HW.out.put2 0 (.bool false) rfl⟩⟩
   ·rcases Bool.eq_false_or_eq_true (bl x lo) with h1 | h1
    ·have g1 : Op.bytesLess x.toList lo.toList = true := h1
     have HF := As h1
     clear h1
     go_wp2_with fail
     go_roundg (n.keys.length - (k + 1))
     case measure => have := HX.out.2; omega
     case rel => exact ⟨k + 1, false, by first | rfl | go_num, rfl, HX.out.2, ⟨by rw [HX.out.1]; unfold inK; rw [HF.out]; rfl⟩, ⟨HW.out.put2 0 (.bool false) rfl⟩⟩
    ·have g1 : Op.bytesLess x.toList lo.toList = false := h1
     rcases Bool.eq_false_or_eq_true (emp hi) with h2 | h2
     ·have g2 : hi.toList = [] := by unfold emp at h2; simpa using h2
      have HF := As (And.intro h1 h2)
      clear h1 h2
      go_wp2_with fail
      go_roundg (n.keys.length - (k + 1))
      case measure => have := HX.out.2; omega
      case rel => exact ⟨k + 1, true, by first | rfl | go_num, rfl, HX.out.2, ⟨by rw [HX.out.1]; unfold inK; rw [HF.out.1, HF.out.2]; rfl⟩, ⟨HW.out.put2 0 (.bool true) rfl⟩⟩
     ·have g2 : ¬ hi.toList = [] := by unfold emp at h2; simpa using h2
      have g2b : hi.toList.isEmpty = false := h2
      rcases Bool.eq_false_or_eq_true (bl x hi) with h3 | h3
      ·have g3x : Op.bytesLess x.toList hi.toList = true := h3
       have HF := As (And.intro h1 (And.intro h2 h3))
       clear h1 h2 h3
       go_wp2_with fail
       go_roundg (n.keys.length - (k + 1))
       case measure => have := HX.out.2; omega
       case rel => exact ⟨k + 1, true, by first | rfl | go_num, rfl, HX.out.2, ⟨by rw [HX.out.1]; unfold inK; rw [HF.out.1, HF.out.2.1, HF.out.2.2]; rfl⟩, ⟨HW.out.put2 0 (.bool true) rfl⟩⟩
      ·have g3x : Op.bytesLess x.toList hi.toList = false := h3
       have HF := As (And.intro h1 (And.intro h2 h3))
       clear h1 h2 h3
       go_wp2_with fail
       go_roundg (n.keys.length - (k + 1))
       case measure => have := HX.out.2; omega
       case rel => exact ⟨k + 1, false, by first | rfl | go_num, rfl, HX.out.2, ⟨by rw [HX.out.1]; unfold inK; rw [HF.out.1, HF.out.2.1, HF.out.2.2]; rfl⟩, ⟨HW.out.put2 0 (.bool false) rfl⟩⟩
  ·have hge : ¬ (k : Int) < (n.keys.length : Int) := by omega
   have hkk : k = n.keys.length := by omega
   have HE := As (show okN false lo hi n.keys = b by have := HB.out; rw [hkk, List.take_length] at this; exact this)
   clear hkk hlt hk hk7
   rw [HE.out] at HC2
   obtain ⟨y0, y1, y2, y3, -, -, -, -⟩ := HW.out.c4 g7 59 (.bool n.leaf) (.int .i64 n.ver) (.slice ka n.keys.length kc) (.slice ra n.refs.length rc) (by simp)
   obtain ⟨z4, zf4⟩ := HW.out.c1 g4 3 (.int .i64 dp) (by simp)
   rcases Bool.eq_false_or_eq_true n.leaf with hlf | hlf
   ·have HLf := As hlf
    rw [hlf] at y0
    clear hlf
    by_cases hd : dp < 0
    ·have HDp := As hd
     go_upto_region 11 with (fail)
     obtain ⟨W5, hW, hM⟩ : ∃ W, W = _ ∧ Hv w0 W (cb g7 59 #[.bool n.leaf, .int .i64 n.ver, .slice ka n.keys.length kc, .slice ra n.refs.length rc] :: cb g5 3 #[.int .i64 (cnt + 1)] :: cb g3 4 #[.bool b] :: cb g4 3 #[.int .i64 d] :: Q) := ⟨_, rfl, HW.out.put3 0 (.int .i64 d) rfl⟩
     rw [← hW]
     have H5 := As hM
     clear hW hM y0 y1 y2 y3 z3 zf3 z4 zf4
     obtain ⟨z3, zf3⟩ := H5.out.c1 g3 4 (.bool b) (by simp)
     obtain ⟨z4, zf4⟩ := H5.out.c1 g4 3 (.int .i64 d) (by simp)
     cases b
     ·go_wp2_with fail
      go_end0
      refine ⟨rfl, ?_⟩
      have hF := (H5.out.put2 0 (.bool false) rfl).tail
      rw [← HC2.out]
      unfold chkN chb Chk.dp1
      simp only [HLf.out, if_true, if_pos (show dp < 0 by have := HDp.out; omega), Bool.false_and]
      exact hF
     ·go_wp2_with fail
      go_end0
      refine ⟨rfl, ?_⟩
      have hF := (H5.out.put2 0 (.bool true) rfl).tail
      rw [← HC2.out]
      unfold chkN chb Chk.dp1
      simp only [HLf.out, if_true, if_pos (show dp < 0 by have := HDp.out; omega), decide_true, Bool.true_and]
      exact hF
    ·have HDp := As hd
     cases b
     ·go_wp2_with fail
      go_end0
      refine ⟨rfl, ?_⟩
      have hF := (HW.out.put2 0 (.bool false) rfl).tail
      rw [← HC2.out]
      unfold chkN chb Chk.dp1
      simp only [HLf.out, if_true, if_neg (show ¬ dp < 0 by have := HDp.out; omega), Bool.false_and]
      exact hF
     ·by_cases he : dp = d
      ·have he2 : (dp == d) = true := by simp [he]
       have HEq := As he
       clear he
       go_wp2_with fail
       go_end0
       refine ⟨rfl, ?_⟩
       have hF := (HW.out.put2 0 (.bool true) rfl).tail
       rw [← HC2.out]
       unfold chkN chb Chk.dp1
       simp only [HLf.out, if_true, if_neg (show ¬ dp < 0 by have := HDp.out; omega), Bool.true_and]
       rw [show decide (dp = d) = true from by simp [HEq.out]]
       exact hF
      ·have he2 : (dp == d) = false := by simp [he]
       have HEq := As he
       clear he
       go_wp2_with fail
       go_end0
       refine ⟨rfl, ?_⟩
       have hF := (HW.out.put2 0 (.bool false) rfl).tail
       rw [← HC2.out]
       unfold chkN chb Chk.dp1
       simp only [HLf.out, if_true, if_neg (show ¬ dp < 0 by have := HDp.out; omega), Bool.true_and]
       rw [show decide (dp = d) = false from by simp [HEq.out]]
       exact hF
   ·have HLf := As hlf
    rw [hlf] at y0
    clear hlf
    go_wp2_with fail
    refine bodyPost_ret (results_none rfl _ _ _) rfl ⟨rfl, ?_⟩
    rw [← HC2.out]
    unfold chkN chb
    simp only [HLf.out, Bool.false_eq_true, if_false]
    exact HW.out.tail
end
section
variable {w0 w w1 : World} {L L' R : List Ob} {K : Nat × Nat × Nat} {t : Tm} {on : Value}
theorem chkS_cnt (c : Chk) (v : Vis) : (chkS c v).cnt = c.cnt + 1 := by
 unfold chkS chkN
 split <;> rfl
theorem fold_cnt : ∀ (p : List Vis) (c : Chk), (p.foldl chkS c).cnt = c.cnt + p.length
 | [], c => by simp
 | v :: p, c => by
  rw [List.foldl_cons, fold_cnt p, chkS_cnt, List.length_cons]
  omega
def chk0 : Chk := ⟨0, true, -1⟩
def JC (g3 g4 g5 : Nat) (p : List Vis) (X : List Ob) : Prop := X = chb g3 g4 g5 (p.foldl chkS chk0)
theorem checkCB {g3 g4 g5 m : Nat} (hm : m ≤ 1000000) (W : World) (B X : List Ob) (p : List Vis) (n : Nd.Nd) (d : Int) (lo hi : ByteArray) (ka : Option Addr) (kc : Nat) (ra : Option Addr) (rc : Nat) (hM : Mt w0 W K t on R (B ++ (X ++ L))) (hJ : JC g3 g4 g5 p X) (hc : Nd.Sm n) (hp : p.length < m) (hn : NR w0 R n ka kc ra rc) :
  Calls Try.prog 125 #[.agg #[.bool n.leaf, .int .i64 n.ver, .slice ka n.keys.length kc, .slice ra n.refs.length rc], .int .i64 d, .string lo, .string hi, .pointer (some ⟨g5, 0, none⟩), .pointer (some ⟨g3, 0, none⟩), .pointer (some ⟨g4, 0, none⟩)] W fun e w' => e = .returned (.tuple #[]) ∧ ∃ X', JC g3 g4 g5 (p ++ [⟨n, d, lo, hi⟩]) X' ∧ Mt w0 w' K t on R (B ++ (X' ++ L)) := by
 unfold JC at hJ
 subst hJ
 obtain ⟨c, hc0⟩ : ∃ c, p.foldl chkS chk0 = c := ⟨_, rfl⟩
 rw [hc0] at hM
 have hcnt : c.cnt = p.length := by rw [← hc0, fold_cnt]; simp [chk0]
 obtain ⟨Q, hq, hRQ, back⟩ := hM.lensY (X := chb g3 g4 g5 c)
 have e1 : (p ++ [(⟨n, d, lo, hi⟩ : Vis)]).foldl chkS chk0 = chkS c ⟨n, d, lo, hi⟩ := by rw [List.foldl_append, hc0]; rfl
 have fin : ∀ (e : Ending) (w' : World), (e = .returned (.tuple #[]) ∧ Hv w0 w' (chb g3 g4 g5 (chkS c ⟨n, d, lo, hi⟩) ++ Q)) → e = .returned (.tuple #[]) ∧ ∃ X', JC g3 g4 g5 (p ++ [⟨n, d, lo, hi⟩]) X' ∧ Mt w0 w' K t on R (B ++ (X' ++ L)) := fun e w' ⟨h1, h2⟩ => ⟨h1, _, by unfold JC; rw [e1], back w' _ h2⟩
 obtain ⟨cnt, ok, dp⟩ := c
 have hcnt2 : cnt = p.length := hcnt
 cases ok
 ·exact (chkF.calls (cnt := cnt) (dp := dp) (Q := Q) hq hRQ hn hc (by omega) (by omega) d lo hi (c2 := chkS ⟨cnt, false, dp⟩ ⟨n, d, lo, hi⟩) rfl).mono fin
 ·exact (chkT.calls (cnt := cnt) (dp := dp) (Q := Q) hq hRQ hn hc (by omega) (by omega) d lo hi (c2 := chkS ⟨cnt, true, dp⟩ ⟨n, d, lo, hi⟩) rfl).mono fin
theorem tcheck.calls (h : Mt w0 w K t on R L) {hh m : Nat} (hm : m ≤ 1000000) (hok : WOk t Nd.Sm hh t.root) (hlen : (visits t hh t.root 0 ⟨#[]⟩ ⟨#[]⟩).length ≤ m) (hhm : hh ≤ 1000000) (hg : t.gone.length ≤ 1000000) {c : Chk} (hcc : (visits t hh t.root 0 ⟨#[]⟩ ⟨#[]⟩).foldl chkS chk0 = c) {b : Bool} (hb : (c.ok && decide ((t.p.held : Int) - t.gone.length = c.cnt)) = b) :
  Calls Try.prog 70 #[.pointer (some ⟨K.1, 0, none⟩)] w fun e w' => e = .returned (.bool b) ∧ Mt w0 w' K t on R L := by
 have HB := As hb
 clear hb
 have hu33 := Try.underlying33
 have hu160 := Try.underlying160
 have hmf : ∀ (fn : Fn) (first cap : Array Value) (w : World), (Instr.makeFunc fn first cap).run Try.prog w = .ok (.func fn first cap) w := fun _ _ _ _ => rfl
 have HM0 : Mt w0 (((w.alloc (.cells #[.bool true] 4)).alloc (.cells #[.int .i64 (-1)] 3)).alloc (.cells #[.int .i64 0] 3)) K t on R (cb (w.heap.size + 1 + 1) 3 #[.int .i64 0] :: cb (w.heap.size + 1) 3 #[.int .i64 (-1)] :: cb w.heap.size 4 #[.bool true] :: L) := by
  have := ((h.alloc (.cells #[.bool true] 4)).alloc (.cells #[.int .i64 (-1)] 3)).alloc (.cells #[.int .i64 0] 3)
  simpa [cb] using this
 have HM := As (show Mt w0 _ K t on R ([] ++ (chb w.heap.size (w.heap.size + 1) (w.heap.size + 1 + 1) chk0 ++ L)) from HM0.permL (List.Perm.cons _ (List.Perm.swap _ _ _)))
 have HH := As (And.intro hok (And.intro hlen (And.intro hcc (And.intro hm (And.intro hhm hg)))))
 clear h hok hlen hcc hm hhm hg HM0
 obtain ⟨c0, c1, c2, -, -, -, -⟩ := HM.out.cells
 go_enter Try.func70, Try.ntmps70
 go_upto_region 6 with (first
  | (go_at_call 122; go_loud (refine (walkC.calls (J := JC w.heap.size (w.heap.size + 1) (w.heap.size + 1 + 1)) (C := Nd.Sm) (m := m) (checkCB HH.out.2.2.2.1) hh t.root 0 ⟨#[]⟩ ⟨#[]⟩ [] _ [] _ HH.out.1 HM.out rfl (by simpa using HH.out.2.1) (Int.le_refl _) (by have := HH.out.2.2.2.2.1; omega)).mono ?_; rintro e2 w2 ⟨rfl, X, hX, hh2⟩; unfold JC at hX; simp only [List.nil_append, HH.out.2.2.1] at hX hh2; subst hX; have H2 := As hh2; clear hh2))
  | (go_at_call 68; go_loud (refine (nodes.calls H2.out HH.out.2.2.2.2.2).mono ?_; rintro e3 w3 ⟨rfl, hh3⟩; have H3 := As (show Mt w0 w3 K t on R (cb (w.heap.size + 1 + 1) 3 #[.int .i64 c.cnt] :: cb w.heap.size 4 #[.bool c.ok] :: cb (w.heap.size + 1) 3 #[.int .i64 c.dp] :: L) from hh3); clear hh3)))
 clear c0 c1 c2
 obtain ⟨x3, -⟩ := H3.out.other.c1 w.heap.size 4 (.bool c.ok) (by simp)
 obtain ⟨x5, -⟩ := H3.out.other.c1 (w.heap.size + 1 + 1) 3 (.int .i64 c.cnt) (by simp)
 rcases Bool.eq_false_or_eq_true c.ok with ho | ho
 ·rw [ho] at x3 HB
  by_cases he : (t.p.held : Int) - t.gone.length = c.cnt
  ·have he2 : ((t.p.held : Int) - t.gone.length == c.cnt) = true := by simp [he]
   have hb : b = true := by rw [← HB.out, decide_eq_true he]; rfl
   subst hb
   clear he HB ho
   go_wp2_with fail
   exact bodyPost_ret (v := .bool true) (by simp [results, Try.results70, go_sem]) rfl ⟨rfl, H3.out.tail.tail.tail⟩
  ·have he2 : ((t.p.held : Int) - t.gone.length == c.cnt) = false := by simp [he]
   have hb : b = false := by rw [← HB.out, decide_eq_false he]; rfl
   subst hb
   clear he HB ho
   go_wp2_with fail
   exact bodyPost_ret (v := .bool false) (by simp [results, Try.results70, go_sem]) rfl ⟨rfl, H3.out.tail.tail.tail⟩
 ·rw [ho] at x3 HB
  have hb : b = false := by rw [← HB.out]; rfl
  subst hb
  clear HB ho
  go_wp2_with fail
  exact bodyPost_ret (v := .bool false) (by simp [results, Try.results70, go_sem]) rfl ⟨rfl, H3.out.tail.tail.tail⟩
end
end Go.Proofs.Ytglbcfkmaamhaaa.Tr
namespace Go.Proofs.Ytglbcfkmaamhaaa.Tr
open Go Go.RowKit Go.Proofs.YtglbcfkmaamhaaaW.PrintWords Go.Proofs.Ytglbcfkmaamhaaa.Hv Go.Proofs.Ytglbcfkmaamhaaa.Arm Go.Proofs.Ytglbcfkmaamhaaa.Nd Go.Proofs.Ytglbcfkmaamhaaa.ArN
section
theorem asc_asc2 : ∀ {l : List ByteArray}, asc l = true → Asc l
 | [], _ => List.Pairwise.nil
 | [a], _ => List.pairwise_singleton _ _
 | a :: b :: l, h => by
  simp only [asc, Bool.and_eq_true] at h
  have h2 : Asc (b :: l) := asc_asc2 h.2
  refine List.pairwise_cons.2 ⟨fun z hz => ?_, h2⟩
  rcases List.mem_cons.1 hz with rfl | hz
  ·exact h.1
  ·exact less_trans _ _ _ h.1 ((List.pairwise_cons.1 h2).1 z hz)
def aK : Nat → ByteArray
 | 0 => ⟨#[97]⟩
 | 1 => ⟨#[98]⟩
 | 2 => ⟨#[99]⟩
 | 3 => ⟨#[100]⟩
 | _ => ⟨#[101]⟩
def aT : Nat → Tm
 | 0 => Tm.new 20
 | k + 1 => ((aT k).putW (aK k) ((k : Int), 0) [] (0, 1)).1
def bdB (t : Tm) (m : Nat) : Bool := t.ns.all fun n => Nat.ble n.keys.length m && Nat.ble n.refs.length m
theorem bd_of {t : Tm} {m : Nat} (h : bdB t m = true) : Bd t m := fun n hn => by
 have := List.all_eq_true.1 h n hn
 simp only [Bool.and_eq_true] at this
 exact ⟨Nat.le_of_ble_eq_true this.1, Nat.le_of_ble_eq_true this.2⟩
def okB (n : Nd.Nd) : Bool := Nat.ble n.keys.length 1000000 && (Nat.ble n.refs.length 1000000 && asc n.keys)
theorem ok_of {n : Nd.Nd} (h : okB n = true) : Nd.Ok n := by
 unfold okB at h
 simp only [Bool.and_eq_true] at h
 exact ⟨Nat.le_of_ble_eq_true h.1, Nat.le_of_ble_eq_true h.2.1, asc_asc2 h.2.2⟩
end
section
theorem bl_trans {a b c : ByteArray} (h1 : bl a b = true) (h2 : bl b c = true) : bl a c = true := less_trans _ _ _ h1 h2
theorem bl_tot {a b : ByteArray} (h1 : bl a b = false) (h2 : bl b a = false) : a = b := by
 have h := Less.less_flip a.toList b.toList
 unfold bl at h1 h2
 rw [h1, h2, Bool.false_or, Bool.not_false] at h
 have e : a.toList = b.toList := by simpa using h
 rw [Lib.toList_data, Lib.toList_data] at e
 cases a; cases b
 simp only [ByteArray.mk.injEq]
 exact Array.toList_inj.1 e
theorem bl_nil (a : ByteArray) : bl a ⟨#[]⟩ = false := by
 unfold bl
 have e : (⟨#[]⟩ : ByteArray).toList = [] := by rw [Lib.toList_data]
 rw [e]
 cases a.toList <;> rfl
theorem fnd_at (k : ByteArray) (l : List ByteArray) : fnd k l = true ↔ l[plc k l]? = some k := by
 unfold fnd
 cases h : l[plc k l]? with
 | none => simp
 | some x =>
  simp only [Option.some.injEq, beq_iff_eq]
  constructor
  ·intro e
   rw [Lib.toList_data, Lib.toList_data] at e
   cases x; cases k
   simp only [ByteArray.mk.injEq]
   exact Array.toList_inj.1 e
  ·rintro rfl; rfl
attribute [local irreducible] bl
abbrev Mm := Rf → Option Nd.Nd
def upd (m : Mm) (r : Rf) (n : Nd.Nd) : Mm := fun x => if x = r then some n else m x
theorem upd_self (m : Mm) (r : Rf) (n : Nd.Nd) : upd m r n r = some n := if_pos rfl
theorem upd_ne {m : Mm} {r x : Rf} {n : Nd.Nd} (h : x ≠ r) : upd m r n x = m x := if_neg h
def blw (k hi : ByteArray) : Prop := hi = ⟨#[]⟩ ∨ bl k hi = true
theorem bl_ne {a b : ByteArray} (h : bl a b = true) : b ≠ ⟨#[]⟩ := fun e => by rw [e, bl_nil] at h; cases h
theorem blw_of {a b c : ByteArray} (h : bl a b = true) (k : blw b c) : blw a c := k.elim .inl (fun k => .inr (bl_trans h k))
theorem blw_bl {a b c : ByteArray} (h : blw a b) (k : bl c b = true) : bl a b = true := h.elim (fun e => absurd e (bl_ne k)) id
theorem ble_trans {a b c : ByteArray} (h : bl b a = false) (k : bl c b = false) : bl c a = false := by
 cases e : bl c a
 ·rfl
 ·cases e2 : bl b c
  ·have := bl_tot e2 k
   subst this
   rw [h] at e; cases e
  ·rw [bl_trans e2 e] at h; cases h
theorem bl_ble {a b : ByteArray} (h : bl a b = true) : bl b a = false := by
 cases e : bl b a
 ·rfl
 ·have := bl_trans h e
  rw [bl_irr] at this; cases this
theorem bl_of_ble {a b c : ByteArray} (h : bl a b = true) (k : bl c b = false) : bl a c = true := by
 cases e : bl a c
 ·have := ble_trans k (c := a) e
  rw [h] at this; cases this
 ·rfl
theorem ble_of_bl {a b c : ByteArray} (h : bl b a = false) (k : bl b c = true) : bl a c = true := by
 cases e : bl a c
 ·have := ble_trans e (c := b) h
  rw [k] at this; cases this
 ·rfl
abbrev NP := Rf → ByteArray → ByteArray → List Rf → List It → Prop
inductive Row (P : NP) : List Rf → List ByteArray → ByteArray → ByteArray → List Rf → List It → Prop
 | one {r : Rf} {lo hi : ByteArray} {ns : List Rf} {its : List It} : P r lo hi ns its → Row P [r] [] lo hi ns its
 | cons {r : Rf} {rs : List Rf} {k : ByteArray} {ks : List ByteArray} {lo hi : ByteArray} {ns1 ns2 : List Rf} {its1 its2 : List It} : P r lo k ns1 its1 → bl lo k = true → blw k hi → Row P rs ks k hi ns2 its2 → Row P (r :: rs) (k :: ks) lo hi (ns1 ++ ns2) (its1 ++ its2)
variable {P P' : NP} {rs rs1 rs2 : List Rf} {ks ks1 ks2 : List ByteArray} {lo hi mid : ByteArray} {ns ns1 ns2 : List Rf} {its its1 its2 : List It}
theorem Row.len (h : Row P rs ks lo hi ns its) : ks.length + 1 = rs.length := by
 induction h with
 | one _ => rfl
 | cons _ _ _ _ ih => simp only [List.length_cons]; omega
theorem Row.mono (h : Row P rs ks lo hi ns its) (hP : ∀ r lo hi ns' its', (∀ x ∈ ns', x ∈ ns) → P r lo hi ns' its' → P' r lo hi ns' its') : Row P' rs ks lo hi ns its := by
 induction h with
 | one h => exact .one (hP _ _ _ _ _ (fun x hx => hx) h)
 | cons h h1 h2 _ ih => exact .cons (hP _ _ _ _ _ (fun x hx => List.mem_append_left _ hx) h) h1 h2 (ih (fun r lo hi ns' its' hs => hP r lo hi ns' its' (fun x hx => List.mem_append_right _ (hs x hx))))
theorem Row.join (h : Row P rs1 ks1 lo mid ns1 its1) : ∀ {hi : ByteArray}, Row P rs2 ks2 mid hi ns2 its2 → bl lo mid = true → blw mid hi → Row P (rs1 ++ rs2) (ks1 ++ mid :: ks2) lo hi (ns1 ++ ns2) (its1 ++ its2) := by
 induction h with
 | one h => exact fun k h1 h2 => .cons h h1 h2 k
 | cons h h1 h2 _ ih =>
  intro hi k h3 h4
  rw [List.append_assoc, List.append_assoc]
  have h5 := blw_bl h2 h3
  exact .cons h h1 (blw_of h5 h4) (ih k h5 h4)
theorem Row.cut (h : Row P rs ks lo hi ns its) : ∀ {i : Nat}, 0 < i → i < rs.length → ∃ mid ns1 its1 ns2 its2, Row P (rs.take i) (ks.take (i - 1)) lo mid ns1 its1 ∧ Row P (rs.drop i) (ks.drop i) mid hi ns2 its2 ∧ bl lo mid = true ∧ blw mid hi ∧ ks[i - 1]? = some mid ∧ ns = ns1 ++ ns2 ∧ its = its1 ++ its2 := by
 induction h with
 | one _ => intro i h1 h2; simp at h2; omega
 | @cons r rs k ks lo hi n1 n2 t1 t2 h h1 h2 h3 ih =>
  intro i hi0 hi1
  obtain ⟨j, rfl⟩ : ∃ j, i = j + 1 := ⟨i - 1, by omega⟩
  by_cases hj : j = 0
  ·subst hj
   exact ⟨k, n1, t1, n2, t2, .one h, h3, h1, h2, rfl, rfl, rfl⟩
  ·obtain ⟨mid, a, b, c, d, e1, e2, e3, e4, e5, rfl, rfl⟩ := ih (i := j) (by omega) (by simpa using hi1)
   refine ⟨mid, n1 ++ a, t1 ++ b, c, d, ?_, by simpa using e2, bl_trans h1 e3, e4, ?_, by rw [List.append_assoc], by rw [List.append_assoc]⟩
   ·have := Row.cons h h1 (.inr e3) e1
    have ek : (k :: ks).take (j + 1 - 1) = k :: ks.take (j - 1) := by
     obtain ⟨q, rfl⟩ : ∃ q, j = q + 1 := ⟨j - 1, by omega⟩
     simp
    rw [ek]
    simpa using this
   ·obtain ⟨q, rfl⟩ : ∃ q, j = q + 1 := ⟨j - 1, by omega⟩
    simpa using e5
theorem Row.range (hP : ∀ r lo hi ns its, P r lo hi ns its → ∀ x ∈ its, bl x.1 lo = false ∧ blw x.1 hi) (h : Row P rs ks lo hi ns its) : ∀ x ∈ its, bl x.1 lo = false ∧ blw x.1 hi := by
 induction h with
 | one h => exact hP _ _ _ _ _ h
 | cons h h1 h2 _ ih =>
  intro x hx
  rcases List.mem_append.1 hx with hx | hx
  ·obtain ⟨a, b⟩ := hP _ _ _ _ _ h x hx
   exact ⟨a, blw_of (blw_bl b h1) h2⟩
  ·obtain ⟨a, b⟩ := ih x hx
   exact ⟨ble_trans (bl_ble h1) a, b⟩
theorem Row.focus (hP : ∀ r lo hi ns its, P r lo hi ns its → ∀ x ∈ its, bl x.1 lo = false ∧ blw x.1 hi) (h : Row P rs ks lo hi ns its) (i c : Nat) (hc : 1 ≤ c) (hl : i + c ≤ rs.length) :
  ∃ a b n1 n2 n3 t1 t2 t3, Row P ((rs.drop i).take c) ((ks.drop i).take (c - 1)) a b n2 t2 ∧ ns = n1 ++ n2 ++ n3 ∧ its = t1 ++ t2 ++ t3 ∧
   ((i = 0 ∧ a = lo) ∨ (0 < i ∧ ks[i - 1]? = some a ∧ bl lo a = true)) ∧ ((i + c = rs.length ∧ b = hi) ∨ (i + c < rs.length ∧ ks[i + c - 1]? = some b ∧ blw b hi ∧ bl a b = true)) ∧
   (∀ x ∈ t1, bl x.1 a = true) ∧ (∀ x ∈ t3, b ≠ ⟨#[]⟩ ∧ bl x.1 b = false) ∧
   ∀ (P' : NP) rs' ks' n2' t2', (∀ r lo hi ns' its', (∀ x ∈ ns', x ∈ n1 ∨ x ∈ n3) → P r lo hi ns' its' → P' r lo hi ns' its') → Row P' rs' ks' a b n2' t2' →
    Row P' (rs.take i ++ rs' ++ rs.drop (i + c)) (ks.take i ++ ks' ++ ks.drop (i + c - 1)) lo hi (n1 ++ n2' ++ n3) (t1 ++ t2' ++ t3) := by
 have hlen := h.len
 have right : ∀ (rs : List Rf) (ks : List ByteArray) (lo : ByteArray) (ns : List Rf) (its : List It), Row P rs ks lo hi ns its → ks.length + 1 = rs.length → c ≤ rs.length → ∃ b n2 n3 t2 t3, Row P (rs.take c) (ks.take (c - 1)) lo b n2 t2 ∧ ns = n2 ++ n3 ∧ its = t2 ++ t3 ∧
   ((c = rs.length ∧ b = hi) ∨ (c < rs.length ∧ ks[c - 1]? = some b ∧ blw b hi ∧ bl lo b = true)) ∧ (∀ x ∈ t3, b ≠ ⟨#[]⟩ ∧ bl x.1 b = false) ∧
   ∀ (P' : NP) rs' ks' n2' t2', (∀ r lo hi ns' its', (∀ x ∈ ns', x ∈ n3) → P r lo hi ns' its' → P' r lo hi ns' its') → Row P' rs' ks' lo b n2' t2' →
    Row P' (rs' ++ rs.drop c) (ks' ++ ks.drop (c - 1)) lo hi (n2' ++ n3) (t2' ++ t3) := by
  intro rs ks lo ns its h hlen hl
  by_cases e : c = rs.length
  ·refine ⟨hi, ns, [], its, [], ?_, by simp, by simp, .inl ⟨e, rfl⟩, by simp, fun P' rs' ks' n2' t2' _ hr => ?_⟩
   ·rw [List.take_of_length_le (by omega), List.take_of_length_le (by omega)]
    exact h
   ·rw [List.drop_of_length_le (by omega), List.drop_of_length_le (by omega)]
    simpa using hr
  ·obtain ⟨b, n2, t2, n3, t3, e1, e2, e3, e4, e5, e6, e7⟩ := h.cut (i := c) (by omega) (by omega)
   refine ⟨b, n2, n3, t2, t3, e1, e6, e7, .inr ⟨by omega, e5, e4, e3⟩, fun x hx => ⟨bl_ne e3, (e2.range hP x hx).1⟩, fun P' rs' ks' n2' t2' hm hr => ?_⟩
   have hd : ks.drop (c - 1) = b :: ks.drop c := by
    have hk : c - 1 < ks.length := (List.getElem?_eq_some_iff.1 e5).1
    rw [List.drop_eq_getElem_cons hk, (List.getElem?_eq_some_iff.1 e5).2]
    congr 2
    omega
   rw [hd]
   exact hr.join (e2.mono hm) e3 e4
 by_cases hi0 : i = 0
 ·subst hi0
  obtain ⟨b, n2, n3, t2, t3, e1, e2, e3, e4, e5, e6⟩ := right rs ks lo ns its h hlen (by omega)
  refine ⟨lo, b, [], n2, n3, [], t2, t3, by simpa using e1, by simpa using e2, by simpa using e3, .inl ⟨rfl, rfl⟩, by simpa using e4, by simp, e5, fun P' rs' ks' n2' t2' hm hr => ?_⟩
  simpa using e6 P' rs' ks' n2' t2' (fun r lo hi ns' its' hx => hm r lo hi ns' its' (fun x hx' => .inr (hx x hx'))) hr
 ·obtain ⟨a, n1, t1, m2, u2, f1, f2, f3, f4, f5, f6, f7⟩ := h.cut (i := i) (by omega) (by omega)
  have hl2 := f2.len
  obtain ⟨b, n2, n3, t2, t3, e1, e2, e3, e4, e5, e6⟩ := right _ _ a m2 u2 f2 hl2 (by rw [List.length_drop]; omega)
  refine ⟨a, b, n1, n2, n3, t1, t2, t3, e1, by rw [f6, e2, List.append_assoc], by rw [f7, e3, List.append_assoc], .inr ⟨by omega, f5, f3⟩, ?_, fun x hx => ?_, e5, fun P' rs' ks' n2' t2' hm hr => ?_⟩
  ·rcases e4 with ⟨e4, rfl⟩ | ⟨e4, e7, e8⟩
   ·exact .inl ⟨by rw [List.length_drop] at e4; omega, rfl⟩
   ·refine .inr ⟨by rw [List.length_drop] at e4; omega, ?_, e8⟩
    rw [List.getElem?_drop] at e7
    rw [← e7]
    congr 1
    omega
  ·exact blw_bl (f1.range hP x hx).2 f3
  ·have g1 := e6 P' rs' ks' n2' t2' (fun r lo hi ns' its' hx => hm r lo hi ns' its' (fun x hx' => .inr (hx x hx'))) hr
   have g2 := (f1.mono (P' := P') (fun r lo hi ns' its' hx => hm r lo hi ns' its' (fun x hx' => .inl (hx x hx')))).join g1 f3 f4
   have hd : (ks.drop i).drop (c - 1) = ks.drop (i + c - 1) := by rw [List.drop_drop]; congr 1; omega
   have hd2 : (rs.drop i).drop c = rs.drop (i + c) := by rw [List.drop_drop]
   have ht : ks.take i = ks.take (i - 1) ++ [a] := by
    obtain ⟨j, rfl⟩ : ∃ j, i = j + 1 := ⟨i - 1, by omega⟩
    rw [List.take_add_one]
    have f5' : ks[j]? = some a := f5
    rw [f5']
    rfl
   rw [hd, hd2] at g2
   rw [ht]
   simpa [List.append_assoc] using g2
def Rep (m : Mm) : Nat → NP
 | 0, r, lo, hi, ns, its => ∃ n, m r = some n ∧ n.leaf = true ∧ n.keys.length = n.refs.length ∧ Asc n.keys ∧ (∀ k ∈ n.keys, bl k lo = false ∧ blw k hi) ∧ ns = [r] ∧ its = itemsOf n
 | h + 1, r, lo, hi, ns, its => ∃ n ns', m r = some n ∧ n.leaf = false ∧ ns = r :: ns' ∧ Row (Rep m h) n.refs n.keys lo hi ns' its
variable {m m' : Mm} {r q : Rf}
theorem Rep.head {h : Nat} (hr : Rep m h r lo hi ns its) : ∃ n ns', m r = some n ∧ ns = r :: ns' := by
 cases h with
 | zero => obtain ⟨n, a, _, _, _, _, b, _⟩ := hr; exact ⟨n, [], a, b⟩
 | succ h => obtain ⟨n, ns', a, _, b, _⟩ := hr; exact ⟨n, ns', a, b⟩
theorem Rep.frame : ∀ {h : Nat} {r : Rf} {lo hi : ByteArray} {ns : List Rf} {its : List It}, Rep m h r lo hi ns its → (∀ x ∈ ns, m' x = m x) → Rep m' h r lo hi ns its
 | 0, r, lo, hi, ns, its, ⟨n, a, b, c, d, e, f, g⟩, hm => ⟨n, by rw [hm r (by rw [f]; simp), a], b, c, d, e, f, g⟩
 | h + 1, r, lo, hi, ns, its, ⟨n, ns', a, b, c, d⟩, hm => ⟨n, ns', by rw [hm r (by rw [c]; simp), a], b, c, d.mono (fun r lo hi ns1 its1 hs h1 => h1.frame (fun x hx => hm x (by rw [c]; exact List.mem_cons_of_mem _ (hs x hx))))⟩
theorem mem_items {n : Nd.Nd} {x : It} (h : x ∈ itemsOf n) : x.1 ∈ n.keys := by
 unfold itemsOf at h
 exact (List.of_mem_zip (a := x.1) (b := x.2) h).1
theorem Rep.range : ∀ {h : Nat} {r : Rf} {lo hi : ByteArray} {ns : List Rf} {its : List It}, Rep m h r lo hi ns its → ∀ x ∈ its, bl x.1 lo = false ∧ blw x.1 hi
 | 0, r, lo, hi, ns, its, ⟨n, a, b, c, d, e, f, g⟩ => fun x hx => e x.1 (mem_items (by rw [← g]; exact hx))
 | h + 1, r, lo, hi, ns, its, ⟨n, ns', a, b, c, d⟩ => d.range (fun r lo hi ns its h1 => h1.range)
theorem Row.all {Q : Rf → Prop} (hP : ∀ r lo hi ns its, P r lo hi ns its → ∀ x ∈ ns, Q x) (h : Row P rs ks lo hi ns its) : ∀ x ∈ ns, Q x := by
 induction h with
 | one h => exact hP _ _ _ _ _ h
 | cons h _ _ _ ih => exact fun x hx => (List.mem_append.1 hx).elim (hP _ _ _ _ _ h x) (ih x)
theorem Rep.isS : ∀ {h : Nat} {r : Rf} {lo hi : ByteArray} {ns : List Rf} {its : List It}, Rep m h r lo hi ns its → ∀ x ∈ ns, (m x).isSome = true
 | 0, r, lo, hi, ns, its, ⟨n, a, b, c, d, e, f, g⟩ => fun x hx => by rw [f] at hx; rw [List.mem_singleton.1 hx, a]; rfl
 | h + 1, r, lo, hi, ns, its, ⟨n, ns', a, b, c, d⟩ => fun x hx => by
  rw [c] at hx
  rcases List.mem_cons.1 hx with rfl | hx
  ·rw [a]; rfl
  ·exact d.all (Q := fun x => (m x).isSome = true) (fun r lo hi ns its h1 => h1.isS) x hx
theorem Row.long {k : Nat} (hP : ∀ r lo hi ns its, P r lo hi ns its → k < ns.length) (h : Row P rs ks lo hi ns its) : k < ns.length := by
 cases h with
 | one h => exact hP _ _ _ _ _ h
 | cons h _ _ _ => have := hP _ _ _ _ _ h; rw [List.length_append]; omega
theorem Rep.height : ∀ {h : Nat} {r : Rf} {lo hi : ByteArray} {ns : List Rf} {its : List It}, Rep m h r lo hi ns its → h < ns.length
 | 0, r, lo, hi, ns, its, ⟨n, a, b, c, d, e, f, g⟩ => by rw [f]; simp
 | h + 1, r, lo, hi, ns, its, ⟨n, ns', a, b, c, d⟩ => by
  rw [c, List.length_cons]
  have := d.long (fun r lo hi ns its h1 => h1.height)
  omega
theorem Rep.shape {h : Nat} (hr : Rep m h r lo hi ns its) {n : Nd.Nd} (hn : m r = Option.some n) : n.shape = true := by
 cases h with
 | zero =>
  obtain ⟨n', a, b, c, _⟩ := hr
  rw [hn] at a; cases a
  unfold Nd.Nd.shape shp
  rw [b, if_pos rfl, c]
  simp
 | succ h =>
  obtain ⟨n', ns', a, b, _, d⟩ := hr
  rw [hn] at a; cases a
  have := d.len
  unfold Nd.Nd.shape shp
  rw [b]
  simp
  omega
def IAsc (l : List It) : Prop := l.Pairwise fun x y => bl x.1 y.1 = true
theorem Row.asc (hP : ∀ r lo hi ns its, P r lo hi ns its → IAsc its ∧ ∀ x ∈ its, bl x.1 lo = false ∧ blw x.1 hi) (h : Row P rs ks lo hi ns its) : IAsc its := by
 induction h with
 | one h => exact (hP _ _ _ _ _ h).1
 | cons h h1 h2 h3 ih =>
  obtain ⟨a, b⟩ := hP _ _ _ _ _ h
  refine List.pairwise_append.2 ⟨a, ih, fun x hx y hy => ?_⟩
  exact bl_of_ble (blw_bl (b x hx).2 h1) (h3.range (fun r lo hi ns its h => (hP r lo hi ns its h).2) y hy).1
theorem items_asc {n : Nd.Nd} (h : Asc n.keys) (hl : n.keys.length = n.refs.length) : IAsc (itemsOf n) := by
 unfold IAsc itemsOf
 have : (n.keys.zip n.refs).map (·.1) = n.keys := List.map_fst_zip (by omega)
 have h2 : Asc ((n.keys.zip n.refs).map (·.1)) := by rw [this]; exact h
 exact List.pairwise_map.1 h2
theorem Rep.asc : ∀ {h : Nat} {r : Rf} {lo hi : ByteArray} {ns : List Rf} {its : List It}, Rep m h r lo hi ns its → IAsc its
 | 0, r, lo, hi, ns, its, ⟨n, a, b, c, d, e, f, g⟩ => by rw [g]; exact items_asc d c
 | h + 1, r, lo, hi, ns, its, ⟨n, ns', a, b, c, d⟩ => d.asc (fun r lo hi ns its h1 => ⟨h1.asc, h1.range⟩)
def insI (x : It) : List It → List It
 | [] => [x]
 | y :: l => if bl x.1 y.1 then x :: y :: l else y :: insI x l
theorem insI_left {x : It} : ∀ {a b : List It}, (∀ y ∈ a, bl y.1 x.1 = true) → insI x (a ++ b) = a ++ insI x b
 | [], b, _ => rfl
 | y :: a, b, h => by
  have h1 := h y (by simp)
  rw [List.cons_append, insI, if_neg (by rw [bl_ble h1]; simp), insI_left (fun y hy => h y (by simp [hy]))]
  rfl
theorem insI_head {x : It} {b : List It} (h : ∀ y, b.head? = some y → bl x.1 y.1 = true) : insI x b = x :: b := by
 cases b with
 | nil => rfl
 | cons y b => rw [insI, if_pos (h y rfl)]
theorem insI_mid {x : It} {a b c : List It} (ha : ∀ y ∈ a, bl y.1 x.1 = true) (hc : ∀ y ∈ c, bl x.1 y.1 = true) : insI x (a ++ b ++ c) = a ++ insI x b ++ c := by
 rw [List.append_assoc, insI_left ha, List.append_assoc]
 congr 1
 induction b with
 | nil =>
  rw [List.nil_append, insI_head (fun y hy => hc y (by cases c <;> simp_all))]
  rfl
 | cons y b ih =>
  rw [List.cons_append, insI, insI]
  split
  ·rfl
  ·rw [ih]; rfl
def delI (k : ByteArray) (l : List It) : List It := l.filter fun x => decide (x.1 ≠ k)
theorem delI_mid {k : ByteArray} {a b c : List It} (ha : ∀ y ∈ a, bl y.1 k = true) (hc : ∀ y ∈ c, bl k y.1 = true) : delI k (a ++ b ++ c) = a ++ delI k b ++ c := by
 unfold delI
 rw [List.filter_append, List.filter_append]
 rw [List.filter_eq_self (l := a) |>.2 (fun x hx => by have := ha x hx; simp only [decide_eq_true_eq]; intro e; rw [e, bl_irr] at this; cases this)]
 rw [List.filter_eq_self (l := c) |>.2 (fun x hx => by have := hc x hx; simp only [decide_eq_true_eq]; intro e; rw [e, bl_irr] at this; cases this)]
theorem Row.keys (h : Row P rs ks lo hi ns its) : Asc ks ∧ ∀ k ∈ ks, bl lo k = true ∧ blw k hi := by
 induction h with
 | one _ => exact ⟨.nil, by simp⟩
 | cons h h1 h2 _ ih =>
  refine ⟨List.pairwise_cons.2 ⟨fun x hx => (ih.2 x hx).1, ih.1⟩, fun x hx => ?_⟩
  rcases List.mem_cons.1 hx with rfl | hx
  ·exact ⟨h1, h2⟩
  ·exact ⟨bl_trans h1 (ih.2 x hx).1, (ih.2 x hx).2⟩
theorem plc_ahead {k : ByteArray} : ∀ {l : List ByteArray} {j : Nat} {x : ByteArray}, j < plc k l → l[j]? = some x → bl x k = true
  | [], j, x, _, h => by simp at h
  | y :: l, j, x, hj, h => by
    unfold plc at hj
    split at hj
    · rename_i e
      cases j with
      | zero => have e2 : y = x := by simpa using h
                rw [← e2]; exact e
      | succ j =>
        have h3 : j < plc k l := by omega
        exact plc_ahead h3 (by simpa using h)
    · omega
theorem plc_here {k : ByteArray} : ∀ {l : List ByteArray} {x : ByteArray}, l[plc k l]? = some x → bl x k = false
 | [], x, h => by simp at h
 | y :: l, x, h => by
  unfold plc at h
  split at h
  ·exact plc_here (l := l) (by simpa using h)
  ·rename_i e
   have e2 : y = x := by simpa using h
   rw [← e2]; simpa using e
theorem asc_lt {l : List ByteArray} (ha : Asc l) {i j : Nat} {x y : ByteArray} (hij : i < j) (hi : l[i]? = some x) (hj : l[j]? = some y) : bl x y = true := by
 obtain ⟨h1, rfl⟩ := List.getElem?_eq_some_iff.1 hi
 obtain ⟨h2, rfl⟩ := List.getElem?_eq_some_iff.1 hj
 exact List.pairwise_iff_getElem.1 ha i j h1 h2 hij
theorem plc_behind {k : ByteArray} {l : List ByteArray} (ha : Asc l) (hf : fnd k l = false) {j : Nat} {x : ByteArray} (hj : plc k l ≤ j) (h : l[j]? = some x) : bl k x = true := by
 obtain ⟨y, hy⟩ : ∃ y, l[plc k l]? = some y := ⟨_, List.getElem?_eq_getElem (Nat.lt_of_le_of_lt hj (List.getElem?_eq_some_iff.1 h).1)⟩
 have h1 := plc_here hy
 have h2 : bl k y = true := by
  cases e : bl k y
  ·have := bl_tot e h1
   subst this
   rw [(fnd_at _ _).2 hy] at hf; cases hf
  ·rfl
 by_cases e : plc k l = j
 ·rw [e, h] at hy; cases hy; exact h2
 ·have h3 : plc k l < j := by omega
  exact bl_trans h2 (asc_lt ha h3 hy h)
theorem child_facts {k : ByteArray} {l : List ByteArray} (ha : Asc l) {i : Nat} (hi : plc k l + (if fnd k l then 1 else 0) = i) : i ≤ l.length ∧ (∀ a, 0 < i → l[i - 1]? = some a → bl k a = false) ∧ (∀ b, l[i]? = some b → bl k b = true) := by
 have hle := plc_le k l
 cases e : fnd k l
 ·rw [e] at hi
  simp only [Bool.false_eq_true, if_false, Nat.add_zero] at hi
  refine ⟨by omega, fun a h0 h => ?_, fun b h => plc_behind ha e (by omega) h⟩
  have h3 : i - 1 < plc k l := by omega
  exact bl_ble (plc_ahead h3 h)
 ·rw [e] at hi
  simp only [if_true] at hi
  have h1 := (fnd_at _ _).1 e
  have h2 := (List.getElem?_eq_some_iff.1 h1).1
  subst hi
  refine ⟨by omega, fun a h0 h => ?_, fun b h => asc_lt ha (Nat.lt_succ_self _) h1 h⟩
  rw [Nat.add_sub_cancel, h1] at h
  cases h
  exact bl_irr k
def Tm.map (t : Tm) : Mm := fun r => if t.has r then some (t.at r) else none
theorem Tm.map_at {t : Tm} {r : Rf} {n : Nd.Nd} (h : t.map r = some n) : t.at r = n := by
 unfold Tm.map at h
 split at h
 ·exact Option.some.inj h
 ·cases h
theorem Rep.dn {t : Tm} {key : ByteArray} : ∀ {h : Nat} {r : Rf} {lo hi : ByteArray} {ns : List Rf} {its : List It}, Rep t.map h r lo hi ns its → (∀ x ∈ ns, (t.at x).refs.length ≤ 1000000) → ∃ l q, Dn t key r l q ∧ l.length = h
 | 0, r, lo, hi, ns, its, ⟨n, a, b, c, d, e, f, g⟩, hs => ⟨[], r, .leaf r (by rw [Tm.map_at a]; exact b), rfl⟩
 | h + 1, r, lo, hi, ns, its, ⟨n, ns', a, b, c, d⟩, hs => by
  have hsh := Rep.shape (h := h + 1) ⟨n, ns', a, b, c, d⟩ a
  have hk := d.keys
  have hl := d.len
  have hat := Tm.map_at a
  obtain ⟨i, hi⟩ : ∃ i, plc key n.keys + (if fnd key n.keys then 1 else 0) = i := ⟨_, rfl⟩
  obtain ⟨h1, -, -⟩ := child_facts hk.1 hi
  obtain ⟨A, B, n1, n2, n3, t1, t2, t3, e1, e2, e3, -⟩ := d.focus (fun _ _ _ _ _ h => h.range) i 1 (Nat.le_refl _) (by omega)
  obtain ⟨r', hr'⟩ : ∃ r', n.refs[i]? = some r' := ⟨_, List.getElem?_eq_getElem (by omega)⟩
  have hd : (n.refs.drop i).take 1 = [r'] := by
   rw [List.drop_eq_getElem_cons (by omega), (List.getElem?_eq_some_iff.1 hr').2]
   rfl
  rw [hd] at e1
  have e1' : Rep t.map h r' A B n2 t2 := by
   cases e1 with
   | one e1 => exact e1
  obtain ⟨l, q, hdn, hll⟩ := e1'.dn (fun x hx => hs x (by rw [c, e2]; simp [hx]))
  have hc : n.child key = i := by unfold Nd.Nd.child; rw [b, hsh]; simpa using hi
  have hrl : n.refs.length ≤ 1000000 := by rw [← hat]; exact hs r (by rw [c]; simp)
  refine ⟨_, q, .step r r' l q (by rw [hat]; exact b) (by rw [hat]; exact ⟨by omega, hrl, hk.1⟩) (by rw [hat, hc]; exact hr') hdn, by simp [hll]⟩
end
section
attribute [local irreducible] bl
variable {P P' : NP} {rs rs1 rs2 : List Rf} {ks ks1 ks2 : List ByteArray} {lo hi mid : ByteArray} {ns ns1 ns2 : List Rf} {its its1 its2 : List It} {m m' : Mm} {r q : Rf}
theorem zip_cut (a b : List ByteArray) (c d : List Rf) (k : ByteArray) (r : Rf) (h : a.length = c.length) : (a ++ [k] ++ b).zip (c ++ [r] ++ d) = a.zip c ++ (k, r) :: b.zip d := by
 rw [List.append_assoc, List.append_assoc, List.zip_append h]
 rfl
theorem insI_zip {k : ByteArray} {r : Rf} {l : List ByteArray} {rs : List Rf} (ha : Asc l) (hf : fnd k l = false) (hl : l.length = rs.length) :
  insI (k, r) (l.zip rs) = (l.take (plc k l)).zip (rs.take (plc k l)) ++ (k, r) :: (l.drop (plc k l)).zip (rs.drop (plc k l)) := by
 have e : l.zip rs = (l.take (plc k l)).zip (rs.take (plc k l)) ++ (l.drop (plc k l)).zip (rs.drop (plc k l)) := by
  rw [← List.zip_append (by rw [List.length_take, List.length_take, hl]), List.take_append_drop, List.take_append_drop]
 have h1 : ∀ y ∈ (l.take (plc k l)).zip (rs.take (plc k l)), bl y.1 k = true := fun y hy => by
  have hm : y.1 ∈ l.take (plc k l) := (List.of_mem_zip (a := y.1) (b := y.2) hy).1
  obtain ⟨j, hj⟩ := List.getElem?_of_mem hm
  have hlt := (List.getElem?_eq_some_iff.1 hj).1
  rw [List.length_take] at hlt
  rw [List.getElem?_take, if_pos (by omega)] at hj
  have h3 : j < plc k l := by omega
  exact plc_ahead h3 hj
 have h2 : ∀ y, ((l.drop (plc k l)).zip (rs.drop (plc k l))).head? = some y → bl k y.1 = true := fun y hy => by
  have hm : y ∈ (l.drop (plc k l)).zip (rs.drop (plc k l)) := List.mem_of_head? hy
  have hm : y.1 ∈ l.drop (plc k l) := (List.of_mem_zip (a := y.1) (b := y.2) hm).1
  obtain ⟨j, hj⟩ := List.getElem?_of_mem hm
  rw [List.getElem?_drop] at hj
  exact plc_behind ha hf (Nat.le_add_right _ _) hj
 rw [e, insI_left h1, insI_head h2]
theorem asc_ins {k : ByteArray} {l : List ByteArray} (ha : Asc l) (hf : fnd k l = false) : Asc (l.take (plc k l) ++ [k] ++ l.drop (plc k l)) := by
 rw [List.append_assoc, List.singleton_append]
 refine List.pairwise_append.2 ⟨ha.sublist (List.take_sublist _ _), List.pairwise_cons.2 ⟨fun y hy => ?_, ha.sublist (List.drop_sublist _ _)⟩, fun x hx y hy => ?_⟩
 ·obtain ⟨j, hj⟩ := List.getElem?_of_mem hy
  rw [List.getElem?_drop] at hj
  exact plc_behind ha hf (Nat.le_add_right _ _) hj
 ·have hx1 : bl x k = true := by
   obtain ⟨j, hj⟩ := List.getElem?_of_mem hx
   have hlt := (List.getElem?_eq_some_iff.1 hj).1
   rw [List.length_take] at hlt
   rw [List.getElem?_take, if_pos (by omega)] at hj
   have h3 : j < plc k l := by omega
   exact plc_ahead h3 hj
  rcases List.mem_cons.1 hy with rfl | hy
  ·exact hx1
  ·obtain ⟨j, hj⟩ := List.getElem?_of_mem hy
   rw [List.getElem?_drop] at hj
   exact bl_trans hx1 (plc_behind ha hf (by omega) hj)
theorem Rep.putLeaf {n : Nd.Nd} {key : ByteArray} {r0 : Rf} (h : Rep m 0 r lo hi ns its) (hn : m r = some n) (h1 : bl key lo = false) (h2 : blw key hi) (hf : fnd key n.keys = false) :
  Rep (upd m r (n.put key r0).1) 0 r lo hi ns (insI (key, r0) its) ∧ (n.put key r0).1.refs.length = n.refs.length + 1 ∧ (n.put key r0).1.ver = wrap64 (n.ver + 1) := by
 obtain ⟨n', a, b, c, d, e, f, g⟩ := h
 rw [hn] at a; cases a
 have hle := plc_le key n.keys
 have hp : (n.put key r0).1 = { n with ver := wrap64 (n.ver + 1), keys := n.keys.take (plc key n.keys) ++ [key] ++ n.keys.drop (plc key n.keys), refs := n.refs.take (plc key n.keys) ++ [r0] ++ n.refs.drop (plc key n.keys) } := by
  unfold Nd.Nd.put
  rw [b, c, hf]
  simp
 rw [hp]
 refine ⟨⟨_, upd_self _ _ _, b, ?_, asc_ins d hf, fun k hk => ?_, f, ?_⟩, ?_, rfl⟩
 ·simp only [List.length_append, List.length_take, List.length_drop, List.length_singleton]; omega
 ·rcases List.mem_append.1 hk with hk | hk
  ·rcases List.mem_append.1 hk with hk | hk
   ·exact e k (List.mem_of_mem_take hk)
   ·rw [List.mem_singleton.1 hk]; exact ⟨h1, h2⟩
  ·exact e k (List.mem_of_mem_drop hk)
 ·rw [g]
  unfold itemsOf
  rw [insI_zip d hf c]
  simp only []
  rw [zip_cut _ _ _ _ _ _ (by rw [List.length_take, List.length_take, c])]
 ·simp only [List.length_append, List.length_take, List.length_drop, List.length_singleton]; omega
theorem Rep.cutNode {h : Nat} {n : Nd.Nd} (hr : Rep m h r lo hi ns its) (hn : m r = some n) (h2 : 2 ≤ n.refs.length) (hq : q ∉ ns) (hnd : ns.Nodup) :
  ∃ a mid b, n.split = (a, mid, b) ∧ bl lo mid = true ∧ blw mid hi ∧ a.refs.length = n.half ∧ b.refs.length = n.refs.length - n.half ∧ a.ver = wrap64 (n.ver + 1) ∧ b.ver = 1 ∧ a.leaf = n.leaf ∧ b.leaf = n.leaf ∧
   ∃ ns1 ns2 its1 its2, Rep (upd (upd m r a) q b) h r lo mid ns1 its1 ∧ Rep (upd (upd m r a) q b) h q mid hi ns2 its2 ∧ its = its1 ++ its2 ∧ ∃ nl nr, ns = r :: (nl ++ nr) ∧ ns1 = r :: nl ∧ ns2 = q :: nr := by
 have hsh := hr.shape hn
 have hs : n.split = ({ n with ver := wrap64 (n.ver + 1), keys := n.keys.take n.keep, refs := n.refs.take n.half }, n.keys.getD n.keep ⟨#[]⟩, ⟨n.leaf, 1, n.keys.drop n.half, n.refs.drop n.half⟩) := by
  unfold Nd.Nd.split
  rw [hsh]
  simp [h2]
 have hh : n.half = n.refs.length - n.refs.length / 2 := rfl
 have hrq : r ≠ q := by
  obtain ⟨n', ns', _, e⟩ := hr.head
  rintro rfl
  rw [e] at hq; simp at hq
 cases h with
 | zero =>
  obtain ⟨n', a, b, c, d, e, f, g⟩ := hr
  rw [hn] at a; cases a
  have hk : n.keep = n.half := by unfold Nd.Nd.keep; rw [b, if_pos rfl]
  have hlt : n.half < n.keys.length := by omega
  obtain ⟨mid, hmid⟩ : ∃ mid, n.keys[n.half]? = some mid := ⟨_, List.getElem?_eq_getElem hlt⟩
  have hg : n.keys.getD n.keep ⟨#[]⟩ = mid := by rw [hk, List.getD_eq_getElem?_getD, hmid]; rfl
  obtain ⟨k0, hk0⟩ : ∃ k0, n.keys[0]? = some k0 := ⟨_, List.getElem?_eq_getElem (by omega)⟩
  have hpos : 0 < n.half := by omega
  have hlo : bl lo mid = true := ble_of_bl (e k0 (List.mem_of_getElem? hk0)).1 (asc_lt d hpos hk0 hmid)
  have hhi : blw mid hi := (e mid (List.mem_of_getElem? hmid)).2
  refine ⟨_, _, _, hs, by rw [hg]; exact hlo, by rw [hg]; exact hhi, by simp only [List.length_take]; omega, by simp only [List.length_drop], rfl, rfl, rfl, rfl, [r], [q], (n.keys.take n.half).zip (n.refs.take n.half), (n.keys.drop n.half).zip (n.refs.drop n.half), ?_, ?_, ?_, [], [], by rw [f]; rfl, rfl, rfl⟩
  ·refine ⟨{ n with ver := wrap64 (n.ver + 1), keys := n.keys.take n.keep, refs := n.refs.take n.half }, by rw [upd_ne hrq]; exact upd_self _ _ _, b, ?_, ?_, fun k hk' => ?_, rfl, by unfold itemsOf; simp only []; rw [hk]⟩
   ·simp only [List.length_take]; omega
   ·simp only []; rw [hk]; exact d.sublist (List.take_sublist _ _)
   ·simp only [] at hk'
    rw [hk] at hk'
    rw [hg]
    refine ⟨(e k (List.mem_of_mem_take hk')).1, .inr ?_⟩
    obtain ⟨j, hj⟩ := List.getElem?_of_mem hk'
    have hl := (List.getElem?_eq_some_iff.1 hj).1
    rw [List.length_take] at hl
    rw [List.getElem?_take, if_pos (by omega)] at hj
    have h3 : j < n.half := by omega
    exact asc_lt d h3 hj hmid
  ·refine ⟨_, upd_self _ _ _, b, ?_, ?_, fun k hk' => ?_, rfl, rfl⟩
   ·simp only [List.length_drop]; omega
   ·exact d.sublist (List.drop_sublist _ _)
   ·simp only [] at hk'
    rw [hg]
    refine ⟨?_, (e k (List.mem_of_mem_drop hk')).2⟩
    obtain ⟨j, hj⟩ := List.getElem?_of_mem hk'
    rw [List.getElem?_drop] at hj
    by_cases h0 : j = 0
    ·subst h0
     rw [Nat.add_zero, hmid] at hj
     cases hj
     exact bl_irr _
    ·have h3 : n.half < n.half + j := by omega
     exact bl_ble (asc_lt d h3 hmid hj)
  ·rw [g]
   unfold itemsOf
   rw [← List.zip_append (by rw [List.length_take, List.length_take, c]), List.take_append_drop, List.take_append_drop]
 | succ h =>
  obtain ⟨n', ns', a, b, c, d⟩ := hr
  rw [hn] at a; cases a
  have hl := d.len
  have hk : n.keep = n.half - 1 := by unfold Nd.Nd.keep; rw [b]; rfl
  obtain ⟨mid, n1, t1, n2, t2, e1, e2, e3, e4, e5, rfl, rfl⟩ := d.cut (i := n.half) (by omega) (by omega)
  have hg : n.keys.getD n.keep ⟨#[]⟩ = mid := by rw [hk, List.getD_eq_getElem?_getD, e5]; rfl
  have hx : ∀ x ∈ n1 ++ n2, upd (upd m r { n with ver := wrap64 (n.ver + 1), keys := n.keys.take n.keep, refs := n.refs.take n.half }) q ⟨n.leaf, 1, n.keys.drop n.half, n.refs.drop n.half⟩ x = m x := fun x hx => by
   rw [upd_ne (fun e => hq (by rw [c, ← e]; exact List.mem_cons_of_mem _ hx)), upd_ne (fun e => ?_)]
   rw [c] at hnd
   exact (List.nodup_cons.1 hnd).1 (by rw [← e]; exact hx)
  refine ⟨_, _, _, hs, by rw [hg]; exact e3, by rw [hg]; exact e4, by simp only [List.length_take]; omega, by simp only [List.length_drop], rfl, rfl, rfl, rfl, r :: n1, q :: n2, t1, t2, ?_, ?_, rfl, n1, n2, c, rfl, rfl⟩
  ·refine ⟨{ n with ver := wrap64 (n.ver + 1), keys := n.keys.take n.keep, refs := n.refs.take n.half }, n1, by rw [upd_ne hrq]; exact upd_self _ _ _, b, rfl, ?_⟩
   rw [hg]
   simp only []
   rw [hk]
   refine e1.mono (fun r lo hi ns' its' hs h1 => h1.frame (fun x hx' => ?_))
   rw [← hk]
   exact hx x (List.mem_append_left _ (hs x hx'))
  ·refine ⟨⟨n.leaf, 1, n.keys.drop n.half, n.refs.drop n.half⟩, n2, upd_self _ _ _, b, rfl, ?_⟩
   rw [hg]
   exact e2.mono (fun r lo hi ns' its' hs h1 => h1.frame (fun x hx' => hx x (List.mem_append_right _ (hs x hx'))))
end
section
variable {N : Nat}
theorem has_put {s : Ar} {i q : Int} (h : s.has i q = true) (x : List Value) (j g : Int) : (s.put i x).has j g = s.has j g := by
 obtain ⟨h1, h2, h3, h4⟩ := Ar.has_lt h
 have hn : (s.put i x).n = s.n := by simp [Ar.n, Ar.put]
 have hs : (s.put i x).slot j = if j.toNat = i.toNat then ⟨x, (s.slot i).gen, true⟩ else s.slot j := by
  rw [Ar.put, slot_set _ _ _ _ _ _ (by omega)]
 unfold Ar.has
 rw [hn, hs]
 by_cases e : j.toNat = i.toNat
 ·rw [if_pos e]
  have : s.slot j = s.slot i := by simp only [Ar.slot, e]
  rw [this, h3]
 ·rw [if_neg e]
theorem has_take {s : Ar} {m : Nat} {X : List Value → Prop} (h : s.Ok m X) (hr : ¬ s.room = 0) (x : List Value) (j g : Int) : (s.take x).has j g = if j = s.next then decide (s.gen = g) else s.has j g := by
 obtain ⟨h1, h2⟩ := h.next hr
 have hn : (s.take x).n = s.n := by simp [Ar.n, Ar.take]
 have hs : (s.take x).slot j = if j.toNat = s.next.toNat then ⟨x, s.gen, true⟩ else s.slot j := by
  rw [Ar.take, slot_set _ _ _ _ _ _ (by omega)]
 by_cases e : j = s.next
 ·rw [if_pos e]
  unfold Ar.has
  rw [hn, hs, if_pos (by rw [e])]
  have : 0 ≤ j ∧ j < (s.n : Int) := by omega
  simp [this]
 ·rw [if_neg e]
  unfold Ar.has
  rw [hn, hs]
  by_cases e2 : j.toNat = s.next.toNat
  ·have : ¬ (0 ≤ j ∧ j < (s.n : Int)) := by omega
   simp [this]
  ·rw [if_neg e2]
def Tm.Wf (t : Tm) (N : Nat) : Prop := t.p.Ok 0 (fun _ => True) ∧ t.ns.length = N ∧ t.p.n = N
theorem Tm.map_has {t : Tm} {r : Rf} {n : Nd.Nd} (h : t.map r = some n) : t.has r = true := by
 unfold Tm.map at h
 split at h
 ·rename_i e; exact e
 ·cases h
theorem Tm.at_ns {t : Tm} {r : Rf} (h : t.has r = true) : t.at r = t.ns.getD r.1.toNat nd0 := by unfold Tm.at; rw [if_pos h]
theorem Tm.map_set {t : Tm} {r : Rf} {n0 n : Nd.Nd} (hw : t.Wf N) (h : t.map r = some n0) : (t.set r n).map = upd t.map r n ∧ (t.set r n).Wf N ∧ (t.set r n).root = t.root ∧ (t.set r n).gone = t.gone ∧ (t.set r n).p.room = t.p.room := by
 have hh := Tm.map_has h
 have hh' : t.p.has r.1 r.2 = true := hh
 obtain ⟨h1, h2, h3, h4⟩ := Ar.has_lt hh'
 obtain ⟨w1, w2, w3⟩ := hw
 have e : t.set r n = { t with p := t.p.put r.1 [], ns := t.ns.set r.1.toNat n } := by unfold Tm.set; rw [if_pos hh]
 have hhas : ∀ x, (t.set r n).has x = t.has x := fun x => by rw [e]; exact has_put hh' [] x.1 x.2
 have hns : (t.set r n).ns = t.ns.set r.1.toNat n := by rw [e]
 have hn : (t.p.put r.1 []).n = t.p.n := by simp [Ar.n, Ar.put]
 refine ⟨funext fun x => ?_, ⟨by rw [e]; exact w1.put hh' rfl trivial, by rw [hns, List.length_set, w2], by rw [e, ← w3]; exact hn⟩, by rw [e], by rw [e], by rw [e]; simp only [Ar.room, hn, Ar.held_put hh']⟩
 by_cases ex : x = r
 ·subst ex
  rw [upd_self]
  unfold Tm.map
  rw [hhas, if_pos hh, Tm.at_ns (by rw [hhas]; exact hh), hns, List.getD_eq_getElem?_getD, List.getElem?_set_self (by omega)]
  rfl
 ·rw [upd_ne ex]
  unfold Tm.map
  rw [hhas]
  cases hx : t.has x
  ·rfl
  ·obtain ⟨k1, k2, k3, k4⟩ := Ar.has_lt (show t.p.has x.1 x.2 = true from hx)
   have hne : ¬ r.1.toNat = x.1.toNat := fun e1 => ex (by
    have e2 : x.1 = r.1 := by omega
    have e3 : x.2 = r.2 := by rw [← k4, ← h4, e2]
    exact Prod.ext e2 e3)
   rw [if_pos rfl, if_pos rfl, Tm.at_ns (by rw [hhas]; exact hx), Tm.at_ns hx, hns, List.getD_eq_getElem?_getD, List.getElem?_set_ne hne, ← List.getD_eq_getElem?_getD]
theorem Tm.map_take {t : Tm} {n : Nd.Nd} (hw : t.Wf N) (h : ¬ t.p.room = 0) : (t.take n).map = upd t.map t.tk n ∧ (t.take n).Wf N ∧ (t.take n).root = t.root ∧ (t.take n).gone = t.gone ∧ (t.take n).p.room = t.p.room - 1 ∧ t.has t.tk = false := by
 obtain ⟨w1, w2, w3⟩ := hw
 obtain ⟨h1, h2⟩ := w1.next h
 have hfr := w1.free
 have hheld := w1.held_take h []
 have e : t.take n = { t with p := t.p.take [], ns := t.ns.set t.p.next.toNat n } := by unfold Tm.take; rw [if_neg h]
 have ek : t.tk = (t.p.next, t.p.gen) := by unfold Tm.tk; rw [if_neg h]
 have hhas : ∀ x, (t.take n).has x = if x.1 = t.p.next then decide (t.p.gen = x.2) else t.has x := fun x => by rw [e]; exact has_take w1 h [] x.1 x.2
 have hns : (t.take n).ns = t.ns.set t.p.next.toNat n := by rw [e]
 have hn : (t.p.take []).n = t.p.n := by simp [Ar.n, Ar.take]
 have hno : ∀ x : Rf, x.1 = t.p.next → t.has x = false := fun x hx => by
  cases hb : t.has x
  ·rfl
  ·obtain ⟨k1, k2, k3, k4⟩ := Ar.has_lt (show t.p.has x.1 x.2 = true from hb)
   rw [hx, hfr] at k3
   cases k3
 refine ⟨funext fun x => ?_, ⟨by rw [e]; exact w1.take h rfl trivial, by rw [hns, List.length_set, w2], by rw [e, ← w3]; exact hn⟩, by rw [e], by rw [e], by rw [e]; simp only [Ar.room, hn, hheld]; omega, hno _ (by rw [ek])⟩
 by_cases ex : x = t.tk
 ·have hx : (t.take n).has x = true := by rw [hhas, ex, ek]; simp
  have hx1 : x.1 = t.p.next := by rw [ex, ek]
  rw [ex, upd_self, ← ex]
  unfold Tm.map
  rw [if_pos hx, Tm.at_ns hx, hns, hx1, List.getD_eq_getElem?_getD, List.getElem?_set_self (by omega)]
  rfl
 ·rw [upd_ne ex]
  unfold Tm.map
  by_cases hx1 : x.1 = t.p.next
  ·have : ¬ t.p.gen = x.2 := fun e2 => ex (by rw [ek]; exact Prod.ext hx1 e2.symm)
   rw [hhas, if_pos hx1, hno x hx1]
   simp [this]
  ·have hxh : (t.take n).has x = t.has x := by rw [hhas, if_neg hx1]
   rw [hxh]
   cases hx : t.has x
   ·rfl
   ·obtain ⟨k1, k2, k3, k4⟩ := Ar.has_lt (show t.p.has x.1 x.2 = true from hx)
    have hne : ¬ t.p.next.toNat = x.1.toNat := fun e1 => hx1 (by omega)
    rw [if_pos rfl, if_pos rfl, Tm.at_ns (by rw [hxh]; exact hx), Tm.at_ns hx, hns, List.getD_eq_getElem?_getD, List.getElem?_set_ne hne, ← List.getD_eq_getElem?_getD]
end
end Go.Proofs.Ytglbcfkmaamhaaa.Tr
