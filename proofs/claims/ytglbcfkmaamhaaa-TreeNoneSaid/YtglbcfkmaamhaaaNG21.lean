/- A text of this claim: parts TsO TsP TsQ TsR TsS TsT. No condition. -/
import Derived.Test.YtglbcfkmaamhaaaNG20
import Derived.Test.YtglbcfkmaamhaaaNG9
import Derived.Test.YtglbcfkmaamhaaaNG13
import Derived.Test.YtglbcfkmaamhaaaNG14
import Derived.Test.YtglbcfkmaamhaaaNG10
section
set_option linter.unusedVariables false
set_option linter.unusedSimpArgs false
namespace Go.Proofs.Ytglbcfkmaamhaaa.Tr
open Go Go.RowKit Go.Proofs.YtglbcfkmaamhaaaW.PrintWords Go.Proofs.YtglbcfkmaamhaaaW.PrintLast Go.Proofs.YtglbcfkmaamhaaaW.PrintMore Go.Proofs.Ytglbcfkmaamhaaa.Hv Go.Proofs.Ytglbcfkmaamhaaa.Arm Go.Proofs.Ytglbcfkmaamhaaa.Nd Go.Proofs.Ytglbcfkmaamhaaa.ArN
variable {w0 w w1 : World} {L L' R : List Ob} {K : Nat × Nat × Nat} {t : Tm} {on : Value}
def emp (s : ByteArray) : Bool := s.toList.isEmpty
/-- A key lies where it may. -/
def inK (lo hi k : ByteArray) : Bool := !bl k lo && (emp hi || bl k hi)
def okN (b : Bool) (lo hi : ByteArray) (l : List ByteArray) : Bool := l.foldl (fun b k => b && inK lo hi k) b
theorem okN_snoc (b : Bool) (lo hi : ByteArray) (l : List ByteArray) (k : ByteArray) : okN b lo hi (l ++ [k]) = (okN b lo hi l && inK lo hi k) := by simp [okN]
structure Chk where
 cnt : Int
 ok : Bool
 dp : Int
def Chk.dp1 (c : Chk) (d : Int) : Int := if c.dp < 0 then d else c.dp
def chkN (n : Nd.Nd) (c : Chk) (d : Int) (b : Bool) : Chk := if n.leaf then ⟨c.cnt + 1, b && decide (c.dp1 d = d), c.dp1 d⟩ else ⟨c.cnt + 1, b, c.dp⟩
def chkS (c : Chk) (v : Vis) : Chk := chkN v.n c v.d (okN (c.ok && v.n.check) v.lo v.hi v.n.keys)
def chb (g3 g4 g5 : Nat) (c : Chk) : List Ob := [cb g5 3 #[.int .i64 c.cnt], cb g3 4 #[.bool c.ok], cb g4 3 #[.int .i64 c.dp]]
set_option maxHeartbeats 16000000 in
set_option maxRecDepth 100000 in
theorem chkT.calls {g3 g4 g5 : Nat} {cnt dp : Int} {Q : List Ob} (hv : Hv w0 w (cb g5 3 #[.int .i64 cnt] :: cb g3 4 #[.bool true] :: cb g4 3 #[.int .i64 dp] :: Q)) (hRQ : ∀ p ∈ R, p ∈ Q) {n : Nd.Nd} {ka : Option Addr} {kc : Nat} {ra : Option Addr} {rc : Nat} (hn : NR w0 R n ka kc ra rc) (hs : Nd.Sm n) (hc0 : 0 ≤ cnt) (hc : cnt ≤ 1000000) (d : Int) (lo hi : ByteArray) {c2 : Chk} (hc2 : chkN n ⟨cnt, true, dp⟩ d (okN n.check lo hi n.keys) = c2) :
  Calls Try.prog 125 #[.agg #[.bool n.leaf, .int .i64 n.ver, .slice ka n.keys.length kc, .slice ra n.refs.length rc], .int .i64 d, .string lo, .string hi, .pointer (some ⟨g5, 0, none⟩), .pointer (some ⟨g3, 0, none⟩), .pointer (some ⟨g4, 0, none⟩)] w fun e w' => e = .returned (.tuple #[]) ∧ Hv w0 w' (chb g3 g4 g5 c2 ++ Q) := by
 have hu59 := Try.underlying59
 have hu57 := Try.underlying57
 have hu31 := Try.underlying31
 have HV := Aside0.mk (show Hv w0 (w.alloc (.cells #[.bool n.leaf, .int .i64 n.ver, .slice ka n.keys.length kc, .slice ra n.refs.length rc] 59)) (cb w.heap.size 59 #[.bool n.leaf, .int .i64 n.ver, .slice ka n.keys.length kc, .slice ra n.refs.length rc] :: cb g5 3 #[.int .i64 cnt] :: cb g3 4 #[.bool true] :: cb g4 3 #[.int .i64 dp] :: Q) from hv.alloc _)
 have HN := Aside0.mk (And.intro hn (And.intro hRQ hs))
 have HC2 := Aside0.mk hc2
 have ewc : wrap64 (cnt + 1) = cnt + 1 := by unfold wrap64; omega
 clear hv hn hRQ hs hc0 hc hc2
 obtain ⟨y0, y1, y2, y3, -, -, -, -⟩ := HV.out.c4 w.heap.size 59 (.bool n.leaf) (.int .i64 n.ver) (.slice ka n.keys.length kc) (.slice ra n.refs.length rc) (by simp)
 obtain ⟨z5, zf5⟩ := HV.out.c1 g5 3 (.int .i64 cnt) (by simp)
 go_enter Try.func125, Try.ntmps125
 go_upto_region 2 with (fail)
 obtain ⟨W1, hW, hM⟩ : ∃ W, W = _ ∧ Hv w0 W (cb w.heap.size 59 #[.bool n.leaf, .int .i64 n.ver, .slice ka n.keys.length kc, .slice ra n.refs.length rc] :: cb g5 3 #[.int .i64 (cnt + 1)] :: cb g3 4 #[.bool true] :: cb g4 3 #[.int .i64 dp] :: Q) := ⟨_, rfl, HV.out.put1 0 (.int .i64 (cnt + 1)) rfl⟩
 rw [← hW]
 have H1 := Aside0.mk hM
 clear hW hM y0 y1 y2 y3 z5 zf5 ewc
 generalize w.heap.size = g7 at H1 HV ⊢
 obtain ⟨y0, y1, y2, y3, -, -, -, -⟩ := H1.out.c4 g7 59 (.bool n.leaf) (.int .i64 n.ver) (.slice ka n.keys.length kc) (.slice ra n.refs.length rc) (by simp)
 obtain ⟨z3, zf3⟩ := H1.out.c1 g3 4 (.bool true) (by simp)
 obtain ⟨b1, hb1⟩ : ∃ b1, n.check = b1 := ⟨_, rfl⟩
 have HB1 := Aside0.mk hb1
 rw [hb1] at HC2
 clear hb1
 go_upto_region 3 with (go_at_call 33; go_loud (refine (Nd.check.calls (w0 := w0) (L := cb g7 59 #[.bool n.leaf, .int .i64 n.ver, .slice ka n.keys.length kc, .slice ra n.refs.length rc] :: cb g5 3 #[.int .i64 (cnt + 1)] :: cb g3 4 #[.bool true] :: cb g4 3 #[.int .i64 dp] :: Q) H1.out ⟨ka, kc, ra, rc, rfl, HN.out.1.mono (fun p hp => by simp [HN.out.2.1 p hp])⟩ (by have := HN.out.2.2.r; omega) HN.out.2.2.k).mono ?_; rw [HB1.out]; rintro e2 w2 ⟨rfl, hh⟩; have H2 := Aside0.mk hh; clear hh; clear y0 y1 y2 y3 z3 zf3; obtain ⟨z3, zf3⟩ := H2.out.c1 g3 4 (.bool true) (by simp)))
 obtain ⟨W3, hW, hM⟩ : ∃ W, W = _ ∧ Hv w0 W (cb g7 59 #[.bool n.leaf, .int .i64 n.ver, .slice ka n.keys.length kc, .slice ra n.refs.length rc] :: cb g5 3 #[.int .i64 (cnt + 1)] :: cb g3 4 #[.bool b1] :: cb g4 3 #[.int .i64 dp] :: Q) := ⟨_, rfl, H2.out.put2 0 (.bool b1) rfl⟩
 rw [← hW]
 have H3 := Aside0.mk hM
 clear hW hM z3 zf3
 obtain ⟨y0, y1, y2, y3, -, -, -, -⟩ := H3.out.c4 g7 59 (.bool n.leaf) (.int .i64 n.ver) (.slice ka n.keys.length kc) (.slice ra n.refs.length rc) (by simp)
 go_wp2_with fail
 clear y0 y1 y2 y3
 go_loopg [23] n.keys.length (fun kq v23 wr => ∃ (k : Nat) (b : Bool), v23 = .int .i64 (k : Int) ∧ kq = n.keys.length - k ∧ k ≤ n.keys.length ∧ Aside0 (okN b1 lo hi (n.keys.take k) = b) ∧ Aside0 (Hv w0 wr (cb g7 59 #[.bool n.leaf, .int .i64 n.ver, .slice ka n.keys.length kc, .slice ra n.refs.length rc] :: cb g5 3 #[.int .i64 (cnt + 1)] :: cb g3 4 #[.bool b] :: cb g4 3 #[.int .i64 dp] :: Q)))
 case atStart => exact ⟨0, b1, rfl, rfl, Nat.zero_le _, ⟨rfl⟩, H3⟩
 case round =>
  obtain ⟨k, b, rfl, rfl, hk, HB, HW⟩ := hrel
  clear HV H1 H3
  obtain ⟨z3, zf3⟩ := HW.out.c1 g3 4 (.bool b) (by simp)
  have hk7 : k ≤ 1000000 := by have := HN.out.2.2.k; omega
  by_cases hlt : k < n.keys.length
  ·have hlt2 : (k : Int) < (n.keys.length : Int) := by omega
   have ew : IntKind.i64.wrap ((k : Int) + 1) = ((k + 1 : Nat) : Int) := by rw [IntKind.wrap_i64]; omega
   have ew' : wrap64 ((k : Int) + 1) = ((k + 1 : Nat) : Int) := by unfold wrap64; omega
   obtain ⟨x, hx⟩ : ∃ x, n.keys[k]? = some x := ⟨_, List.getElem?_eq_getElem hlt⟩
   obtain ⟨ak, eak, hck⟩ := (HN.out.1.k _ _ HW.out (fun p hp => by simp [HN.out.2.1 p hp])).2 (by omega)
   subst eak
   have u0 := hck k _ (by rw [List.getElem?_map, hx]; rfl : (n.keys.map Value.string)[k]? = some (.string x))
   have hnx : okN b1 lo hi (n.keys.take (k + 1)) = (b && inK lo hi x) := by rw [List.take_add_one, hx, Option.toList_some, okN_snoc, HB.out]
   have HX := Aside0.mk (And.intro hnx hlt)
   clear hck hx hnx hlt hk
   cases b
   ·go_wp2_with fail
    go_roundg (n.keys.length - (k + 1))
    case measure => have := HX.out.2; omega
    case rel => exact ⟨k + 1, false, by first | rfl | go_num, rfl, HX.out.2, ⟨by rw [HX.out.1]; unfold inK; rfl⟩, ⟨HW.out.put2 0 (.bool false) rfl⟩⟩
   ·rcases Bool.eq_false_or_eq_true (bl x lo) with h1 | h1
    ·have g1 : Op.bytesLess x.toList lo.toList = true := h1
     have HF := Aside0.mk h1
     clear h1
     go_wp2_with fail
     go_roundg (n.keys.length - (k + 1))
     case measure => have := HX.out.2; omega
     case rel => exact ⟨k + 1, false, by first | rfl | go_num, rfl, HX.out.2, ⟨by rw [HX.out.1]; unfold inK; rw [HF.out]; rfl⟩, ⟨HW.out.put2 0 (.bool false) rfl⟩⟩
    ·have g1 : Op.bytesLess x.toList lo.toList = false := h1
     rcases Bool.eq_false_or_eq_true (emp hi) with h2 | h2
     ·have g2 : hi.toList = [] := by unfold emp at h2; simpa using h2
      have HF := Aside0.mk (And.intro h1 h2)
      clear h1 h2
      go_wp2_with fail
      go_roundg (n.keys.length - (k + 1))
      case measure => have := HX.out.2; omega
      case rel => exact ⟨k + 1, true, by first | rfl | go_num, rfl, HX.out.2, ⟨by rw [HX.out.1]; unfold inK; rw [HF.out.1, HF.out.2]; rfl⟩, ⟨HW.out.put2 0 (.bool true) rfl⟩⟩
     ·have g2 : ¬ hi.toList = [] := by unfold emp at h2; simpa using h2
      have g2b : hi.toList.isEmpty = false := h2
      rcases Bool.eq_false_or_eq_true (bl x hi) with h3 | h3
      ·have g3x : Op.bytesLess x.toList hi.toList = true := h3
       have HF := Aside0.mk (And.intro h1 (And.intro h2 h3))
       clear h1 h2 h3
       go_wp2_with fail
       go_roundg (n.keys.length - (k + 1))
       case measure => have := HX.out.2; omega
       case rel => exact ⟨k + 1, true, by first | rfl | go_num, rfl, HX.out.2, ⟨by rw [HX.out.1]; unfold inK; rw [HF.out.1, HF.out.2.1, HF.out.2.2]; rfl⟩, ⟨HW.out.put2 0 (.bool true) rfl⟩⟩
      ·have g3x : Op.bytesLess x.toList hi.toList = false := h3
       have HF := Aside0.mk (And.intro h1 (And.intro h2 h3))
       clear h1 h2 h3
       go_wp2_with fail
       go_roundg (n.keys.length - (k + 1))
       case measure => have := HX.out.2; omega
       case rel => exact ⟨k + 1, false, by first | rfl | go_num, rfl, HX.out.2, ⟨by rw [HX.out.1]; unfold inK; rw [HF.out.1, HF.out.2.1, HF.out.2.2]; rfl⟩, ⟨HW.out.put2 0 (.bool false) rfl⟩⟩
  ·have hge : ¬ (k : Int) < (n.keys.length : Int) := by omega
   have hkk : k = n.keys.length := by omega
   have HE := Aside0.mk (show okN b1 lo hi n.keys = b by have := HB.out; rw [hkk, List.take_length] at this; exact this)
   clear hkk hlt hk hk7
   rw [HE.out] at HC2
   obtain ⟨y0, y1, y2, y3, -, -, -, -⟩ := HW.out.c4 g7 59 (.bool n.leaf) (.int .i64 n.ver) (.slice ka n.keys.length kc) (.slice ra n.refs.length rc) (by simp)
   obtain ⟨z4, zf4⟩ := HW.out.c1 g4 3 (.int .i64 dp) (by simp)
   rcases Bool.eq_false_or_eq_true n.leaf with hlf | hlf
   ·have HLf := Aside0.mk hlf
    rw [hlf] at y0
    clear hlf
    by_cases hd : dp < 0
    ·have HDp := Aside0.mk hd
     go_upto_region 11 with (fail)
     obtain ⟨W5, hW, hM⟩ : ∃ W, W = _ ∧ Hv w0 W (cb g7 59 #[.bool n.leaf, .int .i64 n.ver, .slice ka n.keys.length kc, .slice ra n.refs.length rc] :: cb g5 3 #[.int .i64 (cnt + 1)] :: cb g3 4 #[.bool b] :: cb g4 3 #[.int .i64 d] :: Q) := ⟨_, rfl, HW.out.put3 0 (.int .i64 d) rfl⟩
     rw [← hW]
     have H5 := Aside0.mk hM
     clear hW hM y0 y1 y2 y3 z3 zf3 z4 zf4
     obtain ⟨z3, zf3⟩ := H5.out.c1 g3 4 (.bool b) (by simp)
     obtain ⟨z4, zf4⟩ := H5.out.c1 g4 3 (.int .i64 d) (by simp)
     cases b
     ·go_wp2_with fail
      go_end0
      refine ⟨rfl, ?_⟩
      have hF := (H5.out.put2 0 (.bool false) rfl).tail
      rw [← HC2.out]
      unfold chkN chb Chk.dp1
      simp only [HLf.out, if_true, if_pos (show dp < 0 by have := HDp.out; omega), Bool.false_and]
      exact hF
     ·go_wp2_with fail
      go_end0
      refine ⟨rfl, ?_⟩
      have hF := (H5.out.put2 0 (.bool true) rfl).tail
      rw [← HC2.out]
      unfold chkN chb Chk.dp1
      simp only [HLf.out, if_true, if_pos (show dp < 0 by have := HDp.out; omega), decide_true, Bool.true_and]
      exact hF
    ·have HDp := Aside0.mk hd
     cases b
     ·go_wp2_with fail
      go_end0
      refine ⟨rfl, ?_⟩
      have hF := (HW.out.put2 0 (.bool false) rfl).tail
      rw [← HC2.out]
      unfold chkN chb Chk.dp1
      simp only [HLf.out, if_true, if_neg (show ¬ dp < 0 by have := HDp.out; omega), Bool.false_and]
      exact hF
     ·by_cases he : dp = d
      ·have he2 : (dp == d) = true := by simp [he]
       have HEq := Aside0.mk he
       clear he
       go_wp2_with fail
       go_end0
       refine ⟨rfl, ?_⟩
       have hF := (HW.out.put2 0 (.bool true) rfl).tail
       rw [← HC2.out]
       unfold chkN chb Chk.dp1
       simp only [HLf.out, if_true, if_neg (show ¬ dp < 0 by have := HDp.out; omega), Bool.true_and]
       rw [show decide (dp = d) = true from by simp [HEq.out]]
       exact hF
      ·have he2 : (dp == d) = false := by simp [he]
       have HEq := Aside0.mk he
       clear he
       go_wp2_with fail
       go_end0
       refine ⟨rfl, ?_⟩
       have hF := (HW.out.put2 0 (.bool false) rfl).tail
       rw [← HC2.out]
       unfold chkN chb Chk.dp1
       simp only [HLf.out, if_true, if_neg (show ¬ dp < 0 by have := HDp.out; omega), Bool.true_and]
       rw [show decide (dp = d) = false from by simp [HEq.out]]
       exact hF
   ·have HLf := Aside0.mk hlf
    rw [hlf] at y0
    clear hlf
    go_wp2_with fail
    refine bodyPost_ret (results_none rfl _ _ _) rfl ⟨rfl, ?_⟩
    rw [← HC2.out]
    unfold chkN chb
    simp only [HLf.out, Bool.false_eq_true, if_false]
    exact HW.out.tail
set_option maxHeartbeats 16000000 in
set_option maxRecDepth 100000 in
theorem chkF.calls {g3 g4 g5 : Nat} {cnt dp : Int} {Q : List Ob} (hv : Hv w0 w (cb g5 3 #[.int .i64 cnt] :: cb g3 4 #[.bool false] :: cb g4 3 #[.int .i64 dp] :: Q)) (hRQ : ∀ p ∈ R, p ∈ Q) {n : Nd.Nd} {ka : Option Addr} {kc : Nat} {ra : Option Addr} {rc : Nat} (hn : NR w0 R n ka kc ra rc) (hs : Nd.Sm n) (hc0 : 0 ≤ cnt) (hc : cnt ≤ 1000000) (d : Int) (lo hi : ByteArray) {c2 : Chk} (hc2 : chkN n ⟨cnt, false, dp⟩ d (okN false lo hi n.keys) = c2) :
  Calls Try.prog 125 #[.agg #[.bool n.leaf, .int .i64 n.ver, .slice ka n.keys.length kc, .slice ra n.refs.length rc], .int .i64 d, .string lo, .string hi, .pointer (some ⟨g5, 0, none⟩), .pointer (some ⟨g3, 0, none⟩), .pointer (some ⟨g4, 0, none⟩)] w fun e w' => e = .returned (.tuple #[]) ∧ Hv w0 w' (chb g3 g4 g5 c2 ++ Q) := by
 have hu59 := Try.underlying59
 have hu57 := Try.underlying57
 have hu31 := Try.underlying31
 have HV := Aside0.mk (show Hv w0 (w.alloc (.cells #[.bool n.leaf, .int .i64 n.ver, .slice ka n.keys.length kc, .slice ra n.refs.length rc] 59)) (cb w.heap.size 59 #[.bool n.leaf, .int .i64 n.ver, .slice ka n.keys.length kc, .slice ra n.refs.length rc] :: cb g5 3 #[.int .i64 cnt] :: cb g3 4 #[.bool false] :: cb g4 3 #[.int .i64 dp] :: Q) from hv.alloc _)
 have HN := Aside0.mk (And.intro hn (And.intro hRQ hs))
 have HC2 := Aside0.mk hc2
 have ewc : wrap64 (cnt + 1) = cnt + 1 := by unfold wrap64; omega
 clear hv hn hRQ hs hc0 hc hc2
 obtain ⟨y0, y1, y2, y3, -, -, -, -⟩ := HV.out.c4 w.heap.size 59 (.bool n.leaf) (.int .i64 n.ver) (.slice ka n.keys.length kc) (.slice ra n.refs.length rc) (by simp)
 obtain ⟨z5, zf5⟩ := HV.out.c1 g5 3 (.int .i64 cnt) (by simp)
 go_enter Try.func125, Try.ntmps125
 go_upto_region 2 with (fail)
 obtain ⟨W1, hW, hM⟩ : ∃ W, W = _ ∧ Hv w0 W (cb w.heap.size 59 #[.bool n.leaf, .int .i64 n.ver, .slice ka n.keys.length kc, .slice ra n.refs.length rc] :: cb g5 3 #[.int .i64 (cnt + 1)] :: cb g3 4 #[.bool false] :: cb g4 3 #[.int .i64 dp] :: Q) := ⟨_, rfl, HV.out.put1 0 (.int .i64 (cnt + 1)) rfl⟩
 rw [← hW]
 have H1 := Aside0.mk hM
 clear hW hM y0 y1 y2 y3 z5 zf5 ewc
 generalize w.heap.size = g7 at H1 HV ⊢
 obtain ⟨y0, y1, y2, y3, -, -, -, -⟩ := H1.out.c4 g7 59 (.bool n.leaf) (.int .i64 n.ver) (.slice ka n.keys.length kc) (.slice ra n.refs.length rc) (by simp)
 obtain ⟨z3, zf3⟩ := H1.out.c1 g3 4 (.bool false) (by simp)
 have HB1 := Aside0.mk trivial
 go_upto_region 3 with (fail)
 obtain ⟨W3, hW, hM⟩ : ∃ W, W = _ ∧ Hv w0 W (cb g7 59 #[.bool n.leaf, .int .i64 n.ver, .slice ka n.keys.length kc, .slice ra n.refs.length rc] :: cb g5 3 #[.int .i64 (cnt + 1)] :: cb g3 4 #[.bool false] :: cb g4 3 #[.int .i64 dp] :: Q) := ⟨_, rfl, H1.out.put2 0 (.bool false) rfl⟩
 rw [← hW]
 have H3 := Aside0.mk hM
 clear hW hM z3 zf3
 clear y0 y1 y2 y3
 obtain ⟨y0, y1, y2, y3, -, -, -, -⟩ := H3.out.c4 g7 59 (.bool n.leaf) (.int .i64 n.ver) (.slice ka n.keys.length kc) (.slice ra n.refs.length rc) (by simp)
 go_wp2_with fail
 clear y0 y1 y2 y3
 go_loopg [23] n.keys.length (fun kq v23 wr => ∃ (k : Nat) (b : Bool), v23 = .int .i64 (k : Int) ∧ kq = n.keys.length - k ∧ k ≤ n.keys.length ∧ Aside0 (okN false lo hi (n.keys.take k) = b) ∧ Aside0 (Hv w0 wr (cb g7 59 #[.bool n.leaf, .int .i64 n.ver, .slice ka n.keys.length kc, .slice ra n.refs.length rc] :: cb g5 3 #[.int .i64 (cnt + 1)] :: cb g3 4 #[.bool b] :: cb g4 3 #[.int .i64 dp] :: Q)))
 case atStart => exact ⟨0, false, rfl, rfl, Nat.zero_le _, ⟨rfl⟩, H3⟩
 case round =>
  obtain ⟨k, b, rfl, rfl, hk, HB, HW⟩ := hrel
  clear HV H1 H3
  obtain ⟨z3, zf3⟩ := HW.out.c1 g3 4 (.bool b) (by simp)
  have hk7 : k ≤ 1000000 := by have := HN.out.2.2.k; omega
  by_cases hlt : k < n.keys.length
  ·have hlt2 : (k : Int) < (n.keys.length : Int) := by omega
   have ew : IntKind.i64.wrap ((k : Int) + 1) = ((k + 1 : Nat) : Int) := by rw [IntKind.wrap_i64]; omega
   have ew' : wrap64 ((k : Int) + 1) = ((k + 1 : Nat) : Int) := by unfold wrap64; omega
   obtain ⟨x, hx⟩ : ∃ x, n.keys[k]? = some x := ⟨_, List.getElem?_eq_getElem hlt⟩
   obtain ⟨ak, eak, hck⟩ := (HN.out.1.k _ _ HW.out (fun p hp => by simp [HN.out.2.1 p hp])).2 (by omega)
   subst eak
   have u0 := hck k _ (by rw [List.getElem?_map, hx]; rfl : (n.keys.map Value.string)[k]? = some (.string x))
   have hnx : okN false lo hi (n.keys.take (k + 1)) = (b && inK lo hi x) := by rw [List.take_add_one, hx, Option.toList_some, okN_snoc, HB.out]
   have HX := Aside0.mk (And.intro hnx hlt)
   clear hck hx hnx hlt hk
   cases b
   ·go_wp2_with fail
    go_roundg (n.keys.length - (k + 1))
    case measure => have := HX.out.2; omega
    case rel => exact ⟨k + 1, false, by first | rfl | go_num, rfl, HX.out.2, ⟨by rw [HX.out.1]; unfold inK; rfl⟩, ⟨HW.out.put2 0 (.bool false) rfl⟩⟩
   ·rcases Bool.eq_false_or_eq_true (bl x lo) with h1 | h1
    ·have g1 : Op.bytesLess x.toList lo.toList = true := h1
     have HF := Aside0.mk h1
     clear h1
     go_wp2_with fail
     go_roundg (n.keys.length - (k + 1))
     case measure => have := HX.out.2; omega
     case rel => exact ⟨k + 1, false, by first | rfl | go_num, rfl, HX.out.2, ⟨by rw [HX.out.1]; unfold inK; rw [HF.out]; rfl⟩, ⟨HW.out.put2 0 (.bool false) rfl⟩⟩
    ·have g1 : Op.bytesLess x.toList lo.toList = false := h1
     rcases Bool.eq_false_or_eq_true (emp hi) with h2 | h2
     ·have g2 : hi.toList = [] := by unfold emp at h2; simpa using h2
      have HF := Aside0.mk (And.intro h1 h2)
      clear h1 h2
      go_wp2_with fail
      go_roundg (n.keys.length - (k + 1))
      case measure => have := HX.out.2; omega
      case rel => exact ⟨k + 1, true, by first | rfl | go_num, rfl, HX.out.2, ⟨by rw [HX.out.1]; unfold inK; rw [HF.out.1, HF.out.2]; rfl⟩, ⟨HW.out.put2 0 (.bool true) rfl⟩⟩
     ·have g2 : ¬ hi.toList = [] := by unfold emp at h2; simpa using h2
      have g2b : hi.toList.isEmpty = false := h2
      rcases Bool.eq_false_or_eq_true (bl x hi) with h3 | h3
      ·have g3x : Op.bytesLess x.toList hi.toList = true := h3
       have HF := Aside0.mk (And.intro h1 (And.intro h2 h3))
       clear h1 h2 h3
       go_wp2_with fail
       go_roundg (n.keys.length - (k + 1))
       case measure => have := HX.out.2; omega
       case rel => exact ⟨k + 1, true, by first | rfl | go_num, rfl, HX.out.2, ⟨by rw [HX.out.1]; unfold inK; rw [HF.out.1, HF.out.2.1, HF.out.2.2]; rfl⟩, ⟨HW.out.put2 0 (.bool true) rfl⟩⟩
      ·have g3x : Op.bytesLess x.toList hi.toList = false := h3
       have HF := Aside0.mk (And.intro h1 (And.intro h2 h3))
       clear h1 h2 h3
       go_wp2_with fail
       go_roundg (n.keys.length - (k + 1))
       case measure => have := HX.out.2; omega
       case rel => exact ⟨k + 1, false, by first | rfl | go_num, rfl, HX.out.2, ⟨by rw [HX.out.1]; unfold inK; rw [HF.out.1, HF.out.2.1, HF.out.2.2]; rfl⟩, ⟨HW.out.put2 0 (.bool false) rfl⟩⟩
  ·have hge : ¬ (k : Int) < (n.keys.length : Int) := by omega
   have hkk : k = n.keys.length := by omega
   have HE := Aside0.mk (show okN false lo hi n.keys = b by have := HB.out; rw [hkk, List.take_length] at this; exact this)
   clear hkk hlt hk hk7
   rw [HE.out] at HC2
   obtain ⟨y0, y1, y2, y3, -, -, -, -⟩ := HW.out.c4 g7 59 (.bool n.leaf) (.int .i64 n.ver) (.slice ka n.keys.length kc) (.slice ra n.refs.length rc) (by simp)
   obtain ⟨z4, zf4⟩ := HW.out.c1 g4 3 (.int .i64 dp) (by simp)
   rcases Bool.eq_false_or_eq_true n.leaf with hlf | hlf
   ·have HLf := Aside0.mk hlf
    rw [hlf] at y0
    clear hlf
    by_cases hd : dp < 0
    ·have HDp := Aside0.mk hd
     go_upto_region 11 with (fail)
     obtain ⟨W5, hW, hM⟩ : ∃ W, W = _ ∧ Hv w0 W (cb g7 59 #[.bool n.leaf, .int .i64 n.ver, .slice ka n.keys.length kc, .slice ra n.refs.length rc] :: cb g5 3 #[.int .i64 (cnt + 1)] :: cb g3 4 #[.bool b] :: cb g4 3 #[.int .i64 d] :: Q) := ⟨_, rfl, HW.out.put3 0 (.int .i64 d) rfl⟩
     rw [← hW]
     have H5 := Aside0.mk hM
     clear hW hM y0 y1 y2 y3 z3 zf3 z4 zf4
     obtain ⟨z3, zf3⟩ := H5.out.c1 g3 4 (.bool b) (by simp)
     obtain ⟨z4, zf4⟩ := H5.out.c1 g4 3 (.int .i64 d) (by simp)
     cases b
     ·go_wp2_with fail
      go_end0
      refine ⟨rfl, ?_⟩
      have hF := (H5.out.put2 0 (.bool false) rfl).tail
      rw [← HC2.out]
      unfold chkN chb Chk.dp1
      simp only [HLf.out, if_true, if_pos (show dp < 0 by have := HDp.out; omega), Bool.false_and]
      exact hF
     ·go_wp2_with fail
      go_end0
      refine ⟨rfl, ?_⟩
      have hF := (H5.out.put2 0 (.bool true) rfl).tail
      rw [← HC2.out]
      unfold chkN chb Chk.dp1
      simp only [HLf.out, if_true, if_pos (show dp < 0 by have := HDp.out; omega), decide_true, Bool.true_and]
      exact hF
    ·have HDp := Aside0.mk hd
     cases b
     ·go_wp2_with fail
      go_end0
      refine ⟨rfl, ?_⟩
      have hF := (HW.out.put2 0 (.bool false) rfl).tail
      rw [← HC2.out]
      unfold chkN chb Chk.dp1
      simp only [HLf.out, if_true, if_neg (show ¬ dp < 0 by have := HDp.out; omega), Bool.false_and]
      exact hF
     ·by_cases he : dp = d
      ·have he2 : (dp == d) = true := by simp [he]
       have HEq := Aside0.mk he
       clear he
       go_wp2_with fail
       go_end0
       refine ⟨rfl, ?_⟩
       have hF := (HW.out.put2 0 (.bool true) rfl).tail
       rw [← HC2.out]
       unfold chkN chb Chk.dp1
       simp only [HLf.out, if_true, if_neg (show ¬ dp < 0 by have := HDp.out; omega), Bool.true_and]
       rw [show decide (dp = d) = true from by simp [HEq.out]]
       exact hF
      ·have he2 : (dp == d) = false := by simp [he]
       have HEq := Aside0.mk he
       clear he
       go_wp2_with fail
       go_end0
       refine ⟨rfl, ?_⟩
       have hF := (HW.out.put2 0 (.bool false) rfl).tail
       rw [← HC2.out]
       unfold chkN chb Chk.dp1
       simp only [HLf.out, if_true, if_neg (show ¬ dp < 0 by have := HDp.out; omega), Bool.true_and]
       rw [show decide (dp = d) = false from by simp [HEq.out]]
       exact hF
   ·have HLf := Aside0.mk hlf
    rw [hlf] at y0
    clear hlf
    go_wp2_with fail
    refine bodyPost_ret (results_none rfl _ _ _) rfl ⟨rfl, ?_⟩
    rw [← HC2.out]
    unfold chkN chb
    simp only [HLf.out, Bool.false_eq_true, if_false]
    exact HW.out.tail
end Go.Proofs.Ytglbcfkmaamhaaa.Tr
end
section
set_option linter.unusedVariables false
set_option linter.unusedSimpArgs false
namespace Go.Proofs.Ytglbcfkmaamhaaa.Tr
open Go Go.RowKit Go.Proofs.YtglbcfkmaamhaaaW.PrintWords Go.Proofs.YtglbcfkmaamhaaaW.PrintLast Go.Proofs.YtglbcfkmaamhaaaW.PrintMore Go.Proofs.Ytglbcfkmaamhaaa.Hv Go.Proofs.Ytglbcfkmaamhaaa.Arm Go.Proofs.Ytglbcfkmaamhaaa.Nd Go.Proofs.Ytglbcfkmaamhaaa.ArN
variable {w0 w w1 : World} {L L' R : List Ob} {K : Nat × Nat × Nat} {t : Tm} {on : Value}
theorem chkS_cnt (c : Chk) (v : Vis) : (chkS c v).cnt = c.cnt + 1 := by
 unfold chkS chkN
 split <;> rfl
theorem fold_cnt : ∀ (p : List Vis) (c : Chk), (p.foldl chkS c).cnt = c.cnt + p.length
 | [], c => by simp
 | v :: p, c => by
  rw [List.foldl_cons, fold_cnt p, chkS_cnt, List.length_cons]
  omega
def chk0 : Chk := ⟨0, true, -1⟩
def JC (g3 g4 g5 : Nat) (p : List Vis) (X : List Ob) : Prop := X = chb g3 g4 g5 (p.foldl chkS chk0)
theorem checkCB {g3 g4 g5 m : Nat} (hm : m ≤ 1000000) (W : World) (B X : List Ob) (p : List Vis) (n : Nd.Nd) (d : Int) (lo hi : ByteArray) (ka : Option Addr) (kc : Nat) (ra : Option Addr) (rc : Nat) (hM : Mt w0 W K t on R (B ++ (X ++ L))) (hJ : JC g3 g4 g5 p X) (hc : Nd.Sm n) (hp : p.length < m) (hn : NR w0 R n ka kc ra rc) :
  Calls Try.prog 125 #[.agg #[.bool n.leaf, .int .i64 n.ver, .slice ka n.keys.length kc, .slice ra n.refs.length rc], .int .i64 d, .string lo, .string hi, .pointer (some ⟨g5, 0, none⟩), .pointer (some ⟨g3, 0, none⟩), .pointer (some ⟨g4, 0, none⟩)] W fun e w' => e = .returned (.tuple #[]) ∧ ∃ X', JC g3 g4 g5 (p ++ [⟨n, d, lo, hi⟩]) X' ∧ Mt w0 w' K t on R (B ++ (X' ++ L)) := by
 unfold JC at hJ
 subst hJ
 obtain ⟨c, hc0⟩ : ∃ c, p.foldl chkS chk0 = c := ⟨_, rfl⟩
 rw [hc0] at hM
 have hcnt : c.cnt = p.length := by rw [← hc0, fold_cnt]; simp [chk0]
 obtain ⟨Q, hq, hRQ, back⟩ := hM.lensY (X := chb g3 g4 g5 c)
 have e1 : (p ++ [(⟨n, d, lo, hi⟩ : Vis)]).foldl chkS chk0 = chkS c ⟨n, d, lo, hi⟩ := by rw [List.foldl_append, hc0]; rfl
 have fin : ∀ (e : Ending) (w' : World), (e = .returned (.tuple #[]) ∧ Hv w0 w' (chb g3 g4 g5 (chkS c ⟨n, d, lo, hi⟩) ++ Q)) → e = .returned (.tuple #[]) ∧ ∃ X', JC g3 g4 g5 (p ++ [⟨n, d, lo, hi⟩]) X' ∧ Mt w0 w' K t on R (B ++ (X' ++ L)) := fun e w' ⟨h1, h2⟩ => ⟨h1, _, by unfold JC; rw [e1], back w' _ h2⟩
 obtain ⟨cnt, ok, dp⟩ := c
 have hcnt2 : cnt = p.length := hcnt
 cases ok
 ·exact (chkF.calls (cnt := cnt) (dp := dp) (Q := Q) hq hRQ hn hc (by omega) (by omega) d lo hi (c2 := chkS ⟨cnt, false, dp⟩ ⟨n, d, lo, hi⟩) rfl).mono fin
 ·exact (chkT.calls (cnt := cnt) (dp := dp) (Q := Q) hq hRQ hn hc (by omega) (by omega) d lo hi (c2 := chkS ⟨cnt, true, dp⟩ ⟨n, d, lo, hi⟩) rfl).mono fin
set_option maxHeartbeats 8000000 in
set_option maxRecDepth 100000 in
theorem tcheck.calls (h : Mt w0 w K t on R L) {hh m : Nat} (hm : m ≤ 1000000) (hok : WOk t Nd.Sm hh t.root) (hlen : (visits t hh t.root 0 ⟨#[]⟩ ⟨#[]⟩).length ≤ m) (hhm : hh ≤ 1000000) (hg : t.gone.length ≤ 1000000) {c : Chk} (hcc : (visits t hh t.root 0 ⟨#[]⟩ ⟨#[]⟩).foldl chkS chk0 = c) {b : Bool} (hb : (c.ok && decide ((t.p.held : Int) - t.gone.length = c.cnt)) = b) :
  Calls Try.prog 70 #[.pointer (some ⟨K.1, 0, none⟩)] w fun e w' => e = .returned (.bool b) ∧ Mt w0 w' K t on R L := by
 have HB := Aside0.mk hb
 clear hb
 have hu33 := Try.underlying33
 have hu160 := Try.underlying160
 have hmf : ∀ (fn : Fn) (first cap : Array Value) (w : World), (Instr.makeFunc fn first cap).run Try.prog w = .ok (.func fn first cap) w := fun _ _ _ _ => rfl
 have HM0 : Mt w0 (((w.alloc (.cells #[.bool true] 4)).alloc (.cells #[.int .i64 (-1)] 3)).alloc (.cells #[.int .i64 0] 3)) K t on R (cb (w.heap.size + 1 + 1) 3 #[.int .i64 0] :: cb (w.heap.size + 1) 3 #[.int .i64 (-1)] :: cb w.heap.size 4 #[.bool true] :: L) := by
  have := ((h.alloc (.cells #[.bool true] 4)).alloc (.cells #[.int .i64 (-1)] 3)).alloc (.cells #[.int .i64 0] 3)
  simpa [cb] using this
 have HM := Aside0.mk (show Mt w0 _ K t on R ([] ++ (chb w.heap.size (w.heap.size + 1) (w.heap.size + 1 + 1) chk0 ++ L)) from HM0.permL (List.Perm.cons _ (List.Perm.swap _ _ _)))
 have HH := Aside0.mk (And.intro hok (And.intro hlen (And.intro hcc (And.intro hm (And.intro hhm hg)))))
 clear h hok hlen hcc hm hhm hg HM0
 obtain ⟨c0, c1, c2, -, -, -, -⟩ := HM.out.cells
 go_enter Try.func70, Try.ntmps70
 go_upto_region 6 with (first
  | (go_at_call 122; go_loud (refine (walkC.calls (J := JC w.heap.size (w.heap.size + 1) (w.heap.size + 1 + 1)) (C := Nd.Sm) (m := m) (checkCB HH.out.2.2.2.1) hh t.root 0 ⟨#[]⟩ ⟨#[]⟩ [] _ [] _ HH.out.1 HM.out rfl (by simpa using HH.out.2.1) (Int.le_refl _) (by have := HH.out.2.2.2.2.1; omega)).mono ?_; rintro e2 w2 ⟨rfl, X, hX, hh2⟩; unfold JC at hX; simp only [List.nil_append, HH.out.2.2.1] at hX hh2; subst hX; have H2 := Aside0.mk hh2; clear hh2))
  | (go_at_call 68; go_loud (refine (nodes.calls H2.out HH.out.2.2.2.2.2).mono ?_; rintro e3 w3 ⟨rfl, hh3⟩; have H3 := Aside0.mk (show Mt w0 w3 K t on R (cb (w.heap.size + 1 + 1) 3 #[.int .i64 c.cnt] :: cb w.heap.size 4 #[.bool c.ok] :: cb (w.heap.size + 1) 3 #[.int .i64 c.dp] :: L) from hh3); clear hh3)))
 clear c0 c1 c2
 obtain ⟨x3, -⟩ := H3.out.other.c1 w.heap.size 4 (.bool c.ok) (by simp)
 obtain ⟨x5, -⟩ := H3.out.other.c1 (w.heap.size + 1 + 1) 3 (.int .i64 c.cnt) (by simp)
 rcases Bool.eq_false_or_eq_true c.ok with ho | ho
 ·rw [ho] at x3 HB
  by_cases he : (t.p.held : Int) - t.gone.length = c.cnt
  ·have he2 : ((t.p.held : Int) - t.gone.length == c.cnt) = true := by simp [he]
   have hb : b = true := by rw [← HB.out, decide_eq_true he]; rfl
   subst hb
   clear he HB ho
   go_wp2_with fail
   exact bodyPost_ret (v := .bool true) (by simp [results, Try.results70, go_sem]) rfl ⟨rfl, H3.out.tail.tail.tail⟩
  ·have he2 : ((t.p.held : Int) - t.gone.length == c.cnt) = false := by simp [he]
   have hb : b = false := by rw [← HB.out, decide_eq_false he]; rfl
   subst hb
   clear he HB ho
   go_wp2_with fail
   exact bodyPost_ret (v := .bool false) (by simp [results, Try.results70, go_sem]) rfl ⟨rfl, H3.out.tail.tail.tail⟩
 ·rw [ho] at x3 HB
  have hb : b = false := by rw [← HB.out]; rfl
  subst hb
  clear HB ho
  go_wp2_with fail
  exact bodyPost_ret (v := .bool false) (by simp [results, Try.results70, go_sem]) rfl ⟨rfl, H3.out.tail.tail.tail⟩
end Go.Proofs.Ytglbcfkmaamhaaa.Tr
end
section
set_option linter.unusedVariables false
set_option linter.unusedSimpArgs false
namespace Go.Proofs.Ytglbcfkmaamhaaa.Tr
open Go Go.RowKit Go.Proofs.YtglbcfkmaamhaaaW.PrintWords Go.Proofs.Ytglbcfkmaamhaaa.Hv Go.Proofs.Ytglbcfkmaamhaaa.Arm Go.Proofs.Ytglbcfkmaamhaaa.Nd Go.Proofs.Ytglbcfkmaamhaaa.ArN
theorem asc_asc2 : ∀ {l : List ByteArray}, asc l = true → Asc l
 | [], _ => List.Pairwise.nil
 | [a], _ => List.pairwise_singleton _ _
 | a :: b :: l, h => by
  simp only [asc, Bool.and_eq_true] at h
  have h2 : Asc (b :: l) := asc_asc2 h.2
  refine List.pairwise_cons.2 ⟨fun z hz => ?_, h2⟩
  rcases List.mem_cons.1 hz with rfl | hz
  ·exact h.1
  ·exact less_trans _ _ _ h.1 ((List.pairwise_cons.1 h2).1 z hz)
def aK : Nat → ByteArray
 | 0 => ⟨#[97]⟩
 | 1 => ⟨#[98]⟩
 | 2 => ⟨#[99]⟩
 | 3 => ⟨#[100]⟩
 | _ => ⟨#[101]⟩
def aT : Nat → Tm
 | 0 => Tm.new 20
 | k + 1 => ((aT k).putW (aK k) ((k : Int), 0) [] (0, 1)).1
def bdB (t : Tm) (m : Nat) : Bool := t.ns.all fun n => Nat.ble n.keys.length m && Nat.ble n.refs.length m
theorem bd_of {t : Tm} {m : Nat} (h : bdB t m = true) : Bd t m := fun n hn => by
 have := List.all_eq_true.1 h n hn
 simp only [Bool.and_eq_true] at this
 exact ⟨Nat.le_of_ble_eq_true this.1, Nat.le_of_ble_eq_true this.2⟩
def okB (n : Nd.Nd) : Bool := Nat.ble n.keys.length 1000000 && (Nat.ble n.refs.length 1000000 && asc n.keys)
theorem ok_of {n : Nd.Nd} (h : okB n = true) : Nd.Ok n := by
 unfold okB at h
 simp only [Bool.and_eq_true] at h
 exact ⟨Nat.le_of_ble_eq_true h.1, Nat.le_of_ble_eq_true h.2.1, asc_asc2 h.2.2⟩
end Go.Proofs.Ytglbcfkmaamhaaa.Tr
end
section
set_option linter.unusedVariables false
set_option linter.unusedSimpArgs false
namespace Go.Proofs.Ytglbcfkmaamhaaa.Tr
open Go Go.RowKit Go.Proofs.YtglbcfkmaamhaaaW.PrintWords Go.Proofs.Ytglbcfkmaamhaaa.Hv Go.Proofs.Ytglbcfkmaamhaaa.Arm Go.Proofs.Ytglbcfkmaamhaaa.Nd Go.Proofs.Ytglbcfkmaamhaaa.ArN
variable {w0 w w1 : World} {L L' R : List Ob} {K : Nat × Nat × Nat} {on : Value}
theorem aput0 (h : Mt w0 w K (aT 0) on R L) : Calls Try.prog 66 #[.pointer (some ⟨K.1, 0, none⟩), .string ⟨#[97]⟩, .agg #[.int .i64 0, .int .i64 0]] w fun e w' => ∃ ad c R', e = .returned (.tuple #[.slice ad 1 c, .int .i64 0]) ∧ Mt w0 w' K (aT 1) .nilFunc R' L := by
 have hr : (aT 0).root = (0, 1) := by kernel_rfl
 have hl : ((aT 0).putW ⟨#[97]⟩ (0, 0) [] (0, 1)).2.1.length = 1 := by kernel_rfl
 have he : ((aT 0).putW ⟨#[97]⟩ (0, 0) [] (0, 1)).2.2 = 0 := by kernel_rfl
 refine (tput.calls h ⟨#[97]⟩ (0, 0) (l := []) (q := (0, 1)) (by rw [hr]; exact Dn.leaf _ (by kernel_rfl)) (ok_of (by kernel_rfl)) (mb := 10) (by decide) (bd_of (by kernel_rfl)) (by decide)).mono ?_
 rintro e w' ⟨ad, c, A, R', rfl, hG, hh⟩
 exact ⟨ad, c, R', by rw [hl, he], hh.drop (List.sublist_append_right _ _)⟩
theorem aput1 (h : Mt w0 w K (aT 1) on R L) : Calls Try.prog 66 #[.pointer (some ⟨K.1, 0, none⟩), .string ⟨#[98]⟩, .agg #[.int .i64 1, .int .i64 0]] w fun e w' => ∃ ad c R', e = .returned (.tuple #[.slice ad 1 c, .int .i64 0]) ∧ Mt w0 w' K (aT 2) .nilFunc R' L := by
 have hr : (aT 1).root = (0, 1) := by kernel_rfl
 have hl : ((aT 1).putW ⟨#[98]⟩ (1, 0) [] (0, 1)).2.1.length = 1 := by kernel_rfl
 have he : ((aT 1).putW ⟨#[98]⟩ (1, 0) [] (0, 1)).2.2 = 0 := by kernel_rfl
 refine (tput.calls h ⟨#[98]⟩ (1, 0) (l := []) (q := (0, 1)) (by rw [hr]; exact Dn.leaf _ (by kernel_rfl)) (ok_of (by kernel_rfl)) (mb := 10) (by decide) (bd_of (by kernel_rfl)) (by decide)).mono ?_
 rintro e w' ⟨ad, c, A, R', rfl, hG, hh⟩
 exact ⟨ad, c, R', by rw [hl, he], hh.drop (List.sublist_append_right _ _)⟩
theorem aput2 (h : Mt w0 w K (aT 2) on R L) : Calls Try.prog 66 #[.pointer (some ⟨K.1, 0, none⟩), .string ⟨#[99]⟩, .agg #[.int .i64 2, .int .i64 0]] w fun e w' => ∃ ad c R', e = .returned (.tuple #[.slice ad 1 c, .int .i64 0]) ∧ Mt w0 w' K (aT 3) .nilFunc R' L := by
 have hr : (aT 2).root = (0, 1) := by kernel_rfl
 have hl : ((aT 2).putW ⟨#[99]⟩ (2, 0) [] (0, 1)).2.1.length = 1 := by kernel_rfl
 have he : ((aT 2).putW ⟨#[99]⟩ (2, 0) [] (0, 1)).2.2 = 0 := by kernel_rfl
 refine (tput.calls h ⟨#[99]⟩ (2, 0) (l := []) (q := (0, 1)) (by rw [hr]; exact Dn.leaf _ (by kernel_rfl)) (ok_of (by kernel_rfl)) (mb := 10) (by decide) (bd_of (by kernel_rfl)) (by decide)).mono ?_
 rintro e w' ⟨ad, c, A, R', rfl, hG, hh⟩
 exact ⟨ad, c, R', by rw [hl, he], hh.drop (List.sublist_append_right _ _)⟩
theorem aput3 (h : Mt w0 w K (aT 3) on R L) : Calls Try.prog 66 #[.pointer (some ⟨K.1, 0, none⟩), .string ⟨#[100]⟩, .agg #[.int .i64 3, .int .i64 0]] w fun e w' => ∃ ad c R', e = .returned (.tuple #[.slice ad 1 c, .int .i64 0]) ∧ Mt w0 w' K (aT 4) .nilFunc R' L := by
 have hr : (aT 3).root = (0, 1) := by kernel_rfl
 have hl : ((aT 3).putW ⟨#[100]⟩ (3, 0) [] (0, 1)).2.1.length = 1 := by kernel_rfl
 have he : ((aT 3).putW ⟨#[100]⟩ (3, 0) [] (0, 1)).2.2 = 0 := by kernel_rfl
 refine (tput.calls h ⟨#[100]⟩ (3, 0) (l := []) (q := (0, 1)) (by rw [hr]; exact Dn.leaf _ (by kernel_rfl)) (ok_of (by kernel_rfl)) (mb := 10) (by decide) (bd_of (by kernel_rfl)) (by decide)).mono ?_
 rintro e w' ⟨ad, c, A, R', rfl, hG, hh⟩
 exact ⟨ad, c, R', by rw [hl, he], hh.drop (List.sublist_append_right _ _)⟩
theorem aput4 (h : Mt w0 w K (aT 4) on R L) : Calls Try.prog 66 #[.pointer (some ⟨K.1, 0, none⟩), .string ⟨#[101]⟩, .agg #[.int .i64 4, .int .i64 0]] w fun e w' => ∃ ad c R', e = .returned (.tuple #[.slice ad 2 c, .int .i64 0]) ∧ Mt w0 w' K (aT 5) .nilFunc R' L := by
 have hr : (aT 4).root = (0, 1) := by kernel_rfl
 have hl : ((aT 4).putW ⟨#[101]⟩ (4, 0) [] (0, 1)).2.1.length = 2 := by kernel_rfl
 have he : ((aT 4).putW ⟨#[101]⟩ (4, 0) [] (0, 1)).2.2 = 0 := by kernel_rfl
 refine (tput.calls h ⟨#[101]⟩ (4, 0) (l := []) (q := (0, 1)) (by rw [hr]; exact Dn.leaf _ (by kernel_rfl)) (ok_of (by kernel_rfl)) (mb := 10) (by decide) (bd_of (by kernel_rfl)) (by decide)).mono ?_
 rintro e w' ⟨ad, c, A, R', rfl, hG, hh⟩
 exact ⟨ad, c, R', by rw [hl, he], hh.drop (List.sublist_append_right _ _)⟩
theorem a5root : (aT 5).root = (2, 1) := by kernel_rfl
theorem a5dn_d : Dn (aT 5) ⟨#[100]⟩ (aT 5).root [((2, 1), 1)] (1, 1) := by
 rw [a5root]
 have hc : ((aT 5).at (2, 1)).child ⟨#[100]⟩ = 1 := by kernel_rfl
 have := Dn.step (t := aT 5) (key := ⟨#[100]⟩) (2, 1) (1, 1) [] (1, 1) (by kernel_rfl) (ok_of (by kernel_rfl)) (by kernel_rfl) (Dn.leaf (1, 1) (by kernel_rfl))
 rw [hc] at this
 exact this
theorem a5dn_b : Dn (aT 5) ⟨#[98]⟩ (aT 5).root [((2, 1), 0)] (0, 1) := by
 rw [a5root]
 have hc : ((aT 5).at (2, 1)).child ⟨#[98]⟩ = 0 := by kernel_rfl
 have := Dn.step (t := aT 5) (key := ⟨#[98]⟩) (2, 1) (0, 1) [] (0, 1) (by kernel_rfl) (ok_of (by kernel_rfl)) (by kernel_rfl) (Dn.leaf (0, 1) (by kernel_rfl))
 rw [hc] at this
 exact this
theorem afind (h : Mt w0 w K (aT 5) on R L) : Calls Try.prog 71 #[.pointer (some ⟨K.1, 0, none⟩), .string ⟨#[100]⟩] w fun e w' => e = .returned (.tuple #[.agg #[.int .i64 3, .int .i64 0], .bool true, .agg #[.int .i64 1, .int .i64 1, .int .i64 1]]) ∧ Mt w0 w' K (aT 5) .nilFunc R L := by
 have hf : (aT 5).find ⟨#[100]⟩ (1, 1) = ((3, 0), true) := by kernel_rfl
 have hv : ((aT 5).at (1, 1)).ver = 1 := by kernel_rfl
 refine (find.calls h ⟨#[100]⟩ a5dn_d (ok_of (by kernel_rfl))).mono ?_
 rintro e w' ⟨rfl, hh⟩
 exact ⟨by rw [hf, hv], hh⟩
theorem aleaf (h : Mt w0 w K (aT 5) on R L) : Calls Try.prog 72 #[.pointer (some ⟨K.1, 0, none⟩), .string ⟨#[98]⟩] w fun e w' => ∃ x ad c, e = .returned (.tuple #[.agg #[.int .i64 0, .int .i64 1, .int .i64 x], .slice ad 3 c, .string ⟨#[100]⟩]) ∧ Mt w0 w' K (aT 5) .nilFunc R L := by
 have hl : (itemsOf ((aT 5).at (0, 1))).length = 3 := by kernel_rfl
 have he : endF (aT 5) ⟨#[]⟩ [((2, 1), 0)] = ⟨#[100]⟩ := by kernel_rfl
 refine (leaf.calls h ⟨#[98]⟩ a5dn_b (by decide) (by kernel_rfl) (Nat.le_of_ble_eq_true (by kernel_rfl))).mono ?_
 rw [he]
 rintro e w' ⟨ad, c, A, rfl, hG, hh⟩
 exact ⟨_, ad, c, by rw [hl], hh.drop (List.sublist_append_right _ _)⟩
theorem anodes5 (h : Mt w0 w K (aT 5) on R L) : Calls Try.prog 68 #[.pointer (some ⟨K.1, 0, none⟩)] w fun e w' => e = .returned (.tuple #[.int .i64 3, .int .i64 0]) ∧ Mt w0 w' K (aT 5) on R L := by
 have h1 : (((aT 5).p.held : Int) - ((aT 5).gone.length : Int)) = 3 := by kernel_rfl
 have h2 : ((aT 5).gone.length : Int) = 0 := by kernel_rfl
 refine (nodes.calls h (Nat.le_of_ble_eq_true (by kernel_rfl))).mono ?_
 rintro e w' ⟨rfl, hh⟩
 exact ⟨by rw [h1, h2], hh⟩
theorem afresh5 (h : Mt w0 w K (aT 5) on R L) : Calls Try.prog 61 #[.pointer (some ⟨K.1, 0, none⟩), .agg #[.int .i64 1, .int .i64 1, .int .i64 1]] w fun e w' => e = .returned (.bool true) ∧ Mt w0 w' K (aT 5) on R L := by
 have h1 : (aT 5).fresh (1, 1) 1 = true := by kernel_rfl
 refine (fresh.calls h (1, 1) 1).mono ?_
 rintro e w' ⟨rfl, hh⟩
 exact ⟨by rw [h1], hh⟩
theorem adup (h : Mt w0 w K (aT 5) on R L) : Calls Try.prog 66 #[.pointer (some ⟨K.1, 0, none⟩), .string ⟨#[100]⟩, .agg #[.int .i64 3, .int .i64 0]] w fun e w' => ∃ ad c R', e = .returned (.tuple #[.slice ad 0 c, .int .i64 13]) ∧ Mt w0 w' K (aT 5) .nilFunc R' L := by
 have hp : (aT 5).putW ⟨#[100]⟩ (3, 0) [((2, 1), 1)] (1, 1) = (aT 5, [], 13) := by
  have hf : ((aT 5).find ⟨#[100]⟩ (1, 1)).2 = true := by kernel_rfl
  unfold Tm.putW
  rw [hf]
  rfl
 refine (tput.calls h ⟨#[100]⟩ (3, 0) a5dn_d (ok_of (by kernel_rfl)) (mb := 10) (by decide) (bd_of (by kernel_rfl)) (by decide)).mono ?_
 rw [hp]
 rintro e w' ⟨ad, c, A, R', rfl, hG, hh⟩
 exact ⟨ad, c, R', rfl, hh.drop (List.sublist_append_right _ _)⟩
def a6 : Tm := (aT 5).set (1, 1) (((aT 5).at (1, 1)).delete ⟨#[100]⟩).1
def a7 : Tm := (a6.merge (2, 1) (1, 1)).1
def a8 : Tm := a7.sink
def a9 : Tm := a8.set (0, 1) ((a8.at (0, 1)).delete ⟨#[97]⟩).1
def a10 : Tm := a9.set (0, 1) ((a9.at (0, 1)).delete ⟨#[98]⟩).1
def a11 : Tm := (a10.free (1, 1)).1
set_option maxRecDepth 100000
theorem ajok : JOk a6 (2, 1) := ⟨ok_of (by kernel_rfl), by kernel_rfl, bd_of (by kernel_rfl), Nat.lt_of_lt_of_le (Nat.lt_of_le_of_lt (Nat.le_of_ble_eq_true (by kernel_rfl) : a6.gone.length ≤ 0) (by decide : 0 < 1)) (by decide)⟩
theorem adel1 (h : Mt w0 w K (aT 5) on R L) : Calls Try.prog 64 #[.pointer (some ⟨K.1, 0, none⟩), .string ⟨#[100]⟩] w fun e w' => ∃ ad c A R', e = .returned (.tuple #[.agg #[.int .i64 3, .int .i64 0], .slice ad 2 c, .bool true]) ∧ Gr 33 2 (.slice ad 2 c) 2 (([(1, 1), (2, 1)] : List Rf).flatMap rcel) A ∧ Mt w0 w' K a8 .nilFunc R' (A ++ L) := by
 have hd1 : (((aT 5).at (1, 1)).delete ⟨#[100]⟩).2 = ((3, 0), true) := by kernel_rfl
 have hm2 : (a6.merge (2, 1) (1, 1)).2.2 = true := by kernel_rfl
 have hg1 : (a6.merge (2, 1) (1, 1)).2.1 = (1, 1) := by kernel_rfl
 have hr7 : a7.root = (2, 1) := by kernel_rfl
 have hu1 : Up1 (wayL [((2, 1), 1)] (1, 1)) 1 (a6, []) (a7, [] ++ [(1, 1)]) := by
  have := Up1.yes (s := wayL [((2, 1), 1)] (1, 1)) 0 (a6, []) ((a6.merge (2, 1) (1, 1)).1, [] ++ [(a6.merge (2, 1) (1, 1)).2.1]) (by show (a6.at (1, 1)).refs.length < 2; exact Nat.lt_of_le_of_lt (Nat.le_of_ble_eq_true (by kernel_rfl) : _ ≤ 1) (by decide)) ajok hm2 (Up1.top _)
  rw [hg1] at this
  exact this
 have hu2 : Up2 1 (a7, [] ++ [(1, 1)]) (a8, ([] ++ [(1, 1)]) ++ [(2, 1)]) := by
  have := Up2.step 0 (a7, ([] ++ [(1, 1)] : List Rf)) (a7.sink, ([] ++ [(1, 1)]) ++ [a7.root]) (by kernel_rfl) (by kernel_rfl) (Nat.lt_of_le_of_lt (Nat.le_of_ble_eq_true (by kernel_rfl) : a7.gone.length ≤ 1) (by decide)) (Up2.stop 0 _ (.inl (by kernel_rfl)))
  rw [hr7] at this
  exact this
 refine (delT.yes h ⟨#[100]⟩ a5dn_d (ok_of (by kernel_rfl)) (by decide) (m := (((aT 5).at (1, 1)).delete ⟨#[100]⟩).1) (r := (3, 0)) (Prod.ext rfl hd1) hu1 hu2 (by decide)).mono ?_
 rintro e w' ⟨ad, c, A, R', rfl, hG, hh⟩
 exact ⟨ad, c, A, R', rfl, hG, hh⟩
theorem adel2 (h : Mt w0 w K a8 on R L) : Calls Try.prog 64 #[.pointer (some ⟨K.1, 0, none⟩), .string ⟨#[97]⟩] w fun e w' => ∃ ad c R', e = .returned (.tuple #[.agg #[.int .i64 0, .int .i64 0], .slice ad 0 c, .bool true]) ∧ Mt w0 w' K a9 .nilFunc R' L := by
 have hr : a8.root = (0, 1) := by kernel_rfl
 have hd1 : ((a8.at (0, 1)).delete ⟨#[97]⟩).2 = ((0, 0), true) := by kernel_rfl
 refine (delT.yes h ⟨#[97]⟩ (l := []) (q := (0, 1)) (by rw [hr]; exact Dn.leaf _ (by kernel_rfl)) (ok_of (by kernel_rfl)) (by decide) (m := ((a8.at (0, 1)).delete ⟨#[97]⟩).1) (r := (0, 0)) (Prod.ext rfl hd1) (p1 := (a9, [])) (p2 := (a9, [])) (k2 := 0) (Up1.top _) (Up2.stop 0 _ (.inl (by kernel_rfl))) (by decide)).mono ?_
 rintro e w' ⟨ad, c, A, R', rfl, hG, hh⟩
 exact ⟨ad, c, R', rfl, hh.drop (List.sublist_append_right _ _)⟩
theorem adel3 (h : Mt w0 w K a9 on R L) : Calls Try.prog 64 #[.pointer (some ⟨K.1, 0, none⟩), .string ⟨#[98]⟩] w fun e w' => ∃ ad c R', e = .returned (.tuple #[.agg #[.int .i64 1, .int .i64 0], .slice ad 0 c, .bool true]) ∧ Mt w0 w' K a10 .nilFunc R' L := by
 have hr : a9.root = (0, 1) := by kernel_rfl
 have hd1 : ((a9.at (0, 1)).delete ⟨#[98]⟩).2 = ((1, 0), true) := by kernel_rfl
 refine (delT.yes h ⟨#[98]⟩ (l := []) (q := (0, 1)) (by rw [hr]; exact Dn.leaf _ (by kernel_rfl)) (ok_of (by kernel_rfl)) (by decide) (m := ((a9.at (0, 1)).delete ⟨#[98]⟩).1) (r := (1, 0)) (Prod.ext rfl hd1) (p1 := (a10, [])) (p2 := (a10, [])) (k2 := 0) (Up1.top _) (Up2.stop 0 _ (.inl (by kernel_rfl))) (by decide)).mono ?_
 rintro e w' ⟨ad, c, A, R', rfl, hG, hh⟩
 exact ⟨ad, c, R', rfl, hh.drop (List.sublist_append_right _ _)⟩
theorem anodes10 (h : Mt w0 w K a10 on R L) : Calls Try.prog 68 #[.pointer (some ⟨K.1, 0, none⟩)] w fun e w' => e = .returned (.tuple #[.int .i64 1, .int .i64 2]) ∧ Mt w0 w' K a10 on R L := by
 have h1 : ((a10.p.held : Int) - (a10.gone.length : Int)) = 1 := by kernel_rfl
 have h2 : (a10.gone.length : Int) = 2 := by kernel_rfl
 refine (nodes.calls h (Nat.le_of_ble_eq_true (by kernel_rfl))).mono ?_
 rintro e w' ⟨rfl, hh⟩
 exact ⟨by rw [h1, h2], hh⟩
theorem afresh10 (h : Mt w0 w K a10 on R L) : Calls Try.prog 61 #[.pointer (some ⟨K.1, 0, none⟩), .agg #[.int .i64 1, .int .i64 1, .int .i64 1]] w fun e w' => e = .returned (.bool false) ∧ Mt w0 w' K a10 on R L := by
 have h1 : a10.fresh (1, 1) 1 = false := by kernel_rfl
 refine (fresh.calls h (1, 1) 1).mono ?_
 rintro e w' ⟨rfl, hh⟩
 exact ⟨by rw [h1], hh⟩
theorem afree1 (h : Mt w0 w K a10 on R L) : Calls Try.prog 65 #[.pointer (some ⟨K.1, 0, none⟩), .agg #[.int .i64 1, .int .i64 1]] w fun e w' => e = .returned (.bool true) ∧ Mt w0 w' K a11 on R L := by
 have h1 : (a10.free (1, 1)).2 = true := by kernel_rfl
 refine (tfree.calls h (1, 1) (Nat.le_of_ble_eq_true (by kernel_rfl))).mono ?_
 rintro e w' ⟨rfl, hh⟩
 exact ⟨by rw [h1], hh⟩
theorem afree2 (h : Mt w0 w K a11 on R L) : Calls Try.prog 65 #[.pointer (some ⟨K.1, 0, none⟩), .agg #[.int .i64 1, .int .i64 1]] w fun e w' => e = .returned (.bool false) ∧ Mt w0 w' K a11 on R L := by
 have hi : Nat.ble a11.gone.length (idxF (1, 1) a11.gone) = true := by kernel_rfl
 have h1 : a11.free (1, 1) = (a11, false) := by
  unfold Tm.free
  rw [if_neg (Nat.not_lt.2 (Nat.le_of_ble_eq_true hi))]
 refine (tfree.calls h (1, 1) (Nat.le_of_ble_eq_true (by kernel_rfl))).mono ?_
 rw [h1]
 exact fun e w' hh => hh
theorem acheck (h : Mt w0 w K a11 on R L) : Calls Try.prog 70 #[.pointer (some ⟨K.1, 0, none⟩)] w fun e w' => e = .returned (.bool true) ∧ Mt w0 w' K a11 on R L := by
 have hr : a11.root = (0, 1) := by kernel_rfl
 have hb : ((visits a11 0 a11.root 0 ⟨#[]⟩ ⟨#[]⟩).foldl chkS chk0).ok = true := by kernel_rfl
 have hc : ((visits a11 0 a11.root 0 ⟨#[]⟩ ⟨#[]⟩).foldl chkS chk0).cnt = 1 := by kernel_rfl
 have hh1 : ((a11.p.held : Int) - (a11.gone.length : Int)) = 1 := by kernel_rfl
 have hs : Nd.Sm (a11.at a11.root) := (ok_of (by rw [hr]; kernel_rfl)).sm
 exact tcheck.calls h (hh := 0) (m := 10) (by decide) ⟨by rw [hr]; kernel_rfl, hs⟩ (by show 1 ≤ 10; decide) (by decide) (Nat.le_of_ble_eq_true (by kernel_rfl)) rfl (by rw [hb, hc, hh1]; rfl)
end Go.Proofs.Ytglbcfkmaamhaaa.Tr
end
section
set_option linter.unusedVariables false
set_option linter.unusedSimpArgs false
namespace Go.Proofs.Ytglbcfkmaamhaaa.Tr
open Go Go.RowKit Go.Proofs.YtglbcfkmaamhaaaW.PrintWords Go.Proofs.YtglbcfkmaamhaaaW.PrintLast Go.Proofs.YtglbcfkmaamhaaaW.PrintMore Go.Proofs.Ytglbcfkmaamhaaa.Hv Go.Proofs.Ytglbcfkmaamhaaa.Arm Go.Proofs.Ytglbcfkmaamhaaa.Nd Go.Proofs.Ytglbcfkmaamhaaa.ArN
variable {w0 w w1 : World} {L L' R : List Ob} {K : Nat × Nat × Nat} {on : Value}
theorem gcell {g : Nat} {cur : Array Value} {x y : Value} (h : Hv w0 w L) (hm : cb g 33 cur ∈ L) (h0 : cur[0]? = some x) (h1 : cur[1]? = some y) : w.cell? ⟨g, 0, none⟩ = some x ∧ w.cell? ⟨g, 1, none⟩ = some y := ⟨h.cell hm 0 h0, h.cell hm 1 h1⟩
def lst : Nat → Int
 | 0 => 0
 | 5 => 2
 | _ => 1
theorem aw_idx0 (w : World) : (Instr.index 144 (.agg #[.string ⟨#[97]⟩, .string ⟨#[98]⟩, .string ⟨#[99]⟩, .string ⟨#[100]⟩, .string ⟨#[101]⟩]) (.int .i64 0)).run Try.prog w = .ok (.string ⟨#[97]⟩) w := by kernel_rfl
theorem aw_idx1 (w : World) : (Instr.index 144 (.agg #[.string ⟨#[97]⟩, .string ⟨#[98]⟩, .string ⟨#[99]⟩, .string ⟨#[100]⟩, .string ⟨#[101]⟩]) (.int .i64 1)).run Try.prog w = .ok (.string ⟨#[98]⟩) w := by kernel_rfl
theorem aw_idx2 (w : World) : (Instr.index 144 (.agg #[.string ⟨#[97]⟩, .string ⟨#[98]⟩, .string ⟨#[99]⟩, .string ⟨#[100]⟩, .string ⟨#[101]⟩]) (.int .i64 2)).run Try.prog w = .ok (.string ⟨#[99]⟩) w := by kernel_rfl
theorem aw_idx3 (w : World) : (Instr.index 144 (.agg #[.string ⟨#[97]⟩, .string ⟨#[98]⟩, .string ⟨#[99]⟩, .string ⟨#[100]⟩, .string ⟨#[101]⟩]) (.int .i64 3)).run Try.prog w = .ok (.string ⟨#[100]⟩) w := by kernel_rfl
theorem aw_idx4 (w : World) : (Instr.index 144 (.agg #[.string ⟨#[97]⟩, .string ⟨#[98]⟩, .string ⟨#[99]⟩, .string ⟨#[100]⟩, .string ⟨#[101]⟩]) (.int .i64 4)).run Try.prog w = .ok (.string ⟨#[101]⟩) w := by kernel_rfl
set_option maxHeartbeats 16000000 in
set_option maxRecDepth 100000 in
theorem awake.calls (w : World) : Calls Try.prog 57 #[] w fun e w' => e = .returned (.bool true) ∧ Below w.heap.size w w' := by
 have hu33 := Try.underlying33
 have hu85 := Try.underlying85
 have hu31 := Try.underlying31
 have hu80 := Try.underlying80
 have hu144 := Try.underlying144
 go_enter Try.func57, Try.ntmps57
 go_wp2_with (first | (go_at_call 58; go_loud (refine (newOk.calls (Hv.start w) 20 (by decide) (by decide)).mono ?_); rintro e1 w1 ⟨K, rfl, h1⟩; have H1 := Aside0.mk (show Mt w w1 K (aT 0) .nilFunc [] [] from h1); clear h1))
 go_loopg [3, 41] 5 (fun kq v3 v41 wr => ∃ (k : Nat), v3 = .int .i64 (lst k) ∧ v41 = .int .i64 (k : Int) ∧ kq = 5 - k ∧ k ≤ 5 ∧ Aside0 (∃ R, Mt w wr K (aT k) .nilFunc R []))
 case atStart => exact ⟨0, rfl, rfl, rfl, by omega, ⟨[], H1.out⟩⟩
 case round =>
  obtain ⟨k, rfl, rfl, rfl, hk, HS⟩ := hrel
  clear H1
  obtain rfl | rfl | rfl | rfl | rfl | rfl : k = 0 ∨ k = 1 ∨ k = 2 ∨ k = 3 ∨ k = 4 ∨ k = 5 := by omega
  ·obtain ⟨R, hS⟩ := HS.out
   have HT := Aside0.mk hS
   clear hS HS
   have hi := aw_idx0
   go_wp2_with (first | (go_at_call 66; go_loud (refine (aput0 HT.out).mono ?_); rintro e2 w2 ⟨ad, c, R2, rfl, h2⟩; have H2 := Aside0.mk h2; clear h2))
   go_roundg (5 - (0 + 1))
   case measure => omega
   case rel => exact ⟨0 + 1, by rfl, by rfl, by omega, by omega, ⟨R2, H2.out⟩⟩
  ·obtain ⟨R, hS⟩ := HS.out
   have HT := Aside0.mk hS
   clear hS HS
   have hi := aw_idx1
   go_wp2_with (first | (go_at_call 66; go_loud (refine (aput1 HT.out).mono ?_); rintro e2 w2 ⟨ad, c, R2, rfl, h2⟩; have H2 := Aside0.mk h2; clear h2))
   go_roundg (5 - (1 + 1))
   case measure => omega
   case rel => exact ⟨1 + 1, by rfl, by rfl, by omega, by omega, ⟨R2, H2.out⟩⟩
  ·obtain ⟨R, hS⟩ := HS.out
   have HT := Aside0.mk hS
   clear hS HS
   have hi := aw_idx2
   go_wp2_with (first | (go_at_call 66; go_loud (refine (aput2 HT.out).mono ?_); rintro e2 w2 ⟨ad, c, R2, rfl, h2⟩; have H2 := Aside0.mk h2; clear h2))
   go_roundg (5 - (2 + 1))
   case measure => omega
   case rel => exact ⟨2 + 1, by rfl, by rfl, by omega, by omega, ⟨R2, H2.out⟩⟩
  ·obtain ⟨R, hS⟩ := HS.out
   have HT := Aside0.mk hS
   clear hS HS
   have hi := aw_idx3
   go_wp2_with (first | (go_at_call 66; go_loud (refine (aput3 HT.out).mono ?_); rintro e2 w2 ⟨ad, c, R2, rfl, h2⟩; have H2 := Aside0.mk h2; clear h2))
   go_roundg (5 - (3 + 1))
   case measure => omega
   case rel => exact ⟨3 + 1, by rfl, by rfl, by omega, by omega, ⟨R2, H2.out⟩⟩
  ·obtain ⟨R, hS⟩ := HS.out
   have HT := Aside0.mk hS
   clear hS HS
   have hi := aw_idx4
   go_wp2_with (first | (go_at_call 66; go_loud (refine (aput4 HT.out).mono ?_); rintro e2 w2 ⟨ad, c, R2, rfl, h2⟩; have H2 := Aside0.mk h2; clear h2))
   go_roundg (5 - (4 + 1))
   case measure => omega
   case rel => exact ⟨4 + 1, by rfl, by rfl, by omega, by omega, ⟨R2, H2.out⟩⟩
  ·obtain ⟨R, hS⟩ := HS.out
   have HT := Aside0.mk hS
   clear hS HS
   go_upto_region 14 with (go_at_call 71; go_loud (refine (afind HT.out).mono ?_); rintro e2 w2 ⟨rfl, h2⟩; have H2 := Aside0.mk h2; clear h2)
   obtain ⟨W2, hW, hw⟩ : ∃ W, W = (w2.alloc (.cells #[.int .i64 3, .int .i64 0] 33)).alloc (.cells #[.int .i64 1, .int .i64 1, .int .i64 1] 85) ∧ Mt w W K (aT 5) .nilFunc R ([cb (w2.heap.size + 1) 85 #[.int .i64 1, .int .i64 1, .int .i64 1], cb w2.heap.size 33 #[.int .i64 3, .int .i64 0]]) := ⟨_, rfl, by have := (H2.out.alloc (.cells #[.int .i64 3, .int .i64 0] 33)).alloc (.cells #[.int .i64 1, .int .i64 1, .int .i64 1] 85); simpa [cb] using this⟩
   rw [← hW]
   have H3 := Aside0.mk hw
   clear hW hw
   generalize w2.heap.size = b2 at H3 ⊢
   go_upto_region 15 with (go_at_call 72; go_loud (refine (aleaf H3.out).mono ?_); rintro e4 w4 ⟨xl, adl, cl, rfl, h4⟩; have H4 := Aside0.mk h4; clear h4)
   obtain ⟨W4, hW, hw⟩ : ∃ W, W = w4.alloc (.cells #[.int .i64 0, .int .i64 1, .int .i64 xl] 85) ∧ Mt w W K (aT 5) .nilFunc R (cb w4.heap.size 85 #[.int .i64 0, .int .i64 1, .int .i64 xl] :: [cb (b2 + 1) 85 #[.int .i64 1, .int .i64 1, .int .i64 1], cb b2 33 #[.int .i64 3, .int .i64 0]]) := ⟨_, rfl, H4.out.alloc _⟩
   rw [← hW]
   have H5 := Aside0.mk hw
   clear hW hw
   replace H5 := Aside0.mk H5.out.tail
   go_upto_region 16 with (go_at_call 68; go_loud (refine (anodes5 H5.out).mono ?_); rintro e6 w6 ⟨rfl, h6⟩; have H6 := Aside0.mk h6; clear h6)
   obtain ⟨s0, s1, s2, -, -, -⟩ := H6.out.other.c3 (b2 + 1) 85 (.int .i64 1) (.int .i64 1) (.int .i64 1) (by simp)
   obtain ⟨r0, r1, -, -⟩ := H6.out.other.c2 b2 33 (.int .i64 3) (.int .i64 0) (by simp)
   go_upto_region 17 with (go_at_call 61; go_loud (refine (afresh5 H6.out).mono ?_); rintro e7 w7 ⟨rfl, h7⟩; have H7 := Aside0.mk h7; clear h7; clear s0 s1 s2 r0 r1; obtain ⟨s0, s1, s2, -, -, -⟩ := H7.out.other.c3 (b2 + 1) 85 (.int .i64 1) (.int .i64 1) (.int .i64 1) (by simp); obtain ⟨r0, r1, -, -⟩ := H7.out.other.c2 b2 33 (.int .i64 3) (.int .i64 0) (by simp))
   go_upto_region 18 with (go_at_call 66; go_loud (refine (adup H7.out).mono ?_); rintro e8 w8 ⟨ad8, c8, R8, rfl, h8⟩; have H8 := Aside0.mk h8; clear h8; clear s0 s1 s2 r0 r1)
   go_upto_region 19 with (go_at_call 64; go_loud (refine (adel1 H8.out).mono ?_); rintro e9 w9 ⟨ad9, c9, A9, R9, rfl, hg9, h9⟩; obtain ⟨g9, cur, rfl, rfl, -, hnc9, -, hcu⟩ := hg9.addr (by decide); have HC0 := Aside0.mk (hcu 0 (by decide)); have HC1 := Aside0.mk (hcu 1 (by decide)); have H9 := Aside0.mk h9; clear h9 hg9 hcu)
   obtain ⟨W9, hW, hw⟩ : ∃ W, W = w9.alloc (.cells #[.int .i64 3, .int .i64 0] 33) ∧ Mt w W K (a8) .nilFunc R9 (cb w9.heap.size 33 #[.int .i64 3, .int .i64 0] :: ([cb g9 33 cur] ++ [cb (b2 + 1) 85 #[.int .i64 1, .int .i64 1, .int .i64 1], cb b2 33 #[.int .i64 3, .int .i64 0]])) := ⟨_, rfl, H9.out.alloc _⟩
   rw [← hW]
   have H10 := Aside0.mk hw
   clear hW hw
   generalize w9.heap.size = b9 at H10 ⊢
   go_upto_region 20 with (go_at_call 64; go_loud (refine (adel2 H10.out).mono ?_); rintro e11 w11 ⟨ad11, c11, R11, rfl, h11⟩; have H11 := Aside0.mk h11; clear h11)
   obtain ⟨W11, hW, hw⟩ : ∃ W, W = w11.alloc (.cells #[.int .i64 0, .int .i64 0] 33) ∧ Mt w W K (a9) .nilFunc R11 (cb w11.heap.size 33 #[.int .i64 0, .int .i64 0] :: cb b9 33 #[.int .i64 3, .int .i64 0] :: ([cb g9 33 cur] ++ [cb (b2 + 1) 85 #[.int .i64 1, .int .i64 1, .int .i64 1], cb b2 33 #[.int .i64 3, .int .i64 0]])) := ⟨_, rfl, H11.out.alloc _⟩
   rw [← hW]
   have H12 := Aside0.mk hw
   clear hW hw
   generalize w11.heap.size = b11 at H12 ⊢
   go_upto_region 21 with (go_at_call 64; go_loud (refine (adel3 H12.out).mono ?_); rintro e13 w13 ⟨ad13, c13, R13, rfl, h13⟩; have H13 := Aside0.mk h13; clear h13)
   obtain ⟨W13, hW, hw⟩ : ∃ W, W = w13.alloc (.cells #[.int .i64 1, .int .i64 0] 33) ∧ Mt w W K (a10) .nilFunc R13 (cb w13.heap.size 33 #[.int .i64 1, .int .i64 0] :: (cb b11 33 #[.int .i64 0, .int .i64 0] :: cb b9 33 #[.int .i64 3, .int .i64 0] :: ([cb g9 33 cur] ++ [cb (b2 + 1) 85 #[.int .i64 1, .int .i64 1, .int .i64 1], cb b2 33 #[.int .i64 3, .int .i64 0]]))) := ⟨_, rfl, H13.out.alloc _⟩
   rw [← hW]
   have H14 := Aside0.mk hw
   clear hW hw
   replace H14 := Aside0.mk H14.out.tail
   go_upto_region 22 with (go_at_call 68; go_loud (refine (anodes10 H14.out).mono ?_); rintro e15 w15 ⟨rfl, h15⟩; have H15 := Aside0.mk h15; clear h15)
   obtain ⟨s0, s1, s2, -, -, -⟩ := H15.out.other.c3 (b2 + 1) 85 (.int .i64 1) (.int .i64 1) (.int .i64 1) (by simp)
   obtain ⟨r0, r1, -, -⟩ := H15.out.other.c2 b2 33 (.int .i64 3) (.int .i64 0) (by simp)
   obtain ⟨d0, d1, -, -⟩ := H15.out.other.c2 b9 33 (.int .i64 3) (.int .i64 0) (by simp)
   obtain ⟨f0, f1, -, -⟩ := H15.out.other.c2 b11 33 (.int .i64 0) (.int .i64 0) (by simp)
   obtain ⟨g0, g1⟩ := gcell (g := g9) (cur := cur) H15.out.other (by simp) HC0.out HC1.out
   go_wp2_with (first
    | (go_at_call 70; have hx := HF2.out; clear hx; go_loud (refine (acheck HF2.out).mono ?_); rintro e19 w19 ⟨rfl, h19⟩; have HZ := Aside0.mk h19; clear h19; clear s0 s1 s2 r0 r1 d0 d1 f0 f1 g0 g1)
    | (go_at_call 65; have hx := HF1.out; clear hx; go_loud (refine (afree2 HF1.out).mono ?_); rintro e18 w18 ⟨rfl, h18⟩; have HF2 := Aside0.mk h18; clear h18; clear s0 s1 s2 r0 r1 d0 d1 f0 f1 g0 g1; obtain ⟨s0, s1, s2, -, -, -⟩ := HF2.out.other.c3 (b2 + 1) 85 (.int .i64 1) (.int .i64 1) (.int .i64 1) (by simp); obtain ⟨r0, r1, -, -⟩ := HF2.out.other.c2 b2 33 (.int .i64 3) (.int .i64 0) (by simp); obtain ⟨d0, d1, -, -⟩ := HF2.out.other.c2 b9 33 (.int .i64 3) (.int .i64 0) (by simp); obtain ⟨f0, f1, -, -⟩ := HF2.out.other.c2 b11 33 (.int .i64 0) (.int .i64 0) (by simp); obtain ⟨g0, g1⟩ := gcell (g := g9) (cur := cur) HF2.out.other (by simp) HC0.out HC1.out)
    | (go_at_call 65; go_loud (refine (afree1 H16.out).mono ?_); rintro e17 w17 ⟨rfl, h17⟩; have HF1 := Aside0.mk h17; clear h17; clear s0 s1 s2 r0 r1 d0 d1 f0 f1 g0 g1; obtain ⟨s0, s1, s2, -, -, -⟩ := HF1.out.other.c3 (b2 + 1) 85 (.int .i64 1) (.int .i64 1) (.int .i64 1) (by simp); obtain ⟨r0, r1, -, -⟩ := HF1.out.other.c2 b2 33 (.int .i64 3) (.int .i64 0) (by simp); obtain ⟨d0, d1, -, -⟩ := HF1.out.other.c2 b9 33 (.int .i64 3) (.int .i64 0) (by simp); obtain ⟨f0, f1, -, -⟩ := HF1.out.other.c2 b11 33 (.int .i64 0) (.int .i64 0) (by simp); obtain ⟨g0, g1⟩ := gcell (g := g9) (cur := cur) HF1.out.other (by simp) HC0.out HC1.out)
    | (go_at_call 61; go_loud (refine (afresh10 H15.out).mono ?_); rintro e16 w16 ⟨rfl, h16⟩; have H16 := Aside0.mk h16; clear h16; clear s0 s1 s2 r0 r1 d0 d1 f0 f1 g0 g1; obtain ⟨s0, s1, s2, -, -, -⟩ := H16.out.other.c3 (b2 + 1) 85 (.int .i64 1) (.int .i64 1) (.int .i64 1) (by simp); obtain ⟨r0, r1, -, -⟩ := H16.out.other.c2 b2 33 (.int .i64 3) (.int .i64 0) (by simp); obtain ⟨d0, d1, -, -⟩ := H16.out.other.c2 b9 33 (.int .i64 3) (.int .i64 0) (by simp); obtain ⟨f0, f1, -, -⟩ := H16.out.other.c2 b11 33 (.int .i64 0) (.int .i64 0) (by simp); obtain ⟨g0, g1⟩ := gcell (g := g9) (cur := cur) H16.out.other (by simp) HC0.out HC1.out))
   exact bodyPost_ret (v := .bool true) (by simp [results, Try.results57, go_sem]) rfl ⟨rfl, HZ.out.bel⟩
end Go.Proofs.Ytglbcfkmaamhaaa.Tr
end
section
set_option linter.unusedVariables false
set_option linter.unusedSimpArgs false
namespace Go.Proofs.Ytglbcfkmaamhaaa.Tr
open Go Go.RowKit Go.Proofs.YtglbcfkmaamhaaaW.PrintWords Go.Proofs.YtglbcfkmaamhaaaW.PrintLast Go.Proofs.YtglbcfkmaamhaaaW.PrintMore Go.Proofs.Ytglbcfkmaamhaaa.Hv Go.Proofs.Ytglbcfkmaamhaaa.Arm Go.Proofs.Ytglbcfkmaamhaaa.Nd Go.Proofs.Ytglbcfkmaamhaaa.ArN
variable {w0 w w1 : World} {L L' R : List Ob}
theorem eq33z (w : World) : (binOp .eql 33 (.agg #[.int .i64 0, .int .i64 0]) (.agg #[.int .i64 0, .int .i64 0])).run Try.prog w = .ok (.bool true) w := by kernel_rfl
theorem eq85z (w : World) : (binOp .eql 85 (.agg #[.int .i64 0, .int .i64 0, .int .i64 0]) (.agg #[.int .i64 0, .int .i64 0, .int .i64 0])).run Try.prog w = .ok (.bool true) w := by kernel_rfl
theorem cells7 {g : Nat} {kd : Int} {key : ByteArray} {r : Rf} {s : Rf × Int} (h : Hv w0 w L) (hm : cb g 87 #[.int .i64 kd, .string key, .int .i64 r.1, .int .i64 r.2, .int .i64 s.1.1, .int .i64 s.1.2, .int .i64 s.2] ∈ L) : w.cell? ⟨g, 1, none⟩ = some (.string key) ∧ w.cell? ⟨g, 2, none⟩ = some (.int .i64 r.1) ∧ w.cell? ⟨g, 3, none⟩ = some (.int .i64 r.2) ∧ w.cell? ⟨g, 4, none⟩ = some (.int .i64 s.1.1) ∧ w.cell? ⟨g, 5, none⟩ = some (.int .i64 s.1.2) ∧ w.cell? ⟨g, 6, none⟩ = some (.int .i64 s.2) :=
 ⟨h.cell hm 1 rfl, h.cell hm 2 rfl, h.cell hm 3 rfl, h.cell hm 4 rfl, h.cell hm 5 rfl, h.cell hm 6 rfl⟩
set_option maxHeartbeats 16000000 in
set_option maxRecDepth 100000 in
theorem none_.calls (w : World) (kd : Int) (key : ByteArray) (r : Rf) (s : Rf × Int) : Calls Try.prog 12 #[.agg #[.int .i64 kd, .string key, .int .i64 r.1, .int .i64 r.2, .int .i64 s.1.1, .int .i64 s.1.2, .int .i64 s.2]] w fun e w' => e = .returned (.bool true) ∧ Below w.heap.size w w' := by
 have hu33 := Try.underlying33
 have hu85 := Try.underlying85
 have hu87 := Try.underlying87
 have hu31 := Try.underlying31
 have hu80 := Try.underlying80
 have hz33 := eq33z
 have hz85 := eq85z
 have HV := Aside0.mk (show Hv w (w.alloc (.cells #[.int .i64 kd, .string key, .int .i64 r.1, .int .i64 r.2, .int .i64 s.1.1, .int .i64 s.1.2, .int .i64 s.2] 87)) [cb w.heap.size 87 #[.int .i64 kd, .string key, .int .i64 r.1, .int .i64 r.2, .int .i64 s.1.1, .int .i64 s.1.2, .int .i64 s.2]] from (Hv.start w).alloc _)
 obtain ⟨y1, y2, y3, y4, y5, y6⟩ := cells7 (g := w.heap.size) (kd := kd) (key := key) (r := r) (s := s) HV.out (by simp)
 go_enter Try.func12, Try.ntmps12
 go_upto_region 3 with (go_at_call 71; go_loud (refine (findNil.calls _ key).mono ?_); rintro e1 w1 ⟨rfl, h1⟩; have H1 := Aside0.mk (HV.out.call h1); clear h1)
 obtain ⟨W1, hW, hw⟩ : ∃ W, W = (w1.alloc (.cells #[.int .i64 0, .int .i64 0] 33)).alloc (.cells #[.int .i64 0, .int .i64 0, .int .i64 0] 85) ∧ Hv w W ([cb (w1.heap.size + 1) 85 #[.int .i64 0, .int .i64 0, .int .i64 0], cb w1.heap.size 33 #[.int .i64 0, .int .i64 0], cb w.heap.size 87 #[.int .i64 kd, .string key, .int .i64 r.1, .int .i64 r.2, .int .i64 s.1.1, .int .i64 s.1.2, .int .i64 s.2]]) := ⟨_, rfl, by have := (H1.out.alloc (.cells #[.int .i64 0, .int .i64 0] 33)).alloc (.cells #[.int .i64 0, .int .i64 0, .int .i64 0] 85); simpa [cb] using this⟩
 rw [← hW]
 have H2 := Aside0.mk hw
 clear hW hw
 generalize w1.heap.size = b1 at H2 ⊢
 clear y1 y2 y3 y4 y5 y6
 obtain ⟨y1, y2, y3, y4, y5, y6⟩ := cells7 (g := w.heap.size) (kd := kd) (key := key) (r := r) (s := s) H2.out (by simp)
 go_upto_region 4 with (go_at_call 66; go_loud (refine (putNil.calls _ key r).mono ?_); rintro e3 w3 ⟨rfl, hh⟩; have H3 := Aside0.mk (H2.out.call hh); clear hh; clear y1 y2 y3 y4 y5 y6; obtain ⟨y1, y2, y3, y4, y5, y6⟩ := cells7 (g := w.heap.size) (kd := kd) (key := key) (r := r) (s := s) H3.out (by simp))
 go_upto_region 5 with (go_at_call 64; go_loud (refine (deleteNil.calls _ key).mono ?_); rintro e4 w4 ⟨rfl, hh⟩; have H4 := Aside0.mk (H3.out.call hh); clear hh; clear y1 y2 y3 y4 y5 y6; obtain ⟨y1, y2, y3, y4, y5, y6⟩ := cells7 (g := w.heap.size) (kd := kd) (key := key) (r := r) (s := s) H4.out (by simp))
 obtain ⟨W4, hW, hw⟩ : ∃ W, W = w4.alloc (.cells #[.int .i64 0, .int .i64 0] 33) ∧ Hv w W (cb w4.heap.size 33 #[.int .i64 0, .int .i64 0] :: [cb (b1 + 1) 85 #[.int .i64 0, .int .i64 0, .int .i64 0], cb b1 33 #[.int .i64 0, .int .i64 0], cb w.heap.size 87 #[.int .i64 kd, .string key, .int .i64 r.1, .int .i64 r.2, .int .i64 s.1.1, .int .i64 s.1.2, .int .i64 s.2]]) := ⟨_, rfl, H4.out.alloc _⟩
 rw [← hW]
 have H5 := Aside0.mk hw
 clear hW hw
 generalize w4.heap.size = b4 at H5 ⊢
 clear y1 y2 y3 y4 y5 y6
 obtain ⟨y1, y2, y3, y4, y5, y6⟩ := cells7 (g := w.heap.size) (kd := kd) (key := key) (r := r) (s := s) H5.out (by simp)
 go_upto_region 6 with (go_at_call 72; go_loud (refine (leafNil.calls _ key).mono ?_); rintro e6 w6 ⟨rfl, hh⟩; have H6 := Aside0.mk (H5.out.call hh); clear hh; clear y1 y2 y3 y4 y5 y6; obtain ⟨y1, y2, y3, y4, y5, y6⟩ := cells7 (g := w.heap.size) (kd := kd) (key := key) (r := r) (s := s) H6.out (by simp))
 obtain ⟨W6, hW, hw⟩ : ∃ W, W = w6.alloc (.cells #[.int .i64 0, .int .i64 0, .int .i64 0] 85) ∧ Hv w W (cb w6.heap.size 85 #[.int .i64 0, .int .i64 0, .int .i64 0] :: (cb b4 33 #[.int .i64 0, .int .i64 0] :: [cb (b1 + 1) 85 #[.int .i64 0, .int .i64 0, .int .i64 0], cb b1 33 #[.int .i64 0, .int .i64 0], cb w.heap.size 87 #[.int .i64 kd, .string key, .int .i64 r.1, .int .i64 r.2, .int .i64 s.1.1, .int .i64 s.1.2, .int .i64 s.2]])) := ⟨_, rfl, H6.out.alloc _⟩
 rw [← hW]
 have H7 := Aside0.mk hw
 clear hW hw
 generalize w6.heap.size = b6 at H7 ⊢
 clear y1 y2 y3 y4 y5 y6
 obtain ⟨y1, y2, y3, y4, y5, y6⟩ := cells7 (g := w.heap.size) (kd := kd) (key := key) (r := r) (s := s) H7.out (by simp)
 go_upto_region 7 with (go_at_call 68; go_loud (refine (nodesNil.calls _).mono ?_); rintro e8 w8 ⟨rfl, hh⟩; have H8 := Aside0.mk (H7.out.call hh); clear hh; clear y1 y2 y3 y4 y5 y6; obtain ⟨y1, y2, y3, y4, y5, y6⟩ := cells7 (g := w.heap.size) (kd := kd) (key := key) (r := r) (s := s) H8.out (by simp); obtain ⟨p0, p1, p2, -, -, -⟩ := H8.out.c3 (b1 + 1) 85 (.int .i64 0) (.int .i64 0) (.int .i64 0) (by simp); obtain ⟨q0, q1, -, -⟩ := H8.out.c2 b1 33 (.int .i64 0) (.int .i64 0) (by simp); obtain ⟨t0, t1, -, -⟩ := H8.out.c2 b4 33 (.int .i64 0) (.int .i64 0) (by simp); obtain ⟨u0, u1, u2, -, -, -⟩ := H8.out.c3 b6 85 (.int .i64 0) (.int .i64 0) (.int .i64 0) (by simp))
 go_wp2_with (first
  | (go_at_call 61; have hx := H8.out; clear hx; go_loud (refine (freshNil.calls _ s.1 s.2).mono ?_); rintro e9 w9 ⟨rfl, hh⟩; have H9 := Aside0.mk (H8.out.call hh); clear hh; clear y1 y2 y3 y4 y5 y6 p0 p1 p2 q0 q1 t0 t1 u0 u1 u2; obtain ⟨y1, y2, y3, y4, y5, y6⟩ := cells7 (g := w.heap.size) (kd := kd) (key := key) (r := r) (s := s) H9.out (by simp); obtain ⟨p0, p1, p2, -, -, -⟩ := H9.out.c3 (b1 + 1) 85 (.int .i64 0) (.int .i64 0) (.int .i64 0) (by simp); obtain ⟨q0, q1, -, -⟩ := H9.out.c2 b1 33 (.int .i64 0) (.int .i64 0) (by simp); obtain ⟨t0, t1, -, -⟩ := H9.out.c2 b4 33 (.int .i64 0) (.int .i64 0) (by simp); obtain ⟨u0, u1, u2, -, -, -⟩ := H9.out.c3 b6 85 (.int .i64 0) (.int .i64 0) (.int .i64 0) (by simp))
  | (go_at_call 65; have hx := H9.out; clear hx; go_loud (refine (freeNil.calls _ r).mono ?_); rintro e10 w10 ⟨rfl, hh⟩; have H10 := Aside0.mk (H9.out.call hh); clear hh; clear y1 y2 y3 y4 y5 y6 p0 p1 p2 q0 q1 t0 t1 u0 u1 u2; obtain ⟨y1, y2, y3, y4, y5, y6⟩ := cells7 (g := w.heap.size) (kd := kd) (key := key) (r := r) (s := s) H10.out (by simp); obtain ⟨p0, p1, p2, -, -, -⟩ := H10.out.c3 (b1 + 1) 85 (.int .i64 0) (.int .i64 0) (.int .i64 0) (by simp); obtain ⟨q0, q1, -, -⟩ := H10.out.c2 b1 33 (.int .i64 0) (.int .i64 0) (by simp); obtain ⟨t0, t1, -, -⟩ := H10.out.c2 b4 33 (.int .i64 0) (.int .i64 0) (by simp); obtain ⟨u0, u1, u2, -, -, -⟩ := H10.out.c3 b6 85 (.int .i64 0) (.int .i64 0) (.int .i64 0) (by simp))
  | (go_at_call 69; have hx := H10.out; clear hx; go_loud (refine (itemsNil.calls _).mono ?_); rintro e11 w11 ⟨rfl, hh⟩; have H11 := Aside0.mk (H10.out.call hh); clear hh; clear y1 y2 y3 y4 y5 y6 p0 p1 p2 q0 q1 t0 t1 u0 u1 u2; obtain ⟨y1, y2, y3, y4, y5, y6⟩ := cells7 (g := w.heap.size) (kd := kd) (key := key) (r := r) (s := s) H11.out (by simp); obtain ⟨p0, p1, p2, -, -, -⟩ := H11.out.c3 (b1 + 1) 85 (.int .i64 0) (.int .i64 0) (.int .i64 0) (by simp); obtain ⟨q0, q1, -, -⟩ := H11.out.c2 b1 33 (.int .i64 0) (.int .i64 0) (by simp); obtain ⟨t0, t1, -, -⟩ := H11.out.c2 b4 33 (.int .i64 0) (.int .i64 0) (by simp); obtain ⟨u0, u1, u2, -, -, -⟩ := H11.out.c3 b6 85 (.int .i64 0) (.int .i64 0) (.int .i64 0) (by simp))
  | (go_at_call 70; have hx := H11.out; clear hx; go_loud (refine (checkNil.calls _).mono ?_); rintro e12 w12 ⟨rfl, hh⟩; have H12 := Aside0.mk (H11.out.call hh); clear hh; clear y1 y2 y3 y4 y5 y6 p0 p1 p2 q0 q1 t0 t1 u0 u1 u2; obtain ⟨y1, y2, y3, y4, y5, y6⟩ := cells7 (g := w.heap.size) (kd := kd) (key := key) (r := r) (s := s) H12.out (by simp); obtain ⟨p0, p1, p2, -, -, -⟩ := H12.out.c3 (b1 + 1) 85 (.int .i64 0) (.int .i64 0) (.int .i64 0) (by simp); obtain ⟨q0, q1, -, -⟩ := H12.out.c2 b1 33 (.int .i64 0) (.int .i64 0) (by simp); obtain ⟨t0, t1, -, -⟩ := H12.out.c2 b4 33 (.int .i64 0) (.int .i64 0) (by simp); obtain ⟨u0, u1, u2, -, -, -⟩ := H12.out.c3 b6 85 (.int .i64 0) (.int .i64 0) (.int .i64 0) (by simp))
  | (go_at_call 57; have hx := H12.out; clear hx; go_loud (refine (awake.calls _).mono ?_); rintro e13 w13 ⟨rfl, hh⟩; have H13 := Aside0.mk (H12.out.call hh); clear hh; clear y1 y2 y3 y4 y5 y6 p0 p1 p2 q0 q1 t0 t1 u0 u1 u2; obtain ⟨y1, y2, y3, y4, y5, y6⟩ := cells7 (g := w.heap.size) (kd := kd) (key := key) (r := r) (s := s) H13.out (by simp); obtain ⟨p0, p1, p2, -, -, -⟩ := H13.out.c3 (b1 + 1) 85 (.int .i64 0) (.int .i64 0) (.int .i64 0) (by simp); obtain ⟨q0, q1, -, -⟩ := H13.out.c2 b1 33 (.int .i64 0) (.int .i64 0) (by simp); obtain ⟨t0, t1, -, -⟩ := H13.out.c2 b4 33 (.int .i64 0) (.int .i64 0) (by simp); obtain ⟨u0, u1, u2, -, -, -⟩ := H13.out.c3 b6 85 (.int .i64 0) (.int .i64 0) (.int .i64 0) (by simp))
  )
 exact bodyPost_ret (v := .bool true) (by simp [results, Try.results12, go_sem]) rfl ⟨rfl, H13.out.bel⟩
end Go.Proofs.Ytglbcfkmaamhaaa.Tr
end
