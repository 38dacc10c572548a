/- A text of this claim: parts TsO TsP TsQ ArR. No condition. -/
import Derived.Test.YtglbcfkmaamhaaaFG17
import Derived.Test.YtglbcfkmaamhaaaFG8
import Derived.Test.YtglbcfkmaamhaaaFG12
import Derived.Test.YtglbcfkmaamhaaaFG0
import Derived.Test.YtglbcfkmaamhaaaProg
import Derived.Test.YtglbcfkmaamhaaaFG1
import Derived.Below
import Derived.Deep.Draws
import Derived.Deep.AppendLies
import Derived.Maps.AppendAt
import Derived.OwnWalk
import Derived.Laws.BytesArg
import Derived.Laws.MakeOwn
import Derived.Laws.OwnMore
import Derived.Deep.OwnRows
import Derived.Tactics
import Derived.Lib.ConvBytes
import Derived.Laws.Slices
import Derived.WalkKit
import Derived.KernelRfl
import Derived.RowKit3
import Derived.Deep.LoopGhost
import Derived.Deep.QuietTactic
import Derived.BigQuiet
import Derived.WideLaws
import Derived.Deep.DeepCutAuto
import Derived.Deep.CutBlock
import Derived.Deep.RegionHeld3
import Derived.Laws.Rows
import Derived.Lib.AppendStr
import Derived.ArgAppend
import Derived.Laws.IdiomCopy
import Derived.OrdersHeld
import Derived.Laws.BitsLemmas
import Derived.RowKit
import Derived.WalkLawsBesides
import Derived.RegionTactic
set_option linter.unusedVariables false
set_option linter.unusedSimpArgs false
set_option maxHeartbeats 16000000
set_option maxRecDepth 100000
namespace Go.Proofs.Ytglbcfkmaamhaaa.Tr
open Go Go.RowKit Go.Proofs.YtglbcfkmaamhaaaW.PrintWords Go.Proofs.YtglbcfkmaamhaaaW.PrintLast Go.Proofs.YtglbcfkmaamhaaaW.PrintMore Go.Proofs.Ytglbcfkmaamhaaa.Hv Go.Proofs.Ytglbcfkmaamhaaa.Arm Go.Proofs.Ytglbcfkmaamhaaa.Nd Go.Proofs.Ytglbcfkmaamhaaa.ArN
section
variable {w0 w w1 : World} {L L' R : List Ob} {K : Nat × Nat × Nat} {t : Tm} {on : Value}
def emp (s : ByteArray) : Bool := s.toList.isEmpty
def inK (lo hi k : ByteArray) : Bool := !bl k lo && (emp hi || bl k hi)
def okN (b : Bool) (lo hi : ByteArray) (l : List ByteArray) : Bool := l.foldl (fun b k => b && inK lo hi k) b
theorem okN_snoc (b : Bool) (lo hi : ByteArray) (l : List ByteArray) (k : ByteArray) : okN b lo hi (l ++ [k]) = (okN b lo hi l && inK lo hi k) := by simp [okN]
structure Chk where
 cnt : Int
 ok : Bool
 dp : Int
def Chk.dp1 (c : Chk) (d : Int) : Int := if c.dp < 0 then d else c.dp
def chkN (n : Nd.Nd) (c : Chk) (d : Int) (b : Bool) : Chk := if n.leaf then ⟨c.cnt + 1, b && decide (c.dp1 d = d), c.dp1 d⟩ else ⟨c.cnt + 1, b, c.dp⟩
def chkS (c : Chk) (v : Vis) : Chk := chkN v.n c v.d (okN (c.ok && v.n.check) v.lo v.hi v.n.keys)
def chb (g3 g4 g5 : Nat) (c : Chk) : List Ob := [cb g5 3 #[.int .i64 c.cnt], cb g3 4 #[.bool c.ok], cb g4 3 #[.int .i64 c.dp]]
theorem chkT.calls {g3 g4 g5 : Nat} {cnt dp : Int} {Q : List Ob} (hv : Hv w0 w (cb g5 3 #[.int .i64 cnt] :: cb g3 4 #[.bool true] :: cb g4 3 #[.int .i64 dp] :: Q)) (hRQ : ∀ p ∈ R, p ∈ Q) {n : Nd.Nd} {ka : Option Addr} {kc : Nat} {ra : Option Addr} {rc : Nat} (hn : NR w0 R n ka kc ra rc) (hs : Nd.Sm n) (hc0 : 0 ≤ cnt) (hc : cnt ≤ 1000000) (d : Int) (lo hi : ByteArray) {c2 : Chk} (hc2 : chkN n ⟨cnt, true, dp⟩ d (okN n.check lo hi n.keys) = c2) :
  Calls Try.prog 125 #[.agg #[.bool n.leaf, .int .i64 n.ver, .slice ka n.keys.length kc, .slice ra n.refs.length rc], .int .i64 d, .string lo, .string hi, .pointer (some ⟨g5, 0, none⟩), .pointer (some ⟨g3, 0, none⟩), .pointer (some ⟨g4, 0, none⟩)] w fun e w' => e = .returned (.tuple #[]) ∧ Hv w0 w' (chb g3 g4 g5 c2 ++ Q) := by
 have hu59 := Try.underlying59
 have hu57 := Try.underlying57
 have hu31 := Try.underlying31
 have HV := As (show Hv w0 (w.alloc (.cells #[.bool n.leaf, .int .i64 n.ver, .slice ka n.keys.length kc, .slice ra n.refs.length rc] 59)) (cb w.heap.size 59 #[.bool n.leaf, .int .i64 n.ver, .slice ka n.keys.length kc, .slice ra n.refs.length rc] :: cb g5 3 #[.int .i64 cnt] :: cb g3 4 #[.bool true] :: cb g4 3 #[.int .i64 dp] :: Q) from hv.alloc _)
 have HN := As (And.intro hn (And.intro hRQ hs))
 have HC2 := As hc2
 have ewc : wrap64 (cnt + 1) = cnt + 1 := by unfold wrap64; omega
 clear hv hn hRQ hs hc0 hc hc2
 obtain ⟨y0, y1, y2, y3, -, -, -, -⟩ := HV.out.c4 w.heap.size 59 (.bool n.leaf) (.int .i64 n.ver) (.slice ka n.keys.length kc) (.slice ra n.refs.length rc) (by simp)
 obtain ⟨z5, zf5⟩ := HV.out.c1 g5 3 (.int .i64 cnt) (by simp)
 go_enter Try.func125, Try.ntmps125
 go_upto_region 2 with (fail)
 obtain ⟨W1, hW, hM⟩ : ∃ W, W = _ ∧ Hv w0 W (cb w.heap.size 59 #[.bool n.leaf, .int .i64 n.ver, .slice ka n.keys.length kc, .slice ra n.refs.length rc] :: cb g5 3 #[.int .i64 (cnt + 1)] :: cb g3 4 #[.bool true] :: cb g4 3 #[.int .i64 dp] :: Q) := ⟨_, rfl, HV.out.put1 0 (.int .i64 (cnt + 1)) rfl⟩
 rw [← hW]
 have H1 := As hM
 clear hW hM y0 y1 y2 y3 z5 zf5 ewc
 generalize w.heap.size = g7 at H1 HV ⊢
 obtain ⟨y0, y1, y2, y3, -, -, -, -⟩ := H1.out.c4 g7 59 (.bool n.leaf) (.int .i64 n.ver) (.slice ka n.keys.length kc) (.slice ra n.refs.length rc) (by simp)
 obtain ⟨z3, zf3⟩ := H1.out.c1 g3 4 (.bool true) (by simp)
 obtain ⟨b1, hb1⟩ : ∃ b1, n.check = b1 := ⟨_, rfl⟩
 have HB1 := As hb1
 rw [hb1] at HC2
 clear hb1
 go_upto_region 3 with (go_at_call 33; go_loud (refine (Nd.check.calls (w0 := w0) (L := cb g7 59 #[.bool n.leaf, .int .i64 n.ver, .slice ka n.keys.length kc, .slice ra n.refs.length rc] :: cb g5 3 #[.int .i64 (cnt + 1)] :: cb g3 4 #[.bool true] :: cb g4 3 #[.int .i64 dp] :: Q) H1.out ⟨ka, kc, ra, rc, rfl, HN.out.1.mono (fun p hp => by simp [HN.out.2.1 p hp])⟩ (by have := HN.out.2.2.r; omega) HN.out.2.2.k).mono ?_; rw [HB1.out]; rintro e2 w2 ⟨rfl, hh⟩; have H2 := As hh; clear hh; clear y0 y1 y2 y3 z3 zf3; obtain ⟨z3, zf3⟩ := H2.out.c1 g3 4 (.bool true) (by simp)))
 obtain ⟨W3, hW, hM⟩ : ∃ W, W = _ ∧ Hv w0 W (cb g7 59 #[.bool n.leaf, .int .i64 n.ver, .slice ka n.keys.length kc, .slice ra n.refs.length rc] :: cb g5 3 #[.int .i64 (cnt + 1)] :: cb g3 4 #[.bool b1] :: cb g4 3 #[.int .i64 dp] :: Q) := ⟨_, rfl, H2.out.put2 0 (.bool b1) rfl⟩
 rw [← hW]
 have H3 := As hM
 clear hW hM z3 zf3
 obtain ⟨y0, y1, y2, y3, -, -, -, -⟩ := H3.out.c4 g7 59 (.bool n.leaf) (.int .i64 n.ver) (.slice ka n.keys.length kc) (.slice ra n.refs.length rc) (by simp)
 go_wp2_with fail
 clear y0 y1 y2 y3
 go_loopg [23] n.keys.length (fun kq v23 wr => ∃ (k : Nat) (b : Bool), v23 = .int .i64 (k : Int) ∧ kq = n.keys.length - k ∧ k ≤ n.keys.length ∧ Aside0 (okN b1 lo hi (n.keys.take k) = b) ∧ Aside0 (Hv w0 wr (cb g7 59 #[.bool n.leaf, .int .i64 n.ver, .slice ka n.keys.length kc, .slice ra n.refs.length rc] :: cb g5 3 #[.int .i64 (cnt + 1)] :: cb g3 4 #[.bool b] :: cb g4 3 #[.int .i64 dp] :: Q)))
 case atStart => exact ⟨0, b1, rfl, rfl, Nat.zero_le _, ⟨rfl⟩, H3⟩
 case round =>
  obtain ⟨k, b, rfl, rfl, hk, HB, HW⟩ := hrel
  clear HV H1 H3
  obtain ⟨z3, zf3⟩ := HW.out.c1 g3 4 (.bool b) (by simp)
  have hk7 : k ≤ 1000000 := by have := HN.out.2.2.k; omega
  by_cases hlt : k < n.keys.length
  ·have hlt2 : (k : Int) < (n.keys.length : Int) := by omega
   have ew : IntKind.i64.wrap ((k : Int) + 1) = ((k + 1 : Nat) : Int) := by rw [IntKind.wrap_i64]; omega
   have ew' : wrap64 ((k : Int) + 1) = ((k + 1 : Nat) : Int) := by unfold wrap64; omega
   obtain ⟨x, hx⟩ : ∃ x, n.keys[k]? = some x := ⟨_, List.getElem?_eq_getElem hlt⟩
   obtain ⟨ak, eak, hck⟩ := (HN.out.1.k _ _ HW.out (fun p hp => by simp [HN.out.2.1 p hp])).2 (by omega)
   subst eak
   have u0 := hck k _ (by rw [List.getElem?_map, hx]; rfl : (n.keys.map Value.string)[k]? = some (.string x))
   have hnx : okN b1 lo hi (n.keys.take (k + 1)) = (b && inK lo hi x) := by rw [List.take_add_one, hx, Option.toList_some, okN_snoc, HB.out]
   have HX := As (And.intro hnx hlt)
   clear hck hx hnx hlt hk
   cases b
   ·go_wp2_with fail
    go_roundg (n.keys.length - (k + 1))
    case measure => have := HX.out.2; omega
    case rel => exact ⟨k + 1, false, by first | rfl | go_num, rfl, HX.out.2, ⟨by rw [HX.out.1]; unfold inK; rfl⟩, ⟨HW.out.put2 0 (.bool false) rfl⟩⟩
   ·rcases Bool.eq_false_or_eq_true (bl x lo) with h1 | h1
    ·have g1 : Op.bytesLess x.toList lo.toList = true := h1
     have HF := As h1
     clear h1
     go_wp2_with fail
     go_roundg (n.keys.length - (k + 1))
     case measure => have := HX.out.2; omega
     case rel => exact ⟨k + 1, false, by first | rfl | go_num, rfl, HX.out.2, ⟨by rw [HX.out.1]; unfold inK; rw [HF.out]; rfl⟩, ⟨HW.out.put2 0 (.bool false) rfl⟩⟩
    ·have g1 : Op.bytesLess x.toList lo.toList = false := h1
     rcases Bool.eq_false_or_eq_true (emp hi) with h2 | h2
     ·have g2 : hi.toList = [] := by unfold emp at h2; simpa using h2
      have HF := As (And.intro h1 h2)
      clear h1 h2
      go_wp2_with fail
      go_roundg (n.keys.length - (k + 1))
      case measure => have := HX.out.2; omega
      case rel => exact ⟨k + 1, true, by first | rfl | go_num, rfl, HX.out.2, ⟨by rw [HX.out.1]; unfold inK; rw [HF.out.1, HF.out.2]; rfl⟩, ⟨HW.out.put2 0 (.bool true) rfl⟩⟩
     ·have g2 : ¬ hi.toList = [] := by unfold emp at h2; simpa using h2
      have g2b : hi.toList.isEmpty = false := h2
      rcases Bool.eq_false_or_eq_true (bl x hi) with h3 | h3
      ·have g3x : Op.bytesLess x.toList hi.toList = true := h3
       have HF := As (And.intro h1 (And.intro h2 h3))
       clear h1 h2 h3
       go_wp2_with fail
       go_roundg (n.keys.length - (k + 1))
       case measure => have := HX.out.2; omega
       case rel => exact ⟨k + 1, true, by first | rfl | go_num, rfl, HX.out.2, ⟨by rw [HX.out.1]; unfold inK; rw [HF.out.1, HF.out.2.1, HF.out.2.2]; rfl⟩, ⟨HW.out.put2 0 (.bool true) rfl⟩⟩
      ·have g3x : Op.bytesLess x.toList hi.toList = false := h3
       have HF := As (And.intro h1 (And.intro h2 h3))
       clear h1 h2 h3
       go_wp2_with fail
       go_roundg (n.keys.length - (k + 1))
       case measure => have := HX.out.2; omega
       case rel => exact ⟨k + 1, false, by first | rfl | go_num, rfl, HX.out.2, ⟨by rw [HX.out.1]; unfold inK; rw [HF.out.1, HF.out.2.1, HF.out.2.2]; rfl⟩, ⟨HW.out.put2 0 (.bool false) rfl⟩⟩
  ·have hge : ¬ (k : Int) < (n.keys.length : Int) := by omega
   have hkk : k = n.keys.length := by omega
   have HE := As (show okN b1 lo hi n.keys = b by have := HB.out; rw [hkk, List.take_length] at this; exact this)
   clear hkk hlt hk hk7
   rw [HE.out] at HC2
   obtain ⟨y0, y1, y2, y3, -, -, -, -⟩ := HW.out.c4 g7 59 (.bool n.leaf) (.int .i64 n.ver) (.slice ka n.keys.length kc) (.slice ra n.refs.length rc) (by simp)
   obtain ⟨z4, zf4⟩ := HW.out.c1 g4 3 (.int .i64 dp) (by simp)
   rcases Bool.eq_false_or_eq_true n.leaf with hlf | hlf
   ·have HLf := As hlf
    rw [hlf] at y0
    clear hlf
    by_cases hd : dp < 0
    ·have HDp := As hd
     go_upto_region 11 with (fail)
     obtain ⟨W5, hW, hM⟩ : ∃ W, W = _ ∧ Hv w0 W (cb g7 59 #[.bool n.leaf, .int .i64 n.ver, .slice ka n.keys.length kc, .slice ra n.refs.length rc] :: cb g5 3 #[.int .i64 (cnt + 1)] :: cb g3 4 #[.bool b] :: cb g4 3 #[.int .i64 d] :: Q) := ⟨_, rfl, HW.out.put3 0 (.int .i64 d) rfl⟩
     rw [← hW]
     have H5 := As hM
     clear hW hM y0 y1 y2 y3 z3 zf3 z4 zf4
     obtain ⟨z3, zf3⟩ := H5.out.c1 g3 4 (.bool b) (by simp)
     obtain ⟨z4, zf4⟩ := H5.out.c1 g4 3 (.int .i64 d) (by simp)
     cases b
     ·go_wp2_with fail
      go_end0
      refine ⟨rfl, ?_⟩
      have hF := (H5.out.put2 0 (.bool false) rfl).tail
      rw [← HC2.out]
      unfold chkN chb Chk.dp1
      simp only [HLf.out, if_true, if_pos (show dp < 0 by have := HDp.out; omega), Bool.false_and]
      exact hF
     ·go_wp2_with fail
      go_end0
      refine ⟨rfl, ?_⟩
      have hF := (H5.out.put2 0 (.bool true) rfl).tail
      rw [← HC2.out]
      unfold chkN chb Chk.dp1
      simp only [HLf.out, if_true, if_pos (show dp < 0 by have := HDp.out; omega), decide_true, Bool.true_and]
      exact hF
    ·have HDp := As hd
     cases b
     ·go_wp2_with fail
      go_end0
      refine ⟨rfl, ?_⟩
      have hF := (HW.out.put2 0 (.bool false) rfl).tail
      rw [← HC2.out]
      unfold chkN chb Chk.dp1
      simp only [HLf.out, if_true, if_neg (show ¬ dp < 0 by have := HDp.out; omega), Bool.false_and]
      exact hF
     ·by_cases he : dp = d
      ·have he2 : (dp == d) = true := by simp [he]
       have HEq := As he
       clear he
       go_wp2_with fail
       go_end0
       refine ⟨rfl, ?_⟩
       have hF := (HW.out.put2 0 (.bool true) rfl).tail
       rw [← HC2.out]
       unfold chkN chb Chk.dp1
       simp only [HLf.out, if_true, if_neg (show ¬ dp < 0 by have := HDp.out; omega), Bool.true_and]
       rw [show decide (dp = d) = true from by simp [HEq.out]]
       exact hF
      ·have he2 : (dp == d) = false := by simp [he]
       have HEq := As he
       clear he
       go_wp2_with fail
       go_end0
       refine ⟨rfl, ?_⟩
       have hF := (HW.out.put2 0 (.bool false) rfl).tail
       rw [← HC2.out]
       unfold chkN chb Chk.dp1
       simp only [HLf.out, if_true, if_neg (show ¬ dp < 0 by have := HDp.out; omega), Bool.true_and]
       rw [show decide (dp = d) = false from by simp [HEq.out]]
       exact hF
   ·have HLf := As hlf
    rw [hlf] at y0
    clear hlf
    go_wp2_with fail
    refine bodyPost_ret (results_none rfl _ _ _) rfl ⟨rfl, ?_⟩
    rw [← HC2.out]
    unfold chkN chb
    simp only [HLf.out, Bool.false_eq_true, if_false]
    exact HW.out.tail
theorem chkF.calls {g3 g4 g5 : Nat} {cnt dp : Int} {Q : List Ob} (hv : Hv w0 w (cb g5 3 #[.int .i64 cnt] :: cb g3 4 #[.bool false] :: cb g4 3 #[.int .i64 dp] :: Q)) (hRQ : ∀ p ∈ R, p ∈ Q) {n : Nd.Nd} {ka : Option Addr} {kc : Nat} {ra : Option Addr} {rc : Nat} (hn : NR w0 R n ka kc ra rc) (hs : Nd.Sm n) (hc0 : 0 ≤ cnt) (hc : cnt ≤ 1000000) (d : Int) (lo hi : ByteArray) {c2 : Chk} (hc2 : chkN n ⟨cnt, false, dp⟩ d (okN false lo hi n.keys) = c2) :
  Calls Try.prog 125 #[.agg #[.bool n.leaf, .int .i64 n.ver, .slice ka n.keys.length kc, .slice ra n.refs.length rc], .int .i64 d, .string lo, .string hi, .pointer (some ⟨g5, 0, none⟩), .pointer (some ⟨g3, 0, none⟩), .pointer (some ⟨g4, 0, none⟩)] w fun e w' => e = .returned (.tuple #[]) ∧ Hv w0 w' (chb g3 g4 g5 c2 ++ Q) := by
 have hu59 := Try.underlying59
 have hu57 := Try.underlying57
 have hu31 := Try.underlying31
 have HV := As (show Hv w0 (w.alloc (.cells #[.bool n.leaf, .int .i64 n.ver, .slice ka n.keys.length kc, .slice ra n.refs.length rc] 59)) (cb w.heap.size 59 #[.bool n.leaf, .int .i64 n.ver, .slice ka n.keys.length kc, .slice ra n.refs.length rc] :: cb g5 3 #[.int .i64 cnt] :: cb g3 4 #[.bool false] :: cb g4 3 #[.int .i64 dp] :: Q) from hv.alloc _)
 have HN := As (And.intro hn (And.intro hRQ hs))
 have HC2 := As hc2
 have ewc : wrap64 (cnt + 1) = cnt + 1 := by unfold wrap64; omega
 clear hv hn hRQ hs hc0 hc hc2
 obtain ⟨y0, y1, y2, y3, -, -, -, -⟩ := HV.out.c4 w.heap.size 59 (.bool n.leaf) (.int .i64 n.ver) (.slice ka n.keys.length kc) (.slice ra n.refs.length rc) (by simp)
 obtain ⟨z5, zf5⟩ := HV.out.c1 g5 3 (.int .i64 cnt) (by simp)
 go_enter Try.func125, Try.ntmps125
 go_upto_region 2 with (fail)
 obtain ⟨W1, hW, hM⟩ : ∃ W, W = _ ∧ Hv w0 W (cb w.heap.size 59 #[.bool n.leaf, .int .i64 n.ver, .slice ka n.keys.length kc, .slice ra n.refs.length rc] :: cb g5 3 #[.int .i64 (cnt + 1)] :: cb g3 4 #[.bool false] :: cb g4 3 #[.int .i64 dp] :: Q) := ⟨_, rfl, HV.out.put1 0 (.int .i64 (cnt + 1)) rfl⟩
 rw [← hW]
 have H1 := As hM
 clear hW hM y0 y1 y2 y3 z5 zf5 ewc
 generalize w.heap.size = g7 at H1 HV ⊢
 obtain ⟨y0, y1, y2, y3, -, -, -, -⟩ := H1.out.c4 g7 59 (.bool n.leaf) (.int .i64 n.ver) (.slice ka n.keys.length kc) (.slice ra n.refs.length rc) (by simp)
 obtain ⟨z3, zf3⟩ := H1.out.c1 g3 4 (.bool false) (by simp)
 have HB1 := As trivial
 go_upto_region 3 with (fail)
 obtain ⟨W3, hW, hM⟩ : ∃ W, W = _ ∧ Hv w0 W (cb g7 59 #[.bool n.leaf, .int .i64 n.ver, .slice ka n.keys.length kc, .slice ra n.refs.length rc] :: cb g5 3 #[.int .i64 (cnt + 1)] :: cb g3 4 #[.bool false] :: cb g4 3 #[.int .i64 dp] :: Q) := ⟨_, rfl, H1.out.put2 0 (.bool false) rfl⟩
 rw [← hW]
 have H3 := As hM
 clear hW hM z3 zf3
 clear y0 y1 y2 y3
 obtain ⟨y0, y1, y2, y3, -, -, -, -⟩ := H3.out.c4 g7 59 (.bool n.leaf) (.int .i64 n.ver) (.slice ka n.keys.length kc) (.slice ra n.refs.length rc) (by simp)
 go_wp2_with fail
 clear y0 y1 y2 y3
 go_loopg [23] n.keys.length (fun kq v23 wr => ∃ (k : Nat) (b : Bool), v23 = .int .i64 (k : Int) ∧ kq = n.keys.length - k ∧ k ≤ n.keys.length ∧ Aside0 (okN false lo hi (n.keys.take k) = b) ∧ Aside0 (Hv w0 wr (cb g7 59 #[.bool n.leaf, .int .i64 n.ver, .slice ka n.keys.length kc, .slice ra n.refs.length rc] :: cb g5 3 #[.int .i64 (cnt + 1)] :: cb g3 4 #[.bool b] :: cb g4 3 #[.int .i64 dp] :: Q)))
 case atStart => exact ⟨0, false, rfl, rfl, Nat.zero_le _, ⟨rfl⟩, H3⟩
 case round =>
  obtain ⟨k, b, rfl, rfl, hk, HB, HW⟩ := hrel
  clear HV H1 H3
  obtain ⟨z3, zf3⟩ := HW.out.c1 g3 4 (.bool b) (by simp)
  have hk7 : k ≤ 1000000 := by have := HN.out.2.2.k; omega
  by_cases hlt : k < n.keys.length
  ·have hlt2 : (k : Int) < (n.keys.length : Int) := by omega
   have ew : IntKind.i64.wrap ((k : Int) + 1) = ((k + 1 : Nat) : Int) := by rw [IntKind.wrap_i64]; omega
   have ew' : wrap64 ((k : Int) + 1) = ((k + 1 : Nat) : Int) := by unfold wrap64; omega
   obtain ⟨x, hx⟩ : ∃ x, n.keys[k]? = some x := ⟨_, List.getElem?_eq_getElem hlt⟩
   obtain ⟨ak, eak, hck⟩ := (HN.out.1.k _ _ HW.out (fun p hp => by simp [HN.out.2.1 p hp])).2 (by omega)
   subst eak
   have u0 := hck k _ (by rw [List.getElem?_map, hx]; rfl : (n.keys.map Value.string)[k]? = some (.string x))
   have hnx : okN false lo hi (n.keys.take (k + 1)) = (b && inK lo hi x) := by rw [List.take_add_one, hx, Option.toList_some, okN_snoc, HB.out]
   have HX := As (And.intro hnx hlt)
   clear hck hx hnx hlt hk
   cases b
   ·go_wp2_with fail
    go_roundg (n.keys.length - (k + 1))
    case measure => have := HX.out.2; omega
    case rel => exact ⟨k + 1, false, by first | rfl | go_num, rfl, HX.out.2, ⟨by rw [HX.out.1]; unfold inK; rfl⟩, ⟨HW.out.put2 0 (.bool false) rfl⟩⟩
   ·rcases Bool.eq_false_or_eq_true (bl x lo) with h1 | h1
    ·have g1 : Op.bytesLess x.toList lo.toList = true := h1
     have HF := As h1
     clear h1
     go_wp2_with fail
     go_roundg (n.keys.length - (k + 1))
     case measure => have := HX.out.2; omega
     case rel => exact ⟨k + 1, false, by first | rfl | go_num, rfl, HX.out.2, ⟨by rw [HX.out.1]; unfold inK; rw [HF.out]; rfl⟩, ⟨HW.out.put2 0 (.bool false) rfl⟩⟩
    ·have g1 : Op.bytesLess x.toList lo.toList = false := h1
     rcases Bool.eq_false_or_eq_true (emp hi) with h2 | h2
     ·have g2 : hi.toList = [] := by unfold emp at h2; simpa using h2
      have HF := As (And.intro h1 h2)
      clear h1 h2
      go_wp2_with fail
      go_roundg (n.keys.length - (k + 1))
      case measure => have := HX.out.2; omega
      case rel => exact ⟨k + 1, true, by first | rfl | go_num, rfl, HX.out.2, ⟨by rw [HX.out.1]; unfold inK; rw [HF.out.1, HF.out.2]; rfl⟩, ⟨HW.out.put2 0 (.bool true) rfl⟩⟩
     ·have g2 : ¬ hi.toList = [] := by unfold emp at h2; simpa using h2
      have g2b : hi.toList.isEmpty = false := h2
      rcases Bool.eq_false_or_eq_true (bl x hi) with h3 | h3
      ·have g3x : Op.bytesLess x.toList hi.toList = true := h3
       have HF := As (And.intro h1 (And.intro h2 h3))
       clear h1 h2 h3
       go_wp2_with fail
       go_roundg (n.keys.length - (k + 1))
       case measure => have := HX.out.2; omega
       case rel => exact ⟨k + 1, true, by first | rfl | go_num, rfl, HX.out.2, ⟨by rw [HX.out.1]; unfold inK; rw [HF.out.1, HF.out.2.1, HF.out.2.2]; rfl⟩, ⟨HW.out.put2 0 (.bool true) rfl⟩⟩
      ·have g3x : Op.bytesLess x.toList hi.toList = false := h3
       have HF := As (And.intro h1 (And.intro h2 h3))
       clear h1 h2 h3
       go_wp2_with fail
       go_roundg (n.keys.length - (k + 1))
       case measure => have := HX.out.2; omega
       case rel => exact ⟨k + 1, false, by first | rfl | go_num, rfl, HX.out.2, ⟨by rw [HX.out.1]; unfold inK; rw [HF.out.1, HF.out.2.1, HF.out.2.2]; rfl⟩, ⟨HW.out.put2 0 (.bool false) rfl⟩⟩
  ·have hge : ¬ (k : Int) < (n.keys.length : Int) := by omega
   have hkk : k = n.keys.length := by omega
   have HE := As (show okN false lo hi n.keys = b by have := HB.out; rw [hkk, List.take_length] at this; exact this)
   clear hkk hlt hk hk7
   rw [HE.out] at HC2
   obtain ⟨y0, y1, y2, y3, -, -, -, -⟩ := HW.out.c4 g7 59 (.bool n.leaf) (.int .i64 n.ver) (.slice ka n.keys.length kc) (.slice ra n.refs.length rc) (by simp)
   obtain ⟨z4, zf4⟩ := HW.out.c1 g4 3 (.int .i64 dp) (by simp)
   rcases Bool.eq_false_or_eq_true n.leaf with hlf | hlf
   ·have HLf := As hlf
    rw [hlf] at y0
    clear hlf
    by_cases hd : dp < 0
    ·have HDp := As hd
     go_upto_region 11 with (fail)
     obtain ⟨W5, hW, hM⟩ : ∃ W, W = _ ∧ Hv w0 W (cb g7 59 #[.bool n.leaf, .int .i64 n.ver, .slice ka n.keys.length kc, .slice ra n.refs.length rc] :: cb g5 3 #[.int .i64 (cnt + 1)] :: cb g3 4 #[.bool b] :: cb g4 3 #[.int .i64 d] :: Q) := ⟨_, rfl, HW.out.put3 0 (.int .i64 d) rfl⟩
     rw [← hW]
     have H5 := As hM
     clear hW hM y0 y1 y2 y3 z3 zf3 z4 zf4
     obtain ⟨z3, zf3⟩ := H5.out.c1 g3 4 (.bool b) (by simp)
     obtain ⟨z4, zf4⟩ := H5.out.c1 g4 3 (.int .i64 d) (by simp)
     cases b
     ·go_wp2_with fail
      go_end0
      refine ⟨rfl, ?_⟩
      have hF := (H5.out.put2 0 (.bool false) rfl).tail
      rw [← HC2.out]
      unfold chkN chb Chk.dp1
      simp only [HLf.out, if_true, if_pos (show dp < 0 by have := HDp.out; omega), Bool.false_and]
      exact hF
     ·go_wp2_with fail
      go_end0
      refine ⟨rfl, ?_⟩
      have hF := (H5.out.put2 0 (.bool true) rfl).tail
      rw [← HC2.out]
      unfold chkN chb Chk.dp1
      simp only [HLf.out, if_true, if_pos (show dp < 0 by have := HDp.out; omega), decide_true, Bool.true_and]
      exact hF
    ·have HDp := As hd
     cases b
     ·go_wp2_with fail
      go_end0
      refine ⟨rfl, ?_⟩
      have hF := (HW.out.put2 0 (.bool false) rfl).tail
      rw [← HC2.out]
      unfold chkN chb Chk.dp1
      simp only [HLf.out, if_true, if_neg (show ¬ dp < 0 by have := HDp.out; omega), Bool.false_and]
      exact hF
     ·by_cases he : dp = d
      ·have he2 : (dp == d) = true := by simp [he]
       have HEq := As he
       clear he
       go_wp2_with fail
       go_end0
       refine ⟨rfl, ?_⟩
       have hF := (HW.out.put2 0 (.bool true) rfl).tail
       rw [← HC2.out]
       unfold chkN chb Chk.dp1
       simp only [HLf.out, if_true, if_neg (show ¬ dp < 0 by have := HDp.out; omega), Bool.true_and]
       rw [show decide (dp = d) = true from by simp [HEq.out]]
       exact hF
      ·have he2 : (dp == d) = false := by simp [he]
       have HEq := As he
       clear he
       go_wp2_with fail
       go_end0
       refine ⟨rfl, ?_⟩
       have hF := (HW.out.put2 0 (.bool false) rfl).tail
       rw [← HC2.out]
       unfold chkN chb Chk.dp1
       simp only [HLf.out, if_true, if_neg (show ¬ dp < 0 by have := HDp.out; omega), Bool.true_and]
       rw [show decide (dp = d) = false from by simp [HEq.out]]
       exact hF
   ·have HLf := As hlf
    rw [hlf] at y0
    clear hlf
    go_wp2_with fail
    refine bodyPost_ret (results_none rfl _ _ _) rfl ⟨rfl, ?_⟩
    rw [← HC2.out]
    unfold chkN chb
    simp only [HLf.out, Bool.false_eq_true, if_false]
    exact HW.out.tail
end
section
variable {w0 w w1 : World} {L L' R : List Ob} {K : Nat × Nat × Nat} {t : Tm} {on : Value}
theorem chkS_cnt (c : Chk) (v : Vis) : (chkS c v).cnt = c.cnt + 1 := by
 unfold chkS chkN
 split <;> rfl
theorem fold_cnt : ∀ (p : List Vis) (c : Chk), (p.foldl chkS c).cnt = c.cnt + p.length
 | [], c => by simp
 | v :: p, c => by
  rw [List.foldl_cons, fold_cnt p, chkS_cnt, List.length_cons]
  omega
def chk0 : Chk := ⟨0, true, -1⟩
def JC (g3 g4 g5 : Nat) (p : List Vis) (X : List Ob) : Prop := X = chb g3 g4 g5 (p.foldl chkS chk0)
theorem checkCB {g3 g4 g5 m : Nat} (hm : m ≤ 1000000) (W : World) (B X : List Ob) (p : List Vis) (n : Nd.Nd) (d : Int) (lo hi : ByteArray) (ka : Option Addr) (kc : Nat) (ra : Option Addr) (rc : Nat) (hM : Mt w0 W K t on R (B ++ (X ++ L))) (hJ : JC g3 g4 g5 p X) (hc : Nd.Sm n) (hp : p.length < m) (hn : NR w0 R n ka kc ra rc) :
  Calls Try.prog 125 #[.agg #[.bool n.leaf, .int .i64 n.ver, .slice ka n.keys.length kc, .slice ra n.refs.length rc], .int .i64 d, .string lo, .string hi, .pointer (some ⟨g5, 0, none⟩), .pointer (some ⟨g3, 0, none⟩), .pointer (some ⟨g4, 0, none⟩)] W fun e w' => e = .returned (.tuple #[]) ∧ ∃ X', JC g3 g4 g5 (p ++ [⟨n, d, lo, hi⟩]) X' ∧ Mt w0 w' K t on R (B ++ (X' ++ L)) := by
 unfold JC at hJ
 subst hJ
 obtain ⟨c, hc0⟩ : ∃ c, p.foldl chkS chk0 = c := ⟨_, rfl⟩
 rw [hc0] at hM
 have hcnt : c.cnt = p.length := by rw [← hc0, fold_cnt]; simp [chk0]
 obtain ⟨Q, hq, hRQ, back⟩ := hM.lensY (X := chb g3 g4 g5 c)
 have e1 : (p ++ [(⟨n, d, lo, hi⟩ : Vis)]).foldl chkS chk0 = chkS c ⟨n, d, lo, hi⟩ := by rw [List.foldl_append, hc0]; rfl
 have fin : ∀ (e : Ending) (w' : World), (e = .returned (.tuple #[]) ∧ Hv w0 w' (chb g3 g4 g5 (chkS c ⟨n, d, lo, hi⟩) ++ Q)) → e = .returned (.tuple #[]) ∧ ∃ X', JC g3 g4 g5 (p ++ [⟨n, d, lo, hi⟩]) X' ∧ Mt w0 w' K t on R (B ++ (X' ++ L)) := fun e w' ⟨h1, h2⟩ => ⟨h1, _, by unfold JC; rw [e1], back w' _ h2⟩
 obtain ⟨cnt, ok, dp⟩ := c
 have hcnt2 : cnt = p.length := hcnt
 cases ok
 ·exact (chkF.calls (cnt := cnt) (dp := dp) (Q := Q) hq hRQ hn hc (by omega) (by omega) d lo hi (c2 := chkS ⟨cnt, false, dp⟩ ⟨n, d, lo, hi⟩) rfl).mono fin
 ·exact (chkT.calls (cnt := cnt) (dp := dp) (Q := Q) hq hRQ hn hc (by omega) (by omega) d lo hi (c2 := chkS ⟨cnt, true, dp⟩ ⟨n, d, lo, hi⟩) rfl).mono fin
theorem tcheck.calls (h : Mt w0 w K t on R L) {hh m : Nat} (hm : m ≤ 1000000) (hok : WOk t Nd.Sm hh t.root) (hlen : (visits t hh t.root 0 ⟨#[]⟩ ⟨#[]⟩).length ≤ m) (hhm : hh ≤ 1000000) (hg : t.gone.length ≤ 1000000) {c : Chk} (hcc : (visits t hh t.root 0 ⟨#[]⟩ ⟨#[]⟩).foldl chkS chk0 = c) {b : Bool} (hb : (c.ok && decide ((t.p.held : Int) - t.gone.length = c.cnt)) = b) :
  Calls Try.prog 70 #[.pointer (some ⟨K.1, 0, none⟩)] w fun e w' => e = .returned (.bool b) ∧ Mt w0 w' K t on R L := by
 have HB := As hb
 clear hb
 have hu33 := Try.underlying33
 have hu160 := Try.underlying160
 have hmf : ∀ (fn : Fn) (first cap : Array Value) (w : World), (Instr.makeFunc fn first cap).run Try.prog w = .ok (.func fn first cap) w := fun _ _ _ _ => rfl
 have HM0 : Mt w0 (((w.alloc (.cells #[.bool true] 4)).alloc (.cells #[.int .i64 (-1)] 3)).alloc (.cells #[.int .i64 0] 3)) K t on R (cb (w.heap.size + 1 + 1) 3 #[.int .i64 0] :: cb (w.heap.size + 1) 3 #[.int .i64 (-1)] :: cb w.heap.size 4 #[.bool true] :: L) := by
  have := ((h.alloc (.cells #[.bool true] 4)).alloc (.cells #[.int .i64 (-1)] 3)).alloc (.cells #[.int .i64 0] 3)
  simpa [cb] using this
 have HM := As (show Mt w0 _ K t on R ([] ++ (chb w.heap.size (w.heap.size + 1) (w.heap.size + 1 + 1) chk0 ++ L)) from HM0.permL (List.Perm.cons _ (List.Perm.swap _ _ _)))
 have HH := As (And.intro hok (And.intro hlen (And.intro hcc (And.intro hm (And.intro hhm hg)))))
 clear h hok hlen hcc hm hhm hg HM0
 obtain ⟨c0, c1, c2, -, -, -, -⟩ := HM.out.cells
 go_enter Try.func70, Try.ntmps70
 go_upto_region 6 with (first
  | (go_at_call 122; go_loud (refine (walkC.calls (J := JC w.heap.size (w.heap.size + 1) (w.heap.size + 1 + 1)) (C := Nd.Sm) (m := m) (checkCB HH.out.2.2.2.1) hh t.root 0 ⟨#[]⟩ ⟨#[]⟩ [] _ [] _ HH.out.1 HM.out rfl (by simpa using HH.out.2.1) (Int.le_refl _) (by have := HH.out.2.2.2.2.1; omega)).mono ?_; rintro e2 w2 ⟨rfl, X, hX, hh2⟩; unfold JC at hX; simp only [List.nil_append, HH.out.2.2.1] at hX hh2; subst hX; have H2 := As hh2; clear hh2))
  | (go_at_call 68; go_loud (refine (nodes.calls H2.out HH.out.2.2.2.2.2).mono ?_; rintro e3 w3 ⟨rfl, hh3⟩; have H3 := As (show Mt w0 w3 K t on R (cb (w.heap.size + 1 + 1) 3 #[.int .i64 c.cnt] :: cb w.heap.size 4 #[.bool c.ok] :: cb (w.heap.size + 1) 3 #[.int .i64 c.dp] :: L) from hh3); clear hh3)))
 clear c0 c1 c2
 obtain ⟨x3, -⟩ := H3.out.other.c1 w.heap.size 4 (.bool c.ok) (by simp)
 obtain ⟨x5, -⟩ := H3.out.other.c1 (w.heap.size + 1 + 1) 3 (.int .i64 c.cnt) (by simp)
 rcases Bool.eq_false_or_eq_true c.ok with ho | ho
 ·rw [ho] at x3 HB
  by_cases he : (t.p.held : Int) - t.gone.length = c.cnt
  ·have he2 : ((t.p.held : Int) - t.gone.length == c.cnt) = true := by simp [he]
   have hb : b = true := by rw [← HB.out, decide_eq_true he]; rfl
   subst hb
   clear he HB ho
   go_wp2_with fail
   exact bodyPost_ret (v := .bool true) (by simp [results, Try.results70, go_sem]) rfl ⟨rfl, H3.out.tail.tail.tail⟩
  ·have he2 : ((t.p.held : Int) - t.gone.length == c.cnt) = false := by simp [he]
   have hb : b = false := by rw [← HB.out, decide_eq_false he]; rfl
   subst hb
   clear he HB ho
   go_wp2_with fail
   exact bodyPost_ret (v := .bool false) (by simp [results, Try.results70, go_sem]) rfl ⟨rfl, H3.out.tail.tail.tail⟩
 ·rw [ho] at x3 HB
  have hb : b = false := by rw [← HB.out]; rfl
  subst hb
  clear HB ho
  go_wp2_with fail
  exact bodyPost_ret (v := .bool false) (by simp [results, Try.results70, go_sem]) rfl ⟨rfl, H3.out.tail.tail.tail⟩
end
end Go.Proofs.Ytglbcfkmaamhaaa.Tr
namespace Go.Proofs.Ytglbcfkmaamhaaa.Tr
open Go Go.RowKit Go.Proofs.YtglbcfkmaamhaaaW.PrintWords Go.Proofs.Ytglbcfkmaamhaaa.Hv Go.Proofs.Ytglbcfkmaamhaaa.Arm Go.Proofs.Ytglbcfkmaamhaaa.Nd Go.Proofs.Ytglbcfkmaamhaaa.ArN
section
theorem asc_asc2 : ∀ {l : List ByteArray}, asc l = true → Asc l
 | [], _ => List.Pairwise.nil
 | [a], _ => List.pairwise_singleton _ _
 | a :: b :: l, h => by
  simp only [asc, Bool.and_eq_true] at h
  have h2 : Asc (b :: l) := asc_asc2 h.2
  refine List.pairwise_cons.2 ⟨fun z hz => ?_, h2⟩
  rcases List.mem_cons.1 hz with rfl | hz
  ·exact h.1
  ·exact less_trans _ _ _ h.1 ((List.pairwise_cons.1 h2).1 z hz)
def bdB (t : Tm) (m : Nat) : Bool := t.ns.all fun n => Nat.ble n.keys.length m && Nat.ble n.refs.length m
theorem bd_of {t : Tm} {m : Nat} (h : bdB t m = true) : Bd t m := fun n hn => by
 have := List.all_eq_true.1 h n hn
 simp only [Bool.and_eq_true] at this
 exact ⟨Nat.le_of_ble_eq_true this.1, Nat.le_of_ble_eq_true this.2⟩
def okB (n : Nd.Nd) : Bool := Nat.ble n.keys.length 1000000 && (Nat.ble n.refs.length 1000000 && asc n.keys)
theorem ok_of {n : Nd.Nd} (h : okB n = true) : Nd.Ok n := by
 unfold okB at h
 simp only [Bool.and_eq_true] at h
 exact ⟨Nat.le_of_ble_eq_true h.1, Nat.le_of_ble_eq_true h.2.1, asc_asc2 h.2.2⟩
end
end Go.Proofs.Ytglbcfkmaamhaaa.Tr
section
namespace Go.Proofs.Ytglbcfkmaamhaaa.ArR
open Go Go.RowKit Go.Proofs.YtglbcfkmaamhaaaW.PrintWords Go.Proofs.YtglbcfkmaamhaaaW.PrintLast Go.Proofs.YtglbcfkmaamhaaaW.PrintMore Go.Proofs.Ytglbcfkmaamhaaa.Hv Go.Proofs.Ytglbcfkmaamhaaa.Arm
def XP (x : List Value) : Prop := ∃ (x0 : ByteArray) (x1 : Int) (x2 : ByteArray), x = [.string x0, .int .i64 x1, .string x2]
def AL (g sb : Nat) (bv : Value) (B : List Ob) (s : Ar) : List Ob :=
 cb g 207 #[.slice (some ⟨sb, 0, none⟩) s.n s.n, bv, .int .i64 s.ever, .int .i64 (s.held : Int)] :: cb sb 210 (flat s.slots) :: B
def Arn (w0 w : World) (g sb : Nat) (s : Ar) (L : List Ob) : Prop :=
 ∃ bv B, Hv w0 w (AL g sb bv B s ++ L) ∧ Gr 3 1 bv s.back.length (nums .i64 s.back) B ∧ s.Ok 3 XP
namespace Arn
variable {w0 w w1 : World} {g sb : Nat} {s : Ar} {L L' : List Ob}
theorem call (h : Arn w0 w g sb s L) (hb : Below w.heap.size w w1) : Arn w0 w1 g sb s L := by
 obtain ⟨bv, B, h1, h2, h3⟩ := h
 exact ⟨bv, B, h1.call hb, h2, h3⟩
theorem drewN (h : Arn w0 w g sb s L) (n : Nat) : Arn w0 (w.drewN n) g sb s L := h.call (pw_below_drewN (Below.refl _ _) n)
theorem drew (h : Arn w0 w g sb s L) : Arn w0 w.drew g sb s L := h.call (below_drew1 (Below.refl _ _))
theorem bel (h : Arn w0 w g sb s L) : Below w0.heap.size w0 w := by
 obtain ⟨bv, B, h1, h2, h3⟩ := h
 exact h1.bel
theorem ok (h : Arn w0 w g sb s L) : s.Ok 3 XP := by
 obtain ⟨bv, B, h1, h2, h3⟩ := h
 exact h3
theorem perm (h : Arn w0 w g sb s L) (hp : L'.Perm L) : Arn w0 w g sb s L' := by
 obtain ⟨bv, B, h1, h2, h3⟩ := h
 exact ⟨bv, B, h1.perm (List.Perm.append_left _ hp), h2, h3⟩
theorem other (h : Arn w0 w g sb s L) : Hv w0 w L := by
 obtain ⟨bv, B, h1, h2, h3⟩ := h
 exact h1.right
theorem alloc (h : Arn w0 w g sb s L) (o : Obj) : Arn w0 (w.alloc o) g sb s ((w.heap.size, o) :: L) := by
 obtain ⟨bv, B, h1, h2, h3⟩ := h
 exact ⟨bv, B, (h1.alloc o).perm List.perm_middle, h2, h3⟩
theorem cells (h : Arn w0 w g sb s L) : ∃ bv, (∀ i v, #[.slice (some ⟨sb, 0, none⟩) s.n s.n, bv, .int .i64 s.ever, .int .i64 (s.held : Int)][i]? = some v → w.cell? ⟨g, i, none⟩ = some v) ∧
  (∀ i j : Nat, i < s.n → j < 5 → w.cell? ⟨sb, i * 5 + j, none⟩ = (s.slot i).cells[j]?) := by
 obtain ⟨bv, B, h1, h2, h3⟩ := h
 refine ⟨bv, fun i v hv => h1.cell (g := g) (t := 207) (by simp [AL]) i hv, fun i j hi hj => ?_⟩
 have := blk_cell (h1.box (cb sb 210 (flat s.slots)) (by simp [AL])) (i * 5 + j)
 rw [this]
 exact h3.cell (i := (i : Int)) (by simpa using hi) j hj
end Arn
variable {w0 w w1 : World} {g sb : Nat} {s : Ar} {L L' : List Ob}
theorem room.calls (h : Arn w0 w g sb s L) : Calls Try.prog 130 #[.pointer (some ⟨g, 0, none⟩)] w fun e w' => e = .returned (.int .i64 s.room) ∧ Drawn0 w w' := by
 obtain ⟨bv, hc, _⟩ := h.cells
 have c0 := hc 0 _ rfl
 have c3 := hc 3 _ rfl
 have hn := h.ok.most
 have hh := s.held_le
 have hu := Try.underlying207
 have e : IntKind.i64.wrap ((s.n : Int) - (s.held : Int)) = s.room := by unfold Ar.room; rw [IntKind.wrap_i64]; omega
 have e' : wrap64 ((s.n : Int) - (s.held : Int)) = s.room := by unfold Ar.room wrap64; omega
 clear hc h hn hh
 go_enter Try.func130, Try.ntmps130
 go_wp2
 go_quiet (fail)
 go_wp2
 go_ret
 exact ⟨by simp, ⟨⟨_, rfl⟩⟩⟩
def at_ (s : Ar) (sb : Nat) (i q : Int) : Option Addr := if s.has i q then some ⟨sb, i.toNat * 5, none⟩ else none
theorem apart (h : Arn w0 w g sb s L) : ¬ g = sb ∧ ¬ sb = g ∧ ¬ g = w.heap.size ∧ ¬ sb = w.heap.size := by
 obtain ⟨bv, B, h1, h2, h3⟩ := h
 have h4 := h1.apart (i := 0) (j := 1) (p := cb g 207 #[.slice (some ⟨sb, 0, none⟩) s.n s.n, bv, .int .i64 s.ever, .int .i64 (s.held : Int)]) (q := cb sb 210 (flat s.slots)) rfl rfl (by omega)
 exact ⟨h4, fun e => h4 e.symm, h1.ne (o := .cells #[.slice (some ⟨sb, 0, none⟩) s.n s.n, bv, .int .i64 s.ever, .int .i64 (s.held : Int)] 207) (by simp [AL]), h1.ne (o := .cells (flat s.slots) 210) (by simp [AL])⟩
theorem at.calls (h : Arn w0 w g sb s L) (i q : Int) : Calls Try.prog 149 #[.pointer (some ⟨g, 0, none⟩), .agg #[.int .i64 i, .int .i64 q]] w fun e w' => e = .returned (.pointer (at_ s sb i q)) ∧ Below w.heap.size w w' := by
 obtain ⟨bv, hc, hs⟩ := h.cells
 have c0 : ∀ o, (w.alloc o).cell? ⟨g, 0, none⟩ = some (.slice (some ⟨sb, 0, none⟩) s.n s.n) := fun o => pw_cell_below (below_alloc (Below.refl _ _) o) (hc 0 _ rfl)
 have hn := h.ok.most
 obtain ⟨n1, n2, n3, n4⟩ := apart h
 have hu := Try.underlying207
 have huE := Try.underlying210
 have huP := Try.underlying186
 have huR := Try.underlying33
 by_cases g0 : i < 0
 ·have d0 : decide (i < 0) = true := decide_eq_true g0
  have e : at_ s sb i q = none := by simp [at_, Ar.has]; omega
  clear hc hs h g0
  go_enter Try.func149, Try.ntmps149
  go_wp2
  go_quiet (fail)
  go_wp2
  go_ret
  exact ⟨by simp [e], by (repeat apply pw_below_drewN); exact below_alloc (Below.refl _ _) _⟩
 ·have d0 : decide (i < 0) = false := decide_eq_false g0
  by_cases g1 : (s.n : Int) ≤ i
  ·have d1 : decide ((s.n : Int) ≤ i) = true := decide_eq_true g1
   have e : at_ s sb i q = none := by simp [at_, Ar.has]; omega
   clear hc hs h g0 g1
   go_enter Try.func149, Try.ntmps149
   go_wp2
   go_quiet (fail)
   go_wp2
   go_ret
   exact ⟨by simp [e], by (repeat apply pw_below_drewN); exact below_alloc (Below.refl _ _) _⟩
  ·have d1 : decide ((s.n : Int) ≤ i) = false := decide_eq_false g1
   have b0 : 0 ≤ i := by omega
   have b1 : i < (s.n : Int) := by omega
   have b2 : i.toNat < s.n := by omega
   have cg : ∀ o, (w.alloc o).cell? _ = _ := fun o => pw_cell_below (below_alloc (Below.refl _ _) o) ((hs i.toNat (3) b2 (by omega)).trans (show _ = some (Value.int .i64 (s.slot i).gen) by simp only [Sl.cells, show s.slot (i.toNat : Int) = s.slot i from rfl]; rw [List.getElem?_append_right (by rw [h.ok.len _ (slot_mem b2)]; omega), h.ok.len _ (slot_mem b2)]; rfl))
   have ct : ∀ o, (w.alloc o).cell? _ = _ := fun o => pw_cell_below (below_alloc (Below.refl _ _) o) ((hs i.toNat (3 + 1) b2 (by omega)).trans (show _ = some (Value.bool (s.slot i).taken) by simp only [Sl.cells, show s.slot (i.toNat : Int) = s.slot i from rfl]; rw [List.getElem?_append_right (by rw [h.ok.len _ (slot_mem b2)]; omega), h.ok.len _ (slot_mem b2)]; rfl))
   by_cases g2 : (s.slot i).taken = true
   ·have d2 : (!(s.slot i).taken) = false := by simp [g2]
    by_cases g3 : (s.slot i).gen = q
    ·have e : at_ s sb i q = some ⟨sb, i.toNat * 5, none⟩ := by simp [at_, Ar.has, g2, g3, b0, b1]
     rw [g3] at cg
     rw [g2] at ct
     clear hc hs h g0 g1 b2 g2 g3 d2
     go_enter Try.func149, Try.ntmps149
     go_wp2
     go_quiet (fail)
     go_wp2
     go_quiet (fail)
     go_wp2
     go_quiet (fail)
     go_wp2
     go_ret
     exact ⟨by simp [e], by (repeat apply pw_below_drewN); exact below_alloc (Below.refl _ _) _⟩
    ·have e : at_ s sb i q = none := by simp [at_, Ar.has, g3]
     have d3 : ((s.slot i).gen != q) = true := by simp [g3]
     rw [g2] at ct
     clear hc hs h g0 g1 b2 g2 g3 d2
     go_enter Try.func149, Try.ntmps149
     go_wp2
     go_quiet (fail)
     go_wp2
     go_quiet (fail)
     go_wp2
     go_quiet (fail)
     go_wp2
     go_ret
     exact ⟨by simp [e], by (repeat apply pw_below_drewN); exact below_alloc (Below.refl _ _) _⟩
   ·have g2' : (s.slot i).taken = false := by simpa using g2
    have e : at_ s sb i q = none := by simp [at_, Ar.has, g2']
    rw [g2'] at ct
    clear hc hs h g0 g1 b2 g2 g2'
    go_enter Try.func149, Try.ntmps149
    go_wp2
    go_quiet (fail)
    go_wp2
    go_quiet (fail)
    go_wp2
    go_quiet (fail)
    go_wp2
    go_ret
    exact ⟨by simp [e], by (repeat apply pw_below_drewN); exact below_alloc (Below.refl _ _) _⟩
theorem slot_cells (h : Arn w0 w g sb s L) {i : Int} (b0 : 0 ≤ i) (b1 : i < s.n) (x0 : ByteArray) (x1 : Int) (x2 : ByteArray) (hx : (s.slot i).x = [.string x0, .int .i64 x1, .string x2]) : w.cell? ⟨sb, i.toNat * 5, none⟩ = some (.string x0) ∧ w.cell? ⟨sb, i.toNat * 5 + 1, none⟩ = some (.int .i64 x1) ∧ w.cell? ⟨sb, i.toNat * 5 + 2, none⟩ = some (.string x2) ∧ w.cell? ⟨sb, i.toNat * 5 + 3, none⟩ = some (.int .i64 (s.slot i).gen) ∧ w.cell? ⟨sb, i.toNat * 5 + 4, none⟩ = some (.bool (s.slot i).taken) := by
 obtain ⟨bv, hc, hs⟩ := h.cells
 have b2 : i.toNat < s.n := by omega
 have e : s.slot (i.toNat : Int) = s.slot i := rfl
 have hj : ∀ j, j < 5 → w.cell? ⟨sb, i.toNat * 5 + j, none⟩ = (s.slot i).cells[j]? := fun j hj => by rw [hs i.toNat j b2 hj, e]
 simp only [Sl.cells, hx] at hj
 exact ⟨(hj 0 (by omega)).trans rfl, (hj 1 (by omega)).trans rfl, (hj 2 (by omega)).trans rfl, (hj 3 (by omega)).trans rfl, (hj 4 (by omega)).trans rfl⟩
theorem get.calls (h : Arn w0 w g sb s L) (i q : Int) (hq : s.has i q = true) (x0 : ByteArray) (x1 : Int) (x2 : ByteArray) (hx : (s.slot i).x = [.string x0, .int .i64 x1, .string x2]) : Calls Try.prog 138 #[.pointer (some ⟨g, 0, none⟩), .agg #[.int .i64 i, .int .i64 q]] w fun e w' => e = .returned (.tuple #[.agg #[.string x0, .int .i64 x1, .string x2], .bool true]) ∧ Below w.heap.size w w' := by
 have ea : at_ s sb i q = some ⟨sb, i.toNat * 5, none⟩ := by simp [at_, hq]
 obtain ⟨b0, b1, _⟩ := Ar.has_lt hq
 have HH := As (show Arn w0 _ g sb s (cb (w.heap.size + 1) 126 #[.string ⟨#[]⟩, .int .i64 0, .string ⟨#[]⟩] :: cb w.heap.size 33 #[.int .i64 i, .int .i64 q] :: L) by have := (h.alloc (.cells #[.int .i64 i, .int .i64 q] 33)).alloc (.cells #[.string ⟨#[]⟩, .int .i64 0, .string ⟨#[]⟩] 126); simpa [cb] using this)
 have HX0 := As (show Hv w _ [cb (w.heap.size + 1) 126 #[.string ⟨#[]⟩, .int .i64 0, .string ⟨#[]⟩], cb w.heap.size 33 #[.int .i64 i, .int .i64 q]] by have := ((Hv.start w).alloc (.cells #[.int .i64 i, .int .i64 q] 33)).alloc (.cells #[.string ⟨#[]⟩, .int .i64 0, .string ⟨#[]⟩] 126); simpa [cb] using this)
 have huE := Try.underlying210
 have huQ := Try.underlying208
 have hu126 := Try.underlying126
 clear h
 go_enter Try.func138, Try.ntmps138
 go_wp2_with (go_at_call 149; go_loud (refine (at.calls HH.out i q).mono ?_); rintro e1 w1 ⟨rfl, hb⟩; have HX := As (HX0.out.call hb); obtain ⟨sc0, sc1, sc2, sc3, sc4⟩ := slot_cells (HH.out.call hb) b0 b1 x0 x1 x2 hx; obtain ⟨q0, q1, q2, g0, g1, g2⟩ := HX.out.c3 (w.heap.size + 1) 126 (.string ⟨#[]⟩) (.int .i64 0) (.string ⟨#[]⟩) List.mem_cons_self; clear hb; simp only [ea])
 obtain ⟨wg, hw, hg⟩ : ∃ wg, wg = _ ∧ Hv w wg [cb (w.heap.size + 1) 126 #[.string x0, .int .i64 x1, .string x2], cb w.heap.size 33 #[.int .i64 i, .int .i64 q]] := ⟨_, rfl, (Hv.put0 (Hv.put0 (Hv.put0 HX.out 0 (.string x0) rfl) 1 (.int .i64 x1) rfl) 2 (.string x2) rfl)⟩
 rw [← hw]
 obtain ⟨e0, e1, e2, -, -, -⟩ := hg.c3 (w.heap.size + 1) 126 (.string x0) (.int .i64 x1) (.string x2) List.mem_cons_self
 exact bodyPost_ret (v := .tuple #[.agg #[.string x0, .int .i64 x1, .string x2], .bool true]) (by simp [results, Try.results138, go_sem, e0, e1, e2, hu126]) rfl ⟨rfl, hg.bel⟩
theorem getNo.calls (h : Arn w0 w g sb s L) (i q : Int) (hq : s.has i q = false) : Calls Try.prog 138 #[.pointer (some ⟨g, 0, none⟩), .agg #[.int .i64 i, .int .i64 q]] w fun e w' => e = .returned (.tuple #[.agg #[.string ⟨#[]⟩, .int .i64 0, .string ⟨#[]⟩], .bool false]) ∧ Below w.heap.size w w' := by
 have ea : at_ s sb i q = none := by simp [at_, hq]
 have HH := As (show Arn w0 _ g sb s (cb (w.heap.size + 1) 126 #[.string ⟨#[]⟩, .int .i64 0, .string ⟨#[]⟩] :: cb w.heap.size 33 #[.int .i64 i, .int .i64 q] :: L) by have := (h.alloc (.cells #[.int .i64 i, .int .i64 q] 33)).alloc (.cells #[.string ⟨#[]⟩, .int .i64 0, .string ⟨#[]⟩] 126); simpa [cb] using this)
 have HX0 := As (show Hv w _ [cb (w.heap.size + 1) 126 #[.string ⟨#[]⟩, .int .i64 0, .string ⟨#[]⟩], cb w.heap.size 33 #[.int .i64 i, .int .i64 q]] by have := ((Hv.start w).alloc (.cells #[.int .i64 i, .int .i64 q] 33)).alloc (.cells #[.string ⟨#[]⟩, .int .i64 0, .string ⟨#[]⟩] 126); simpa [cb] using this)
 have huQ := Try.underlying208
 have hu126 := Try.underlying126
 clear h
 go_enter Try.func138, Try.ntmps138
 go_upto_region 4 with (go_at_call 149; go_loud (refine (at.calls HH.out i q).mono ?_); rintro e1 w1 ⟨rfl, hb⟩; have HX := As (HX0.out.call hb); obtain ⟨q0, q1, q2, g0, g1, g2⟩ := HX.out.c3 (w.heap.size + 1) 126 (.string ⟨#[]⟩) (.int .i64 0) (.string ⟨#[]⟩) List.mem_cons_self; clear hb; simp only [ea])
 have hne := HX.out.ne (g := w.heap.size + 1) (o := .cells #[.string ⟨#[]⟩, .int .i64 0, .string ⟨#[]⟩] 126) List.mem_cons_self
 have hne' : ¬ _ = w.heap.size + 1 := fun e => hne e.symm
 have HX := As (HX.out.skip (.cells #[.string ⟨#[]⟩, .int .i64 0, .string ⟨#[]⟩] 126))
 clear q0 q1 q2 g0 g1 g2
 obtain ⟨q0, q1, q2, g0, g1, g2⟩ := HX.out.c3 (w.heap.size + 1) 126 (.string ⟨#[]⟩) (.int .i64 0) (.string ⟨#[]⟩) List.mem_cons_self
 go_wp2_with fail
 obtain ⟨wg, hw, hg⟩ : ∃ wg, wg = _ ∧ Hv w wg [cb (w.heap.size + 1) 126 #[.string ⟨#[]⟩, .int .i64 0, .string ⟨#[]⟩], cb w.heap.size 33 #[.int .i64 i, .int .i64 q]] := ⟨_, rfl, (Hv.put0 (Hv.put0 (Hv.put0 HX.out 0 (.string ⟨#[]⟩) rfl) 1 (.int .i64 0) rfl) 2 (.string ⟨#[]⟩) rfl)⟩
 rw [← hw]
 obtain ⟨e0, e1, e2, -, -, -⟩ := hg.c3 (w.heap.size + 1) 126 (.string ⟨#[]⟩) (.int .i64 0) (.string ⟨#[]⟩) List.mem_cons_self
 exact bodyPost_ret (v := .tuple #[.agg #[.string ⟨#[]⟩, .int .i64 0, .string ⟨#[]⟩], .bool false]) (by simp [results, Try.results138, go_sem, e0, e1, e2, hu126]) rfl ⟨rfl, hg.bel⟩
structure Opn (w0 w : World) (g sb : Nat) (hd : Array Value) (B : List Ob) (rows : List (List Value)) (i : Nat) (r : List Value) (L : List Ob) : Prop where
 hv : Hv w0 w (cb g 207 hd :: cb sb 210 (rows.set i r).flatten.toArray :: (B ++ L))
 all : ∀ q ∈ rows, q.length = 5
 len : r.length = 5
 lt : i < rows.length
namespace Opn
variable {hd : Array Value} {B : List Ob} {rows : List (List Value)} {i : Nat} {r : List Value}
theorem put (h : Opn w0 w g sb hd B rows i r L) {j : Nat} {v : Value} (hj : j < 5) : Opn w0 (w.setCell ⟨sb, i * 5 + j, none⟩ v) g sb hd B rows i (r.set j v) L := by
 refine ⟨h.hv.put1 _ _ ?_, h.all, by rw [List.length_set]; exact h.len, h.lt⟩
 rw [flat_put (len_set h.all _ _ h.len) i j r v (by rw [List.getElem?_set_self h.lt]) hj, List.set_set]
theorem header {a b c d : Value} (h : Opn w0 w g sb #[a, b, c, d] B rows i r L) : (w.cell? ⟨g, 0, none⟩ = some a ∧ w.cell? ⟨g, 1, none⟩ = some b ∧ w.cell? ⟨g, 2, none⟩ = some c ∧ w.cell? ⟨g, 3, none⟩ = some d) ∧ w.frozen? ⟨g, 1, none⟩ = false ∧ w.frozen? ⟨g, 2, none⟩ = false ∧ w.frozen? ⟨g, 3, none⟩ = false :=
 have hm : cb g 207 #[a, b, c, d] ∈ cb g 207 #[a, b, c, d] :: cb sb 210 (rows.set i r).flatten.toArray :: (B ++ L) := List.mem_cons_self
 ⟨⟨h.hv.cell hm 0 rfl, h.hv.cell hm 1 rfl, h.hv.cell hm 2 rfl, h.hv.cell hm 3 rfl⟩, h.hv.frozen hm 1, h.hv.frozen hm 2, h.hv.frozen hm 3⟩
theorem puth (h : Opn w0 w g sb hd B rows i r L) {j : Nat} {v : Value} : Opn w0 (w.setCell ⟨g, j, none⟩ v) g sb (hd.setIfInBounds j v) B rows i r L := ⟨h.hv.put0 _ _ rfl, h.all, h.len, h.lt⟩
theorem putL {b t : Nat} {cs : Array Value} (h : Opn w0 w g sb hd B rows i r (L' ++ cb b t cs :: L)) {j : Nat} {v : Value} : Opn w0 (w.setCell ⟨b, j, none⟩ v) g sb hd B rows i r (L' ++ cb b t (cs.setIfInBounds j v) :: L) := by
 refine ⟨?_, h.all, h.len, h.lt⟩
 have h1 := h.hv.put (B.length + L'.length + 2) (g := b) (t := t) (cs := cs) (by simp [List.getElem?_append_right]) j v
 simpa [List.set_append_right] using h1
theorem drew (h : Opn w0 w g sb hd B rows i r L) : Opn w0 w.drew g sb hd B rows i r L := ⟨h.hv.drew, h.all, h.len, h.lt⟩
theorem drewN (h : Opn w0 w g sb hd B rows i r L) (n : Nat) : Opn w0 (w.drewN n) g sb hd B rows i r L := ⟨h.hv.drewN n, h.all, h.len, h.lt⟩
theorem call (h : Opn w0 w g sb hd B rows i r L) (hb : Below w.heap.size w w1) : Opn w0 w1 g sb hd B rows i r L := ⟨h.hv.call hb, h.all, h.len, h.lt⟩
theorem close (h : Opn w0 w g sb hd B rows i r (L' ++ L)) {s : Ar} {bv : Value} (e1 : hd = #[.slice (some ⟨sb, 0, none⟩) s.n s.n, bv, .int .i64 s.ever, .int .i64 (s.held : Int)]) (e2 : rows.set i r = s.slots.map Sl.cells) (e3 : Gr 3 1 bv s.back.length (nums .i64 s.back) B) (e4 : s.Ok 3 XP) : Arn w0 w g sb s L := by
 refine ⟨bv, B, ?_, e3, e4⟩
 have h1 := h.hv
 rw [e1, e2] at h1
 refine h1.drop ?_
 show List.Sublist (_ :: _ :: (B ++ L)) _
 exact List.Sublist.cons_cons _ (List.Sublist.cons_cons _ (List.Sublist.append_left (List.sublist_append_right L' L) B))
end Opn
theorem Arn.opened (h : Arn w0 w g sb s L) (i : Int) (hi : i.toNat < s.n) : ∃ bv B, Opn w0 w g sb #[.slice (some ⟨sb, 0, none⟩) s.n s.n, bv, .int .i64 s.ever, .int .i64 (s.held : Int)] B (s.slots.map Sl.cells) i.toNat (s.slot i).cells L ∧ Gr 3 1 bv s.back.length (nums .i64 s.back) B := by
 obtain ⟨bv, B, h1, h2, h3⟩ := h
 refine ⟨bv, B, ⟨?_, h3.cells, by simp [Sl.cells, h3.len _ (slot_mem hi)], by simpa [Ar.n] using hi⟩, h2⟩
 have e : (s.slots.map Sl.cells).set i.toNat (s.slot i).cells = s.slots.map Sl.cells := by
  rw [← List.map_set, set_same (slot_eq hi)]
 rw [e]
 exact h1
theorem slot_raw (h : Arn w0 w g sb s L) {i : Int} (b0 : 0 ≤ i) (b1 : i < s.n) (y0 : ByteArray) (y1 : Int) (y2 : ByteArray) (hx : (s.slot i).x = [.string y0, .int .i64 y1, .string y2]) : w.cell? ⟨sb, i.toNat * 5, none⟩ = some (.string y0) ∧ w.cell? ⟨sb, i.toNat * 5 + 1, none⟩ = some (.int .i64 y1) ∧ w.cell? ⟨sb, i.toNat * 5 + 2, none⟩ = some (.string y2) ∧ w.cell? ⟨sb, i.toNat * 5 + 3, none⟩ = some (.int .i64 (s.slot i).gen) ∧ w.cell? ⟨sb, i.toNat * 5 + 4, none⟩ = some (.bool (s.slot i).taken) ∧ w.frozen? ⟨sb, i.toNat * 5, none⟩ = false ∧ w.frozen? ⟨sb, i.toNat * 5 + 1, none⟩ = false ∧ w.frozen? ⟨sb, i.toNat * 5 + 2, none⟩ = false ∧ w.frozen? ⟨sb, i.toNat * 5 + 3, none⟩ = false ∧ w.frozen? ⟨sb, i.toNat * 5 + 4, none⟩ = false := by
 obtain ⟨bv, hc, hs⟩ := h.cells
 have b2 : i.toNat < s.n := by omega
 have e : s.slot (i.toNat : Int) = s.slot i := rfl
 have hj : ∀ j, j < 5 → w.cell? ⟨sb, i.toNat * 5 + j, none⟩ = (s.slot i).cells[j]? := fun j hj => by rw [hs i.toNat j b2 hj, e]
 obtain ⟨bv, B, h1, h2, h3⟩ := h
 have hf := fun j => h1.frozen (g := sb) (t := 210) (cs := flat s.slots) (by simp [AL]) j
 simp only [Sl.cells, hx] at hj
 exact ⟨(hj 0 (by omega)).trans rfl, (hj 1 (by omega)).trans rfl, (hj 2 (by omega)).trans rfl, (hj 3 (by omega)).trans rfl, (hj 4 (by omega)).trans rfl, hf _, hf _, hf _, hf _, hf _⟩
theorem set.calls (h : Arn w0 w g sb s L) (i q : Int) (hq : s.has i q = true) (x0 : ByteArray) (x1 : Int) (x2 : ByteArray) : Calls Try.prog 137 #[.pointer (some ⟨g, 0, none⟩), .agg #[.int .i64 i, .int .i64 q], .agg #[.string x0, .int .i64 x1, .string x2]] w fun e w' => e = .returned (.bool true) ∧ Arn w0 w' g sb (s.put i [.string x0, .int .i64 x1, .string x2]) L := by
 have ea : at_ s sb i q = some ⟨sb, i.toNat * 5, none⟩ := by simp [at_, hq]
 obtain ⟨b0, b1, b2, _⟩ := Ar.has_lt hq
 have hi : i.toNat < s.n := by omega
 obtain ⟨y0, y1, y2, hy⟩ := h.ok.shp _ (slot_mem hi)
 have HY := As hy
 have HH := As h
 have huE := Try.underlying210
 have huQ := Try.underlying208
 clear h hy
 go_enter Try.func137, Try.ntmps137
 go_wp2_with (go_at_call 149; refine (at.calls ((HH.out.alloc (.cells #[.int .i64 i, .int .i64 q] 33)).alloc (.cells #[.string x0, .int .i64 x1, .string x2] 126)) i q).mono ?_; rintro e1 w1 ⟨rfl, hb⟩; have HA := As (((HH.out.alloc (.cells #[.int .i64 i, .int .i64 q] 33)).alloc (.cells #[.string x0, .int .i64 x1, .string x2] 126)).call hb); obtain ⟨q0, q1, q2, g0, g1, g2⟩ := HA.out.other.c3 (w.heap.size + 1) 126 (.string x0) (.int .i64 x1) (.string x2) (by simp [cb]); obtain ⟨sc0, sc1, sc2, sc3, sc4, sf0, sf1, sf2, sf3, sf4⟩ := slot_raw HA.out b0 b1 _ _ _ HY.out; clear hb; simp only [ea])
 obtain ⟨bv, B, H1, H2⟩ := HA.out.opened i hi
 go_ret
 refine ⟨rfl, ?_⟩
 refine Opn.close (L' := [_, _]) (rows := s.slots.map Sl.cells) (i := i.toNat) (bv := bv) (Opn.put (j := 2) (v := .string x2) (Opn.put (j := 1) (v := .int .i64 x1) (Opn.put (j := 0) (v := .string x0) H1 (by omega)) (by omega)) (by omega)) ?_ ?_ H2 (HH.out.ok.put hq rfl ⟨_, _, _, rfl⟩)
 ·rw [Ar.held_put hq]
  simp [Ar.put, Ar.n]
 ·simp only [Ar.put, List.map_set]
  congr 1
  simp [Sl.cells, HY.out, b2]
theorem take0.calls (h : Arn w0 w g sb s L) (hr : s.room = 0) (x0 : ByteArray) (x1 : Int) (x2 : ByteArray) : Calls Try.prog 131 #[.pointer (some ⟨g, 0, none⟩), .agg #[.string x0, .int .i64 x1, .string x2]] w fun e w' => e = .returned (.tuple #[.agg #[.int .i64 0, .int .i64 0], .int .i64 20]) ∧ Below w.heap.size w w' := by
 have HH := As h
 have hu33 := Try.underlying33
 clear h
 go_enter Try.func131, Try.ntmps131
 go_wp2_with (go_at_call 130; refine (room.calls ((HH.out.alloc (.cells #[.string x0, .int .i64 x1, .string x2] 126)).alloc (.cells #[.int .i64 0, .int .i64 0] 33))).mono ?_; rintro e1 w1 ⟨rfl, ⟨n1, rfl⟩⟩; simp only [hr])
 exact bodyPost_ret (v := .tuple #[.agg #[.int .i64 0, .int .i64 0], .int .i64 20]) (by simp [results, Try.results131, go_sem]) rfl ⟨rfl, by repeat (first | exact Below.refl _ _ | apply pw_below_drewN | apply below_alloc | (refine Below.setCell ?_ (by simp) _))⟩
theorem take1.calls (h : Arn w0 w g sb s L) (hr : ¬ s.room = 0) (hk : s.back = []) (x0 : ByteArray) (x1 : Int) (x2 : ByteArray) : Calls Try.prog 131 #[.pointer (some ⟨g, 0, none⟩), .agg #[.string x0, .int .i64 x1, .string x2]] w fun e w' => e = .returned (.tuple #[.agg #[.int .i64 s.next, .int .i64 s.gen], .int .i64 0]) ∧ Arn w0 w' g sb (s.take [.string x0, .int .i64 x1, .string x2]) L := by
 have en : s.next = s.ever := by simp [Ar.next, hk]
 obtain ⟨b0, b1⟩ := h.ok.next hr
 rw [en] at b0 b1
 have hi : s.ever.toNat < s.n := by omega
 have dr : (s.room == 0) = false := by simp [hr]
 obtain ⟨y0, y1, y2, hy⟩ := h.ok.shp _ (slot_mem hi)
 have HY := As hy
 have HH := As h
 have huE := Try.underlying210
 have huA := Try.underlying207
 have hu33 := Try.underlying33
 have hu26 := Try.underlying26
 have hmost := h.ok.most
 have hheld := s.held_le
 have HR := As hr
 have EN := As en
 clear h hy hr en
 go_enter Try.func131, Try.ntmps131
 go_wp2_with fail
 refine (room.calls ((HH.out.alloc (.cells #[.string x0, .int .i64 x1, .string x2] 126)).alloc _)).mono ?_
 rintro e1 w1 ⟨rfl, ⟨n1, rfl⟩⟩
 have HA := As (show Arn w0 _ g sb s (cb (w.heap.size + 1) 33 #[.int .i64 0, .int .i64 0] :: cb w.heap.size 126 #[.string x0, .int .i64 x1, .string x2] :: L) by have := (HH.out.alloc (.cells #[.string x0, .int .i64 x1, .string x2] 126)).alloc (.cells #[.int .i64 0, .int .i64 0] 33); simpa [cb] using this)
 obtain ⟨bv, B, HO, HG⟩ := HA.out.opened s.ever hi
 obtain ⟨ad, c, rfl, hnc⟩ := HG.form
 have el : s.back.length = 0 := by simp [hk]
 rw [el] at HO
 obtain ⟨⟨h0, h1, h2, h3⟩, f1, f2, f3⟩ := HO.header
 obtain ⟨sc0, sc1, sc2, sc3, sc4, sf0, sf1, sf2, sf3, sf4⟩ := slot_raw HA.out b0 b1 _ _ _ HY.out
 obtain ⟨q0, q1, q2, g0, g1, g2⟩ := HA.out.other.c3 w.heap.size 126 (.string x0) (.int .i64 x1) (.string x2) (by simp [cb])
 have n7 := (apart HH.out).2.2
 have n8 : ¬ _ = g := fun e => n7.1 e.symm
 have n9 : ¬ _ = sb := fun e => n7.2 e.symm
 have n10 := n7.1
 have n11 := n7.2
 clear n7
 obtain ⟨n1, n2, n3, n4⟩ := apart (HH.out.alloc (.cells #[.string x0, .int .i64 x1, .string x2] 126))
 simp only [show ∀ o, (w.alloc o).heap.size = w.heap.size + 1 from fun o => by simp] at n3 n4
 have n5 : ¬ _ = g := fun e => n3 e.symm
 have n6 : ¬ _ = sb := fun e => n4 e.symm
 have HP := As HO
 have HC := As hnc
 have HK := As hk
 have HE := As el
 clear HO hnc hk el
 go_wp2_with fail
 refine bodyPost_ret (v := .tuple #[.agg #[.int .i64 s.ever, .int .i64 (wrap64 ((s.slot s.ever).gen + 1))], .int .i64 0]) (by simp [results, Try.results131, go_sem]) rfl ⟨by simp only [Ar.gen, EN.out], ?_⟩
 refine Opn.close (L' := [_, _]) (s := s.take [.string x0, .int .i64 x1, .string x2]) (rows := s.slots.map Sl.cells) (i := s.ever.toNat) (B := B) (bv := .slice ad 0 c) (Opn.putL (L' := []) (Opn.putL (L' := []) (Opn.puth (Opn.put (j := 3) (Opn.put (j := 4) ((Opn.put (j := 2) (v := .string x2) (Opn.put (j := 1) (v := .int .i64 x1) (Opn.put (j := 0) (v := .string x0) (Opn.puth (HP.out.drewN _)) (by omega)) (by omega)) (by omega))) (by omega)) (by omega))))) ?_ ?_ ?_ ?_
 ·have e1 := HH.out.ok.held_take HR.out [.string x0, .int .i64 x1, .string x2]
  simp [Ar.take, Ar.n, HK.out] at e1 ⊢
  omega
 ·simp only [Ar.take, List.map_set, EN.out]
  congr 1
  simp [Sl.cells, HY.out, Ar.gen, EN.out]
 ·have := HG
  simp only [HE.out] at this
  simpa [Ar.take, HK.out] using this
 ·exact HH.out.ok.take HR.out rfl ⟨_, _, _, rfl⟩
theorem take2.calls (h : Arn w0 w g sb s L) (hr : ¬ s.room = 0) (hk : ¬ s.back = []) (x0 : ByteArray) (x1 : Int) (x2 : ByteArray) : Calls Try.prog 131 #[.pointer (some ⟨g, 0, none⟩), .agg #[.string x0, .int .i64 x1, .string x2]] w fun e w' => e = .returned (.tuple #[.agg #[.int .i64 s.next, .int .i64 s.gen], .int .i64 0]) ∧ Arn w0 w' g sb (s.take [.string x0, .int .i64 x1, .string x2]) L := by
 obtain ⟨b0, b1⟩ := h.ok.next hr
 obtain ⟨k, hl⟩ : ∃ k, s.back.length = k + 1 := ⟨s.back.length - 1, by have : 0 < s.back.length := List.length_pos_iff.2 hk; omega⟩
 have hlast : s.back[k]? = some s.next := by
  simp only [Ar.next, if_neg hk]
  rw [List.getLastD_eq_getLast?, List.getLast?_eq_getElem?, hl]
  simp [hl]
 have hi : s.next.toNat < s.n := by omega
 have dr : (s.room == 0) = false := by simp [hr]
 have hkm : k ≤ 4096 := by have := h.ok.sum; have := h.ok.ever; have := h.ok.most; omega
 obtain ⟨y0, y1, y2, hy⟩ := h.ok.shp _ (slot_mem hi)
 have HY := As hy
 have HH := As h
 have huE := Try.underlying210
 have huA := Try.underlying207
 have hu33 := Try.underlying33
 have hu26 := Try.underlying26
 have hmost := h.ok.most
 have hheld := s.held_le
 have HR := As hr
 have HK := As hk
 clear h hy hr hk
 go_enter Try.func131, Try.ntmps131
 go_wp2_with fail
 refine (room.calls ((HH.out.alloc (.cells #[.string x0, .int .i64 x1, .string x2] 126)).alloc _)).mono ?_
 rintro e1 w1 ⟨rfl, ⟨n1, rfl⟩⟩
 have HA := As (show Arn w0 _ g sb s (cb (w.heap.size + 1) 33 #[.int .i64 0, .int .i64 0] :: cb w.heap.size 126 #[.string x0, .int .i64 x1, .string x2] :: L) by have := (HH.out.alloc (.cells #[.string x0, .int .i64 x1, .string x2] 126)).alloc (.cells #[.int .i64 0, .int .i64 0] 33); simpa [cb] using this)
 obtain ⟨bv, B, HO, HG⟩ := HA.out.opened s.next hi
 obtain ⟨ad, c, rfl, hnc⟩ := HG.form
 obtain ⟨gb, cur, rfl, rfl, hc1, hc2, hc3, hc4⟩ := HG.addr (by omega)
 have cb0 := (HO.hv.cell (g := gb) (t := 3) (cs := cur) (by simp) k ((hc4 k (by omega)).trans (show _ = some (Value.int .i64 s.next) by simp [nums, hlast])))
 have m1 := HO.hv.apart (i := 0) (j := 2) rfl rfl (by omega)
 have m2 := HO.hv.apart (i := 2) (j := 0) rfl rfl (by omega)
 rw [hl] at HO
 obtain ⟨⟨h0, h1, h2, h3⟩, f1, f2, f3⟩ := HO.header
 obtain ⟨sc0, sc1, sc2, sc3, sc4, sf0, sf1, sf2, sf3, sf4⟩ := slot_raw HA.out b0 b1 _ _ _ HY.out
 obtain ⟨q0, q1, q2, g0, g1, g2⟩ := HA.out.other.c3 w.heap.size 126 (.string x0) (.int .i64 x1) (.string x2) (by simp [cb])
 have n7 := (apart HH.out).2.2
 have n8 : ¬ _ = g := fun e => n7.1 e.symm
 have n9 : ¬ _ = sb := fun e => n7.2 e.symm
 have n10 := n7.1
 have n11 := n7.2
 clear n7
 obtain ⟨n1, n2, n3, n4⟩ := apart (HH.out.alloc (.cells #[.string x0, .int .i64 x1, .string x2] 126))
 simp only [show ∀ o, (w.alloc o).heap.size = w.heap.size + 1 from fun o => by simp] at n3 n4
 have n5 : ¬ _ = g := fun e => n3 e.symm
 have n6 : ¬ _ = sb := fun e => n4 e.symm
 have HP := As HO
 have HC := As hnc
 have HE := As hl
 have HL := As hlast
 clear HO hnc hl hc1 hc2 hc3 hc4 hlast
 have k1 : ((k : Int) < (k : Int) + 1) = True := eq_true (by omega)
 have k2 : (k : Int) ≤ (c : Int) := by have := HC.out; have := HE.out; omega
 have k3 : k ≤ c := by omega
 have k4 : k < k + 1 := by omega
 go_upto_region 6 with (fail)
 go_region
 all_goals go_wp2_with fail
 refine bodyPost_ret (v := .tuple #[.agg #[.int .i64 s.next, .int .i64 s.gen], .int .i64 0]) (by simp [results, Try.results131, go_sem, Ar.gen]) rfl ⟨rfl, ?_⟩
 refine Opn.close (L' := [_, _]) (s := s.take [.string x0, .int .i64 x1, .string x2]) (rows := s.slots.map Sl.cells) (i := s.next.toNat) (B := _) (bv := .slice (some ⟨gb, 0, none⟩) k c) (Opn.putL (L' := []) (Opn.putL (L' := []) (Opn.puth (Opn.put (j := 3) (Opn.put (j := 4) ((Opn.put (j := 2) (v := .string x2) (Opn.put (j := 1) (v := .int .i64 x1) (Opn.put (j := 0) (v := .string x0) (Opn.puth (HP.out.drewN _)) (by omega)) (by omega)) (by omega))) (by omega)) (by omega))))) ?_ ?_ ?_ ?_
 ·have e1 := HH.out.ok.held_take HR.out [.string x0, .int .i64 x1, .string x2]
  have hk := HK.out
  simp [Ar.take, Ar.n, hk] at e1 ⊢
  omega
 ·simp only [Ar.take, List.map_set]
  congr 1
  simp [Sl.cells, HY.out, Ar.gen]
 ·have hg := HG.take k (by have := HE.out; omega)
  have el : (s.take [.string x0, .int .i64 x1, .string x2]).back.length = k := by simp [Ar.take, HE.out]
  have ex : (nums .i64 s.back).take (k * 1) = nums .i64 (s.take [.string x0, .int .i64 x1, .string x2]).back := by
   simp [nums, Ar.take, List.dropLast_eq_take, HE.out]
  rw [el, ← ex]
  exact hg
 ·exact HH.out.ok.take HR.out rfl ⟨_, _, _, rfl⟩
end Go.Proofs.Ytglbcfkmaamhaaa.ArR
end
