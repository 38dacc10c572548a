/- A text of this claim: parts TsG. No condition. -/
import Derived.Test.YtglbcfkmaamhaaaJG15
set_option linter.unusedVariables false
set_option linter.unusedSimpArgs false
set_option maxHeartbeats 16000000
set_option maxRecDepth 100000
namespace Go.Proofs.Ytglbcfkmaamhaaa.Tr
open Go Go.RowKit Go.Proofs.YtglbcfkmaamhaaaW.PrintWords Go.Proofs.Ytglbcfkmaamhaaa.Hv Go.Proofs.Ytglbcfkmaamhaaa.Arm Go.Proofs.Ytglbcfkmaamhaaa.Nd Go.Proofs.Ytglbcfkmaamhaaa.ArN
variable {w0 w w1 : World} {L L' R : List Ob} {K : Nat × Nat × Nat} {t : Tm} {on : Value}
theorem tput.calls (h : Mt w0 w K t on R L) (key : ByteArray) (r : Rf) {l : List (Rf × Nat)} {q : Rf} (hd : Dn t key t.root l q) (ho : Nd.Ok (t.at q)) {mb : Nat} (hb2 : 2 ≤ mb) (hbd : Bd t mb) (hbm : mb + l.length + 30 ≤ 1000000) :
  Calls Try.prog 66 #[.pointer (some ⟨K.1, 0, none⟩), .string key, .agg #[.int .i64 r.1, .int .i64 r.2]] w (TPutP w0 K L (t.putW key r l q)) := by
 cases hf : (t.find key q).2
 ·cases hr : t.roomFor (wayL l q)
  ·have e : t.putW key r l q = (t, [], 20) := by unfold Tm.putW; rw [hf, hr]; rfl
   rw [e]
   exact putT.full h key r hd ho (by omega) hf hr
  ·exact putT.ok h key r hd ho (by omega) (by omega) hf hr hb2 hbd hbm
 ·have e : t.putW key r l q = (t, [], 13) := by unfold Tm.putW; rw [hf]; rfl
  rw [e]
  exact putT.dup h key r hd ho (by omega) hf
end Go.Proofs.Ytglbcfkmaamhaaa.Tr
