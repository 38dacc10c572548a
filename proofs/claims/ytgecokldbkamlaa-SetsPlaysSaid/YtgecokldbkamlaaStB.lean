/- sets.Sets: Read and Node at what is there; Write; Own. No condition. -/
import Derived.Test.YtgecokldbkamlaaStA
set_option linter.unusedVariables false
set_option linter.unusedSimpArgs false
namespace Go.Proofs.Ytgecokldbkamlaa.St
open Go Go.RowKit Go.MapKept Go.Proofs.YtgecokldbkamlaaW.PrintWords Go.Proofs.YtgecokldbkamlaaW.PrintLast Go.Proofs.YtgecokldbkamlaaW.PrintMore Go.Proofs.Ytgecokldbkamlaa.Hv Go.Proofs.Ytgecokldbkamlaa.Mk Go.Proofs.Ytgecokldbkamlaa.Ka
variable {w0 w w1 : World} {g : Nat} {s : St} {L L' : List Ob}

set_option maxHeartbeats 4000000 in
set_option maxRecDepth 100000 in
theorem read.old (h : Sts w0 w g s L) (a b word : Int) {l1 l2 : List R3} {x : Int} (hs : s.reads = l1 ++ ((a, b), x) :: l2) :
    Calls Try.prog 19 #[.pointer (some ⟨g, 0, none⟩), .agg #[.int .i64 a, .int .i64 b], .int .i64 word] w fun e w' => e = .returned (.tuple #[]) ∧ Sts w0 w' g s L := by
  have hu63 := Try.underlying63
  have hu34 := Try.underlying34
  have HS := Aside0.mk (h.alloc (.cells #[.int .i64 a, .int .i64 b] 34)).tail
  obtain ⟨mr, ms, mw, or, os, ow, vr, vn, A, B, h1, h2, h3, h4, h5, h6⟩ := h
  have hk1 := h1.alloc (.cells #[.int .i64 a, .int .i64 b] 34)
  rw [hs, ixs_at] at h4
  have hlook : ∀ W : World, W.heap[mr]? = some or → _ := fun W hb => look_hasW (P := Try.prog) (mty := 60) (o := or) Try.underlying60 kl h4 ⟨a, b, rfl⟩ true mr W hb
  simp only [if_true, rkey] at hlook
  have hl0 := hlook _ (hk1.box (mr, or) (by simp))
  have hl1 := hlook _ (hk1.drew.box (mr, or) (by simp))
  obtain ⟨c0, c1, c2, c3, c4, -, -, -, -, -⟩ := hk1.c5 g 63 vr vn (.map (some mr)) (.map (some ms)) (.map (some mw)) (by simp)
  obtain ⟨y0, y1, -, -⟩ := hk1.c2 w.heap.size 34 _ _ List.mem_cons_self
  clear h1 h2 h3 h4 h5 h6 hk1 hlook hs c0 c1
  go_enter Try.func19, Try.ntmps19
  go_upto_region 2 with (fail)
  go_region
  go_wp2_with fail
  exact bodyPost_ret (v := .tuple #[]) (by simp [results, Try.results19, go_sem]) rfl ⟨rfl, HS.out.call (by repeat (first | exact Below.refl _ _ | apply below_drew1))⟩
set_option maxHeartbeats 4000000 in
set_option maxRecDepth 100000 in
theorem node.old (h : Sts w0 w g s L) (a b word : Int) {l1 l2 : List R3} {x : Int} (hs : s.nodes = l1 ++ ((a, b), x) :: l2) :
    Calls Try.prog 17 #[.pointer (some ⟨g, 0, none⟩), .agg #[.int .i64 a, .int .i64 b, .int .i64 word]] w fun e w' => e = .returned (.tuple #[]) ∧ Sts w0 w' g s L := by
  have hu63 := Try.underlying63
  have hu34 := Try.underlying34
  have hu38 := Try.underlying38
  have HS := Aside0.mk (h.alloc (.cells #[.int .i64 a, .int .i64 b, .int .i64 word] 38)).tail
  obtain ⟨mr, ms, mw, or, os, ow, vr, vn, A, B, h1, h2, h3, h4, h5, h6⟩ := h
  have hk1 := h1.alloc (.cells #[.int .i64 a, .int .i64 b, .int .i64 word] 38)
  rw [hs, ixs_at] at h5
  have hlook : ∀ W : World, W.heap[ms]? = some os → _ := fun W hb => look_hasW (P := Try.prog) (mty := 60) (o := os) Try.underlying60 kl h5 ⟨a, b, rfl⟩ true ms W hb
  simp only [if_true, rkey] at hlook
  have hl0 := hlook _ (hk1.box (ms, os) (by simp))
  have hl1 := hlook _ (hk1.drew.box (ms, os) (by simp))
  obtain ⟨c0, c1, c2, c3, c4, -, -, -, -, -⟩ := hk1.c5 g 63 vr vn (.map (some mr)) (.map (some ms)) (.map (some mw)) (by simp)
  obtain ⟨y0, y1, y2, -, -, -⟩ := hk1.c3 w.heap.size 38 _ _ _ List.mem_cons_self
  clear h1 h2 h3 h4 h5 h6 hk1 hlook hs c0 c1
  go_enter Try.func17, Try.ntmps17
  go_upto_region 2 with (fail)
  go_region
  go_wp2_with fail
  exact bodyPost_ret (v := .tuple #[]) (by simp [results, Try.results17, go_sem]) rfl ⟨rfl, HS.out.call (by repeat (first | exact Below.refl _ _ | apply below_drew1))⟩

theorem klS : KL Try.prog 9 (IsKey .string) := KL.plain Try.underlying9
theorem keyS (k : ByteArray) : IsKey .string (.string k) := by simp [IsKey]
theorem w_new {l : List Wr} {k : ByteArray} (h : ∀ x ∈ l, x.1 ≠ k) : ∀ p ∈ l.map wpr, p.1 ≠ Value.string k := by
  intro p hp
  obtain ⟨x, hx, rfl⟩ := List.mem_map.1 hp
  intro he
  simp only [wpr, Value.string.injEq] at he
  exact h x hx he
set_option maxHeartbeats 4000000 in
set_option maxRecDepth 100000 in
/-- What a store into the writes makes of the list: ws. -/
theorem write.any (h : Sts w0 w g s L) (k d : ByteArray) (a b : Int) (t : Bool) (ws : List Wr)
    (hup : ∀ (r : Nat) (ow : Obj), IsM (IsKey .string) ow (s.writes.map wpr) → ∃ o', (∀ W : World, W.heap[r]? = some ow → (Instr.mapUpdate 61 (.map (some r)) (.string k) (.agg #[.string k, .int .i64 a, .int .i64 b, .string d, .bool t])).run Try.prog W = .ok () (Go.ChangeMaps.setBlock W r o')) ∧ IsM (IsKey .string) o' (ws.map wpr)) :
    Calls Try.prog 20 #[.pointer (some ⟨g, 0, none⟩), .agg #[.string k, .int .i64 a, .int .i64 b, .string d, .bool t]] w fun e w' => e = .returned (.tuple #[]) ∧ Sts w0 w' g { s with writes := ws } L := by
  have hu63 := Try.underlying63
  have hu40 := Try.underlying40
  obtain ⟨mr, ms, mw, or, os, ow, vr, vn, A, B, h1, h2, h3, h4, h5, h6⟩ := h
  have hk1 := h1.alloc (.cells #[.string k, .int .i64 a, .int .i64 b, .string d, .bool t] 40)
  obtain ⟨o', hu, hIs⟩ := hup mw ow h6
  have hu0 := hu _ (hk1.box (mw, ow) (by simp))
  have hu1 := hu _ (hk1.drew.box (mw, ow) (by simp))
  obtain ⟨c0, c1, c2, c3, c4, -, -, -, -, -⟩ := hk1.c5 g 63 vr vn (.map (some mr)) (.map (some ms)) (.map (some mw)) (by simp)
  obtain ⟨y0, y1, y2, y3, y4, -, -, -, -, -⟩ := hk1.c5 w.heap.size 40 _ _ _ _ _ List.mem_cons_self
  have KK := Aside0.mk (And.intro h2 (And.intro h3 (And.intro h4 (And.intro h5 hIs))))
  have HV := Aside0.mk hk1
  clear h1 h2 h3 h4 h5 h6 hk1 hu hup hIs c0 c1 c2 c3
  go_enter Try.func20, Try.ntmps20
  go_upto_region 2 with (fail)
  go_region
  go_wp2_with fail
  go_end0
  refine ⟨rfl, mr, ms, mw, or, os, o', vr, vn, A, B, ?_, KK.out.1, KK.out.2.1, KK.out.2.2.1, KK.out.2.2.2.1, KK.out.2.2.2.2⟩
  have q := fun (W : World) (h : Hv w0 W ((w.heap.size, Obj.cells #[.string k, .int .i64 a, .int .i64 b, .string d, .bool t] 40) :: cb g 63 #[vr, vn, .map (some mr), .map (some ms), .map (some mw)] :: (mr, or) :: (ms, os) :: (mw, ow) :: (A ++ (B ++ L)))) => (h.turn 4 rfl o').tail
  first | exact q _ HV.out.drew | exact q _ HV.out
theorem write.new (h : Sts w0 w g s L) (k d : ByteArray) (a b : Int) (t : Bool) (hn : ∀ x ∈ s.writes, x.1 ≠ k) :
    Calls Try.prog 20 #[.pointer (some ⟨g, 0, none⟩), .agg #[.string k, .int .i64 a, .int .i64 b, .string d, .bool t]] w fun e w' => e = .returned (.tuple #[]) ∧ Sts w0 w' g { s with writes := s.writes ++ [(k, (a, b), d, t)] } L :=
  write.any h k d a b t _ fun r ow h6 => by
    obtain ⟨o', hu, hI⟩ := upd_newW (P := Try.prog) (mty := 61) Try.underlying61 klS h6 (keyS k) (w_new hn) (.agg #[.string k, .int .i64 a, .int .i64 b, .string d, .bool t]) r
    exact ⟨o', hu, by simpa [wpr, wval] using hI⟩
theorem write.old (h : Sts w0 w g s L) (k d : ByteArray) (a b : Int) (t : Bool) {l1 l2 : List Wr} {x : Rf × ByteArray × Bool} (hs : s.writes = l1 ++ (k, x) :: l2) :
    Calls Try.prog 20 #[.pointer (some ⟨g, 0, none⟩), .agg #[.string k, .int .i64 a, .int .i64 b, .string d, .bool t]] w fun e w' => e = .returned (.tuple #[]) ∧ Sts w0 w' g { s with writes := l1 ++ (k, (a, b), d, t) :: l2 } L :=
  write.any h k d a b t _ fun r ow h6 => by
    rw [hs, List.map_append, List.map_cons] at h6
    obtain ⟨o', hu, hI⟩ := upd_oldW (P := Try.prog) (mty := 61) (key := .string k) Try.underlying61 klS h6 (keyS k) (.agg #[.string k, .int .i64 a, .int .i64 b, .string d, .bool t]) r
    exact ⟨o', hu, by simpa [wpr, wval] using hI⟩
end Go.Proofs.Ytgecokldbkamlaa.St
